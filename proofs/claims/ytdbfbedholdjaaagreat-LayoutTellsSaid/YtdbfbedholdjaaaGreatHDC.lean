/- No conditions. -/
import Derived.Test.YtdbfbedholdjaaaGreatHDB
import Derived.Laws.BytesString
import Derived.KernelRfl
import Derived.Laws.IdiomStrings
import Derived.Laws.CopyRow
import Derived.Sort.Grow
set_option linter.unusedVariables false
set_option linter.unusedSimpArgs false
set_option linter.unusedSectionVars false
set_option linter.constructorNameAsVariable false
namespace Go.Dl
variable [dO]
structure IsB (e:Int):Prop where
 lo:0≤e
 hi:e<256
def bAt (l:Bytes) (i j:Nat):C:=([.val (.int .u8 (Int.ofNat (l.getD i 0).toNat))]:List C).getD j .bot
section
variable {P:Program} {n:Nat} {A T R:Type} {go:T→St} {ab:A→Ex × St} {st dD:St} {m:Option (A ⊕ T)} {cs:List Code}
def aIG (n:Nat) (o:Oper) (st:St):Option Nat :=
 match o.guard,o.dst with
 | none,some t=>bif Nat.blt t n && lQ st t then some t else none
 | _,_=>none
def a0e (P:Program) (s:Sem Next) (Γ:j6) (S:Mem) (β:dG) (w:World) (d:D) (xs:List Obj):Prop :=
 ∃ u w' S' β',s.run P w = .ok (.value u) w'∧dR S' β' d u∧jL S S'∧kK β β'∧Core Γ S' β' w' xs
theorem eO.opN (k k':Nat) {ops:Array Oper} {l:List Oper} {t:Nat} {d:D} {xs:List Obj} (hk:(Nat.blt k l.length && Nat.beq k' (k+1))=true) (hi:aIG n (jQ l k) st=some t)
 (hg:∀ Γ S β a w,RR Γ S β a w n st→a0e P (execOp a.eval (jQ l k)) Γ S β w d xs)
 (h:eO P n ops (l.drop k') cs (st.put (some t) d xs []) m go ab):eO P n ops (l.drop k) cs st m go ab:=by
 rw[aC] at hk
 obtain ⟨hk,hk'⟩:=hk
 have hk':=aH hk'
 subst hk'
 rw[nZ hk]
 unfold aIG at hi
 split at hi
 ·rename_i t' hgd hd
  obtain ⟨hc,hi⟩:=bZ hi
  simp only[aA] at hi
  subst hi
  rw[aC,aW] at hc
  intro Γ S β a w hr q hq
  simp only[wpList,Region.wanted,hgd,if_true]
  left
  obtain ⟨u,w',S',β',hrun,hd1,hs,hb,nM⟩:=hg Γ S β a w hr
  simp only[Oper.wp,Oper.upon,hrun]
  rw[hd]
  exact h Γ S' β' _ w' (hr.put nM hs hb hc.1 hc.2 (g:=[]) (fun q hq=>by cases hq) (fun _=>hd1) (fun hno=>absurd (fun q hq=>by cases hq) hno)) q hq
 ·cases hi
theorem aSI {S:Mem} {β:dG} {l:Bytes} {i:Nat} {u:Value} (h:cV S β (bAt l i 0) u):u = .int .u8 (Int.ofNat (l.getD i 0).toNat):=h
theorem bV.aNu {f:FuncId} {args:List D} {mr:Option R} {res:R→D}
 (h:∀ S β w vs,dO.I w→fT S β args vs→∀ r,mr=some r→Calls P f vs.toArray w fun e w'=>∃ v,e = .returned v∧dR S β (res r) v∧Up w w'):bV P f args [] mr res (fun _=>[]):=by
 intro S β w vs hc hv r hr
 refine (h S β w vs hc.inv hv r hr).mono fun e w' ⟨v,he,hd,hu⟩=>⟨v,S,β,he,hd,fun o k ho _=>by simp at ho,hc.aJ2 hu.os hu.tape hu.output hu.size hu.block⟩
end
end Go.Dl

namespace Go.Dl
variable [dO]
def kX (ops:Array Oper):Array Bool→List Nat→Option (Array Bool)
 | listed,[]=>some listed
 | listed,i::r =>
   bif (Region.ready .any ops listed).contains i && (Region.free .any ops listed i && (ops[i]?).elim false fun o=>vU o.op && gH o.op) then kX ops (listed.setIfInBounds i true) r else none
def gI (P:Program) (n:Nat) (ops:Array Oper) {A T:Type} (fuel:Nat) (listed:Array Bool) (cs:List Code) (st:St) (m:Option (A ⊕ T)) (go:T→St) (ab:A→Ex × St):Prop :=
 ∀ Γ S β a w,RR Γ S β a w n st→∀ x,m=some x→wpAny P .any ops (Exit.then (wpL P cs (Post Γ n go ab x)) (Post Γ n go ab x)) fuel listed a w
section
variable {P:Program} {n:Nat} {ops:Array Oper}
theorem z8 {Q:Exit→Act→World→Prop} {Γ:j6} {S:Mem} {β:dG} {w:World} {fuel:Nat} {kB:Array Bool} {oZ:St} (hQ:∀ c a w,¬ Q (.panic c) a w) (hsel:Region.noSelect ops=true) :
 ∀ {is:List Nat} {listed:Array Bool} {st:St} {vs:List Bool} {a:Act},
 RR Γ S β a w n st→kX ops listed is=some kB→iG P n ops (opsOf ops is) st=some (vs,oZ)→(∀ b∈vs,b=true) →
 (∀ a',RR Γ S β a' w n oZ→wpAny P .any ops Q fuel kB a' w)→wpAny P .any ops Q (is.length+fuel) listed a w
 | [],listed,st,vs,a,hr,hf,he,hvs,hk=>by
   simp only[kX,aA] at hf
   subst hf
   simp only[opsOf,List.filterMap_nil,iG,aA,aI] at he
   obtain ⟨_,rfl⟩:=he
   rw[List.length_nil,Nat.zero_add]
   exact hk a hr
 | i::r,listed,st,vs,a,hr,hf,he,hvs,hk=>by
   unfold kX at hf
   obtain ⟨hc,hf⟩:=bZ hf
   simp only[aC] at hc
   obtain ⟨hrd,hfree,hq⟩:=hc
   cases ho:ops[i]? with
   | none=>rw[ho] at hq;cases hq
   | some o =>
     rw[ho] at hq
     simp only[Option.elim,aC] at hq
     obtain ⟨hp,hq⟩:=hq
     have zY:opsOf ops (i::r)=o::opsOf ops r:=by simp [opsOf,ho]
     rw[zY] at he
     unfold iG at he
     split at he
     ·rename_i v st1 h1
      split at he
      ·rename_i vs2 st3 h2
       simp only[aA,aI] at he
       obtain ⟨rfl,rfl⟩:=he
       have hv1:∀ b∈v,b=true:=fun b hb=>hvs b (List.mem_append_left _ hb)
       have hv2:∀ b∈vs2,b=true:=fun b hb=>hvs b (List.mem_append_right _ hb)
       rw[List.length_cons,show r.length+1+fuel=(r.length+fuel)+1 by omega]
       rcases jF hr h1 hv1 with ⟨hw,u,w',S',β',_,nF,hqq⟩ | ⟨hw,nF⟩
       ·obtain ⟨rfl,rfl,rfl,hrun⟩:=hqq hq
        exact wpAny_take ho hsel hfree hrd (fun c a w h=>absurd h (hQ c _ w)) (.inl ⟨hw,fun w2=>hrun w2 (.inl hp)⟩) (z8 hQ hsel nF hf h2 hv2 hk)
       ·exact wpAny_take ho hsel hfree hrd (fun c a w h=>absurd h (hQ c _ w)) (.inr ⟨hw,rfl⟩) (z8 hQ hsel nF hf h2 hv2 hk)
      ·cases he
     ·cases he
theorem xY {Q':Exit→Act→World→Prop}:∀ (js:List Nat) (listed:Array Bool) (a:Act) (w:World),xX .any ops listed js=true→(js.all fun j=>(ops[j]?).isSome)=true →
 wpList P ops Q' (opsOf ops js) a w→wpAny P .any ops Q' js.length listed a w
 | [],listed,a,w,hs,_,h=>⟨by simpa [xX] using hs,h⟩
 | j::r,listed,a,w,hs,hW,h=>by
   simp only[xX,aC,aB] at hs
   simp only[List.all_cons,aC] at hW
   refine ⟨fun h1=>(by rw[hs.1] at h1;cases h1),fun i hi=>?_⟩
   rw[hs.1] at hi
   have hik:i=j:=by simpa using hi
   subst hik
   obtain ⟨o,ho⟩:=bI.1 hW.1
   have zY:opsOf ops (i::r)=o::opsOf ops r:=by simp [opsOf,ho]
   rw[zY] at h
   have hw:wpOp P ops Q' i (wpList P ops Q' (opsOf ops r)) a w:=by unfold wpOp;simp only[ho];exact h
   exact wpOp_mono (fun a' w' h'=>xY r _ a' w' hs.2 (by rw[aN];simpa using hW.2) h') hw
variable {A T:Type} {go:T→St} {ab:A→Ex × St} {st:St} {m:Option (A ⊕ T)} {cs:List Code} {c:Code}
theorem Post.aNI {Γ:j6} {x:A ⊕ T} {K:Act→World→Prop}:∀ c a w,¬ Exit.then K (Post Γ n go ab x) (.panic c) a w:=by
 intro c a w h
 have h':Post Γ n go ab x (.panic c) a w:=h
 cases x with
 | inl t =>
   have:=h'.1
   cases hx:(ab t).1 <;> rw[hx] at this <;> cases this
 | inr t=>cases h'.1
theorem Ref.wA (id:Nat) (h:c = .region id (rg c) true) (hm:P.follows .mixedOrders=true)
 (hr:gI P n (rg c) (rg c).size (Array.replicate (rg c).size false) cs st m go ab):Ref P n (c::cs) st m go ab:=by
 rw[h]
 intro Γ S β a w nF x hx
 refine wp_region_any hm (hr Γ S β a _ ?_ x hx)
 exact ⟨nF.core.drew,nF.tm,nF.un,nF.size,nF.defers,nF.hand⟩
theorem gI.ev (is keep om:List Nat) {fuel fuel':Nat} {listed kB:Array Bool} {vs:List Bool} {dD:St} (sH:fuel=is.length+fuel')
 (hf:(bif Region.noSelect ops then kX ops listed is else none)=some kB) (he:iN P n ops (opsOf ops is) st keep om=some (vs,dD))
 (h:gI P n ops fuel' kB cs dD m go ab):gI P n ops fuel listed cs st (bY vs m) go ab:=by
 intro Γ S β a w hr x hx
 obtain ⟨hvs,hm⟩:=fI hx
 obtain ⟨hsel,hf⟩:=bZ hf
 subst sH
 unfold iN at he
 split at he
 ·rename_i vs2 oZ h2
  cases hk:oZ.keep keep om with
  | none=>rw[hk] at he;cases he
  | some st3 =>
    rw[hk] at he
    simp only[Option.map_some,aA,aI] at he
    obtain ⟨rfl,rfl⟩:=he
    exact z8 Post.aNI hsel hr hf h2 hvs fun a' h'=>h Γ S (fQ β om) a' w (gC h' hk) x hm
 ·cases he
theorem gI.evC (is keep om:List Nat) {fuel fuel':Nat} {listed:Array Bool} {vs:List Bool} {dD:St} (sH:fuel=is.length+fuel')
 (hf:(Region.noSelect ops && (kX ops listed is).isSome)=true) (he:iN P n ops (opsOf ops is) st keep om=some (vs,dD))
 (h:gI P n ops fuel' ((kX ops listed is).getD listed) cs dD m go ab):gI P n ops fuel listed cs st (bY vs m) go ab:=by
 rw[aC] at hf
 obtain ⟨l',hl⟩:=bI.1 hf.2
 rw[hl] at h
 exact gI.ev is keep om sH (by rw[hf.1,cond_true];exact hl) he h
theorem gI.aAa (is keep om:List Nat) {fuel fuel':Nat} {listed:Array Bool} {dD:St} (sH:fuel=is.length+fuel')
 (hf:(Region.noSelect ops && (kX ops listed is).isSome)=true) (he:iN P n ops (opsOf ops is) st keep om=some ([],dD))
 (h:gI P n ops fuel' ((kX ops listed is).getD listed) cs dD m go ab):gI P n ops fuel listed cs st m go ab :=
 fun Γ S β a w hr x hx=>gI.evC (vs:=[]) is keep om sH hf he h Γ S β a w hr x hx
theorem gI.tail (js:List Nat) {fuel:Nat} {listed:Array Bool} (sH:fuel=js.length) (hs:(xX .any ops listed js && js.all fun j=>(ops[j]?).isSome)=true)
 (h:eO P n ops ((opsOf ops js).drop 0) cs st m go ab):gI P n ops fuel listed cs st m go ab:=by
 intro Γ S β a w hr x hx
 rw[aC] at hs
 subst sH
 exact xY js listed a w hs.1 hs.2 (h Γ S β a w hr x hx)
theorem gI.toX (W:List Nat) {fuel:Nat} {listed:Array Bool} (h:cX P n ops (inW W) fuel listed cs st m go ab):gI P n ops fuel listed cs st m go ab :=
 fun Γ S β a w hr x hx=>aCc _ _ _ _ (h Γ S β a w hr x hx)
theorem gI.done {listed:Array Bool} (hs:(Region.ready .any ops listed).isEmpty=true) (h:Ref P n cs st m go ab):gI P n ops 0 listed cs st m go ab :=
 fun Γ S β a w hr x hx=>⟨by simpa using hs,h Γ S β a w hr x hx⟩
theorem gI.conv {fuel:Nat} {listed:Array Bool} {dD:St} (hc:Conv n st dD) (h:gI P n ops fuel listed cs dD m go ab):gI P n ops fuel listed cs st m go ab:=fun Γ S β a w hr x hx=>by
 obtain ⟨S',β',h'⟩:=hc Γ S β a w hr
 exact h Γ S' β' a w h' x hx
def bR {X Y:Type} (v:X) (f:X→Y):Y:=f v
theorem gI.a0f {X:Type} {v:X} {fuel:Nat} {listed:Array Bool} {stf:X→St} {mf:X→Option (A ⊕ T)} (h0:stf v=st) (h:∀ x,gI P n ops fuel listed cs (stf x) (mf x) go ab):gI P n ops fuel listed cs st (bR v mf) go ab:=h0 ▸ h v
theorem tI {n:Nat} {l h:Int} (hb:c5 n l h=true):h.toNat≤n:=by
 simp only[c5,aC,aB] at hb
 omega
theorem El.aCe (E:El UInt8) (hE:E.cs=fun x=>[.val (.int .u8 (Int.ofNat x.toNat))]) (xs s:Bytes) {n m:Nat} (hn:n=xs.length) (hm:m=s.length:=by rfl) (hd:E.d=0:=by rfl) (hw:E.w=1:=by rfl) :
 OLe (.row E.ty E.w (n+m) fun i j=>bif Nat.blt i n then E.at xs i j else (fun i _=>.val (.int .u8 (s.getD i 0).toNat)) (i - n) j) (E.row (xs++s)):=by
 subst hn hm
 refine OLe.row (by simp) fun i j hi hj=>?_
 rw[hw] at hj
 obtain rfl:j=0:=by omega
 unfold El.at
 rw[hd]
 rcases bE i xs.length with h | h
 ·have hb:Nat.blt i xs.length=true:=by simpa [aW] using h
  rw[hb,cond_true,mN _ _ _ _ h]
  exact hG.refl _
 ·have hb:Nat.blt i xs.length=false:=by
   cases hq:Nat.blt i xs.length with
   | false=>rfl
   | true=>rw[aW] at hq;omega
  rw[hb,cond_false,kQ _ _ _ _ h,hE]
  exact hG.refl _
end
end Go.Dl

namespace Go.Dl
variable [dO]
section
variable {P:Program} {n:Nat} {ops:Array Oper} {W:Nat→Bool} {A T R:Type} {go:T→St} {ab:A→Ex × St} {st dD:St} {m:Option (A ⊕ T)} {cs:List Code} {c:Code}
theorem cX.evC (is keep om:List Nat) {fuel fuel':Nat} {listed:Array Bool} {vs:List Bool} {dD:St} (sH:fuel=is.length+fuel')
 (hf:(Region.noSelect ops && (kL .any ops W listed is).isSome)=true) (he:iN P n ops (opsOf ops is) st keep om=some (vs,dD))
 (h:cX P n ops W fuel' ((kL .any ops W listed is).getD listed) cs dD m go ab):cX P n ops W fuel listed cs st (bY vs m) go ab:=by
 rw[aC] at hf
 obtain ⟨l',hl⟩:=bI.1 hf.2
 rw[hl] at h
 exact cX.ev is keep om sH (by rw[hf.1,cond_true];exact hl) he h
theorem cX.aAa (is keep om:List Nat) {fuel fuel':Nat} {listed:Array Bool} {dD:St} (sH:fuel=is.length+fuel')
 (hf:(Region.noSelect ops && (kL .any ops W listed is).isSome)=true) (he:iN P n ops (opsOf ops is) st keep om=some ([],dD))
 (h:cX P n ops W fuel' ((kL .any ops W listed is).getD listed) cs dD m go ab):cX P n ops W fuel listed cs st m go ab :=
 fun Γ S β a w hr x hx=>cX.evC (vs:=[]) is keep om sH hf he h Γ S β a w hr x hx
def lG (o o':Nat):C→C
 | .own q n=>bif Nat.beq q o then .own o' n else .own q n
 | c=>c
def St.move (st:St) (o:Nat):Option St :=
 match st.cC[o]? with
 | some (.row e w k get)=>some ⟨st.tmps.map fun p=>(p.1,p.2.sub (lG o st.cC.length)),(st.cC.set o .dead).map (Obj.sub (lG o st.cC.length))++[.row e w k get],st.gd,st.h⟩
 | _=>none
theorem C.lU {S:Mem} {β β':dG} {o o':Nat} (hle:kK β β') (ho:β' o'=β o):∀ {c:C} {v:Value},cV S β c v→cV S β' (c.sub (lG o o')) v:=by
 intro c
 induction c with
 | own q k =>
   intro v hv
   simp only[C.sub,lG]
   cases hb:Nat.beq q o with
   | true =>
     have:=aH hb
     subst this
     rw[cond_true]
     simp only[cV,ho] at hv ⊢
     exact hv
   | false=>rw[cond_false];exact cV.grow _ hle _ hv
 | ptr q i j=>intro v hv;exact cV.grow _ hle _ hv
 | self t b q=>intro v hv;exact cV.grow (.self t b q) hle _ hv
 | map q=>intro v hv;exact cV.grow (.map q) hle _ hv
 | tail q lo k=>intro v hv;exact cV.grow (.tail q lo k) hle _ hv
 | opt b c ih =>
   intro v hv
   simp only[C.sub,cV] at hv ⊢
   split at hv
   ·rename_i h;rw[aE h];exact ih hv
   ·rename_i h;rw[aD h];exact hv
 | iface b t c ih =>
   intro v hv
   simp only[C.sub,cV] at hv ⊢
   split at hv
   ·rename_i h;rw[aE h];obtain ⟨u,hu,hr⟩:=hv;exact ⟨u,hu,ih hr⟩
   ·rename_i h;rw[aD h];exact hv
 | func fn k cap ih =>
   rintro v ⟨vs,h1,h2,h3⟩
   refine ⟨vs,h1,h2,fun i hi=>?_⟩
   have:(((List.range k).map fun i=>(cap i).sub (lG o o')).getD i .bot)=(cap i).sub (lG o o'):=by
    simp [List.getD,hi]
   show cV S β' (((List.range k).map fun i=>(cap i).sub (lG o o')).getD i .bot) _
   rw[this]
   exact ih i (h3 i hi)
 | cond b c ih =>
   intro v hv hb
   exact ih (hv hb)
 | _=>intro v hv;exact hv
theorem D1.lU {S:Mem} {β β':dG} {o o':Nat} (hle:kK β β') (ho:β' o'=β o) {d:D1} {v:Value} (h:jT S β d v):jT S β' (d.sub (lG o o')) v:=by
 cases d with
 | c x=>exact C.lU hle ho h
 | agg l=>obtain ⟨vs,h1,h2⟩:=h;exact ⟨vs,h1,h2.map _ fun _ _ h=>C.lU hle ho h⟩
theorem D.lU {S:Mem} {β β':dG} {o o':Nat} (hle:kK β β') (ho:β' o'=β o) {d:D} {v:Value} (h:dR S β d v):dR S β' (d.sub (lG o o')) v:=by
 cases d with
 | c x=>exact C.lU hle ho h
 | agg l=>obtain ⟨vs,h1,h2⟩:=h;exact ⟨vs,h1,h2.map _ fun _ _ h=>C.lU hle ho h⟩
 | jW l=>obtain ⟨vs,h1,h2⟩:=h;exact ⟨vs,h1,h2.map _ fun _ _ h=>D1.lU hle ho h⟩
theorem aCf (f:C→C) (t:Nat):∀ (l:List (Nat × D)),dK (D.c .bot) (l.map fun p=>(p.1,p.2.sub f)) t=(dK (D.c .bot) l t).sub f
 | []=>rfl
 | (i,d)::r=>by
   rw[List.map_cons]
   simp only[dK]
   cases hb:Nat.beq i t with
   | true=>rfl
   | false=>rw[cond_false,cond_false];exact aCf f t r
theorem oF {d:D} {f:C→C} {b:Bool} (hf:∀ q n,f (.own q n)≠.val (.bool b)) (hp:∀ q i j,f (.ptr q i j)≠.val (.bool b)):d.sub f = .c (.val (.bool b))↔d = .c (.val (.bool b)):=by
 constructor
 ·intro h
  cases d with
  | c x =>
    simp only[D.sub,D.c.injEq] at h
    cases x with
    | val u=>simp only[C.sub] at h;rw[h]
    | own o m=>simp only[C.sub] at h;exact absurd h (hf _ _)
    | ptr o i j=>simp only[C.sub] at h;exact absurd h (hp _ _ _)
    | _=>simp only[C.sub] at h;cases h
  | agg l=>cases h
  | jW l=>cases h
 ·rintro rfl;rfl
theorem Conv.move (o:Nat) (hm:st.move o=some dD) (hh:Nat.ble st.h st.cC.length=true):Conv n st dD:=by
 have hh:=aX hh
 intro Γ S β a w hr
 unfold St.move at hm
 split at hm
 ·rename_i e wd k get ho
  simp only[aA] at hm
  subst hm
  have hlt:o<st.cC.length:=by
   rcases bE o st.cC.length with h1 | h1
   ·exact h1
   ·rw[bB h1] at ho;cases ho
  have hrow:=hr.core.cC o _ ho
  obtain ⟨x,hx⟩:∃ x,β o=some x:=by
   rcases hrow with ⟨h1,_⟩ | ⟨k,h1,_⟩
   ·exact ⟨_,h1⟩
   ·exact ⟨_,h1⟩
  have hle:kK β (gG β st.cC.length x):=kK.gG (hr.core.out _ (aM _))
  have pP:gG β st.cC.length x st.cC.length=β o:=by unfold gG;rw[aE rfl,hx]
  have hold:∀ q,q<st.cC.length→gG β st.cC.length x q=β q:=fun q hq=>by unfold gG;rw[aD (by omega)]
  have get':∀ (q:Nat) (y:Obj),((st.cC.set o .dead).map (Obj.sub (lG o st.cC.length))++[Obj.row e wd k get])[q]? = some y→y.live=true →
   ∃ q0 y0,st.cC[q0]? = some y0∧y0.live=true∧gG β st.cC.length x q=β q0∧(q=st.cC.length∧q0=o∧y = .row e wd k get∨q=q0∧q≠o∧y=y0.sub (lG o st.cC.length)):=by
   intro q y hy hl
   rcases getElem?_concat _ _ _ _ hy with hy | ⟨h1,rfl⟩
   ·rw[bG] at hy
    by_cases hq:q=o
    ·subst hq
     rw[List.getElem?_set_self hlt] at hy
     simp only[Option.map_some,aA] at hy
     subst hy
     cases hl
    ·rw[List.getElem?_set_ne (Ne.symm hq)] at hy
     cases hz:st.cC[q]? with
     | none=>rw[hz] at hy;cases hy
     | some z =>
       rw[hz] at hy
       simp only[Option.map_some,aA] at hy
       subst hy
       have hql:q<st.cC.length:=by
        rcases bE q st.cC.length with h1 | h1
        ·exact h1
        ·rw[bB h1] at hz;cases hz
       refine ⟨q,z,hz,?_,hold q hql,.inr ⟨rfl,hq,rfl⟩⟩
       cases z <;> first | rfl | exact hl
   ·simp only[aU,List.length_set] at h1
    subst h1
    exact ⟨o,_,ho,rfl,pP,.inl ⟨rfl,rfl,rfl⟩⟩
  have hgd:∀ t,St.nE ⟨st.tmps.map fun p=>(p.1,p.2.sub (lG o st.cC.length)),(st.cC.set o .dead).map (Obj.sub (lG o st.cC.length))++[.row e wd k get],st.gd,st.h⟩ t=st.nE t:=fun t=>rfl
  have aNG:∀ t,St.get ⟨st.tmps.map fun p=>(p.1,p.2.sub (lG o st.cC.length)),(st.cC.set o .dead).map (Obj.sub (lG o st.cC.length))++[.row e wd k get],st.gd,st.h⟩ t=(st.get t).sub (lG o st.cC.length):=fun t=>aCf _ t _
  have hholds:∀ g,St.holds ⟨st.tmps.map fun p=>(p.1,p.2.sub (lG o st.cC.length)),(st.cC.set o .dead).map (Obj.sub (lG o st.cC.length))++[.row e wd k get],st.gd,st.h⟩ g↔st.holds g:=by
   intro g
   unfold St.holds
   constructor
   ·intro h q hq
    have:=h q hq
    rw[aNG q.1] at this
    refine (oF (fun q n=>?_) (fun q i j=>?_)).1 this
    ·simp only[lG];cases Nat.beq q o <;> simp
    ·simp [lG]
   ·intro h q hq
    rw[aNG q.1,h q hq];rfl
  refine ⟨S,gG β st.cC.length x,⟨hr.core.frame,hr.core.holds,?_,?_,?_,?_,?_⟩,fun t hh=>?_,fun t hh=>?_,hr.size,hr.defers,fun q k hq hB=>hle _ _ (hr.hand q k hq hB)⟩
  ·intro q y hy
   cases hl:y.live with
   | false=>cases y <;> first | trivial | cases hl
   | true =>
     obtain ⟨q0,y0,hy0,hl0,hb,hc⟩:=get' q y hy hl
     have hr0:=hr.core.cC q0 y0 hy0
     rcases hc with ⟨rfl,rfl,rfl⟩ | ⟨rfl,hne,rfl⟩
     ·rw[ho] at hy0
      simp only[aA] at hy0
      subst hy0
      rcases hr0 with ⟨h1,h2⟩ | ⟨k,h1,h2⟩
      ·exact .inl ⟨by rw[hb];exact h1,h2⟩
      ·exact .inr ⟨k,by rw[hb];exact h1,h2⟩
     ·cases y0 with
      | dead=>trivial
      | cells l =>
        obtain ⟨k,h1,h2,h3,h4,vs,h5,h6,h7⟩:=hr0
        exact ⟨k,by rw[hb];exact h1,by rw[h2];simp,h3,h4,vs,h5,h6.map _ fun _ _ h=>C.lU hle pP h,h7⟩
      | aA5 e' bs =>
        obtain ⟨k,h1,h2⟩:=hr0
        exact ⟨k,by rw[hb];exact h1,h2⟩
      | map z has get =>
        obtain ⟨k,h1,h2⟩:=hr0
        exact ⟨k,by rw[hb];exact h1,h2⟩
      | row e' w' k' g' =>
        rcases hr0 with ⟨h1,h2⟩ | ⟨k,h1,h2⟩
        ·exact .inl ⟨by rw[hb];exact h1,h2⟩
        ·exact .inr ⟨k,by rw[hb];exact h1,h2⟩
  ·intro q hq
   simp only[aG,aU,List.length_set,List.length_cons,List.length_nil] at hq
   unfold gG
   rw[aD (by omega)]
   exact hr.core.out q (by omega)
  ·intro q q' k1 k2 y y' hy hy' hl hl' h1 h2 hno
   obtain ⟨q0,y0,hy0,hl0,hb,hc⟩:=get' q y hy hl
   obtain ⟨q0',y0',hy0',a5m,hb',hc'⟩:=get' q' y' hy' hl'
   rw[hb] at h1;rw[hb'] at h2
   refine hr.core.inj q0 q0' k1 k2 y0 y0' hy0 hy0' hl0 a5m h1 h2 fun e=>hno ?_
   rcases hc with ⟨h3,h4,_⟩ | ⟨h3,h4,_⟩ <;> rcases hc' with ⟨h5,h6,_⟩ | ⟨h5,h6,_⟩ <;> omega
  ·intro q k1 y hy hl h1
   obtain ⟨q0,y0,hy0,hl0,hb,hc⟩:=get' q y hy hl
   rw[hb] at h1
   exact hr.core.sep q0 k1 y0 hy0 hl0 h1
  ·intro q k1 y hy hl h1
   obtain ⟨q0,y0,hy0,hl0,hb,hc⟩:=get' q y hy hl
   rw[hb] at h1
   exact hr.core.mine q0 k1 y0 hy0 hl0 h1
  ·rw[aNG t]
   rw[hgd t,hholds] at hh
   exact D.lU hle pP (hr.tm t hh)
  ·rw[hgd t,hholds] at hh
   exact hr.un t hh
 ·cases hm
end
end Go.Dl

namespace Go.Dl
abbrev Err:=Option (Int × Int)
def aUQ (t:TypeId) (e:Err):C:=.iface e.isSome t (.nP 3 (fun j=>([.val (.int .i64 (e.getD (0,0)).1),.val (.int .i64 (e.getD (0,0)).2),.val .nilIface]:List C).getD j .bot) 0)
theorem aLE {t:TypeId}:hG (.val .nilIface) (aUQ t none):=by
 intro S β v hv
 show if false=true then _ else v = .nilIface
 rw[aD (by simp)]
 exact hv
end Go.Dl

namespace Go.Dl
variable [dO]
section
variable {P:Program} {n:Nat} {A T R:Type} {go:T→St} {ab:A→Ex × St} {st dD:St} {m:Option (A ⊕ T)} {cs:List Code}
def aGM (P:Program) (n:Nat) (o:Oper) (st:St):Option (Nat × TypeId × List C) :=
 match aIG n o st,o.op with
 | some d,.alloc t=>(match (P.info? t).bind (·.zero) with
   | some z=>(match (cst z).cells with
     | some (.val (.pointer none)::l)=>bif l.all C.good then some (d,t,l) else none
     | _=>none)
   | none=>none)
 | some d,.box t x=>(match ((st.zN []).lv x).cells with
   | some (.val (.pointer none)::l)=>bif l.all C.good then some (d,t,l) else none
   | _=>none)
 | _,_=>none
theorem aEB {Γ:j6} {S:Mem} {β:dG} {w:World} {xs:List Obj} (hc:Core Γ S β w xs) {l:List C} {v:Value} (t:TypeId) (hl:eM S β (.val (.pointer none)::l) v.cells.toList)
 (h1:∀ u∈v.cells.toList,u.oneCell'=true) :
 ∃ β',kK β β'∧Core Γ S β' (w.alloc (.cells v.cells t)) (xs++[.cells (.self t false xs.length::l)])∧cV S β' (.ptr xs.length 0 0) (.pointer (some ⟨w.heap.size,0,none⟩)):=by
 let k:Bk:=⟨w.heap.size,t,l.length+1,1,1⟩
 have hle:kK β (gG β xs.length (some k)):=kK.gG (hc.out _ (aM _))
 obtain ⟨u,r,hu,hp,hr⟩:=hl
 obtain rfl:u = .pointer none:=hp
 have hv:v.cells=(Value.pointer none::r).toArray:=by rw[← hu]
 have:=hc.push (.cells v.cells t) (.cells (.self t false xs.length::l)) (some k) (w':=w.alloc (.cells v.cells t)) (.inr ⟨⟨k,rfl,rfl⟩,rfl⟩)
  ⟨k,gM _ _ _,rfl,rfl,rfl,.pointer none::r,by rw[← hv];exact heap_alloc_new w _,⟨_,_,rfl,⟨k,gM _ _ _,rfl,rfl⟩,eM.up (jL.refl _) hle hr⟩,by rw[← hu];exact h1⟩
 exact ⟨_,this.2,this.1,k,gM _ _ _,Nat.zero_lt_one,Nat.succ_pos _,by simp [k]⟩
theorem eO.aLR (k k':Nat) {ops:Array Oper} {l:List Oper} {d:Nat} {t:TypeId} {cl:List C} (hk:(Nat.blt k l.length && Nat.beq k' (k+1))=true) (hi:aGM P n (jQ l k) st=some (d,t,cl))
 (h:eO P n ops (l.drop k') cs (st.put (some d) (.c (.ptr st.cC.length 0 0)) (st.cC++[.cells (.self t false st.cC.length::cl)]) []) m go ab):eO P n ops (l.drop k) cs st m go ab:=by
 have box:∀ (w:World) (v:Value),(Instr.box t v).run P w = .ok (.pointer (some ⟨w.heap.size,0,none⟩)) (w.alloc (.cells v.cells t)):=by
  intro w v;simp [Instr.box,newVar,newRow]
 unfold aGM at hi
 split at hi
 ·rename_i d' t' ho hop
  cases hz:(P.info? t').bind (·.zero) with
  | none=>rw[hz] at hi;cases hi
  | some z =>
    rw[hz] at hi
    simp only at hi
    split at hi
    ·rename_i l' rB
     obtain ⟨hg,hi⟩:=bZ hi
     simp only[aA,aI] at hi
     obtain ⟨rfl,rfl,rfl⟩:=hi
     refine eO.opN k k' hk ho (fun Γ S β a w hr=>?_) h
     obtain ⟨hl,h1⟩:=p9 (S:=S) (β:=β) (aE6 z) rB (by simp [C.good,Value.oneCell',hg])
     obtain ⟨β',hle,nM,hp⟩:=aEB hr.core t' hl h1
     refine ⟨_,_,S,β',?_,hp,jL.refl _,hle,nM⟩
     unfold execOp
     rw[hop]
     simp only
     have hinfo:∃ i,P.info? t'=some i:=by
      cases hq:P.info? t' with
      | none=>rw[hq] at hz;cases hz
      | some i=>exact ⟨i,rfl⟩
     obtain ⟨i,a0g⟩:=hinfo
     have hzr:(zeroValue t').run P w = .ok z w:=by
      unfold zeroValue
      rw[a0g,Option.bind_some] at hz
      rw[Sem.run_bind,iO a0g,Result.andThen_ok,hz]
      rfl
     have:(Instr.alloc t' true (.tuple #[])).run P w = .ok (.pointer (some ⟨w.heap.size,0,none⟩)) (w.alloc (.cells z.cells t')):=by
      rw[← box w z]
      unfold Instr.alloc Instr.box
      rw[Sem.run_bind,hzr,Result.andThen_ok]
     rw[Sem.run_bind,this]
     rfl
    ·cases hi
 ·rename_i d' t' x ho hop
  split at hi
  ·rename_i l' rB
   obtain ⟨hg,hi⟩:=bZ hi
   simp only[aA,aI] at hi
   obtain ⟨rfl,rfl,rfl⟩:=hi
   refine eO.opN k k' hk ho (fun Γ S β a w hr=>?_) h
   have hx:=gN hr (g:=[]) (fun q hq=>by cases hq) x
   obtain ⟨hl,h1⟩:=p9 hx rB (by simp [C.good,Value.oneCell',hg])
   obtain ⟨β',hle,nM,hp⟩:=aEB hr.core t' hl h1
   refine ⟨_,_,S,β',?_,hp,jL.refl _,hle,nM⟩
   unfold execOp
   rw[hop]
   simp only
   rw[Sem.run_bind,box w (a.eval x)]
   rfl
  ·cases hi
 ·cases hi
theorem aGN {Γ:j6} {S:Mem} {β:dG} {w:World} {T:TypeId} {b:Bool} {l:List C} {ys:List Obj} {v:Value} (hc:Core Γ S β w (.cells (.self T b 0::l)::ys)) (hv:dR S β (.c (.ptr 0 0 0)) v) :
 ∃ k p r,β 0=some (some k)∧k.e=T∧v = .pointer (some ⟨k.b,0,none⟩)∧w.heap[k.b]? = some (.cells (p::r).toArray T (0,0))∧p=(if b=true then .pointer (some ⟨k.b,0,none⟩) else .pointer none) ∧
   eM S β l r∧k.w=l.length+1∧k.n=1∧k.cap=1∧(∀ u∈p::r,u.oneCell'=true):=by
 obtain ⟨k,hk,_,_,rfl⟩:=hv
 obtain ⟨k',hk',hw,hn,hcap,us,hh,hus,h1⟩:=hc.cC 0 _ rfl
 rw[hk] at hk';simp only[aA] at hk';subst hk'
 obtain ⟨p,r,rfl,⟨k2,hk2,he,hp⟩,hr⟩:=hus
 rw[hk] at hk2;simp only[aA] at hk2;subst hk2
 rw[he] at hh
 exact ⟨k,p,r,hk,he,by simp,hh,hp,hr,by simpa using hw,hn,hcap,h1⟩
theorem bV.aLF {f:FuncId} {T:TypeId} (b:Bool) (l:List C) (ys:List Obj) {mr:Option R} {out:R→List Obj} (hout:∀ r,mr=some r→out r = .cells (.self T true 0::l)::ys)
 (a0h:∀ (b:Nat) (w:World),w.cell? ⟨b,0,none⟩=some (.pointer (some ⟨b,0,none⟩))→Calls P f #[.pointer (some ⟨b,0,none⟩)] w fun e w'=>e = .returned (.tuple #[])∧w'=w)
 (hfresh:∀ (b:Nat) (w:World),w.cell? ⟨b,0,none⟩=some (.pointer none)→w.shape? b=some (T,l.length+1)→w.frozen? ⟨b,0,none⟩=false →
  Calls P f #[.pointer (some ⟨b,0,none⟩)] w fun e w'=>e = .returned (.tuple #[])∧w'=w.setCell ⟨b,0,none⟩ (.pointer (some ⟨b,0,none⟩))) :
 bV P f [.c (.ptr 0 0 0)] (.cells (.self T b 0::l)::ys) mr (fun _=>.jW []) out:=by
 intro S β w vs hc hv r hr
 obtain ⟨v,r0,rfl,hv,rfl⟩:=hv
 obtain ⟨k,p,us,hk,he,rfl,hh,hp,hl,hw,hn,hcap,h1⟩:=aGN hc hv
 have hcell:w.cell? ⟨k.b,0,none⟩=some p:=by rw[cell_of_heap hh];rfl
 cases b with
 | true =>
   rw[aE rfl] at hp
   subst hp
   refine (a0h k.b w hcell).mono fun e w' ⟨he,j8⟩=>⟨_,S,β,he,⟨[],rfl,rfl⟩,fun _ _ _ h=>h,?_⟩
   subst j8
   rw[hout r hr]
   exact hc
 | false =>
   rw[aD (by simp)] at hp
   subst hp
   have hlen:=hl.length
   have hsh:w.shape? k.b=some (T,l.length+1):=by simp [World.shape?,hh,hlen]
   have hfz:w.frozen? ⟨k.b,0,none⟩=false:=by simp [World.frozen?,hh]
   refine (hfresh k.b w hcell hsh hfz).mono fun e w' ⟨hee,j8⟩=>⟨_,S,β,hee,⟨[],rfl,rfl⟩,fun _ _ _ h=>h,?_⟩
   subst j8
   rw[hout r hr]
   have hlt:k.b<w.heap.size:=(hc.mine 0 k _ rfl rfl hk).1
   have pP:(w.setCell ⟨k.b,0,none⟩ (.pointer (some ⟨k.b,0,none⟩))).heap[k.b]? = some (.cells (.pointer (some ⟨k.b,0,none⟩)::us).toArray T (0,0)):=by
    simp [World.setCell,Array.getElem?_modify,hh]
   exact hc.write 0 (.cells (.self T false 0::l)) (.cells (.self T true 0::l)) k rfl rfl hk rfl rfl rfl (by simp [World.setCell]) (fun c hne=>by simp [World.setCell,Array.getElem?_modify,Ne.symm hne])
    ⟨k,hk,hw,hn,hcap,_,by rw[he];exact pP,⟨_,_,rfl,⟨k,hk,he,by simp⟩,hl⟩,fun u hu=>by
     rcases aY.1 hu with rfl | hu
     ·rfl
     ·exact h1 u (aT _ hu)⟩
structure aSt (g:Nat) (w w':World):Prop where
 os:w'.os=w.os
 tape:w'.tape=w.tape
 output:w'.output=w.output
 size:w.heap.size≤w'.heap.size
 block:∀ c,c<w.heap.size→c≠g→w'.heap[c]? = w.heap[c]?
theorem bV.aIs {f:FuncId} {T e:TypeId} (b:Bool) (s:Bytes) (l:List C) {mr:Option R} {res:R→D} {out:R→List Obj} (hres:∀ r,mr=some r→res r = .c (.str s)) (hout:∀ r,out r=[.dead,.dead])
 (hsome:∀ (b g cap:Nat) (cs cur:Array Value) (w:World),w.heap[b]? = some (.cells cs T (0,0))→cs[1]? = some (.slice (some ⟨g,0,none⟩) s.length cap)→w.heap[g]? = some (.cells cur e (0,0))→s.length≤cap→cap≤maxLen→cur.size=cap →
  (∀ (j:Nat) (x:UInt8),s[j]? = some x→cur[j]? = some (Value.int .u8 x.toNat))→b<w.heap.size→Calls P f #[.pointer (some ⟨b,0,none⟩)] w fun e w'=>e = .returned (.string ⟨s.toArray⟩)∧aSt g w w')
 (aA6:s=[]→∀ (b:Nat) (cs:Array Value) (w:World),w.heap[b]? = some (.cells cs T (0,0))→cs[1]? = some (.slice none 0 0)→Calls P f #[.pointer (some ⟨b,0,none⟩)] w fun e w'=>e = .returned (.string ⟨s.toArray⟩)∧aSt b w w') :
 bV P f [.c (.ptr 0 0 0)] [.cells (.self T b 0::.own 1 s.length::l),.row e 1 s.length (bAt s)] mr res out:=by
 intro S β w vs hc hv r hr
 obtain ⟨v,r0,rfl,hv,rfl⟩:=hv
 obtain ⟨k,p,us,hk,he,rfl,hh,hp,hl,hw,hn,hcap,h1⟩:=aGN hc hv
 obtain ⟨q,us',rfl,hq,hl'⟩:=hl
 have hc1:(p::q::us').toArray[1]? = some q:=by simp
 have hlt:k.b<w.heap.size:=(hc.mine 0 k _ rfl rfl hk).1
 have hlen:s.length≤maxLen:=by
  rcases hc.cC 1 _ rfl with ⟨_,h2⟩ | ⟨k1,_,_,_,h4,h5,h6,_⟩
  ·rw[h2];exact Nat.zero_le _
  ·omega
 have fin:∀ g,(g=k.b∨∃ k1,β 1=some (some k1)∧k1.b=g)→∀ w',aSt g w w' →
  ∃ v S' β',Ending.returned (Value.string ⟨s.toArray⟩) = .returned v∧dR S' β' (res r) v∧(∀ o k,o<[Obj.cells (.self T b 0::.own 1 s.length::l),.row e 1 s.length (bAt s)].length→β o=some k→β' o=some k) ∧
    Core ⟨S,w,uG β [.cells (.self T b 0::.own 1 s.length::l),.row e 1 s.length (bAt s)],β⟩ S' β' w' (out r):=by
  intro g hg w' aLS
  have hMg:uG β [.cells (.self T b 0::.own 1 s.length::l),.row e 1 s.length (bAt s)] g:=by
   rcases hg with rfl | ⟨k1,hk1,rfl⟩
   ·exact ⟨0,k,_,rfl,rfl,hk,rfl⟩
   ·exact ⟨1,k1,_,rfl,rfl,hk1,rfl⟩
  refine ⟨_,S,β,rfl,by rw[hres r hr];exact ⟨rfl,hlen⟩,fun _ _ _ h=>h,?_⟩
  rw[hout]
  have hsep:∀ i,S g i=none:=by
   rcases hg with rfl | ⟨k1,hk1,rfl⟩
   ·exact hc.sep 0 k _ rfl rfl hk
   ·exact hc.sep 1 k1 _ rfl rfl hk1
  refine ⟨⟨aLS.os,aLS.tape,aLS.output,aLS.size,fun c rB hM=>aLS.block c rB (fun e=>hM (e ▸ hMg)),fun _ _ _ _=>rfl,jL.refl _,hc.frame.aDS,hc.frame.inv⟩,?_,?_,?_,?_,?_,?_⟩
  ·refine hc.holds.keep fun c ⟨i,hi⟩=>aLS.block c (hc.holds.lt hi) fun e=>?_
   rw[e,hsep i] at hi;cases hi
  ·intro o x hx
   match o with
   | 0=>simp only[List.getElem?_cons_zero,aA] at hx;subst hx;trivial
   | 1=>simp only[List.getElem?_cons_succ,List.getElem?_cons_zero,aA] at hx;subst hx;trivial
   | o+2=>simp at hx
  ·intro o ho;exact hc.out o (by simpa using ho)
  ·intro o o' k k' x x' hx hx' hlv
   have:x = .dead:=by
    match o with
    | 0=>simpa using hx.symm
    | 1=>simpa using hx.symm
    | o+2=>simp at hx
   subst this;cases hlv
  ·intro o k x hx hlv
   have:x = .dead:=by
    match o with
    | 0=>simpa using hx.symm
    | 1=>simpa using hx.symm
    | o+2=>simp at hx
   subst this;cases hlv
  ·intro o k x hx hlv
   have:x = .dead:=by
    match o with
    | 0=>simpa using hx.symm
    | 1=>simpa using hx.symm
    | o+2=>simp at hx
   subst this;cases hlv
 rcases hc.cC 1 _ rfl with ⟨h1n,h2⟩ | ⟨k1,hk1,e1,e2,e3,e4,e5,cur,hh1,hcs,hcell⟩
 ·have hs:s=[]:=List.length_eq_zero_iff.1 h2
  simp only[cV,h1n] at hq
  obtain ⟨_,rfl⟩:=hq
  exact (aA6 hs k.b _ w hh hc1).mono fun e w' ⟨hee,hb⟩=>by subst hee;exact fin k.b (.inl rfl) w' hb
 ·simp only[cV,hk1] at hq
  obtain ⟨_,_,rfl⟩:=hq
  refine (hsome k.b k1.b k1.cap _ cur w hh hc1 hh1 e4 e5 (by rw[hcs,Nat.mul_one]) (fun j x hx=>?_) hlt).mono fun e w' ⟨hee,hb⟩=>by subst hee;exact fin k1.b (.inr ⟨k1,hk1,rfl⟩) w' hb
  have hj:j<s.length:=(List.getElem?_eq_some_iff.1 hx).1
  obtain ⟨u,hu,_,hr1⟩:=hcell j 0 hj (by omega)
  rw[Nat.mul_one,Nat.add_zero] at hu
  rw[hu,aSI hr1]
  simp [List.getD,hx]
end
end Go.Dl

namespace Go.Dl
variable [dO]
section
variable {P:Program} {α R:Type}
def aIq (S:Mem) (b:Nat) (l:List Value):Mem:=fun b' i=>if b'=b then l[i]? else S b' i
end
end Go.Dl

namespace Go.Dl
variable [dO]
section
variable {P:Program} {R:Type}
end
end Go.Dl

namespace Go.Dl
variable [dO]
section
variable {P:Program} {n:Nat} {A T R:Type} {go:T→St} {ab:A→Ex × St} {st dD:St} {m:Option (A ⊕ T)} {cs:List Code}
theorem eO.aFi {ops:Array Oper} {l:List Oper} {b:Bool} {stf:Bool→St} (h0:stf b=st) (h:eO P n ops l cs (stf true) m go ab):eO P n ops l cs st (bY [b] m) go ab:=by
 intro Γ S β a w hr x hx
 obtain ⟨hv,hm⟩:=fI hx
 have hb:b=true:=hv b (bA ..)
 subst hb
 rw[← h0] at hr
 exact h Γ S β a w hr x hm
def aII (st:St):Bool:=st.gd.all fun p=>p.2.all fun q=>match st.get q.1 with
 | .c (.val (.bool b))=>b == q.2
 | _=>false
theorem aCg:∀ (l:List (Nat × List (Nat × Bool))) (t:Nat),dK [] l t=[]∨∃ g,(t,g)∈l∧dK [] l t=g
 | [],t=>.inl rfl
 | (i,g)::r,t=>by
   unfold dK
   cases hb:Nat.beq i t with
   | true =>
     obtain rfl:=aH hb
     exact .inr ⟨g,bA ..,rfl⟩
   | false =>
     rw[cond_false]
     rcases aCg r t with h | ⟨g',h1,h2⟩
     ·exact .inl h
     ·exact .inr ⟨g',aT _ h1,h2⟩
theorem aFj {st:St} (h:aII st=true) (t:Nat):st.holds (st.nE t):=by
 unfold St.nE
 rcases aCg st.gd t with h1 | ⟨g,h1,h2⟩
 ·rw[h1];intro q hq;cases hq
 ·rw[h2]
  intro q hq
  unfold aII at h
  have h3:=aN.1 (aN.1 h _ h1) q hq
  split at h3
  ·rename_i b hb
   have:b=q.2:=by simpa using h3
   rw[hb,this]
  ·cases h3
theorem Conv.clear (h:aII st=true):Conv n st ⟨st.tmps,st.cC,[],st.h⟩:=by
 intro Γ S β a w hr
 exact ⟨S,β,hr.core,fun t _=>hr.tm t (aFj h t),fun t hn=>absurd (fun q hq=>by cases hq) hn,hr.size,hr.defers,hr.hand⟩
def Oper.free (o:Oper):Oper:={ o with guard:=none }
def aCh (ops:Array Oper) (o:Oper) (st:St):Bool :=
 match o.guard with
 | none=>false
 | some (j,want) =>
   (match (ops[j]?).bind (·.dst) with
   | some t =>
     (match st.nE t,st.get t with
     | [],.c (.val (.bool b))=>b == want
     | _,_=>false)
   | none=>false)
theorem eO.aFk (k:Nat) {ops:Array Oper} {l:List Oper} (hk:Nat.blt k l.length=true) (hi:aCh ops (jQ l k) st=true)
 (h:eO P n ops ((l.set k (Oper.free (jQ l k))).drop k) cs st m go ab):eO P n ops (l.drop k) cs st m go ab:=by
 have hlt:k<l.length:=by simpa [aW] using hk
 have aNH:(l.set k (Oper.free (jQ l k))).drop k=Oper.free (jQ l k)::l.drop (k+1):=by
  rw[List.drop_eq_getElem_cons (by simpa using hlt),List.getElem_set_self,List.drop_set_of_lt (by omega)]
 rw[aNH] at h
 rw[nZ hk]
 intro Γ S β a w hr x hx
 have h1:=h Γ S β a w hr x hx
 have hw:Region.wanted (jQ l k) (yielded ops a.tmps)=true:=by
  unfold aCh at hi
  split at hi
  ·cases hi
  ·rename_i j want hgd
   split at hi
   ·rename_i t ht
    split at hi
    ·rename_i b hg hb
     have hbw:b=want:=by simpa using hi
     subst hbw
     have hd:=hr.tm t (by unfold St.holds;rw[hg];intro q hq;cases hq)
     rw[hb] at hd
     have hv:a.tmps.getD t undef = .bool b:=hd
     have hsome:a.tmps[t]? = some (.bool b):=by
      rw[aO] at hv
      cases hq:a.tmps[t]? with
      | none=>rw[hq] at hv;cases hv
      | some u=>rw[hq] at hv;simp only[Option.getD_some] at hv;rw[hv]
     have hy:yielded ops a.tmps j=some b:=by
      unfold yielded
      rw[ht]
      show (match a.tmps[t]? with | some (.bool b)=>some b | _=>none)=some b
      rw[hsome]
     simp only[Region.wanted,hgd,hy]
     simp
    ·cases hi
   ·cases hi
 simp only[wpList] at h1 ⊢
 rw[hw,aE rfl]
 have j8:Region.wanted (Oper.free (jQ l k)) (yielded ops a.tmps)=true:=rfl
 rw[j8,aE rfl] at h1
 exact h1
end
end Go.Dl

namespace Go.Dl
variable [dO] {α:Type}
omit [dO] in theorem aUZ (E:El α) (ct:α→List C) (h:∀ x,ct x=E.cs x) (l:List α) {i:Nat} (hi:i<l.length) (j:Nat):xE (l.map ct) i j=E.at l i j:=by
 unfold xE El.at
 have:(l.map ct).getD i []=E.cs (l.getD i E.d):=by
  simp [List.getD,bG,aF hi,h]
 rw[this]
theorem aNL (E:El α) (ct:α→List C) (h:∀ x,ct x=E.cs x) (l:List α):hG (.tree E.w l.length (xE (l.map ct))) (E.tree l) :=
 hG.tree rfl fun i j hi _=>by rw[aUZ E ct h l hi];exact hG.refl _
theorem aU0 (E:El α) (ct:α→List C) (h:∀ x,ct x=E.cs x) (l:List α):hG (E.tree l) (.tree E.w l.length (xE (l.map ct))) :=
 hG.tree rfl fun i j hi _=>by rw[aUZ E ct h l hi];exact hG.refl _
omit [dO] in theorem aNM (Q:El (List α)) (nt:List α→C) (l:List (List α)) {i:Nat} (hi:i<l.length):xE (l.map fun b=>[nt b]) i 0=nt (l.getD i Q.d):=by
 unfold xE
 simp [List.getD,bG,aF hi]
theorem aWQ (E:El α) (Q:El (List α)) (hw:Q.w=1) (hq:∀ l,Q.cs l=[E.tree l]) (nt:List α→C) (h:∀ l,hG (nt l) (E.tree l)) (l:List (List α)):hG (.tree 1 l.length (xE (l.map fun b=>[nt b]))) (Q.tree l):=by
 unfold El.tree
 rw[hw]
 refine hG.tree rfl fun i j hi hj=>?_
 obtain rfl:j=0:=by omega
 rw[aNM Q nt l hi]
 show hG _ ((Q.cs (l.getD i Q.d)).getD 0 .bot)
 rw[hq]
 exact h _
theorem aWR (E:El α) (Q:El (List α)) (hw:Q.w=1) (hq:∀ l,Q.cs l=[E.tree l]) (nt:List α→C) (h:∀ l,hG (E.tree l) (nt l)) (l:List (List α)):hG (Q.tree l) (.tree 1 l.length (xE (l.map fun b=>[nt b]))):=by
 unfold El.tree
 rw[hw]
 refine hG.tree rfl fun i j hi hj=>?_
 obtain rfl:j=0:=by omega
 rw[aNM Q nt l hi]
 show hG ((Q.cs (l.getD i Q.d)).getD 0 .bot) _
 rw[hq]
 exact h _
end Go.Dl

namespace Go.Dl
variable [dO]
open Go.RowKit
section
variable {P:Program} {n:Nat} {ops:Array Oper} {W:Nat→Bool} {A T:Type} {go:T→St} {ab:A→Ex × St} {st dD:St} {m:Option (A ⊕ T)} {cs:List Code}
def xZ:Op→Bool
 | .buildSlice _ _ _=>true
 | _=>false
theorem aLU (w:World) (o:Go.Obj):Up w (w.alloc o):=(Below.refl _ _).alloc (aM _) o
def Still (P:Program) {X:Type} (s:Sem X):Prop:=∀ w a w',s.run P w = .ok a w'→w'=w
theorem aAc (t:TypeId):Still P (underlying t):=by
 intro w a w' h
 cases hu:P.underlying t with
 | none=>simp [underlying,hu] at h
 | some d=>rw[run_underlying hu] at h;cases h;rfl
theorem tJ (t:TypeId):Still P (typeInfo t):=by
 intro w a w' h
 cases hu:P.info? t with
 | none=>simp [typeInfo,hu] at h
 | some d=>simp [typeInfo,hu] at h;exact h.2.symm
theorem aFm (t:TypeId):Still P (sizeOf t):=by
 intro w a w' h
 unfold sizeOf at h
 rw[Sem.run_bind] at h
 cases hr:(typeInfo t).run P w with
 | halt x y=>rw[hr] at h;cases h
 | ok i w1 =>
   rw[hr] at h
   obtain rfl:=tJ t w _ _ hr
   cases h;rfl
theorem nH (t:TypeId):Still P (zeroValue t):=by
 intro w a w' h
 unfold zeroValue at h
 rw[Sem.run_bind] at h
 cases hr:(typeInfo t).run P w with
 | halt x y=>rw[hr] at h;cases h
 | ok i w1 =>
   rw[hr] at h
   obtain rfl:=tJ t w _ _ hr
   simp only[Result.andThen_ok] at h
   split at h
   ·cases h;rfl
   ·cases h
theorem aEC {e:TypeId} {cs:Array Value} {w w':World} {a:Addr} (h:(newRow e cs).run P w = .ok a w'):Up w w':=by
 simp [newRow] at h
 rw[← h.2]
 exact aLU _ _
def Mk (P:Program) {X:Type} (s:Sem X):Prop:=∀ w a w',s.run P w = .ok a w'→Up w w'
theorem Mk.bind {X Y:Type} {s:Sem X} {f:X→Sem Y} (h:Mk P s) (hf:∀ x,Mk P (f x)):Mk P (s >>= f):=by
 intro w a w' hr
 rw[Sem.run_bind] at hr
 cases h1:s.run P w with
 | halt x y=>rw[h1] at hr;cases hr
 | ok x w1=>rw[h1] at hr;exact (h w x w1 h1).trans (hf x w1 a w' hr)
theorem Mk.pure {X:Type} (x:X):Mk P (Pure.pure x:Sem X):=by
 intro w a w' h
 cases h;exact Up.refl _
theorem Mk.still {X:Type} {s:Sem X} (h:Still P s):Mk P s:=fun w a w' hr=>by rw[h w a w' hr];exact Up.refl _
theorem Mk.stuck {X:Type} (m:String):Mk P (Go.stuck m:Sem X):=fun w a w' h=>by cases h
theorem Mk.unsupported {X:Type} (m:Unsupported):Mk P (Go.unsupported m:Sem X):=fun w a w' h=>by cases h
theorem aD6 (t:TypeId) (len:Nat) (parts:Array (Nat × Value)):Mk P (Instr.buildSlice t len parts):=by
 unfold Instr.buildSlice
 refine Mk.bind (Mk.still (aAc t)) fun td=>?_
 split
 ·refine Mk.bind (Mk.still (aFm _)) fun sz=>?_
  have fin:∀ (e:TypeId) (z:Array Value),Mk P (match Instr.fill (fun i=>some (i * sz,sz)) (Array.map (fun x=>z[x % z.size]!) (Array.range (len * sz))) parts.toList with
   | some cells=>do
     let a ← newRow e cells
     Pure.pure (Value.slice (some a) len len)
   | _=>Go.stuck "buildSlice: a part of the wrong size" : Sem Value):=by
   intro e z
   split
   ·exact Mk.bind (fun w a w' h=>aEC h) fun a=>Mk.pure _
   ·exact Mk.stuck _
  dsimp only
  split
  ·exact Mk.bind (Mk.unsupported _) fun x=>by
    split
    ·exact Mk.bind (Mk.pure _) fun z=>fin _ z
    ·exact Mk.bind (Mk.still (nH _)) fun z=>Mk.bind (Mk.pure _) fun z=>fin _ z
  ·split
   ·exact Mk.bind (Mk.pure _) fun z=>fin _ z
   ·exact Mk.bind (Mk.still (nH _)) fun z=>Mk.bind (Mk.pure _) fun z=>fin _ z
 ·exact Mk.stuck _
theorem aCi {o:Oper} {ρ:Operand→Value} {w w':World} {x:Next} (hm:xZ o.op=true) (h:(execOp ρ o).run P w = .ok x w'):Up w w'∧∃ v,x = .value v:=by
 unfold xZ at hm
 split at hm
 ·rename_i t len parts hop
  unfold execOp at h
  rw[hop] at h
  dsimp only at h
  rw[Sem.run_bind] at h
  cases hr:(Instr.buildSlice t len (parts.map fun (i,x)=>(i,ρ x))).run P w with
  | halt a b=>rw[hr] at h;cases h
  | ok a w1 =>
    rw[hr] at h
    have:=aD6 _ _ _ _ _ _ hr
    cases h
    exact ⟨this,_,rfl⟩
 ·cases hm
theorem cX.a0i (j:Nat) (keep om:List Nat) {fuel fuel':Nat} {listed:Array Bool} {vs:List Bool} {dD:St} (sH:fuel=1+fuel')
 (hf:(decide (Region.ready .any ops listed=[j]) && (!W j && (ops[j]?).elim false fun o=>xZ o.op))=true) (he:iN P n ops (opsOf ops [j]) st keep om=some (vs,dD))
 (h:cX P n ops W fuel' (listed.setIfInBounds j true) cs dD m go ab):cX P n ops W fuel listed cs st (bY vs m) go ab:=by
 intro Γ S β a w hr x hx
 obtain ⟨hvs,hm⟩:=fI hx
 simp only[aC,aB,aQ] at hf
 obtain ⟨hrd,hWj,hmk⟩:=hf
 cases ho:ops[j]? with
 | none=>rw[ho] at hmk;cases hmk
 | some o =>
   rw[ho] at hmk
   have hmk:xZ o.op=true:=hmk
   have zY:opsOf ops [j]=[o]:=by simp [opsOf,ho]
   rw[zY] at he
   subst sH
   rw[Nat.add_comm]
   unfold iN at he
   split at he
   ·rename_i vs2 oZ h2
    cases hk:oZ.keep keep om with
    | none=>rw[hk] at he;cases he
    | some st3 =>
      rw[hk] at he
      simp only[Option.map_some,aA,aI] at he
      obtain ⟨rfl,rfl⟩:=he
      unfold iG at h2
      split at h2
      ·rename_i v st1 h1
       simp only[iG] at h2
       simp only[aA,aI] at h2
       obtain ⟨rfl,rfl⟩:=h2
       have hv1:∀ b∈v,b=true:=fun b hb=>hvs b (by simpa using hb)
       refine ⟨fun h0=>(by rw[h0] at hrd;cases hrd),fun i hi=>?_⟩
       rw[hrd] at hi
       obtain rfl:i=j:=by simpa using hi
       unfold xOp
       rw[hWj,cond_false]
       unfold aBa
       simp only[ho]
       rcases jF hr h1 hv1 with ⟨hw,u,w',S',β',hrun,nF,_⟩ | ⟨hw,nF⟩
       ·simp only[hw,if_true]
        unfold xop
        rcases hrun with hrun | ⟨hrun,_⟩
        ·rw[hrun]
         have hup:=(aCi hmk hrun).1
         exact ⟨hup,fun w'' zW=>h Γ S' (fQ β' om) _ w'' (gC (nF.up zW) hk) x hm⟩
        ·obtain ⟨_,v,hv⟩:=aCi hmk hrun
         cases hv
       ·simp only[hw,aR,if_false]
        exact fun w' j8=>h Γ S (fQ β om) _ w' (gC (nF.up j8) hk) x hm
      ·cases h2
   ·cases he
theorem cX.aWS (j:Nat) (keep om:List Nat) {fuel fuel':Nat} {listed:Array Bool} {dD:St} (sH:fuel=1+fuel')
 (hf:(decide (Region.ready .any ops listed=[j]) && (!W j && (ops[j]?).elim false fun o=>xZ o.op))=true) (he:iN P n ops (opsOf ops [j]) st keep om=some ([],dD))
 (h:cX P n ops W fuel' (listed.setIfInBounds j true) cs dD m go ab):cX P n ops W fuel listed cs st m go ab :=
 fun Γ S β a w hr x hx=>cX.a0i (vs:=[]) j keep om sH hf he h Γ S β a w hr x hx
end
end Go.Dl

namespace Go.Dl
end Go.Dl

namespace Go.Dl
variable [dO]
abbrev sI (k:Nat) (x:Int):Nat × D:=(k,.c (.val (.int .i64 x)))
abbrev sB (k:Nat) (x:Bool):Nat × D:=(k,.c (.val (.bool x)))
abbrev sS (k:Nat) (x:Bytes):Nat × D:=(k,.c (.str x))
abbrev sP (k a b c:Nat):Nat × D:=(k,.c (.ptr a b c))
section
variable {P:Program} {n:Nat} {A T:Type} {go:T→St} {ab:A→Ex × St} {st dD:St} {m:Option (A ⊕ T)} {cs:List Code} {c:Code}
end
end Go.Dl

namespace Go.Dl
variable [dO]
open Go.RowKit
section
variable {P:Program} {n:Nat} {ops:Array Oper} {W:Nat→Bool} {A T:Type} {go:T→St} {ab:A→Ex × St} {st dD:St} {m:Option (A ⊕ T)} {cs:List Code}
def aCj:Operand→Bool
 | .const (.slice none 0 0)=>true
 | _=>false
def oI:Op→Bool
 | .buildSlice _ _ _=>true
 | .alloc _=>true
 | .makeSlice _ _ _=>true
 | .call c=>(match c.callee,c.args.toList with
   | .builtin .append,[x,_]=>aCj x
   | _,_=>false)
 | _=>false
theorem aNN (t:TypeId) (v:Value):Mk P (Instr.alloc t true v):=by
 unfold Instr.alloc
 refine Mk.bind (Mk.still (nH t)) fun z=>?_
 dsimp only
 refine Mk.bind (fun w a w' h=>?_) fun a=>Mk.pure _
 exact aEC h
theorem vM {t t' ty:TypeId} {td:TypeDesc} {Γ:j6} {S:Mem} {β:dG} {w w':World} {xs xs':List Obj} {src d':D} {x v':Value} {vs:List Bool} (ht':P.underlying t'=some td) (htd:(∃ u,td = .slice u)∨td = .string)
 (ts:Array TypeId) (h0:ts[0]? = some t) (h1:ts[1]? = some t') (hc:Core Γ S β w xs) (hx:dR S β src x) (h:qB P t (.c .nil) src xs=some (vs,d',xs')) (hvs:∀ b∈vs,b=true)
 (hr:(Builtin.append_ ts ty #[.slice none 0 0,x]).run P w = .ok v' w'):Up w w':=by
 unfold qB at h
 cases ht:P.underlying t with
 | none=>simp [ht] at h
 | some tdd =>
   cases tdd with
   | slice e =>
     simp only[ht] at h
     cases hi:P.info? e with
     | none=>simp [hi] at h
     | some i =>
       simp only[hi] at h
       cases hz:i.zero with
       | none=>simp [hz] at h
       | some z =>
         simp only[hz] at h
         have h2:=bZ h
         clear h
         obtain ⟨hg,h⟩:=h2
         simp only[aC,aW] at hg
         obtain ⟨hzs,hsz,hby⟩:=hg
         have hzs:=aH hzs
         cases hsr:aBX P e i.size src xs with
         | none=>simp [hsr] at h
         | some p =>
           obtain ⟨m,g2⟩:=p
           simp only[hsr] at h
           obtain ⟨news,hsrc⟩:=xJ hsz hc hx hsr
           simp only[aA,aI] at h
           obtain ⟨rfl,_,_⟩:=h
           have hrm:room (m * i.bytes)=true:=hvs _ (by simp)
           have a0j:(0+m) * i.bytes≤140737488355328:=by rw[Nat.zero_add];simpa [room] using hrm
           have hm:0+m≤140737488355328:=aS (Nat.le_mul_of_pos_right _ hby) a0j
           obtain ⟨v2,w2,sZ,_,hgrow,_⟩:=s9 (ty:=ty) ht ht' htd hi hz hzs (World.ownsRow_nil w 0 e i.size) hsrc (by simp only[maxLen];omega) a0j ts h0 h1
           rw[hr] at sZ
           obtain ⟨rfl,rfl⟩:v'=v2∧w'=w2:=by cases sZ;exact ⟨rfl,rfl⟩
           exact ⟨hgrow.os,hgrow.tape,hgrow.output,hgrow.size,fun b hb=>hgrow.block b hb (by simp [Value.ownBlock])⟩
   | _=>simp [ht] at h
theorem aSN {Γ:j6} {S:Mem} {β:dG} {a:Act} {w w':World} {o:Oper} {x:Next} {vs:List Bool} (hm:oI o.op=true) (hgd:o.guard=none) (hr:RR Γ S β a w n st) (he:mC P n ops o st=some (vs,dD)) (hvs:∀ b∈vs,b=true)
 (h:(execOp a.eval o).run P w = .ok x w'):Up w w'∧∃ v,x = .value v:=by
 unfold oI at hm
 split at hm
 ·rename_i t len parts hop
  exact aCi (by rw[hop];rfl) h
 ·rename_i t hop
  unfold execOp at h
  rw[hop] at h
  dsimp only at h
  rw[Sem.run_bind] at h
  cases hq:(Instr.alloc t true (.tuple #[])).run P w with
  | halt a b=>rw[hq] at h;cases h
  | ok a w1 =>
    rw[hq] at h
    have:=aNN _ _ _ _ _ hq
    cases h
    exact ⟨this,_,rfl⟩
 ·rename_i t l c hop
  unfold mC at he
  unfold guardOf at he
  rw[hgd] at he
  dsimp only at he
  obtain ⟨_,he⟩:=bZ he
  split at he
  ·rename_i vs' d xs vA
   simp only[aA,aI] at he
   obtain ⟨rfl,rfl⟩:=he
   have h0:st.holds []:=fun q hq=>by cases hq
   have hv:=gN hr h0
   unfold aAC at vA
   rw[hop] at vA
   dsimp only at vA
   obtain ⟨_,vA⟩:=bZ vA
   unfold aE0 at vA
   rw[hop] at vA
   dsimp only at vA
   obtain ⟨v2,w2,_,_,sZ,_,_,_,_,hup⟩:=rX (by rw[qD];exact hr.core) (hv l) (hv c) vA hvs
   have hrun:(execOp a.eval o).run P w=((do let v ← Instr.makeSlice t (a.eval l) (a.eval c);pure (Next.value v)):Sem Next).run P w:=by
    unfold execOp
    rw[hop]
   rw[hrun,Sem.run_bind,sZ] at h
   cases h
   exact ⟨hup,_,rfl⟩
  ·cases he
 ·rename_i c hop
  obtain ⟨callee,args,pS⟩:=c
  dsimp only at hm
  split at hm
  ·rename_i x0 y ha
   have ha':args = #[x0,y]:=by apply Array.ext';simpa using ha
   subst ha'
   unfold mC at he
   unfold guardOf at he
   rw[hgd] at he
   dsimp only at he
   obtain ⟨_,he⟩:=bZ he
   split at he
   ·rename_i vs' d xs vA
    simp only[aA,aI] at he
    obtain ⟨rfl,rfl⟩:=he
    have h0:st.holds []:=fun q hq=>by cases hq
    have hv:=gN hr h0
    unfold aAC at vA
    rw[hop] at vA
    dsimp only at vA
    obtain ⟨_,vA⟩:=bZ vA
    unfold aE0 at vA
    rw[hop] at vA
    dsimp only at vA
    have aA6:x0 = .const (.slice none 0 0):=by
     unfold aCj at hm
     split at hm
     ·rfl
     ·cases hm
    subst aA6
    have aGz:((do let dd ← resolve a.eval ⟨.builtin .append,#[.const (.slice none 0 0),y],pS⟩ o.type;invoke dd.target dd.args):Sem Next).run P =
     (builtin .append pS o.type (#[Operand.const (.slice none 0 0),y].map fun | .const _=>true | _=>false) (#[Operand.const (.slice none 0 0),y].map a.eval)).run P:=rfl
    have hrun:(execOp a.eval o).run P w=((do let v ← Builtin.append_ pS o.type #[.slice none 0 0,a.eval y];pure (Next.value v)):Sem Next).run P w:=by
     unfold execOp
     rw[hop]
     dsimp only
     rw[aGz,show Array.map a.eval #[Operand.const (.slice none 0 0),y] = #[.slice none 0 0,a.eval y] by simp;rfl]
     rfl
    rw[hrun,Sem.run_bind] at h
    cases hq:(Builtin.append_ pS o.type #[.slice none 0 0,a.eval y]).run P w with
    | halt u v=>rw[hq] at h;cases h
    | ok u w1 =>
      rw[hq] at h
      cases h
      refine ⟨?_,_,rfl⟩
      split at vA
      ·rename_i heq _ _
       simp at heq
      ·rename_i t t' r e1 h2 h3
       simp only[List.cons.injEq,and_true] at h2
       obtain ⟨rfl,rfl⟩:=h2
       have h0:pS[0]? = some t:=by rw[← bF,h3];rfl
       have h1':pS[1]? = some t':=by rw[← bF,h3];rfl
       split at vA
       ·rename_i u hu
        exact vM hu (.inl ⟨_,rfl⟩) pS h0 h1' (by rw[qD];exact hr.core) (hv y) vA hvs hq
       ·rename_i hu
        exact vM hu (.inr rfl) pS h0 h1' (by rw[qD];exact hr.core) (hv y) vA hvs hq
       ·cases vA
      all_goals simp_all
   ·cases he
  ·cases hm
 ·cases hm
def eQ (P:Program) (n:Nat) (ops:Array Oper) (W:Nat→Bool) {A T:Type} (i fuel:Nat) (listed:Array Bool) (cs:List Code) (st:St) (m:Option (A ⊕ T)) (go:T→St) (ab:A→Ex × St):Prop :=
 ∀ Γ S β a w,RR Γ S β a w n st→∀ x,m=some x→xOp P ops W (Exit.then (wpL P cs (Post Γ n go ab x)) (Post Γ n go ab x)) i (vB P .any ops W (Exit.then (wpL P cs (Post Γ n go ab x)) (Post Γ n go ab x)) fuel (listed.setIfInBounds i true)) a w
theorem cX.fork {fuel fuel':Nat} {listed:Array Bool} (l:List Nat) (hl:(Nat.beq fuel (fuel'+1) && (decide (Region.ready .any ops listed=l) && !l.isEmpty))=true) (h:∀ i∈l,eQ P n ops W i fuel' listed cs st m go ab):cX P n ops W fuel listed cs st m go ab:=by
 intro Γ S β a w hr x hx
 simp only[aC,aB] at hl
 obtain ⟨hf,hrd,hne⟩:=hl
 have hf:=aH hf
 subst hf
 refine ⟨fun h0=>?_,fun i hi=>?_⟩
 ·rw[hrd] at h0;subst h0;cases hne
 ·rw[hrd] at hi;exact h i hi Γ S β a w hr x hx
theorem cX.mV {fuel fuel':Nat} {listed:Array Bool} (i:Nat) (hl:(Nat.beq fuel (fuel'+1) && (decide (Region.ready .any ops listed=[i]) && ![i].isEmpty))=true) (h:eQ P n ops W i fuel' listed cs st m go ab):cX P n ops W fuel listed cs st m go ab :=
 cX.fork [i] hl fun j hj=>by obtain rfl:=aJ.1 hj;exact h
theorem cX.aU1 {fuel fuel':Nat} {listed:Array Bool} (i j:Nat) (hl:(Nat.beq fuel (fuel'+1) && (decide (Region.ready .any ops listed=[i,j]) && ![i,j].isEmpty))=true) (h1:eQ P n ops W i fuel' listed cs st m go ab) (h2:eQ P n ops W j fuel' listed cs st m go ab):cX P n ops W fuel listed cs st m go ab :=
 cX.fork [i,j] hl fun k hk=>by
  rcases aY.1 hk with rfl | hk
  ·exact h1
  ·obtain rfl:=aJ.1 hk;exact h2
theorem eQ.aFn (j:Nat) (keep om:List Nat) {fuel:Nat} {listed:Array Bool} {vs:List Bool} {dD:St}
 (hf:(!W j && (ops[j]?).elim false fun o=>o.guard.isNone && (oI o.op || gH o.op))=true) (he:iN P n ops (opsOf ops [j]) st keep om=some (vs,dD))
 (h:cX P n ops W fuel (listed.setIfInBounds j true) cs dD m go ab):eQ P n ops W j fuel listed cs st (bY vs m) go ab:=by
 intro Γ S β a w hr x hx
 obtain ⟨hvs,hm⟩:=fI hx
 simp only[aC,aQ] at hf
 obtain ⟨hWj,hmk⟩:=hf
 cases ho:ops[j]? with
 | none=>rw[ho] at hmk;cases hmk
 | some o =>
   rw[ho] at hmk
   have hmk:(o.guard.isNone && (oI o.op || gH o.op))=true:=hmk
   rw[aC] at hmk
   obtain ⟨hgd,hmk⟩:=hmk
   have hgd:o.guard=none:=by simpa using hgd
   have zY:opsOf ops [j]=[o]:=by simp [opsOf,ho]
   rw[zY] at he
   unfold iN at he
   split at he
   ·rename_i vs2 oZ h2
    cases hk:oZ.keep keep om with
    | none=>rw[hk] at he;cases he
    | some st3 =>
      rw[hk] at he
      simp only[Option.map_some,aA,aI] at he
      obtain ⟨rfl,rfl⟩:=he
      unfold iG at h2
      split at h2
      ·rename_i v st1 h1
       simp only[iG] at h2
       simp only[aA,aI] at h2
       obtain ⟨rfl,rfl⟩:=h2
       have hv1:∀ b∈v,b=true:=fun b hb=>hvs b (by simpa using hb)
       unfold xOp
       rw[hWj,cond_false]
       unfold aBa
       simp only[ho]
       rcases jF hr h1 hv1 with ⟨hw,u,w',S',β',hrun,nF,hq⟩ | ⟨hw,nF⟩
       ·simp only[hw,if_true]
        unfold xop
        have hup:∀ {y:Next},(execOp a.eval o).run P w = .ok y w'→Up w w'∧∃ v,y = .value v:=by
         intro y hy
         rw[aL] at hmk
         rcases hmk with hmk | hmk
         ·exact aSN hmk hgd hr h1 hv1 hy
         ·obtain ⟨rfl,rfl,rfl,hq2⟩:=hq hmk
          have:=hq2 w' (.inr (Up.refl _))
          rw[hy] at this
          cases this
          exact ⟨Up.refl _,_,rfl⟩
        rcases hrun with hrun | ⟨hrun,_⟩
        ·rw[hrun]
         exact ⟨(hup hrun).1,fun w'' zW=>h Γ S' (fQ β' om) _ w'' (gC (nF.up zW) hk) x hm⟩
        ·obtain ⟨_,v,hv⟩:=hup hrun
         cases hv
       ·simp only[hw,aR,if_false]
        exact fun w' j8=>h Γ S (fQ β om) _ w' (gC (nF.up j8) hk) x hm
      ·cases h2
   ·cases he
theorem eQ.writes (j:Nat) (keep om:List Nat) {fuel:Nat} {listed:Array Bool} {vs:List Bool} {dD:St}
 (hf:(W j && (ops[j]?).isSome)=true) (he:iN P n ops (opsOf ops [j]) st keep om=some (vs,dD))
 (h:cX P n ops W fuel (listed.setIfInBounds j true) cs dD m go ab):eQ P n ops W j fuel listed cs st (bY vs m) go ab:=by
 intro Γ S β a w hr x hx
 obtain ⟨hvs,hm⟩:=fI hx
 simp only[aC] at hf
 obtain ⟨hWj,hso⟩:=hf
 obtain ⟨o,ho⟩:=bI.1 hso
 have zY:opsOf ops [j]=[o]:=by simp [opsOf,ho]
 rw[zY] at he
 unfold iN at he
 split at he
 ·rename_i vs2 oZ h2
  cases hk:oZ.keep keep om with
  | none=>rw[hk] at he;cases he
  | some st3 =>
    rw[hk] at he
    simp only[Option.map_some,aA,aI] at he
    obtain ⟨rfl,rfl⟩:=he
    unfold xOp
    rw[hWj,cond_true]
    unfold wpOp
    rw[ho]
    unfold iG at h2
    split at h2
    ·rename_i v st1 h1
     simp only[iG] at h2
     simp only[aA,aI] at h2
     obtain ⟨rfl,rfl⟩:=h2
     have hv1:∀ b∈v,b=true:=fun b hb=>hvs b (by simpa using hb)
     dsimp only
     rcases jF hr h1 hv1 with ⟨hw,u,w',S',β',hrun,nF,_⟩ | ⟨hw,nF⟩
     ·simp only[hw,if_true]
      left
      have rY:=h Γ S' (fQ β' om) _ w' (gC nF hk) x hm
      rcases hrun with hrun | ⟨hrun,rfl⟩
      ·simp only[Oper.wp,Oper.upon,hrun]
       exact rY
      ·simp only[Oper.wp,Oper.upon,hrun]
       exact rY
     ·simp only[hw,aR,if_false]
      exact h Γ S (fQ β om) _ w (gC nF hk) x hm
    ·cases h2
 ·cases he
theorem eQ.aED (j:Nat) (keep om:List Nat) {fuel:Nat} {listed:Array Bool} {dD:St}
 (hf:(!W j && (ops[j]?).elim false fun o=>o.guard.isNone && (oI o.op || gH o.op))=true) (he:iN P n ops (opsOf ops [j]) st keep om=some ([],dD))
 (h:cX P n ops W fuel (listed.setIfInBounds j true) cs dD m go ab):eQ P n ops W j fuel listed cs st m go ab :=
 fun Γ S β a w hr x hx=>eQ.aFn (vs:=[]) j keep om hf he h Γ S β a w hr x hx
theorem eQ.aBA (j:Nat) (keep om:List Nat) {fuel:Nat} {listed:Array Bool} {dD:St}
 (hf:(W j && (ops[j]?).isSome)=true) (he:iN P n ops (opsOf ops [j]) st keep om=some ([],dD))
 (h:cX P n ops W fuel (listed.setIfInBounds j true) cs dD m go ab):eQ P n ops W j fuel listed cs st m go ab :=
 fun Γ S β a w hr x hx=>eQ.writes (vs:=[]) j keep om hf he h Γ S β a w hr x hx
end
end Go.Dl

namespace Go.Dl
open Go.RowKit
variable [dO]
section
variable {P:Program} {n:Nat} {A T R:Type} {go:T→St} {ab:A→Ex × St} {st dD:St} {m:Option (A ⊕ T)} {cs:List Code}
end
end Go.Dl

namespace Go.Dl
variable [dO]
def El.o {α:Type} (E:El α) (x:α):Obj:=.cells (E.cs x)
section
variable {P:Program} {n:Nat} {A T R:Type} {go:T→St} {ab:A→Ex × St} {st dD:St} {cs:List Code} {m:Option (A ⊕ T)}
theorem aLV {Γ:j6} {S:Mem} {β:dG} {a:Act} {w:World} {ops:Array Oper} {o:Oper} {g:List (Nat × Bool)} (hr:RR Γ S β a w n st) (hg:guardOf ops o st=some g) (hh:st.holds g) :
 Region.wanted o (yielded ops a.tmps)=true:=by
 unfold guardOf at hg
 cases hgd:o.guard with
 | none=>simp [Region.wanted,hgd]
 | some jw =>
   obtain ⟨j,want⟩:=jw
   rw[hgd] at hg
   dsimp only at hg
   cases tC:(ops[j]?).bind (·.dst) with
   | none=>rw[tC] at hg;cases hg
   | some tj =>
     rw[tC] at hg
     simp only[aA] at hg
     subst hg
     have hrel:=hr.tm tj (fun q hq=>hh q (aT _ hq))
     have hxw:=hh (tj,want) (by simp)
     simp only at hxw
     rw[hxw] at hrel
     have hval:a.tmps.getD tj undef = .bool want:=hrel
     have hsome:a.tmps[tj]? = some (.bool want):=by
      rw[aO] at hval
      cases hq:a.tmps[tj]? with
      | none=>rw[hq] at hval;cases hval
      | some u=>rw[hq] at hval;simp only[Option.getD_some] at hval;rw[hval]
     have gX:yielded ops a.tmps j=some want:=by
      unfold yielded
      rw[tC]
      show (match a.tmps[tj]? with | some (.bool b)=>some b | _=>none)=some want
      rw[hsome]
     simp only[Region.wanted,hgd,gX]
     simp
theorem aGO {Γ:j6} {S:Mem} {β:dG} {a:Act} {w:World} {ops:Array Oper} {o:Oper} {g:List (Nat × Bool)} {b:Bool} (hr:RR Γ S β a w n st) (hg:guardOf ops o st=some g) (hb:iW st g=some b) (hh:¬ st.holds g) :
 Region.wanted o (yielded ops a.tmps)=false:=by
 unfold guardOf at hg
 cases hgd:o.guard with
 | none =>
   rw[hgd] at hg
   simp only[aA] at hg
   subst hg
   exact absurd (fun q hq=>by cases hq) hh
 | some jw =>
   obtain ⟨j,want⟩:=jw
   rw[hgd] at hg
   dsimp only at hg
   cases tC:(ops[j]?).bind (·.dst) with
   | none=>rw[tC] at hg;cases hg
   | some tj =>
     rw[tC] at hg
     simp only[aA] at hg
     subst hg
     obtain ⟨x0,hx0⟩:=mT hb
     have oC:∀ (yl:Option Bool),yielded ops a.tmps j=yl→Region.wanted o (yielded ops a.tmps)=(yl == some want):=by
      intro yl hy
      simp only[Region.wanted,hgd,hy]
     have gX:yielded ops a.tmps j=match a.tmps[tj]? with | some (.bool b)=>some b | _=>none:=by
      unfold yielded
      rw[tC]
      rfl
     by_cases nF:st.holds (st.nE tj)
     ·have hrel:=hr.tm tj nF
      rw[hx0] at hrel
      have hval:a.tmps.getD tj undef = .bool x0:=hrel
      have hsome:a.tmps[tj]? = some (.bool x0):=by
       rw[aO] at hval
       cases hq:a.tmps[tj]? with
       | none=>rw[hq] at hval;cases hval
       | some u=>rw[hq] at hval;simp only[Option.getD_some] at hval;rw[hval]
      rw[oC (some x0) (by rw[gX,hsome])]
      have hne:x0≠want:=by
       intro e
       subst e
       refine hh fun q hq=>?_
       rcases aY.1 hq with rfl | hq
       ·exact hx0
       ·exact nF q hq
      simpa using hne
     ·have hun:=hr.un tj nF
      have hnone:yielded ops a.tmps j=none:=by
       rw[gX]
       rw[aO] at hun
       cases hq:a.tmps[tj]? with
       | none=>rfl
       | some u =>
         rw[hq] at hun
         simp only[Option.getD_some] at hun
         rw[hun];rfl
      rw[oC none hnone]
      rfl
def aBB (P:Program) (n:Nat) (ops:Array Oper) (o:Oper) (st:St):Option (Nat × List (Nat × Bool) × C × List Obj) :=
 match o.op,o.dst,guardOf ops o st with
 | .buildSlice t len parts,some d,some g =>
   (match iW st g,nQ P t len parts.toList (st.zN g) with
   | some _,some ([],.c (.own k m),xs) =>
     (match xs[k]? with
     | some (.row _ wd _ get) =>
       bif Nat.blt d n && (lQ st d && g.all (fun q=>!Nat.beq q.1 d)) then some (d,g,.tree wd m get,(xs.set k .dead).map (Obj.sub (nG k wd get))) else none
     | _=>none)
   | _,_=>none)
 | _,_,_=>none
theorem aLW {Γ:j6} {S:Mem} {β:dG} {w:World} {xs:List Obj} (h:Core Γ S β w xs):Core Γ S β w (xs++[.dead]):=by
 have old:∀ {o:Nat} {x:Obj},(xs++[.dead])[o]? = some x→x.live=true→xs[o]? = some x:=by
  intro o x hx hl
  by_cases ho:o<xs.length
  ·rwa [List.getElem?_append_left ho] at hx
  ·rw[List.getElem?_append_right (by omega)] at hx
   cases hq:o - xs.length with
   | zero=>rw[hq] at hx;simp at hx;rw[← hx] at hl;cases hl
   | succ q=>rw[hq] at hx;simp at hx
 refine ⟨h.frame,h.holds,fun o x hx=>?_,fun o ho=>h.out o (by simp at ho;omega),fun o o' k k' x x' hx hx' hl hl'=>h.inj o o' k k' x x' (old hx hl) (old hx' hl') hl hl',fun o k x hx hl=>h.sep o k x (old hx hl) hl,fun o k x hx hl=>h.mine o k x (old hx hl) hl⟩
 cases hl:x.live with
 | true=>exact h.cC o x (old hx hl)
 | false=>cases x <;> first | trivial | cases hl
theorem eO.a5t (k k':Nat) {ops:Array Oper} {l:List Oper} {t:Nat} {g:List (Nat × Bool)} {x x':C} (hle:hG x x') (hk:(Nat.blt k l.length && Nat.beq k' (k+1))=true)
 (hi:aBB P n ops (jQ l k) st=some (t,g,x,st.cC++[.dead])) (h:eO P n ops (l.drop k') cs (st.put (some t) (.c x') (st.cC++[.dead]) g) m go ab):eO P n ops (l.drop k) cs st m go ab:=by
 rw[aC] at hk
 obtain ⟨hk,hk'⟩:=hk
 have hk':=aH hk'
 subst hk'
 rw[nZ hk]
 unfold aBB at hi
 split at hi
 ·rename_i ty len parts d g' ho lY hg
  split at hi
  ·rename_i b ko mo xs hb vA
   split at hi
   ·rename_i e wd n0 get hx
    obtain ⟨hc,hi⟩:=bZ hi
    simp only[aA,aI] at hi
    obtain ⟨rfl,rfl,rfl,hob⟩:=hi
    simp only[aC,aN,aW] at hc
    obtain ⟨htn,hfree,hgt⟩:=hc
    have xU:∀ q∈g',q.1≠d:=fun q hq e=>by
     have:=hgt q hq
     rw[e] at this
     simp at this
    intro Γ S β a w hr q hq
    by_cases hh:st.holds g'
    ·have hw:=aLV hr hg hh
     simp only[wpList,hw,if_true]
     left
     obtain ⟨v,w',S1,β1,hrun,hd,hs1,hb1,nM⟩:=oB (Γ:=Γ) (a:=a) (fun y=>gN hr hh y) (by rw[qD];exact hr.core) vA
     have a0l:(execOp a.eval (jQ l k)).run P w = .ok (.value v) w':=by
      unfold execOp
      rw[ho]
      simp only
      rw[Sem.run_bind,hrun];rfl
     simp only[Oper.wp,Oper.upon,a0l]
     obtain ⟨S2,hs2,hh2,hown,hch⟩:=aB9 nM hx
     have hr1:=hr.put nM hs1 hb1 htn hfree (g:=[]) (fun q hq=>by cases hq) (fun _=>hd) (fun hno=>absurd (fun q hq=>by cases hq) hno)
     have sZ:=zV (f:=nG ko wd get) hr1 hx rfl hs2 hh2 (fun o' m' v hv=>by
      simp only[nG]
      cases hb:Nat.beq o' ko with
      | true =>
        have:=aH hb
        subst this
        exact hown m' v hv
      | false=>rw[cond_false];exact cV.mono hs2 _ _ _ hv) (fun o' i j v hv=>cV.mono hs2 _ _ _ hv)
      (fun o' m' b=>by simp only[nG];cases Nat.beq o' ko <;> simp) (fun o' i j b=>by simp [nG]) hch
     have fL:Core Γ S2 β1 w' (st.cC++[.dead]):=by
      have:=sZ.core
      rw[← hob]
      exact this
     rw[lY]
     exact h Γ S2 β1 _ w' (hr.put fL (jL.trans hs1 hs2) hb1 htn hfree xU (fun _=>hle _ _ _ (hown _ _ hd)) (fun hno=>absurd hh hno)) q hq
    ·have hw:=aGO hr hg hb hh
     simp only[wpList,hw,aR,if_false]
     rw[lY]
     exact h Γ S β _ w (hr.put (aLW hr.core) (jL.refl _) (kK.refl _) htn hfree xU (fun hy=>absurd hy hh) (fun _=>rfl)) q hq
   ·cases hi
  ·cases hi
 ·cases hi
theorem eO.lit {α:Type} (E:El α) (lst:List α) (k k':Nat) {ops:Array Oper} {l:List Oper} {t:Nat} {g:List (Nat × Bool)} (hk:(Nat.blt k l.length && Nat.beq k' (k+1))=true)
 (hi:aBB P n ops (jQ l k) st=some (t,g,.tree E.w lst.length (xE (lst.map E.cs)),st.cC++[.dead])) (h:eO P n ops (l.drop k') cs (st.put (some t) (.c (E.tree lst)) (st.cC++[.dead]) g) m go ab):eO P n ops (l.drop k) cs st m go ab :=
 eO.a5t k k' (aNL E E.cs (fun _=>rfl) lst) hk hi h
end
end Go.Dl

namespace Go.Dl
variable [dO]
open Go.RowKit
section
variable {P:Program} {n:Nat} {ops:Array Oper} {W:Nat→Bool} {A T R:Type} {go:T→St} {ab:A→Ex × St} {st dD:St} {cs:List Code}
theorem eQ.c8 (j:Nat) (om:List Nat) {fuel:Nat} {listed:Array Bool} {f:FuncId} {cR:List D} {t:Nat} {mc:Option R} {res:R→D} {out:R→List Obj} {m:R→Option (A ⊕ T)}
 (hf:(W j && Nat.blt j ops.size)=true) (hi:lT P n (jQ ops.toList j) st om=some (f,cR,t)) (lZ:bV P f cR (gS st om) mc res out)
 (h:∀ r,cX P n ops W fuel (listed.setIfInBounds j true) cs (st.put (some t) ((res r).mU om st.cC.length) (lR om (out r) st.cC) []) (m r) go ab):eQ P n ops W j fuel listed cs st (mc.bind m) go ab:=by
 rw[aC,aW] at hf
 obtain ⟨hWj,a5u⟩:=hf
 have iT:ops[j]? = some (jQ ops.toList j):=by simp [jQ,List.getD,a5u]
 unfold lT at hi
 split at hi
 ·rename_i x args pS t' hgd ho lY
  split at hi
  ·rename_i f' oG fX
   obtain ⟨hc,hi⟩:=bZ hi
   simp only[aA,aI] at hi
   obtain ⟨rfl,rfl,rfl⟩:=hi
   simp only[aC,aN,aW] at hc
   obtain ⟨hcb,hnd,hlt,htn,hfree⟩:=hc
   intro Γ S β a w hr q hq
   cases hm:mc with
   | none=>rw[hm] at hq;cases hq
   | some r =>
     rw[hm,Option.bind_some] at hq
     unfold xOp
     rw[hWj,cond_true]
     unfold wpOp
     rw[iT]
     simp only[Region.wanted,hgd,if_true]
     left
     unfold xR at fX
     split at fX
     ·rename_i f' k cap hx
      simp only[aA,aI] at fX
      obtain ⟨rfl,oD⟩:=fX
      have hxr:=gN hr (g:=[]) (fun q hq=>by cases hq) x
      rw[hx] at hxr
      obtain ⟨vs,hxv,tE⟩:=qG hxr
      have hrun:(execOp a.eval (jQ ops.toList j)).run P w = .ok (.enter f' (args.map a.eval++vs)) w:=by
       unfold execOp
       rw[ho]
       simp only[resolve,hxv,Deferred.ofValue,pure_bind,invoke]
       rw[kA hcb]
       simp
      simp only[Oper.wp,Oper.upon,hrun]
      have hargs:fT S (fQ β om) oG (args.map a.eval++vs).toList:=by
       rw[← oD]
       have e:(args.map a.eval++vs).toList=args.toList.map a.eval++vs.toList:=by simp
       rw[e]
       exact (fT.jP (fT.aFc hr args.toList)).append (fT.jP tE)
      have fL:=hr.core.jP hnd
      have vY:Core ⟨S,w,uG (fQ β om) (gS st om),fQ β om⟩ S (fQ β om) w (gS st om):=by
       refine ⟨⟨rfl,rfl,rfl,aM _,fun _ _ _=>rfl,fun _ _ _ _=>rfl,jL.refl _,fL.aGD,fL.inv⟩,fL.holds,fL.cC,fL.out,fL.inj,fL.sep,fun o k y hy hl hk=>⟨(fL.mine o k y hy hl hk).1,fun _=>⟨o,k,y,hy,hl,hk,rfl⟩⟩⟩
      have:=lZ S (fQ β om) w (args.map a.eval++vs).toList vY hargs r hm
      have e2:(args.map a.eval++vs).toList.toArray=args.map a.eval++vs:=by simp
      rw[e2] at this
      refine this.mono fun e w' he=>?_
      obtain ⟨v,S',βc,rfl,hres,hB,nM⟩:=he
      obtain ⟨pP,hle⟩:=hr.core.after hnd hlt nM (fun o k ho hk=>hB o k (by simpa [gS] using ho) hk)
      have aB8:dR S' (zT β om st.cC.length βc) ((res r).mU om st.cC.length) v:=D.kW (fun i=>xS hnd hlt i) hres
      have hput:=hr.put pP nM.frame.le hle htn hfree (g:=[]) (fun q hq=>by cases hq) (fun _=>aB8) (fun hno=>absurd (fun q hq=>by cases hq) hno)
      rw[lY]
      exact h r Γ S' _ _ w' hput q hq
     ·cases fX
  ·cases hi
 ·cases hi
theorem eQ.conv {i fuel:Nat} {listed:Array Bool} {m:Option (A ⊕ T)} (hc:Conv n st dD) (h:eQ P n ops W i fuel listed cs dD m go ab):eQ P n ops W i fuel listed cs st m go ab:=fun Γ S β a w hr x hx=>by
 obtain ⟨S',β',h'⟩:=hc Γ S β a w hr
 exact h Γ S' β' a w h' x hx
theorem cX.aWT (stf:St) (mf:Option (A ⊕ T)) {fuel:Nat} {listed:Array Bool} {m:Option (A ⊕ T)} (h1:Ref P n cs stf mf go ab)
 (h2:Ref P n cs stf mf go ab→cX P n ops W fuel listed cs st m go ab):cX P n ops W fuel listed cs st m go ab:=h2 h1
theorem cX.aFo {X:Type} (stf:X→St) (mf:X→Option (A ⊕ T)) {fuel:Nat} {listed:Array Bool} {m:Option (A ⊕ T)} (h1:∀ x,Ref P n cs (stf x) (mf x) go ab)
 (h2:(∀ x,Ref P n cs (stf x) (mf x) go ab)→cX P n ops W fuel listed cs st m go ab):cX P n ops W fuel listed cs st m go ab:=h2 h1
end
end Go.Dl

namespace Go.Dl
variable [dO]
def wB (P:Program) (n:Nat) (ops:Array Oper) (l:List Oper) (st:St) (keep om:List Nat):St:=match iN P n ops l st keep om with
 | some (_,s)=>s
 | none=>st
section
variable {P:Program} {n:Nat} {A T:Type} {go:T→St} {ab:A→Ex × St} {st:St} {cs:List Code} {m:Option (A ⊕ T)}
end
def wC (P:Program) (n:Nat) (ops:Array Oper) (l:List Oper) (st:St) (keep om:List Nat):Option (List Bool):=(iN P n ops l st keep om).map (·.1)
theorem yA {P:Program} {n:Nat} {ops:Array Oper} {l:List Oper} {st:St} {keep om:List Nat} {vs:List Bool} (h:wC P n ops l st keep om=some vs):iN P n ops l st keep om=some (vs,wB P n ops l st keep om):=by
 unfold wC at h
 unfold wB
 cases hr:iN P n ops l st keep om with
 | none=>rw[hr] at h;cases h
 | some x =>
   obtain ⟨v,s⟩:=x
   rw[hr] at h
   simp only[Option.map_some,aA] at h
   subst h
   rfl
section
variable {P:Program} {n:Nat} {ops:Array Oper} {W:Nat→Bool} {A T:Type} {go:T→St} {ab:A→Ex × St} {st:St} {cs:List Code} {m:Option (A ⊕ T)}
theorem cX.v1 (vs:List Bool) (is keep om:List Nat) {fuel fuel':Nat} {listed:Array Bool}
 (h:cX P n ops W fuel' ((kL .any ops W listed is).getD listed) cs (wB P n ops (opsOf ops is) st keep om) m go ab) (sH:fuel=is.length+fuel':=by rfl)
 (hf:(Region.noSelect ops && (kL .any ops W listed is).isSome)=true:=by kernel_rfl) (he:wC P n ops (opsOf ops is) st keep om=some vs:=by kernel_rfl):cX P n ops W fuel listed cs st (bY vs m) go ab :=
 cX.evC is keep om sH hf (yA he) h
theorem cX.v0 (is keep om:List Nat) {fuel fuel':Nat} {listed:Array Bool}
 (h:cX P n ops W fuel' ((kL .any ops W listed is).getD listed) cs (wB P n ops (opsOf ops is) st keep om) m go ab) (sH:fuel=is.length+fuel':=by rfl)
 (hf:(Region.noSelect ops && (kL .any ops W listed is).isSome)=true:=by kernel_rfl) (he:wC P n ops (opsOf ops is) st keep om=some []:=by kernel_rfl):cX P n ops W fuel listed cs st m go ab :=
 cX.aAa is keep om sH hf (yA he) h
theorem eQ.a1 (vs:List Bool) (j:Nat) (keep om:List Nat) {fuel:Nat} {listed:Array Bool}
 (h:cX P n ops W fuel (listed.setIfInBounds j true) cs (wB P n ops (opsOf ops [j]) st keep om) m go ab)
 (hf:(!W j && (ops[j]?).elim false fun o=>o.guard.isNone && (oI o.op || gH o.op))=true:=by kernel_rfl) (he:wC P n ops (opsOf ops [j]) st keep om=some vs:=by kernel_rfl):eQ P n ops W j fuel listed cs st (bY vs m) go ab :=
 eQ.aFn j keep om hf (yA he) h
theorem eQ.a0 (j:Nat) (keep om:List Nat) {fuel:Nat} {listed:Array Bool}
 (h:cX P n ops W fuel (listed.setIfInBounds j true) cs (wB P n ops (opsOf ops [j]) st keep om) m go ab)
 (hf:(!W j && (ops[j]?).elim false fun o=>o.guard.isNone && (oI o.op || gH o.op))=true:=by kernel_rfl) (he:wC P n ops (opsOf ops [j]) st keep om=some []:=by kernel_rfl):eQ P n ops W j fuel listed cs st m go ab :=
 eQ.aED j keep om hf (yA he) h
theorem eQ.w0 (j:Nat) (keep om:List Nat) {fuel:Nat} {listed:Array Bool}
 (h:cX P n ops W fuel (listed.setIfInBounds j true) cs (wB P n ops (opsOf ops [j]) st keep om) m go ab)
 (hf:(W j && (ops[j]?).isSome)=true:=by kernel_rfl) (he:wC P n ops (opsOf ops [j]) st keep om=some []:=by kernel_rfl):eQ P n ops W j fuel listed cs st m go ab :=
 eQ.aBA j keep om hf (yA he) h
end
end Go.Dl

namespace Go.Dl
variable [dO]
open Go.RowKit
abbrev iC (x:Int):C:=.val (.int .i64 x)
abbrev bC (x:Bool):C:=.val (.bool x)
def St.rm (st:St) (t:Nat):St:=⟨gA t st.tmps,st.cC,st.gd,st.h⟩
def St.nO (st:St):List (Nat × Nat)→St
 | []=>st
 | p::u=>(st.nO u).rm p.2
def unl (listed:Array Bool):List (Nat × Nat)→Array Bool
 | []=>listed
 | p::u=>(unl listed u).setIfInBounds p.1 false
def lst (listed:Array Bool):List (Nat × Nat)→Array Bool
 | []=>listed
 | p::u=>(lst listed u).setIfInBounds p.1 true
def gO (us:List (List (Nat × Nat))) (cv:List (Nat × List Bool)) (P:Program) (n:Nat) (ops:Array Oper) (W:Nat→Bool) {A T:Type} (fuel:Nat) (listed:Array Bool) (cs:List Code) (st:St) (m:Option (A ⊕ T)) (go:T→St) (ab:A→Ex × St):Prop :=
 (∀ p∈cv,∀ b∈p.2,b=true)→∀ u∈us,cX P n ops W (fuel+u.length) (unl listed u) cs (st.nO u) m go ab
def gU (us:List (List (Nat × Nat))) (cv:List (Nat × List Bool)) (P:Program) (n:Nat) (ops:Array Oper) (W:Nat→Bool) {A T:Type} (j fuel:Nat) (listed:Array Bool) (cs:List Code) (st:St) (m:Option (A ⊕ T)) (go:T→St) (ab:A→Ex × St):Prop :=
 (∀ p∈cv,∀ b∈p.2,b=true)→∀ u∈us,eQ P n ops W j (fuel+u.length) (unl listed u) cs (st.nO u) m go ab
def evs (us:List (List (Nat × Nat))):List (List (Nat × Nat) × (Nat × Nat)):=us.flatMap fun u=>(u.filter fun p=>us.contains (u.erase p)).map fun p=>(u,p)
def aCk (ops:Array Oper) (W:Nat→Bool) (us:List (List (Nat × Nat))):Bool:=us.all fun u=>u.all fun p=>!W p.1 && (ops[p.1]?).elim false fun o=>o.guard.isNone && (oI o.op || gH o.op)
def aCl (ops:Array Oper) (us bs:List (List (Nat × Nat))) (listed:Array Bool) (l:List Nat):Bool :=
 (evs us).all (fun q=>decide ((unl listed q.1).setIfInBounds q.2.1 true=unl listed (q.1.erase q.2))) && us.all fun u=>bs.contains u || (!(Region.ready .any ops (unl listed u)).isEmpty && (Region.ready .any ops (unl listed u)).all fun x=>l.any (Nat.beq x) || u.any fun p=>Nat.beq x p.1 && us.contains (u.erase p))
section
variable {P:Program} {n:Nat} {ops:Array Oper} {W:Nat→Bool} {A T R:Type} {go:T→St} {ab:A→Ex × St} {st dD oZ:St} {m:Option (A ⊕ T)} {cs:List Code} {j fuel fuel':Nat} {listed:Array Bool} {us:List (List (Nat × Nat))} {cv:List (Nat × List Bool)}
theorem St.tK:∀ u:List (Nat × Nat),(st.nO u).cC=st.cC
 | []=>rfl
 | p::u=>St.tK u
theorem St.aNP:∀ u:List (Nat × Nat),(st.nO u).gd=st.gd
 | []=>rfl
 | p::u=>St.aNP u
theorem aBC:∀ (u:List (Nat × Nat)),u.all (fun p=>!Nat.beq p.1 j)=true→(unl listed u).setIfInBounds j true=unl (listed.setIfInBounds j true) u
 | [],_=>rfl
 | p::u,h=>by
   rw[List.all_cons,aC] at h
   have hne:p.1≠j:=fun e=>by have:=h.1;rw[e] at this;simp at this
   unfold unl
   rw[← aBC u h.2,Array.setIfInBounds_comm _ _ hne]
theorem gO.core (bs:List (List (Nat × Nat))) (h0:∀ u∈bs,cX P n ops W (fuel+u.length) (unl listed u) cs (st.nO u) m go ab) (l:List Nat) (hl:∀ j∈l,∀ u∈us,u ∉ bs→eQ P n ops W j (fuel+u.length - 1) (unl listed u) cs (st.nO u) m go ab)
 (hz:bs.contains []=true) (hr:aCl ops us bs listed l=true) (hq:aCk ops W us=true) (hcv:∀ p∈cv,∀ b∈p.2,b=true)
 (he:(evs us).map (fun q=>iN P n ops (opsOf ops [q.2.1]) (st.nO q.1) ((st.nO (q.1.erase q.2)).tmps.map Prod.fst) (List.range st.cC.length))=(evs us).map fun q=>some (dK [] cv q.2.1,st.nO (q.1.erase q.2))) :
 ∀ (k:Nat),∀ u∈us,u.length≤k→cX P n ops W (fuel+u.length) (unl listed u) cs (st.nO u) m go ab
 | k,[],hu,_=>h0 [] (by simpa using hz)
 | 0,p::u,hu,hk=>absurd hk (by simp)
 | k+1,p::u,hu,hk=>by
   have hr':=hr
   unfold aCl at hr
   rw[aC,aN,aN] at hr
   obtain ⟨hse,hr⟩:=hr
   by_cases hbs:(p::u)∈bs
   ·exact h0 _ hbs
   have h1:=hr _ hu
   have a5v:bs.contains (p::u)=false:=by simpa using hbs
   simp only[a5v,Bool.false_or,aC,aQ] at h1
   obtain ⟨hne,h1⟩:=h1
   refine cX.fork (fuel':=fuel+u.length) (Region.ready .any ops (unl listed (p::u))) ?_ fun x hx=>?_
   ·simp only[aC,decide_true,Bool.true_and,hne,Bool.not_false,and_true]
    simp [Nat.add_assoc]
   ·rw[aN] at h1
    have h2:=h1 x hx
    rw[aL] at h2
    rcases h2 with h2 | h2
    ·rw[List.any_eq_true] at h2
     obtain ⟨y,hy,hxy⟩:=h2
     obtain rfl:=aH hxy
     exact hl x hy _ hu hbs
    ·rw[List.any_eq_true] at h2
     obtain ⟨q,hqu,hxq⟩:=h2
     rw[aC] at hxq
     have a5x:=aH hxq.1
     subst a5x
     have hmem:(p::u).erase q∈us:=by simpa using hxq.2
     have vA:((p::u),q)∈evs us:=by
      unfold evs
      rw[List.mem_flatMap]
      refine ⟨_,hu,?_⟩
      rw[List.mem_map]
      exact ⟨q,List.mem_filter.2 ⟨hqu,by simpa using hmem⟩,rfl⟩
     have hst:=List.map_inj_left.1 he _ vA
     dsimp only at hst
     have hlen:((p::u).erase q).length=u.length:=by rw[List.length_erase_of_mem hqu];simp
     have ih:=gO.core bs h0 l hl hz hr' hq hcv he k _ hmem (by rw[hlen];simpa using hk)
     rw[hlen] at ih
     unfold aCk at hq
     rw[aN] at hq
     have hq1:=hq _ hu
     rw[aN] at hq1
     have hb:∀ b∈dK [] cv q.1,b=true:=by
      have:∀ (l:List (Nat × List Bool)),(∀ p∈l,∀ b∈p.2,b=true)→∀ b∈dK [] l q.1,b=true:=by
       intro l
       induction l with
       | nil=>intro _ b hb;cases hb
       | cons z r ihh =>
         intro hz b hb
         unfold dK at hb
         cases hzq:Nat.beq z.1 q.1 with
         | true=>rw[hzq,cond_true] at hb;exact hz z (by simp) b hb
         | false=>rw[hzq,cond_false] at hb;exact ihh (fun p hp=>hz p (by simp [hp])) b hb
      exact this cv hcv
     have aNH:cX P n ops W (fuel+u.length) ((unl listed (p::u)).setIfInBounds q.1 true) cs (st.nO ((p::u).erase q)) m go ab:=by
      have hes:(unl listed (p::u)).setIfInBounds q.1 true=unl listed ((p::u).erase q):=by
       simpa using hse _ vA
      rw[hes];exact ih
     have:=eQ.aFn (W:=W) (cs:=cs) (m:=m) (go:=go) (ab:=ab) q.1 _ _ (hq1 _ hqu) hst aNH
     intro Γ S β a w hr x hx
     refine this Γ S β a w hr x ?_
     have hall:(dK [] cv q.1).all (fun b=>b)=true:=by
      rw[aN];exact hb
     have hc:∀ (l:List Bool),(l.all fun b=>b)=true→bY l m=m:=by
      intro l
      induction l with
      | nil=>intro _;rfl
      | cons v r ih=>intro h;rw[List.all_cons,aC] at h;unfold bY;rw[aE h.1,ih h.2]
     rw[hc _ hall]
     exact hx
theorem cX.a5y (us:List (List (Nat × Nat))) (cv:List (Nat × List Bool)) (u0:List (Nat × Nat)) (keep om:List Nat) (dD:St) (h:gO us cv P n ops W fuel' (lst listed u0) cs dD m go ab)
 (hu:(us.contains u0 && (Nat.beq fuel (fuel'+u0.length) && decide (unl (lst listed u0) u0=listed)))=true:=by kernel_rfl) (hk:st.keep keep om=some (dD.nO u0):=by kernel_rfl):cX P n ops W fuel listed cs st (bY (cv.flatMap fun p=>p.2) m) go ab:=by
 simp only[aC,aB] at hu
 obtain ⟨h1,h2,h3⟩:=hu
 have h2:=aH h2
 intro Γ S β a w hr x hx
 obtain ⟨hvs,hm⟩:=fI hx
 have:=h (fun p hp b hb=>hvs b (List.mem_flatMap.2 ⟨p,hp,hb⟩)) u0 (by simpa using h1)
 rw[h3,← h2] at this
 exact cX.conv (Conv.keep keep om hk) this Γ S β a w hr x hm
theorem cX.aNQ (us:List (List (Nat × Nat))) (u0:List (Nat × Nat)) (keep om:List Nat) (dD:St) (h:gO us [] P n ops W fuel' (lst listed u0) cs dD m go ab)
 (hu:(us.contains u0 && (Nat.beq fuel (fuel'+u0.length) && decide (unl (lst listed u0) u0=listed)))=true:=by kernel_rfl) (hk:st.keep keep om=some (dD.nO u0):=by kernel_rfl):cX P n ops W fuel listed cs st m go ab :=
 cX.a5y us [] u0 keep om dD h hu hk
theorem gO.close (h:cX P n ops W fuel listed cs st m go ab) (hr:(aCl ops us [[]] listed [] && aCk ops W us)=true:=by kernel_rfl)
 (he:(evs us).map (fun q=>iN P n ops (opsOf ops [q.2.1]) (st.nO q.1) ((st.nO (q.1.erase q.2)).tmps.map Prod.fst) (List.range st.cC.length))=(evs us).map fun q=>some (dK [] cv q.2.1,st.nO (q.1.erase q.2)):=by kernel_rfl):gO us cv P n ops W fuel listed cs st m go ab:=by
 rw[aC] at hr
 exact fun hcv u hu=>gO.core [[]] (fun u hu=>by obtain rfl:=aJ.1 hu;exact h) [] (fun j hj=>by cases hj) (by simp) hr.1 hr.2 hcv he u.length u hu (aM _)
theorem gO.fork (l:List Nat) (h:∀ j∈l,gU us cv P n ops W j fuel' listed cs st m go ab) (sH:Nat.beq fuel (fuel'+1)=true) (hr0:(decide (Region.ready .any ops listed=l) && !l.isEmpty)=true) (hr:(aCl ops us [[]] listed l && aCk ops W us)=true)
 (hn:us.contains []=true) (he:(evs us).map (fun q=>iN P n ops (opsOf ops [q.2.1]) (st.nO q.1) ((st.nO (q.1.erase q.2)).tmps.map Prod.fst) (List.range st.cC.length))=(evs us).map fun q=>some (dK [] cv q.2.1,st.nO (q.1.erase q.2))):gO us cv P n ops W fuel listed cs st m go ab:=by
 rw[aC] at hr
 obtain rfl:=aH sH
 intro hcv
 have h0:cX P n ops W (fuel'+1) listed cs st m go ab:=cX.fork (fuel':=fuel') l (by rw[hr0];simp) fun j hj=>h j hj hcv [] (by simpa using hn)
 refine fun u hu=>gO.core [[]] (fun u hu=>by obtain rfl:=aJ.1 hu;exact h0) l (fun j hj u hu hne=>?_) (by simp) hr.1 hr.2 hcv he u.length u hu (aM _)
 rw[show fuel'+1+u.length - 1=fuel'+u.length by omega]
 exact h j hj hcv u hu
theorem gO.mV (j:Nat) (h:gU us cv P n ops W j fuel' listed cs st m go ab) (sH:Nat.beq fuel (fuel'+1)=true:=by kernel_rfl) (hr0:(decide (Region.ready .any ops listed=[j]) && ![j].isEmpty)=true:=by kernel_rfl) (hr:(aCl ops us [[]] listed [j] && aCk ops W us)=true:=by kernel_rfl)
 (hn:us.contains []=true:=by kernel_rfl) (he:(evs us).map (fun q=>iN P n ops (opsOf ops [q.2.1]) (st.nO q.1) ((st.nO (q.1.erase q.2)).tmps.map Prod.fst) (List.range st.cC.length))=(evs us).map fun q=>some (dK [] cv q.2.1,st.nO (q.1.erase q.2)):=by kernel_rfl):gO us cv P n ops W fuel listed cs st m go ab :=
 gO.fork [j] (fun x hx=>by obtain rfl:=aJ.1 hx;exact h) sH hr0 hr hn he
def aEE (keep:List Nat) (u:List (Nat × Nat)):List Nat:=keep.filter fun x=>u.all fun p=>!Nat.beq x p.2
def aIM (us:List (List (Nat × Nat))) (j:Nat):Bool:=us.all fun u=>u.all fun p=>!Nat.beq p.1 j
theorem aCm (h:aIM us j=true) {u:List (Nat × Nat)} (hu:u∈us):u.all (fun p=>!Nat.beq p.1 j)=true:=by
 unfold aIM at h
 rw[aN] at h
 exact h u hu
theorem gU.aFn (j:Nat) (keep om:List Nat) {vs:List Bool} (hf:(!W j && (ops[j]?).elim false fun o=>o.guard.isNone && (oI o.op || gH o.op))=true) (he:iN P n ops (opsOf ops [j]) st keep om=some (vs,dD))
 (h:gO us cv P n ops W fuel (listed.setIfInBounds j true) cs dD m go ab) (hij:aIM us j=true:=by kernel_rfl) (he2:us.map (fun u=>iN P n ops (opsOf ops [j]) (st.nO u) (aEE keep u) om)=us.map (fun u=>some (vs,dD.nO u)):=by kernel_rfl):gU us cv P n ops W j fuel listed cs st (bY vs m) go ab:=by
 intro hcv u hu
 refine eQ.aFn j (aEE keep u) om hf (List.map_inj_left.1 he2 u hu) ?_
 rw[aBC u (aCm hij hu)]
 exact h hcv u hu
theorem gU.writes (j:Nat) (keep om:List Nat) {vs:List Bool} (hf:(W j && (ops[j]?).isSome)=true) (he:iN P n ops (opsOf ops [j]) st keep om=some (vs,dD))
 (h:gO us cv P n ops W fuel (listed.setIfInBounds j true) cs dD m go ab) (hij:aIM us j=true:=by kernel_rfl) (he2:us.map (fun u=>iN P n ops (opsOf ops [j]) (st.nO u) (aEE keep u) om)=us.map (fun u=>some (vs,dD.nO u)):=by kernel_rfl):gU us cv P n ops W j fuel listed cs st (bY vs m) go ab:=by
 intro hcv u hu
 refine eQ.writes j (aEE keep u) om hf (List.map_inj_left.1 he2 u hu) ?_
 rw[aBC u (aCm hij hu)]
 exact h hcv u hu
theorem gU.aED (j:Nat) (keep om:List Nat) (hf:(!W j && (ops[j]?).elim false fun o=>o.guard.isNone && (oI o.op || gH o.op))=true) (he:iN P n ops (opsOf ops [j]) st keep om=some ([],dD))
 (h:gO us cv P n ops W fuel (listed.setIfInBounds j true) cs dD m go ab) (hij:aIM us j=true:=by kernel_rfl) (he2:us.map (fun u=>iN P n ops (opsOf ops [j]) (st.nO u) (aEE keep u) om)=us.map (fun u=>some ([],dD.nO u)):=by kernel_rfl):gU us cv P n ops W j fuel listed cs st m go ab :=
 gU.aFn (vs:=[]) j keep om hf he h hij he2
theorem gU.aBA (j:Nat) (keep om:List Nat) (hf:(W j && (ops[j]?).isSome)=true) (he:iN P n ops (opsOf ops [j]) st keep om=some ([],dD))
 (h:gO us cv P n ops W fuel (listed.setIfInBounds j true) cs dD m go ab) (hij:aIM us j=true:=by kernel_rfl) (he2:us.map (fun u=>iN P n ops (opsOf ops [j]) (st.nO u) (aEE keep u) om)=us.map (fun u=>some ([],dD.nO u)):=by kernel_rfl):gU us cv P n ops W j fuel listed cs st m go ab :=
 gU.writes (vs:=[]) j keep om hf he h hij he2
theorem aAP {α:Type} (a b:Nat) (l:List (Nat × α)):gA a (gA b l)=gA b (gA a l):=by
 unfold gA
 rw[List.filter_filter,List.filter_filter]
 congr 1
 funext x
 rw[Bool.and_comm]
theorem tL {α:Type} {a b:Nat} (d:α) (l:List (Nat × α)) (h:Nat.beq b a=false):gA a ((b,d)::l)=(b,d)::gA a l:=by
 unfold gA
 rw[List.filter_cons_of_pos (by simp [h])]
theorem aJ8 {t':Nat} (d:D) (xs:List Obj):∀ (u:List (Nat × Nat)),u.all (fun p=>!Nat.beq t' p.2)=true→(st.nO u).put (some t') d xs []=(st.put (some t') d xs []).nO u
 | [],_=>rfl
 | p::u,h=>by
   rw[List.all_cons,aC,aQ] at h
   show _=((st.put (some t') d xs []).nO u).rm p.2
   rw[← aJ8 d xs u h.2]
   show ((st.nO u).rm p.2).put (some t') d xs []=_
   unfold St.rm St.put
   simp only[tL _ _ h.1,aAP t' p.2]
theorem gU.c8 (j:Nat) (om:List Nat) {f:FuncId} {cR:List D} {t:Nat} {mc:Option R} {res:R→D} {out:R→List Obj} {m:R→Option (A ⊕ T)}
 (hf:(W j && Nat.blt j ops.size)=true) (hi:lT P n (jQ ops.toList j) st om=some (f,cR,t)) (lZ:bV P f cR (gS st om) mc res out)
 (h:∀ r,gO us cv P n ops W fuel (listed.setIfInBounds j true) cs (st.put (some t) ((res r).mU om st.cC.length) (lR om (out r) st.cC) []) (m r) go ab)
 (hij:(aIM us j && us.all fun u=>u.all fun p=>!Nat.beq t p.2)=true:=by kernel_rfl) (hi2:us.map (fun u=>lT P n (jQ ops.toList j) (st.nO u) om)=us.map (fun _=>some (f,cR,t)):=by kernel_rfl):gU us cv P n ops W j fuel listed cs st (mc.bind m) go ab:=by
 rw[aC,aN] at hij
 intro hcv u hu
 have ho:gS (st.nO u) om=gS st om:=by unfold gS;rw[St.tK]
 refine eQ.c8 j om hf (List.map_inj_left.1 hi2 u hu) (by rw[ho];exact lZ) fun r=>?_
 rw[aBC u (aCm hij.1 hu),St.tK,aJ8 _ _ u (hij.2 u hu)]
 exact h r hcv u hu
def qH (us:List (List (Nat × Nat))) (n:Nat) (st dD:St):Prop:=∀ u∈us,Conv n (st.nO u) (dD.nO u)
theorem qH.freeze (o:Nat) (hf:st.freeze o=some dD) (h2:us.map (fun u=>(st.nO u).freeze o)=us.map (fun u=>some (dD.nO u)):=by kernel_rfl):qH us n st dD:=fun u hu=>Conv.freeze o (List.map_inj_left.1 h2 u hu)
theorem aCn (o:Nat) (x:Obj):∀ u:List (Nat × Nat),(st.setObj o x).nO u=(st.nO u).setObj o x
 | []=>rfl
 | p::u=>by
   show ((st.setObj o x).nO u).rm p.2=_
   rw[aCn o x u]
   rfl
theorem qH.obj (o:Nat) (x:Obj) (h:OLe (st.cC.getD o .dead) x) (hx:Nat.blt o st.cC.length=true):qH us n st (st.setObj o x):=fun u hu=>by
 rw[aCn]
 exact Conv.obj o x (by rw[St.tK];exact h) (by rw[St.tK];exact hx)
theorem aAQ {k:Nat} (d:D):∀ (u:List (Nat × Nat)),u.all (fun p=>!Nat.beq k p.2)=true→(st.iH k d).nO u=(st.nO u).iH k d
 | [],_=>rfl
 | p::u,h=>by
   rw[List.all_cons,aC,aQ] at h
   show ((st.iH k d).nO u).rm p.2=_
   rw[aAQ d u h.2]
   show _=((st.nO u).rm p.2).iH k d
   unfold St.rm St.iH
   simp only[tL _ _ h.1,aAP k p.2]
theorem pW {k t:Nat} (h:Nat.beq k t=false) (z:D):∀ l:List (Nat × D),dK z (gA t l) k=dK z l k
 | []=>rfl
 | p::l=>by
   cases hp:Nat.beq p.1 t with
   | true =>
     have e:gA t (p::l)=gA t l:=by unfold gA;rw[List.filter_cons_of_neg (by simp [hp])]
     have hne:Nat.beq p.1 k=false:=by
      cases hpk:Nat.beq p.1 k with
      | false=>rfl
      | true =>
        rw[← aH hpk,hp] at h
        cases h
     rw[e,pW h z l]
     show _=bif Nat.beq p.1 k then p.2 else dK z l k
     rw[hne];rfl
   | false =>
     have e:gA t (p::l)=p::gA t l:=by unfold gA;rw[List.filter_cons_of_pos (by simp [hp])]
     rw[e]
     show (bif Nat.beq p.1 k then p.2 else dK z (gA t l) k)=bif Nat.beq p.1 k then p.2 else dK z l k
     rw[pW h z l]
theorem aJ9 {k:Nat}:∀ (u:List (Nat × Nat)),u.all (fun p=>!Nat.beq k p.2)=true→(st.nO u).get k=st.get k
 | [],_=>rfl
 | p::u,h=>by
   rw[List.all_cons,aC,aQ] at h
   show dK _ (gA p.2 (st.nO u).tmps) k=_
   rw[pW h.1]
   exact aJ9 u h.2
theorem qH.slot (k:Nat) (d:D) (h:jS (st.get k) d) (hg:st.gd.isEmpty=true) (hk:us.all (fun u=>u.all fun p=>!Nat.beq k p.2)=true:=by kernel_rfl):qH us n st (st.iH k d):=fun u hu=>by
 rw[aN] at hk
 rw[aAQ d u (hk u hu)]
 exact Conv.slot k d (by rw[aJ9 u (hk u hu)];exact h) (by rw[St.aNP];exact hg)
theorem gO.conv (hc:qH us n st dD) (h:gO us cv P n ops W fuel listed cs dD m go ab):gO us cv P n ops W fuel listed cs st m go ab:=fun hcv u hu=>cX.conv (hc u hu) (h hcv u hu)
theorem gU.conv (hc:qH us n st dD) (h:gU us cv P n ops W j fuel listed cs dD m go ab):gU us cv P n ops W j fuel listed cs st m go ab:=fun hcv u hu=>eQ.conv (hc u hu) (h hcv u hu)
end
end Go.Dl

namespace Go.Dl
variable [dO]
section
variable {P:Program} {n:Nat} {ops:Array Oper} {W:Nat→Bool} {A T:Type} {go:T→St} {ab:A→Ex × St} {st:St} {m:Option (A ⊕ T)} {cs:List Code}
theorem cX.evH (is keep om:List Nat) {fuel fuel':Nat} {listed:Array Bool} {vs:List Bool} {dD:St} (sH:fuel=is.length+fuel')
 (hf:(Region.noSelect ops && (kL .any ops W listed is).isSome)=true) (he:iN P n ops (opsOf ops is) st keep om=some (vs,dD))
 (h:(∀ b∈vs,b=true)→cX P n ops W fuel' ((kL .any ops W listed is).getD listed) cs dD m go ab):cX P n ops W fuel listed cs st (bY vs m) go ab :=
 fun Γ S β a w hr x hx=>cX.evC is keep om sH hf he (h (fI hx).1) Γ S β a w hr x hx
end
end Go.Dl

namespace Go.Dl
variable [dO]
section
variable {P:Program} {ops:Array Oper} {W:Nat→Bool} {j t:Nat}
end
section
variable {P:Program} {n:Nat} {ops:Array Oper} {W:Nat→Bool} {A T:Type} {go:T→St} {ab:A→Ex × St} {st:St} {m:Option (A ⊕ T)} {cs:List Code}
end
end Go.Dl

namespace Go.Dl
variable [dO]
section
variable {P:Program} {n:Nat} {A T:Type} {go:T→St} {ab:A→Ex × St} {st dD:St} {m:Option (A ⊕ T)} {cs:List Code} {c:Code}
theorem bV.it (fn:Func) {f:FuncId} {R:Type} {args:List D} {xs:List Obj} {m:Option (R ⊕ R)} (rs:R→St) {res:R→D} {out:R→List Obj}
 (aWD:Ref P fn.ntmps [cd (bd fn) []] ⟨aFa args 0,xs,[],xs.length⟩ m rs (fun r=>(.ret,rs r))) (hf:P.funcs[f]? = some fn:=by kernel_rfl) (hb:fn.body=some (cd (bd fn) []):=by kernel_rfl) (hn:Nat.ble args.length fn.ntmps=true:=by kernel_rfl)
 (hres:∀ r,aSC P (rs r) fn.results.toList=some (res r):=by intro r;kernel_rfl) (hout:∀ r,(rs r).cC=out r:=by intro r;kernel_rfl) (hgd:∀ r,(rs r).gd=[]:=by intro r;kernel_rfl) (hh:∀ r,(rs r).h=xs.length:=by intro r;kernel_rfl) :
 bV P f args xs (bX m) res out:=bV.intro hf hb hn aWD hres hout hgd hh
theorem Ref.ck (dD:St) (l om:List Nat) (h:Ref P n cs dD m go ab) (hk:st.keep l om=some dD:=by kernel_rfl):Ref P n cs st m go ab:=Ref.conv (Conv.keep l om hk) h
theorem eO.li {α:Type} (t:Nat) (g:List (Nat × Bool)) (E:El α) (lst:List α) (k k':Nat) {ops:Array Oper} {l:List Oper} (h:eO P n ops (l.drop k') cs (st.put (some t) (.c (E.tree lst)) (st.cC++[.dead]) g) m go ab)
 (hk:(Nat.blt k l.length && Nat.beq k' (k+1))=true:=by kernel_rfl) (hi:aBB P n ops (jQ l k) st=some (t,g,.tree E.w lst.length (xE (lst.map E.cs)),st.cC++[.dead]):=by kernel_rfl):eO P n ops (l.drop k) cs st m go ab:=eO.lit E lst k k' hk hi h
theorem Conv.ob (o:Nat) (x:Go.Dl.Obj) (h:OLe (st.cC.getD o .dead) x) (hx:Nat.blt o st.cC.length=true:=by kernel_rfl):Conv n st (st.setObj o x):=Conv.obj o x h hx
theorem Conv.sl (t:Nat) (d:D) (h:jS (st.get t) d) (hg:st.gd.isEmpty=true:=by kernel_rfl):Conv n st (st.iH t d):=Conv.slot t d h hg
end
end Go.Dl

namespace Go.Dl
abbrev gd {α:Type} [Inhabited α] (l:List α) (i:Int):α:=l.getD i.toNat default
variable [dO]
section
variable {P:Program} {n:Nat} {A T:Type} {go:T→St} {ab:A→Ex × St} {st:St} {m:Option (A ⊕ T)} {cs:List Code} {c:Code}
theorem gD.nth {R:C→C→Prop} (hR:∀ x,R x x) {x y:C} (h:R x y):∀ (k:Nat) (l:List C),l[k]? = some x→gD R l (l.set k y)
 | _,[],e=>by simp at e
 | 0,z::r,e=>by
   obtain rfl:z=x:=by simpa using e
   refine gD.cons h ?_
   clear e
   induction r with
   | nil=>exact gD.nil
   | cons w r ih=>exact gD.cons (hR w) ih
 | k+1,z::r,e=>gD.cons (hR z) (gD.nth hR h k r (by simpa using e))
end
end Go.Dl

namespace Go.Dl
def aNU {α:Type} (l:List α) (lo n:Nat) (z:α):List α:=(List.range l.length).map fun i=>bif Nat.ble lo i && Nat.blt i (lo+n) then z else l.getD i z
@[simp] theorem aR5 {α:Type} (l:List α) (lo n:Nat) (z:α):(aNU l lo n z).length=l.length:=by simp [aNU]
variable [dO]
variable {α:Type}
section
variable {P:Program} {n:Nat} {ops:Array Oper} {W:Nat→Bool} {A T R:Type} {go:T→St} {ab:A→Ex × St} {st dD:St} {m:Option (A ⊕ T)} {cs:List Code} {c:Code}
end
end Go.Dl

namespace Go.Dl
variable [dO]
section
variable {P:Program} {n:Nat} {A T:Type} {go:T→St} {ab:A→Ex × St} {st:St} {m:Option (A ⊕ T)} {cs:List Code}
theorem eO.a0o (b:Bool) {ops:Array Oper} {l:List Oper} (h:b=true→eO P n ops l cs st m go ab):eO P n ops l cs st (bY [b] m) go ab:=by
 intro Γ S β a w hr x hx
 obtain ⟨hb,hm⟩:=fI hx
 exact h (hb b (by simp)) Γ S β a w hr x hm
end
theorem El.aNV {α:Type} (E:El α) (l:List α) (x:α) {i j:Nat} {cl:List C} (hlen:∀ y,(E.cs y).length=E.w) (hj:j+cl.length≤E.w)
 (h:E.cs x=aEX (E.cs (l.getD i E.d)) j cl):OLe (.row E.ty E.w l.length (setRow (E.at l) i j cl)) (E.row (l.set i x)):=by
 by_cases hi:i<l.length
 ·exact El.aSG E l x hi hlen hj h
 ·rw[List.set_eq_of_length_le (by omega)]
  refine OLe.row rfl fun i' j' hi' hj'=>?_
  unfold setRow
  have:Nat.beq i' i=false:=by
   cases hq:Nat.beq i' i with
   | false=>rfl
   | true=>have:=aH hq;omega
  rw[this,Bool.false_and,cond_false]
  exact hG.refl _
theorem bV.aNv {P:Program} {f:FuncId} (E:El Int) (hE:E.cs=fun x=>[.val (.int .i64 x)]) (hw:E.w=1)
 (h1:∀ (blk off cap:Nat) (zs:List Int) (w:World),Sort.Holds (Value.int .i64) w blk off zs.toArray→blk<w.heap.size→zs.length<4611686018427387904 →
  Calls P f #[.slice (some ⟨blk,off,none⟩) zs.length cap] w fun e w'=>e = .returned (.tuple #[])∧∃ n os,w'=Sort.grow (Sort.putRow (Value.int .i64) (Sort.ahead w n) blk off (zs.mergeSort fun x y=>decide (x≤y)).toArray) os)
 (h0:∀ (p:Option Addr) (cap:Nat) (w:World),Calls P f #[.slice p 0 cap] w fun e w'=>e = .returned (.tuple #[])∧w'=w) (a:List Int) :
 bV P f [.c (.own 0 a.length)] [E.row a] (if a.length<4611686018427387904 then some (a.mergeSort fun x y=>decide (x≤y)) else none) (fun _=>.jW []) (fun r=>[E.row r]):=by
 intro S β w vs hc hv r hr
 split at hr
 ·rename_i hlen
  simp only[aA] at hr
  subst hr
  obtain ⟨v,rest,rfl,hv,rY⟩:=hv
  obtain rfl:rest=[]:=rY
  have hrow:=hc.cC 0 _ rfl
  simp only[dR,cV] at hv
  rcases hrow with ⟨hk,hn⟩ | ⟨k,hk,h2,h3,h4,h5,h6,cur,h7,h8,h9⟩
  ·rw[hk] at hv
   obtain ⟨_,rfl⟩:=hv
   have ha:a=[]:=List.length_eq_zero_iff.1 hn
   subst ha
   refine (h0 none 0 w).mono fun e w' he=>?_
   obtain ⟨rfl,rfl⟩:=he
   refine ⟨_,S,β,rfl,⟨[],rfl,rfl⟩,fun _ _ _ h=>h,?_⟩
   simpa using hc
  ·rw[hk] at hv
   obtain ⟨_,hcap,rfl⟩:=hv
   have hb:=hc.mine 0 k _ rfl rfl hk
   have hw1:k.w=1:=h3.trans hw
   have hcell:∀ j,j<a.length→cur[j]? = some (.int .i64 (a.getD j 0)):=by
    intro j hj
    obtain ⟨u,hu,_,hr⟩:=h9 j 0 hj (by rw[hw];omega)
    rw[hw] at hu
    simp only[El.at,hE,cV,List.getD_cons_zero] at hr
    subst hr
    rw[show j * 1+0=j by omega] at hu
    rw[hu,getD_lt (l:=a) E.d 0 hj]
   have hH:Sort.Holds (Value.int .i64) w k.b 0 a.toArray:=by
    intro j hj
    simp at hj
    have hlt:j<cur.size:=by rw[h8,hw];omega
    refine ⟨?_,by simp [World.frozen?,h7]⟩
    have:=hcell j hj
    simp only[World.cell?,h7,Nat.zero_add,this]
    congr 1
    simp [List.getD,hj]
   refine (h1 k.b 0 k.cap a w hH hb.1 hlen).mono fun e w' he=>?_
   obtain ⟨rfl,n,os,rfl⟩:=he
   have hsz:(a.mergeSort fun x y=>decide (x≤y)).length=a.length:=List.length_mergeSort _
   have hheap:∀ b,(Sort.putRow (Value.int .i64) (Sort.ahead w n) k.b 0 (a.mergeSort fun x y=>decide (x≤y)).toArray).heap[b]? = if b=k.b then some (.cells (Sort.putCells (Value.int .i64) 0 (a.mergeSort fun x y=>decide (x≤y)).toArray cur) E.ty (0,0)) else w.heap[b]?:=by
    intro b
    unfold Sort.putRow Sort.mapBlock
    simp only[Sort.heap_ahead,Array.getElem?_modify]
    by_cases h:k.b=b
    ·subst h;simp [h7,Sort.onCells]
    ·rw[aD h,aD (Ne.symm h)]
   have hw2:Core ⟨S,w,uG β [E.row a],β⟩ S β (Sort.putRow (Value.int .i64) (Sort.ahead w n) k.b 0 (a.mergeSort fun x y=>decide (x≤y)).toArray) [E.row (a.mergeSort fun x y=>decide (x≤y))]:=by
    refine hc.write 0 (E.row a) (E.row _) k rfl rfl hk rfl rfl rfl (by simp) (fun b hb=>by rw[hheap,aD hb]) ?_
    refine .inr ⟨k,hk,h2,h3,by rw[h4,hsz],by rw[hsz];exact h5,h6,_,by rw[hheap,aE rfl],by simp [Sort.putCells,h8],fun i j hi hj=>?_⟩
    rw[hw] at hj
    obtain rfl:j=0:=by omega
    rw[hsz] at hi
    have hlt:i<cur.size:=by rw[h8,hw];omega
    refine ⟨.int .i64 ((a.mergeSort fun x y=>decide (x≤y)).getD i 0),?_,rfl,?_⟩
    ·rw[hw,show i * 1+0=i by omega]
     unfold Sort.putCells
     rw[Array.getElem?_mapIdx,Array.getElem?_eq_getElem hlt]
     simp only[Option.map_some,Nat.zero_le,true_and,Nat.zero_add,List.size_toArray,hsz,hi,if_true,Nat.sub_zero]
     congr 2
     simp [List.getD,hsz,hi]
    ·simp only[El.at,hE,cV,List.getD_cons_zero]
     rw[getD_lt (l:=a.mergeSort fun x y=>decide (x≤y)) E.d 0 (by omega)]
   refine ⟨_,S,β,rfl,⟨[],rfl,rfl⟩,fun _ _ _ h=>h,?_⟩
   exact hw2.aJ2 rfl rfl rfl (by simp) fun b hb=>Sort.heap_grow_old _ _ hb
 ·cases hr
def e8 (p q:Int):Int:=if q > p then q else p
def sJ (p q:Int):Int:=if q<p then q else p
end Go.Dl
