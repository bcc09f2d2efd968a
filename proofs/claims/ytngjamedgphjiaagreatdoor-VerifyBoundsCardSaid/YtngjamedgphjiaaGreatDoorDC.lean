/- No conditions. -/
import Derived.Test.YtngjamedgphjiaaGreatDoorDB
import Derived.Laws.BytesString
import Derived.KernelRfl
import Derived.Laws.IdiomStrings
import Derived.Laws.CopyRow
import Derived.Sort.Grow
set_option linter.unusedVariables false
set_option linter.unusedSimpArgs false
set_option linter.unusedSectionVars false
set_option linter.constructorNameAsVariable false
namespace Go.Dl
variable [eY]
structure IsB (e:Int):Prop where
 lo:0≤e
 hi:e<256
section
variable {P:Program} {n:Nat} {A T R:Type} {go:T→St} {ab:A→Ex × St} {st bJ:St} {m:Option (A ⊕ T)} {cs:List Code}
theorem cM.lZ {f:FuncId} {args:List D} {mr:Option R} {res:R→D}
 (h:∀ S β w vs,eY.I w→gF S β args vs→∀ r,mr=some r→Calls P f vs.toArray w fun e w'=>∃ v,e = .returned v∧dJ S β (res r) v∧Up w w'):cM P f args [] mr res (fun _=>[]):=by
 intro S β w vs hc hv r hr
 refine (h S β w vs hc.inv hv r hr).mono fun e w' ⟨v,he,hd,hu⟩=>⟨v,S,β,he,hd,fun o k ho _=>by simp at ho,hc.xP hu.os hu.tape hu.output hu.size hu.block⟩
end
end Go.Dl

namespace Go.Dl
variable [eY]
def j5 (ops:Array Oper):Array Bool→List Nat→Option (Array Bool)
 | listed,[]=>some listed
 | listed,i::r =>
   bif (Region.ready .any ops listed).contains i && (Region.free .any ops listed i && (ops[i]?).elim false fun o=>nV o.op && gB o.op) then j5 ops (listed.setIfInBounds i true) r else none
def eD (P:Program) (n:Nat) (ops:Array Oper) {A T:Type} (fuel:Nat) (listed:Array Bool) (cs:List Code) (st:St) (m:Option (A ⊕ T)) (go:T→St) (ab:A→Ex × St):Prop :=
 ∀ Γ S β a w,RR Γ S β a w n st→∀ x,m=some x→wpAny P .any ops (Exit.then (wpL P cs (Post Γ n go ab x)) (Post Γ n go ab x)) fuel listed a w
section
variable {P:Program} {n:Nat} {ops:Array Oper}
theorem qA {Q:Exit→Act→World→Prop} {Γ:jX} {S:Mem} {β:dI} {w:World} {fuel:Nat} {iT:Array Bool} {nA:St} (hQ:∀ c a w,¬ Q (.panic c) a w) (hsel:Region.noSelect ops=true) :
 ∀ {is:List Nat} {listed:Array Bool} {st:St} {vs:List Bool} {a:Act},
 RR Γ S β a w n st→j5 ops listed is=some iT→kG P n ops (opsOf ops is) st=some (vs,nA)→(∀ b∈vs,b=true) →
 (∀ a',RR Γ S β a' w n nA→wpAny P .any ops Q fuel iT a' w)→wpAny P .any ops Q (is.length+fuel) listed a w
 | [],listed,st,vs,a,hr,hf,he,hvs,hk=>by
   simp only[j5,aA] at hf
   subst hf
   simp only[opsOf,List.filterMap_nil,kG,aA,aG] at he
   obtain ⟨_,rfl⟩:=he
   rw[List.length_nil,Nat.zero_add]
   exact hk a hr
 | i::r,listed,st,vs,a,hr,hf,he,hvs,hk=>by
   unfold j5 at hf
   obtain ⟨hc,hf⟩:=bW hf
   simp only[aB] at hc
   obtain ⟨hrd,hfree,hq⟩:=hc
   cases ho:ops[i]? with
   | none=>rw[ho] at hq;cases hq
   | some o =>
     rw[ho] at hq
     simp only[Option.elim,aB] at hq
     obtain ⟨hp,hq⟩:=hq
     have sV:opsOf ops (i::r)=o::opsOf ops r:=by simp [opsOf,ho]
     rw[sV] at he
     unfold kG at he
     split at he
     ·rename_i v st1 h1
      split at he
      ·rename_i vs2 st3 h2
       simp only[aA,aG] at he
       obtain ⟨rfl,rfl⟩:=he
       have tS:∀ b∈v,b=true:=fun b hb=>hvs b (aX _ hb)
       have nB:∀ b∈vs2,b=true:=fun b hb=>hvs b (List.mem_append_right _ hb)
       rw[List.length_cons,show r.length+1+fuel=(r.length+fuel)+1 by omega]
       rcases iS hr h1 tS with ⟨hw,u,w',S',β',_,lY,hqq⟩ | ⟨hw,lY⟩
       ·obtain ⟨rfl,rfl,rfl,hrun⟩:=hqq hq
        exact wpAny_take ho hsel hfree hrd (fun c a w h=>absurd h (hQ c _ w)) (.inl ⟨hw,fun w2=>hrun w2 (.inl hp)⟩) (qA hQ hsel lY hf h2 nB hk)
       ·exact wpAny_take ho hsel hfree hrd (fun c a w h=>absurd h (hQ c _ w)) (.inr ⟨hw,rfl⟩) (qA hQ hsel lY hf h2 nB hk)
      ·cases he
     ·cases he
theorem o9 {Q':Exit→Act→World→Prop}:∀ (js:List Nat) (listed:Array Bool) (a:Act) (w:World),uH .any ops listed js=true→(js.all fun j=>(ops[j]?).isSome)=true →
 wpList P ops Q' (opsOf ops js) a w→wpAny P .any ops Q' js.length listed a w
 | [],listed,a,w,hs,_,h=>⟨by simpa [uH] using hs,h⟩
 | j::r,listed,a,w,hs,hW,h=>by
   simp only[uH,aB,aC] at hs
   simp only[List.all_cons,aB] at hW
   refine ⟨fun h1=>(by rw[hs.1] at h1;cases h1),fun i hi=>?_⟩
   rw[hs.1] at hi
   have hik:i=j:=by simpa using hi
   subst hik
   obtain ⟨o,ho⟩:=aU.1 hW.1
   have sV:opsOf ops (i::r)=o::opsOf ops r:=by simp [opsOf,ho]
   rw[sV] at h
   have hw:wpOp P ops Q' i (wpList P ops Q' (opsOf ops r)) a w:=by unfold wpOp;simp only[ho];exact h
   exact wpOp_mono (fun a' w' h'=>o9 r _ a' w' hs.2 (by rw[aJ];simpa using hW.2) h') hw
variable {A T:Type} {go:T→St} {ab:A→Ex × St} {st:St} {m:Option (A ⊕ T)} {cs:List Code} {c:Code}
theorem Post.aCZ {Γ:jX} {x:A ⊕ T} {K:Act→World→Prop}:∀ c a w,¬ Exit.then K (Post Γ n go ab x) (.panic c) a w:=by
 intro c a w h
 have h':Post Γ n go ab x (.panic c) a w:=h
 cases x with
 | inl t =>
   have:=h'.1
   cases hx:(ab t).1 <;> rw[hx] at this <;> cases this
 | inr t=>cases h'.1
theorem Ref.eS (id:Nat) (h:c = .region id (rg c) true) (hm:P.follows .mixedOrders=true)
 (hr:eD P n (rg c) (rg c).size (Array.replicate (rg c).size false) cs st m go ab):Ref P n (c::cs) st m go ab:=by
 rw[h]
 intro Γ S β a w lY x hx
 refine wp_region_any hm (hr Γ S β a _ ?_ x hx)
 exact ⟨lY.core.drew,lY.tm,lY.un,lY.size,lY.defers,lY.hand⟩
theorem eD.ev (is keep om:List Nat) {fuel fuel':Nat} {listed iT:Array Bool} {vs:List Bool} {bJ:St} (p4:fuel=is.length+fuel')
 (hf:(bif Region.noSelect ops then j5 ops listed is else none)=some iT) (he:iC P n ops (opsOf ops is) st keep om=some (vs,bJ))
 (h:eD P n ops fuel' iT cs bJ m go ab):eD P n ops fuel listed cs st (c5 vs m) go ab:=by
 intro Γ S β a w hr x hx
 obtain ⟨hvs,hm⟩:=hG hx
 obtain ⟨hsel,hf⟩:=bW hf
 subst p4
 unfold iC at he
 split at he
 ·rename_i vs2 nA h2
  cases hk:nA.keep keep om with
  | none=>rw[hk] at he;cases he
  | some st3 =>
    rw[hk] at he
    simp only[aL,aA,aG] at he
    obtain ⟨rfl,rfl⟩:=he
    exact qA Post.aCZ hsel hr hf h2 hvs fun a' h'=>h Γ S (fX β om) a' w (hD h' hk) x hm
 ·cases he
theorem eD.fS (is keep om:List Nat) {fuel fuel':Nat} {listed:Array Bool} {vs:List Bool} {bJ:St} (p4:fuel=is.length+fuel')
 (hf:(Region.noSelect ops && (j5 ops listed is).isSome)=true) (he:iC P n ops (opsOf ops is) st keep om=some (vs,bJ))
 (h:eD P n ops fuel' ((j5 ops listed is).getD listed) cs bJ m go ab):eD P n ops fuel listed cs st (c5 vs m) go ab:=by
 rw[aB] at hf
 obtain ⟨l',hl⟩:=aU.1 hf.2
 rw[hl] at h
 exact eD.ev is keep om p4 (by rw[hf.1,cond_true];exact hl) he h
theorem eD.eT (is keep om:List Nat) {fuel fuel':Nat} {listed:Array Bool} {bJ:St} (p4:fuel=is.length+fuel')
 (hf:(Region.noSelect ops && (j5 ops listed is).isSome)=true) (he:iC P n ops (opsOf ops is) st keep om=some ([],bJ))
 (h:eD P n ops fuel' ((j5 ops listed is).getD listed) cs bJ m go ab):eD P n ops fuel listed cs st m go ab :=
 fun Γ S β a w hr x hx=>eD.fS (vs:=[]) is keep om p4 hf he h Γ S β a w hr x hx
theorem eD.tail (js:List Nat) {fuel:Nat} {listed:Array Bool} (p4:fuel=js.length) (hs:(uH .any ops listed js && js.all fun j=>(ops[j]?).isSome)=true)
 (h:bC P n ops ((opsOf ops js).drop 0) cs st m go ab):eD P n ops fuel listed cs st m go ab:=by
 intro Γ S β a w hr x hx
 rw[aB] at hs
 subst p4
 exact o9 js listed a w hs.1 hs.2 (h Γ S β a w hr x hx)
theorem eD.nN (W:List Nat) {fuel:Nat} {listed:Array Bool} (h:cI P n ops (inW W) fuel listed cs st m go ab):eD P n ops fuel listed cs st m go ab :=
 fun Γ S β a w hr x hx=>sU _ _ _ _ (h Γ S β a w hr x hx)
def bO {X Y:Type} (v:X) (f:X→Y):Y:=f v
theorem bC.c7 {X:Type} {v:X} {l:List Oper} {eM:X→St} {mf:X→Option (A ⊕ T)} (h0:eM v=st) (h:∀ x,bC P n ops l cs (eM x) (mf x) go ab):bC P n ops l cs st (bO v mf) go ab:=h0 ▸ h v
theorem iW {n:Nat} {l h:Int} (hb:cK n l h=true):h.toNat≤n:=by
 simp only[cK,aB,aC] at hb
 omega
end
end Go.Dl

namespace Go.Dl
variable [eY]
section
variable {P:Program} {n:Nat} {ops:Array Oper} {W:Nat→Bool} {A T R:Type} {go:T→St} {ab:A→Ex × St} {st bJ:St} {m:Option (A ⊕ T)} {cs:List Code} {c:Code}
theorem cI.fS (is keep om:List Nat) {fuel fuel':Nat} {listed:Array Bool} {vs:List Bool} {bJ:St} (p4:fuel=is.length+fuel')
 (hf:(Region.noSelect ops && (kK .any ops W listed is).isSome)=true) (he:iC P n ops (opsOf ops is) st keep om=some (vs,bJ))
 (h:cI P n ops W fuel' ((kK .any ops W listed is).getD listed) cs bJ m go ab):cI P n ops W fuel listed cs st (c5 vs m) go ab:=by
 rw[aB] at hf
 obtain ⟨l',hl⟩:=aU.1 hf.2
 rw[hl] at h
 exact cI.ev is keep om p4 (by rw[hf.1,cond_true];exact hl) he h
theorem cI.eT (is keep om:List Nat) {fuel fuel':Nat} {listed:Array Bool} {bJ:St} (p4:fuel=is.length+fuel')
 (hf:(Region.noSelect ops && (kK .any ops W listed is).isSome)=true) (he:iC P n ops (opsOf ops is) st keep om=some ([],bJ))
 (h:cI P n ops W fuel' ((kK .any ops W listed is).getD listed) cs bJ m go ab):cI P n ops W fuel listed cs st m go ab :=
 fun Γ S β a w hr x hx=>cI.fS (vs:=[]) is keep om p4 hf he h Γ S β a w hr x hx
theorem cI.c7 {X:Type} {v:X} {fuel:Nat} {listed:Array Bool} {eM:X→St} {mf:X→Option (A ⊕ T)} (h0:eM v=st) (h:∀ x,cI P n ops W fuel listed cs (eM x) (mf x) go ab):cI P n ops W fuel listed cs st (bO v mf) go ab:=h0 ▸ h v
def iL (o o':Nat):C→C
 | .own q n=>bif Nat.beq q o then .own o' n else .own q n
 | c=>c
def St.move (st:St) (o:Nat):Option St :=
 match st.cN[o]? with
 | some (.row e w k get)=>some ⟨st.tmps.map fun p=>(p.1,p.2.sub (iL o st.cN.length)),(st.cN.set o .dead).map (Obj.sub (iL o st.cN.length))++[.row e w k get],st.gd,st.h⟩
 | _=>none
theorem C.iX {S:Mem} {β β':dI} {o o':Nat} (hle:iO β β') (ho:β' o'=β o):∀ {c:C} {v:Value},cS S β c v→cS S β' (c.sub (iL o o')) v:=by
 intro c
 induction c with
 | own q k =>
   intro v hv
   simp only[C.sub,iL]
   cases hb:Nat.beq q o with
   | true =>
     have:=aF hb
     subst this
     rw[cond_true]
     simp only[cS,ho] at hv ⊢
     exact hv
   | false=>rw[cond_false];exact cS.grow _ hle _ hv
 | ptr q i j=>intro v hv;exact cS.grow _ hle _ hv
 | self t b q=>intro v hv;exact cS.grow (.self t b q) hle _ hv
 | map q=>intro v hv;exact cS.grow (.map q) hle _ hv
 | tail q lo k=>intro v hv;exact cS.grow (.tail q lo k) hle _ hv
 | opt b c ih =>
   intro v hv
   simp only[C.sub,cS] at hv ⊢
   split at hv
   ·rename_i h;rw[aO h];exact ih hv
   ·rename_i h;rw[aH h];exact hv
 | iface b t c ih =>
   intro v hv
   simp only[C.sub,cS] at hv ⊢
   split at hv
   ·rename_i h;rw[aO h];obtain ⟨u,hu,hr⟩:=hv;exact ⟨u,hu,ih hr⟩
   ·rename_i h;rw[aH h];exact hv
 | func fn k cap ih =>
   rintro v ⟨vs,h1,h2,h3⟩
   refine ⟨vs,h1,h2,fun i hi=>?_⟩
   have:(((List.range k).map fun i=>(cap i).sub (iL o o')).getD i .bot)=(cap i).sub (iL o o'):=by
    simp [List.getD,hi]
   show cS S β' (((List.range k).map fun i=>(cap i).sub (iL o o')).getD i .bot) _
   rw[this]
   exact ih i (h3 i hi)
 | cond b c ih =>
   intro v hv hb
   exact ih (hv hb)
 | _=>intro v hv;exact hv
theorem D1.iX {S:Mem} {β β':dI} {o o':Nat} (hle:iO β β') (ho:β' o'=β o) {d:D1} {v:Value} (h:gW S β d v):gW S β' (d.sub (iL o o')) v:=by
 cases d with
 | c x=>exact C.iX hle ho h
 | agg l=>obtain ⟨vs,h1,h2⟩:=h;exact ⟨vs,h1,h2.map _ fun _ _ h=>C.iX hle ho h⟩
theorem D.iX {S:Mem} {β β':dI} {o o':Nat} (hle:iO β β') (ho:β' o'=β o) {d:D} {v:Value} (h:dJ S β d v):dJ S β' (d.sub (iL o o')) v:=by
 cases d with
 | c x=>exact C.iX hle ho h
 | agg l=>obtain ⟨vs,h1,h2⟩:=h;exact ⟨vs,h1,h2.map _ fun _ _ h=>C.iX hle ho h⟩
 | kE l=>obtain ⟨vs,h1,h2⟩:=h;exact ⟨vs,h1,h2.map _ fun _ _ h=>D1.iX hle ho h⟩
theorem sX (f:C→C) (t:Nat):∀ (l:List (Nat × D)),dL (D.c .bot) (l.map fun p=>(p.1,p.2.sub f)) t=(dL (D.c .bot) l t).sub f
 | []=>rfl
 | (i,d)::r=>by
   rw[List.map_cons]
   simp only[dL]
   cases hb:Nat.beq i t with
   | true=>rfl
   | false=>rw[cond_false,cond_false];exact sX f t r
theorem kJ {d:D} {f:C→C} {b:Bool} (hf:∀ q n,f (.own q n)≠.val (.bool b)) (hp:∀ q i j,f (.ptr q i j)≠.val (.bool b)):d.sub f = .c (.val (.bool b))↔d = .c (.val (.bool b)):=by
 constructor
 ·intro h
  cases d with
  | c x =>
    simp only[D.sub,D.c.injEq] at h
    cases x with
    | val u=>simp only[C.sub] at h;rw[h]
    | own o m=>simp only[C.sub] at h;exact absurd h (hf _ _)
    | ptr o i j=>simp only[C.sub] at h;exact absurd h (hp _ _ _)
    | _=>simp only[C.sub] at h;cases h
  | agg l=>cases h
  | kE l=>cases h
 ·rintro rfl;rfl
theorem Conv.move (o:Nat) (hm:st.move o=some bJ) (hh:Nat.ble st.h st.cN.length=true):Conv n st bJ:=by
 have hh:=aK hh
 intro Γ S β a w hr
 unfold St.move at hm
 split at hm
 ·rename_i e wd k get ho
  simp only[aA] at hm
  subst hm
  have hlt:o<st.cN.length:=by
   rcases aS o st.cN.length with h1 | h1
   ·exact h1
   ·rw[aY h1] at ho;cases ho
  have hrow:=hr.core.cN o _ ho
  obtain ⟨x,hx⟩:∃ x,β o=some x:=by
   rcases hrow with ⟨h1,_⟩ | ⟨k,h1,_⟩
   ·exact ⟨_,h1⟩
   ·exact ⟨_,h1⟩
  have hle:iO β (fG β st.cN.length x):=iO.fG (hr.core.out _ (aI _))
  have vV:fG β st.cN.length x st.cN.length=β o:=by unfold fG;rw[aO rfl,hx]
  have hold:∀ q,q<st.cN.length→fG β st.cN.length x q=β q:=fun q hq=>by unfold fG;rw[aH (by omega)]
  have get':∀ (q:Nat) (y:Obj),((st.cN.set o .dead).map (Obj.sub (iL o st.cN.length))++[Obj.row e wd k get])[q]? = some y→y.live=true →
   ∃ q0 y0,st.cN[q0]? = some y0∧y0.live=true∧fG β st.cN.length x q=β q0∧(q=st.cN.length∧q0=o∧y = .row e wd k get∨q=q0∧q≠o∧y=y0.sub (iL o st.cN.length)):=by
   intro q y hy hl
   rcases getElem?_concat _ _ _ _ hy with hy | ⟨h1,rfl⟩
   ·rw[aV] at hy
    by_cases hq:q=o
    ·subst hq
     rw[List.getElem?_set_self hlt] at hy
     simp only[aL,aA] at hy
     subst hy
     cases hl
    ·rw[List.getElem?_set_ne (Ne.symm hq)] at hy
     cases hz:st.cN[q]? with
     | none=>rw[hz] at hy;cases hy
     | some z =>
       rw[hz] at hy
       simp only[aL,aA] at hy
       subst hy
       have hql:q<st.cN.length:=by
        rcases aS q st.cN.length with h1 | h1
        ·exact h1
        ·rw[aY h1] at hz;cases hz
       refine ⟨q,z,hz,?_,hold q hql,.inr ⟨rfl,hq,rfl⟩⟩
       cases z <;> first | rfl | exact hl
   ·simp only[List.length_map,List.length_set] at h1
    subst h1
    exact ⟨o,_,ho,rfl,vV,.inl ⟨rfl,rfl,rfl⟩⟩
  have hgd:∀ t,St.jY ⟨st.tmps.map fun p=>(p.1,p.2.sub (iL o st.cN.length)),(st.cN.set o .dead).map (Obj.sub (iL o st.cN.length))++[.row e wd k get],st.gd,st.h⟩ t=st.jY t:=fun t=>rfl
  have zY:∀ t,St.get ⟨st.tmps.map fun p=>(p.1,p.2.sub (iL o st.cN.length)),(st.cN.set o .dead).map (Obj.sub (iL o st.cN.length))++[.row e wd k get],st.gd,st.h⟩ t=(st.get t).sub (iL o st.cN.length):=fun t=>sX _ t _
  have hholds:∀ g,St.holds ⟨st.tmps.map fun p=>(p.1,p.2.sub (iL o st.cN.length)),(st.cN.set o .dead).map (Obj.sub (iL o st.cN.length))++[.row e wd k get],st.gd,st.h⟩ g↔st.holds g:=by
   intro g
   unfold St.holds
   constructor
   ·intro h q hq
    have:=h q hq
    rw[zY q.1] at this
    refine (kJ (fun q n=>?_) (fun q i j=>?_)).1 this
    ·simp only[iL];cases Nat.beq q o <;> simp
    ·simp [iL]
   ·intro h q hq
    rw[zY q.1,h q hq];rfl
  refine ⟨S,fG β st.cN.length x,⟨hr.core.frame,hr.core.holds,?_,?_,?_,?_,?_⟩,fun t hh=>?_,fun t hh=>?_,hr.size,hr.defers,fun q k hq hB=>hle _ _ (hr.hand q k hq hB)⟩
  ·intro q y hy
   cases hl:y.live with
   | false=>cases y <;> first | trivial | cases hl
   | true =>
     obtain ⟨q0,y0,hy0,hl0,hb,hc⟩:=get' q y hy hl
     have hr0:=hr.core.cN q0 y0 hy0
     rcases hc with ⟨rfl,rfl,rfl⟩ | ⟨rfl,hne,rfl⟩
     ·rw[ho] at hy0
      simp only[aA] at hy0
      subst hy0
      rcases hr0 with ⟨h1,h2⟩ | ⟨k,h1,h2⟩
      ·exact .inl ⟨by rw[hb];exact h1,h2⟩
      ·exact .inr ⟨k,by rw[hb];exact h1,h2⟩
     ·cases y0 with
      | dead=>trivial
      | cells l =>
        obtain ⟨k,h1,h2,h3,h4,vs,h5,h6,h7⟩:=hr0
        exact ⟨k,by rw[hb];exact h1,by rw[h2];simp,h3,h4,vs,h5,h6.map _ fun _ _ h=>C.iX hle vV h,h7⟩
      | vJ e' bs =>
        obtain ⟨k,h1,h2⟩:=hr0
        exact ⟨k,by rw[hb];exact h1,h2⟩
      | map z has get =>
        obtain ⟨k,h1,h2⟩:=hr0
        exact ⟨k,by rw[hb];exact h1,h2⟩
      | row e' w' k' g' =>
        rcases hr0 with ⟨h1,h2⟩ | ⟨k,h1,h2⟩
        ·exact .inl ⟨by rw[hb];exact h1,h2⟩
        ·exact .inr ⟨k,by rw[hb];exact h1,h2⟩
  ·intro q hq
   simp only[List.length_append,List.length_map,List.length_set,List.length_cons,List.length_nil] at hq
   unfold fG
   rw[aH (by omega)]
   exact hr.core.out q (by omega)
  ·intro q q' k1 k2 y y' hy hy' hl hl' h1 h2 hno
   obtain ⟨q0,y0,hy0,hl0,hb,hc⟩:=get' q y hy hl
   obtain ⟨q0',y0',hy0',aK9,hb',hc'⟩:=get' q' y' hy' hl'
   rw[hb] at h1;rw[hb'] at h2
   refine hr.core.inj q0 q0' k1 k2 y0 y0' hy0 hy0' hl0 aK9 h1 h2 fun e=>hno ?_
   rcases hc with ⟨h3,h4,_⟩ | ⟨h3,h4,_⟩ <;> rcases hc' with ⟨h5,h6,_⟩ | ⟨h5,h6,_⟩ <;> omega
  ·intro q k1 y hy hl h1
   obtain ⟨q0,y0,hy0,hl0,hb,hc⟩:=get' q y hy hl
   rw[hb] at h1
   exact hr.core.sep q0 k1 y0 hy0 hl0 h1
  ·intro q k1 y hy hl h1
   obtain ⟨q0,y0,hy0,hl0,hb,hc⟩:=get' q y hy hl
   rw[hb] at h1
   exact hr.core.mine q0 k1 y0 hy0 hl0 h1
  ·rw[zY t]
   rw[hgd t,hholds] at hh
   exact D.iX hle vV (hr.tm t hh)
  ·rw[hgd t,hholds] at hh
   exact hr.un t hh
 ·cases hm
end
end Go.Dl

namespace Go.Dl
abbrev Err:=Option (Int × Int)
def aAM (t:TypeId) (e:Err):C:=.iface e.isSome t (.k9 3 (fun j=>([.val (.int .i64 (e.getD (0,0)).1),.val (.int .i64 (e.getD (0,0)).2),.val .nilIface]:List C).getD j .bot) 0)
theorem aBv {t:TypeId}:cY (.val .nilIface) (aAM t none):=by
 intro S β v hv
 show if false=true then _ else v = .nilIface
 rw[aH (by simp)]
 exact hv
end Go.Dl

namespace Go.Dl
variable [eY]
section
variable {P:Program} {n:Nat} {A T R:Type} {go:T→St} {ab:A→Ex × St} {st bJ:St} {m:Option (A ⊕ T)} {cs:List Code}
structure aM2 (g:Nat) (w w':World):Prop where
 os:w'.os=w.os
 tape:w'.tape=w.tape
 output:w'.output=w.output
 size:w.heap.size≤w'.heap.size
 block:∀ c,c<w.heap.size→c≠g→w'.heap[c]? = w.heap[c]?
end
end Go.Dl

namespace Go.Dl
variable [eY]
section
variable {P:Program} {α R:Type}
end
end Go.Dl

namespace Go.Dl
variable [eY]
section
variable {P:Program} {R:Type}
theorem cM.aBx {f:FuncId} {args:List D} {mr:Option R} {res:R→D}
 (h:∀ S β w vs,eY.I w→Holds S w→gF S β args vs→∀ r,mr=some r→Calls P f vs.toArray w fun e w'=>∃ v,e = .returned v∧dJ S β (res r) v∧Up w w'):cM P f args [] mr res (fun _=>[]):=by
 intro S β w vs hc hv r hr
 refine (h S β w vs hc.inv hc.holds hv r hr).mono fun e w' ⟨v,he,hd,hu⟩=>⟨v,S,β,he,hd,fun o k ho _=>by simp at ho,hc.xP hu.os hu.tape hu.output hu.size hu.block⟩
end
end Go.Dl

namespace Go.Dl
variable [eY]
section
variable {P:Program} {n:Nat} {A T R:Type} {go:T→St} {ab:A→Ex × St} {st bJ:St} {m:Option (A ⊕ T)} {cs:List Code}
theorem bC.aEJ {ops:Array Oper} {l:List Oper} {b:Bool} {eM:Bool→St} (h0:eM b=st) (h:bC P n ops l cs (eM true) m go ab):bC P n ops l cs st (c5 [b] m) go ab:=by
 intro Γ S β a w hr x hx
 obtain ⟨hv,hm⟩:=hG hx
 have hb:b=true:=hv b (List.mem_cons_self ..)
 subst hb
 rw[← h0] at hr
 exact h Γ S β a w hr x hm
def z6 (st:St):Bool:=st.gd.all fun p=>p.2.all fun q=>match st.get q.1 with
 | .c (.val (.bool b))=>b == q.2
 | _=>false
theorem sY:∀ (l:List (Nat × List (Nat × Bool))) (t:Nat),dL [] l t=[]∨∃ g,(t,g)∈l∧dL [] l t=g
 | [],t=>.inl rfl
 | (i,g)::r,t=>by
   unfold dL
   cases hb:Nat.beq i t with
   | true =>
     obtain rfl:=aF hb
     exact .inr ⟨g,List.mem_cons_self ..,rfl⟩
   | false =>
     rw[cond_false]
     rcases sY r t with h | ⟨g',h1,h2⟩
     ·exact .inl h
     ·exact .inr ⟨g',List.mem_cons_of_mem _ h1,h2⟩
theorem wC {st:St} (h:z6 st=true) (t:Nat):st.holds (st.jY t):=by
 unfold St.jY
 rcases sY st.gd t with h1 | ⟨g,h1,h2⟩
 ·rw[h1];intro q hq;cases hq
 ·rw[h2]
  intro q hq
  unfold z6 at h
  have h3:=aJ.1 (aJ.1 h _ h1) q hq
  split at h3
  ·rename_i b hb
   have:b=q.2:=by simpa using h3
   rw[hb,this]
  ·cases h3
theorem Conv.clear (h:z6 st=true):Conv n st ⟨st.tmps,st.cN,[],st.h⟩:=by
 intro Γ S β a w hr
 exact ⟨S,β,hr.core,fun t _=>hr.tm t (wC h t),fun t hn=>absurd (fun q hq=>by cases hq) hn,hr.size,hr.defers,hr.hand⟩
def Oper.free (o:Oper):Oper:={ o with guard:=none }
def sZ (ops:Array Oper) (o:Oper) (st:St):Bool :=
 match o.guard with
 | none=>false
 | some (j,want) =>
   (match (ops[j]?).bind (·.dst) with
   | some t =>
     (match st.jY t,st.get t with
     | [],.c (.val (.bool b))=>b == want
     | _,_=>false)
   | none=>false)
theorem bC.aEK (k:Nat) {ops:Array Oper} {l:List Oper} (hk:Nat.blt k l.length=true) (hi:sZ ops (p8 l k) st=true)
 (h:bC P n ops ((l.set k (Oper.free (p8 l k))).drop k) cs st m go ab):bC P n ops (l.drop k) cs st m go ab:=by
 have hlt:k<l.length:=by simpa [aT] using hk
 have hset:(l.set k (Oper.free (p8 l k))).drop k=Oper.free (p8 l k)::l.drop (k+1):=by
  rw[List.drop_eq_getElem_cons (by simpa using hlt),List.getElem_set_self,List.drop_set_of_lt (by omega)]
 rw[hset] at h
 rw[p9 hk]
 intro Γ S β a w hr x hx
 have h1:=h Γ S β a w hr x hx
 have hw:Region.wanted (p8 l k) (yielded ops a.tmps)=true:=by
  unfold sZ at hi
  split at hi
  ·cases hi
  ·rename_i j want hgd
   split at hi
   ·rename_i t ht
    split at hi
    ·rename_i b hg hb
     have hbw:b=want:=by simpa using hi
     subst hbw
     have hd:=hr.tm t (by unfold St.holds;rw[hg];intro q hq;cases hq)
     rw[hb] at hd
     have hv:a.tmps.getD t undef = .bool b:=hd
     have hsome:a.tmps[t]? = some (.bool b):=by
      rw[aR] at hv
      cases hq:a.tmps[t]? with
      | none=>rw[hq] at hv;cases hv
      | some u=>rw[hq] at hv;simp only[Option.getD_some] at hv;rw[hv]
     have hy:yielded ops a.tmps j=some b:=by
      unfold yielded
      rw[ht]
      show (match a.tmps[t]? with | some (.bool b)=>some b | _=>none)=some b
      rw[hsome]
     simp only[Region.wanted,hgd,hy]
     simp
    ·cases hi
   ·cases hi
 simp only[wpList] at h1 ⊢
 rw[hw,aO rfl]
 have hw':Region.wanted (Oper.free (p8 l k)) (yielded ops a.tmps)=true:=rfl
 rw[hw',aO rfl] at h1
 exact h1
end
end Go.Dl

namespace Go.Dl
variable [eY] {α:Type}
omit [eY] in theorem aL3 (E:El α) (ct:α→List C) (h:∀ x,ct x=E.cs x) (l:List α) {i:Nat} (hi:i<l.length) (j:Nat):gP (l.map ct) i j=E.at l i j:=by
 unfold gP El.at
 have:(l.map ct).getD i []=E.cs (l.getD i E.d):=by
  simp [List.getD,aV,aE hi,h]
 rw[this]
omit [eY] in theorem aLf (Q:El (List α)) (nt:List α→C) (l:List (List α)) {i:Nat} (hi:i<l.length):gP (l.map fun b=>[nt b]) i 0=nt (l.getD i Q.d):=by
 unfold gP
 simp [List.getD,aV,aE hi]
end Go.Dl

namespace Go.Dl
variable [eY]
open Go.RowKit
section
variable {P:Program} {n:Nat} {ops:Array Oper} {W:Nat→Bool} {A T:Type} {go:T→St} {ab:A→Ex × St} {st bJ:St} {m:Option (A ⊕ T)} {cs:List Code}
def aA6:Op→Bool
 | .buildSlice _ _ _=>true
 | _=>false
theorem aBM (w:World) (o:Go.Obj):Up w (w.alloc o):=(Below.refl _ _).alloc (aI _) o
def Still (P:Program) {X:Type} (s:Sem X):Prop:=∀ w a w',s.run P w = .ok a w'→w'=w
theorem qC (t:TypeId):Still P (underlying t):=by
 intro w a w' h
 cases hu:P.underlying t with
 | none=>simp [underlying,hu] at h
 | some d=>rw[run_underlying hu] at h;cases h;rfl
theorem mN (t:TypeId):Still P (typeInfo t):=by
 intro w a w' h
 cases hu:P.info? t with
 | none=>simp [typeInfo,hu] at h
 | some d=>simp [typeInfo,hu] at h;exact h.2.symm
theorem wD (t:TypeId):Still P (sizeOf t):=by
 intro w a w' h
 unfold sizeOf at h
 rw[Sem.run_bind] at h
 cases hr:(typeInfo t).run P w with
 | halt x y=>rw[hr] at h;cases h
 | ok i w1 =>
   rw[hr] at h
   obtain rfl:=mN t w _ _ hr
   cases h;rfl
theorem jV (t:TypeId):Still P (zeroValue t):=by
 intro w a w' h
 unfold zeroValue at h
 rw[Sem.run_bind] at h
 cases hr:(typeInfo t).run P w with
 | halt x y=>rw[hr] at h;cases h
 | ok i w1 =>
   rw[hr] at h
   obtain rfl:=mN t w _ _ hr
   simp only[Result.andThen_ok] at h
   split at h
   ·cases h;rfl
   ·cases h
theorem vA {e:TypeId} {cs:Array Value} {w w':World} {a:Addr} (h:(newRow e cs).run P w = .ok a w'):Up w w':=by
 simp [newRow] at h
 rw[← h.2]
 exact aBM _ _
def Mk (P:Program) {X:Type} (s:Sem X):Prop:=∀ w a w',s.run P w = .ok a w'→Up w w'
theorem Mk.bind {X Y:Type} {s:Sem X} {f:X→Sem Y} (h:Mk P s) (hf:∀ x,Mk P (f x)):Mk P (s >>= f):=by
 intro w a w' hr
 rw[Sem.run_bind] at hr
 cases h1:s.run P w with
 | halt x y=>rw[h1] at hr;cases hr
 | ok x w1=>rw[h1] at hr;exact (h w x w1 h1).trans (hf x w1 a w' hr)
theorem Mk.pure {X:Type} (x:X):Mk P (Pure.pure x:Sem X):=by
 intro w a w' h
 cases h;exact Up.refl _
theorem Mk.still {X:Type} {s:Sem X} (h:Still P s):Mk P s:=fun w a w' hr=>by rw[h w a w' hr];exact Up.refl _
theorem Mk.stuck {X:Type} (m:String):Mk P (Go.stuck m:Sem X):=fun w a w' h=>by cases h
theorem Mk.unsupported {X:Type} (m:Unsupported):Mk P (Go.unsupported m:Sem X):=fun w a w' h=>by cases h
theorem uN (t:TypeId) (len:Nat) (parts:Array (Nat × Value)):Mk P (Instr.buildSlice t len parts):=by
 unfold Instr.buildSlice
 refine Mk.bind (Mk.still (qC t)) fun td=>?_
 split
 ·refine Mk.bind (Mk.still (wD _)) fun sz=>?_
  have fin:∀ (e:TypeId) (z:Array Value),Mk P (match Instr.fill (fun i=>some (i * sz,sz)) (Array.map (fun x=>z[x % z.size]!) (Array.range (len * sz))) parts.toList with
   | some cells=>do
     let a ← newRow e cells
     Pure.pure (Value.slice (some a) len len)
   | _=>Go.stuck "buildSlice: a part of the wrong size" : Sem Value):=by
   intro e z
   split
   ·exact Mk.bind (fun w a w' h=>vA h) fun a=>Mk.pure _
   ·exact Mk.stuck _
  dsimp only
  split
  ·exact Mk.bind (Mk.unsupported _) fun x=>by
    split
    ·exact Mk.bind (Mk.pure _) fun z=>fin _ z
    ·exact Mk.bind (Mk.still (jV _)) fun z=>Mk.bind (Mk.pure _) fun z=>fin _ z
  ·split
   ·exact Mk.bind (Mk.pure _) fun z=>fin _ z
   ·exact Mk.bind (Mk.still (jV _)) fun z=>Mk.bind (Mk.pure _) fun z=>fin _ z
 ·exact Mk.stuck _
theorem aC4 {o:Oper} {ρ:Operand→Value} {w w':World} {x:Next} (hm:aA6 o.op=true) (h:(execOp ρ o).run P w = .ok x w'):Up w w'∧∃ v,x = .value v:=by
 unfold aA6 at hm
 split at hm
 ·rename_i t len parts hop
  unfold execOp at h
  rw[hop] at h
  dsimp only at h
  rw[Sem.run_bind] at h
  cases hr:(Instr.buildSlice t len (parts.map fun (i,x)=>(i,ρ x))).run P w with
  | halt a b=>rw[hr] at h;cases h
  | ok a w1 =>
    rw[hr] at h
    have:=uN _ _ _ _ _ _ hr
    cases h
    exact ⟨this,_,rfl⟩
 ·cases hm
end
end Go.Dl

namespace Go.Dl
end Go.Dl

namespace Go.Dl
variable [eY]
section
variable {P:Program} {n:Nat} {A T:Type} {go:T→St} {ab:A→Ex × St} {st bJ:St} {m:Option (A ⊕ T)} {cs:List Code} {c:Code}
end
end Go.Dl

namespace Go.Dl
variable [eY]
open Go.RowKit
section
variable {P:Program} {n:Nat} {ops:Array Oper} {W:Nat→Bool} {A T:Type} {go:T→St} {ab:A→Ex × St} {st bJ:St} {m:Option (A ⊕ T)} {cs:List Code}
def s6:Operand→Bool
 | .const (.slice none 0 0)=>true
 | _=>false
def mO:Op→Bool
 | .buildSlice _ _ _=>true
 | .alloc _=>true
 | .makeSlice _ _ _=>true
 | .call c=>(match c.callee,c.args.toList with
   | .builtin .append,[x,_]=>s6 x
   | _,_=>false)
 | _=>false
theorem aC5 (t:TypeId) (v:Value):Mk P (Instr.alloc t true v):=by
 unfold Instr.alloc
 refine Mk.bind (Mk.still (jV t)) fun z=>?_
 dsimp only
 refine Mk.bind (fun w a w' h=>?_) fun a=>Mk.pure _
 exact vA h
theorem nO {t t' ty:TypeId} {td:TypeDesc} {Γ:jX} {S:Mem} {β:dI} {w w':World} {xs xs':List Obj} {src d':D} {x v':Value} {vs:List Bool} (ht':P.underlying t'=some td) (rL:(∃ u,td = .slice u)∨td = .string)
 (ts:Array TypeId) (h0:ts[0]? = some t) (h1:ts[1]? = some t') (hc:Core Γ S β w xs) (hx:dJ S β src x) (h:lC P t (.c .nil) src xs=some (vs,d',xs')) (hvs:∀ b∈vs,b=true)
 (hr:(Builtin.append_ ts ty #[.slice none 0 0,x]).run P w = .ok v' w'):Up w w':=by
 unfold lC at h
 cases ht:P.underlying t with
 | none=>simp [ht] at h
 | some tdd =>
   cases tdd with
   | slice e =>
     simp only[ht] at h
     cases hi:P.info? e with
     | none=>simp [hi] at h
     | some i =>
       simp only[hi] at h
       cases hz:i.zero with
       | none=>simp [hz] at h
       | some z =>
         simp only[hz] at h
         have h2:=bW h
         clear h
         obtain ⟨hg,h⟩:=h2
         simp only[aB,aT] at hg
         obtain ⟨hzs,hsz,hby⟩:=hg
         have hzs:=aF hzs
         cases hsr:sB P e i.size src xs with
         | none=>simp [hsr] at h
         | some p =>
           obtain ⟨m,g2⟩:=p
           simp only[hsr] at h
           obtain ⟨news,hsrc⟩:=oS hsz hc hx hsr
           simp only[aA,aG] at h
           obtain ⟨rfl,_,_⟩:=h
           have hrm:room (m * i.bytes)=true:=hvs _ (by simp)
           have aJj:(0+m) * i.bytes≤140737488355328:=by rw[Nat.zero_add];simpa [room] using hrm
           have hm:0+m≤140737488355328:=Nat.le_trans (Nat.le_mul_of_pos_right _ hby) aJj
           obtain ⟨v2,w2,hr2,_,hgrow,_⟩:=l8 (ty:=ty) ht ht' rL hi hz hzs (World.ownsRow_nil w 0 e i.size) hsrc (by simp only[maxLen];omega) aJj ts h0 h1
           rw[hr] at hr2
           obtain ⟨rfl,rfl⟩:v'=v2∧w'=w2:=by cases hr2;exact ⟨rfl,rfl⟩
           exact ⟨hgrow.os,hgrow.tape,hgrow.output,hgrow.size,fun b hb=>hgrow.block b hb (by simp [Value.ownBlock])⟩
   | _=>simp [ht] at h
theorem aEM {Γ:jX} {S:Mem} {β:dI} {a:Act} {w w':World} {o:Oper} {x:Next} {vs:List Bool} (hm:mO o.op=true) (hgd:o.guard=none) (hr:RR Γ S β a w n st) (he:nW P n ops o st=some (vs,bJ)) (hvs:∀ b∈vs,b=true)
 (h:(execOp a.eval o).run P w = .ok x w'):Up w w'∧∃ v,x = .value v:=by
 unfold mO at hm
 split at hm
 ·rename_i t len parts hop
  exact aC4 (by rw[hop];rfl) h
 ·rename_i t hop
  unfold execOp at h
  rw[hop] at h
  dsimp only at h
  rw[Sem.run_bind] at h
  cases hq:(Instr.alloc t true (.tuple #[])).run P w with
  | halt a b=>rw[hq] at h;cases h
  | ok a w1 =>
    rw[hq] at h
    have:=aC5 _ _ _ _ _ hq
    cases h
    exact ⟨this,_,rfl⟩
 ·rename_i t l c hop
  unfold nW at he
  unfold guardOf at he
  rw[hgd] at he
  dsimp only at he
  obtain ⟨_,he⟩:=bW he
  split at he
  ·rename_i vs' d xs nX
   simp only[aA,aG] at he
   obtain ⟨rfl,rfl⟩:=he
   have h0:st.holds []:=fun q hq=>by cases hq
   have hv:=hY hr h0
   unfold qQ at nX
   rw[hop] at nX
   dsimp only at nX
   obtain ⟨_,nX⟩:=bW nX
   unfold vO at nX
   rw[hop] at nX
   dsimp only at nX
   obtain ⟨v2,w2,_,_,hr2,_,_,_,_,hup⟩:=lV (by rw[mC];exact hr.core) (hv l) (hv c) nX hvs
   have hrun:(execOp a.eval o).run P w=((do let v ← Instr.makeSlice t (a.eval l) (a.eval c);pure (Next.value v)):Sem Next).run P w:=by
    unfold execOp
    rw[hop]
   rw[hrun,Sem.run_bind,hr2] at h
   cases h
   exact ⟨hup,_,rfl⟩
  ·cases he
 ·rename_i c hop
  obtain ⟨callee,args,mX⟩:=c
  dsimp only at hm
  split at hm
  ·rename_i x0 y ha
   have ha':args = #[x0,y]:=by apply Array.ext';simpa using ha
   subst ha'
   unfold nW at he
   unfold guardOf at he
   rw[hgd] at he
   dsimp only at he
   obtain ⟨_,he⟩:=bW he
   split at he
   ·rename_i vs' d xs nX
    simp only[aA,aG] at he
    obtain ⟨rfl,rfl⟩:=he
    have h0:st.holds []:=fun q hq=>by cases hq
    have hv:=hY hr h0
    unfold qQ at nX
    rw[hop] at nX
    dsimp only at nX
    obtain ⟨_,nX⟩:=bW nX
    unfold vO at nX
    rw[hop] at nX
    dsimp only at nX
    have aG4:x0 = .const (.slice none 0 0):=by
     unfold s6 at hm
     split at hm
     ·rfl
     ·cases hm
    subst aG4
    have xI:((do let dd ← resolve a.eval ⟨.builtin .append,#[.const (.slice none 0 0),y],mX⟩ o.type;invoke dd.target dd.args):Sem Next).run P =
     (builtin .append mX o.type (#[Operand.const (.slice none 0 0),y].map fun | .const _=>true | _=>false) (#[Operand.const (.slice none 0 0),y].map a.eval)).run P:=rfl
    have hrun:(execOp a.eval o).run P w=((do let v ← Builtin.append_ mX o.type #[.slice none 0 0,a.eval y];pure (Next.value v)):Sem Next).run P w:=by
     unfold execOp
     rw[hop]
     dsimp only
     rw[xI,show Array.map a.eval #[Operand.const (.slice none 0 0),y] = #[.slice none 0 0,a.eval y] by simp;rfl]
     rfl
    rw[hrun,Sem.run_bind] at h
    cases hq:(Builtin.append_ mX o.type #[.slice none 0 0,a.eval y]).run P w with
    | halt u v=>rw[hq] at h;cases h
    | ok u w1 =>
      rw[hq] at h
      cases h
      refine ⟨?_,_,rfl⟩
      split at nX
      ·rename_i heq _ _
       simp at heq
      ·rename_i t t' r e1 h2 h3
       simp only[List.cons.injEq,and_true] at h2
       obtain ⟨rfl,rfl⟩:=h2
       have h0:mX[0]? = some t:=by rw[← aZ,h3];rfl
       have h1':mX[1]? = some t':=by rw[← aZ,h3];rfl
       split at nX
       ·rename_i u hu
        exact nO hu (.inl ⟨_,rfl⟩) mX h0 h1' (by rw[mC];exact hr.core) (hv y) nX hvs hq
       ·rename_i hu
        exact nO hu (.inr rfl) mX h0 h1' (by rw[mC];exact hr.core) (hv y) nX hvs hq
       ·cases nX
      all_goals simp_all
   ·cases he
  ·cases hm
 ·cases hm
def eP (P:Program) (n:Nat) (ops:Array Oper) (W:Nat→Bool) {A T:Type} (i fuel:Nat) (listed:Array Bool) (cs:List Code) (st:St) (m:Option (A ⊕ T)) (go:T→St) (ab:A→Ex × St):Prop :=
 ∀ Γ S β a w,RR Γ S β a w n st→∀ x,m=some x→xOp P ops W (Exit.then (wpL P cs (Post Γ n go ab x)) (Post Γ n go ab x)) i (n7 P .any ops W (Exit.then (wpL P cs (Post Γ n go ab x)) (Post Γ n go ab x)) fuel (listed.setIfInBounds i true)) a w
theorem cI.fork {fuel fuel':Nat} {listed:Array Bool} (l:List Nat) (hl:(Nat.beq fuel (fuel'+1) && (decide (Region.ready .any ops listed=l) && !l.isEmpty))=true) (h:∀ i∈l,eP P n ops W i fuel' listed cs st m go ab):cI P n ops W fuel listed cs st m go ab:=by
 intro Γ S β a w hr x hx
 simp only[aB,aC] at hl
 obtain ⟨hf,hrd,hne⟩:=hl
 have hf:=aF hf
 subst hf
 refine ⟨fun h0=>?_,fun i hi=>?_⟩
 ·rw[hrd] at h0;subst h0;cases hne
 ·rw[hrd] at hi;exact h i hi Γ S β a w hr x hx
theorem cI.gQ {fuel fuel':Nat} {listed:Array Bool} (i:Nat) (hl:(Nat.beq fuel (fuel'+1) && (decide (Region.ready .any ops listed=[i]) && ![i].isEmpty))=true) (h:eP P n ops W i fuel' listed cs st m go ab):cI P n ops W fuel listed cs st m go ab :=
 cI.fork [i] hl fun j hj=>by obtain rfl:=aW.1 hj;exact h
theorem cI.s7 {fuel fuel':Nat} {listed:Array Bool} (i j:Nat) (hl:(Nat.beq fuel (fuel'+1) && (decide (Region.ready .any ops listed=[i,j]) && ![i,j].isEmpty))=true) (h1:eP P n ops W i fuel' listed cs st m go ab) (h2:eP P n ops W j fuel' listed cs st m go ab):cI P n ops W fuel listed cs st m go ab :=
 cI.fork [i,j] hl fun k hk=>by
  rcases List.mem_cons.1 hk with rfl | hk
  ·exact h1
  ·obtain rfl:=aW.1 hk;exact h2
theorem eP.pF (j:Nat) (keep om:List Nat) {fuel:Nat} {listed:Array Bool} {vs:List Bool} {bJ:St}
 (hf:(!W j && (ops[j]?).elim false fun o=>o.guard.isNone && (mO o.op || gB o.op))=true) (he:iC P n ops (opsOf ops [j]) st keep om=some (vs,bJ))
 (h:cI P n ops W fuel (listed.setIfInBounds j true) cs bJ m go ab):eP P n ops W j fuel listed cs st (c5 vs m) go ab:=by
 intro Γ S β a w hr x hx
 obtain ⟨hvs,hm⟩:=hG hx
 simp only[aB,Bool.not_eq_true'] at hf
 obtain ⟨hWj,hmk⟩:=hf
 cases ho:ops[j]? with
 | none=>rw[ho] at hmk;cases hmk
 | some o =>
   rw[ho] at hmk
   have hmk:(o.guard.isNone && (mO o.op || gB o.op))=true:=hmk
   rw[aB] at hmk
   obtain ⟨hgd,hmk⟩:=hmk
   have hgd:o.guard=none:=by simpa using hgd
   have sV:opsOf ops [j]=[o]:=by simp [opsOf,ho]
   rw[sV] at he
   unfold iC at he
   split at he
   ·rename_i vs2 nA h2
    cases hk:nA.keep keep om with
    | none=>rw[hk] at he;cases he
    | some st3 =>
      rw[hk] at he
      simp only[aL,aA,aG] at he
      obtain ⟨rfl,rfl⟩:=he
      unfold kG at h2
      split at h2
      ·rename_i v st1 h1
       simp only[kG] at h2
       simp only[aA,aG] at h2
       obtain ⟨rfl,rfl⟩:=h2
       have tS:∀ b∈v,b=true:=fun b hb=>hvs b (by simpa using hb)
       unfold xOp
       rw[hWj,cond_false]
       unfold uG
       simp only[ho]
       rcases iS hr h1 tS with ⟨hw,u,w',S',β',hrun,lY,hq⟩ | ⟨hw,lY⟩
       ·simp only[hw,if_true]
        unfold xop
        have hup:∀ {y:Next},(execOp a.eval o).run P w = .ok y w'→Up w w'∧∃ v,y = .value v:=by
         intro y hy
         rw[aP] at hmk
         rcases hmk with hmk | hmk
         ·exact aEM hmk hgd hr h1 tS hy
         ·obtain ⟨rfl,rfl,rfl,hq2⟩:=hq hmk
          have:=hq2 w' (.inr (Up.refl _))
          rw[hy] at this
          cases this
          exact ⟨Up.refl _,_,rfl⟩
        rcases hrun with hrun | ⟨hrun,_⟩
        ·rw[hrun]
         exact ⟨(hup hrun).1,fun w'' wB=>h Γ S' (fX β' om) _ w'' (hD (lY.up wB) hk) x hm⟩
        ·obtain ⟨_,v,hv⟩:=hup hrun
         cases hv
       ·simp only[hw,aN,if_false]
        exact fun w' hw'=>h Γ S (fX β om) _ w' (hD (lY.up hw') hk) x hm
      ·cases h2
   ·cases he
theorem eP.writes (j:Nat) (keep om:List Nat) {fuel:Nat} {listed:Array Bool} {vs:List Bool} {bJ:St}
 (hf:(W j && (ops[j]?).isSome)=true) (he:iC P n ops (opsOf ops [j]) st keep om=some (vs,bJ))
 (h:cI P n ops W fuel (listed.setIfInBounds j true) cs bJ m go ab):eP P n ops W j fuel listed cs st (c5 vs m) go ab:=by
 intro Γ S β a w hr x hx
 obtain ⟨hvs,hm⟩:=hG hx
 simp only[aB] at hf
 obtain ⟨hWj,hso⟩:=hf
 obtain ⟨o,ho⟩:=aU.1 hso
 have sV:opsOf ops [j]=[o]:=by simp [opsOf,ho]
 rw[sV] at he
 unfold iC at he
 split at he
 ·rename_i vs2 nA h2
  cases hk:nA.keep keep om with
  | none=>rw[hk] at he;cases he
  | some st3 =>
    rw[hk] at he
    simp only[aL,aA,aG] at he
    obtain ⟨rfl,rfl⟩:=he
    unfold xOp
    rw[hWj,cond_true]
    unfold wpOp
    rw[ho]
    unfold kG at h2
    split at h2
    ·rename_i v st1 h1
     simp only[kG] at h2
     simp only[aA,aG] at h2
     obtain ⟨rfl,rfl⟩:=h2
     have tS:∀ b∈v,b=true:=fun b hb=>hvs b (by simpa using hb)
     dsimp only
     rcases iS hr h1 tS with ⟨hw,u,w',S',β',hrun,lY,_⟩ | ⟨hw,lY⟩
     ·simp only[hw,if_true]
      left
      have o4:=h Γ S' (fX β' om) _ w' (hD lY hk) x hm
      rcases hrun with hrun | ⟨hrun,rfl⟩
      ·simp only[Oper.wp,Oper.upon,hrun]
       exact o4
      ·simp only[Oper.wp,Oper.upon,hrun]
       exact o4
     ·simp only[hw,aN,if_false]
      exact h Γ S (fX β om) _ w (hD lY hk) x hm
    ·cases h2
 ·cases he
theorem eP.pG (j:Nat) (keep om:List Nat) {fuel:Nat} {listed:Array Bool} {bJ:St}
 (hf:(!W j && (ops[j]?).elim false fun o=>o.guard.isNone && (mO o.op || gB o.op))=true) (he:iC P n ops (opsOf ops [j]) st keep om=some ([],bJ))
 (h:cI P n ops W fuel (listed.setIfInBounds j true) cs bJ m go ab):eP P n ops W j fuel listed cs st m go ab :=
 fun Γ S β a w hr x hx=>eP.pF (vs:=[]) j keep om hf he h Γ S β a w hr x hx
theorem eP.fO (j:Nat) (keep om:List Nat) {fuel:Nat} {listed:Array Bool} {bJ:St}
 (hf:(W j && (ops[j]?).isSome)=true) (he:iC P n ops (opsOf ops [j]) st keep om=some ([],bJ))
 (h:cI P n ops W fuel (listed.setIfInBounds j true) cs bJ m go ab):eP P n ops W j fuel listed cs st m go ab :=
 fun Γ S β a w hr x hx=>eP.writes (vs:=[]) j keep om hf he h Γ S β a w hr x hx
end
end Go.Dl

namespace Go.Dl
open Go.RowKit
variable [eY]
section
variable {P:Program} {n:Nat} {A T R:Type} {go:T→St} {ab:A→Ex × St} {st bJ:St} {m:Option (A ⊕ T)} {cs:List Code}
end
end Go.Dl

namespace Go.Dl
variable [eY]
section
variable {P:Program} {n:Nat} {A T R:Type} {go:T→St} {ab:A→Ex × St} {st bJ:St} {cs:List Code} {m:Option (A ⊕ T)}
end
end Go.Dl

namespace Go.Dl
variable [eY]
open Go.RowKit
section
variable {P:Program} {n:Nat} {ops:Array Oper} {W:Nat→Bool} {A T R:Type} {go:T→St} {ab:A→Ex × St} {st bJ:St} {cs:List Code}
theorem cI.wE (eM:St) (mf:Option (A ⊕ T)) {fuel:Nat} {listed:Array Bool} {m:Option (A ⊕ T)} (h1:Ref P n cs eM mf go ab)
 (h2:Ref P n cs eM mf go ab→cI P n ops W fuel listed cs st m go ab):cI P n ops W fuel listed cs st m go ab:=h2 h1
end
end Go.Dl

namespace Go.Dl
variable [eY]
section
variable {P:Program} {n:Nat} {A T:Type} {go:T→St} {ab:A→Ex × St} {st:St} {cs:List Code} {m:Option (A ⊕ T)}
end
section
variable {P:Program} {n:Nat} {ops:Array Oper} {W:Nat→Bool} {A T:Type} {go:T→St} {ab:A→Ex × St} {st:St} {cs:List Code} {m:Option (A ⊕ T)}
end
end Go.Dl

namespace Go.Dl
variable [eY]
open Go.RowKit
def St.rm (st:St) (t:Nat):St:=⟨jG t st.tmps,st.cN,st.gd,st.h⟩
def St.nP (st:St):List (Nat × Nat)→St
 | []=>st
 | p::u=>(st.nP u).rm p.2
def wF (listed:Array Bool):List (Nat × Nat)→Array Bool
 | []=>listed
 | p::u=>(wF listed u).setIfInBounds p.1 false
def lst (listed:Array Bool):List (Nat × Nat)→Array Bool
 | []=>listed
 | p::u=>(lst listed u).setIfInBounds p.1 true
def fT (us:List (List (Nat × Nat))) (cv:List (Nat × List Bool)) (P:Program) (n:Nat) (ops:Array Oper) (W:Nat→Bool) {A T:Type} (fuel:Nat) (listed:Array Bool) (cs:List Code) (st:St) (m:Option (A ⊕ T)) (go:T→St) (ab:A→Ex × St):Prop :=
 (∀ p∈cv,∀ b∈p.2,b=true)→∀ u∈us,cI P n ops W (fuel+u.length) (wF listed u) cs (st.nP u) m go ab
def fU (us:List (List (Nat × Nat))) (cv:List (Nat × List Bool)) (P:Program) (n:Nat) (ops:Array Oper) (W:Nat→Bool) {A T:Type} (j fuel:Nat) (listed:Array Bool) (cs:List Code) (st:St) (m:Option (A ⊕ T)) (go:T→St) (ab:A→Ex × St):Prop :=
 (∀ p∈cv,∀ b∈p.2,b=true)→∀ u∈us,eP P n ops W j (fuel+u.length) (wF listed u) cs (st.nP u) m go ab
def evs (us:List (List (Nat × Nat))):List (List (Nat × Nat) × (Nat × Nat)):=us.flatMap fun u=>(u.filter fun p=>us.contains (u.erase p)).map fun p=>(u,p)
def qD (ops:Array Oper) (W:Nat→Bool) (us:List (List (Nat × Nat))):Bool:=us.all fun u=>u.all fun p=>!W p.1 && (ops[p.1]?).elim false fun o=>o.guard.isNone && (mO o.op || gB o.op)
def qE (ops:Array Oper) (us bs:List (List (Nat × Nat))) (listed:Array Bool) (l:List Nat):Bool :=
 (evs us).all (fun q=>decide ((wF listed q.1).setIfInBounds q.2.1 true=wF listed (q.1.erase q.2))) && us.all fun u=>bs.contains u || (!(Region.ready .any ops (wF listed u)).isEmpty && (Region.ready .any ops (wF listed u)).all fun x=>l.any (Nat.beq x) || u.any fun p=>Nat.beq x p.1 && us.contains (u.erase p))
section
variable {P:Program} {n:Nat} {ops:Array Oper} {W:Nat→Bool} {A T R:Type} {go:T→St} {ab:A→Ex × St} {st bJ nA:St} {m:Option (A ⊕ T)} {cs:List Code} {j fuel fuel':Nat} {listed:Array Bool} {us:List (List (Nat × Nat))} {cv:List (Nat × List Bool)}
theorem wG:∀ (u:List (Nat × Nat)),u.all (fun p=>!Nat.beq p.1 j)=true→(wF listed u).setIfInBounds j true=wF (listed.setIfInBounds j true) u
 | [],_=>rfl
 | p::u,h=>by
   rw[List.all_cons,aB] at h
   have hne:p.1≠j:=fun e=>by have:=h.1;rw[e] at this;simp at this
   unfold wF
   rw[← wG u h.2,Array.setIfInBounds_comm _ _ hne]
theorem fT.core (bs:List (List (Nat × Nat))) (h0:∀ u∈bs,cI P n ops W (fuel+u.length) (wF listed u) cs (st.nP u) m go ab) (l:List Nat) (hl:∀ j∈l,∀ u∈us,u ∉ bs→eP P n ops W j (fuel+u.length - 1) (wF listed u) cs (st.nP u) m go ab)
 (hz:bs.contains []=true) (hr:qE ops us bs listed l=true) (hq:qD ops W us=true) (zM:∀ p∈cv,∀ b∈p.2,b=true)
 (he:(evs us).map (fun q=>iC P n ops (opsOf ops [q.2.1]) (st.nP q.1) ((st.nP (q.1.erase q.2)).tmps.map Prod.fst) (List.range st.cN.length))=(evs us).map fun q=>some (dL [] cv q.2.1,st.nP (q.1.erase q.2))) :
 ∀ (k:Nat),∀ u∈us,u.length≤k→cI P n ops W (fuel+u.length) (wF listed u) cs (st.nP u) m go ab
 | k,[],hu,_=>h0 [] (by simpa using hz)
 | 0,p::u,hu,hk=>absurd hk (by simp)
 | k+1,p::u,hu,hk=>by
   have hr':=hr
   unfold qE at hr
   rw[aB,aJ,aJ] at hr
   obtain ⟨hse,hr⟩:=hr
   by_cases hbs:(p::u)∈bs
   ·exact h0 _ hbs
   have h1:=hr _ hu
   have aLj:bs.contains (p::u)=false:=by simpa using hbs
   simp only[aLj,Bool.false_or,aB,Bool.not_eq_true'] at h1
   obtain ⟨hne,h1⟩:=h1
   refine cI.fork (fuel':=fuel+u.length) (Region.ready .any ops (wF listed (p::u))) ?_ fun x hx=>?_
   ·simp only[aB,decide_true,Bool.true_and,hne,Bool.not_false,and_true]
    simp [Nat.add_assoc]
   ·rw[aJ] at h1
    have h2:=h1 x hx
    rw[aP] at h2
    rcases h2 with h2 | h2
    ·rw[List.any_eq_true] at h2
     obtain ⟨y,hy,hxy⟩:=h2
     obtain rfl:=aF hxy
     exact hl x hy _ hu hbs
    ·rw[List.any_eq_true] at h2
     obtain ⟨q,hqu,zU⟩:=h2
     rw[aB] at zU
     have aLl:=aF zU.1
     subst aLl
     have hmem:(p::u).erase q∈us:=by simpa using zU.2
     have nX:((p::u),q)∈evs us:=by
      unfold evs
      rw[List.mem_flatMap]
      refine ⟨_,hu,?_⟩
      rw[List.mem_map]
      exact ⟨q,List.mem_filter.2 ⟨hqu,by simpa using hmem⟩,rfl⟩
     have hst:=List.map_inj_left.1 he _ nX
     dsimp only at hst
     have hlen:((p::u).erase q).length=u.length:=by rw[List.length_erase_of_mem hqu];simp
     have ih:=fT.core bs h0 l hl hz hr' hq zM he k _ hmem (by rw[hlen];simpa using hk)
     rw[hlen] at ih
     unfold qD at hq
     rw[aJ] at hq
     have hq1:=hq _ hu
     rw[aJ] at hq1
     have hb:∀ b∈dL [] cv q.1,b=true:=by
      have:∀ (l:List (Nat × List Bool)),(∀ p∈l,∀ b∈p.2,b=true)→∀ b∈dL [] l q.1,b=true:=by
       intro l
       induction l with
       | nil=>intro _ b hb;cases hb
       | cons z r ihh =>
         intro hz b hb
         unfold dL at hb
         cases hzq:Nat.beq z.1 q.1 with
         | true=>rw[hzq,cond_true] at hb;exact hz z (by simp) b hb
         | false=>rw[hzq,cond_false] at hb;exact ihh (fun p hp=>hz p (by simp [hp])) b hb
      exact this cv zM
     have hset:cI P n ops W (fuel+u.length) ((wF listed (p::u)).setIfInBounds q.1 true) cs (st.nP ((p::u).erase q)) m go ab:=by
      have hes:(wF listed (p::u)).setIfInBounds q.1 true=wF listed ((p::u).erase q):=by
       simpa using hse _ nX
      rw[hes];exact ih
     have:=eP.pF (W:=W) (cs:=cs) (m:=m) (go:=go) (ab:=ab) q.1 _ _ (hq1 _ hqu) hst hset
     intro Γ S β a w hr x hx
     refine this Γ S β a w hr x ?_
     have hall:(dL [] cv q.1).all (fun b=>b)=true:=by
      rw[aJ];exact hb
     have hc:∀ (l:List Bool),(l.all fun b=>b)=true→c5 l m=m:=by
      intro l
      induction l with
      | nil=>intro _;rfl
      | cons v r ih=>intro h;rw[List.all_cons,aB] at h;unfold c5;rw[aO h.1,ih h.2]
     rw[hc _ hall]
     exact hx
theorem cI.aJl (us:List (List (Nat × Nat))) (cv:List (Nat × List Bool)) (u0:List (Nat × Nat)) (keep om:List Nat) (bJ:St) (h:fT us cv P n ops W fuel' (lst listed u0) cs bJ m go ab)
 (hu:(us.contains u0 && (Nat.beq fuel (fuel'+u0.length) && decide (wF (lst listed u0) u0=listed)))=true:=by kernel_rfl) (hk:st.keep keep om=some (bJ.nP u0):=by kernel_rfl):cI P n ops W fuel listed cs st (c5 (cv.flatMap fun p=>p.2) m) go ab:=by
 simp only[aB,aC] at hu
 obtain ⟨h1,h2,h3⟩:=hu
 have h2:=aF h2
 intro Γ S β a w hr x hx
 obtain ⟨hvs,hm⟩:=hG hx
 have:=h (fun p hp b hb=>hvs b (List.mem_flatMap.2 ⟨p,hp,hb⟩)) u0 (by simpa using h1)
 rw[h3,← h2] at this
 exact cI.conv (Conv.keep keep om hk) this Γ S β a w hr x hm
theorem cI.aGq (us:List (List (Nat × Nat))) (u0:List (Nat × Nat)) (keep om:List Nat) (bJ:St) (h:fT us [] P n ops W fuel' (lst listed u0) cs bJ m go ab)
 (hu:(us.contains u0 && (Nat.beq fuel (fuel'+u0.length) && decide (wF (lst listed u0) u0=listed)))=true:=by kernel_rfl) (hk:st.keep keep om=some (bJ.nP u0):=by kernel_rfl):cI P n ops W fuel listed cs st m go ab :=
 cI.aJl us [] u0 keep om bJ h hu hk
theorem fT.close (h:cI P n ops W fuel listed cs st m go ab) (hr:(qE ops us [[]] listed [] && qD ops W us)=true:=by kernel_rfl)
 (he:(evs us).map (fun q=>iC P n ops (opsOf ops [q.2.1]) (st.nP q.1) ((st.nP (q.1.erase q.2)).tmps.map Prod.fst) (List.range st.cN.length))=(evs us).map fun q=>some (dL [] cv q.2.1,st.nP (q.1.erase q.2)):=by kernel_rfl):fT us cv P n ops W fuel listed cs st m go ab:=by
 rw[aB] at hr
 exact fun zM u hu=>fT.core [[]] (fun u hu=>by obtain rfl:=aW.1 hu;exact h) [] (fun j hj=>by cases hj) (by simp) hr.1 hr.2 zM he u.length u hu (aI _)
theorem fT.fork (l:List Nat) (h:∀ j∈l,fU us cv P n ops W j fuel' listed cs st m go ab) (p4:Nat.beq fuel (fuel'+1)=true) (hr0:(decide (Region.ready .any ops listed=l) && !l.isEmpty)=true) (hr:(qE ops us [[]] listed l && qD ops W us)=true)
 (hn:us.contains []=true) (he:(evs us).map (fun q=>iC P n ops (opsOf ops [q.2.1]) (st.nP q.1) ((st.nP (q.1.erase q.2)).tmps.map Prod.fst) (List.range st.cN.length))=(evs us).map fun q=>some (dL [] cv q.2.1,st.nP (q.1.erase q.2))):fT us cv P n ops W fuel listed cs st m go ab:=by
 rw[aB] at hr
 obtain rfl:=aF p4
 intro zM
 have h0:cI P n ops W (fuel'+1) listed cs st m go ab:=cI.fork (fuel':=fuel') l (by rw[hr0];simp) fun j hj=>h j hj zM [] (by simpa using hn)
 refine fun u hu=>fT.core [[]] (fun u hu=>by obtain rfl:=aW.1 hu;exact h0) l (fun j hj u hu hne=>?_) (by simp) hr.1 hr.2 zM he u.length u hu (aI _)
 rw[show fuel'+1+u.length - 1=fuel'+u.length by omega]
 exact h j hj zM u hu
theorem fT.gQ (j:Nat) (h:fU us cv P n ops W j fuel' listed cs st m go ab) (p4:Nat.beq fuel (fuel'+1)=true:=by kernel_rfl) (hr0:(decide (Region.ready .any ops listed=[j]) && ![j].isEmpty)=true:=by kernel_rfl) (hr:(qE ops us [[]] listed [j] && qD ops W us)=true:=by kernel_rfl)
 (hn:us.contains []=true:=by kernel_rfl) (he:(evs us).map (fun q=>iC P n ops (opsOf ops [q.2.1]) (st.nP q.1) ((st.nP (q.1.erase q.2)).tmps.map Prod.fst) (List.range st.cN.length))=(evs us).map fun q=>some (dL [] cv q.2.1,st.nP (q.1.erase q.2)):=by kernel_rfl):fT us cv P n ops W fuel listed cs st m go ab :=
 fT.fork [j] (fun x hx=>by obtain rfl:=aW.1 hx;exact h) p4 hr0 hr hn he
theorem fT.s7 (j k:Nat) (h1:fU us cv P n ops W j fuel' listed cs st m go ab) (h2:fU us cv P n ops W k fuel' listed cs st m go ab) (p4:Nat.beq fuel (fuel'+1)=true:=by kernel_rfl) (hr0:(decide (Region.ready .any ops listed=[j,k]) && ![j,k].isEmpty)=true:=by kernel_rfl) (hr:(qE ops us [[]] listed [j,k] && qD ops W us)=true:=by kernel_rfl)
 (hn:us.contains []=true:=by kernel_rfl) (he:(evs us).map (fun q=>iC P n ops (opsOf ops [q.2.1]) (st.nP q.1) ((st.nP (q.1.erase q.2)).tmps.map Prod.fst) (List.range st.cN.length))=(evs us).map fun q=>some (dL [] cv q.2.1,st.nP (q.1.erase q.2)):=by kernel_rfl):fT us cv P n ops W fuel listed cs st m go ab :=
 fT.fork [j,k] (fun x hx=>by
  rcases List.mem_cons.1 hx with rfl | hx
  ·exact h1
  ·obtain rfl:=aW.1 hx;exact h2) p4 hr0 hr hn he
def vB (keep:List Nat) (u:List (Nat × Nat)):List Nat:=keep.filter fun x=>u.all fun p=>!Nat.beq x p.2
def aBO (us:List (List (Nat × Nat))) (j:Nat):Bool:=us.all fun u=>u.all fun p=>!Nat.beq p.1 j
theorem xW (h:aBO us j=true) {u:List (Nat × Nat)} (hu:u∈us):u.all (fun p=>!Nat.beq p.1 j)=true:=by
 unfold aBO at h
 rw[aJ] at h
 exact h u hu
theorem fU.pF (j:Nat) (keep om:List Nat) {vs:List Bool} (hf:(!W j && (ops[j]?).elim false fun o=>o.guard.isNone && (mO o.op || gB o.op))=true) (he:iC P n ops (opsOf ops [j]) st keep om=some (vs,bJ))
 (h:fT us cv P n ops W fuel (listed.setIfInBounds j true) cs bJ m go ab) (hij:aBO us j=true:=by kernel_rfl) (he2:us.map (fun u=>iC P n ops (opsOf ops [j]) (st.nP u) (vB keep u) om)=us.map (fun u=>some (vs,bJ.nP u)):=by kernel_rfl):fU us cv P n ops W j fuel listed cs st (c5 vs m) go ab:=by
 intro zM u hu
 refine eP.pF j (vB keep u) om hf (List.map_inj_left.1 he2 u hu) ?_
 rw[wG u (xW hij hu)]
 exact h zM u hu
theorem fU.writes (j:Nat) (keep om:List Nat) {vs:List Bool} (hf:(W j && (ops[j]?).isSome)=true) (he:iC P n ops (opsOf ops [j]) st keep om=some (vs,bJ))
 (h:fT us cv P n ops W fuel (listed.setIfInBounds j true) cs bJ m go ab) (hij:aBO us j=true:=by kernel_rfl) (he2:us.map (fun u=>iC P n ops (opsOf ops [j]) (st.nP u) (vB keep u) om)=us.map (fun u=>some (vs,bJ.nP u)):=by kernel_rfl):fU us cv P n ops W j fuel listed cs st (c5 vs m) go ab:=by
 intro zM u hu
 refine eP.writes j (vB keep u) om hf (List.map_inj_left.1 he2 u hu) ?_
 rw[wG u (xW hij hu)]
 exact h zM u hu
theorem fU.pG (j:Nat) (keep om:List Nat) (hf:(!W j && (ops[j]?).elim false fun o=>o.guard.isNone && (mO o.op || gB o.op))=true) (he:iC P n ops (opsOf ops [j]) st keep om=some ([],bJ))
 (h:fT us cv P n ops W fuel (listed.setIfInBounds j true) cs bJ m go ab) (hij:aBO us j=true:=by kernel_rfl) (he2:us.map (fun u=>iC P n ops (opsOf ops [j]) (st.nP u) (vB keep u) om)=us.map (fun u=>some ([],bJ.nP u)):=by kernel_rfl):fU us cv P n ops W j fuel listed cs st m go ab :=
 fU.pF (vs:=[]) j keep om hf he h hij he2
theorem fU.fO (j:Nat) (keep om:List Nat) (hf:(W j && (ops[j]?).isSome)=true) (he:iC P n ops (opsOf ops [j]) st keep om=some ([],bJ))
 (h:fT us cv P n ops W fuel (listed.setIfInBounds j true) cs bJ m go ab) (hij:aBO us j=true:=by kernel_rfl) (he2:us.map (fun u=>iC P n ops (opsOf ops [j]) (st.nP u) (vB keep u) om)=us.map (fun u=>some ([],bJ.nP u)):=by kernel_rfl):fU us cv P n ops W j fuel listed cs st m go ab :=
 fU.writes (vs:=[]) j keep om hf he h hij he2
end
theorem xX {n:Nat} {st:St} (t:Nat) (d:D) (h:jN (st.get t) d) (hg:st.gd.all (fun x=>x.2.all fun p=>!Nat.beq p.1 t)=true):aCR n st (st.j4 t d):=by
 intro Γ S β a w hr
 have hgo:∀ t',∀ p∈st.jY t',p.1≠t:=by
  intro t' p hp e
  have:∀ l:List (Nat × List (Nat × Bool)),l.all (fun x=>x.2.all fun p=>!Nat.beq p.1 t)=true→∀ p∈dL [] l t',p.1≠t:=by
   intro l
   induction l with
   | nil=>intro _ p hp;cases hp
   | cons x l ih =>
     intro hl p hp
     rw[List.all_cons,aB] at hl
     obtain ⟨i,g⟩:=x
     simp only[dL] at hp
     cases hb:Nat.beq i t' with
     | true =>
       rw[hb] at hp
       have:=aJ.1 hl.1 p hp
       intro e
       rw[e,Nat.beq_refl] at this
       cases this
     | false=>rw[hb] at hp;exact ih hl.2 p hp
  exact this st.gd hg p hp e
 have hho:∀ t',(st.j4 t d).holds (st.jY t')↔st.holds (st.jY t'):=by
  intro t'
  constructor
  ·intro hh p hp
   have:=hh p hp
   rw[jR,aH (hgo t' p hp)] at this
   exact this
  ·intro hh p hp
   rw[jR,aH (hgo t' p hp)]
   exact hh p hp
 refine ⟨hr.core,fun t' hh=>?_,fun t' hn=>?_,hr.size,hr.defers,hr.hand⟩
 ·have hx:=hr.tm t' ((hho t').1 hh)
  rw[jR]
  split
  ·rename_i e;subst e;exact h _ _ _ hx
  ·exact hx
 ·exact hr.un t' fun hh=>hn ((hho t').2 hh)
theorem Conv.nQ {n:Nat} {st:St} (t:Nat) (d:D) (h:jN (st.get t) d) (hg:st.gd.all (fun x=>x.2.all fun p=>!Nat.beq p.1 t)=true):Conv n st (st.j4 t d):=Conv.le (xX t d h hg)
end Go.Dl

namespace Go.Dl
variable [eY]
section
variable {P:Program} {n:Nat} {ops:Array Oper} {W:Nat→Bool} {A T:Type} {go:T→St} {ab:A→Ex × St} {st:St} {m:Option (A ⊕ T)} {cs:List Code}
theorem cI.evH (is keep om:List Nat) {fuel fuel':Nat} {listed:Array Bool} {vs:List Bool} {bJ:St} (p4:fuel=is.length+fuel')
 (hf:(Region.noSelect ops && (kK .any ops W listed is).isSome)=true) (he:iC P n ops (opsOf ops is) st keep om=some (vs,bJ))
 (h:(∀ b∈vs,b=true)→cI P n ops W fuel' ((kK .any ops W listed is).getD listed) cs bJ m go ab):cI P n ops W fuel listed cs st (c5 vs m) go ab :=
 fun Γ S β a w hr x hx=>cI.fS is keep om p4 hf he (h (hG hx).1) Γ S β a w hr x hx
end
end Go.Dl

namespace Go.Dl
variable [eY]
section
variable {P:Program} {ops:Array Oper} {W:Nat→Bool} {j t:Nat}
end
section
variable {P:Program} {n:Nat} {ops:Array Oper} {W:Nat→Bool} {A T:Type} {go:T→St} {ab:A→Ex × St} {st:St} {m:Option (A ⊕ T)} {cs:List Code}
end
end Go.Dl

namespace Go.Dl
variable [eY]
section
variable {P:Program} {n:Nat} {A T:Type} {go:T→St} {ab:A→Ex × St} {st bJ:St} {m:Option (A ⊕ T)} {cs:List Code} {c:Code}
end
end Go.Dl

namespace Go.Dl
abbrev gd {α:Type} [Inhabited α] (l:List α) (i:Int):α:=l.getD i.toNat default
variable [eY]
section
variable {P:Program} {n:Nat} {A T:Type} {go:T→St} {ab:A→Ex × St} {st:St} {m:Option (A ⊕ T)} {cs:List Code} {c:Code}
abbrev rl (c:Code):List Oper:=(rg (cd c [0])).toList
end
end Go.Dl

namespace Go.Dl
abbrev Mp (α:Type):=Int→Option α
def iG {α:Type} (m:Mp α) (i:Int) (v:α):Mp α:=fun i'=>bif decide (i'=i) then some v else m i'
def uO {α:Type}:Mp α:=fun _=>none
theorem aBR {α:Type} (m:Mp α) (i:Int) (v:α):iG m i v i=some v:=by simp [iG]
theorem aEO {α:Type} (m:Mp α) {i j:Int} (v:α) (h:j≠i):iG m i v j=m j:=by simp [iG,h]
def eZ {α:Type} (l:List α) (lo n:Nat) (z:α):List α:=(List.range l.length).map fun i=>bif Nat.ble lo i && Nat.blt i (lo+n) then z else l.getD i z
@[simp] theorem fI {α:Type} (l:List α) (lo n:Nat) (z:α):(eZ l lo n z).length=l.length:=by simp [eZ]
theorem rA {α:Type} (l:List α) (lo n:Nat) (z:α) {k:Nat} (h:k≤lo):(eZ l lo n z).take k=l.take k:=by
 apply List.ext_getElem
 ·simp
 ·intro i h1 h2
  simp at h1 h2
  have:Nat.ble lo i=false:=by
   cases q1:Nat.ble lo i with
   | false=>rfl
   | true=>have:=aK q1;omega
  have hl:i<l.length:=by omega
  simp [eZ,this,List.getD,hl]
variable [eY]
variable {α:Type}
def El.mp (E:El α) (z:Value) (m:Mp α):Obj:=.map z (fun i=>(m i).isSome) (fun i j=>(E.cs ((m i).getD E.d)).getD j .bot)
theorem kV.of_eq {x y:Obj} (h:x=y):kV x y:=h ▸ kV.refl _
theorem El.aGr (E:El α) (z:Value) (h:(fun j=>(E.cs E.d).getD j .bot)=zc z):kV (.map z (fun _=>false) (fun _=>zc z)) (E.mp z uO):=by
 refine kV.of_eq ?_
 unfold El.mp uO
 rw[← h]
 rfl
theorem El.aAb (E:El α) (z:Value) (m:Mp α) (i:Int) (v:α) {l:List C} (h:l=E.cs v) :
 kV (.map z (fun i'=>decide (i'=i) || (m i').isSome) (fun i'=>bif decide (i'=i) then (fun j=>l.getD j .bot) else (fun j=>(E.cs ((m i').getD E.d)).getD j .bot))) (E.mp z (iG m i v)):=by
 subst h
 refine kV.of_eq ?_
 unfold El.mp iG
 congr 1
 ·funext i'
  by_cases hi:i'=i
  ·subst hi;simp
  ·simp [hi]
 ·funext i' j
  by_cases hi:i'=i
  ·subst hi;simp
  ·simp [hi]
theorem El.vC (E:El α) (l:List α) {lo n:Nat} {z:List C} (hz:z=E.cs E.d) :
 kV (.row E.ty E.w l.length fun i j=>bif Nat.ble lo i && Nat.blt i (lo+n) then z.getD j .bot else E.at l i j) (E.row (eZ l lo n E.d)):=by
 subst hz
 refine kV.row (fI l _ _ _).symm fun i j hi _=>?_
 have e:(eZ l lo n E.d).getD i E.d=bif Nat.ble lo i && Nat.blt i (lo+n) then E.d else l.getD i E.d:=by
  unfold eZ
  rw[List.getD,aV,List.getElem?_range hi]
  rfl
 unfold El.at
 rw[e]
 cases hc:(Nat.ble lo i && Nat.blt i (lo+n)) with
 | true=>exact cY.refl _
 | false=>exact cY.refl _
theorem El.tC (E:El α) (xs:List α) {h:Nat} (hh:h≤xs.length):kV (.row E.ty E.w h (E.at xs)) (E.row (xs.take h)):=by
 refine kV.row (by simp;omega) fun i j hi _=>?_
 unfold El.at
 have:(xs.take h).getD i E.d=xs.getD i E.d:=by simp [List.getD,List.getElem?_take,hi]
 rw[this]
 exact cY.refl _
theorem tD {xs:List α} {h:Nat} (hh:h≤xs.length):h=(xs.take h).length:=by simp;omega
theorem Core.cut {Γ:jX} {S:Mem} {β:dI} {w:World} {xs:List Obj} (h:Core Γ S β w xs) {o e wd n m:Nat} {get:Nat→Nat→C} {v:Value} (ho:xs[o]? = some (.row e wd n get)) (hv:cS S β (.own o m) v) :
 ∃ x,iO β (fG β xs.length x)∧Core Γ S (fG β xs.length x) w (xs.set o .dead++[.row e wd m get])∧cS S (fG β xs.length x) (.own xs.length m) v:=by
 have hlen:(xs.set o .dead).length=xs.length:=by simp
 have hk:=h.kill o
 have hrow:=h.cN o _ ho
 simp only[cS] at hv
 rcases hrow with ⟨h1,h2⟩ | ⟨k,h1,h2,h3,h4,h5,h6,cur,h7,h8,h9⟩
 ·rw[h1] at hv
  obtain ⟨rfl,rfl⟩:=hv
  have:=hk.push (.map #[] 0) (.row e wd 0 get) none (.inl ⟨rfl,rfl⟩) (by rw[hlen];exact .inl ⟨fH _ _ _,rfl⟩)
  rw[hlen] at this
  refine ⟨none,this.2,this.1,?_⟩
  simp [cS,fH]
 ·rw[h1] at hv
  obtain ⟨hm,hc,rfl⟩:=hv
  have hb:=h.mine o k _ ho rfl h1
  have:=hk.join (.row e wd m get) { k with n:=m } rfl rfl rfl (aI _) (fun _ _ _=>rfl) hb.1 hb.2 (fun q=>h.sep o k _ ho rfl h1 q)
   (fun o' k' y hy hl hk'=>by
    have hne:o'≠o:=by
     rintro rfl
     have hlt:o'<xs.length:=(List.getElem?_eq_some_iff.1 ho).1
     rw[List.getElem?_set_self hlt] at hy
     simp only[aA] at hy
     subst hy
     cases hl
    rw[List.getElem?_set_ne (Ne.symm hne)] at hy
    exact h.inj o' o k' k y _ hy ho hl rfl hk' h1 hne)
   (by
    rw[hlen]
    refine .inr ⟨{ k with n:=m },fH _ _ _,h2,h3,rfl,hc,h6,cur,h7,h8,fun i j hi hj=>h9 i j (by omega) hj⟩)
  rw[hlen] at this
  refine ⟨_,this.2,this.1,?_⟩
  simp only[cS,fH]
  exact ⟨aI _,hc,trivial⟩
section
variable {P:Program} {n:Nat} {ops:Array Oper} {W:Nat→Bool} {A T R:Type} {go:T→St} {ab:A→Ex × St} {st bJ:St} {m:Option (A ⊕ T)} {cs:List Code} {c:Code}
def St.cut (st:St) (t:Nat):Option St :=
 match st.get t with
 | .c (.own o m) =>
   (match st.cN[o]? with
   | some (.row e w _ get)=>bif Nat.ble st.h st.cN.length && st.gd.isEmpty then some ⟨(t,.c (.own st.cN.length m))::jG t st.tmps,st.cN.set o .dead++[.row e w m get],[],st.h⟩ else none
   | _=>none)
 | _=>none
theorem Conv.cut (t:Nat) (hm:st.cut t=some bJ):Conv n st bJ:=by
 intro Γ S β a w hr
 unfold St.cut at hm
 split at hm
 ·rename_i o m hg
  split at hm
  ·rename_i e wd k get ho
   obtain ⟨hc,hm⟩:=bW hm
   simp only[aA] at hm
   subst hm
   simp only[aB] at hc
   have hh:=aK hc.1
   have hgd:st.gd=[]:=by simpa using hc.2
   have tm:∀ q,dJ S β (st.get q) (a.tmps.getD q undef):=fun q=>hr.tm q (by unfold St.jY;rw[hgd];intro x hx;cases hx)
   have hv:=tm t
   rw[hg] at hv
   obtain ⟨x,hle,rK,hr2⟩:=hr.core.cut ho hv
   refine ⟨S,_,rK,fun q _=>?_,fun q hq=>absurd (fun x hx=>by cases hx) hq,hr.size,hr.defers,fun q k hq hB=>hle _ _ (hr.hand q k hq hB)⟩
   have zY:St.get ⟨(t,.c (.own st.cN.length m))::jG t st.tmps,st.cN.set o .dead++[.row e wd m get],[],st.h⟩ q=if q=t then .c (.own st.cN.length m) else st.get q:=by
    unfold St.get
    simp only[dL]
    by_cases h:q=t
    ·subst h
     rw[Nat.beq_refl,cond_true,aO rfl]
    ·have hb:Nat.beq t q=false:=by
      cases hq:Nat.beq t q with
      | false=>rfl
      | true=>exact absurd (aF hq).symm h
     rw[hb,cond_false,aH h,gM h]
   rw[zY]
   by_cases h:q=t
   ·subst h;rw[aO rfl];exact hr2
   ·rw[aH h];exact dJ.up (jB.refl _) hle (tm q)
  ·cases hm
 ·cases hm
end
end Go.Dl

namespace Go.Dl
variable [eY]
section
variable {P:Program} {n:Nat} {A T:Type} {go:T→St} {ab:A→Ex × St} {st:St} {m:Option (A ⊕ T)} {cs:List Code}
def gN (P:Program) (n:Nat) (body:Code) (k:Nat) {A:Type} (st:St) (m:Option A) (ab:A→Ex × St):Prop :=
 ∀ Γ S β a w,RR Γ S β a w n st→∀ x,m=some x→∀ (U:Type) (go:U→St),Code.rounds P body (Post Γ n go ab (.inl x)) k a w
def jE {A:Type} (m1:Option (A ⊕ Unit)) (m2:Option A):Option A :=
 match m1 with
 | none=>none
 | some (.inl a)=>some a
 | some (.inr _)=>m2
theorem gN.none {body:Code} {k:Nat}:gN P n body k st (none:Option A) ab:=fun _ _ _ _ _ _ x hx=>by cases hx
theorem gN.succ {body:Code} {k:Nat} {st bJ:St} {m1:Option (A ⊕ Unit)} {m2:Option A} (h1:Ref P n [body] st m1 (fun _=>bJ) ab) (h2:gN P n body k bJ m2 ab):gN P n body (k+1) st (jE m1 m2) ab:=by
 intro Γ S β a w hr x hx U go
 rw[rounds_succ]
 cases hm:m1 with
 | none=>rw[hm] at hx;cases hx
 | some z =>
   rw[hm] at hx
   refine Code.wp_mono (fun e a' w' he=>?_) (h1 Γ S β a w hr z hm)
   have he':Post Γ n (fun _=>bJ) ab z e a' w':=by
    cases e <;> exact he
   cases z with
   | inl y =>
     simp only[jE,aA] at hx
     subst hx
     obtain ⟨sI,S',β',hr'⟩:=he'
     have nL:Post Γ n go ab (.inl y) e a' w':=⟨sI,S',β',hr'⟩
     cases hq:(ab y).1 <;> (rw[hq] at sI;subst sI;exact nL)
   | inr t' =>
     obtain ⟨rfl,S',β',hr'⟩:=he'
     exact h2 Γ S' β' a' w' hr' x hx U go
theorem Ref.aJn {body:Code} (k:Nat) {st:St} {m:Option A} (h:gN P n body k st m ab):Ref P n (.loop body::cs) st (m.map .inl) go ab:=by
 intro Γ S β a w hr q hq
 cases hi:m with
 | none=>rw[hi] at hq;cases hq
 | some x =>
   rw[hi] at hq
   simp only[aL,aA] at hq
   subst hq
   refine Code.wp_mono (fun e a' w' he=>?_) (wp_loop_rounds k (h Γ S β a w hr x hi T go))
   obtain ⟨sI,S',β',hr'⟩:=he
   have nL:Post Γ n go ab (.inl x) e a' w':=⟨sI,S',β',hr'⟩
   cases hx:(ab x).1 <;> (rw[hx] at sI;subst sI;exact nL)
theorem Ref.tE {c:Code} (x:Operand) (h:c = .cond x (cd c [0]) (cd c [1])) (hb:(st.gd.isEmpty && true)=true) (hl:st.lv x = .c (.val (.bool true))) (h1:Ref P n (cd c [0]::cs) st m go ab):Ref P n (c::cs) st m go ab:=by
 have:=Ref.bY (m1:=m) (m2:=m) x true h hb hl (fun _=>h1) (fun e=>by cases e)
 simpa using this
theorem Ref.aJo {c:Code} (x:Operand) (h:c = .cond x (cd c [0]) (cd c [1])) (hb:(st.gd.isEmpty && true)=true) (hl:st.lv x = .c (.val (.bool false))) (h1:Ref P n (cd c [1]::cs) st m go ab):Ref P n (c::cs) st m go ab:=by
 have:=Ref.bY (m1:=m) (m2:=m) x false h hb hl (fun e=>by cases e) (fun _=>h1)
 simpa using this
theorem bC.aJp (b:Bool) {ops:Array Oper} {l:List Oper} (h:b=true→bC P n ops l cs st m go ab):bC P n ops l cs st (c5 [b] m) go ab:=by
 intro Γ S β a w hr x hx
 obtain ⟨hb,hm⟩:=hG hx
 exact h (hb b (by simp)) Γ S β a w hr x hm
end
theorem aC9 {α:Type} {us vs:List Bool} {m:Option α}:c5 us (c5 vs m)=c5 vs (c5 us m):=by
 have key:∀ (us:List Bool) (m:Option α),c5 us m=if us.all (fun b=>b)=true then m else none:=by
  intro us
  induction us with
  | nil=>intro m;rfl
  | cons b r ih =>
    intro m
    unfold c5
    rw[ih]
    cases b <;> simp
 rw[key us,key vs,key vs,key us]
 by_cases h1:us.all (fun b=>b)=true <;> by_cases h2:vs.all (fun b=>b)=true <;> simp [h1,h2]
theorem eP.swap {P:Program} {n:Nat} {ops:Array Oper} {W:Nat→Bool} {A T:Type} {go:T→St} {ab:A→Ex × St} {st:St} {m:Option (A ⊕ T)} {cs:List Code} {i fuel:Nat} {listed:Array Bool} {us vs:List Bool}
 (h:eP P n ops W i fuel listed cs st (c5 vs (c5 us m)) go ab):eP P n ops W i fuel listed cs st (c5 us (c5 vs m)) go ab:=by
 rw[aC9];exact h
def mP {α:Type} (xs:List α) (l h:Nat) (z:α):List α:=(List.range (h - l)).map fun i=>xs.getD (l+i) z
theorem El.xZ {α:Type} (E:El α) (xs:List α) (l h:Nat):cY (.tree E.w (h - l) fun i j=>E.at xs (l+i) j) (E.tree (mP xs l h E.d)):=by
 refine cY.tree (by simp [mP]) fun i j hi _=>?_
 unfold El.at
 have:(mP xs l h E.d).getD i E.d=xs.getD (l+i) E.d:=by
  simp [mP,List.getD,hi]
 rw[this]
 exact cY.refl _
theorem El.mQ {α:Type} (E:El α) (l:List α) (x:α) {i j:Nat} {cl:List C} (hlen:∀ y,(E.cs y).length=E.w) (hj:j+cl.length≤E.w)
 (h:E.cs x=vL (E.cs (l.getD i E.d)) j cl):kV (.row E.ty E.w l.length (setRow (E.at l) i j cl)) (E.row (l.set i x)):=by
 by_cases hi:i<l.length
 ·exact El.aEG E l x hi hlen hj h
 ·rw[List.set_eq_of_length_le (by omega)]
  refine kV.row rfl fun i' j' hi' hj'=>?_
  unfold setRow
  have:Nat.beq i' i=false:=by
   cases hq:Nat.beq i' i with
   | false=>rfl
   | true=>have:=aF hq;omega
  rw[this,Bool.false_and,cond_false]
  exact cY.refl _
def aDa (e:Err):Bool:=e.isSome
theorem cM.aJq {P:Program} {f:FuncId} {t:TypeId} {args:List D} {xs:List Obj} {m:Option Err} {out:Err→List Obj} (h:cM P f args xs m (fun r=>.c (aAM t r)) out) :
 cM P f args xs m (fun r=>.c (.iface (aDa r) t .bot)) out:=by
 intro S β w vs hc hv r hr
 refine (h S β w vs hc hv r hr).mono fun e w' he=>?_
 obtain ⟨v,S',β',h1,h2,h3,h4⟩:=he
 refine ⟨v,S',β',h1,?_,h3,h4⟩
 simp only[dJ,aAM,cS] at h2 ⊢
 unfold aDa
 split at h2
 ·rename_i hb;rw[aO hb];obtain ⟨u,hu,_⟩:=h2;exact ⟨u,hu,trivial⟩
 ·rename_i hb;rw[aH hb];exact h2
theorem cM.aCK {P:Program} {f:FuncId} (E:El Int) (hE:E.cs=fun x=>[.val (.int .i64 x)]) (hw:E.w=1)
 (h1:∀ (blk off cap:Nat) (zs:List Int) (w:World),Sort.Holds (Value.int .i64) w blk off zs.toArray→blk<w.heap.size→zs.length<4611686018427387904 →
  Calls P f #[.slice (some ⟨blk,off,none⟩) zs.length cap] w fun e w'=>e = .returned (.tuple #[])∧∃ n os,w'=Sort.grow (Sort.putRow (Value.int .i64) (Sort.ahead w n) blk off (zs.mergeSort fun x y=>decide (x≤y)).toArray) os)
 (h0:∀ (p:Option Addr) (cap:Nat) (w:World),Calls P f #[.slice p 0 cap] w fun e w'=>e = .returned (.tuple #[])∧w'=w) (a:List Int) :
 cM P f [.c (.own 0 a.length)] [E.row a] (if a.length<4611686018427387904 then some (a.mergeSort fun x y=>decide (x≤y)) else none) (fun _=>.kE []) (fun r=>[E.row r]):=by
 intro S β w vs hc hv r hr
 split at hr
 ·rename_i hlen
  simp only[aA] at hr
  subst hr
  obtain ⟨v,rest,rfl,hv,o4⟩:=hv
  obtain rfl:rest=[]:=o4
  have hrow:=hc.cN 0 _ rfl
  simp only[dJ,cS] at hv
  rcases hrow with ⟨hk,hn⟩ | ⟨k,hk,h2,h3,h4,h5,h6,cur,h7,h8,h9⟩
  ·rw[hk] at hv
   obtain ⟨_,rfl⟩:=hv
   have ha:a=[]:=List.length_eq_zero_iff.1 hn
   subst ha
   refine (h0 none 0 w).mono fun e w' he=>?_
   obtain ⟨rfl,rfl⟩:=he
   refine ⟨_,S,β,rfl,⟨[],rfl,rfl⟩,fun _ _ _ h=>h,?_⟩
   simpa using hc
  ·rw[hk] at hv
   obtain ⟨_,hcap,rfl⟩:=hv
   have hb:=hc.mine 0 k _ rfl rfl hk
   have hw1:k.w=1:=h3.trans hw
   have hcell:∀ j,j<a.length→cur[j]? = some (.int .i64 (a.getD j 0)):=by
    intro j hj
    obtain ⟨u,hu,_,hr⟩:=h9 j 0 hj (by rw[hw];omega)
    rw[hw] at hu
    simp only[El.at,hE,cS,List.getD_cons_zero] at hr
    subst hr
    rw[show j * 1+0=j by omega] at hu
    rw[hu,getD_lt (l:=a) E.d 0 hj]
   have hH:Sort.Holds (Value.int .i64) w k.b 0 a.toArray:=by
    intro j hj
    simp at hj
    have hlt:j<cur.size:=by rw[h8,hw];omega
    refine ⟨?_,by simp [World.frozen?,h7]⟩
    have:=hcell j hj
    simp only[World.cell?,h7,Nat.zero_add,this]
    congr 1
    simp [List.getD,hj]
   refine (h1 k.b 0 k.cap a w hH hb.1 hlen).mono fun e w' he=>?_
   obtain ⟨rfl,n,os,rfl⟩:=he
   have hsz:(a.mergeSort fun x y=>decide (x≤y)).length=a.length:=List.length_mergeSort _
   have hheap:∀ b,(Sort.putRow (Value.int .i64) (Sort.ahead w n) k.b 0 (a.mergeSort fun x y=>decide (x≤y)).toArray).heap[b]? = if b=k.b then some (.cells (Sort.putCells (Value.int .i64) 0 (a.mergeSort fun x y=>decide (x≤y)).toArray cur) E.ty (0,0)) else w.heap[b]?:=by
    intro b
    unfold Sort.putRow Sort.mapBlock
    simp only[Sort.heap_ahead,Array.getElem?_modify]
    by_cases h:k.b=b
    ·subst h;simp [h7,Sort.onCells]
    ·rw[aH h,aH (Ne.symm h)]
   have hw2:Core ⟨S,w,uX β [E.row a],β⟩ S β (Sort.putRow (Value.int .i64) (Sort.ahead w n) k.b 0 (a.mergeSort fun x y=>decide (x≤y)).toArray) [E.row (a.mergeSort fun x y=>decide (x≤y))]:=by
    refine hc.write 0 (E.row a) (E.row _) k rfl rfl hk rfl rfl rfl (by simp) (fun b hb=>by rw[hheap,aH hb]) ?_
    refine .inr ⟨k,hk,h2,h3,by rw[h4,hsz],by rw[hsz];exact h5,h6,_,by rw[hheap,aO rfl],by simp [Sort.putCells,h8],fun i j hi hj=>?_⟩
    rw[hw] at hj
    obtain rfl:j=0:=by omega
    rw[hsz] at hi
    have hlt:i<cur.size:=by rw[h8,hw];omega
    refine ⟨.int .i64 ((a.mergeSort fun x y=>decide (x≤y)).getD i 0),?_,rfl,?_⟩
    ·rw[hw,show i * 1+0=i by omega]
     unfold Sort.putCells
     rw[Array.getElem?_mapIdx,Array.getElem?_eq_getElem hlt]
     simp only[aL,Nat.zero_le,true_and,Nat.zero_add,List.size_toArray,hsz,hi,if_true,Nat.sub_zero]
     congr 2
     simp [List.getD,hsz,hi]
    ·simp only[El.at,hE,cS,List.getD_cons_zero]
     rw[getD_lt (l:=a.mergeSort fun x y=>decide (x≤y)) E.d 0 (by omega)]
   refine ⟨_,S,β,rfl,⟨[],rfl,rfl⟩,fun _ _ _ h=>h,?_⟩
   exact hw2.xP rfl rfl rfl (by simp) fun b hb=>Sort.heap_grow_old _ _ hb
 ·cases hr
def cH (p q:Int):Int:=if q > p then q else p
end Go.Dl
