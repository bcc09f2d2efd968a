/- No conditions. -/
import Derived.Test.YtidjangjfekfjaaGreatDoorDB
import Derived.Laws.BytesString
import Derived.KernelRfl
import Derived.Laws.IdiomStrings
import Derived.Laws.CopyRow
set_option linter.unusedVariables false
set_option linter.unusedSimpArgs false
set_option linter.unusedSectionVars false
set_option linter.constructorNameAsVariable false
namespace Go.Dl
variable [fT]
def b8 (e:Int):UInt8:=UInt8.ofNat e.toNat
structure IsB (e:Int):Prop where
 lo:0≤e
 hi:e<256
def bAt (l:Bytes) (i j:Nat):C:=([.val (.int .u8 (Int.ofNat (l.getD i 0).toNat))]:List C).getD j .bot
section
variable {P:Program} {n:Nat} {A T R:Type} {go:T→St} {ab:A→Ex × St} {st cR:St} {m:Option (A ⊕ T)} {cs:List Code}
def aE5 (n:Nat) (o:Oper) (st:St):Option Nat :=
 match o.guard,o.dst with
 | none,some t=>bif Nat.blt t n && oH st t then some t else none
 | _,_=>none
def aVS (P:Program) (s:Sem Next) (Γ:nG) (S:Mem) (β:eB) (w:World) (d:D) (xs:List Obj):Prop :=
 ∃ u w' S' β',s.run P w = .ok (.value u) w'∧eI S' β' d u∧lP S S'∧mH β β'∧Core Γ S' β' w' xs
theorem bY.opN (k k':Nat) {ops:Array Oper} {l:List Oper} {t:Nat} {d:D} {xs:List Obj} (hk:(Nat.blt k l.length && Nat.beq k' (k+1))=true) (hi:aE5 n (mP l k) st=some t)
 (hg:∀ Γ S β a w,RR Γ S β a w n st→aVS P (execOp a.eval (mP l k)) Γ S β w d xs)
 (h:bY P n ops (l.drop k') cs (st.put (some t) d xs []) m go ab):bY P n ops (l.drop k) cs st m go ab:=by
 rw[aK] at hk
 obtain ⟨hk,hk'⟩:=hk
 have hk':=aP hk'
 subst hk'
 rw[sJ hk]
 unfold aE5 at hi
 split at hi
 ·rename_i t' hgd hd
  obtain ⟨hc,hi⟩:=cK hi
  simp only[aF] at hi
  subst hi
  rw[aK,bJ] at hc
  intro Γ S β a w hr q hq
  simp only[wpList,Region.wanted,hgd,if_true]
  left
  obtain ⟨u,w',S',β',hrun,hd1,hs,hb,uU⟩:=hg Γ S β a w hr
  simp only[Oper.wp,Oper.upon,hrun]
  rw[hd]
  exact h Γ S' β' _ w' (hr.put uU hs hb hc.1 hc.2 (g:=[]) (fun q hq=>by cases hq) (fun _=>hd1) (fun hno=>absurd (fun q hq=>by cases hq) hno)) q hq
 ·cases hi
theorem foldl_push:∀ (ns:List Int) (r:ByteArray),ns.foldl (fun r n=>r.push (UInt8.ofNat n.toNat)) r=⟨⟨r.data.toList++ns.map fun n=>UInt8.ofNat n.toNat⟩⟩
 | [],r=>by
   obtain ⟨⟨l⟩⟩:=r
   simp
 | n::ns,r=>by
   rw[List.foldl_cons,foldl_push ns]
   obtain ⟨⟨l⟩⟩:=r
   simp [ByteArray.push]
def zC (xs:List Obj) (d:D) (l:Bytes):Prop :=
 (∃ o e,d = .c (.own o l.length)∧xs[o]? = some (.row e 1 l.length (bAt l)))∨d = .c (.tree 1 l.length (bAt l))∨(d = .c .nil∧l=[])
theorem zC.own {xs:List Obj} {d:D} {l:Bytes} (o:Nat) (e:TypeId) (h1:d = .c (.own o l.length)) (h2:xs[o]? = some (.row e 1 l.length (bAt l))):zC xs d l:=.inl ⟨o,e,h1,h2⟩
theorem aE6 {S:Mem} {β:eB} {l:Bytes} {i:Nat} {u:Value} (h:dN S β (bAt l i 0) u):u = .int .u8 (Int.ofNat (l.getD i 0).toNat):=h
theorem aLt {Γ:nG} {S:Mem} {β:eB} {w:World} {xs:List Obj} {d:D} {l:Bytes} {v:Value} (hc:Core Γ S β w xs) (hd:eI S β d v) (hb:zC xs d l) :
 (Conv.bytesToString v).run P w = .ok (.string ⟨l.toArray⟩) w∧l.length≤maxLen:=by
 have fin:∀ (b off cap:Nat),(∀ i,i<l.length→w.cell? ⟨b,off+i,none⟩=some (.int .u8 (Int.ofNat (l.getD i 0).toNat))) →
  (Conv.bytesToString (.slice (some ⟨b,off,none⟩) l.length cap)).run P w = .ok (.string ⟨l.toArray⟩) w:=by
  intro b off cap hcell
  have hl:(loadCells ⟨b,off,none⟩ l.length).run P w = .ok ((l.map fun x=>Int.ofNat x.toNat).map (Value.int .u8)).toArray w:=by
   have:=run_loadCells (P:=P) w ⟨b,off,none⟩ l.length (fun i=>.int .u8 (Int.ofNat (l.getD i 0).toNat)) (fun j hj=>by rw[add_lit];exact hcell j hj)
   rw[this]
   congr 2
   apply List.ext_getElem?
   intro i
   rw[List.map_map,bD,bD]
   rcases bI i l.length with hi | hi
   ·simp [List.getElem?_range hi,aN hi,List.getD]
   ·rw[aZ (by simpa using hi),aZ hi];rfl
  rw[run_bytesToString w _ _ _ _ hl,foldl_push]
  have:((fun n:Int=>UInt8.ofNat n.toNat) ∘ fun x:UInt8=>Int.ofNat x.toNat)=id:=by
   funext x
   show UInt8.ofNat x.toNat=x
   simp
  rw[List.map_map,this,List.map_id]
  rfl
 have aYJ:∀ (a:Option Addr) (cap:Nat),a=none∨True→l=[]→(Conv.bytesToString (.slice none 0 0)).run P w = .ok (.string ⟨l.toArray⟩) w:=by
  intro _ _ _ h;subst h;rfl
 rcases hb with ⟨o,e,rfl,ho⟩ | rfl | ⟨rfl,rfl⟩
 ·have hx:=hc.cZ o _ ho
  rcases hx with ⟨h1,h2⟩ | ⟨k,h1,h2,h3,h4,h5,h6,cur,h7,h8,h9⟩
  ·simp only[eI,dN,h1] at hd
   obtain ⟨h3,rfl⟩:=hd
   have:l=[]:=List.length_eq_zero_iff.1 h2
   exact ⟨aYJ none 0 (.inl rfl) this,by rw[this];exact Nat.zero_le _⟩
  ·simp only[eI,dN,h1] at hd
   obtain ⟨_,_,rfl⟩:=hd
   refine ⟨fin k.b 0 k.cap fun i hi=>?_,bV h5 h6⟩
   obtain ⟨u,hu,_,hr⟩:=h9 i 0 hi (by omega)
   rw[cell_of_heap h7,Nat.zero_add]
   rw[Nat.mul_one,Nat.add_zero] at hu
   rw[hu,aE6 hr]
 ·obtain ⟨a,cap,rfl,h2,h3,h4⟩:=hd
  refine ⟨?_,bV h2 h3⟩
  rcases h4 with h4 | ⟨b,off,rfl,h5⟩
  ·have:l=[]:=List.length_eq_zero_iff.1 h4
   subst this
   cases a with
   | none=>rfl
   | some a=>rfl
  ·refine fin b off cap fun i hi=>?_
   obtain ⟨u,hu,hr⟩:=h5 i 0 hi (by omega)
   rw[Nat.mul_one,Nat.add_zero] at hu
   rw[(hc.holds _ _ _ hu).1,aE6 hr]
 ·obtain rfl:v = .slice none 0 0:=hd
  exact ⟨rfl,Nat.zero_le _⟩
def aGz (P:Program) (n:Nat) (o:Oper) (st:St):Option (Nat × D) :=
 match aE5 n o st,o.op with
 | some t,.convert s d x =>
   (match P.underlying s,P.underlying d with
   | some (.slice e),some .string=>(match P.underlying e with
     | some (.int .u8)=>some (t,(st.see []).lv x)
     | _=>none)
   | _,_=>none)
 | _,_=>none
theorem bY.aMR (k k':Nat) (bs:Bytes) {ops:Array Oper} {l:List Oper} {t:Nat} {d:D} (hk:(Nat.blt k l.length && Nat.beq k' (k+1))=true) (hi:aGz P n (mP l k) st=some (t,d)) (hb:zC st.cZ d bs)
 (h:bY P n ops (l.drop k') cs (st.put (some t) (.c (.str bs)) st.cZ []) m go ab):bY P n ops (l.drop k) cs st m go ab:=by
 unfold aGz at hi
 split at hi
 ·rename_i t' s d0 x ht hop
  split at hi
  ·rename_i e h1 h2
   split at hi
   ·rename_i h3
    simp only[aF,aX] at hi
    obtain ⟨rfl,rfl⟩:=hi
    refine bY.opN k k' hk ht (fun Γ S β a w hr=>?_) h
    have hx:=j7 hr (g:=[]) (fun q hq=>by cases hq) x
    obtain ⟨hrun,hmx⟩:=aLt (P:=P) hr.core hx hb
    refine ⟨.string ⟨bs.toArray⟩,w,S,β,?_,⟨rfl,hmx⟩,lP.refl _,mH.refl _,hr.core⟩
    unfold execOp
    rw[hop]
    simp only
    have:(convert s d0 (a.eval x)).run P w = .ok (.string ⟨bs.toArray⟩) w:=by
     unfold convert
     rw[Sem.run_bind,run_underlying h1,Result.andThen_ok,Sem.run_bind,run_underlying h2,Result.andThen_ok]
     generalize a.eval x=v at *
     have hsl:∃ q n c,v = .slice q n c:=by
      rcases hb with ⟨o,e',hq,ho⟩ | hq | ⟨hq,_⟩
      ·rw[hq] at hx
       simp only[eI,dN] at hx
       split at hx
       ·exact ⟨_,_,_,hx.2.2⟩
       ·exact ⟨_,_,_,hx.2⟩
       ·exact hx.elim
      ·rw[hq] at hx
       obtain ⟨q,c,e1,_⟩:=hx
       exact ⟨_,_,_,e1⟩
      ·rw[hq] at hx
       exact ⟨_,_,_,hx⟩
     obtain ⟨q,n,c,rfl⟩:=hsl
     simp only
     rw[Sem.run_bind,run_underlying h3,Result.andThen_ok]
     exact hrun
    rw[Sem.run_bind,this]
    rfl
   ·cases hi
  ·cases hi
 ·cases hi
theorem cQ.aCj {f:FuncId} {args:List D} {mr:Option R} {res:R→D}
 (h:∀ S β w vs,fT.I w→iY S β args vs→∀ r,mr=some r→Calls P f vs.toArray w fun e w'=>∃ v,e = .returned v∧eI S β (res r) v∧Up w w'):cQ P f args [] mr res (fun _=>[]):=by
 intro S β w vs hc hv r hr
 refine (h S β w vs hc.inv hv r hr).mono fun e w' ⟨v,he,hd,hu⟩=>⟨v,S,β,he,hd,fun o k ho _=>by simp at ho,hc.aGt hu.os hu.tape hu.output hu.size hu.block⟩
end
end Go.Dl

namespace Go.Dl
variable [fT]
def o6 (ops:Array Oper):Array Bool→List Nat→Option (Array Bool)
 | listed,[]=>some listed
 | listed,i::r =>
   bif (Region.ready .any ops listed).contains i && (Region.free .any ops listed i && (ops[i]?).elim false fun o=>xO o.op && jI o.op) then o6 ops (listed.setIfInBounds i true) r else none
def eZ (P:Program) (n:Nat) (ops:Array Oper) {A T:Type} (fuel:Nat) (listed:Array Bool) (cs:List Code) (st:St) (m:Option (A ⊕ T)) (go:T→St) (ab:A→Ex × St):Prop :=
 ∀ Γ S β a w,RR Γ S β a w n st→∀ x,m=some x→wpAny P .any ops (Exit.then (wpL P cs (Post Γ n go ab x)) (Post Γ n go ab x)) fuel listed a w
section
variable {P:Program} {n:Nat} {ops:Array Oper}
theorem aAy {Q:Exit→Act→World→Prop} {Γ:nG} {S:Mem} {β:eB} {w:World} {fuel:Nat} {mN:Array Bool} {uV:St} (hQ:∀ c a w,¬ Q (.panic c) a w) (hsel:Region.noSelect ops=true) :
 ∀ {is:List Nat} {listed:Array Bool} {st:St} {vs:List Bool} {a:Act},
 RR Γ S β a w n st→o6 ops listed is=some mN→nW P n ops (opsOf ops is) st=some (vs,uV)→(∀ b∈vs,b=true) →
 (∀ a',RR Γ S β a' w n uV→wpAny P .any ops Q fuel mN a' w)→wpAny P .any ops Q (is.length+fuel) listed a w
 | [],listed,st,vs,a,hr,hf,he,hvs,hk=>by
   simp only[o6,aF] at hf
   subst hf
   simp only[opsOf,List.filterMap_nil,nW,aF,aX] at he
   obtain ⟨_,rfl⟩:=he
   rw[aD,Nat.zero_add]
   exact hk a hr
 | i::r,listed,st,vs,a,hr,hf,he,hvs,hk=>by
   unfold o6 at hf
   obtain ⟨hc,hf⟩:=cK hf
   simp only[aK] at hc
   obtain ⟨hrd,hfree,hq⟩:=hc
   cases ho:ops[i]? with
   | none=>rw[ho] at hq;cases hq
   | some o =>
     rw[ho] at hq
     simp only[Option.elim,aK] at hq
     obtain ⟨hp,hq⟩:=hq
     have aCh:opsOf ops (i::r)=o::opsOf ops r:=by simp [opsOf,ho]
     rw[aCh] at he
     unfold nW at he
     split at he
     ·rename_i v st1 h1
      split at he
      ·rename_i vs2 st3 h2
       simp only[aF,aX] at he
       obtain ⟨rfl,rfl⟩:=he
       have hv1:∀ b∈v,b=true:=fun b hb=>hvs b (bO _ hb)
       have hv2:∀ b∈vs2,b=true:=fun b hb=>hvs b (List.mem_append_right _ hb)
       rw[aC,show r.length+1+fuel=(r.length+fuel)+1 by omega]
       rcases lD hr h1 hv1 with ⟨hw,u,w',S',β',_,qR,hqq⟩ | ⟨hw,qR⟩
       ·obtain ⟨rfl,rfl,rfl,hrun⟩:=hqq hq
        exact wpAny_take ho hsel hfree hrd (fun c a w h=>absurd h (hQ c _ w)) (.inl ⟨hw,fun w2=>hrun w2 (.inl hp)⟩) (aAy hQ hsel qR hf h2 hv2 hk)
       ·exact wpAny_take ho hsel hfree hrd (fun c a w h=>absurd h (hQ c _ w)) (.inr ⟨hw,rfl⟩) (aAy hQ hsel qR hf h2 hv2 hk)
      ·cases he
     ·cases he
variable {A T:Type} {go:T→St} {ab:A→Ex × St} {st:St} {m:Option (A ⊕ T)} {cs:List Code} {c:Code}
theorem Post.aMS {Γ:nG} {x:A ⊕ T} {K:Act→World→Prop}:∀ c a w,¬ Exit.then K (Post Γ n go ab x) (.panic c) a w:=by
 intro c a w h
 have h':Post Γ n go ab x (.panic c) a w:=h
 cases x with
 | inl t =>
   have:=h'.1
   cases hx:(ab t).1 <;> rw[hx] at this <;> cases this
 | inr t=>cases h'.1
theorem Ref.fL (id:Nat) (h:c = .region id (rg c) true) (hm:P.follows .mixedOrders=true)
 (hr:eZ P n (rg c) (rg c).size (Array.replicate (rg c).size false) cs st m go ab):Ref P n (c::cs) st m go ab:=by
 rw[h]
 intro Γ S β a w qR x hx
 refine wp_region_any hm (hr Γ S β a _ ?_ x hx)
 exact ⟨qR.core.drew,qR.tm,qR.un,qR.size,qR.defers,qR.hand⟩
theorem eZ.ev (is keep om:List Nat) {fuel fuel':Nat} {listed mN:Array Bool} {vs:List Bool} {cR:St} (vI:fuel=is.length+fuel')
 (hf:(bif Region.noSelect ops then o6 ops listed is else none)=some mN) (he:iZ P n ops (opsOf ops is) st keep om=some (vs,cR))
 (h:eZ P n ops fuel' mN cs cR m go ab):eZ P n ops fuel listed cs st (fI vs m) go ab:=by
 intro Γ S β a w hr x hx
 obtain ⟨hvs,hm⟩:=jA hx
 obtain ⟨hsel,hf⟩:=cK hf
 subst vI
 unfold iZ at he
 split at he
 ·rename_i vs2 uV h2
  cases hk:uV.keep keep om with
  | none=>rw[hk] at he;cases he
  | some st3 =>
    rw[hk] at he
    simp only[aQ,aF,aX] at he
    obtain ⟨rfl,rfl⟩:=he
    exact aAy Post.aMS hsel hr hf h2 hvs fun a' h'=>h Γ S (iT β om) a' w (jU h' hk) x hm
 ·cases he
theorem eZ.nR (is keep om:List Nat) {fuel fuel':Nat} {listed:Array Bool} {vs:List Bool} {cR:St} (vI:fuel=is.length+fuel')
 (hf:(Region.noSelect ops && (o6 ops listed is).isSome)=true) (he:iZ P n ops (opsOf ops is) st keep om=some (vs,cR))
 (h:eZ P n ops fuel' ((o6 ops listed is).getD listed) cs cR m go ab):eZ P n ops fuel listed cs st (fI vs m) go ab:=by
 rw[aK] at hf
 obtain ⟨l',hl⟩:=bL.1 hf.2
 rw[hl] at h
 exact eZ.ev is keep om vI (by rw[hf.1,cond_true];exact hl) he h
theorem eZ.iH (is keep om:List Nat) {fuel fuel':Nat} {listed:Array Bool} {cR:St} (vI:fuel=is.length+fuel')
 (hf:(Region.noSelect ops && (o6 ops listed is).isSome)=true) (he:iZ P n ops (opsOf ops is) st keep om=some ([],cR))
 (h:eZ P n ops fuel' ((o6 ops listed is).getD listed) cs cR m go ab):eZ P n ops fuel listed cs st m go ab :=
 fun Γ S β a w hr x hx=>eZ.nR (vs:=[]) is keep om vI hf he h Γ S β a w hr x hx
theorem eZ.uH (W:List Nat) {fuel:Nat} {listed:Array Bool} (h:cJ P n ops (inW W) fuel listed cs st m go ab):eZ P n ops fuel listed cs st m go ab :=
 fun Γ S β a w hr x hx=>aCf _ _ _ _ (h Γ S β a w hr x hx)
def cY {X Y:Type} (v:X) (f:X→Y):Y:=f v
theorem bY.eX {X:Type} {v:X} {l:List Oper} {iF:X→St} {mf:X→Option (A ⊕ T)} (h0:iF v=st) (h:∀ x,bY P n ops l cs (iF x) (mf x) go ab):bY P n ops l cs st (cY v mf) go ab:=h0 ▸ h v
theorem El.aCk (E:El UInt8) (hE:E.cs=fun x=>[.val (.int .u8 (Int.ofNat x.toNat))]) (xs s:Bytes) {n m:Nat} (hn:n=xs.length) (hm:m=s.length:=by rfl) (hd:E.d=0:=by rfl) (hw:E.w=1:=by rfl) :
 OLe (.row E.ty E.w (n+m) fun i j=>bif Nat.blt i n then E.at xs i j else (fun i _=>.val (.int .u8 (s.getD i 0).toNat)) (i - n) j) (E.row (xs++s)):=by
 subst hn hm
 refine OLe.row (by simp) fun i j hi hj=>?_
 rw[hw] at hj
 obtain rfl:j=0:=by omega
 unfold El.at
 rw[hd]
 rcases bI i xs.length with h | h
 ·have hb:Nat.blt i xs.length=true:=by simpa [bJ] using h
  rw[hb,cond_true,w8 _ _ _ _ h]
  exact eU.refl _
 ·have hb:Nat.blt i xs.length=false:=by
   cases hq:Nat.blt i xs.length with
   | false=>rfl
   | true=>rw[bJ] at hq;omega
  rw[hb,cond_false,w9 _ _ _ _ h,hE]
  exact eU.refl _
end
end Go.Dl

namespace Go.Dl
variable [fT]
section
variable {P:Program} {n:Nat} {ops:Array Oper} {W:Nat→Bool} {A T R:Type} {go:T→St} {ab:A→Ex × St} {st cR:St} {m:Option (A ⊕ T)} {cs:List Code} {c:Code}
theorem cJ.nR (is keep om:List Nat) {fuel fuel':Nat} {listed:Array Bool} {vs:List Bool} {cR:St} (vI:fuel=is.length+fuel')
 (hf:(Region.noSelect ops && (kJ .any ops W listed is).isSome)=true) (he:iZ P n ops (opsOf ops is) st keep om=some (vs,cR))
 (h:cJ P n ops W fuel' ((kJ .any ops W listed is).getD listed) cs cR m go ab):cJ P n ops W fuel listed cs st (fI vs m) go ab:=by
 rw[aK] at hf
 obtain ⟨l',hl⟩:=bL.1 hf.2
 rw[hl] at h
 exact cJ.ev is keep om vI (by rw[hf.1,cond_true];exact hl) he h
theorem cJ.iH (is keep om:List Nat) {fuel fuel':Nat} {listed:Array Bool} {cR:St} (vI:fuel=is.length+fuel')
 (hf:(Region.noSelect ops && (kJ .any ops W listed is).isSome)=true) (he:iZ P n ops (opsOf ops is) st keep om=some ([],cR))
 (h:cJ P n ops W fuel' ((kJ .any ops W listed is).getD listed) cs cR m go ab):cJ P n ops W fuel listed cs st m go ab :=
 fun Γ S β a w hr x hx=>cJ.nR (vs:=[]) is keep om vI hf he h Γ S β a w hr x hx
theorem cJ.eX {X:Type} {v:X} {fuel:Nat} {listed:Array Bool} {iF:X→St} {mf:X→Option (A ⊕ T)} (h0:iF v=st) (h:∀ x,cJ P n ops W fuel listed cs (iF x) (mf x) go ab):cJ P n ops W fuel listed cs st (cY v mf) go ab:=h0 ▸ h v
def l8 (o o':Nat):C→C
 | .own q n=>bif Nat.beq q o then .own o' n else .own q n
 | c=>c
def St.move (st:St) (o:Nat):Option St :=
 match st.cZ[o]? with
 | some (.row e w k get)=>some ⟨st.tmps.map fun p=>(p.1,p.2.sub (l8 o st.cZ.length)),(st.cZ.set o .dead).map (Obj.sub (l8 o st.cZ.length))++[.row e w k get],st.gd,st.h⟩
 | _=>none
theorem C.mQ {S:Mem} {β β':eB} {o o':Nat} (hle:mH β β') (ho:β' o'=β o):∀ {c:C} {v:Value},dN S β c v→dN S β' (c.sub (l8 o o')) v:=by
 intro c
 induction c with
 | own q k =>
   intro v hv
   simp only[C.sub,l8]
   cases hb:Nat.beq q o with
   | true =>
     have:=aP hb
     subst this
     rw[cond_true]
     simp only[dN,ho] at hv ⊢
     exact hv
   | false=>rw[cond_false];exact dN.grow _ hle _ hv
 | ptr q i j=>intro v hv;exact dN.grow _ hle _ hv
 | self t b q=>intro v hv;exact dN.grow (.self t b q) hle _ hv
 | opt b c ih =>
   intro v hv
   simp only[C.sub,dN] at hv ⊢
   split at hv
   ·rename_i h;rw[aJ h];exact ih hv
   ·rename_i h;rw[aG h];exact hv
 | iface b t c ih =>
   intro v hv
   simp only[C.sub,dN] at hv ⊢
   split at hv
   ·rename_i h;rw[aJ h];obtain ⟨u,hu,hr⟩:=hv;exact ⟨u,hu,ih hr⟩
   ·rename_i h;rw[aG h];exact hv
 | func fn k cap ih =>
   rintro v ⟨vs,h1,h2,h3⟩
   refine ⟨vs,h1,h2,fun i hi=>?_⟩
   have:(((List.range k).map fun i=>(cap i).sub (l8 o o')).getD i .bot)=(cap i).sub (l8 o o'):=by
    simp [List.getD,hi]
   show dN S β' (((List.range k).map fun i=>(cap i).sub (l8 o o')).getD i .bot) _
   rw[this]
   exact ih i (h3 i hi)
 | cond b c ih =>
   intro v hv hb
   exact ih (hv hb)
 | _=>intro v hv;exact hv
theorem D1.mQ {S:Mem} {β β':eB} {o o':Nat} (hle:mH β β') (ho:β' o'=β o) {d:D1} {v:Value} (h:lO S β d v):lO S β' (d.sub (l8 o o')) v:=by
 cases d with
 | c x=>exact C.mQ hle ho h
 | agg l=>obtain ⟨vs,h1,h2⟩:=h;exact ⟨vs,h1,h2.map _ fun _ _ h=>C.mQ hle ho h⟩
theorem D.mQ {S:Mem} {β β':eB} {o o':Nat} (hle:mH β β') (ho:β' o'=β o) {d:D} {v:Value} (h:eI S β d v):eI S β' (d.sub (l8 o o')) v:=by
 cases d with
 | c x=>exact C.mQ hle ho h
 | agg l=>obtain ⟨vs,h1,h2⟩:=h;exact ⟨vs,h1,h2.map _ fun _ _ h=>C.mQ hle ho h⟩
 | lG l=>obtain ⟨vs,h1,h2⟩:=h;exact ⟨vs,h1,h2.map _ fun _ _ h=>D1.mQ hle ho h⟩
theorem aCl (f:C→C) (t:Nat):∀ (l:List (Nat × D)),eC (D.c .bot) (l.map fun p=>(p.1,p.2.sub f)) t=(eC (D.c .bot) l t).sub f
 | []=>rfl
 | (i,d)::r=>by
   rw[bS]
   simp only[eC]
   cases hb:Nat.beq i t with
   | true=>rfl
   | false=>rw[cond_false,cond_false];exact aCl f t r
theorem pR {d:D} {f:C→C} {b:Bool} (hf:∀ q n,f (.own q n)≠.val (.bool b)) (hp:∀ q i j,f (.ptr q i j)≠.val (.bool b)):d.sub f = .c (.val (.bool b))↔d = .c (.val (.bool b)):=by
 constructor
 ·intro h
  cases d with
  | c x =>
    simp only[D.sub,D.c.injEq] at h
    cases x with
    | val u=>simp only[C.sub] at h;rw[h]
    | own o m=>simp only[C.sub] at h;exact absurd h (hf _ _)
    | ptr o i j=>simp only[C.sub] at h;exact absurd h (hp _ _ _)
    | _=>simp only[C.sub] at h;cases h
  | agg l=>cases h
  | lG l=>cases h
 ·rintro rfl;rfl
theorem Conv.move (o:Nat) (hm:st.move o=some cR) (hh:Nat.ble st.h st.cZ.length=true):Conv n st cR:=by
 have hh:=bP hh
 intro Γ S β a w hr
 unfold St.move at hm
 split at hm
 ·rename_i e wd k get ho
  simp only[aF] at hm
  subst hm
  have hlt:o<st.cZ.length:=by
   rcases bI o st.cZ.length with h1 | h1
   ·exact h1
   ·rw[aZ h1] at ho;cases ho
  have hrow:=hr.core.cZ o _ ho
  obtain ⟨x,hx⟩:∃ x,β o=some x:=by
   rcases hrow with ⟨h1,_⟩ | ⟨k,h1,_⟩
   ·exact ⟨_,h1⟩
   ·exact ⟨_,h1⟩
  have hle:mH β (iL β st.cZ.length x):=mH.iL (hr.core.out _ (aR _))
  have xP:iL β st.cZ.length x st.cZ.length=β o:=by unfold iL;rw[aJ rfl,hx]
  have hold:∀ q,q<st.cZ.length→iL β st.cZ.length x q=β q:=fun q hq=>by unfold iL;rw[aG (by omega)]
  have get':∀ (q:Nat) (y:Obj),((st.cZ.set o .dead).map (Obj.sub (l8 o st.cZ.length))++[Obj.row e wd k get])[q]? = some y→y.live=true →
   ∃ q0 y0,st.cZ[q0]? = some y0∧y0.live=true∧iL β st.cZ.length x q=β q0∧(q=st.cZ.length∧q0=o∧y = .row e wd k get∨q=q0∧q≠o∧y=y0.sub (l8 o st.cZ.length)):=by
   intro q y hy hl
   rcases getElem?_concat _ _ _ _ hy with hy | ⟨h1,rfl⟩
   ·rw[bD] at hy
    by_cases hq:q=o
    ·subst hq
     rw[List.getElem?_set_self hlt] at hy
     simp only[aQ,aF] at hy
     subst hy
     cases hl
    ·rw[List.getElem?_set_ne (Ne.symm hq)] at hy
     cases hz:st.cZ[q]? with
     | none=>rw[hz] at hy;cases hy
     | some z =>
       rw[hz] at hy
       simp only[aQ,aF] at hy
       subst hy
       have hql:q<st.cZ.length:=by
        rcases bI q st.cZ.length with h1 | h1
        ·exact h1
        ·rw[aZ h1] at hz;cases hz
       refine ⟨q,z,hz,?_,hold q hql,.inr ⟨rfl,hq,rfl⟩⟩
       cases z <;> first | rfl | exact hl
   ·simp only[List.length_map,List.length_set] at h1
    subst h1
    exact ⟨o,_,ho,rfl,xP,.inl ⟨rfl,rfl,rfl⟩⟩
  have hgd:∀ t,St.oU ⟨st.tmps.map fun p=>(p.1,p.2.sub (l8 o st.cZ.length)),(st.cZ.set o .dead).map (Obj.sub (l8 o st.cZ.length))++[.row e wd k get],st.gd,st.h⟩ t=st.oU t:=fun t=>rfl
  have aMP:∀ t,St.get ⟨st.tmps.map fun p=>(p.1,p.2.sub (l8 o st.cZ.length)),(st.cZ.set o .dead).map (Obj.sub (l8 o st.cZ.length))++[.row e wd k get],st.gd,st.h⟩ t=(st.get t).sub (l8 o st.cZ.length):=fun t=>aCl _ t _
  have hholds:∀ g,St.holds ⟨st.tmps.map fun p=>(p.1,p.2.sub (l8 o st.cZ.length)),(st.cZ.set o .dead).map (Obj.sub (l8 o st.cZ.length))++[.row e wd k get],st.gd,st.h⟩ g↔st.holds g:=by
   intro g
   unfold St.holds
   constructor
   ·intro h q hq
    have:=h q hq
    rw[aMP q.1] at this
    refine (pR (fun q n=>?_) (fun q i j=>?_)).1 this
    ·simp only[l8];cases Nat.beq q o <;> simp
    ·simp [l8]
   ·intro h q hq
    rw[aMP q.1,h q hq];rfl
  refine ⟨S,iL β st.cZ.length x,⟨hr.core.frame,hr.core.holds,?_,?_,?_,?_,?_⟩,fun t hh=>?_,fun t hh=>?_,hr.size,hr.defers,fun q k hq hB=>hle _ _ (hr.hand q k hq hB)⟩
  ·intro q y hy
   cases hl:y.live with
   | false=>cases y <;> first | trivial | cases hl
   | true =>
     obtain ⟨q0,y0,hy0,hl0,hb,hc⟩:=get' q y hy hl
     have hr0:=hr.core.cZ q0 y0 hy0
     rcases hc with ⟨rfl,rfl,rfl⟩ | ⟨rfl,hne,rfl⟩
     ·rw[ho] at hy0
      simp only[aF] at hy0
      subst hy0
      rcases hr0 with ⟨h1,h2⟩ | ⟨k,h1,h2⟩
      ·exact .inl ⟨by rw[hb];exact h1,h2⟩
      ·exact .inr ⟨k,by rw[hb];exact h1,h2⟩
     ·cases y0 with
      | dead=>trivial
      | cells l =>
        obtain ⟨k,h1,h2,h3,h4,vs,h5,h6,h7⟩:=hr0
        exact ⟨k,by rw[hb];exact h1,by rw[h2];simp,h3,h4,vs,h5,h6.map _ fun _ _ h=>C.mQ hle xP h,h7⟩
      | aEM e' bs =>
        obtain ⟨k,h1,h2⟩:=hr0
        exact ⟨k,by rw[hb];exact h1,h2⟩
      | row e' w' k' g' =>
        rcases hr0 with ⟨h1,h2⟩ | ⟨k,h1,h2⟩
        ·exact .inl ⟨by rw[hb];exact h1,h2⟩
        ·exact .inr ⟨k,by rw[hb];exact h1,h2⟩
  ·intro q hq
   simp only[aB,List.length_map,List.length_set,aC,aD] at hq
   unfold iL
   rw[aG (by omega)]
   exact hr.core.out q (by omega)
  ·intro q q' k1 k2 y y' hy hy' hl hl' h1 h2 hno
   obtain ⟨q0,y0,hy0,hl0,hb,hc⟩:=get' q y hy hl
   obtain ⟨q0',y0',hy0',aYK,hb',hc'⟩:=get' q' y' hy' hl'
   rw[hb] at h1;rw[hb'] at h2
   refine hr.core.inj q0 q0' k1 k2 y0 y0' hy0 hy0' hl0 aYK h1 h2 fun e=>hno ?_
   rcases hc with ⟨h3,h4,_⟩ | ⟨h3,h4,_⟩ <;> rcases hc' with ⟨h5,h6,_⟩ | ⟨h5,h6,_⟩ <;> omega
  ·intro q k1 y hy hl h1
   obtain ⟨q0,y0,hy0,hl0,hb,hc⟩:=get' q y hy hl
   rw[hb] at h1
   exact hr.core.sep q0 k1 y0 hy0 hl0 h1
  ·intro q k1 y hy hl h1
   obtain ⟨q0,y0,hy0,hl0,hb,hc⟩:=get' q y hy hl
   rw[hb] at h1
   exact hr.core.mine q0 k1 y0 hy0 hl0 h1
  ·rw[aMP t]
   rw[hgd t,hholds] at hh
   exact D.mQ hle xP (hr.tm t hh)
  ·rw[hgd t,hholds] at hh
   exact hr.un t hh
 ·cases hm
end
end Go.Dl

namespace Go.Dl
abbrev mF:=List (Int × Int)
def tF (e:mF):Bool:=!e.isEmpty
def aVU (t:TypeId):mF→Nat→C
 | [],_=>.bot
 | [x],j=>([.val (.int .i64 x.1),.val (.int .i64 x.2),.val .nilIface]:List C).getD j .bot
 | x::y::r,j=>([.val (.int .i64 x.1),.val (.int .i64 x.2),.iface true t (.rI 3 (aVU t (y::r)) 0)]:List C).getD j .bot
def aRT (t:TypeId) (e:mF):C:=.iface (tF e) t (.rI 3 (aVU t e) 0)
theorem aLv {t:TypeId}:eU (.val .nilIface) (aRT t []):=by
 intro S β v hv
 show if false=true then _ else v = .nilIface
 rw[aG (by simp)]
 exact hv
end Go.Dl

namespace Go.Dl
variable [fT]
section
variable {P:Program} {n:Nat} {A T R:Type} {go:T→St} {ab:A→Ex × St} {st cR:St} {m:Option (A ⊕ T)} {cs:List Code}
def aGB (P:Program) (n:Nat) (o:Oper) (st:St):Option (Nat × TypeId × List C) :=
 match aE5 n o st,o.op with
 | some d,.alloc t=>(match (P.info? t).bind (·.zero) with
   | some z=>(match (cst z).cells with
     | some (.val (.pointer none)::l)=>bif l.all C.good then some (d,t,l) else none
     | _=>none)
   | none=>none)
 | some d,.box t x=>(match ((st.see []).lv x).cells with
   | some (.val (.pointer none)::l)=>bif l.all C.good then some (d,t,l) else none
   | _=>none)
 | _,_=>none
theorem aEf {Γ:nG} {S:Mem} {β:eB} {w:World} {xs:List Obj} (hc:Core Γ S β w xs) {l:List C} {v:Value} (t:TypeId) (hl:eT S β (.val (.pointer none)::l) v.cells.toList)
 (h1:∀ u∈v.cells.toList,u.oneCell'=true) :
 ∃ β',mH β β'∧Core Γ S β' (w.alloc (.cells v.cells t)) (xs++[.cells (.self t false xs.length::l)])∧dN S β' (.ptr xs.length 0 0) (.pointer (some ⟨w.heap.size,0,none⟩)):=by
 let k:Bk:=⟨w.heap.size,t,l.length+1,1,1⟩
 have hle:mH β (iL β xs.length (some k)):=mH.iL (hc.out _ (aR _))
 obtain ⟨u,r,hu,hp,hr⟩:=hl
 obtain rfl:u = .pointer none:=hp
 have hv:v.cells=(Value.pointer none::r).toArray:=by rw[← hu]
 have:=hc.push (.cells v.cells t) (.cells (.self t false xs.length::l)) (some k) (w':=w.alloc (.cells v.cells t)) (.inr ⟨⟨k,rfl,rfl⟩,rfl⟩)
  ⟨k,jP _ _ _,rfl,rfl,rfl,.pointer none::r,by rw[← hv];exact heap_alloc_new w _,⟨_,_,rfl,⟨k,jP _ _ _,rfl,rfl⟩,eT.up (lP.refl _) hle hr⟩,by rw[← hu];exact h1⟩
 exact ⟨_,this.2,this.1,k,jP _ _ _,Nat.zero_lt_one,Nat.succ_pos _,by simp [k]⟩
theorem bY.aLw (k k':Nat) {ops:Array Oper} {l:List Oper} {d:Nat} {t:TypeId} {cl:List C} (hk:(Nat.blt k l.length && Nat.beq k' (k+1))=true) (hi:aGB P n (mP l k) st=some (d,t,cl))
 (h:bY P n ops (l.drop k') cs (st.put (some d) (.c (.ptr st.cZ.length 0 0)) (st.cZ++[.cells (.self t false st.cZ.length::cl)]) []) m go ab):bY P n ops (l.drop k) cs st m go ab:=by
 have box:∀ (w:World) (v:Value),(Instr.box t v).run P w = .ok (.pointer (some ⟨w.heap.size,0,none⟩)) (w.alloc (.cells v.cells t)):=by
  intro w v;simp [Instr.box,newVar,newRow]
 unfold aGB at hi
 split at hi
 ·rename_i d' t' ho hop
  cases hz:(P.info? t').bind (·.zero) with
  | none=>rw[hz] at hi;cases hi
  | some z =>
    rw[hz] at hi
    simp only at hi
    split at hi
    ·rename_i l' hcl
     obtain ⟨hg,hi⟩:=cK hi
     simp only[aF,aX] at hi
     obtain ⟨rfl,rfl,rfl⟩:=hi
     refine bY.opN k k' hk ho (fun Γ S β a w hr=>?_) h
     obtain ⟨hl,h1⟩:=rZ (S:=S) (β:=β) (aEU z) hcl (by simp [C.good,Value.oneCell',hg])
     obtain ⟨β',hle,uU,hp⟩:=aEf hr.core t' hl h1
     refine ⟨_,_,S,β',?_,hp,lP.refl _,hle,uU⟩
     unfold execOp
     rw[hop]
     simp only
     have hinfo:∃ i,P.info? t'=some i:=by
      cases hq:P.info? t' with
      | none=>rw[hq] at hz;cases hz
      | some i=>exact ⟨i,rfl⟩
     obtain ⟨i,aVV⟩:=hinfo
     have hzr:(zeroValue t').run P w = .ok z w:=by
      unfold zeroValue
      rw[aVV,aA] at hz
      rw[Sem.run_bind,lQ aVV,Result.andThen_ok,hz]
      rfl
     have:(Instr.alloc t' true (.tuple #[])).run P w = .ok (.pointer (some ⟨w.heap.size,0,none⟩)) (w.alloc (.cells z.cells t')):=by
      rw[← box w z]
      unfold Instr.alloc Instr.box
      rw[Sem.run_bind,hzr,Result.andThen_ok]
     rw[Sem.run_bind,this]
     rfl
    ·cases hi
 ·rename_i d' t' x ho hop
  split at hi
  ·rename_i l' hcl
   obtain ⟨hg,hi⟩:=cK hi
   simp only[aF,aX] at hi
   obtain ⟨rfl,rfl,rfl⟩:=hi
   refine bY.opN k k' hk ho (fun Γ S β a w hr=>?_) h
   have hx:=j7 hr (g:=[]) (fun q hq=>by cases hq) x
   obtain ⟨hl,h1⟩:=rZ hx hcl (by simp [C.good,Value.oneCell',hg])
   obtain ⟨β',hle,uU,hp⟩:=aEf hr.core t' hl h1
   refine ⟨_,_,S,β',?_,hp,lP.refl _,hle,uU⟩
   unfold execOp
   rw[hop]
   simp only
   rw[Sem.run_bind,box w (a.eval x)]
   rfl
  ·cases hi
 ·cases hi
theorem aGC {Γ:nG} {S:Mem} {β:eB} {w:World} {T:TypeId} {b:Bool} {l:List C} {ys:List Obj} {v:Value} (hc:Core Γ S β w (.cells (.self T b 0::l)::ys)) (hv:eI S β (.c (.ptr 0 0 0)) v) :
 ∃ k p r,β 0=some (some k)∧k.e=T∧v = .pointer (some ⟨k.b,0,none⟩)∧w.heap[k.b]? = some (.cells (p::r).toArray T (0,0))∧p=(if b=true then .pointer (some ⟨k.b,0,none⟩) else .pointer none) ∧
   eT S β l r∧k.w=l.length+1∧k.n=1∧k.cap=1∧(∀ u∈p::r,u.oneCell'=true):=by
 obtain ⟨k,hk,_,_,rfl⟩:=hv
 obtain ⟨k',hk',hw,hn,hcap,us,hh,hus,h1⟩:=hc.cZ 0 _ rfl
 rw[hk] at hk';simp only[aF] at hk';subst hk'
 obtain ⟨p,r,rfl,⟨k2,hk2,he,hp⟩,hr⟩:=hus
 rw[hk] at hk2;simp only[aF] at hk2;subst hk2
 rw[he] at hh
 exact ⟨k,p,r,hk,he,by simp,hh,hp,hr,by simpa using hw,hn,hcap,h1⟩
theorem cQ.aLx {f:FuncId} {T:TypeId} (b:Bool) (l:List C) (ys:List Obj) {mr:Option R} {out:R→List Obj} (hout:∀ r,mr=some r→out r = .cells (.self T true 0::l)::ys)
 (aVW:∀ (b:Nat) (w:World),w.cell? ⟨b,0,none⟩=some (.pointer (some ⟨b,0,none⟩))→Calls P f #[.pointer (some ⟨b,0,none⟩)] w fun e w'=>e = .returned (.tuple #[])∧w'=w)
 (hfresh:∀ (b:Nat) (w:World),w.cell? ⟨b,0,none⟩=some (.pointer none)→w.shape? b=some (T,l.length+1)→w.frozen? ⟨b,0,none⟩=false →
  Calls P f #[.pointer (some ⟨b,0,none⟩)] w fun e w'=>e = .returned (.tuple #[])∧w'=w.setCell ⟨b,0,none⟩ (.pointer (some ⟨b,0,none⟩))) :
 cQ P f [.c (.ptr 0 0 0)] (.cells (.self T b 0::l)::ys) mr (fun _=>.lG []) out:=by
 intro S β w vs hc hv r hr
 obtain ⟨v,r0,rfl,hv,rfl⟩:=hv
 obtain ⟨k,p,us,hk,he,rfl,hh,hp,hl,hw,hn,hcap,h1⟩:=aGC hc hv
 have hcell:w.cell? ⟨k.b,0,none⟩=some p:=by rw[cell_of_heap hh];rfl
 cases b with
 | true =>
   rw[aJ rfl] at hp
   subst hp
   refine (aVW k.b w hcell).mono fun e w' ⟨he,hw'⟩=>⟨_,S,β,he,⟨[],rfl,rfl⟩,fun _ _ _ h=>h,?_⟩
   subst hw'
   rw[hout r hr]
   exact hc
 | false =>
   rw[aG (by simp)] at hp
   subst hp
   have hlen:=hl.length
   have hsh:w.shape? k.b=some (T,l.length+1):=by simp [World.shape?,hh,hlen]
   have hfz:w.frozen? ⟨k.b,0,none⟩=false:=by simp [World.frozen?,hh]
   refine (hfresh k.b w hcell hsh hfz).mono fun e w' ⟨hee,hw'⟩=>⟨_,S,β,hee,⟨[],rfl,rfl⟩,fun _ _ _ h=>h,?_⟩
   subst hw'
   rw[hout r hr]
   have hlt:k.b<w.heap.size:=(hc.mine 0 k _ rfl rfl hk).1
   have xP:(w.setCell ⟨k.b,0,none⟩ (.pointer (some ⟨k.b,0,none⟩))).heap[k.b]? = some (.cells (.pointer (some ⟨k.b,0,none⟩)::us).toArray T (0,0)):=by
    simp [World.setCell,Array.getElem?_modify,hh]
   exact hc.write 0 (.cells (.self T false 0::l)) (.cells (.self T true 0::l)) k rfl rfl hk rfl rfl rfl (by simp [World.setCell]) (fun c hne=>by simp [World.setCell,Array.getElem?_modify,Ne.symm hne])
    ⟨k,hk,hw,hn,hcap,_,by rw[he];exact xP,⟨_,_,rfl,⟨k,hk,he,by simp⟩,hl⟩,fun u hu=>by
     rcases aT.1 hu with rfl | hu
     ·rfl
     ·exact h1 u (aV _ hu)⟩
structure aQr (g:Nat) (w w':World):Prop where
 os:w'.os=w.os
 tape:w'.tape=w.tape
 output:w'.output=w.output
 size:w.heap.size≤w'.heap.size
 block:∀ c,c<w.heap.size→c≠g→w'.heap[c]? = w.heap[c]?
theorem cQ.aIE {f:FuncId} {T e:TypeId} (b:Bool) (s:Bytes) (l:List C) {mr:Option R} {res:R→D} {out:R→List Obj} (hres:∀ r,mr=some r→res r = .c (.str s)) (hout:∀ r,out r=[.dead,.dead])
 (hsome:∀ (b g cap:Nat) (cs cur:Array Value) (w:World),w.heap[b]? = some (.cells cs T (0,0))→cs[1]? = some (.slice (some ⟨g,0,none⟩) s.length cap)→w.heap[g]? = some (.cells cur e (0,0))→s.length≤cap→cap≤maxLen→cur.size=cap →
  (∀ (j:Nat) (x:UInt8),s[j]? = some x→cur[j]? = some (Value.int .u8 x.toNat))→b<w.heap.size→Calls P f #[.pointer (some ⟨b,0,none⟩)] w fun e w'=>e = .returned (.string ⟨s.toArray⟩)∧aQr g w w')
 (aMO:s=[]→∀ (b:Nat) (cs:Array Value) (w:World),w.heap[b]? = some (.cells cs T (0,0))→cs[1]? = some (.slice none 0 0)→Calls P f #[.pointer (some ⟨b,0,none⟩)] w fun e w'=>e = .returned (.string ⟨s.toArray⟩)∧aQr b w w') :
 cQ P f [.c (.ptr 0 0 0)] [.cells (.self T b 0::.own 1 s.length::l),.row e 1 s.length (bAt s)] mr res out:=by
 intro S β w vs hc hv r hr
 obtain ⟨v,r0,rfl,hv,rfl⟩:=hv
 obtain ⟨k,p,us,hk,he,rfl,hh,hp,hl,hw,hn,hcap,h1⟩:=aGC hc hv
 obtain ⟨q,us',rfl,hq,hl'⟩:=hl
 have hc1:(p::q::us').toArray[1]? = some q:=by simp
 have hlt:k.b<w.heap.size:=(hc.mine 0 k _ rfl rfl hk).1
 have hlen:s.length≤maxLen:=by
  rcases hc.cZ 1 _ rfl with ⟨_,h2⟩ | ⟨k1,_,_,_,h4,h5,h6,_⟩
  ·rw[h2];exact Nat.zero_le _
  ·omega
 have fin:∀ g,(g=k.b∨∃ k1,β 1=some (some k1)∧k1.b=g)→∀ w',aQr g w w' →
  ∃ v S' β',Ending.returned (Value.string ⟨s.toArray⟩) = .returned v∧eI S' β' (res r) v∧(∀ o k,o<[Obj.cells (.self T b 0::.own 1 s.length::l),.row e 1 s.length (bAt s)].length→β o=some k→β' o=some k) ∧
    Core ⟨S,w,Mof β [.cells (.self T b 0::.own 1 s.length::l),.row e 1 s.length (bAt s)],β⟩ S' β' w' (out r):=by
  intro g hg w' aLy
  have hMg:Mof β [.cells (.self T b 0::.own 1 s.length::l),.row e 1 s.length (bAt s)] g:=by
   rcases hg with rfl | ⟨k1,hk1,rfl⟩
   ·exact ⟨0,k,_,rfl,rfl,hk,rfl⟩
   ·exact ⟨1,k1,_,rfl,rfl,hk1,rfl⟩
  refine ⟨_,S,β,rfl,by rw[hres r hr];exact ⟨rfl,hlen⟩,fun _ _ _ h=>h,?_⟩
  rw[hout]
  have hsep:∀ i,S g i=none:=by
   rcases hg with rfl | ⟨k1,hk1,rfl⟩
   ·exact hc.sep 0 k _ rfl rfl hk
   ·exact hc.sep 1 k1 _ rfl rfl hk1
  refine ⟨⟨aLy.os,aLy.tape,aLy.output,aLy.size,fun c hcl hM=>aLy.block c hcl (fun e=>hM (e ▸ hMg)),fun _ _ _ _=>rfl,lP.refl _,hc.frame.aGe,hc.frame.inv⟩,?_,?_,?_,?_,?_,?_⟩
  ·refine hc.holds.keep fun c ⟨i,hi⟩=>aLy.block c (hc.holds.lt hi) fun e=>?_
   rw[e,hsep i] at hi;cases hi
  ·intro o x hx
   match o with
   | 0=>simp only[List.getElem?_cons_zero,aF] at hx;subst hx;trivial
   | 1=>simp only[List.getElem?_cons_succ,List.getElem?_cons_zero,aF] at hx;subst hx;trivial
   | o+2=>simp at hx
  ·intro o ho;exact hc.out o (by simpa using ho)
  ·intro o o' k k' x x' hx hx' hlv
   have:x = .dead:=by
    match o with
    | 0=>simpa using hx.symm
    | 1=>simpa using hx.symm
    | o+2=>simp at hx
   subst this;cases hlv
  ·intro o k x hx hlv
   have:x = .dead:=by
    match o with
    | 0=>simpa using hx.symm
    | 1=>simpa using hx.symm
    | o+2=>simp at hx
   subst this;cases hlv
  ·intro o k x hx hlv
   have:x = .dead:=by
    match o with
    | 0=>simpa using hx.symm
    | 1=>simpa using hx.symm
    | o+2=>simp at hx
   subst this;cases hlv
 rcases hc.cZ 1 _ rfl with ⟨h1n,h2⟩ | ⟨k1,hk1,e1,e2,e3,e4,e5,cur,hh1,hcs,hcell⟩
 ·have hs:s=[]:=List.length_eq_zero_iff.1 h2
  simp only[dN,h1n] at hq
  obtain ⟨_,rfl⟩:=hq
  exact (aMO hs k.b _ w hh hc1).mono fun e w' ⟨hee,hb⟩=>by subst hee;exact fin k.b (.inl rfl) w' hb
 ·simp only[dN,hk1] at hq
  obtain ⟨_,_,rfl⟩:=hq
  refine (hsome k.b k1.b k1.cap _ cur w hh hc1 hh1 e4 e5 (by rw[hcs,Nat.mul_one]) (fun j x hx=>?_) hlt).mono fun e w' ⟨hee,hb⟩=>by subst hee;exact fin k1.b (.inr ⟨k1,hk1,rfl⟩) w' hb
  have hj:j<s.length:=(List.getElem?_eq_some_iff.1 hx).1
  obtain ⟨u,hu,_,hr1⟩:=hcell j 0 hj (by omega)
  rw[Nat.mul_one,Nat.add_zero] at hu
  rw[hu,aE6 hr1]
  simp [List.getD,hx]
end
end Go.Dl

namespace Go.Dl
variable [fT]
section
variable {P:Program} {α R:Type}
def xX (S:Mem) (b:Nat) (l:List Value):Mem:=fun b' i=>if b'=b then l[i]? else S b' i
theorem cQ.fresh {f:FuncId} {args:List D} {mr:Option R} {dR:R→List α} {E:El α} {ty:TypeId} (val:α→Value) (hw:E.w=1)
 (hval:∀ r,mr=some r→∀ x∈dR r,(val x).oneCell'=true∧∀ S,dN S qD ((E.cs x).getD 0 .bot) (val x))
 (h:∀ S β w vs,fT.I w→iY S β args vs→∀ r,mr=some r→(dR r).length≤maxLen∧Calls P f vs.toArray w fun e w' =>
  e = .returned (.slice (some ⟨w.heap.size,0,none⟩) (dR r).length (dR r).length)∧w'=w.alloc (.cells ((dR r).map val).toArray ty)) :
 cQ P f args [] mr (fun r=>.c (E.tree (dR r))) (fun _=>[]):=by
 intro S β w vs hc hv r hr
 obtain ⟨hlen,jX⟩:=h S β w vs hc.inv hv r hr
 refine jX.mono fun e w' ⟨he,hw'⟩=>?_
 subst hw'
 have hnone:∀ i,S w.heap.size i=none:=by
  intro i
  cases hs:S w.heap.size i with
  | none=>rfl
  | some v =>
    have:=hc.holds.lt (b:=w.heap.size) (i:=i) (by simp [hs])
    omega
 have hle:lP S (xX S w.heap.size ((dR r).map val)):=by
  intro b i v hv
  unfold xX
  by_cases hb:b=w.heap.size
  ·subst hb;rw[hnone] at hv;cases hv
  ·rw[aG hb];exact hv
 have hold:∀ b,b<w.heap.size→(w.alloc (.cells ((dR r).map val).toArray ty)).heap[b]? = w.heap[b]?:=fun b hb=>heap_alloc_old w _ b hb
 have xP:(w.alloc (.cells ((dR r).map val).toArray ty)).heap[w.heap.size]? = some (.cells ((dR r).map val).toArray ty (0,0)):=heap_alloc_new w _
 refine ⟨_,xX S w.heap.size ((dR r).map val),β,he,?_,fun o k ho _=>by simp at ho,?_⟩
 ·refine ⟨some ⟨w.heap.size,0,none⟩,(dR r).length,rfl,aR _,hlen,?_⟩
  rcases Nat.eq_zero_or_pos (dR r).length with h0 | h0
  ·exact .inl h0
  ·refine .inr ⟨w.heap.size,0,rfl,fun i j hi hj=>?_⟩
   rw[hw] at hj ⊢
   obtain rfl:j=0:=by omega
   refine ⟨val (dR r)[i],?_,?_⟩
   ·unfold xX
    rw[aJ rfl]
    simp [aN hi]
   ·unfold El.at
    have:(dR r).getD i E.d=(dR r)[i]:=by simp [List.getD,aN hi]
    rw[this]
    exact (hval r hr _ (List.getElem_mem hi)).2 _
 ·refine ⟨⟨rfl,rfl,rfl,by simp,fun b hb _=>hold b hb,fun b i hb _=>?_,hle,hc.frame.aGe,hc.frame.inv⟩,?_,fun o x hx=>by simp at hx,hc.out,fun o o' k k' x x' hx=>by simp at hx,fun o k x hx=>by simp at hx,fun o k x hx=>by simp at hx⟩
  ·unfold xX
   have:b<w.heap.size:=hb
   rw[aG (by omega)]
  ·intro b i v hv
   unfold xX at hv
   by_cases hb:b=w.heap.size
   ·subst hb
    rw[aJ rfl] at hv
    refine ⟨by rw[cell_of_heap xP,List.getElem?_toArray];exact hv,?_⟩
    rw[bD] at hv
    cases hx:(dR r)[i]? with
    | none=>rw[hx] at hv;cases hv
    | some x =>
      rw[hx] at hv
      simp only[aQ,aF] at hv
      subst hv
      exact (hval r hr x (List.mem_of_getElem? hx)).1
   ·rw[aG hb] at hv
    obtain ⟨h1,h2⟩:=hc.holds b i v hv
    refine ⟨?_,h2⟩
    have hlt:=hc.holds.lt (b:=b) (i:=i) (by simp [hv])
    have:(w.alloc (.cells ((dR r).map val).toArray ty)).cell? ⟨b,i,none⟩=w.cell? ⟨b,i,none⟩:=World.cell?_of_block (w:=w) (hold b hlt)
    rw[this];exact h1
end
end Go.Dl

namespace Go.Dl
variable [fT]
section
variable {P:Program} {R:Type}
end
end Go.Dl

namespace Go.Dl
variable [fT]
section
variable {P:Program} {n:Nat} {A T R:Type} {go:T→St} {ab:A→Ex × St} {st cR:St} {m:Option (A ⊕ T)} {cs:List Code}
theorem bY.aQs {ops:Array Oper} {l:List Oper} {b:Bool} {iF:Bool→St} (h0:iF b=st) (h:bY P n ops l cs (iF true) m go ab):bY P n ops l cs st (fI [b] m) go ab:=by
 intro Γ S β a w hr x hx
 obtain ⟨hv,hm⟩:=jA hx
 have hb:b=true:=hv b (bR ..)
 subst hb
 rw[← h0] at hr
 exact h Γ S β a w hr x hm
def aIF (st:St):Bool:=st.gd.all fun p=>p.2.all fun q=>match st.get q.1 with
 | .c (.val (.bool b))=>b == q.2
 | _=>false
theorem aCm:∀ (l:List (Nat × List (Nat × Bool))) (t:Nat),eC [] l t=[]∨∃ g,(t,g)∈l∧eC [] l t=g
 | [],t=>.inl rfl
 | (i,g)::r,t=>by
   unfold eC
   cases hb:Nat.beq i t with
   | true =>
     obtain rfl:=aP hb
     exact .inr ⟨g,bR ..,rfl⟩
   | false =>
     rw[cond_false]
     rcases aCm r t with h | ⟨g',h1,h2⟩
     ·exact .inl h
     ·exact .inr ⟨g',aV _ h1,h2⟩
theorem aE8 {st:St} (h:aIF st=true) (t:Nat):st.holds (st.oU t):=by
 unfold St.oU
 rcases aCm st.gd t with h1 | ⟨g,h1,h2⟩
 ·rw[h1];intro q hq;cases hq
 ·rw[h2]
  intro q hq
  unfold aIF at h
  have h3:=aW.1 (aW.1 h _ h1) q hq
  split at h3
  ·rename_i b hb
   have:b=q.2:=by simpa using h3
   rw[hb,this]
  ·cases h3
theorem Conv.clear (h:aIF st=true):Conv n st ⟨st.tmps,st.cZ,[],st.h⟩:=by
 intro Γ S β a w hr
 exact ⟨S,β,hr.core,fun t _=>hr.tm t (aE8 h t),fun t hn=>absurd (fun q hq=>by cases hq) hn,hr.size,hr.defers,hr.hand⟩
def Oper.free (o:Oper):Oper:={ o with guard:=none }
def aCn (ops:Array Oper) (o:Oper) (st:St):Bool :=
 match o.guard with
 | none=>false
 | some (j,want) =>
   (match (ops[j]?).bind (·.dst) with
   | some t =>
     (match st.oU t,st.get t with
     | [],.c (.val (.bool b))=>b == want
     | _,_=>false)
   | none=>false)
theorem bY.aQt (k:Nat) {ops:Array Oper} {l:List Oper} (hk:Nat.blt k l.length=true) (hi:aCn ops (mP l k) st=true)
 (h:bY P n ops ((l.set k (Oper.free (mP l k))).drop k) cs st m go ab):bY P n ops (l.drop k) cs st m go ab:=by
 have hlt:k<l.length:=by simpa [bJ] using hk
 have aMQ:(l.set k (Oper.free (mP l k))).drop k=Oper.free (mP l k)::l.drop (k+1):=by
  rw[List.drop_eq_getElem_cons (by simpa using hlt),List.getElem_set_self,List.drop_set_of_lt (by omega)]
 rw[aMQ] at h
 rw[sJ hk]
 intro Γ S β a w hr x hx
 have h1:=h Γ S β a w hr x hx
 have hw:Region.wanted (mP l k) (yielded ops a.tmps)=true:=by
  unfold aCn at hi
  split at hi
  ·cases hi
  ·rename_i j want hgd
   split at hi
   ·rename_i t ht
    split at hi
    ·rename_i b hg hb
     have hbw:b=want:=by simpa using hi
     subst hbw
     have hd:=hr.tm t (by unfold St.holds;rw[hg];intro q hq;cases hq)
     rw[hb] at hd
     have hv:a.tmps.getD t undef = .bool b:=hd
     have hsome:a.tmps[t]? = some (.bool b):=by
      rw[bB] at hv
      cases hq:a.tmps[t]? with
      | none=>rw[hq] at hv;cases hv
      | some u=>rw[hq] at hv;simp only[bW] at hv;rw[hv]
     have hy:yielded ops a.tmps j=some b:=by
      unfold yielded
      rw[ht]
      show (match a.tmps[t]? with | some (.bool b)=>some b | _=>none)=some b
      rw[hsome]
     simp only[Region.wanted,hgd,hy]
     simp
    ·cases hi
   ·cases hi
 simp only[wpList] at h1 ⊢
 rw[hw,aJ rfl]
 have hw':Region.wanted (Oper.free (mP l k)) (yielded ops a.tmps)=true:=rfl
 rw[hw',aJ rfl] at h1
 exact h1
end
end Go.Dl

namespace Go.Dl
variable [fT] {α:Type}
omit [fT] in theorem aRU (E:El α) (ct:α→List C) (h:∀ x,ct x=E.cs x) (l:List α) {i:Nat} (hi:i<l.length) (j:Nat):iM (l.map ct) i j=E.at l i j:=by
 unfold iM El.at
 have:(l.map ct).getD i []=E.cs (l.getD i E.d):=by
  simp [List.getD,bD,aN hi,h]
 rw[this]
theorem aMW (E:El α) (ct:α→List C) (h:∀ x,ct x=E.cs x) (l:List α):eU (.tree E.w l.length (iM (l.map ct))) (E.tree l) :=
 eU.tree rfl fun i j hi _=>by rw[aRU E ct h l hi];exact eU.refl _
theorem aRV (E:El α) (ct:α→List C) (h:∀ x,ct x=E.cs x) (l:List α):eU (E.tree l) (.tree E.w l.length (iM (l.map ct))) :=
 eU.tree rfl fun i j hi _=>by rw[aRU E ct h l hi];exact eU.refl _
omit [fT] in theorem aMX (Q:El (List α)) (nt:List α→C) (l:List (List α)) {i:Nat} (hi:i<l.length):iM (l.map fun b=>[nt b]) i 0=nt (l.getD i Q.d):=by
 unfold iM
 simp [List.getD,bD,aN hi]
theorem aTk (E:El α) (Q:El (List α)) (hw:Q.w=1) (hq:∀ l,Q.cs l=[E.tree l]) (nt:List α→C) (h:∀ l,eU (nt l) (E.tree l)) (l:List (List α)):eU (.tree 1 l.length (iM (l.map fun b=>[nt b]))) (Q.tree l):=by
 unfold El.tree
 rw[hw]
 refine eU.tree rfl fun i j hi hj=>?_
 obtain rfl:j=0:=by omega
 rw[aMX Q nt l hi]
 show eU _ ((Q.cs (l.getD i Q.d)).getD 0 .bot)
 rw[hq]
 exact h _
theorem aTl (E:El α) (Q:El (List α)) (hw:Q.w=1) (hq:∀ l,Q.cs l=[E.tree l]) (nt:List α→C) (h:∀ l,eU (E.tree l) (nt l)) (l:List (List α)):eU (Q.tree l) (.tree 1 l.length (iM (l.map fun b=>[nt b]))):=by
 unfold El.tree
 rw[hw]
 refine eU.tree rfl fun i j hi hj=>?_
 obtain rfl:j=0:=by omega
 rw[aMX Q nt l hi]
 show eU ((Q.cs (l.getD i Q.d)).getD 0 .bot) _
 rw[hq]
 exact h _
end Go.Dl

namespace Go.Dl
variable [fT]
open Go.RowKit
section
variable {P:Program} {n:Nat} {ops:Array Oper} {W:Nat→Bool} {A T:Type} {go:T→St} {ab:A→Ex × St} {st cR:St} {m:Option (A ⊕ T)} {cs:List Code}
def zD:Op→Bool
 | .buildSlice _ _ _=>true
 | _=>false
theorem aLA (w:World) (o:Go.Obj):Up w (w.alloc o):=(Below.refl _ _).alloc (aR _) o
def Still (P:Program) {X:Type} (s:Sem X):Prop:=∀ w a w',s.run P w = .ok a w'→w'=w
theorem aAz (t:TypeId):Still P (underlying t):=by
 intro w a w' h
 cases hu:P.underlying t with
 | none=>simp [underlying,hu] at h
 | some d=>rw[run_underlying hu] at h;cases h;rfl
theorem vK (t:TypeId):Still P (typeInfo t):=by
 intro w a w' h
 cases hu:P.info? t with
 | none=>simp [typeInfo,hu] at h
 | some d=>simp [typeInfo,hu] at h;exact h.2.symm
theorem aFa (t:TypeId):Still P (sizeOf t):=by
 intro w a w' h
 unfold sizeOf at h
 rw[Sem.run_bind] at h
 cases hr:(typeInfo t).run P w with
 | halt x y=>rw[hr] at h;cases h
 | ok i w1 =>
   rw[hr] at h
   obtain rfl:=vK t w _ _ hr
   cases h;rfl
theorem oJ (t:TypeId):Still P (zeroValue t):=by
 intro w a w' h
 unfold zeroValue at h
 rw[Sem.run_bind] at h
 cases hr:(typeInfo t).run P w with
 | halt x y=>rw[hr] at h;cases h
 | ok i w1 =>
   rw[hr] at h
   obtain rfl:=vK t w _ _ hr
   simp only[Result.andThen_ok] at h
   split at h
   ·cases h;rfl
   ·cases h
theorem aEh {e:TypeId} {cs:Array Value} {w w':World} {a:Addr} (h:(newRow e cs).run P w = .ok a w'):Up w w':=by
 simp [newRow] at h
 rw[← h.2]
 exact aLA _ _
def Mk (P:Program) {X:Type} (s:Sem X):Prop:=∀ w a w',s.run P w = .ok a w'→Up w w'
theorem Mk.bind {X Y:Type} {s:Sem X} {f:X→Sem Y} (h:Mk P s) (hf:∀ x,Mk P (f x)):Mk P (s >>= f):=by
 intro w a w' hr
 rw[Sem.run_bind] at hr
 cases h1:s.run P w with
 | halt x y=>rw[h1] at hr;cases hr
 | ok x w1=>rw[h1] at hr;exact (h w x w1 h1).trans (hf x w1 a w' hr)
theorem Mk.pure {X:Type} (x:X):Mk P (Pure.pure x:Sem X):=by
 intro w a w' h
 cases h;exact Up.refl _
theorem Mk.still {X:Type} {s:Sem X} (h:Still P s):Mk P s:=fun w a w' hr=>by rw[h w a w' hr];exact Up.refl _
theorem Mk.stuck {X:Type} (m:String):Mk P (Go.stuck m:Sem X):=fun w a w' h=>by cases h
theorem Mk.unsupported {X:Type} (m:Unsupported):Mk P (Go.unsupported m:Sem X):=fun w a w' h=>by cases h
theorem aDR (t:TypeId) (len:Nat) (parts:Array (Nat × Value)):Mk P (Instr.buildSlice t len parts):=by
 unfold Instr.buildSlice
 refine Mk.bind (Mk.still (aAz t)) fun td=>?_
 split
 ·refine Mk.bind (Mk.still (aFa _)) fun sz=>?_
  have fin:∀ (e:TypeId) (z:Array Value),Mk P (match Instr.fill (fun i=>some (i * sz,sz)) (Array.map (fun x=>z[x % z.size]!) (Array.range (len * sz))) parts.toList with
   | some cells=>do
     let a ← newRow e cells
     Pure.pure (Value.slice (some a) len len)
   | _=>Go.stuck "buildSlice: a part of the wrong size" : Sem Value):=by
   intro e z
   split
   ·exact Mk.bind (fun w a w' h=>aEh h) fun a=>Mk.pure _
   ·exact Mk.stuck _
  dsimp only
  split
  ·exact Mk.bind (Mk.unsupported _) fun x=>by
    split
    ·exact Mk.bind (Mk.pure _) fun z=>fin _ z
    ·exact Mk.bind (Mk.still (oJ _)) fun z=>Mk.bind (Mk.pure _) fun z=>fin _ z
  ·split
   ·exact Mk.bind (Mk.pure _) fun z=>fin _ z
   ·exact Mk.bind (Mk.still (oJ _)) fun z=>Mk.bind (Mk.pure _) fun z=>fin _ z
 ·exact Mk.stuck _
theorem aCp {o:Oper} {ρ:Operand→Value} {w w':World} {x:Next} (hm:zD o.op=true) (h:(execOp ρ o).run P w = .ok x w'):Up w w'∧∃ v,x = .value v:=by
 unfold zD at hm
 split at hm
 ·rename_i t len parts hop
  unfold execOp at h
  rw[hop] at h
  dsimp only at h
  rw[Sem.run_bind] at h
  cases hr:(Instr.buildSlice t len (parts.map fun (i,x)=>(i,ρ x))).run P w with
  | halt a b=>rw[hr] at h;cases h
  | ok a w1 =>
    rw[hr] at h
    have:=aDR _ _ _ _ _ _ hr
    cases h
    exact ⟨this,_,rfl⟩
 ·cases hm
theorem cJ.aVY (j:Nat) (keep om:List Nat) {fuel fuel':Nat} {listed:Array Bool} {vs:List Bool} {cR:St} (vI:fuel=1+fuel')
 (hf:(decide (Region.ready .any ops listed=[j]) && (!W j && (ops[j]?).elim false fun o=>zD o.op))=true) (he:iZ P n ops (opsOf ops [j]) st keep om=some (vs,cR))
 (h:cJ P n ops W fuel' (listed.setIfInBounds j true) cs cR m go ab):cJ P n ops W fuel listed cs st (fI vs m) go ab:=by
 intro Γ S β a w hr x hx
 obtain ⟨hvs,hm⟩:=jA hx
 simp only[aK,bQ,Bool.not_eq_true'] at hf
 obtain ⟨hrd,hWj,hmk⟩:=hf
 cases ho:ops[j]? with
 | none=>rw[ho] at hmk;cases hmk
 | some o =>
   rw[ho] at hmk
   have hmk:zD o.op=true:=hmk
   have aCh:opsOf ops [j]=[o]:=by simp [opsOf,ho]
   rw[aCh] at he
   subst vI
   rw[Nat.add_comm]
   unfold iZ at he
   split at he
   ·rename_i vs2 uV h2
    cases hk:uV.keep keep om with
    | none=>rw[hk] at he;cases he
    | some st3 =>
      rw[hk] at he
      simp only[aQ,aF,aX] at he
      obtain ⟨rfl,rfl⟩:=he
      unfold nW at h2
      split at h2
      ·rename_i v st1 h1
       simp only[nW] at h2
       simp only[aF,aX] at h2
       obtain ⟨rfl,rfl⟩:=h2
       have hv1:∀ b∈v,b=true:=fun b hb=>hvs b (by simpa using hb)
       refine ⟨fun h0=>(by rw[h0] at hrd;cases hrd),fun i hi=>?_⟩
       rw[hrd] at hi
       obtain rfl:i=j:=by simpa using hi
       unfold xOp
       rw[hWj,cond_false]
       unfold aCe
       simp only[ho]
       rcases lD hr h1 hv1 with ⟨hw,u,w',S',β',hrun,qR,_⟩ | ⟨hw,qR⟩
       ·simp only[hw,if_true]
        unfold xop
        rcases hrun with hrun | ⟨hrun,_⟩
        ·rw[hrun]
         have hup:=(aCp hmk hrun).1
         exact ⟨hup,fun w'' aCg=>h Γ S' (iT β' om) _ w'' (jU (qR.up aCg) hk) x hm⟩
        ·obtain ⟨_,v,hv⟩:=aCp hmk hrun
         cases hv
       ·simp only[hw,aE,if_false]
        exact fun w' hw'=>h Γ S (iT β om) _ w' (jU (qR.up hw') hk) x hm
      ·cases h2
   ·cases he
theorem cJ.vL (j:Nat) (keep om:List Nat) {fuel fuel':Nat} {listed:Array Bool} {cR:St} (vI:fuel=1+fuel')
 (hf:(decide (Region.ready .any ops listed=[j]) && (!W j && (ops[j]?).elim false fun o=>zD o.op))=true) (he:iZ P n ops (opsOf ops [j]) st keep om=some ([],cR))
 (h:cJ P n ops W fuel' (listed.setIfInBounds j true) cs cR m go ab):cJ P n ops W fuel listed cs st m go ab :=
 fun Γ S β a w hr x hx=>cJ.aVY (vs:=[]) j keep om vI hf he h Γ S β a w hr x hx
end
end Go.Dl

namespace Go.Dl
end Go.Dl

namespace Go.Dl
variable [fT]
abbrev sI (k:Nat) (x:Int):Nat × D:=(k,.c (.val (.int .i64 x)))
abbrev sB (k:Nat) (x:Bool):Nat × D:=(k,.c (.val (.bool x)))
abbrev sS (k:Nat) (x:Bytes):Nat × D:=(k,.c (.str x))
abbrev sP (k a b c:Nat):Nat × D:=(k,.c (.ptr a b c))
section
variable {P:Program} {n:Nat} {A T:Type} {go:T→St} {ab:A→Ex × St} {st cR:St} {m:Option (A ⊕ T)} {cs:List Code} {c:Code}
theorem Ref.sq (hr:Ref P n (cd c [0]::cd c [1]::cs) st m go ab) (h:c = .seq (cd c [0]) (cd c [1]):=by kernel_rfl):Ref P n (c::cs) st m go ab:=Ref.aVM _ _ h hr
theorem Ref.sk (hr:Ref P n cs st m go ab) (h:c = .skip:=by kernel_rfl):Ref P n (c::cs) st m go ab:=Ref.aVN h hr
theorem Ref.rn (id:Nat) (hr:bY P n (rg c) ((rg c).toList.drop 0) cs st m go ab) (h:c = .region id (rg c) false:=by kernel_rfl):Ref P n (c::cs) st m go ab:=Ref.aKk id h hr
theorem Ref.cn (x:Operand) (b:Bool) {m1 m2:Option (A ⊕ T)} (h1:b=true→Ref P n (cd c [0]::cs) st m1 go ab) (h2:b=false→Ref P n (cd c [1]::cs) st m2 go ab) (h:c = .cond x (cd c [0]) (cd c [1]):=by kernel_rfl) (hb:(st.gd.isEmpty && true)=true:=by rfl) (hl:st.lv x = .c (.val (.bool b)):=by kernel_rfl):Ref P n (c::cs) st (if b=true then m1 else m2) go ab:=Ref.aVO x b h hb hl h1 h2
theorem Ref.rt {t:A} (h:c = .ret:=by kernel_rfl) (hab:ab t=(.ret,st):=by kernel_rfl):Ref P n (c::cs) st (some (.inl t)) go ab:=Ref.aYI h hab
theorem Ref.xt (id:Nat) {t:A} (h:c = .exit id:=by kernel_rfl) (hab:ab t=(.exit id,st):=by kernel_rfl):Ref P n (c::cs) st (some (.inl t)) go ab:=Ref.aRR id h hab
theorem Ref.n0 {t:T} (h:go t=st:=by kernel_rfl):Ref P n [] st (some (.inr t)) go ab:=Ref.nil h
theorem bY.nl (k:Nat) {ops:Array Oper} {l:List Oper} (h:Ref P n cs st m go ab) (hk:Nat.ble l.length k=true:=by kernel_rfl):bY P n ops (l.drop k) cs st m go ab:=bY.aMN k hk h
theorem bY.e0 (k j k':Nat) (keep om:List Nat) {ops:Array Oper} {l:List Oper} (h:bY P n ops (l.drop k') cs cR m go ab) (hk:k'=k+j:=by rfl) (he:iZ P n ops ((l.drop k).take j) st keep om=some ([],cR):=by kernel_rfl):bY P n ops (l.drop k) cs st m go ab:=bY.ev0 k j k' keep om hk he h
end
end Go.Dl

namespace Go.Dl
variable [fT]
open Go.RowKit
section
variable {P:Program} {n:Nat} {ops:Array Oper} {W:Nat→Bool} {A T:Type} {go:T→St} {ab:A→Ex × St} {st cR:St} {m:Option (A ⊕ T)} {cs:List Code}
def aCq:Operand→Bool
 | .const (.slice none 0 0)=>true
 | _=>false
def tH:Op→Bool
 | .buildSlice _ _ _=>true
 | .alloc _=>true
 | .call c=>(match c.callee,c.args.toList with
   | .builtin .append,[x,_]=>aCq x
   | _,_=>false)
 | _=>false
theorem aMY (t:TypeId) (v:Value):Mk P (Instr.alloc t true v):=by
 unfold Instr.alloc
 refine Mk.bind (Mk.still (oJ t)) fun z=>?_
 dsimp only
 refine Mk.bind (fun w a w' h=>?_) fun a=>Mk.pure _
 exact aEh h
theorem xC {t t' ty:TypeId} {td:TypeDesc} {Γ:nG} {S:Mem} {β:eB} {w w':World} {xs xs':List Obj} {src d':D} {x v':Value} {vs:List Bool} (ht':P.underlying t'=some td) (htd:(∃ u,td = .slice u)∨td = .string)
 (ts:Array TypeId) (h0:ts[0]? = some t) (h1:ts[1]? = some t') (hc:Core Γ S β w xs) (hx:eI S β src x) (h:sE P t (.c .nil) src xs=some (vs,d',xs')) (hvs:∀ b∈vs,b=true)
 (hr:(Builtin.append_ ts ty #[.slice none 0 0,x]).run P w = .ok v' w'):Up w w':=by
 unfold sE at h
 cases ht:P.underlying t with
 | none=>simp [ht] at h
 | some tdd =>
   cases tdd with
   | slice e =>
     simp only[ht] at h
     cases hi:P.info? e with
     | none=>simp [hi] at h
     | some i =>
       simp only[hi] at h
       cases hz:i.zero with
       | none=>simp [hz] at h
       | some z =>
         simp only[hz] at h
         have h2:=cK h
         clear h
         obtain ⟨hg,h⟩:=h2
         simp only[aK,bJ] at hg
         obtain ⟨hzs,hsz,hby⟩:=hg
         have hzs:=aP hzs
         cases hsr:aBY P e i.size src xs with
         | none=>simp [hsr] at h
         | some p =>
           obtain ⟨m,g2⟩:=p
           simp only[hsr] at h
           obtain ⟨news,hsrc⟩:=yW hsz hc hx hsr
           simp only[aF,aX] at h
           obtain ⟨rfl,_,_⟩:=h
           have hrm:room (m * i.bytes)=true:=hvs _ (by simp)
           have aVZ:(0+m) * i.bytes≤140737488355328:=by rw[Nat.zero_add];simpa [room] using hrm
           have hm:0+m≤140737488355328:=bV (Nat.le_mul_of_pos_right _ hby) aVZ
           obtain ⟨v2,w2,hr2,_,hgrow,_⟩:=vC (ty:=ty) ht ht' htd hi hz hzs (World.ownsRow_nil w 0 e i.size) hsrc (by simp only[maxLen];omega) aVZ ts h0 h1
           rw[hr] at hr2
           obtain ⟨rfl,rfl⟩:v'=v2∧w'=w2:=by cases hr2;exact ⟨rfl,rfl⟩
           exact ⟨hgrow.os,hgrow.tape,hgrow.output,hgrow.size,fun b hb=>hgrow.block b hb (by simp [Value.ownBlock])⟩
   | _=>simp [ht] at h
theorem aQv {Γ:nG} {S:Mem} {β:eB} {a:Act} {w w':World} {o:Oper} {x:Next} {vs:List Bool} (hm:tH o.op=true) (hgd:o.guard=none) (hr:RR Γ S β a w n st) (he:aAp P n ops o st=some (vs,cR)) (hvs:∀ b∈vs,b=true)
 (h:(execOp a.eval o).run P w = .ok x w'):Up w w'∧∃ v,x = .value v:=by
 unfold tH at hm
 split at hm
 ·rename_i t len parts hop
  exact aCp (by rw[hop];rfl) h
 ·rename_i t hop
  unfold execOp at h
  rw[hop] at h
  dsimp only at h
  rw[Sem.run_bind] at h
  cases hq:(Instr.alloc t true (.tuple #[])).run P w with
  | halt a b=>rw[hq] at h;cases h
  | ok a w1 =>
    rw[hq] at h
    have:=aMY _ _ _ _ _ hq
    cases h
    exact ⟨this,_,rfl⟩
 ·rename_i c hop
  obtain ⟨callee,args,w4⟩:=c
  dsimp only at hm
  split at hm
  ·rename_i x0 y ha
   have ha':args = #[x0,y]:=by apply Array.ext';simpa using ha
   subst ha'
   unfold aAp at he
   unfold guardOf at he
   rw[hgd] at he
   dsimp only at he
   obtain ⟨_,he⟩:=cK he
   split at he
   ·rename_i vs' d xs hev
    simp only[aF,aX] at he
    obtain ⟨rfl,rfl⟩:=he
    have h0:st.holds []:=fun q hq=>by cases hq
    have hv:=j7 hr h0
    unfold aB1 at hev
    rw[hop] at hev
    dsimp only at hev
    obtain ⟨_,hev⟩:=cK hev
    unfold aGl at hev
    rw[hop] at hev
    dsimp only at hev
    have aMO:x0 = .const (.slice none 0 0):=by
     unfold aCq at hm
     split at hm
     ·rfl
     ·cases hm
    subst aMO
    have aIr:((do let dd ← resolve a.eval ⟨.builtin .append,#[.const (.slice none 0 0),y],w4⟩ o.type;invoke dd.target dd.args):Sem Next).run P =
     (builtin .append w4 o.type (#[Operand.const (.slice none 0 0),y].map fun | .const _=>true | _=>false) (#[Operand.const (.slice none 0 0),y].map a.eval)).run P:=rfl
    have hrun:(execOp a.eval o).run P w=((do let v ← Builtin.append_ w4 o.type #[.slice none 0 0,a.eval y];pure (Next.value v)):Sem Next).run P w:=by
     unfold execOp
     rw[hop]
     dsimp only
     rw[aIr,show Array.map a.eval #[Operand.const (.slice none 0 0),y] = #[.slice none 0 0,a.eval y] by simp;rfl]
     rfl
    rw[hrun,Sem.run_bind] at h
    cases hq:(Builtin.append_ w4 o.type #[.slice none 0 0,a.eval y]).run P w with
    | halt u v=>rw[hq] at h;cases h
    | ok u w1 =>
      rw[hq] at h
      cases h
      refine ⟨?_,_,rfl⟩
      split at hev
      ·rename_i heq _ _
       simp at heq
      ·rename_i t t' r e1 h2 h3
       simp only[List.cons.injEq,and_true] at h2
       obtain ⟨rfl,rfl⟩:=h2
       have h0:w4[0]? = some t:=by rw[← Array.getElem?_toList,h3];rfl
       have h1':w4[1]? = some t':=by rw[← Array.getElem?_toList,h3];rfl
       split at hev
       ·rename_i u hu
        exact xC hu (.inl ⟨_,rfl⟩) w4 h0 h1' (by rw[vF];exact hr.core) (hv y) hev hvs hq
       ·rename_i hu
        exact xC hu (.inr rfl) w4 h0 h1' (by rw[vF];exact hr.core) (hv y) hev hvs hq
       ·cases hev
      all_goals simp_all
   ·cases he
  ·cases hm
 ·cases hm
def eJ (P:Program) (n:Nat) (ops:Array Oper) (W:Nat→Bool) {A T:Type} (i fuel:Nat) (listed:Array Bool) (cs:List Code) (st:St) (m:Option (A ⊕ T)) (go:T→St) (ab:A→Ex × St):Prop :=
 ∀ Γ S β a w,RR Γ S β a w n st→∀ x,m=some x→xOp P ops W (Exit.then (wpL P cs (Post Γ n go ab x)) (Post Γ n go ab x)) i (xU P .any ops W (Exit.then (wpL P cs (Post Γ n go ab x)) (Post Γ n go ab x)) fuel (listed.setIfInBounds i true)) a w
theorem cJ.fork {fuel fuel':Nat} {listed:Array Bool} (l:List Nat) (hl:(Nat.beq fuel (fuel'+1) && (decide (Region.ready .any ops listed=l) && !l.isEmpty))=true) (h:∀ i∈l,eJ P n ops W i fuel' listed cs st m go ab):cJ P n ops W fuel listed cs st m go ab:=by
 intro Γ S β a w hr x hx
 simp only[aK,bQ] at hl
 obtain ⟨hf,hrd,hne⟩:=hl
 have hf:=aP hf
 subst hf
 refine ⟨fun h0=>?_,fun i hi=>?_⟩
 ·rw[hrd] at h0;subst h0;cases hne
 ·rw[hrd] at hi;exact h i hi Γ S β a w hr x hx
theorem cJ.eH {fuel fuel':Nat} {listed:Array Bool} (i:Nat) (hl:(Nat.beq fuel (fuel'+1) && (decide (Region.ready .any ops listed=[i]) && ![i].isEmpty))=true) (h:eJ P n ops W i fuel' listed cs st m go ab):cJ P n ops W fuel listed cs st m go ab :=
 cJ.fork [i] hl fun j hj=>by obtain rfl:=aS.1 hj;exact h
theorem cJ.aGD {fuel fuel':Nat} {listed:Array Bool} (i j:Nat) (hl:(Nat.beq fuel (fuel'+1) && (decide (Region.ready .any ops listed=[i,j]) && ![i,j].isEmpty))=true) (h1:eJ P n ops W i fuel' listed cs st m go ab) (h2:eJ P n ops W j fuel' listed cs st m go ab):cJ P n ops W fuel listed cs st m go ab :=
 cJ.fork [i,j] hl fun k hk=>by
  rcases aT.1 hk with rfl | hk
  ·exact h1
  ·obtain rfl:=aS.1 hk;exact h2
theorem eJ.aMZ (j:Nat) (keep om:List Nat) {fuel:Nat} {listed:Array Bool} {vs:List Bool} {cR:St}
 (hf:(!W j && (ops[j]?).elim false fun o=>o.guard.isNone && (tH o.op || jI o.op))=true) (he:iZ P n ops (opsOf ops [j]) st keep om=some (vs,cR))
 (h:cJ P n ops W fuel (listed.setIfInBounds j true) cs cR m go ab):eJ P n ops W j fuel listed cs st (fI vs m) go ab:=by
 intro Γ S β a w hr x hx
 obtain ⟨hvs,hm⟩:=jA hx
 simp only[aK,Bool.not_eq_true'] at hf
 obtain ⟨hWj,hmk⟩:=hf
 cases ho:ops[j]? with
 | none=>rw[ho] at hmk;cases hmk
 | some o =>
   rw[ho] at hmk
   have hmk:(o.guard.isNone && (tH o.op || jI o.op))=true:=hmk
   rw[aK] at hmk
   obtain ⟨hgd,hmk⟩:=hmk
   have hgd:o.guard=none:=by simpa using hgd
   have aCh:opsOf ops [j]=[o]:=by simp [opsOf,ho]
   rw[aCh] at he
   unfold iZ at he
   split at he
   ·rename_i vs2 uV h2
    cases hk:uV.keep keep om with
    | none=>rw[hk] at he;cases he
    | some st3 =>
      rw[hk] at he
      simp only[aQ,aF,aX] at he
      obtain ⟨rfl,rfl⟩:=he
      unfold nW at h2
      split at h2
      ·rename_i v st1 h1
       simp only[nW] at h2
       simp only[aF,aX] at h2
       obtain ⟨rfl,rfl⟩:=h2
       have hv1:∀ b∈v,b=true:=fun b hb=>hvs b (by simpa using hb)
       unfold xOp
       rw[hWj,cond_false]
       unfold aCe
       simp only[ho]
       rcases lD hr h1 hv1 with ⟨hw,u,w',S',β',hrun,qR,hq⟩ | ⟨hw,qR⟩
       ·simp only[hw,if_true]
        unfold xop
        have hup:∀ {y:Next},(execOp a.eval o).run P w = .ok y w'→Up w w'∧∃ v,y = .value v:=by
         intro y hy
         rw[bK] at hmk
         rcases hmk with hmk | hmk
         ·exact aQv hmk hgd hr h1 hv1 hy
         ·obtain ⟨rfl,rfl,rfl,hq2⟩:=hq hmk
          have:=hq2 w' (.inr (Up.refl _))
          rw[hy] at this
          cases this
          exact ⟨Up.refl _,_,rfl⟩
        rcases hrun with hrun | ⟨hrun,_⟩
        ·rw[hrun]
         exact ⟨(hup hrun).1,fun w'' aCg=>h Γ S' (iT β' om) _ w'' (jU (qR.up aCg) hk) x hm⟩
        ·obtain ⟨_,v,hv⟩:=hup hrun
         cases hv
       ·simp only[hw,aE,if_false]
        exact fun w' hw'=>h Γ S (iT β om) _ w' (jU (qR.up hw') hk) x hm
      ·cases h2
   ·cases he
theorem eJ.writes (j:Nat) (keep om:List Nat) {fuel:Nat} {listed:Array Bool} {vs:List Bool} {cR:St}
 (hf:(W j && (ops[j]?).isSome)=true) (he:iZ P n ops (opsOf ops [j]) st keep om=some (vs,cR))
 (h:cJ P n ops W fuel (listed.setIfInBounds j true) cs cR m go ab):eJ P n ops W j fuel listed cs st (fI vs m) go ab:=by
 intro Γ S β a w hr x hx
 obtain ⟨hvs,hm⟩:=jA hx
 simp only[aK] at hf
 obtain ⟨hWj,hso⟩:=hf
 obtain ⟨o,ho⟩:=bL.1 hso
 have aCh:opsOf ops [j]=[o]:=by simp [opsOf,ho]
 rw[aCh] at he
 unfold iZ at he
 split at he
 ·rename_i vs2 uV h2
  cases hk:uV.keep keep om with
  | none=>rw[hk] at he;cases he
  | some st3 =>
    rw[hk] at he
    simp only[aQ,aF,aX] at he
    obtain ⟨rfl,rfl⟩:=he
    unfold xOp
    rw[hWj,cond_true]
    unfold wpOp
    rw[ho]
    unfold nW at h2
    split at h2
    ·rename_i v st1 h1
     simp only[nW] at h2
     simp only[aF,aX] at h2
     obtain ⟨rfl,rfl⟩:=h2
     have hv1:∀ b∈v,b=true:=fun b hb=>hvs b (by simpa using hb)
     dsimp only
     rcases lD hr h1 hv1 with ⟨hw,u,w',S',β',hrun,qR,_⟩ | ⟨hw,qR⟩
     ·simp only[hw,if_true]
      left
      have aB2:=h Γ S' (iT β' om) _ w' (jU qR hk) x hm
      rcases hrun with hrun | ⟨hrun,rfl⟩
      ·simp only[Oper.wp,Oper.upon,hrun]
       exact aB2
      ·simp only[Oper.wp,Oper.upon,hrun]
       exact aB2
     ·simp only[hw,aE,if_false]
      exact h Γ S (iT β om) _ w (jU qR hk) x hm
    ·cases h2
 ·cases he
theorem eJ.jD (j:Nat) (keep om:List Nat) {fuel:Nat} {listed:Array Bool} {cR:St}
 (hf:(!W j && (ops[j]?).elim false fun o=>o.guard.isNone && (tH o.op || jI o.op))=true) (he:iZ P n ops (opsOf ops [j]) st keep om=some ([],cR))
 (h:cJ P n ops W fuel (listed.setIfInBounds j true) cs cR m go ab):eJ P n ops W j fuel listed cs st m go ab :=
 fun Γ S β a w hr x hx=>eJ.aMZ (vs:=[]) j keep om hf he h Γ S β a w hr x hx
theorem eJ.o7 (j:Nat) (keep om:List Nat) {fuel:Nat} {listed:Array Bool} {cR:St}
 (hf:(W j && (ops[j]?).isSome)=true) (he:iZ P n ops (opsOf ops [j]) st keep om=some ([],cR))
 (h:cJ P n ops W fuel (listed.setIfInBounds j true) cs cR m go ab):eJ P n ops W j fuel listed cs st m go ab :=
 fun Γ S β a w hr x hx=>eJ.writes (vs:=[]) j keep om hf he h Γ S β a w hr x hx
end
end Go.Dl

namespace Go.Dl
open Go.RowKit
variable [fT]
section
variable {P:Program} {n:Nat} {A T R:Type} {go:T→St} {ab:A→Ex × St} {st cR:St} {m:Option (A ⊕ T)} {cs:List Code}
end
end Go.Dl

namespace Go.Dl
variable [fT]
def El.o {α:Type} (E:El α) (x:α):Obj:=.cells (E.cs x)
theorem cQ.forget {P:Program} {f:FuncId} {R:Type} {args:List D} {m:Option R} {res:R→D} {out:R→List Obj} (h:cQ P f args [] m res out) (w6:∀ r,(res r).flat=true):cQ P f args [] m res (fun _=>[]):=by
 intro S β w vs hc hv r hr
 refine (h S β w vs hc hv r hr).mono fun e w' ⟨v,S',β',he,hd,hb,uU⟩=>?_
 have hnm:∀ b,¬ Mof β [] b:=by
  rintro b ⟨o,k,x,hx,_⟩
  simp at hx
 exact ⟨v,S,β,he,aMM (w6 r) hd,fun o k ho _=>by simp at ho,hc.aGt uU.frame.os uU.frame.tape uU.frame.output uU.frame.size fun b hb=>uU.frame.block b hb (hnm b)⟩
section
variable {P:Program} {n:Nat} {A T R:Type} {go:T→St} {ab:A→Ex × St} {st cR:St} {cs:List Code} {m:Option (A ⊕ T)}
theorem aLB {Γ:nG} {S:Mem} {β:eB} {a:Act} {w:World} {ops:Array Oper} {o:Oper} {g:List (Nat × Bool)} (hr:RR Γ S β a w n st) (hg:guardOf ops o st=some g) (hh:st.holds g) :
 Region.wanted o (yielded ops a.tmps)=true:=by
 unfold guardOf at hg
 cases hgd:o.guard with
 | none=>simp [Region.wanted,hgd]
 | some jw =>
   obtain ⟨j,want⟩:=jw
   rw[hgd] at hg
   dsimp only at hg
   cases htj:(ops[j]?).bind (·.dst) with
   | none=>rw[htj] at hg;cases hg
   | some tj =>
     rw[htj] at hg
     simp only[aF] at hg
     subst hg
     have lW:=hr.tm tj (fun q hq=>hh q (aV _ hq))
     have hxw:=hh (tj,want) (by simp)
     simp only at hxw
     rw[hxw] at lW
     have hval:a.tmps.getD tj undef = .bool want:=lW
     have hsome:a.tmps[tj]? = some (.bool want):=by
      rw[bB] at hval
      cases hq:a.tmps[tj]? with
      | none=>rw[hq] at hval;cases hval
      | some u=>rw[hq] at hval;simp only[bW] at hval;rw[hval]
     have kX:yielded ops a.tmps j=some want:=by
      unfold yielded
      rw[htj]
      show (match a.tmps[tj]? with | some (.bool b)=>some b | _=>none)=some want
      rw[hsome]
     simp only[Region.wanted,hgd,kX]
     simp
theorem aGE {Γ:nG} {S:Mem} {β:eB} {a:Act} {w:World} {ops:Array Oper} {o:Oper} {g:List (Nat × Bool)} {b:Bool} (hr:RR Γ S β a w n st) (hg:guardOf ops o st=some g) (hb:kW st g=some b) (hh:¬ st.holds g) :
 Region.wanted o (yielded ops a.tmps)=false:=by
 unfold guardOf at hg
 cases hgd:o.guard with
 | none =>
   rw[hgd] at hg
   simp only[aF] at hg
   subst hg
   exact absurd (fun q hq=>by cases hq) hh
 | some jw =>
   obtain ⟨j,want⟩:=jw
   rw[hgd] at hg
   dsimp only at hg
   cases htj:(ops[j]?).bind (·.dst) with
   | none=>rw[htj] at hg;cases hg
   | some tj =>
     rw[htj] at hg
     simp only[aF] at hg
     subst hg
     obtain ⟨x0,hx0⟩:=qO hb
     have uG:∀ (yl:Option Bool),yielded ops a.tmps j=yl→Region.wanted o (yielded ops a.tmps)=(yl == some want):=by
      intro yl hy
      simp only[Region.wanted,hgd,hy]
     have kX:yielded ops a.tmps j=match a.tmps[tj]? with | some (.bool b)=>some b | _=>none:=by
      unfold yielded
      rw[htj]
      rfl
     by_cases qR:st.holds (st.oU tj)
     ·have lW:=hr.tm tj qR
      rw[hx0] at lW
      have hval:a.tmps.getD tj undef = .bool x0:=lW
      have hsome:a.tmps[tj]? = some (.bool x0):=by
       rw[bB] at hval
       cases hq:a.tmps[tj]? with
       | none=>rw[hq] at hval;cases hval
       | some u=>rw[hq] at hval;simp only[bW] at hval;rw[hval]
      rw[uG (some x0) (by rw[kX,hsome])]
      have hne:x0≠want:=by
       intro e
       subst e
       refine hh fun q hq=>?_
       rcases aT.1 hq with rfl | hq
       ·exact hx0
       ·exact qR q hq
      simpa using hne
     ·have hun:=hr.un tj qR
      have hnone:yielded ops a.tmps j=none:=by
       rw[kX]
       rw[bB] at hun
       cases hq:a.tmps[tj]? with
       | none=>rfl
       | some u =>
         rw[hq] at hun
         simp only[bW] at hun
         rw[hun];rfl
      rw[uG none hnone]
      rfl
def aBJ (P:Program) (n:Nat) (ops:Array Oper) (o:Oper) (st:St):Option (Nat × List (Nat × Bool) × C × List Obj) :=
 match o.op,o.dst,guardOf ops o st with
 | .buildSlice t len parts,some d,some g =>
   (match kW st g,oW P t len parts.toList (st.see g) with
   | some _,some ([],.c (.own k m),xs) =>
     (match xs[k]? with
     | some (.row _ wd _ get) =>
       bif Nat.blt d n && (oH st d && g.all (fun q=>!Nat.beq q.1 d)) then some (d,g,.tree wd m get,(xs.set k .dead).map (Obj.sub (oI k wd get))) else none
     | _=>none)
   | _,_=>none)
 | _,_,_=>none
theorem aLC {Γ:nG} {S:Mem} {β:eB} {w:World} {xs:List Obj} (h:Core Γ S β w xs):Core Γ S β w (xs++[.dead]):=by
 have old:∀ {o:Nat} {x:Obj},(xs++[.dead])[o]? = some x→x.live=true→xs[o]? = some x:=by
  intro o x hx hl
  by_cases ho:o<xs.length
  ·rwa [List.getElem?_append_left ho] at hx
  ·rw[List.getElem?_append_right (by omega)] at hx
   cases hq:o - xs.length with
   | zero=>rw[hq] at hx;simp at hx;rw[← hx] at hl;cases hl
   | succ q=>rw[hq] at hx;simp at hx
 refine ⟨h.frame,h.holds,fun o x hx=>?_,fun o ho=>h.out o (by simp at ho;omega),fun o o' k k' x x' hx hx' hl hl'=>h.inj o o' k k' x x' (old hx hl) (old hx' hl') hl hl',fun o k x hx hl=>h.sep o k x (old hx hl) hl,fun o k x hx hl=>h.mine o k x (old hx hl) hl⟩
 cases hl:x.live with
 | true=>exact h.cZ o x (old hx hl)
 | false=>cases x <;> first | trivial | cases hl
theorem bY.aTj (k k':Nat) {ops:Array Oper} {l:List Oper} {t:Nat} {g:List (Nat × Bool)} {x x':C} (hle:eU x x') (hk:(Nat.blt k l.length && Nat.beq k' (k+1))=true)
 (hi:aBJ P n ops (mP l k) st=some (t,g,x,st.cZ++[.dead])) (h:bY P n ops (l.drop k') cs (st.put (some t) (.c x') (st.cZ++[.dead]) g) m go ab):bY P n ops (l.drop k) cs st m go ab:=by
 rw[aK] at hk
 obtain ⟨hk,hk'⟩:=hk
 have hk':=aP hk'
 subst hk'
 rw[sJ hk]
 unfold aBJ at hi
 split at hi
 ·rename_i ty len parts d g' ho qE hg
  split at hi
  ·rename_i b ko mo xs hb hev
   split at hi
   ·rename_i e wd n0 get hx
    obtain ⟨hc,hi⟩:=cK hi
    simp only[aF,aX] at hi
    obtain ⟨rfl,rfl,rfl,hob⟩:=hi
    simp only[aK,aW,bJ] at hc
    obtain ⟨htn,hfree,hgt⟩:=hc
    have aGu:∀ q∈g',q.1≠d:=fun q hq e=>by
     have:=hgt q hq
     rw[e] at this
     simp at this
    intro Γ S β a w hr q hq
    by_cases hh:st.holds g'
    ·have hw:=aLB hr hg hh
     simp only[wpList,hw,if_true]
     left
     obtain ⟨v,w',S1,β1,hrun,hd,hs1,hb1,uU⟩:=pN (Γ:=Γ) (a:=a) (fun y=>j7 hr hh y) (by rw[vF];exact hr.core) hev
     have aV0:(execOp a.eval (mP l k)).run P w = .ok (.value v) w':=by
      unfold execOp
      rw[ho]
      simp only
      rw[Sem.run_bind,hrun];rfl
     simp only[Oper.wp,Oper.upon,aV0]
     obtain ⟨S2,hs2,hh2,hown,hch⟩:=aCa uU hx
     have hr1:=hr.put uU hs1 hb1 htn hfree (g:=[]) (fun q hq=>by cases hq) (fun _=>hd) (fun hno=>absurd (fun q hq=>by cases hq) hno)
     have hr2:=aAt (f:=oI ko wd get) hr1 hx rfl hs2 hh2 (fun o' m' v hv=>by
      simp only[oI]
      cases hb:Nat.beq o' ko with
      | true =>
        have:=aP hb
        subst this
        exact hown m' v hv
      | false=>rw[cond_false];exact dN.mono hs2 _ _ _ hv) (fun o' i j v hv=>dN.mono hs2 _ _ _ hv)
      (fun o' m' b=>by simp only[oI];cases Nat.beq o' ko <;> simp) (fun o' i j b=>by simp [oI]) hch
     have mM:Core Γ S2 β1 w' (st.cZ++[.dead]):=by
      have:=hr2.core
      rw[← hob]
      exact this
     rw[qE]
     exact h Γ S2 β1 _ w' (hr.put mM (lP.trans hs1 hs2) hb1 htn hfree aGu (fun _=>hle _ _ _ (hown _ _ hd)) (fun hno=>absurd hh hno)) q hq
    ·have hw:=aGE hr hg hb hh
     simp only[wpList,hw,aE,if_false]
     rw[qE]
     exact h Γ S β _ w (hr.put (aLC hr.core) (lP.refl _) (mH.refl _) htn hfree aGu (fun hy=>absurd hy hh) (fun _=>rfl)) q hq
   ·cases hi
  ·cases hi
 ·cases hi
theorem bY.lit {α:Type} (E:El α) (dR:List α) (k k':Nat) {ops:Array Oper} {l:List Oper} {t:Nat} {g:List (Nat × Bool)} (hk:(Nat.blt k l.length && Nat.beq k' (k+1))=true)
 (hi:aBJ P n ops (mP l k) st=some (t,g,.tree E.w dR.length (iM (dR.map E.cs)),st.cZ++[.dead])) (h:bY P n ops (l.drop k') cs (st.put (some t) (.c (E.tree dR)) (st.cZ++[.dead]) g) m go ab):bY P n ops (l.drop k) cs st m go ab :=
 bY.aTj k k' (aMW E E.cs (fun _=>rfl) dR) hk hi h
end
end Go.Dl

namespace Go.Dl
variable [fT]
open Go.RowKit
section
variable {P:Program} {n:Nat} {ops:Array Oper} {W:Nat→Bool} {A T R:Type} {go:T→St} {ab:A→Ex × St} {st cR:St} {cs:List Code}
theorem eJ.j8 (j:Nat) (om:List Nat) {fuel:Nat} {listed:Array Bool} {f:FuncId} {fU:List D} {t:Nat} {mc:Option R} {res:R→D} {out:R→List Obj} {m:R→Option (A ⊕ T)}
 (hf:(W j && Nat.blt j ops.size)=true) (hi:nY P n (mP ops.toList j) st om=some (f,fU,t)) (hfun:cQ P f fU (jB st om) mc res out)
 (h:∀ r,cJ P n ops W fuel (listed.setIfInBounds j true) cs (st.put (some t) ((res r).s6 om st.cZ.length) (pP om (out r) st.cZ) []) (m r) go ab):eJ P n ops W j fuel listed cs st (mc.bind m) go ab:=by
 rw[aK,bJ] at hf
 obtain ⟨hWj,aYQ⟩:=hf
 have lX:ops[j]? = some (mP ops.toList j):=by simp [mP,List.getD,aYQ]
 unfold nY at hi
 split at hi
 ·rename_i x args w4 t' hgd ho qE
  split at hi
  ·rename_i f' aE4 jX
   obtain ⟨hc,hi⟩:=cK hi
   simp only[aF,aX] at hi
   obtain ⟨rfl,rfl,rfl⟩:=hi
   simp only[aK,aW,bJ] at hc
   obtain ⟨hcb,hnd,hlt,htn,hfree⟩:=hc
   intro Γ S β a w hr q hq
   cases hm:mc with
   | none=>rw[hm] at hq;cases hq
   | some r =>
     rw[hm,aA] at hq
     unfold xOp
     rw[hWj,cond_true]
     unfold wpOp
     rw[lX]
     simp only[Region.wanted,hgd,if_true]
     left
     unfold y7 at jX
     split at jX
     ·rename_i f' k cap hx
      simp only[aF,aX] at jX
      obtain ⟨rfl,xR⟩:=jX
      have hxr:=j7 hr (g:=[]) (fun q hq=>by cases hq) x
      rw[hx] at hxr
      obtain ⟨vs,hxv,aB9⟩:=y8 hxr
      have hrun:(execOp a.eval (mP ops.toList j)).run P w = .ok (.enter f' (args.map a.eval++vs)) w:=by
       unfold execOp
       rw[ho]
       simp only[resolve,hxv,Deferred.ofValue,pure_bind,invoke]
       rw[oX hcb]
       simp
      simp only[Oper.wp,Oper.upon,hrun]
      have hargs:iY S (iT β om) aE4 (args.map a.eval++vs).toList:=by
       rw[← xR]
       have e:(args.map a.eval++vs).toList=args.toList.map a.eval++vs.toList:=by simp
       rw[e]
       exact (iY.lE (iY.aEY hr args.toList)).append (iY.lE aB9)
      have mM:=hr.core.lE hnd
      have aIx:Core ⟨S,w,Mof (iT β om) (jB st om),iT β om⟩ S (iT β om) w (jB st om):=by
       refine ⟨⟨rfl,rfl,rfl,aR _,fun _ _ _=>rfl,fun _ _ _ _=>rfl,lP.refl _,mM.aRM,mM.inv⟩,mM.holds,mM.cZ,mM.out,mM.inj,mM.sep,fun o k y hy hl hk=>⟨(mM.mine o k y hy hl hk).1,fun _=>⟨o,k,y,hy,hl,hk,rfl⟩⟩⟩
      have:=hfun S (iT β om) w (args.map a.eval++vs).toList aIx hargs r hm
      have e2:(args.map a.eval++vs).toList.toArray=args.map a.eval++vs:=by simp
      rw[e2] at this
      refine this.mono fun e w' he=>?_
      obtain ⟨v,S',βc,rfl,hres,hB,uU⟩:=he
      obtain ⟨xP,hle⟩:=hr.core.after hnd hlt uU (fun o k ho hk=>hB o k (by simpa [jB] using ho) hk)
      have aMH:eI S' (aB7 β om st.cZ.length βc) ((res r).s6 om st.cZ.length) v:=D.nQ (fun i=>aEZ hnd hlt i) hres
      have hput:=hr.put xP uU.frame.le hle htn hfree (g:=[]) (fun q hq=>by cases hq) (fun _=>aMH) (fun hno=>absurd (fun q hq=>by cases hq) hno)
      rw[qE]
      exact h r Γ S' _ _ w' hput q hq
     ·cases jX
  ·cases hi
 ·cases hi
theorem cJ.aV1 {fuel fuel':Nat} {listed:Array Bool} {m:Option (A ⊕ T)} (i j k:Nat) (hl:(Nat.beq fuel (fuel'+1) && (decide (Region.ready .any ops listed=[i,j,k]) && ![i,j,k].isEmpty))=true) (h1:eJ P n ops W i fuel' listed cs st m go ab) (h2:eJ P n ops W j fuel' listed cs st m go ab) (h3:eJ P n ops W k fuel' listed cs st m go ab):cJ P n ops W fuel listed cs st m go ab :=
 cJ.fork [i,j,k] hl fun x hx=>by
  rcases aT.1 hx with rfl | hx
  ·exact h1
  ·rcases aT.1 hx with rfl | hx
   ·exact h2
   ·obtain rfl:=aS.1 hx;exact h3
theorem eJ.conv {i fuel:Nat} {listed:Array Bool} {m:Option (A ⊕ T)} (hc:Conv n st cR) (h:eJ P n ops W i fuel listed cs cR m go ab):eJ P n ops W i fuel listed cs st m go ab:=fun Γ S β a w hr x hx=>by
 obtain ⟨S',β',h'⟩:=hc Γ S β a w hr
 exact h Γ S' β' a w h' x hx
theorem cJ.mS {X:Type} (iF:X→St) (mf:X→Option (A ⊕ T)) {fuel:Nat} {listed:Array Bool} {m:Option (A ⊕ T)} (h1:∀ x,Ref P n cs (iF x) (mf x) go ab)
 (h2:(∀ x,Ref P n cs (iF x) (mf x) go ab)→cJ P n ops W fuel listed cs st m go ab):cJ P n ops W fuel listed cs st m go ab:=h2 h1
theorem cJ.aTm {X Y:Type} (iF:X→Y→St) (mf:X→Y→Option (A ⊕ T)) {fuel:Nat} {listed:Array Bool} {m:Option (A ⊕ T)} (h1:∀ x y,Ref P n cs (iF x y) (mf x y) go ab)
 (h2:(∀ x y,Ref P n cs (iF x y) (mf x y) go ab)→cJ P n ops W fuel listed cs st m go ab):cJ P n ops W fuel listed cs st m go ab:=h2 h1
end
end Go.Dl

namespace Go.Dl
variable [fT]
def lJ (P:Program) (n:Nat) (ops:Array Oper) (l:List Oper) (st:St) (keep om:List Nat):St:=match iZ P n ops l st keep om with
 | some (_,s)=>s
 | none=>st
def aAA (P:Program) (n:Nat) (ops:Array Oper) (l:List Oper) (st:St) (keep om:List Nat):Bool:=match iZ P n ops l st keep om with
 | some ([],_)=>true
 | _=>false
section
variable {P:Program} {n:Nat} {A T:Type} {go:T→St} {ab:A→Ex × St} {st:St} {cs:List Code} {m:Option (A ⊕ T)}
theorem bY.e1 (k j k':Nat) (keep om:List Nat) {ops:Array Oper} {l:List Oper} (h:bY P n ops (l.drop k') cs (lJ P n ops ((l.drop k).take j) st keep om) m go ab) (hk:k'=k+j:=by rfl)
 (he:aAA P n ops ((l.drop k).take j) st keep om=true:=by kernel_rfl):bY P n ops (l.drop k) cs st m go ab:=by
 unfold aAA at he
 unfold lJ at h
 split at he
 ·rename_i s hs
  rw[hs] at h
  exact bY.ev0 k j k' keep om hk hs h
 ·cases he
end
def aAB (P:Program) (n:Nat) (ops:Array Oper) (l:List Oper) (st:St) (keep om:List Nat):Option (List Bool):=(iZ P n ops l st keep om).map (·.1)
theorem aBK {P:Program} {n:Nat} {ops:Array Oper} {l:List Oper} {st:St} {keep om:List Nat} {vs:List Bool} (h:aAB P n ops l st keep om=some vs):iZ P n ops l st keep om=some (vs,lJ P n ops l st keep om):=by
 unfold aAB at h
 unfold lJ
 cases hr:iZ P n ops l st keep om with
 | none=>rw[hr] at h;cases h
 | some x =>
   obtain ⟨v,s⟩:=x
   rw[hr] at h
   simp only[aQ,aF] at h
   subst h
   rfl
section
variable {P:Program} {n:Nat} {ops:Array Oper} {W:Nat→Bool} {A T:Type} {go:T→St} {ab:A→Ex × St} {st:St} {cs:List Code} {m:Option (A ⊕ T)}
theorem cJ.v1 (vs:List Bool) (is keep om:List Nat) {fuel fuel':Nat} {listed:Array Bool}
 (h:cJ P n ops W fuel' ((kJ .any ops W listed is).getD listed) cs (lJ P n ops (opsOf ops is) st keep om) m go ab) (vI:fuel=is.length+fuel':=by rfl)
 (hf:(Region.noSelect ops && (kJ .any ops W listed is).isSome)=true:=by kernel_rfl) (he:aAB P n ops (opsOf ops is) st keep om=some vs:=by kernel_rfl):cJ P n ops W fuel listed cs st (fI vs m) go ab :=
 cJ.nR is keep om vI hf (aBK he) h
theorem cJ.v0 (is keep om:List Nat) {fuel fuel':Nat} {listed:Array Bool}
 (h:cJ P n ops W fuel' ((kJ .any ops W listed is).getD listed) cs (lJ P n ops (opsOf ops is) st keep om) m go ab) (vI:fuel=is.length+fuel':=by rfl)
 (hf:(Region.noSelect ops && (kJ .any ops W listed is).isSome)=true:=by kernel_rfl) (he:aAB P n ops (opsOf ops is) st keep om=some []:=by kernel_rfl):cJ P n ops W fuel listed cs st m go ab :=
 cJ.iH is keep om vI hf (aBK he) h
theorem eJ.a0 (j:Nat) (keep om:List Nat) {fuel:Nat} {listed:Array Bool}
 (h:cJ P n ops W fuel (listed.setIfInBounds j true) cs (lJ P n ops (opsOf ops [j]) st keep om) m go ab)
 (hf:(!W j && (ops[j]?).elim false fun o=>o.guard.isNone && (tH o.op || jI o.op))=true:=by kernel_rfl) (he:aAB P n ops (opsOf ops [j]) st keep om=some []:=by kernel_rfl):eJ P n ops W j fuel listed cs st m go ab :=
 eJ.jD j keep om hf (aBK he) h
theorem eJ.w0 (j:Nat) (keep om:List Nat) {fuel:Nat} {listed:Array Bool}
 (h:cJ P n ops W fuel (listed.setIfInBounds j true) cs (lJ P n ops (opsOf ops [j]) st keep om) m go ab)
 (hf:(W j && (ops[j]?).isSome)=true:=by kernel_rfl) (he:aAB P n ops (opsOf ops [j]) st keep om=some []:=by kernel_rfl):eJ P n ops W j fuel listed cs st m go ab :=
 eJ.o7 j keep om hf (aBK he) h
end
end Go.Dl

namespace Go.Dl
variable [fT]
open Go.RowKit
abbrev iC (x:Int):C:=.val (.int .i64 x)
abbrev bC (x:Bool):C:=.val (.bool x)
def St.rm (st:St) (t:Nat):St:=⟨hG t st.tmps,st.cZ,st.gd,st.h⟩
def St.mG (st:St):List (Nat × Nat)→St
 | []=>st
 | p::u=>(st.mG u).rm p.2
def unl (listed:Array Bool):List (Nat × Nat)→Array Bool
 | []=>listed
 | p::u=>(unl listed u).setIfInBounds p.1 false
def dR (listed:Array Bool):List (Nat × Nat)→Array Bool
 | []=>listed
 | p::u=>(dR listed u).setIfInBounds p.1 true
def dB (us:List (List (Nat × Nat))) (cv:List (Nat × List Bool)) (P:Program) (n:Nat) (ops:Array Oper) (W:Nat→Bool) {A T:Type} (fuel:Nat) (listed:Array Bool) (cs:List Code) (st:St) (m:Option (A ⊕ T)) (go:T→St) (ab:A→Ex × St):Prop :=
 (∀ p∈cv,∀ b∈p.2,b=true)→∀ u∈us,cJ P n ops W (fuel+u.length) (unl listed u) cs (st.mG u) m go ab
def dV (us:List (List (Nat × Nat))) (cv:List (Nat × List Bool)) (P:Program) (n:Nat) (ops:Array Oper) (W:Nat→Bool) {A T:Type} (j fuel:Nat) (listed:Array Bool) (cs:List Code) (st:St) (m:Option (A ⊕ T)) (go:T→St) (ab:A→Ex × St):Prop :=
 (∀ p∈cv,∀ b∈p.2,b=true)→∀ u∈us,eJ P n ops W j (fuel+u.length) (unl listed u) cs (st.mG u) m go ab
def evs (us:List (List (Nat × Nat))):List (List (Nat × Nat) × (Nat × Nat)):=us.flatMap fun u=>(u.filter fun p=>us.contains (u.erase p)).map fun p=>(u,p)
def xY (ops:Array Oper) (W:Nat→Bool) (us:List (List (Nat × Nat))):Bool:=us.all fun u=>u.all fun p=>!W p.1 && (ops[p.1]?).elim false fun o=>o.guard.isNone && (tH o.op || jI o.op)
def xZ (ops:Array Oper) (us bs:List (List (Nat × Nat))) (listed:Array Bool) (l:List Nat):Bool :=
 (evs us).all (fun q=>decide ((unl listed q.1).setIfInBounds q.2.1 true=unl listed (q.1.erase q.2))) && us.all fun u=>bs.contains u || (!(Region.ready .any ops (unl listed u)).isEmpty && (Region.ready .any ops (unl listed u)).all fun x=>l.any (Nat.beq x) || u.any fun p=>Nat.beq x p.1 && us.contains (u.erase p))
section
variable {P:Program} {n:Nat} {ops:Array Oper} {W:Nat→Bool} {A T R:Type} {go:T→St} {ab:A→Ex × St} {st cR uV:St} {m:Option (A ⊕ T)} {cs:List Code} {j fuel fuel':Nat} {listed:Array Bool} {us:List (List (Nat × Nat))} {cv:List (Nat × List Bool)}
theorem St.vM:∀ u:List (Nat × Nat),(st.mG u).cZ=st.cZ
 | []=>rfl
 | p::u=>St.vM u
theorem St.aM0:∀ u:List (Nat × Nat),(st.mG u).gd=st.gd
 | []=>rfl
 | p::u=>St.aM0 u
theorem aBL:∀ (u:List (Nat × Nat)),u.all (fun p=>!Nat.beq p.1 j)=true→(unl listed u).setIfInBounds j true=unl (listed.setIfInBounds j true) u
 | [],_=>rfl
 | p::u,h=>by
   rw[List.all_cons,aK] at h
   have hne:p.1≠j:=fun e=>by have:=h.1;rw[e] at this;simp at this
   unfold unl
   rw[← aBL u h.2,Array.setIfInBounds_comm _ _ hne]
theorem dB.core (bs:List (List (Nat × Nat))) (h0:∀ u∈bs,cJ P n ops W (fuel+u.length) (unl listed u) cs (st.mG u) m go ab) (l:List Nat) (hl:∀ j∈l,∀ u∈us,u ∉ bs→eJ P n ops W j (fuel+u.length - 1) (unl listed u) cs (st.mG u) m go ab)
 (hz:bs.contains []=true) (hr:xZ ops us bs listed l=true) (hq:xY ops W us=true) (hcv:∀ p∈cv,∀ b∈p.2,b=true)
 (he:(evs us).map (fun q=>iZ P n ops (opsOf ops [q.2.1]) (st.mG q.1) ((st.mG (q.1.erase q.2)).tmps.map Prod.fst) (List.range st.cZ.length))=(evs us).map fun q=>some (eC [] cv q.2.1,st.mG (q.1.erase q.2))) :
 ∀ (k:Nat),∀ u∈us,u.length≤k→cJ P n ops W (fuel+u.length) (unl listed u) cs (st.mG u) m go ab
 | k,[],hu,_=>h0 [] (by simpa using hz)
 | 0,p::u,hu,hk=>absurd hk (by simp)
 | k+1,p::u,hu,hk=>by
   have hr':=hr
   unfold xZ at hr
   rw[aK,aW,aW] at hr
   obtain ⟨hse,hr⟩:=hr
   by_cases hbs:(p::u)∈bs
   ·exact h0 _ hbs
   have h1:=hr _ hu
   have aYR:bs.contains (p::u)=false:=by simpa using hbs
   simp only[aYR,bT,aK,Bool.not_eq_true'] at h1
   obtain ⟨hne,h1⟩:=h1
   refine cJ.fork (fuel':=fuel+u.length) (Region.ready .any ops (unl listed (p::u))) ?_ fun x hx=>?_
   ·simp only[aK,decide_true,bM,hne,bA,and_true]
    simp [Nat.add_assoc]
   ·rw[aW] at h1
    have h2:=h1 x hx
    rw[bK] at h2
    rcases h2 with h2 | h2
    ·rw[List.any_eq_true] at h2
     obtain ⟨y,hy,hxy⟩:=h2
     obtain rfl:=aP hxy
     exact hl x hy _ hu hbs
    ·rw[List.any_eq_true] at h2
     obtain ⟨q,hqu,hxq⟩:=h2
     rw[aK] at hxq
     have aYT:=aP hxq.1
     subst aYT
     have hmem:(p::u).erase q∈us:=by simpa using hxq.2
     have hev:((p::u),q)∈evs us:=by
      unfold evs
      rw[List.mem_flatMap]
      refine ⟨_,hu,?_⟩
      rw[List.mem_map]
      exact ⟨q,List.mem_filter.2 ⟨hqu,by simpa using hmem⟩,rfl⟩
     have hst:=List.map_inj_left.1 he _ hev
     dsimp only at hst
     have hlen:((p::u).erase q).length=u.length:=by rw[List.length_erase_of_mem hqu];simp
     have ih:=dB.core bs h0 l hl hz hr' hq hcv he k _ hmem (by rw[hlen];simpa using hk)
     rw[hlen] at ih
     unfold xY at hq
     rw[aW] at hq
     have hq1:=hq _ hu
     rw[aW] at hq1
     have hb:∀ b∈eC [] cv q.1,b=true:=by
      have:∀ (l:List (Nat × List Bool)),(∀ p∈l,∀ b∈p.2,b=true)→∀ b∈eC [] l q.1,b=true:=by
       intro l
       induction l with
       | nil=>intro _ b hb;cases hb
       | cons z r ihh =>
         intro hz b hb
         unfold eC at hb
         cases hzq:Nat.beq z.1 q.1 with
         | true=>rw[hzq,cond_true] at hb;exact hz z (by simp) b hb
         | false=>rw[hzq,cond_false] at hb;exact ihh (fun p hp=>hz p (by simp [hp])) b hb
      exact this cv hcv
     have aMQ:cJ P n ops W (fuel+u.length) ((unl listed (p::u)).setIfInBounds q.1 true) cs (st.mG ((p::u).erase q)) m go ab:=by
      have hes:(unl listed (p::u)).setIfInBounds q.1 true=unl listed ((p::u).erase q):=by
       simpa using hse _ hev
      rw[hes];exact ih
     have:=eJ.aMZ (W:=W) (cs:=cs) (m:=m) (go:=go) (ab:=ab) q.1 _ _ (hq1 _ hqu) hst aMQ
     intro Γ S β a w hr x hx
     refine this Γ S β a w hr x ?_
     have oY:(eC [] cv q.1).all (fun b=>b)=true:=by
      rw[aW];exact hb
     have hc:∀ (l:List Bool),(l.all fun b=>b)=true→fI l m=m:=by
      intro l
      induction l with
      | nil=>intro _;rfl
      | cons v r ih=>intro h;rw[List.all_cons,aK] at h;unfold fI;rw[aJ h.1,ih h.2]
     rw[hc _ oY]
     exact hx
theorem cJ.aQw (us:List (List (Nat × Nat))) (cv:List (Nat × List Bool)) (u0:List (Nat × Nat)) (keep om:List Nat) (cR:St) (h:dB us cv P n ops W fuel' (dR listed u0) cs cR m go ab)
 (hu:(us.contains u0 && (Nat.beq fuel (fuel'+u0.length) && decide (unl (dR listed u0) u0=listed)))=true:=by kernel_rfl) (hk:st.keep keep om=some (cR.mG u0):=by kernel_rfl):cJ P n ops W fuel listed cs st (fI (cv.flatMap fun p=>p.2) m) go ab:=by
 simp only[aK,bQ] at hu
 obtain ⟨h1,h2,h3⟩:=hu
 have h2:=aP h2
 intro Γ S β a w hr x hx
 obtain ⟨hvs,hm⟩:=jA hx
 have:=h (fun p hp b hb=>hvs b (List.mem_flatMap.2 ⟨p,hp,hb⟩)) u0 (by simpa using h1)
 rw[h3,← h2] at this
 exact cJ.conv (Conv.keep keep om hk) this Γ S β a w hr x hm
theorem cJ.l9 (us:List (List (Nat × Nat))) (u0:List (Nat × Nat)) (keep om:List Nat) (cR:St) (h:dB us [] P n ops W fuel' (dR listed u0) cs cR m go ab)
 (hu:(us.contains u0 && (Nat.beq fuel (fuel'+u0.length) && decide (unl (dR listed u0) u0=listed)))=true:=by kernel_rfl) (hk:st.keep keep om=some (cR.mG u0):=by kernel_rfl):cJ P n ops W fuel listed cs st m go ab :=
 cJ.aQw us [] u0 keep om cR h hu hk
theorem dB.less (bs:List (List (Nat × Nat))) (h:dB bs cv P n ops W fuel listed cs st m go ab) (hr:(bs.contains [] && (xZ ops us bs listed [] && xY ops W us))=true:=by kernel_rfl)
 (he:(evs us).map (fun q=>iZ P n ops (opsOf ops [q.2.1]) (st.mG q.1) ((st.mG (q.1.erase q.2)).tmps.map Prod.fst) (List.range st.cZ.length))=(evs us).map fun q=>some (eC [] cv q.2.1,st.mG (q.1.erase q.2)):=by kernel_rfl):dB us cv P n ops W fuel listed cs st m go ab:=by
 rw[aK,aK] at hr
 exact fun hcv u hu=>dB.core bs (h hcv) [] (fun j hj=>by cases hj) hr.1 hr.2.1 hr.2.2 hcv he u.length u hu (aR _)
theorem dB.close (h:cJ P n ops W fuel listed cs st m go ab) (hr:(xZ ops us [[]] listed [] && xY ops W us)=true:=by kernel_rfl)
 (he:(evs us).map (fun q=>iZ P n ops (opsOf ops [q.2.1]) (st.mG q.1) ((st.mG (q.1.erase q.2)).tmps.map Prod.fst) (List.range st.cZ.length))=(evs us).map fun q=>some (eC [] cv q.2.1,st.mG (q.1.erase q.2)):=by kernel_rfl):dB us cv P n ops W fuel listed cs st m go ab:=by
 rw[aK] at hr
 exact fun hcv u hu=>dB.core [[]] (fun u hu=>by obtain rfl:=aS.1 hu;exact h) [] (fun j hj=>by cases hj) (by simp) hr.1 hr.2 hcv he u.length u hu (aR _)
theorem dB.fork (l:List Nat) (h:∀ j∈l,dV us cv P n ops W j fuel' listed cs st m go ab) (vI:Nat.beq fuel (fuel'+1)=true) (hr0:(decide (Region.ready .any ops listed=l) && !l.isEmpty)=true) (hr:(xZ ops us [[]] listed l && xY ops W us)=true)
 (hn:us.contains []=true) (he:(evs us).map (fun q=>iZ P n ops (opsOf ops [q.2.1]) (st.mG q.1) ((st.mG (q.1.erase q.2)).tmps.map Prod.fst) (List.range st.cZ.length))=(evs us).map fun q=>some (eC [] cv q.2.1,st.mG (q.1.erase q.2))):dB us cv P n ops W fuel listed cs st m go ab:=by
 rw[aK] at hr
 obtain rfl:=aP vI
 intro hcv
 have h0:cJ P n ops W (fuel'+1) listed cs st m go ab:=cJ.fork (fuel':=fuel') l (by rw[hr0];simp) fun j hj=>h j hj hcv [] (by simpa using hn)
 refine fun u hu=>dB.core [[]] (fun u hu=>by obtain rfl:=aS.1 hu;exact h0) l (fun j hj u hu hne=>?_) (by simp) hr.1 hr.2 hcv he u.length u hu (aR _)
 rw[show fuel'+1+u.length - 1=fuel'+u.length by omega]
 exact h j hj hcv u hu
theorem dB.eH (j:Nat) (h:dV us cv P n ops W j fuel' listed cs st m go ab) (vI:Nat.beq fuel (fuel'+1)=true:=by kernel_rfl) (hr0:(decide (Region.ready .any ops listed=[j]) && ![j].isEmpty)=true:=by kernel_rfl) (hr:(xZ ops us [[]] listed [j] && xY ops W us)=true:=by kernel_rfl)
 (hn:us.contains []=true:=by kernel_rfl) (he:(evs us).map (fun q=>iZ P n ops (opsOf ops [q.2.1]) (st.mG q.1) ((st.mG (q.1.erase q.2)).tmps.map Prod.fst) (List.range st.cZ.length))=(evs us).map fun q=>some (eC [] cv q.2.1,st.mG (q.1.erase q.2)):=by kernel_rfl):dB us cv P n ops W fuel listed cs st m go ab :=
 dB.fork [j] (fun x hx=>by obtain rfl:=aS.1 hx;exact h) vI hr0 hr hn he
theorem dB.aGD (j k:Nat) (h1:dV us cv P n ops W j fuel' listed cs st m go ab) (h2:dV us cv P n ops W k fuel' listed cs st m go ab) (vI:Nat.beq fuel (fuel'+1)=true:=by kernel_rfl) (hr0:(decide (Region.ready .any ops listed=[j,k]) && ![j,k].isEmpty)=true:=by kernel_rfl) (hr:(xZ ops us [[]] listed [j,k] && xY ops W us)=true:=by kernel_rfl)
 (hn:us.contains []=true:=by kernel_rfl) (he:(evs us).map (fun q=>iZ P n ops (opsOf ops [q.2.1]) (st.mG q.1) ((st.mG (q.1.erase q.2)).tmps.map Prod.fst) (List.range st.cZ.length))=(evs us).map fun q=>some (eC [] cv q.2.1,st.mG (q.1.erase q.2)):=by kernel_rfl):dB us cv P n ops W fuel listed cs st m go ab :=
 dB.fork [j,k] (fun x hx=>by
  rcases aT.1 hx with rfl | hx
  ·exact h1
  ·obtain rfl:=aS.1 hx;exact h2) vI hr0 hr hn he
def zE (keep:List Nat) (u:List (Nat × Nat)):List Nat:=keep.filter fun x=>u.all fun p=>!Nat.beq x p.2
def aIK (us:List (List (Nat × Nat))) (j:Nat):Bool:=us.all fun u=>u.all fun p=>!Nat.beq p.1 j
theorem aCs (h:aIK us j=true) {u:List (Nat × Nat)} (hu:u∈us):u.all (fun p=>!Nat.beq p.1 j)=true:=by
 unfold aIK at h
 rw[aW] at h
 exact h u hu
theorem dV.aMZ (j:Nat) (keep om:List Nat) {vs:List Bool} (hf:(!W j && (ops[j]?).elim false fun o=>o.guard.isNone && (tH o.op || jI o.op))=true) (he:iZ P n ops (opsOf ops [j]) st keep om=some (vs,cR))
 (h:dB us cv P n ops W fuel (listed.setIfInBounds j true) cs cR m go ab) (hij:aIK us j=true:=by kernel_rfl) (he2:us.map (fun u=>iZ P n ops (opsOf ops [j]) (st.mG u) (zE keep u) om)=us.map (fun u=>some (vs,cR.mG u)):=by kernel_rfl):dV us cv P n ops W j fuel listed cs st (fI vs m) go ab:=by
 intro hcv u hu
 refine eJ.aMZ j (zE keep u) om hf (List.map_inj_left.1 he2 u hu) ?_
 rw[aBL u (aCs hij hu)]
 exact h hcv u hu
theorem dV.writes (j:Nat) (keep om:List Nat) {vs:List Bool} (hf:(W j && (ops[j]?).isSome)=true) (he:iZ P n ops (opsOf ops [j]) st keep om=some (vs,cR))
 (h:dB us cv P n ops W fuel (listed.setIfInBounds j true) cs cR m go ab) (hij:aIK us j=true:=by kernel_rfl) (he2:us.map (fun u=>iZ P n ops (opsOf ops [j]) (st.mG u) (zE keep u) om)=us.map (fun u=>some (vs,cR.mG u)):=by kernel_rfl):dV us cv P n ops W j fuel listed cs st (fI vs m) go ab:=by
 intro hcv u hu
 refine eJ.writes j (zE keep u) om hf (List.map_inj_left.1 he2 u hu) ?_
 rw[aBL u (aCs hij hu)]
 exact h hcv u hu
theorem dV.jD (j:Nat) (keep om:List Nat) (hf:(!W j && (ops[j]?).elim false fun o=>o.guard.isNone && (tH o.op || jI o.op))=true) (he:iZ P n ops (opsOf ops [j]) st keep om=some ([],cR))
 (h:dB us cv P n ops W fuel (listed.setIfInBounds j true) cs cR m go ab) (hij:aIK us j=true:=by kernel_rfl) (he2:us.map (fun u=>iZ P n ops (opsOf ops [j]) (st.mG u) (zE keep u) om)=us.map (fun u=>some ([],cR.mG u)):=by kernel_rfl):dV us cv P n ops W j fuel listed cs st m go ab :=
 dV.aMZ (vs:=[]) j keep om hf he h hij he2
theorem dV.o7 (j:Nat) (keep om:List Nat) (hf:(W j && (ops[j]?).isSome)=true) (he:iZ P n ops (opsOf ops [j]) st keep om=some ([],cR))
 (h:dB us cv P n ops W fuel (listed.setIfInBounds j true) cs cR m go ab) (hij:aIK us j=true:=by kernel_rfl) (he2:us.map (fun u=>iZ P n ops (opsOf ops [j]) (st.mG u) (zE keep u) om)=us.map (fun u=>some ([],cR.mG u)):=by kernel_rfl):dV us cv P n ops W j fuel listed cs st m go ab :=
 dV.writes (vs:=[]) j keep om hf he h hij he2
theorem aA8 {α:Type} (a b:Nat) (l:List (Nat × α)):hG a (hG b l)=hG b (hG a l):=by
 unfold hG
 rw[List.filter_filter,List.filter_filter]
 congr 1
 funext x
 rw[Bool.and_comm]
theorem vN {α:Type} {a b:Nat} (d:α) (l:List (Nat × α)) (h:Nat.beq b a=false):hG a ((b,d)::l)=(b,d)::hG a l:=by
 unfold hG
 rw[List.filter_cons_of_pos (by simp [h])]
theorem aKl {t':Nat} (d:D) (xs:List Obj):∀ (u:List (Nat × Nat)),u.all (fun p=>!Nat.beq t' p.2)=true→(st.mG u).put (some t') d xs []=(st.put (some t') d xs []).mG u
 | [],_=>rfl
 | p::u,h=>by
   rw[List.all_cons,aK,Bool.not_eq_true'] at h
   show _=((st.put (some t') d xs []).mG u).rm p.2
   rw[← aKl d xs u h.2]
   show ((st.mG u).rm p.2).put (some t') d xs []=_
   unfold St.rm St.put
   simp only[vN _ _ h.1,aA8 t' p.2]
theorem dV.j8 (j:Nat) (om:List Nat) {f:FuncId} {fU:List D} {t:Nat} {mc:Option R} {res:R→D} {out:R→List Obj} {m:R→Option (A ⊕ T)}
 (hf:(W j && Nat.blt j ops.size)=true) (hi:nY P n (mP ops.toList j) st om=some (f,fU,t)) (hfun:cQ P f fU (jB st om) mc res out)
 (h:∀ r,dB us cv P n ops W fuel (listed.setIfInBounds j true) cs (st.put (some t) ((res r).s6 om st.cZ.length) (pP om (out r) st.cZ) []) (m r) go ab)
 (hij:(aIK us j && us.all fun u=>u.all fun p=>!Nat.beq t p.2)=true:=by kernel_rfl) (hi2:us.map (fun u=>nY P n (mP ops.toList j) (st.mG u) om)=us.map (fun _=>some (f,fU,t)):=by kernel_rfl):dV us cv P n ops W j fuel listed cs st (mc.bind m) go ab:=by
 rw[aK,aW] at hij
 intro hcv u hu
 have ho:jB (st.mG u) om=jB st om:=by unfold jB;rw[St.vM]
 refine eJ.j8 j om hf (List.map_inj_left.1 hi2 u hu) (by rw[ho];exact hfun) fun r=>?_
 rw[aBL u (aCs hij.1 hu),St.vM,aKl _ _ u (hij.2 u hu)]
 exact h r hcv u hu
theorem dB.nR (is keep om:List Nat) {vs:List Bool} (vI:fuel=is.length+fuel')
 (hf:(Region.noSelect ops && decide (us.map (fun u=>kJ .any ops W (unl listed u) is)=us.map fun u=>some (unl ((kJ .any ops W listed is).getD listed) u)))=true) (he:iZ P n ops (opsOf ops is) st keep om=some (vs,cR))
 (h:dB us cv P n ops W fuel' ((kJ .any ops W listed is).getD listed) cs cR m go ab) (he2:us.map (fun u=>iZ P n ops (opsOf ops is) (st.mG u) (zE keep u) om)=us.map (fun u=>some (vs,cR.mG u)):=by kernel_rfl):dB us cv P n ops W fuel listed cs st (fI vs m) go ab:=by
 rw[aK,bQ] at hf
 intro hcv u hu
 exact cJ.ev is (zE keep u) om (by rw[vI,Nat.add_assoc]) (by rw[hf.1];exact List.map_inj_left.1 hf.2 u hu) (List.map_inj_left.1 he2 u hu) (h hcv u hu)
theorem dB.iH (is keep om:List Nat) (vI:fuel=is.length+fuel')
 (hf:(Region.noSelect ops && decide (us.map (fun u=>kJ .any ops W (unl listed u) is)=us.map fun u=>some (unl ((kJ .any ops W listed is).getD listed) u)))=true) (he:iZ P n ops (opsOf ops is) st keep om=some ([],cR))
 (h:dB us cv P n ops W fuel' ((kJ .any ops W listed is).getD listed) cs cR m go ab) (he2:us.map (fun u=>iZ P n ops (opsOf ops is) (st.mG u) (zE keep u) om)=us.map (fun u=>some ([],cR.mG u)):=by kernel_rfl):dB us cv P n ops W fuel listed cs st m go ab :=
 dB.nR (vs:=[]) is keep om vI hf he h he2
def gJ (us:List (List (Nat × Nat))) (n:Nat) (st cR:St):Prop:=∀ u∈us,Conv n (st.mG u) (cR.mG u)
theorem gJ.freeze (o:Nat) (hf:st.freeze o=some cR) (h2:us.map (fun u=>(st.mG u).freeze o)=us.map (fun u=>some (cR.mG u)):=by kernel_rfl):gJ us n st cR:=fun u hu=>Conv.freeze o (List.map_inj_left.1 h2 u hu)
theorem aCt (o:Nat) (x:Obj):∀ u:List (Nat × Nat),(st.setObj o x).mG u=(st.mG u).setObj o x
 | []=>rfl
 | p::u=>by
   show ((st.setObj o x).mG u).rm p.2=_
   rw[aCt o x u]
   rfl
theorem gJ.obj (o:Nat) (x:Obj) (h:OLe (st.cZ.getD o .dead) x) (hx:Nat.blt o st.cZ.length=true):gJ us n st (st.setObj o x):=fun u hu=>by
 rw[aCt]
 exact Conv.obj o x (by rw[St.vM];exact h) (by rw[St.vM];exact hx)
theorem aA9 {k:Nat} (d:D):∀ (u:List (Nat × Nat)),u.all (fun p=>!Nat.beq k p.2)=true→(st.jR k d).mG u=(st.mG u).jR k d
 | [],_=>rfl
 | p::u,h=>by
   rw[List.all_cons,aK,Bool.not_eq_true'] at h
   show ((st.jR k d).mG u).rm p.2=_
   rw[aA9 d u h.2]
   show _=((st.mG u).rm p.2).jR k d
   unfold St.rm St.jR
   simp only[vN _ _ h.1,aA8 k p.2]
theorem rM {k t:Nat} (h:Nat.beq k t=false) (z:D):∀ l:List (Nat × D),eC z (hG t l) k=eC z l k
 | []=>rfl
 | p::l=>by
   cases hp:Nat.beq p.1 t with
   | true =>
     have e:hG t (p::l)=hG t l:=by unfold hG;rw[List.filter_cons_of_neg (by simp [hp])]
     have hne:Nat.beq p.1 k=false:=by
      cases hpk:Nat.beq p.1 k with
      | false=>rfl
      | true =>
        rw[← aP hpk,hp] at h
        cases h
     rw[e,rM h z l]
     show _=bif Nat.beq p.1 k then p.2 else eC z l k
     rw[hne];rfl
   | false =>
     have e:hG t (p::l)=p::hG t l:=by unfold hG;rw[List.filter_cons_of_pos (by simp [hp])]
     rw[e]
     show (bif Nat.beq p.1 k then p.2 else eC z (hG t l) k)=bif Nat.beq p.1 k then p.2 else eC z l k
     rw[rM h z l]
theorem aKm {k:Nat}:∀ (u:List (Nat × Nat)),u.all (fun p=>!Nat.beq k p.2)=true→(st.mG u).get k=st.get k
 | [],_=>rfl
 | p::u,h=>by
   rw[List.all_cons,aK,Bool.not_eq_true'] at h
   show eC _ (hG p.2 (st.mG u).tmps) k=_
   rw[rM h.1]
   exact aKm u h.2
theorem gJ.slot (k:Nat) (d:D) (h:gB (st.get k) d) (hg:st.gd.isEmpty=true) (hk:us.all (fun u=>u.all fun p=>!Nat.beq k p.2)=true:=by kernel_rfl):gJ us n st (st.jR k d):=fun u hu=>by
 rw[aW] at hk
 rw[aA9 d u (hk u hu)]
 exact Conv.slot k d (by rw[aKm u (hk u hu)];exact h) (by rw[St.aM0];exact hg)
theorem dB.conv (hc:gJ us n st cR) (h:dB us cv P n ops W fuel listed cs cR m go ab):dB us cv P n ops W fuel listed cs st m go ab:=fun hcv u hu=>cJ.conv (hc u hu) (h hcv u hu)
theorem dV.conv (hc:gJ us n st cR) (h:dV us cv P n ops W j fuel listed cs cR m go ab):dV us cv P n ops W j fuel listed cs st m go ab:=fun hcv u hu=>eJ.conv (hc u hu) (h hcv u hu)
end
theorem aGF {n:Nat} {st:St} (t:Nat) (d:D) (h:gB (st.get t) d) (hg:st.gd.all (fun x=>x.2.all fun p=>!Nat.beq p.1 t)=true):aME n st (st.jR t d):=by
 intro Γ S β a w hr
 have hgo:∀ t',∀ p∈st.oU t',p.1≠t:=by
  intro t' p hp e
  have:∀ l:List (Nat × List (Nat × Bool)),l.all (fun x=>x.2.all fun p=>!Nat.beq p.1 t)=true→∀ p∈eC [] l t',p.1≠t:=by
   intro l
   induction l with
   | nil=>intro _ p hp;cases hp
   | cons x l ih =>
     intro hl p hp
     rw[List.all_cons,aK] at hl
     obtain ⟨i,g⟩:=x
     simp only[eC] at hp
     cases hb:Nat.beq i t' with
     | true =>
       rw[hb] at hp
       have:=aW.1 hl.1 p hp
       intro e
       rw[e,Nat.beq_refl] at this
       cases this
     | false=>rw[hb] at hp;exact ih hl.2 p hp
  exact this st.gd hg p hp e
 have hho:∀ t',(st.jR t d).holds (st.oU t')↔st.holds (st.oU t'):=by
  intro t'
  constructor
  ·intro hh p hp
   have:=hh p hp
   rw[nZ,aG (hgo t' p hp)] at this
   exact this
  ·intro hh p hp
   rw[nZ,aG (hgo t' p hp)]
   exact hh p hp
 refine ⟨hr.core,fun t' hh=>?_,fun t' hn=>?_,hr.size,hr.defers,hr.hand⟩
 ·have hx:=hr.tm t' ((hho t').1 hh)
  rw[nZ]
  split
  ·rename_i e;subst e;exact h _ _ _ hx
  ·exact hx
 ·exact hr.un t' fun hh=>hn ((hho t').2 hh)
theorem Conv.aRW {n:Nat} {st:St} (t:Nat) (d:D) (h:gB (st.get t) d) (hg:st.gd.all (fun x=>x.2.all fun p=>!Nat.beq p.1 t)=true):Conv n st (st.jR t d):=Conv.le (aGF t d h hg)
end Go.Dl

namespace Go.Dl
variable [fT]
section
variable {P:Program} {n:Nat} {ops:Array Oper} {W:Nat→Bool} {A T:Type} {go:T→St} {ab:A→Ex × St} {st:St} {m:Option (A ⊕ T)} {cs:List Code}
end
end Go.Dl

namespace Go.Dl
variable [fT]
section
variable {P:Program} {ops:Array Oper} {W:Nat→Bool} {j t:Nat}
end
section
variable {P:Program} {n:Nat} {ops:Array Oper} {W:Nat→Bool} {A T:Type} {go:T→St} {ab:A→Ex × St} {st:St} {m:Option (A ⊕ T)} {cs:List Code}
end
end Go.Dl

namespace Go.Dl
variable [fT]
section
variable {P:Program} {n:Nat} {A T:Type} {go:T→St} {ab:A→Ex × St} {st cR:St} {m:Option (A ⊕ T)} {cs:List Code} {c:Code}
theorem cQ.it (fn:Func) {f:FuncId} {R:Type} {args:List D} {xs:List Obj} {m:Option (R ⊕ R)} (rs:R→St) {res:R→D} {out:R→List Obj}
 (aS4:Ref P fn.ntmps [cd (bd fn) []] ⟨gT args 0,xs,[],xs.length⟩ m rs (fun r=>(.ret,rs r))) (hf:P.funcs[f]? = some fn:=by kernel_rfl) (hb:fn.body=some (cd (bd fn) []):=by kernel_rfl) (hn:Nat.ble args.length fn.ntmps=true:=by kernel_rfl)
 (hres:∀ r,aQn P (rs r) fn.results.toList=some (res r):=by intro r;kernel_rfl) (hout:∀ r,(rs r).cZ=out r:=by intro r;kernel_rfl) (hgd:∀ r,(rs r).gd=[]:=by intro r;kernel_rfl) (hh:∀ r,(rs r).h=xs.length:=by intro r;kernel_rfl) :
 cQ P f args xs (b5 m) res out:=cQ.intro hf hb hn aS4 hres hout hgd hh
theorem Ref.ck (cR:St) (l om:List Nat) (h:Ref P n cs cR m go ab) (hk:st.keep l om=some cR:=by kernel_rfl):Ref P n cs st m go ab:=Ref.conv (Conv.keep l om hk) h
theorem bY.cc (t k k':Nat) (om:List Nat) {ops:Array Oper} {l:List Oper} {f:FuncId} {fU:List D} {R:Type} {mc:Option R} {res:R→D} {out:R→List Obj} {m:R→Option (A ⊕ T)} (hfun:cQ P f fU (jB st om) mc res out)
 (h:∀ r,bY P n ops (l.drop k') cs (st.put (some t) ((res r).s6 om st.cZ.length) (pP om (out r) st.cZ) []) (m r) go ab) (hk:(Nat.blt k l.length && Nat.beq k' (k+1))=true:=by rfl) (hi:nY P n (mP l k) st om=some (f,fU,t):=by kernel_rfl) :
 bY P n ops (l.drop k) cs st (mc.bind m) go ab:=bY.j8 k k' om hk hi hfun h
theorem bY.li {α:Type} (t:Nat) (g:List (Nat × Bool)) (E:El α) (dR:List α) (k k':Nat) {ops:Array Oper} {l:List Oper} (h:bY P n ops (l.drop k') cs (st.put (some t) (.c (E.tree dR)) (st.cZ++[.dead]) g) m go ab)
 (hk:(Nat.blt k l.length && Nat.beq k' (k+1))=true:=by kernel_rfl) (hi:aBJ P n ops (mP l k) st=some (t,g,.tree E.w dR.length (iM (dR.map E.cs)),st.cZ++[.dead]):=by kernel_rfl):bY P n ops (l.drop k) cs st m go ab:=bY.lit E dR k k' hk hi h
theorem Ref.ce (c':Code) (hr:Ref P n (c'::cs) st m go ab) (h:c=c':=by kernel_rfl):Ref P n (c::cs) st m go ab:=Ref.aTf h hr
theorem Conv.ob (o:Nat) (x:Go.Dl.Obj) (h:OLe (st.cZ.getD o .dead) x) (hx:Nat.blt o st.cZ.length=true:=by kernel_rfl):Conv n st (st.setObj o x):=Conv.obj o x h hx
theorem Conv.sl (t:Nat) (d:D) (h:gB (st.get t) d) (hg:st.gd.isEmpty=true:=by kernel_rfl):Conv n st (st.jR t d):=Conv.slot t d h hg
end
end Go.Dl

namespace Go.Dl
abbrev gd {α:Type} [Inhabited α] (l:List α) (i:Int):α:=l.getD i.toNat default
variable [fT]
section
variable {P:Program} {n:Nat} {A T:Type} {go:T→St} {ab:A→Ex × St} {st:St} {m:Option (A ⊕ T)} {cs:List Code} {c:Code}
theorem Ref.kn (l om:List Nat) {t:T} (hk:st.keep l om=some (go t):=by kernel_rfl):Ref P n [] st (some (.inr t)) go ab:=Ref.conv (Conv.keep l om hk) (Ref.nil rfl)
theorem Ref.kx (id:Nat) (l om:List Nat) {t:A} (h:c = .exit id:=by kernel_rfl) (he:(ab t).1 = .exit id:=by kernel_rfl) (hk:st.keep l om=some (ab t).2:=by kernel_rfl):Ref P n (c::cs) st (some (.inl t)) go ab :=
 Ref.conv (Conv.keep l om hk) (Ref.aRR id h (Prod.ext he rfl))
abbrev rl (c:Code):List Oper:=(rg (cd c [0])).toList
theorem Ref.sr (id:Nat) (hr:bY P n (rg (cd c [0])) ((rl c).drop 0) (cd c [1]::cs) st m go ab) (h:c = .seq (.region id (rg (cd c [0])) false) (cd c [1]):=by kernel_rfl):Ref P n (c::cs) st m go ab:=by
 have h0:cd c [0] = .region id (rg (cd c [0])) false:=by
  have:=congrArg (fun x=>cd x [0]) h
  exact this
 have h1:c = .seq (cd c [0]) (cd c [1]):=by rw[← h0] at h;exact h
 exact Ref.aVM _ _ h1 (Ref.aKk id h0 hr)
theorem Ref.s0 (id j:Nat) (cR:St) (keep om:List Nat) (hr:bY P n (rg (cd c [0])) ((rl c).drop j) (cd c [1]::cs) cR m go ab) (h:c = .seq (.region id (rg (cd c [0])) false) (cd c [1]):=by kernel_rfl)
 (he:iZ P n (rg (cd c [0])) (((rl c).drop 0).take j) st keep om=some ([],cR):=by kernel_rfl):Ref P n (c::cs) st m go ab:=Ref.sr id (bY.ev0 0 j j keep om (by omega) he hr) h
theorem Ref.sn (id j:Nat) (cR:St) (keep om:List Nat) (hr:Ref P n (cd c [1]::cs) cR m go ab) (h:c = .seq (.region id (rg (cd c [0])) false) (cd c [1]):=by kernel_rfl)
 (he:iZ P n (rg (cd c [0])) (((rl c).drop 0).take j) st keep om=some ([],cR):=by kernel_rfl) (hk:Nat.ble (rl c).length j=true:=by kernel_rfl):Ref P n (c::cs) st m go ab:=Ref.s0 id j cR keep om (bY.aMN j hk hr) h he
theorem Ref.s01 (id j:Nat) (keep om:List Nat) (hr:bY P n (rg (cd c [0])) ((rl c).drop j) (cd c [1]::cs) (lJ P n (rg (cd c [0])) (((rl c).drop 0).take j) st keep om) m go ab) (h:c = .seq (.region id (rg (cd c [0])) false) (cd c [1]):=by kernel_rfl)
 (he:aAA P n (rg (cd c [0])) (((rl c).drop 0).take j) st keep om=true:=by kernel_rfl):Ref P n (c::cs) st m go ab:=Ref.sr id (bY.e1 0 j j keep om hr (by omega) he) h
theorem Ref.fG (id j:Nat) (keep om:List Nat) (hr:Ref P n (cd c [1]::cs) (lJ P n (rg (cd c [0])) (((rl c).drop 0).take j) st keep om) m go ab) (h:c = .seq (.region id (rg (cd c [0])) false) (cd c [1]):=by kernel_rfl)
 (he:aAA P n (rg (cd c [0])) (((rl c).drop 0).take j) st keep om=true:=by kernel_rfl) (hk:Nat.ble (rl c).length j=true:=by kernel_rfl):Ref P n (c::cs) st m go ab:=Ref.s01 id j keep om (bY.aMN j hk hr) h he
theorem bY.en (k j:Nat) (cR:St) (keep om:List Nat) {ops:Array Oper} {l:List Oper} (h:Ref P n cs cR m go ab) (he:iZ P n ops ((l.drop k).take j) st keep om=some ([],cR):=by kernel_rfl) (hk:Nat.ble l.length (k+j)=true:=by kernel_rfl) :
 bY P n ops (l.drop k) cs st m go ab:=bY.ev0 k j (k+j) keep om rfl he (bY.aMN (k+j) hk h)
theorem bY.s7 (k j:Nat) (keep om:List Nat) {ops:Array Oper} {l:List Oper} (h:Ref P n cs (lJ P n ops ((l.drop k).take j) st keep om) m go ab) (he:aAA P n ops ((l.drop k).take j) st keep om=true:=by kernel_rfl) (hk:Nat.ble l.length (k+j)=true:=by kernel_rfl) :
 bY P n ops (l.drop k) cs st m go ab:=bY.e1 k j (k+j) keep om (bY.aMN (k+j) hk h) rfl he
theorem Ref.sc (id j:Nat) (keep om:List Nat) (t:Nat) (om2:List Nat) {f:FuncId} {fU:List D} {R:Type} {mc:Option R} {res:R→D} {out:R→List Obj} {m:R→Option (A ⊕ T)}
 (hfun:cQ P f fU (jB (lJ P n (rg (cd c [0])) (((rl c).drop 0).take j) st keep om) om2) mc res out)
 (hr:∀ r,bY P n (rg (cd c [0])) ((rl c).drop (j+1)) (cd c [1]::cs) ((lJ P n (rg (cd c [0])) (((rl c).drop 0).take j) st keep om).put (some t) ((res r).s6 om2 (lJ P n (rg (cd c [0])) (((rl c).drop 0).take j) st keep om).cZ.length) (pP om2 (out r) (lJ P n (rg (cd c [0])) (((rl c).drop 0).take j) st keep om).cZ) []) (m r) go ab)
 (h:c = .seq (.region id (rg (cd c [0])) false) (cd c [1]):=by kernel_rfl) (he:aAA P n (rg (cd c [0])) (((rl c).drop 0).take j) st keep om=true:=by kernel_rfl)
 (hk:(Nat.blt j (rl c).length && Nat.beq (j+1) (j+1))=true:=by kernel_rfl) (hi:nY P n (mP (rl c) j) (lJ P n (rg (cd c [0])) (((rl c).drop 0).take j) st keep om) om2=some (f,fU,t):=by kernel_rfl) :
 Ref P n (c::cs) st (mc.bind m) go ab:=Ref.s01 id j keep om (bY.j8 j (j+1) om2 hk hi hfun hr) h he
theorem fF.nth {R:C→C→Prop} (hR:∀ x,R x x) {x y:C} (h:R x y):∀ (k:Nat) (l:List C),l[k]? = some x→fF R l (l.set k y)
 | _,[],e=>by simp at e
 | 0,z::r,e=>by
   obtain rfl:z=x:=by simpa using e
   refine fF.cons h ?_
   clear e
   induction r with
   | nil=>exact fF.nil
   | cons w r ih=>exact fF.cons (hR w) ih
 | k+1,z::r,e=>fF.cons (hR z) (fF.nth hR h k r (by simpa using e))
def D.aIL:D→List C
 | .agg l=>l
 | _=>[]
def Obj.aIM:Obj→List C
 | .cells l=>l
 | _=>[]
theorem Conv.sn (t k:Nat) {x y:C} (h:eU x y) (hd:st.get t = .agg (st.get t).aIL:=by kernel_rfl) (hk:(st.get t).aIL[k]? = some x:=by kernel_rfl) (hg:st.gd.isEmpty=true:=by kernel_rfl):Conv n st (st.jR t (.agg ((st.get t).aIL.set k y))) :=
 Conv.slot t _ (by rw[hd];exact gB.agg (fF.nth eU.refl h k _ hk)) hg
theorem Conv.on (o k:Nat) {x y:C} (h:eU x y) (hd:st.cZ.getD o .dead = .cells (st.cZ.getD o .dead).aIM:=by kernel_rfl) (hk:(st.cZ.getD o .dead).aIM[k]? = some x:=by kernel_rfl) (hx:Nat.blt o st.cZ.length=true:=by kernel_rfl):Conv n st (st.setObj o (.cells ((st.cZ.getD o .dead).aIM.set k y))) :=
 Conv.obj o _ (by rw[hd];exact OLe.cells (fF.nth eU.refl h k _ hk)) hx
end
theorem cJ.kk0 {P:Program} {n:Nat} {A T:Type} {go:T→St} {ab:A→Ex × St} {st:St} {cs:List Code} {ops:Array Oper} {W:Nat→Bool} (iF:St) {mf:Option (A ⊕ T)} {fuel:Nat} {listed:Array Bool} {m:Option (A ⊕ T)}
 (h2:Ref P n cs iF mf go ab→cJ P n ops W fuel listed cs st m go ab) (h1:Ref P n cs iF mf go ab):cJ P n ops W fuel listed cs st m go ab:=h2 h1
end Go.Dl
