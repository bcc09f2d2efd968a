/- No conditions. -/
import Derived.Test.YtdbfbedholdjaaaGreatGDC
import Derived.RangeFuncWrites
import Derived.RangeFuncLeaves
import Derived.RangeFuncCalls
import Derived.OrdersIn
import Derived.TacticsIn
import Derived.LoopNIn
set_option linter.unusedVariables false
set_option linter.unusedSimpArgs false
set_option linter.unusedSectionVars false
namespace Go.Dl
noncomputable section
variable [dK]
section
variable {P:Program} {n:Nat} {A T U R:Type} {go:T→St} {ab:A→Ex × St} {st dD:St} {m:Option (A ⊕ T)} {cs:List Code} {c:Code}
theorem aB6 (b:Nat):∀ (l:List Obj) (k:Nat),pP [] b [] l k=l
 | [],_=>rfl
 | x::r,k=>by
   show x::pP [] b [] r (k+1)=x::r
   rw[aB6 b r (k+1)]
theorem aB7 (l:List Obj):lQ [] [] l=l:=by
 unfold lQ
 rw[aB6]
 simp
theorem eF.aXX {ops:Array Oper} {o:Oper} {rest:List Oper} {x:Operand} {args:Array Operand} {pN:Array TypeId} {t:Nat} {f:FuncId} {cQ:List D} {g:List (Nat × Bool)} {b:Bool}
 {mc:Option R} {res:R→D} {m:R→Option (A ⊕ T)} (r0:R)
 (l4:bS P f cQ [] mc res (fun _=>[])) (hg:guardOf ops o st=some g) (hb:iV st g=some b) (ho:o.op = .call ⟨.value x,args,pN⟩) (l3:o.dst=some t)
 (fT:jW st g x args.toList=some (f,cQ)) (hf:jV P f=true)
 (hn:(Nat.blt t n && (lP st t && g.all fun q=>!Nat.beq q.1 t))=true) (jB:cQ.all D.shut=true)
 (h:∀ r,eF P n ops rest cs (st.put (some t) ((res r).mR [] st.cA.length) st.cA g) (m r) go ab) :
 eF P n ops (o::rest) cs st ((cF b mc r0).bind m) go ab:=by
 intro Γ S β a w hr q hq
 simp only[aC,aM,aV] at hn
 obtain ⟨htn,hfree,hgt⟩:=hn
 have xA:∀ q∈g,q.1≠t:=fun q hq e=>by
  have:=hgt q hq
  rw[e] at this
  simp at this
 by_cases hh:st.holds g
 ·have hbt:=mP hb hh
  subst hbt
  simp only[cF,if_true] at hq
  have xB:Region.wanted o (yielded ops a.tmps)=true:=by
   unfold guardOf at hg
   cases hgd:o.guard with
   | none=>simp [Region.wanted,hgd]
   | some jw =>
     obtain ⟨j,want⟩:=jw
     rw[hgd] at hg
     dsimp only at hg
     cases sR:(ops[j]?).bind (·.dst) with
     | none=>rw[sR] at hg;cases hg
     | some tj =>
       rw[sR] at hg
       simp only[aA] at hg
       subst hg
       have hrel:=hr.tm tj (fun q hq=>hh q (aT _ hq))
       have hxw:=hh (tj,want) (by simp)
       simp only at hxw
       rw[hxw] at hrel
       have hval:a.tmps.getD tj undef = .bool want:=hrel
       have hsome:a.tmps[tj]? = some (.bool want):=by
        rw[aN] at hval
        cases hq:a.tmps[tj]? with
        | none=>rw[hq] at hval;cases hval
        | some u=>rw[hq] at hval;simp only[Option.getD_some] at hval;rw[hval]
       have gY:yielded ops a.tmps j=some want:=by
        unfold yielded
        rw[sR]
        show (match a.tmps[tj]? with | some (.bool b)=>some b | _=>none)=some want
        rw[hsome]
       simp only[Region.wanted,hgd,gY]
       simp
  cases hm:mc with
  | none=>rw[hm] at hq;cases hq
  | some r =>
    rw[hm,Option.bind_some] at hq
    simp only[wpList,xB,if_true]
    left
    unfold jW at fT
    split at fT
    ·rename_i f' k cap hx
     simp only[aA,aI] at fT
     obtain ⟨rfl,n8⟩:=fT
     have hh2:=hh
     have hxr:=gM hr hh2 x
     rw[hx] at hxr
     obtain ⟨vs,hxv,sV⟩:=qA hxr
     have hrun:(execOp a.eval o).run P w = .ok (.enter f' (args.map a.eval++vs)) w:=by
      unfold execOp
      rw[ho]
      simp only[resolve,hxv,Deferred.ofValue,pure_bind,invoke]
      rw[j5 hf]
      simp
     simp only[Oper.wp,Oper.upon,hrun]
     have hvm:∀ (l:List Operand),fQ S β (l.map (st.yY g).lv) (l.map a.eval):=by
      intro l
      induction l with
      | nil=>rfl
      | cons x l ih=>exact ⟨_,_,rfl,gM hr hh2 x,ih⟩
     have hargs:fQ S β cQ (args.map a.eval++vs).toList:=by
      rw[← n8]
      have e:(args.map a.eval++vs).toList=args.toList.map a.eval++vs.toList:=by simp
      rw[e]
      exact (hvm args.toList).append sV
     have hclosed:fQ S (fO β []) cQ (args.map a.eval++vs).toList:=fQ.shut jB hargs
     have hnd:mB []=true:=rfl
     have hlt:∀ x∈([]:List Nat),x<st.cA.length:=fun x hx=>by cases hx
     have fH:=hr.core.jO (om:=[]) hnd
     have vI:Core ⟨S,w,tW (fO β []) [],fO β []⟩ S (fO β []) w []:=by
      refine ⟨⟨rfl,rfl,rfl,aJ _,fun _ _ _=>rfl,fun _ _ _ _=>rfl,jJ.refl _,fH.aF1,fH.inv⟩,fH.holds,fH.cA,fH.out,fH.inj,fH.sep,fun o k y hy hl hk=>⟨(fH.mine o k y hy hl hk).1,fun _=>⟨o,k,y,hy,hl,hk,rfl⟩⟩⟩
     have:=l4 S (fO β []) w (args.map a.eval++vs).toList vI hclosed r hm
     have e2:(args.map a.eval++vs).toList.toArray=args.map a.eval++vs:=by simp
     rw[e2] at this
     refine this.mono fun e w' he=>?_
     obtain ⟨v,S',βc,rfl,hres,hB,mG⟩:=he
     obtain ⟨pL,hle⟩:=hr.core.after (om:=[]) hnd hlt mG (fun o k ho hk=>absurd ho (Nat.not_lt_zero _))
     rw[aB7] at pL
     have aBJ:dL S' (y7 β [] st.cA.length βc) ((res r).mR [] st.cA.length) v:=D.kV (fun i=>w8 hnd hlt i) hres
     have hput:=hr.put pL mG.frame.le hle htn hfree xA (fun _=>aBJ) (fun hno=>absurd hh hno)
     rw[l3]
     exact h r Γ S' _ _ w' hput q hq
    ·cases fT
 ·have hb0:b=false:=by
   cases b with
   | false=>rfl
   | true=>exact absurd (nQ hb) hh
  subst hb0
  simp only[cF,aQ,if_false,Option.bind_some] at hq
  have hwt:Region.wanted o (yielded ops a.tmps)=false:=by
   unfold guardOf at hg
   cases hgd:o.guard with
   | none =>
     rw[hgd] at hg
     simp only[aA] at hg
     subst hg
     exact absurd (fun q hq=>by cases hq) hh
   | some jw =>
     obtain ⟨j,want⟩:=jw
     rw[hgd] at hg
     dsimp only at hg
     cases sR:(ops[j]?).bind (·.dst) with
     | none=>rw[sR] at hg;cases hg
     | some tj =>
       rw[sR] at hg
       simp only[aA] at hg
       subst hg
       obtain ⟨x0,hx0⟩:=mQ hb
       have n7:∀ (yl:Option Bool),yielded ops a.tmps j=yl→Region.wanted o (yielded ops a.tmps)=(yl == some want):=by
        intro yl hy
        simp only[Region.wanted,hgd,hy]
       have gY:yielded ops a.tmps j=match a.tmps[tj]? with | some (.bool b)=>some b | _=>none:=by
        unfold yielded
        rw[sR]
        rfl
       by_cases nB:st.holds (st.nA tj)
       ·have hrel:=hr.tm tj nB
        rw[hx0] at hrel
        have hval:a.tmps.getD tj undef = .bool x0:=hrel
        have hsome:a.tmps[tj]? = some (.bool x0):=by
         rw[aN] at hval
         cases hq:a.tmps[tj]? with
         | none=>rw[hq] at hval;cases hval
         | some u=>rw[hq] at hval;simp only[Option.getD_some] at hval;rw[hval]
        rw[n7 (some x0) (by rw[gY,hsome])]
        have hne:x0≠want:=by
         intro e
         subst e
         refine hh fun q hq=>?_
         rcases bA.1 hq with rfl | hq
         ·exact hx0
         ·exact nB q hq
        simpa using hne
       ·have hun:=hr.un tj nB
        have hnone:yielded ops a.tmps j=none:=by
         rw[gY]
         rw[aN] at hun
         cases hq:a.tmps[tj]? with
         | none=>rfl
         | some u =>
           rw[hq] at hun
           simp only[Option.getD_some] at hun
           rw[hun];rfl
        rw[n7 none hnone]
        rfl
  simp only[wpList,hwt,aQ,if_false]
  have hput:=hr.put (d:=(res r0).mR [] st.cA.length) (v:=undef) hr.core (jJ.refl _) (kE.refl _) htn hfree xA (fun hy=>absurd hy hh) (fun _=>rfl)
  rw[l3]
  exact h r0 Γ S _ _ w hput q hq
theorem eF.aUZ (k k':Nat) {ops:Array Oper} {l:List Oper} {f:FuncId} {cQ:List D} {t:Nat} {g:List (Nat × Bool)} {b:Bool} {mc:Option R} {res:R→D} {m:R→Option (A ⊕ T)} (r0:R)
 (hk:(Nat.blt k l.length && Nat.beq k' (k+1))=true) (hi:jX P n ops (jP l k) st []=some ⟨f,cQ,t,g,b⟩) (l4:bS P f cQ [] mc res (fun _=>[]))
 (h:∀ r,eF P n ops (l.drop k') cs (st.put (some t) ((res r).mR [] st.cA.length) st.cA g) (m r) go ab):eF P n ops (l.drop k) cs st ((cF b mc r0).bind m) go ab:=by
 rw[aC] at hk
 obtain ⟨hk,hk'⟩:=hk
 have hk':=aG hk'
 subst hk'
 rw[nV hk]
 unfold jX at hi
 split at hi
 ·rename_i x args pN t' g' oW hop hd hg hfr
  simp only[St.mI,aA] at hfr
  subst hfr
  split at hi
  ·rename_i b' f' oB hb hca
   obtain ⟨hc,hi⟩:=bU hi
   simp only[aA,sY.mk.injEq] at hi
   obtain ⟨rfl,rfl,rfl,rfl,rfl⟩:=hi
   simp only[aC] at hc
   refine eF.aXX r0 l4 hg hb hop hd hca hc.1 (by simp only[aC];exact hc.2.2) hc.2.1 fun r=>?_
   exact h r
  ·cases hi
 ·cases hi
theorem gH.evH (is keep om:List Nat) {ops:Array Oper} {fuel fuel':Nat} {listed:Array Bool} {vs:List Bool} {dD:St} (rR:fuel=is.length+fuel')
 (hf:(Region.noSelect ops && (kW ops listed is).isSome)=true) (he:iQ P n ops (opsOf ops is) st keep om=some (vs,dD))
 (h:(∀ b∈vs,b=true)→gH P n ops fuel' ((kW ops listed is).getD listed) cs dD m go ab):gH P n ops fuel listed cs st (bW vs m) go ab :=
 fun Γ S β a w hr x hx=>gH.evC is keep om rR hf he (h (fF hx).1) Γ S β a w hr x hx
theorem bS.aJz {f:FuncId} {R:Type} {args:List D} {m:Option R} {res:R→D} {out:R→List Obj} (h:bS P f args [] m res out) (hs:∀ r,D.shut (res r)=true):bS P f args [] m res (fun _=>[]):=by
 intro S β w vs hc hv r hr
 refine (h S β w vs hc hv r hr).mono fun e w' ⟨v,S',β',he,hd,hb,mG⟩=>?_
 have hd':fQ S' β' [res r] [v]:=⟨v,[],rfl,hd,rfl⟩
 obtain ⟨v2,r2,e2,h2,_⟩:=fQ.shut (by simp [hs r]) hd'
 simp only[List.cons.injEq] at e2
 obtain ⟨rfl,_⟩:=e2
 exact ⟨v,S',oX,he,h2,fun o k ho _=>by simp at ho,⟨mG.frame,mG.holds,fun o x hx=>by simp at hx,fun _ _=>rfl,
  fun o o' k k' x x' hx=>by simp at hx,fun o k x hx=>by simp at hx,fun o k x hx=>by simp at hx⟩⟩
end
end
end Go.Dl

namespace Go.Dl
noncomputable section
variable [dK]
theorem fQ.le {S:Mem} {β:dF}:∀ {l m:List D} {us:List Value},gE jR l m→fQ S β l us→fQ S β m us
 | _,_,_,.nil,h=>h
 | _,_,_,.cons h1 h2,⟨v,r,e,hv,hr⟩=>⟨v,r,e,h1 S β v hv,fQ.le h2 hr⟩
theorem bS.le {P:Program} {f:FuncId} {R:Type} {args args':List D} {xs:List Go.Dl.Obj} {m:Option R} {res:R→D} {out:R→List Go.Dl.Obj} (h:bS P f args xs m res out) (hle:gE jR args' args):bS P f args' xs m res out :=
 fun S β w vs hc hv r hr=>h S β w vs hc (fQ.le hle hv) r hr
section
variable {X:Type 1}
def j7 {α:Type} (f:α→(α→X)→X) (l:List α):(List α→X)→X :=
 List.rec (motive:=fun _=>(List α→X)→X) (fun k=>k []) (fun a _ ih k=>f a fun a=>ih fun r=>k (a::r)) l
theorem fC {α:Type} {f:α→(α→X)→X} (hf:∀ a k,f a k=k a):∀ (l:List α) (k:List α→X),j7 f l k=k l
 | [],k=>rfl
 | a::l,k=>by
   show f a (fun a=>j7 f l fun r=>k (a::r))=k (a::l)
   rw[hf,fC hf l]
def aXR (v:Value) (k:Value→X):X:=match v with
 | .int i z=>k (.int i z)
 | .bool b=>k (.bool b)
 | v=>k v
theorem aRb (v:Value) (k:Value→X):aXR v k=k v:=by cases v <;> rfl
def aTq:List Nat:=[0,1,2,3,4,5,6,7,8,9,10,11,12,13,14,15,16,17,18,19,20,21,22,23,24,25,26,27,28,29,30,31,32,33,34,35,36,37,38,39]
def aH8 (o:Nat) (k:Nat→X):X:=List.rec (motive:=fun _=>X) (k o) (fun i _ ih=>bif Nat.beq o i then k i else ih) aTq
theorem xH (o:Nat) (k:Nat→X):aH8 o k=k o:=by
 unfold aH8
 induction aTq with
 | nil=>rfl
 | cons i l ih =>
   show (bif Nat.beq o i then k i else _)=k o
   cases h:Nat.beq o i with
   | true=>rw[aG h];rfl
   | false=>exact ih
def aK0 (c:C) (k:C→X):X:=match c with
 | .val v=>aXR v fun v=>k (.val v)
 | .own o n=>aH8 o fun o=>k (.own o n)
 | .ptr o i j=>aH8 o fun o=>k (.ptr o i j)
 | .self t b o=>aH8 o fun o=>k (.self t b o)
 | .tree w n get=>k (.tree w n get)
 | .str l=>k (.str l)
 | .nil=>k .nil
 | .bot=>k .bot
 | .nN a b c=>k (.nN a b c)
 | c=>k c
theorem xI (c:C) (k:C→X):aK0 c k=k c:=match c with
 | .val v=>aRb v fun v=>k (.val v)
 | .own o n=>xH o fun o=>k (.own o n)
 | .ptr o i j=>xH o fun o=>k (.ptr o i j)
 | .self t b o=>xH o fun o=>k (.self t b o)
 | .bot | .str _ | .nil | .tree .. | .nN .. | .opt .. | .iface .. | .func .. | .cond .. | .map _ | .tail ..=>rfl
def aTr (c:D1) (k:D1→X):X:=match c with
 | .c c=>aK0 c fun c=>k (.c c)
 | .agg l=>j7 aK0 l fun l=>k (.agg l)
theorem aMT (c:D1) (k:D1→X):aTr c k=k c:=match c with
 | .c c=>xI c fun c=>k (.c c)
 | .agg l=>fC xI l fun l=>k (.agg l)
def aGe (c:D) (k:D→X):X:=match c with
 | .c c=>aK0 c fun c=>k (.c c)
 | .agg l=>j7 aK0 l fun l=>k (.agg l)
 | .kC l=>j7 aTr l fun l=>k (.kC l)
theorem qV (c:D) (k:D→X):aGe c k=k c:=match c with
 | .c c=>xI c fun c=>k (.c c)
 | .agg l=>fC xI l fun l=>k (.agg l)
 | .kC l=>fC aMT l fun l=>k (.kC l)
def aK1 (x:Go.Dl.Obj) (k:Go.Dl.Obj→X):X:=match x with
 | .cells l=>j7 aK0 l fun l=>k (.cells l)
 | .row t w n get=>k (.row t w n get)
 | .dead=>k .dead
 | x=>k x
theorem aBc (x:Go.Dl.Obj) (k:Go.Dl.Obj→X):aK1 x k=k x:=match x with
 | .cells l=>fC xI l fun l=>k (.cells l)
 | .row .. | .aAH .. | .map .. | .dead=>rfl
def aRc (p:Nat × D) (k:Nat × D→X):X:=match p with
 | (t,d)=>aGe d fun d=>k (t,d)
theorem aJw (p:Nat × D) (k:Nat × D→X):aRc p k=k p:=match p with
 | (t,d)=>qV d fun d=>k (t,d)
def s7 {α:Type} (a:α) (k:α→X):X:=k a
theorem kX {α:Type} (a:α) (k:α→X):s7 a k=k a:=rfl
def aXS (q:Bool) (l:List (Nat × D)) (k:List (Nat × D)→X):X :=
 bif q then (match l with
  | []=>k []
  | p::r=>aRc p fun p=>j7 s7 r fun r=>k (p::r)) else j7 aRc l k
theorem aRd (q:Bool) (l:List (Nat × D)) (k:List (Nat × D)→X):aXS q l k=k l:=by
 cases q
 ·exact fC aJw _ _
 ·cases l with
  | nil=>rfl
  | cons p r =>
    show aRc p (fun p=>j7 s7 r fun r=>k (p::r))=_
    rw[aJw,fC kX]
def kM (q:Bool) (st:St) (k:St→X):X:=aXS q st.tmps fun l=>bif q then j7 s7 st.gd fun g=>aH8 st.h fun h=>k ⟨l,st.cA,g,h⟩ else j7 aK1 st.cA fun x=>j7 s7 st.gd fun g=>aH8 st.h fun h=>k ⟨l,x,g,h⟩
theorem fI (q:Bool) (st:St) (k:St→X):kM q st k=k st:=by
 unfold kM
 rw[aRd]
 cases q
 ·show j7 aK1 st.cA _=_
  rw[fC aBc,fC kX,xH]
 ·show j7 s7 st.gd _=_
  rw[fC kX,xH]
end
inductive Md where
 | c (cs:List Code)
 | r (id:Nat) (ops:Array Oper) (l:List Oper) (cs:List Code)
 | y (id:Nat) (ops:Array Oper) (fuel:Nat) (listed:List Bool) (cs:List Code)
 | x (id:Nat) (ops:Array Oper) (W:List Nat) (fuel:Nat) (listed:List Bool) (cs:List Code)
 | xi (id:Nat) (ops:Array Oper) (W:List Nat) (j fuel:Nat) (listed:List Bool) (cs:List Code)
def zL:Op→Bool
 | .call ⟨.value _,_,_⟩=>true
 | _=>false
section
variable (P:Program) (n:Nat)
def l5 {A T:Type} (md:Md) (st:St) (m:Option (A ⊕ T)) (go:T→St) (ab:A→Ex × St):Prop :=
 match md with
 | .c cs=>Ref P n cs st m go ab
 | .r _ ops l cs=>eF P n ops l cs st m go ab
 | .y _ ops fuel listed cs=>gH P n ops fuel ⟨listed⟩ cs st m go ab
 | .x _ ops W fuel listed cs=>cW P n ops (inW W) fuel ⟨listed⟩ cs st m go ab
 | .xi _ ops W j fuel listed cs=>eG P n ops (inW W) j fuel ⟨listed⟩ cs st m go ab
def aB3 (st:St) (cs:List Code):Option (Bool × Md × St) :=
 bif st.gd.isEmpty then some (true,.c cs,st) else (st.keep ((st.tmps.filter fun p=>!(st.gd.any fun q=>Nat.beq q.1 p.1)).map Prod.fst) (List.range st.cA.length)).map fun s=>(false,.c cs,s)
def aEO (ops:Array Oper) (W:List Nat) (j:Nat):Bool:=inW W j && (ops[j]?).isSome || (!inW W j && (ops[j]?).elim false fun o=>o.guard.isNone && (oD o.op || gG o.op))
def aJx (id:Nat) (ops:Array Oper) (W:List Nat) (j fuel:Nat) (listed:List Bool) (cs:List Code) (st:St):Option (List Bool × Md × St) :=
 bif aEO ops W j then (match iH P n ops (opsOf ops [j]) st with
  | some (vs,s)=>(match s.keep (s.tmps.map Prod.fst) (List.range s.cA.length) with
    | some s2=>some (vs,.x id ops W fuel (listed.set j true) cs,s2)
    | none=>none)
  | none=>none) else none
def aGf (md:Md) (st:St):Option (Bool × Md × St) :=
 match md with
 | .c (.seq a b::cs)=>some (true,.c (a::b::cs),st)
 | .c (.skip::cs)=>some (true,.c cs,st)
 | .c (.region id ops false::cs)=>some (true,.r id ops ops.toList cs,st)
 | .c (.region id ops true::cs)=>bif P.follows .mixedOrders then some (true,.y id ops ops.size (List.replicate ops.size false) cs,st) else none
 | .y _ ops 0 listed cs=>bif (Region.ready .any ops ⟨listed⟩).isEmpty then aB3 st cs else none
 | .x _ ops _ 0 listed cs=>bif (Region.ready .any ops ⟨listed⟩).isEmpty then aB3 st cs else none
 | .r id ops [] cs=>aB3 st cs
 | .r id ops (o::l) cs=>bif zL o.op then none else
  (match mA P n ops o st with
  | some ([],s)=>some (gG o.op,.r id ops l cs,s)
  | _=>none)
 | .xi id ops W j fuel listed cs=>(match aJx P n id ops W j fuel listed cs st with
   | some ([],md,s)=>some (false,md,s)
   | _=>none)
 | _=>none
variable {P n}
variable {A T:Type} {go:T→St} {ab:A→Ex × St}
theorem eF.ev1 {ops:Array Oper} {o:Oper} {l:List Oper} {cs:List Code} {st dD:St} {vs:List Bool} {m:Option (A ⊕ T)} (he:mA P n ops o st=some (vs,dD)) (h:eF P n ops l cs dD m go ab):eF P n ops (o::l) cs st (bW vs m) go ab:=by
 intro Γ S β a w hr x hx
 obtain ⟨hvs,hm⟩:=fF hx
 have he2:iH P n ops [o] st=some (vs,dD):=by
  show (match mA P n ops o st with
   | some (v,s)=>(match iH P n ops [] s with
     | some (vs,s'')=>some (v++vs,s'')
     | none=>none)
   | none=>none)=_
  rw[he]
  show some (vs++[],dD)=_
  rw[List.append_nil]
 exact aAi (Q:=Exit.then (wpL P cs (Post Γ n go ab x)) (Post Γ n go ab x)) (rest:=l) hr he2 hvs fun a' w' S' β' h'=>h Γ S' β' a' w' h' x hm
theorem zM {md':Md} {st dD:St} {q:Bool} {cs:List Code} {m:Option (A ⊕ T)} (h:aB3 st cs=some (q,md',dD)) (hr:l5 P n md' dD m go ab):Ref P n cs st m go ab:=by
 unfold aB3 at h
 cases hg:st.gd.isEmpty with
 | true =>
   rw[hg] at h
   simp only[cond_true,aA,aI] at h
   obtain ⟨_,rfl,rfl⟩:=h
   exact hr
 | false =>
   rw[hg] at h
   simp only[cond_false,Option.map_eq_some_iff,aI] at h
   obtain ⟨s,hs,_,rfl,rfl⟩:=h
   exact Ref.keep _ _ hs hr
theorem aGg {id:Nat} {ops:Array Oper} {W:List Nat} {j fuel:Nat} {listed:List Bool} {cs:List Code} {st dD:St} {vs:List Bool} {md':Md} {m:Option (A ⊕ T)} (h:aJx P n id ops W j fuel listed cs st=some (vs,md',dD)) (hr:l5 P n md' dD m go ab):eG P n ops (inW W) j fuel ⟨listed⟩ cs st (bW vs m) go ab:=by
 unfold aJx at h
 cases ho:aEO ops W j with
 | false=>rw[ho] at h;cases h
 | true =>
   rw[ho] at h
   simp only[cond_true] at h
   split at h
   ·rename_i vs' s he
    split at h
    ·rename_i s2 hk
     simp only[aA,aI] at h
     obtain ⟨rfl,rfl,rfl⟩:=h
     have e:(Array.mk listed).setIfInBounds j true=⟨listed.set j true⟩:=by simp
     have hrun:iQ P n ops (opsOf ops [j]) st (s.tmps.map Prod.fst) (List.range s.cA.length)=some (vs',s2):=by
      unfold iQ
      rw[he]
      show (s.keep _ _).map _=_
      rw[hk]
      rfl
     have hr:cW P n ops (inW W) fuel ((Array.mk listed).setIfInBounds j true) cs s2 m go ab:=by rw[e];exact hr
     unfold aEO at ho
     rcases aO _ _ ▸ ho with ho | ho
     ·exact eG.writes j _ _ ho hrun hr
     ·exact eG.aEL j _ _ ho hrun hr
    ·cases h
   ·cases h
theorem aMU {md md':Md} {st dD:St} {q:Bool} {m:Option (A ⊕ T)} (h:aGf P n md st=some (q,md',dD)) (hr:l5 P n md' dD m go ab):l5 P n md st m go ab:=by
 unfold aGf at h
 split at h
 ·simp only[aA,aI] at h
  obtain ⟨_,rfl,rfl⟩:=h
  exact Ref.seq hr
 ·simp only[aA,aI] at h
  obtain ⟨_,rfl,rfl⟩:=h
  exact Ref.skip hr
 ·simp only[aA,aI] at h
  obtain ⟨_,rfl,rfl⟩:=h
  exact Ref.region hr
 ·rename_i id ops cs
  cases hf:P.follows .mixedOrders with
  | false=>rw[hf] at h;cases h
  | true =>
    rw[hf] at h
    simp only[cond_true,aA,aI] at h
    obtain ⟨_,rfl,rfl⟩:=h
    refine Ref.vM (c:=.region id ops true) id rfl hf ?_
    have e:(Array.replicate ops.size false)=⟨List.replicate ops.size false⟩:=rfl
    show gH P n ops ops.size (Array.replicate ops.size false) cs st m go ab
    rw[e]
    exact hr
 ·rename_i id ops listed cs
  cases hf:(Region.ready .any ops ⟨listed⟩).isEmpty with
  | false=>rw[hf] at h;cases h
  | true =>
    rw[hf] at h
    exact gH.done hf (zM h hr)
 ·rename_i id ops W listed cs
  cases hf:(Region.ready .any ops ⟨listed⟩).isEmpty with
  | false=>rw[hf] at h;cases h
  | true =>
    rw[hf] at h
    exact cW.done hf (zM h hr)
 ·exact eF.nil (zM h hr)
 ·rename_i id ops o l cs
  cases hc:zL o.op with
  | true=>rw[hc] at h;cases h
  | false =>
    rw[hc] at h
    simp only[cond_false] at h
    split at h
    ·rename_i s hs
     simp only[aA,aI] at h
     obtain ⟨_,rfl,rfl⟩:=h
     exact eF.ev1 hs hr
    ·cases h
 ·rename_i id ops W j fuel listed cs
  split at h
  ·rename_i md2 s hs
   simp only[aA,aI] at h
   obtain ⟨_,rfl,rfl⟩:=h
   exact aGg hs hr
  ·cases h
 ·cases h
def atM (id rem:Nat):Md→Bool
 | .r i _ l _=>Nat.beq id 1000000 || Nat.beq i id && Nat.beq l.length rem
 | _=>Nat.beq id 1000000
variable (P n) in
def qW {X:Type 1} (stop:Md→Bool) (k:Md→St→X) (f:Nat):Md→St→X :=
 Nat.rec (motive:=fun _=>Md→St→X) k (fun _ ih md st=>bif stop md then k md st else
  (match aGf P n md st with
  | some (q,md',s)=>kM q s fun s=>ih md' s
  | none=>k md st)) f
theorem eZ {X:Type 1} {stop:Md→Bool} {k:Md→St→X}:∀ (f:Nat) (md:Md) (st:St),∃ md' dD,qW P n stop k f md st=k md' dD∧∀ m:Option (A ⊕ T),l5 P n md' dD m go ab→l5 P n md st m go ab
 | 0,md,st=>⟨md,st,rfl,fun _ h=>h⟩
 | f+1,md,st=>by
   show ∃ md' dD,(bif stop md then k md st else (match aGf P n md st with
    | some (q,md',s)=>kM q s fun s=>qW P n stop k f md' s
    | none=>k md st))=k md' dD∧_
   cases hs:stop md with
   | true=>exact ⟨md,st,rfl,fun _ h=>h⟩
   | false =>
     simp only[cond_false]
     cases h:aGf P n md st with
     | none=>exact ⟨md,st,rfl,fun _ h=>h⟩
     | some x =>
       obtain ⟨q,md1,s⟩:=x
       obtain ⟨md',dD,e,hk⟩:=eZ (stop:=stop) (k:=k) f md1 s
       refine ⟨md',dD,?_,fun m hm=>aMU h (hk m hm)⟩
       show kM q s (fun s=>qW P n stop k f md1 s)=_
       rw[fI]
       exact e
end
inductive Tr:Type 1 where
 | bad
 | ck (vs:List Bool) (t:Tr)
 | ckh (vs:List Bool) {Q:Prop} (t:Q→Tr)
 | cn (b:Bool) (t:Tr)
 | br (b:Bool) (p q:Tr)
 | call (f:FuncId) (cQ:List D) (xs:List Go.Dl.Obj) {R:Type} (k:R→Tr)
 | look (f:FuncId) (cQ:List D) (b:Bool) {R:Type} (k:R→Tr)
 | leaf (e:Option Ex) (s:St)
 | sub (p:Tr) {U:Type} (k:U→Tr)
 | lp (s:St) {U:Type} (f:U→Tr)
 | ob (x:Go.Dl.Obj) (t:Tr)
 | sl (x:D) (t:Tr)
 | cl (x:C) (t:Tr)
 | op (t:Tr)
 | esc (md:Md) (st:St)
 | nt (k:Nat) (t:Tr)
 | kn {R:Type} {mc:Option R} (t:(r:R)→mc=some r→Tr)
inductive Pa where
 | s (t:Nat)
 | sa (t k:Nat)
 | o (i j:Nat)
 | k (o:Nat)
def aUS:C→Option Nat
 | .ptr o _ _=>some o
 | .own o _=>some o
 | .self _ _ o=>some o
 | _=>none
def a2o:D→Option Nat
 | .c c=>aUS c
 | _=>none
def a2p (k:Nat):D→Option Nat
 | .agg l=>(l[k]?).bind aUS
 | _=>none
def aXT (j:Nat):Go.Dl.Obj→Option Nat
 | .cells l=>(l[j]?).bind aUS
 | _=>none
def aTs (st:St) (om:List Nat):Pa→Option Nat
 | .s t=>a2o (st.get t)
 | .sa t k=>a2p k (st.get t)
 | .o i j=>(om[i]?).bind fun q=>aXT j (st.cA.getD q .dead)
 | .k o=>some o
def vR (st:St):List Pa→List Nat→List Nat
 | [],om=>om
 | p::r,om=>match aTs st om p with
   | some q=>vR st r (om++[q])
   | none=>om
inductive Cv:Type 1 where
 | bd {α:Type} (t:Nat) (E:El α) (l:List α)
 | ap {α:Type} (t:Nat) (E:El α) (a b:List α)
 | nl {α:Type} (t k:Nat) (E:El α)
 | fz (p:Pa)
inductive Hn (P:Program):Type 1 where
 | no (cv:List Cv)
 | ck (vs:List Bool) (h:∀ b∈vs,b=true) (cv:List Cv)
 | kc {R:Type} {f:FuncId} {cQ:List D} {xs:List Go.Dl.Obj} {r:R} {res:R→D} {ou:R→List Go.Dl.Obj} (hs:List Pa) (h:bS P f cQ xs (some r) res ou) (cv:List Cv)
inductive PT (P:Program) (n:Nat):(A T:Type)→(T→St)→(A→Ex × St)→Option (A ⊕ T)→Type 1 where
 | ck {A T:Type} {go:T→St} {ab:A→Ex × St} {m:Option (A ⊕ T)} (vs:List Bool) (k:PT P n A T go ab m):PT P n A T go ab (Go.Dl.bW vs m)
 | ckh {A T:Type} {go:T→St} {ab:A→Ex × St} {m:Option (A ⊕ T)} (vs:List Bool) (k:(hv:∀ b∈vs,b=true)→PT P n A T go ab m):PT P n A T go ab (Go.Dl.bW vs m)
 | cn {A T:Type} {go:T→St} {ab:A→Ex × St} {m:Option (A ⊕ T)} (b:Bool) (k:PT P n A T go ab m):PT P n A T go ab m
 | ite {A T:Type} {go:T→St} {ab:A→Ex × St} {m m':Option (A ⊕ T)} (b:Bool) (p:PT P n A T go ab m) (q:PT P n A T go ab m'):PT P n A T go ab (if b=true then m else m')
 | lt {A T:Type} {go:T→St} {ab:A→Ex × St} {X:Type} {m:X→Option (A ⊕ T)} (v:X) (k:(x:X)→PT P n A T go ab (m x)):PT P n A T go ab (Go.Dl.bO v m)
 | call {A T:Type} {go:T→St} {ab:A→Ex × St} {R:Type} {m:R→Option (A ⊕ T)} {f:FuncId} {cQ:List D} {xs:List Go.Dl.Obj} {mc:Option R} {res:R→D} {ou:R→List Go.Dl.Obj} (om:List Nat) (h:bS P f cQ xs mc res ou) (k:(r:R)→PT P n A T go ab (m r)):PT P n A T go ab (mc.bind m)
 | look {A T:Type} {go:T→St} {ab:A→Ex × St} {R:Type} {m:R→Option (A ⊕ T)} {f:FuncId} {cQ:List D} {mc:Option R} {res:R→D} (r0:R) (b:Bool) (bo:List Nat) (h:bS P f cQ [] mc res (fun _=>[])) (hf:∀ r,(res r).flat=true) (k:(r:R)→PT P n A T go ab (m r)):PT P n A T go ab ((cF b mc r0).bind m)
 | uZ {A T:Type} {go:T→St} {ab:A→Ex × St} {R:Type} {m:R→Option (A ⊕ T)} {f:FuncId} {cQ:List D} {mc:Option R} {res:R→D} (r0:R) (b:Bool) (h:bS P f cQ [] mc res (fun _=>[])) (k:(r:R)→PT P n A T go ab (m r)):PT P n A T go ab ((cF b mc r0).bind m)
 | nil {A T:Type} {go:T→St} {ab:A→Ex × St} (om:List Nat) (t:T):PT P n A T go ab (some (.inr t))
 | ret {A T:Type} {go:T→St} {ab:A→Ex × St} (om:List Nat) (t:A):PT P n A T go ab (some (.inl t))
 | jn {A T:Type} {go:T→St} {ab:A→Ex × St} {U:Type} {m1:Option (A ⊕ U)} {m:U→Option (A ⊕ T)} (tY:U→St) (p:PT P n A U tY ab m1) (k:(t:U)→PT P n A T go ab (m t)):PT P n A T go ab (bP m1 m)
 | blk {A T:Type} {go:T→St} {ab:A→Ex × St} {U:Type} {m1:Option ((U ⊕ A) ⊕ U)} {m:U→Option (A ⊕ T)} (id:Nat) (tY:U→St) (hid:∀ a,(ab a).1≠.exit id) (p:PT P n (U ⊕ A) U tY (fun x=>match x with | .inl t=>(.exit id,tY t) | .inr a=>ab a) m1) (k:(t:U)→PT P n A T go ab (m t)):PT P n A T go ab (bP (bN m1) m)
 | lp {A T:Type} {go:T→St} {ab:A→Ex × St} {U:Type} {mf:U→Option (A ⊕ U)} {K:Nat} {t0:U} (om:List Nat) (hd:U→St) (f:(u:U)→PT P n A U hd ab (mf u)):PT P n A T go ab ((iter K mf t0).map .inl)
 | ob {A T:Type} {go:T→St} {ab:A→Ex × St} {m:Option (A ⊕ T)} (id rem o:Nat) {x y:Go.Dl.Obj} (h:OLe x y) (k:PT P n A T go ab m):PT P n A T go ab m
 | sl {A T:Type} {go:T→St} {ab:A→Ex × St} {m:Option (A ⊕ T)} (id rem t:Nat) {x y:D} (h:jR x y) (k:PT P n A T go ab m):PT P n A T go ab m
 | sk {A T:Type} {go:T→St} {ab:A→Ex × St} {m:Option (A ⊕ T)} (id rem t k:Nat) {x y:C} (h:hO x y) (p:PT P n A T go ab m):PT P n A T go ab m
 | ok {A T:Type} {go:T→St} {ab:A→Ex × St} {m:Option (A ⊕ T)} (id rem o k:Nat) {x y:C} (h:hO x y) (p:PT P n A T go ab m):PT P n A T go ab m
 | fz {A T:Type} {go:T→St} {ab:A→Ex × St} {m:Option (A ⊕ T)} (id rem o:Nat) (k:PT P n A T go ab m):PT P n A T go ab m
 | mv {A T:Type} {go:T→St} {ab:A→Ex × St} {m:Option (A ⊕ T)} (id rem o:Nat) (k:PT P n A T go ab m):PT P n A T go ab m
 | ad {A T:Type} {go:T→St} {ab:A→Ex × St} {m:Option (A ⊕ T)} (id rem t:Nat) (e:TypeId) (wd:Nat) (get:Nat→Nat→C) (k:PT P n A T go ab m):PT P n A T go ab m
 | adc {A T:Type} {go:T→St} {ab:A→Ex × St} {m:Option (A ⊕ T)} (id rem o j:Nat) (e:TypeId) (wd:Nat) (get:Nat→Nat→C) (k:PT P n A T go ab m):PT P n A T go ab m
 | ex {A T:Type} {go:T→St} {ab:A→Ex × St} {m:Option (A ⊕ T)} (is:List Nat) (k:PT P n A T go ab m):PT P n A T go ab m
 | iU {A T:Type} {go:T→St} {ab:A→Ex × St} {m:Option (A ⊕ T)} (is:List Nat) (vs:List Bool) (k:PT P n A T go ab m):PT P n A T go ab (Go.Dl.bW vs m)
 | aUT {A T:Type} {go:T→St} {ab:A→Ex × St} {m:Option (A ⊕ T)} (is:List Nat) (vs:List Bool) (k:(hv:∀ b∈vs,b=true)→PT P n A T go ab m):PT P n A T go ab (Go.Dl.bW vs m)
 | tx {A T:Type} {go:T→St} {ab:A→Ex × St} {m:Option (A ⊕ T)} (W:List Nat) (k:PT P n A T go ab m):PT P n A T go ab m
 | tl {A T:Type} {go:T→St} {ab:A→Ex × St} {m:Option (A ⊕ T)} (js:List Nat) (k:PT P n A T go ab m):PT P n A T go ab m
 | eH {A T:Type} {go:T→St} {ab:A→Ex × St} {R:Type} {m:R→Option (A ⊕ T)} {f:FuncId} {cQ:List D} {mc:Option R} {res:R→D} (i:Nat) (r0:R) (b:Bool) (bo:List Nat) (h:bS P f cQ [] mc res (fun _=>[])) (hf:∀ r,((res r).flat && (res r).exact.isSome)=true) (k:(r:R)→PT P n A T go ab (m r)):PT P n A T go ab ((cF b mc r0).bind m)
 | fk {A T:Type} {go:T→St} {ab:A→Ex × St} {m:Option (A ⊕ T)} (i:Nat) (p:PT P n A T go ab m):PT P n A T go ab m
 | fk2 {A T:Type} {go:T→St} {ab:A→Ex × St} {m:Option (A ⊕ T)} (i j:Nat) (p q:PT P n A T go ab m):PT P n A T go ab m
 | fk3 {A T:Type} {go:T→St} {ab:A→Ex × St} {m:Option (A ⊕ T)} (i j k:Nat) (p q r:PT P n A T go ab m):PT P n A T go ab m
 | fk4 {A T:Type} {go:T→St} {ab:A→Ex × St} {m:Option (A ⊕ T)} (i j k l:Nat) (p q r s:PT P n A T go ab m):PT P n A T go ab m
 | ckn {A T:Type} {go:T→St} {ab:A→Ex × St} {m:Option (A ⊕ T)} (vs:List Bool) (h:∀ b∈vs,b=true) (k:PT P n A T go ab m):PT P n A T go ab m
 | asm {A T:Type} {go:T→St} {ab:A→Ex × St} {m:Option (A ⊕ T)} (vs:List Bool) (k:(hv:∀ b∈vs,b=true)→PT P n A T go ab m):PT P n A T go ab (Go.Dl.bW vs m)
 | aMV {A T:Type} {go:T→St} {ab:A→Ex × St} {R:Type} {m:R→Option (A ⊕ T)} {f:FuncId} {cQ:List D} {xs:List Go.Dl.Obj} {mc:Option R} {res:R→D} {ou:R→List Go.Dl.Obj} (om:List Nat) (h:bS P f cQ xs mc res ou) (k:(r:R)→PT P n A T go ab (m r)):PT P n A T go ab (mc.bind m)
 | all {A T:Type} {go:T→St} {ab:A→Ex × St} {m:Option (A ⊕ T)} (ks:List Nat) (ops:Array Oper) (listed:List Bool) (hint:Nat→Hn P) (want:St) (ps:List Pa) (k:PT P n A T go ab m):PT P n A T go ab m
 | kn {A T:Type} {go:T→St} {ab:A→Ex × St} {R:Type} {mc:Option R} {m:R→Option (A ⊕ T)} (k:(r:R)→mc=some r→PT P n A T go ab (m r)):PT P n A T go ab (mc.bind m)
 | aUU {A T:Type} {go:T→St} {ab:A→Ex × St} {m:Option (A ⊕ T)} (om:List Nat) (cs:List Code) (st:St) (h:Ref P n cs st m go ab):PT P n A T go ab m
 | esc {A T:Type} {go:T→St} {ab:A→Ex × St} {m:Option (A ⊕ T)} (om:List Nat) (cs:List Code) (st:St) (h:Ref P n cs st m go ab):PT P n A T go ab m
 | aDx {A T:Type} {go:T→St} {ab:A→Ex × St} {m:Option (A ⊕ T)} (om:List Nat) (id:Nat) (ops:Array Oper) (l:List Oper) (cs:List Code) (st:St) (h:eF P n ops l cs st m go ab):PT P n A T go ab m
section
variable {P:Program} {n:Nat}
/- The two sides have constants of their own,so that the kernel does not compare their parts before it has computed them. -/
def brs (l:List Nat) (g:Nat→Tr):Tr:=List.rec (motive:=fun _=>Tr) .bad (fun j _ t=>.br true (g j) t) l
def aUV (l:List Nat) (g:Nat→Tr):Tr:=List.rec (motive:=fun _=>Tr) .bad (fun j _ t=>.br true (g j) t) l
def aRe {X:Type 1} (l:List Bool):(List Bool→X)→X :=
 List.rec (motive:=fun _=>(List Bool→X)→X) (fun k=>k []) (fun a _ ih k=>ih fun r=>k (a::r)) l
theorem aBd {X:Type 1}:∀ (l:List Bool) (k:List Bool→X),aRe l k=k l
 | [],k=>rfl
 | a::l,k=>aBd l fun r=>k (a::r)
theorem aMW {g g':Nat→Tr}:∀ {l:List Nat},brs l g=aUV l g'→∀ j∈l,g j=g' j
 | x::l,h,j,hj=>by
   have h:Tr.br true (g x) (brs l g)=Tr.br true (g' x) (aUV l g'):=h
   injection h with _ h1 h2
   rcases bA.1 hj with rfl | hj
   ·exact h1
   ·exact aMW h2 j hj
def cvT:List Cv→Tr→Tr
 | [],t=>t
 | .bd _ E l::r,t=>.ob (.row E.ty E.w l.length (wN (l.map E.cs))) (cvT r t)
 | .ap _ E a b::r,t=>.ob (.row E.ty E.w (a.length+b.length) fun i j=>bif Nat.blt i a.length then E.at a i j else E.at b (i - a.length) j) (.nt (a.length+b.length) (cvT r t))
 | .nl _ _ _::r,t=>.cl .nil (cvT r t)
 | .fz _::r,t=>.op (cvT r t)
def xt (ops:Array Oper) (hint:Nat→Hn P) (want:St) (f:Nat):List Bool→Tr :=
 Nat.rec (motive:=fun _=>List Bool→Tr) (fun _=>.esc (.c []) want) (fun _ ih listed=>bif (Region.ready .any ops ⟨listed⟩).isEmpty then .op .bad else aUV (Region.ready .any ops ⟨listed⟩) fun j=>match hint j with
  | .no cv=>.op (cvT cv (aRe (listed.set j true) fun l2=>.op (ih l2)))
  | .ck vs _ cv=>.ck vs (cvT cv (aRe (listed.set j true) fun l2=>.op (ih l2)))
  | .kc (f:=f) (cQ:=cQ) (xs:=xs) _ _ cv=>.call f cQ xs fun (_:Unit)=>cvT cv (aRe (listed.set j true) fun l2=>.op (ih l2))) f
def PT.tree {A T:Type} {go:T→St} {ab:A→Ex × St} {m:Option (A ⊕ T)}:PT P n A T go ab m→Tr
 | .ck vs k=>.ck vs k.tree
 | .ckh vs k=>.ckh vs fun hv=>(k hv).tree
 | .cn b k=>.cn b k.tree
 | .ite b p q=>.br b p.tree q.tree
 | .lt v k=>(k v).tree
 | .call (f:=f) (cQ:=cQ) (xs:=xs) _ _ k=>.call f cQ xs fun r=>(k r).tree
 | .look (f:=f) (cQ:=cQ) _ b _ _ _ k=>.look f cQ b fun r=>(k r).tree
 | .uZ (f:=f) (cQ:=cQ) _ b _ k=>.look f cQ b fun r=>(k r).tree
 | .nil _ t=>.leaf none (go t)
 | .ret _ t=>.leaf (some (ab t).1) (ab t).2
 | .jn _ p k=>.sub p.tree fun t=>(k t).tree
 | .blk _ _ _ p k=>.sub p.tree fun t=>(k t).tree
 | .lp (t0:=t0) _ hd f=>.lp (hd t0) fun u=>(f u).tree
 | .ob (x:=x) _ _ _ _ k=>.ob x k.tree
 | .sl (x:=x) _ _ _ _ k=>.sl x k.tree
 | .sk (x:=x) _ _ _ _ _ p=>.cl x p.tree
 | .ok (x:=x) _ _ _ _ _ p=>.cl x p.tree
 | .fz _ _ _ k=>.op k.tree
 | .mv _ _ _ k=>.op k.tree
 | .ad _ _ _ _ _ _ k=>.op k.tree
 | .adc _ _ _ _ _ _ _ k=>.op k.tree
 | .ex _ k=>.op k.tree
 | .iU _ vs k=>.ck vs k.tree
 | .aUT _ vs k=>.ckh vs fun hv=>(k hv).tree
 | .tx _ k=>.op k.tree
 | .tl _ k=>.op k.tree
 | .eH (f:=f) (cQ:=cQ) _ _ b _ _ _ k=>.look f cQ b fun r=>(k r).tree
 | .fk _ p=>.op p.tree
 | .fk2 _ _ p q=>.br true p.tree q.tree
 | .fk3 _ _ _ p q r=>.br true p.tree (.br true q.tree r.tree)
 | .fk4 _ _ _ _ p q r s=>.br true (.br true p.tree q.tree) (.br true r.tree s.tree)
 | .ckn vs _ k=>.ck vs k.tree
 | .asm vs k=>.ckh vs fun hv=>(k hv).tree
 | .aMV (f:=f) (cQ:=cQ) (xs:=xs) _ _ k=>.call f cQ xs fun r=>(k r).tree
 | .all _ ops listed hint want _ k=>.br true (.esc (.y 0 ops (listed.filter fun b=>!b).length listed []) want) (.br true (xt ops hint want (listed.filter fun b=>!b).length listed) k.tree)
 | .kn (mc:=mc) k=>.kn (mc:=mc) fun r e=>(k r e).tree
 | .aUU _ cs st _=>.esc (.c cs) st
 | .esc _ cs st _=>.esc (.c cs) st
 | .aDx _ id ops l cs st _=>.esc (.r id ops l cs) st
def keys (st:St):List Nat:=st.tmps.map Prod.fst
def kept (st:St) (want:St) (om:List Nat) (k:St→Tr):Tr :=
 match st.keep (keys want) om with
 | some s=>k s
 | none=>.bad
def eC:Md→Bool:=fun _=>false
def atD:Md→Bool
 | .c (.region _ _ true::_)=>true
 | _=>false
def atC:Md→Bool
 | .c _=>true
 | _=>false
def dW:Nat:=100000
def isL (a b:List Nat):Bool:=decide (a=b)
variable (P n) in
def ckW (need:Nat) (k:List Bool→Md→St→Tr) (f:Nat):List Bool→Md→St→Tr :=
 Nat.rec (motive:=fun _=>List Bool→Md→St→Tr) (fun _ _ _=>.bad) (fun _ ih acc=>qW P n eC (fun md st=>match md with
  | .r id ops (o::l) cs=>bif zL o.op then .bad else (match mA P n ops o st with
    | some (v::vs,s)=>kM false s fun s=>j7 s7 (acc++(v::vs)) fun acc=>bif Nat.ble need acc.length then k acc (.r id ops l cs) s else ih acc (.r id ops l cs) s
    | _=>.bad)
  | _=>.bad) dW) f
variable (P n) in
def evX (is:List Nat) (md:Md) (st:St) (k:List Bool→Md→St→Tr):Tr :=
 match md with
 | .y id ops fuel listed cs=>bif Nat.ble is.length fuel && Region.noSelect ops then (match kW ops ⟨listed⟩ is,iH P n ops (opsOf ops is) st with
   | some l2,some (vs,s)=>(match s.keep (keys s) (List.range s.cA.length) with
     | some s2=>kM false s2 fun s2=>j7 s7 vs fun vs=>j7 s7 l2.toList fun l2=>k vs (.y id ops (fuel - is.length) l2 cs) s2
     | none=>.bad)
   | _,_=>.bad) else .bad
 | .x id ops W fuel listed cs=>bif Nat.ble is.length fuel && Region.noSelect ops then (match kF .any ops (inW W) ⟨listed⟩ is,iH P n ops (opsOf ops is) st with
   | some l2,some (vs,s)=>(match s.keep (keys s) (List.range s.cA.length) with
     | some s2=>kM false s2 fun s2=>j7 s7 vs fun vs=>j7 s7 l2.toList fun l2=>k vs (.x id ops W (fuel - is.length) l2 cs) s2
     | none=>.bad)
   | _,_=>.bad) else .bad
 | _=>.bad
def aMX:C→List Nat
 | .own o _=>[o]
 | .ptr o _ _=>[o]
 | .self _ _ o=>[o]
 | _=>[]
def aXW:D→List Nat
 | .c c=>aMX c
 | .agg l=>l.flatMap aMX
 | _=>[]
def aTt:Go.Dl.Obj→List Nat
 | .cells l=>l.flatMap aMX
 | _=>[]
def aUW (xs:List Go.Dl.Obj) (f:Nat):List Nat→List Nat→List Nat :=
 Nat.rec (motive:=fun _=>List Nat→List Nat→List Nat) (fun _ acc=>acc) (fun _ ih todo acc=>match todo with
  | []=>acc
  | o::r=>bif acc.any (Nat.beq o) then ih r acc else ih (r++aTt (xs.getD o .dead)) (acc++[o])) f
def aGi (ks:List Nat) (st:St) (k:St→Tr):Tr :=
 match st.keep (ks.filter fun t=>st.tmps.any fun p=>Nat.beq p.1 t) (aUW st.cA 60 (ks.flatMap (fun t=>aXW (st.get t))++(List.range st.h).flatMap fun o=>aTt (st.cA.getD o .dead)) (List.range st.h)) with
 | some s=>kM false s k
 | none=>.bad
def cvW:List Cv→St→(St→Tr)→Tr
 | [],st,k=>k st
 | .bd t E l::r,st,k=>match st.get t with
   | .c (.own o _)=>bif Nat.blt o st.cA.length then .ob (st.cA.getD o .dead) (kM false (st.setObj o (E.row l)) fun s=>cvW r s k) else .bad
   | _=>.bad
 | .ap t E a b::r,st,k=>match st.get t with
   | .c (.own o q)=>bif Nat.blt o st.cA.length && st.gd.isEmpty then .ob (st.cA.getD o .dead) (.nt q (kM false ((st.setObj o (E.row (a++b))).iI t (.c (.own o (a++b).length))) fun s=>cvW r s k)) else .bad
   | _=>.bad
 | .nl t i E::r,st,k=>match st.get t with
   | .agg l=>(match l[i]? with
     | some x=>bif st.gd.isEmpty then .cl x (kM false (st.iI t (.agg (l.set i (E.tree [])))) fun s=>cvW r s k) else .bad
     | none=>.bad)
   | _=>.bad
 | .fz p::r,st,k=>match aTs st [] p with
   | some o=>(match st.freeze o with
     | some s=>.op (kM false s fun s=>cvW r s k)
     | none=>.bad)
   | none=>.bad
variable (P n) in
def xw (ks W:List Nat) (ops:Array Oper) (hint:Nat→Hn P) (want:St) (ps:List Pa) (f:Nat):List Bool→St→Tr :=
 Nat.rec (motive:=fun _=>List Bool→St→Tr) (fun listed st=>bif (Region.ready .any ops ⟨listed⟩).isEmpty then kept st want (vR st ps []) (fun s=>.esc (.c []) s) else .bad)
  (fun _ ih listed st=>bif (Region.ready .any ops ⟨listed⟩).isEmpty then .bad else brs (Region.ready .any ops ⟨listed⟩) fun j=>match hint j with
  | .no cv=>bif aEO ops W j then (match iH P n ops (opsOf ops [j]) st with
    | some ([],s)=>(match s.keep (keys s) (List.range s.cA.length) with
      | some s2=>.op (kM false s2 fun s=>cvW cv s fun s=>aGi ks s fun s=>j7 s7 (listed.set j true) fun l2=>.op (ih l2 s))
      | none=>.bad)
    | _=>.bad) else .bad
  | .ck _ _ cv=>bif aEO ops W j then (match iH P n ops (opsOf ops [j]) st with
    | some (vs,s)=>(match s.keep (keys s) (List.range s.cA.length) with
      | some s2=>.ck vs (kM false s2 fun s=>cvW cv s fun s=>aGi ks s fun s=>j7 s7 (listed.set j true) fun l2=>.op (ih l2 s))
      | none=>.bad)
    | none=>.bad) else .bad
  | .kc (r:=r) (res:=res) (ou:=ou) hs _ cv=>bif inW W j && Nat.blt j ops.size then (match lS P n (jP ops.toList j) st (vR st hs []) with
    | some (f,cQ,t)=>j7 aGe cQ fun cQ=>j7 aK1 (gR st (vR st hs [])) fun xs=>.call f cQ xs fun (_:Unit)=>kM false (st.put (some t) ((res r).mR (vR st hs []) st.cA.length) (lQ (vR st hs []) (ou r) st.cA) []) fun s=>cvW cv s fun s=>aGi ks s fun s=>j7 s7 (listed.set j true) fun l2=>.op (ih l2 s)
    | none=>.bad) else .bad) f
def PT.walk {A T:Type} {go:T→St} {ab:A→Ex × St} {m:Option (A ⊕ T)}:PT P n A T go ab m→Md→St→Tr
 | .ck vs k=>ckW P n vs.length (fun acc md s=>.ck acc (k.walk md s)) vs.length []
 | .ckh vs k=>ckW P n vs.length (fun acc md s=>.ckh acc fun hv=>(k hv).walk md s) vs.length []
 | .cn b k=>qW P n eC (fun md st=>match md with
   | .c (.cond x c d::cs)=>bif st.gd.isEmpty then (match st.lv x with
     | .c (.val (.bool true))=>.cn true (k.walk (.c (c::cs)) st)
     | .c (.val (.bool false))=>.cn false (k.walk (.c (d::cs)) st)
     | _=>.bad) else .bad
   | _=>.bad) dW
 | .ite b p q=>qW P n eC (fun md st=>match md with
   | .c (.cond x c d::cs)=>bif st.gd.isEmpty then (match st.lv x with
     | .c (.val (.bool b))=>.br b (p.walk (.c (c::cs)) st) (q.walk (.c (d::cs)) st)
     | _=>.bad) else .bad
   | _=>.bad) dW
 | .lt v k=>(k v).walk
 | .call (res:=res) (ou:=ou) om _ k=>qW P n eC (fun md st=>match md with
   | .r id ops (o::l) cs=>(match lS P n o st om with
     | some (f,cQ,t)=>j7 aGe cQ fun cQ=>j7 aK1 (gR st om) fun xs=>.call f cQ xs fun r=>kM false (st.put (some t) ((res r).mR om st.cA.length) (lQ om (ou r) st.cA) []) fun s=>(k r).walk (.r id ops l cs) s
     | none=>.bad)
   | _=>.bad) dW
 | .look (res:=res) r0 b bo _ _ k=>qW P n eC (fun md st=>match md with
   | .r id ops (o::l) cs=>(match jX P n ops o st bo with
     | some ⟨f,cQ,t,g,b⟩=>j7 aGe cQ fun cQ=>.look f cQ b fun r=>kM false (st.put (some t) (res r) st.cA g) fun s=>(k r).walk (.r id ops l cs) s
     | none=>.bad)
   | _=>.bad) dW
 | .uZ (res:=res) r0 b _ k=>qW P n eC (fun md st=>match md with
   | .r id ops (o::l) cs=>(match jX P n ops o st [] with
     | some ⟨f,cQ,t,g,b⟩=>j7 aGe cQ fun cQ=>.look f cQ b fun r=>kM false (st.put (some t) ((res r).mR [] st.cA.length) st.cA g) fun s=>(k r).walk (.r id ops l cs) s
     | none=>.bad)
   | _=>.bad) dW
 | .nil om t=>qW P n eC (fun md st=>match md with
   | .c []=>kept st (go t) om fun s=>.leaf none s
   | _=>.bad) dW
 | .ret om t=>qW P n eC (fun md st=>match md with
   | .c (.ret::_)=>kept st (ab t).2 om fun s=>.leaf (some .ret) s
   | .c (.exit id::_)=>kept st (ab t).2 om fun s=>.leaf (some (.exit id)) s
   | _=>.bad) dW
 | .jn tY p k=>qW P n eC (fun md st=>match md with
   | .c (c::cs)=>.sub (p.walk (.c [c]) st) fun t=>(k t).walk (.c cs) (tY t)
   | _=>.bad) dW
 | .blk id tY _ p k=>qW P n eC (fun md st=>match md with
   | .c (.block i c::cs)=>bif Nat.beq i id then .sub (p.walk (.c [c]) st) fun t=>(k t).walk (.c cs) (tY t) else .bad
   | _=>.bad) dW
 | .lp (t0:=t0) om hd f=>qW P n eC (fun md st=>match md with
   | .c (.loop c::_)=>kept st (hd t0) om fun s=>.lp s fun u=>(f u).walk (.c [c]) (hd u)
   | _=>.bad) dW
 | .ob (y:=y) id rem o _ k=>qW P n (atM id rem) (fun md st=>bif Nat.blt o st.cA.length then .ob (st.cA.getD o .dead) (kM false (st.setObj o y) fun s=>k.walk md s) else .bad) dW
 | .sl (y:=y) id rem t _ k=>qW P n (atM id rem) (fun md st=>bif st.gd.isEmpty then .sl (st.get t) (kM false (st.iI t y) fun s=>k.walk md s) else .bad) dW
 | .sk (y:=y) id rem t k _ p=>qW P n (atM id rem) (fun md st=>bif st.gd.isEmpty then (match st.get t with
   | .agg l=>(match l[k]? with
     | some x=>.cl x (kM false (st.iI t (.agg (l.set k y))) fun s=>p.walk md s)
     | none=>.bad)
   | _=>.bad) else .bad) dW
 | .ok (y:=y) id rem o k _ p=>qW P n (atM id rem) (fun md st=>bif Nat.blt o st.cA.length then (match st.cA.getD o .dead with
   | .cells l=>(match l[k]? with
     | some x=>.cl x (kM false (st.setObj o (.cells (l.set k y))) fun s=>p.walk md s)
     | none=>.bad)
   | _=>.bad) else .bad) dW
 | .fz id rem o k=>qW P n (atM id rem) (fun md st=>match st.freeze o with
   | some s=>.op (kM false s fun s=>k.walk md s)
   | none=>.bad) dW
 | .mv id rem o k=>qW P n (atM id rem) (fun md st=>bif Nat.ble st.h st.cA.length then (match st.move o with
   | some s=>.op (kM false s fun s=>k.walk md s)
   | none=>.bad) else .bad) dW
 | .ad id rem t e wd get k=>qW P n (atM id rem) (fun md st=>bif aHZ (st.get t) && (st.gd.isEmpty && Nat.ble st.h st.cA.length) then .op (kM false (st.aDX t (.row e wd 0 get)) fun s=>k.walk md s) else .bad) dW
 | .adc id rem o j e wd get k=>qW P n (atM id rem) (fun md st=>match st.l9 o j (.row e wd 0 get) with
   | some s=>.op (kM false s fun s=>k.walk md s)
   | none=>.bad) dW
 | .ex is k=>qW P n eC (fun md st=>evX P n is md st fun vs md s=>match vs with
   | []=>.op (k.walk md s)
   | _=>.bad) dW
 | .iU is _ k=>qW P n eC (fun md st=>evX P n is md st fun vs md s=>.ck vs (k.walk md s)) dW
 | .aUT is _ k=>qW P n eC (fun md st=>evX P n is md st fun vs md s=>.ckh vs fun hv=>(k hv).walk md s) dW
 | .tx W k=>qW P n eC (fun md st=>match md with
   | .y id ops fuel listed cs=>.op (k.walk (.x id ops W fuel listed cs) st)
   | _=>.bad) dW
 | .tl js k=>qW P n eC (fun md st=>match md with
   | .y id ops fuel listed cs=>bif Nat.beq fuel js.length && (xD .any ops ⟨listed⟩ js && js.all fun j=>(ops[j]?).isSome) then .op (k.walk (.r id ops (opsOf ops js) cs) st) else .bad
   | .x id ops W fuel listed cs=>bif Nat.beq fuel js.length && (xD .any ops ⟨listed⟩ js && js.all fun j=>inW W j && (ops[j]?).isSome) then .op (k.walk (.r id ops (opsOf ops js) cs) st) else .bad
   | _=>.bad) dW
 | .eH (res:=res) i r0 b bo _ _ k=>qW P n eC (fun md st=>match md with
   | .x id ops W (fuel+1) listed cs=>bif aBO ops (inW W) ⟨listed⟩ i && Nat.blt i ops.size then (match jX P n ops (jP ops.toList i) st bo with
     | some ⟨f,cQ,t,g,b⟩=>j7 aGe cQ fun cQ=>j7 s7 (listed.set i true) fun l2=>.look f cQ b fun r=>kM false (st.put (some t) (res r) st.cA g) fun s=>(k r).walk (.x id ops W fuel l2 cs) s
     | none=>.bad) else .bad
   | _=>.bad) dW
 | .fk i p=>qW P n eC (fun md st=>match md with
   | .x id ops W (fuel+1) listed cs=>bif isL (Region.ready .any ops ⟨listed⟩) [i] then .op (p.walk (.xi id ops W i fuel listed cs) st) else .bad
   | _=>.bad) dW
 | .fk2 i j p q=>qW P n eC (fun md st=>match md with
   | .x id ops W (fuel+1) listed cs=>bif isL (Region.ready .any ops ⟨listed⟩) [i,j] then .br true (p.walk (.xi id ops W i fuel listed cs) st) (q.walk (.xi id ops W j fuel listed cs) st) else .bad
   | _=>.bad) dW
 | .fk3 i j k p q r=>qW P n eC (fun md st=>match md with
   | .x id ops W (fuel+1) listed cs=>bif isL (Region.ready .any ops ⟨listed⟩) [i,j,k] then .br true (p.walk (.xi id ops W i fuel listed cs) st) (.br true (q.walk (.xi id ops W j fuel listed cs) st) (r.walk (.xi id ops W k fuel listed cs) st)) else .bad
   | _=>.bad) dW
 | .fk4 i j k l p q r s=>qW P n eC (fun md st=>match md with
   | .x id ops W (fuel+1) listed cs=>bif isL (Region.ready .any ops ⟨listed⟩) [i,j,k,l] then .br true (.br true (p.walk (.xi id ops W i fuel listed cs) st) (q.walk (.xi id ops W j fuel listed cs) st)) (.br true (r.walk (.xi id ops W k fuel listed cs) st) (s.walk (.xi id ops W l fuel listed cs) st)) else .bad
   | _=>.bad) dW
 | .ckn _ _ k=>qW P n eC (fun md st=>match md with
   | .xi id ops W j fuel listed cs=>(match aJx P n id ops W j fuel listed cs st with
     | some (vs,md,s)=>.ck vs (kM false s fun s=>k.walk md s)
     | none=>.bad)
   | _=>.bad) dW
 | .asm vs k=>fun md st=>.ckh vs fun hv=>(k hv).walk md st
 | .aMV (res:=res) (ou:=ou) om _ k=>qW P n eC (fun md st=>match md with
   | .xi id ops W j fuel listed cs=>bif inW W j && Nat.blt j ops.size then (match lS P n (jP ops.toList j) st om with
     | some (f,cQ,t)=>j7 aGe cQ fun cQ=>j7 aK1 (gR st om) fun xs=>.call f cQ xs fun r=>kM false (st.put (some t) ((res r).mR om st.cA.length) (lQ om (ou r) st.cA) []) fun s=>(k r).walk (.x id ops W fuel (listed.set j true) cs) s
     | none=>.bad) else .bad
   | _=>.bad) dW
 | .all ks _ _ hint want ps k=>qW P n eC (fun md st=>match md with
   | .y id ops fuel listed cs=>.br true (.esc (.y 0 ops fuel listed []) want) (.br true (xw P n ks (List.range ops.size) ops hint want ps fuel listed st) (k.walk (.c cs) want))
   | .x id ops W fuel listed cs=>.br true (.esc (.y 0 ops fuel listed []) want) (.br true (xw P n ks W ops hint want ps fuel listed st) (k.walk (.c cs) want))
   | _=>.bad) dW
 | .kn (mc:=mc) k=>fun md st=>.kn (mc:=mc) fun r e=>(k r e).walk md st
 | .aUU om _ want _=>qW P n atC (fun md st=>kept st want om fun s=>.esc md s) dW
 | .esc om _ want _=>qW P n atD (fun md st=>kept st want om fun s=>.esc md s) dW
 | .aDx om id _ l _ want _=>qW P n (atM id l.length) (fun md st=>kept st want om fun s=>.esc md s) dW
theorem l5.conv {A T:Type} {go:T→St} {ab:A→Ex × St} {m:Option (A ⊕ T)} {md:Md} {st dD:St} (hc:Conv n st dD) (h:l5 P n md dD m go ab):l5 P n md st m go ab:=by
 cases md with
 | c cs=>exact Ref.conv hc h
 | r id ops l cs=>exact eF.conv hc h
 | y id ops fuel listed cs=>exact gH.conv hc h
 | x id ops W fuel listed cs=>exact cW.conv hc h
 | xi id ops W j fuel listed cs=>exact eG.conv hc h
theorem lE {st want:St} {om:List Nat} {k:St→Tr} {t:Tr} (h:kept st want om k=t) (ht:t≠.bad):∃ s,st.keep (keys want) om=some s∧k s=t:=by
 unfold kept at h
 split at h
 ·rename_i s hs
  exact ⟨s,hs,h⟩
 ·exact absurd h.symm ht
theorem l5.bW {A T:Type} {go:T→St} {ab:A→Ex × St} {m:Option (A ⊕ T)} {md:Md} {st:St} {vs:List Bool} (h:(∀ b∈vs,b=true)→l5 P n md st m go ab):l5 P n md st (Go.Dl.bW vs m) go ab:=by
 cases md with
 | c cs=>exact fun Γ S β a w hr x hx=>(h (fF hx).1) Γ S β a w hr x (fF hx).2
 | r id ops l cs=>exact fun Γ S β a w hr x hx=>(h (fF hx).1) Γ S β a w hr x (fF hx).2
 | y id ops fuel listed cs=>exact fun Γ S β a w hr x hx=>(h (fF hx).1) Γ S β a w hr x (fF hx).2
 | x id ops W fuel listed cs=>exact fun Γ S β a w hr x hx=>(h (fF hx).1) Γ S β a w hr x (fF hx).2
 | xi id ops W j fuel listed cs=>exact fun Γ S β a w hr x hx=>(h (fF hx).1) Γ S β a w hr x (fF hx).2
theorem aBe {fuel:Nat} {a l:List Nat} (hc:isL a l=true) (hne:l.isEmpty=false):(Nat.beq (fuel+1) (fuel+1) && (decide (a=l) && !l.isEmpty))=true:=by
 unfold isL at hc
 rw[hc,hne,Nat.beq_refl];rfl
theorem xJ {α:Type} {m:Option α}:∀ {vs:List Bool},(∀ b∈vs,b=true)→Go.Dl.bW vs m=m
 | [],_=>rfl
 | v::vs,h=>by
   show (if v=true then Go.Dl.bW vs m else none)=m
   rw[aH (h v (bH ..)),xJ fun b hb=>h b (aT _ hb)]
theorem aB4 {α:Type} {m:Option α}:∀ (a b:List Bool),Go.Dl.bW (a++b) m=Go.Dl.bW a (Go.Dl.bW b m)
 | [],_=>rfl
 | v::a,b=>by
   show (if v=true then Go.Dl.bW (a++b) m else none)=(if v=true then Go.Dl.bW a (Go.Dl.bW b m) else none)
   rw[aB4 a b]
theorem aH9 {A T:Type} {go:T→St} {ab:A→Ex × St} {need:Nat} {k:List Bool→Md→St→Tr}:∀ (f:Nat) (acc:List Bool) (md:Md) (st:St) (t:Tr),ckW P n need k f acc md st=t→t≠.bad →
 ∃ vs2 md' dD,k (acc++vs2) md' dD=t∧True∧∀ m:Option (A ⊕ T),l5 P n md' dD m go ab→l5 P n md st (Go.Dl.bW vs2 m) go ab
 | 0,acc,md,st,t,h,ht=>absurd h.symm ht
 | f+1,acc,md,st,t,h,ht=>by
   have h:qW P n eC (fun md st=>match md with
    | .r id ops (o::l) cs=>bif zL o.op then Tr.bad else (match mA P n ops o st with
      | some (v::vs,s)=>kM false s fun s=>j7 s7 (acc++(v::vs)) fun acc=>bif Nat.ble need acc.length then k acc (.r id ops l cs) s else ckW P n need k f acc (.r id ops l cs) s
      | _=>.bad)
    | _=>.bad) dW md st=t:=h
   obtain ⟨md',dD,e,tr⟩:=eZ (A:=A) (T:=T) (go:=go) (ab:=ab) (P:=P) (n:=n) (stop:=eC) (k:=fun md st=>match md with
    | .r id ops (o::l) cs=>bif zL o.op then Tr.bad else (match mA P n ops o st with
      | some (v::vs,s)=>kM false s fun s=>j7 s7 (acc++(v::vs)) fun acc=>bif Nat.ble need acc.length then k acc (.r id ops l cs) s else ckW P n need k f acc (.r id ops l cs) s
      | _=>.bad)
    | _=>.bad) dW md st
   rw[e] at h
   split at h
   ·rename_i id ops o l cs
    cases hc:zL o.op with
    | true=>rw[hc] at h;exact absurd h.symm ht
    | false =>
      rw[hc] at h
      simp only[cond_false] at h
      split at h
      ·rename_i v vs' s hs
       rw[fI,fC kX] at h
       cases hn:Nat.ble need (acc++(v::vs')).length with
       | true =>
         rw[hn] at h
         exact ⟨v::vs',_,_,h,trivial,fun m hm=>tr _ (eF.ev1 hs hm)⟩
       | false =>
         rw[hn] at h
         obtain ⟨vs3,md2,oW,e2,_,tr2⟩:=aH9 (A:=A) (T:=T) (go:=go) (ab:=ab) f _ _ _ _ h ht
         refine ⟨(v::vs')++vs3,md2,oW,by rw[← List.append_assoc];exact e2,trivial,fun m hm=>?_⟩
         rw[aB4]
         exact tr _ (eF.ev1 hs (tr2 m hm))
      ·exact absurd h.symm ht
   ·exact absurd h.symm ht
theorem aEP {ops:Array Oper} {l:List Oper} {st s s2:St} {vs:List Bool} {k om:List Nat} (h:iH P n ops l st=some (vs,s)) (h2:s.keep k om=some s2):iQ P n ops l st k om=some (vs,s2):=by
 unfold iQ
 rw[h]
 show (s.keep k om).map _=_
 rw[h2]
 rfl
theorem aIa {A T:Type} {go:T→St} {ab:A→Ex × St} {is:List Nat} {md:Md} {st:St} {k:List Bool→Md→St→Tr} {t:Tr} (h:evX P n is md st k=t) (ht:t≠.bad) :
 ∃ vs md' dD,k vs md' dD=t∧∀ m:Option (A ⊕ T),l5 P n md' dD m go ab→l5 P n md st (Go.Dl.bW vs m) go ab:=by
 unfold evX at h
 split at h
 ·rename_i id ops fuel listed cs
  cases hc:(Nat.ble is.length fuel && Region.noSelect ops) with
  | false=>rw[hc] at h;exact absurd h.symm ht
  | true =>
    rw[hc] at h
    rw[aC] at hc
    have hle:=aY hc.1
    simp only[cond_true] at h
    split at h
    ·rename_i l2 vs s hf he
     split at h
     ·rename_i s2 hk
      rw[fI,fC kX,fC kX] at h
      refine ⟨_,_,_,h,fun m hm=>gH.evC is (keys s) (List.range s.cA.length) (fuel':=fuel - is.length) (by omega) (by rw[hc.2,hf];rfl) (aEP he hk) ?_⟩
      rw[hf]
      exact hm
     ·exact absurd h.symm ht
    ·exact absurd h.symm ht
 ·rename_i id ops W fuel listed cs
  cases hc:(Nat.ble is.length fuel && Region.noSelect ops) with
  | false=>rw[hc] at h;exact absurd h.symm ht
  | true =>
    rw[hc] at h
    rw[aC] at hc
    have hle:=aY hc.1
    simp only[cond_true] at h
    split at h
    ·rename_i l2 vs s hf he
     split at h
     ·rename_i s2 hk
      rw[fI,fC kX,fC kX] at h
      refine ⟨_,_,_,h,fun m hm=>cW.evC is (keys s) (List.range s.cA.length) (fuel':=fuel - is.length) (by omega) (by rw[hc.2,hf];rfl) (aEP he hk) ?_⟩
      rw[hf]
      exact hm
     ·exact absurd h.symm ht
    ·exact absurd h.symm ht
 ·exact absurd h.symm ht
theorem jR.app {α:Type} (o:Nat) (a b:List α):jR (.c (.own o (a.length+b.length))) (.c (.own o (a++b).length)):=jR.c (hO.own List.length_append.symm)
theorem Conv.a2v {st:St}:Conv n st st:=fun Γ S β a w hr=>⟨S,β,hr⟩
theorem vS:∀ {cv:List Cv} {st:St} {k:St→Tr} {t:Tr},cvW cv st k=cvT cv t→∃ dD,k dD=t∧Conv n st dD
 | [],st,k,t,h=>⟨st,h,Conv.a2v⟩
 | .bd t0 E l::r,st,k,t,h=>by
   unfold cvW cvT at h
   split at h
   ·rename_i o q hq
    cases hx:Nat.blt o st.cA.length with
    | false=>rw[hx] at h;cases h
    | true =>
      rw[hx] at h
      simp only[cond_true] at h
      rw[fI] at h
      injection h with h1 h2
      obtain ⟨dD,h3,h4⟩:=vS (cv:=r) h2
      exact ⟨dD,h3,(Conv.obj o _ (by rw[h1];exact El.cB E l rfl rfl) hx).trans h4⟩
   ·cases h
 | .ap t0 E a b::r,st,k,t,h=>by
   unfold cvW cvT at h
   split at h
   ·rename_i o q hq
    cases hx:(Nat.blt o st.cA.length && st.gd.isEmpty) with
    | false=>rw[hx] at h;cases h
    | true =>
      rw[hx] at h
      rw[aC] at hx
      simp only[cond_true] at h
      rw[fI] at h
      injection h with h1 h2
      injection h2 with h2 h3
      obtain ⟨dD,h4,h5⟩:=vS (cv:=r) h3
      refine ⟨dD,h4,(Conv.obj o _ (by rw[h1];exact El.jE E a b rfl rfl) hx.1).trans (Conv.trans (Conv.slot t0 (.c (.own o (a++b).length)) ?_ hx.2) h5)⟩
      show jR (st.get t0) _
      rw[hq,h2]
      exact jR.app o a b
   ·cases h
 | .nl t0 i E::r,st,k,t,h=>by
   unfold cvW cvT at h
   split at h
   ·rename_i l hl
    split at h
    ·rename_i x hx
     cases hg:st.gd.isEmpty with
     | false=>rw[hg] at h;cases h
     | true =>
       rw[hg] at h
       simp only[cond_true] at h
       rw[fI] at h
       injection h with h1 h2
       subst h1
       obtain ⟨dD,h3,h4⟩:=vS (cv:=r) h2
       exact ⟨dD,h3,(Conv.slot t0 _ (by rw[hl];exact jR.agg (gE.nth hO.refl (El.cE E) i l hx)) hg).trans h4⟩
    ·cases h
   ·cases h
 | .fz p::r,st,k,t,h=>by
   unfold cvW cvT at h
   split at h
   ·rename_i o ho
    split at h
    ·rename_i s hs
     rw[fI] at h
     injection h with h1
     obtain ⟨dD,h3,h4⟩:=vS (cv:=r) h1
     exact ⟨dD,h3,(Conv.freeze o hs).trans h4⟩
    ·cases h
   ·cases h
theorem aB5 {ks:List Nat} {st:St} {k:St→Tr} {t:Tr} (h:aGi ks st k=t) (ht:t≠.bad):∃ dD,k dD=t∧Conv n st dD:=by
 unfold aGi at h
 split at h
 ·rename_i s hs
  rw[fI] at h
  exact ⟨s,h,Conv.keep _ _ hs⟩
 ·exact absurd h.symm ht
theorem aJy {A T:Type} {go:T→St} {ab:A→Ex × St} {m:Option (A ⊕ T)} {ops:Array Oper} {W:List Nat} {j f:Nat} {listed:Array Bool} {cs:List Code} {st dD:St} {vs:List Bool} {k om:List Nat} (ho:aEO ops W j=true) (he:iQ P n ops (opsOf ops [j]) st k om=some (vs,dD)) (h:cW P n ops (inW W) f (listed.setIfInBounds j true) cs dD m go ab):eG P n ops (inW W) j f listed cs st (Go.Dl.bW vs m) go ab:=by
 unfold aEO at ho
 rcases aO _ _ ▸ ho with ho | ho
 ·exact eG.writes j _ _ ho he h
 ·exact eG.aEL j _ _ ho he h
theorem aGj {A T:Type} {go:T→St} {ab:A→Ex × St} {m:Option (A ⊕ T)} {ks W:List Nat} {ops:Array Oper} {hint:Nat→Hn P} {want:St} {ps:List Pa} {cs:List Code} (hk:Ref P n cs want m go ab):∀ (f:Nat) (listed:List Bool) (st:St),xw P n ks W ops hint want ps f listed st=xt ops hint want f listed→cW P n ops (inW W) f ⟨listed⟩ cs st m go ab
 | 0,listed,st,h=>by
   have h:(bif (Region.ready .any ops ⟨listed⟩).isEmpty then kept st want (vR st ps []) (fun s=>Tr.esc (.c []) s) else Tr.bad)=Tr.esc (.c []) want:=h
   cases hr:(Region.ready .any ops ⟨listed⟩).isEmpty with
   | false=>rw[hr] at h;cases h
   | true =>
     rw[hr] at h
     simp only[cond_true] at h
     obtain ⟨s,hs,h⟩:=lE h (by intro h;cases h)
     injection h with h1 h2
     subst h2
     exact cW.done hr (Ref.keep _ _ hs hk)
 | f+1,listed,st,h=>by
   cases hr:(Region.ready .any ops ⟨listed⟩).isEmpty with
   | true =>
     unfold xw xt at h
     simp only[hr,cond_true] at h
     cases h
   | false =>
     refine cW.fork (Region.ready .any ops ⟨listed⟩) (fuel':=f) (by rw[Nat.beq_refl,hr];simp) (fun j hj=>?_)
     have h2:=h
     unfold xw xt at h2
     simp only[hr,cond_false] at h2
     have h3:=aMW h2 j hj
     clear h h2
     have e:(Array.mk listed).setIfInBounds j true=⟨listed.set j true⟩:=by simp
     have run:∀ {vs:List Bool} {s s2:St},iH P n ops (opsOf ops [j]) st=some (vs,s)→s.keep (keys s) (List.range s.cA.length)=some s2→iQ P n ops (opsOf ops [j]) st (keys s) (List.range s.cA.length)=some (vs,s2):=fun he hk=>aEP he hk
     split at h3
     ·rename_i cv hh
      cases hc:aEO ops W j with
      | false=>rw[hc] at h3;cases h3
      | true =>
        rw[hc] at h3
        simp only[cond_true] at h3
        split at h3
        ·rename_i s he
         split at h3
         ·rename_i s2 hs2
          rw[fI] at h3
          injection h3 with h3
          rw[aBd] at h3
          obtain ⟨st1,h4,h5⟩:=vS (n:=n) h3
          obtain ⟨dD,h4,h6⟩:=aB5 (n:=n) h4 (by intro h;cases h)
          rw[fC kX] at h4
          injection h4 with h4
          have h5:=Conv.trans h5 h6
          exact aJy (m:=m) hc (run he hs2) (by rw[e];exact cW.conv h5 (aGj hk f _ dD h4))
         ·cases h3
        ·cases h3
     ·rename_i vs hv cv hh
      cases hc:aEO ops W j with
      | false=>rw[hc] at h3;cases h3
      | true =>
        rw[hc] at h3
        simp only[cond_true] at h3
        split at h3
        ·rename_i vs' s he
         split at h3
         ·rename_i s2 hs2
          rw[fI] at h3
          injection h3 with h1 h3
          rw[aBd] at h3
          obtain ⟨st1,h4,h5⟩:=vS (n:=n) h3
          obtain ⟨dD,h4,h6⟩:=aB5 (n:=n) h4 (by intro h;cases h)
          rw[fC kX] at h4
          injection h4 with h4
          have h5:=Conv.trans h5 h6
          have:=aJy (P:=P) (go:=go) (ab:=ab) (m:=m) (cs:=cs) hc (run he hs2) (by rw[e];exact cW.conv h5 (aGj hk f _ dD h4))
          rwa [h1,xJ hv] at this
         ·cases h3
        ·cases h3
     ·rename_i R f' cQ xs r res ou hs hf cv hh
      have hf':bS P f' cQ xs (some ()) (fun _=>res r) (fun _=>ou r):=fun S β w vs hc hv _ _=>hf S β w vs hc hv r rfl
      cases hc:(inW W j && Nat.blt j ops.size) with
      | false=>rw[hc] at h3;cases h3
      | true =>
        rw[hc] at h3
        simp only[cond_true] at h3
        split at h3
        ·rename_i f2 a2w t hi
         rw[fC qV,fC aBc] at h3
         injection h3 with h1 h2 h4 h5 h6
         subst h1;subst h2;subst h4
         have h7:=congrFun h6 ()
         rw[fI] at h7
         rw[aBd] at h7
         obtain ⟨st1,h8,h9⟩:=vS (n:=n) h7
         obtain ⟨dD,h8,h10⟩:=aB5 (n:=n) h8 (by intro h;cases h)
         rw[fC kX] at h8
         injection h8 with h8
         have h9:=Conv.trans h9 h10
         exact eG.dA (mc:=some ()) (m:=fun _=>m) j _ hc hi hf' (fun _=>by rw[e];exact cW.conv h9 (aGj hk f _ dD h8))
        ·cases h3
theorem PT.sound {A T:Type} {go:T→St} {ab:A→Ex × St} {m:Option (A ⊕ T)} (p:PT P n A T go ab m):∀ (md:Md) (st:St),p.walk md st=p.tree→l5 P n md st m go ab:=by
 induction p with
 | ck vs k ih =>
   intro md st h
   unfold PT.walk PT.tree at h
   obtain ⟨vs2,md',dD,e,h,tr⟩:=aH9 (A:=_) (T:=_) (go:=_) (ab:=_) (P:=P) (n:=n) (need:=vs.length) (k:=fun acc md s=>Tr.ck acc (k.walk md s)) vs.length [] md st _ h (by intro h;cases h)
   injection e with h1 h2
   rw[List.nil_append] at h1
   rw[← h1]
   exact tr _ (ih _ _ h2)
 | ckh vs k ih =>
   intro md st h
   unfold PT.walk PT.tree at h
   obtain ⟨vs2,md',dD,e,h,tr⟩:=aH9 (A:=_) (T:=_) (go:=_) (ab:=_) (P:=P) (n:=n) (need:=vs.length) (k:=fun acc md s=>Tr.ckh acc fun hv=>(k hv).walk md s) vs.length [] md st _ h (by intro h;cases h)
   injection e with h1 h2 h3
   rw[List.nil_append] at h1
   refine l5.bW fun hv=>?_
   have:=tr _ (ih hv _ _ (congrFun h3 hv))
   rwa [h1,xJ hv] at this
 | cn b k ih =>
   intro md st h
   unfold PT.walk PT.tree at h
   obtain ⟨md',dD,e,tr⟩:=eZ (P:=P) (n:=n) (stop:=eC) (k:=fun md st=>_) dW md st
   rw[e] at h
   refine tr _ ?_
   split at h
   ·rename_i x c d cs
    cases hg:dD.gd.isEmpty with
    | false=>rw[hg] at h;cases h
    | true =>
      rw[hg] at h
      simp only[cond_true] at h
      split at h
      ·rename_i hb
       injection h with h1 h2
       have:=Ref.cond (x:=c) (y:=d) (m1:=_) (m2:=none) hb (by simpa using hg) (fun _=>ih _ _ h2) (fun h=>by cases h)
       rw[aH rfl] at this
       exact this
      ·rename_i hb
       injection h with h1 h2
       have:=Ref.cond (x:=c) (y:=d) (m1:=none) (m2:=_) hb (by simpa using hg) (fun h=>by cases h) (fun _=>ih _ _ h2)
       rw[aF (by simp)] at this
       exact this
      ·cases h
   ·cases h
 | ite b p q ihp ihq =>
   intro md st h
   unfold PT.walk PT.tree at h
   obtain ⟨md',dD,e,tr⟩:=eZ (P:=P) (n:=n) (stop:=eC) (k:=fun md st=>_) dW md st
   rw[e] at h
   refine tr _ ?_
   split at h
   ·rename_i x c d cs
    cases hg:dD.gd.isEmpty with
    | false=>rw[hg] at h;cases h
    | true =>
      rw[hg] at h
      simp only[cond_true] at h
      split at h
      ·rename_i b' hb
       injection h with h1 h2 h3
       subst h1
       exact Ref.cond hb (by simpa using hg) (fun _=>ihp _ _ h2) (fun _=>ihq _ _ h3)
      ·cases h
   ·cases h
 | lt v k ih =>
   intro md st h
   exact ih v md st h
 | call om hf k ih =>
   intro md st h
   unfold PT.walk PT.tree at h
   obtain ⟨md',dD,e,tr⟩:=eZ (P:=P) (n:=n) (stop:=eC) (k:=fun md st=>_) dW md st
   rw[e] at h
   refine tr _ ?_
   split at h
   ·rename_i id ops o l cs
    split at h
    ·rename_i f' oB t hi
     rw[fC qV,fC aBc] at h
     injection h with h1 h2 h3 h4 h5
     subst h1;subst h2;subst h3
     refine eF.dA (l:=o::l) 0 1 om rfl hi hf (fun r=>?_)
     have:=congrFun h5 r
     rw[fI] at this
     exact ih r _ _ this
    ·cases h
   ·cases h
 | look r0 b bo hf hfl k ih =>
   intro md st h
   unfold PT.walk PT.tree at h
   obtain ⟨md',dD,e,tr⟩:=eZ (P:=P) (n:=n) (stop:=eC) (k:=fun md st=>_) dW md st
   rw[e] at h
   refine tr _ ?_
   split at h
   ·rename_i id ops o l cs
    split at h
    ·rename_i f' oB t g b' hi
     rw[fC qV] at h
     injection h with h1 h2 h3 h4 h5
     subst h1;subst h2;subst h3
     refine eF.aJq (l:=o::l) 0 1 bo r0 rfl hi hf hfl (fun r=>?_)
     have:=congrFun h5 r
     rw[fI] at this
     exact ih r _ _ this
    ·cases h
   ·cases h
 | uZ r0 b hf k ih =>
   intro md st h
   unfold PT.walk PT.tree at h
   obtain ⟨md',dD,e,tr⟩:=eZ (P:=P) (n:=n) (stop:=eC) (k:=fun md st=>_) dW md st
   rw[e] at h
   refine tr _ ?_
   split at h
   ·rename_i id ops o l cs
    split at h
    ·rename_i f' oB t g b' hi
     rw[fC qV] at h
     injection h with h1 h2 h3 h4 h5
     subst h1;subst h2;subst h3
     refine eF.aUZ (l:=o::l) 0 1 r0 rfl hi hf (fun r=>?_)
     have:=congrFun h5 r
     rw[fI] at this
     exact ih r _ _ this
    ·cases h
   ·cases h
 | nil om t =>
   intro md st h
   unfold PT.walk PT.tree at h
   obtain ⟨md',dD,e,tr⟩:=eZ (P:=P) (n:=n) (stop:=eC) (k:=fun md st=>_) dW md st
   rw[e] at h
   refine tr _ ?_
   split at h
   ·obtain ⟨s,hs,h⟩:=lE h (by intro h;cases h)
    injection h with h1 h2
    exact Ref.keep _ _ hs (Ref.nil h2.symm)
   ·cases h
 | ret om t =>
   intro md st h
   unfold PT.walk PT.tree at h
   obtain ⟨md',dD,e,tr⟩:=eZ (P:=P) (n:=n) (stop:=eC) (k:=fun md st=>_) dW md st
   rw[e] at h
   refine tr _ ?_
   split at h
   ·obtain ⟨s,hs,h⟩:=lE h (by intro h;cases h)
    injection h with h1 h2
    injection h1 with h1
    exact Ref.keep _ _ hs (Ref.ret (Prod.ext h1.symm h2.symm))
   ·obtain ⟨s,hs,h⟩:=lE h (by intro h;cases h)
    injection h with h1 h2
    injection h1 with h1
    exact Ref.keep _ _ hs (Ref.exit (Prod.ext h1.symm h2.symm))
   ·cases h
 | jn tY p k ihp ihk =>
   intro md st h
   unfold PT.walk PT.tree at h
   obtain ⟨md',dD,e,tr⟩:=eZ (P:=P) (n:=n) (stop:=eC) (k:=fun md st=>_) dW md st
   rw[e] at h
   refine tr _ ?_
   split at h
   ·injection h with h1 h2 h3
    exact Ref.bind (ihp _ _ h1) (fun t=>ihk t _ _ (congrFun h3 t))
   ·cases h
 | blk id tY hid p k ihp ihk =>
   intro md st h
   unfold PT.walk PT.tree at h
   obtain ⟨md',dD,e,tr⟩:=eZ (P:=P) (n:=n) (stop:=eC) (k:=fun md st=>_) dW md st
   rw[e] at h
   refine tr _ ?_
   split at h
   ·rename_i i c cs
    cases hi:Nat.beq i id with
    | false=>rw[hi] at h;cases h
    | true =>
      rw[hi] at h
      have hi:=aG hi
      subst hi
      simp only[cond_true] at h
      injection h with h1 h2 h3
      exact Ref.block (ihp _ _ h1) hid (fun t=>ihk t _ _ (congrFun h3 t))
   ·cases h
 | @lp A T go ab U mf K t0 om hd f ih =>
   intro md st h
   unfold PT.walk PT.tree at h
   obtain ⟨md',dD,e,tr⟩:=eZ (P:=P) (n:=n) (stop:=eC) (k:=fun md st=>_) dW md st
   rw[e] at h
   refine tr _ ?_
   split at h
   ·obtain ⟨s,hs,h⟩:=lE h (by intro h;cases h)
    injection h with h1 h2 h3
    exact Ref.keep _ _ hs (Ref.loop K t0 h1.symm (fun u=>ih u _ _ (congrFun h3 u)))
   ·cases h
 | ob id rem o hle k ih =>
   intro md st h
   unfold PT.walk PT.tree at h
   obtain ⟨md',dD,e,tr⟩:=eZ (P:=P) (n:=n) (stop:=atM id rem) (k:=fun md st=>_) dW md st
   rw[e] at h
   refine tr _ ?_
   cases hx:Nat.blt o dD.cA.length with
   | false=>rw[hx] at h;cases h
   | true =>
     rw[hx] at h
     simp only[cond_true] at h
     rw[fI] at h
     injection h with h1 h2
     exact l5.conv (Conv.obj o _ (by rw[h1];exact hle) hx) (ih _ _ h2)
 | sl id rem t hle k ih =>
   intro md st h
   unfold PT.walk PT.tree at h
   obtain ⟨md',dD,e,tr⟩:=eZ (P:=P) (n:=n) (stop:=atM id rem) (k:=fun md st=>_) dW md st
   rw[e] at h
   refine tr _ ?_
   cases hx:dD.gd.isEmpty with
   | false=>rw[hx] at h;cases h
   | true =>
     rw[hx] at h
     simp only[cond_true] at h
     rw[fI] at h
     injection h with h1 h2
     exact l5.conv (Conv.slot t _ (by rw[h1];exact hle) hx) (ih _ _ h2)
 | sk id rem t k hle p ih =>
   intro md st h
   unfold PT.walk PT.tree at h
   obtain ⟨md',dD,e,tr⟩:=eZ (P:=P) (n:=n) (stop:=atM id rem) (k:=fun md st=>_) dW md st
   rw[e] at h
   refine tr _ ?_
   cases hx:dD.gd.isEmpty with
   | false=>rw[hx] at h;cases h
   | true =>
     rw[hx] at h
     simp only[cond_true] at h
     split at h
     ·rename_i l hl
      split at h
      ·rename_i x hk
       rw[fI] at h
       injection h with h1 h2
       subst h1
       exact l5.conv (Conv.slot t _ (by rw[hl];exact jR.agg (gE.nth hO.refl hle k l hk)) hx) (ih _ _ h2)
      ·cases h
     ·cases h
 | ok id rem o k hle p ih =>
   intro md st h
   unfold PT.walk PT.tree at h
   obtain ⟨md',dD,e,tr⟩:=eZ (P:=P) (n:=n) (stop:=atM id rem) (k:=fun md st=>_) dW md st
   rw[e] at h
   refine tr _ ?_
   cases hx:Nat.blt o dD.cA.length with
   | false=>rw[hx] at h;cases h
   | true =>
     rw[hx] at h
     simp only[cond_true] at h
     split at h
     ·rename_i l hl
      split at h
      ·rename_i x hk
       rw[fI] at h
       injection h with h1 h2
       subst h1
       exact l5.conv (Conv.obj o _ (by rw[hl];exact OLe.cells (gE.nth hO.refl hle k l hk)) hx) (ih _ _ h2)
      ·cases h
     ·cases h
 | fz id rem o k ih =>
   intro md st h
   unfold PT.walk PT.tree at h
   obtain ⟨md',dD,e,tr⟩:=eZ (P:=P) (n:=n) (stop:=atM id rem) (k:=fun md st=>_) dW md st
   rw[e] at h
   refine tr _ ?_
   split at h
   ·rename_i s hs
    rw[fI] at h
    injection h with h1
    exact l5.conv (Conv.freeze o hs) (ih _ _ h1)
   ·cases h
 | mv id rem o k ih =>
   intro md st h
   unfold PT.walk PT.tree at h
   obtain ⟨md',dD,e,tr⟩:=eZ (P:=P) (n:=n) (stop:=atM id rem) (k:=fun md st=>_) dW md st
   rw[e] at h
   refine tr _ ?_
   cases hx:Nat.ble dD.h dD.cA.length with
   | false=>rw[hx] at h;cases h
   | true =>
     rw[hx] at h
     simp only[cond_true] at h
     split at h
     ·rename_i s hs
      rw[fI] at h
      injection h with h1
      exact l5.conv (Conv.move o hs hx) (ih _ _ h1)
     ·cases h
 | ad id rem t e wd get k ih =>
   intro md st h
   unfold PT.walk PT.tree at h
   obtain ⟨md',dD,eq,tr⟩:=eZ (P:=P) (n:=n) (stop:=atM id rem) (k:=fun md st=>_) dW md st
   rw[eq] at h
   refine tr _ ?_
   cases hc:(aHZ (dD.get t) && (dD.gd.isEmpty && Nat.ble dD.h dD.cA.length)) with
   | false=>rw[hc] at h;cases h
   | true =>
     rw[hc] at h
     simp only[cond_true] at h
     rw[fI] at h
     injection h with h
     simp only[aC] at hc
     exact l5.conv (Conv.aDX t e wd get hc.1 hc.2.1 hc.2.2) (ih _ _ h)
 | adc id rem o j e wd get k ih =>
   intro md st h
   unfold PT.walk PT.tree at h
   obtain ⟨md',dD,eq,tr⟩:=eZ (P:=P) (n:=n) (stop:=atM id rem) (k:=fun md st=>_) dW md st
   rw[eq] at h
   refine tr _ ?_
   split at h
   ·rename_i s hs
    rw[fI] at h
    injection h with h
    exact l5.conv (Conv.l9 o j e wd get hs) (ih _ _ h)
   ·cases h
 | ex is k ih =>
   intro md st h
   unfold PT.walk PT.tree at h
   obtain ⟨md',dD,e,tr⟩:=eZ (P:=P) (n:=n) (stop:=eC) (k:=fun md st=>_) dW md st
   rw[e] at h
   refine tr _ ?_
   obtain ⟨vs,md2,oW,h,tr2⟩:=aIa (A:=_) (T:=_) (go:=_) (ab:=_) h (by intro h;cases h)
   split at h
   ·injection h with h
    exact tr2 _ (ih _ _ h)
   ·cases h
 | iU is vs k ih =>
   intro md st h
   unfold PT.walk PT.tree at h
   obtain ⟨md',dD,e,tr⟩:=eZ (P:=P) (n:=n) (stop:=eC) (k:=fun md st=>_) dW md st
   rw[e] at h
   refine tr _ ?_
   obtain ⟨vs2,md2,oW,h,tr2⟩:=aIa (A:=_) (T:=_) (go:=_) (ab:=_) h (by intro h;cases h)
   injection h with h1 h2
   rw[← h1]
   exact tr2 _ (ih _ _ h2)
 | aUT is vs k ih =>
   intro md st h
   unfold PT.walk PT.tree at h
   obtain ⟨md',dD,e,tr⟩:=eZ (P:=P) (n:=n) (stop:=eC) (k:=fun md st=>_) dW md st
   rw[e] at h
   refine tr _ ?_
   obtain ⟨vs2,md2,oW,h,tr2⟩:=aIa (A:=_) (T:=_) (go:=_) (ab:=_) h (by intro h;cases h)
   injection h with h1 h2 h3
   refine l5.bW fun hv=>?_
   have:=tr2 _ (ih hv _ _ (congrFun h3 hv))
   rwa [h1,xJ hv] at this
 | tx W k ih =>
   intro md st h
   unfold PT.walk PT.tree at h
   obtain ⟨md',dD,e,tr⟩:=eZ (P:=P) (n:=n) (stop:=eC) (k:=fun md st=>_) dW md st
   rw[e] at h
   refine tr _ ?_
   split at h
   ·injection h with h
    exact gH.toX W (ih _ _ h)
   ·cases h
 | tl js k ih =>
   intro md st h
   unfold PT.walk PT.tree at h
   obtain ⟨md',dD,e,tr⟩:=eZ (P:=P) (n:=n) (stop:=eC) (k:=fun md st=>_) dW md st
   rw[e] at h
   refine tr _ ?_
   split at h
   ·rename_i id ops fuel listed cs
    cases hc:(Nat.beq fuel js.length && (xD .any ops ⟨listed⟩ js && js.all fun j=>(ops[j]?).isSome)) with
    | false=>rw[hc] at h;cases h
    | true =>
      rw[hc] at h
      rw[aC] at hc
      simp only[cond_true] at h
      injection h with h
      exact gH.tail js (aG hc.1) hc.2 (ih _ _ h)
   ·rename_i id ops W fuel listed cs
    cases hc:(Nat.beq fuel js.length && (xD .any ops ⟨listed⟩ js && js.all fun j=>inW W j && (ops[j]?).isSome)) with
    | false=>rw[hc] at h;cases h
    | true =>
      rw[hc] at h
      rw[aC] at hc
      simp only[cond_true] at h
      injection h with h
      exact cW.aXD js (aG hc.1) hc.2 (ih _ _ h)
   ·cases h
 | eH i r0 b bo hf hfl k ih =>
   intro md st h
   unfold PT.walk PT.tree at h
   obtain ⟨md',dD,e,tr⟩:=eZ (P:=P) (n:=n) (stop:=eC) (k:=fun md st=>_) dW md st
   rw[e] at h
   refine tr _ ?_
   split at h
   ·rename_i id ops W fuel listed cs
    cases hc:(aBO ops (inW W) ⟨listed⟩ i && Nat.blt i ops.size) with
    | false=>rw[hc] at h;cases h
    | true =>
      rw[hc] at h
      simp only[cond_true] at h
      split at h
      ·rename_i f' oB t g b' hi
       rw[fC qV,fC kX] at h
       injection h with h1 h2 h3 h4 h5
       subst h1;subst h2;subst h3
       refine cW.aJq i bo r0 rfl hc hi hf hfl (fun r=>?_)
       have:=congrFun h5 r
       rw[fI] at this
       have e:(Array.mk listed).setIfInBounds i true=⟨listed.set i true⟩:=by simp
       rw[e]
       exact ih r _ _ this
      ·cases h
   ·cases h
 | fk i p ih =>
   intro md st h
   unfold PT.walk PT.tree at h
   obtain ⟨md',dD,e,tr⟩:=eZ (P:=P) (n:=n) (stop:=eC) (k:=fun md st=>_) dW md st
   rw[e] at h
   refine tr _ ?_
   split at h
   ·rename_i id ops W fuel listed cs
    cases hc:isL (Region.ready .any ops ⟨listed⟩) [i] with
    | false=>rw[hc] at h;cases h
    | true =>
      rw[hc] at h
      simp only[cond_true] at h
      injection h with h1
      refine cW.fork [i] (aBe (fuel:=fuel) hc rfl) (fun z hz=>?_)
      simp only[bA,List.not_mem_nil,or_false] at hz
      subst hz
      exact ih _ _ h1
   ·cases h
 | fk2 i j p q ihp ihq =>
   intro md st h
   unfold PT.walk PT.tree at h
   obtain ⟨md',dD,e,tr⟩:=eZ (P:=P) (n:=n) (stop:=eC) (k:=fun md st=>_) dW md st
   rw[e] at h
   refine tr _ ?_
   split at h
   ·rename_i id ops W fuel listed cs
    cases hc:isL (Region.ready .any ops ⟨listed⟩) [i,j] with
    | false=>rw[hc] at h;cases h
    | true =>
      rw[hc] at h
      simp only[cond_true] at h
      injection h with _ h1 h2
      refine cW.fork [i,j] (aBe (fuel:=fuel) hc rfl) (fun z hz=>?_)
      simp only[bA,List.not_mem_nil,or_false] at hz
      rcases hz with rfl | rfl
      ·exact ihp _ _ h1
      ·exact ihq _ _ h2
   ·cases h
 | fk3 i j k p q r ihp ihq ihr =>
   intro md st h
   unfold PT.walk PT.tree at h
   obtain ⟨md',dD,e,tr⟩:=eZ (P:=P) (n:=n) (stop:=eC) (k:=fun md st=>_) dW md st
   rw[e] at h
   refine tr _ ?_
   split at h
   ·rename_i id ops W fuel listed cs
    cases hc:isL (Region.ready .any ops ⟨listed⟩) [i,j,k] with
    | false=>rw[hc] at h;cases h
    | true =>
      rw[hc] at h
      simp only[cond_true] at h
      injection h with _ h1 h2
      injection h2 with _ h2 h3
      refine cW.fork [i,j,k] (aBe (fuel:=fuel) hc rfl) (fun z hz=>?_)
      simp only[bA,List.not_mem_nil,or_false] at hz
      rcases hz with rfl | rfl | rfl
      ·exact ihp _ _ h1
      ·exact ihq _ _ h2
      ·exact ihr _ _ h3
   ·cases h
 | fk4 i j k l p q r s ihp ihq ihr ihs =>
   intro md st h
   unfold PT.walk PT.tree at h
   obtain ⟨md',dD,e,tr⟩:=eZ (P:=P) (n:=n) (stop:=eC) (k:=fun md st=>_) dW md st
   rw[e] at h
   refine tr _ ?_
   split at h
   ·rename_i id ops W fuel listed cs
    cases hc:isL (Region.ready .any ops ⟨listed⟩) [i,j,k,l] with
    | false=>rw[hc] at h;cases h
    | true =>
      rw[hc] at h
      simp only[cond_true] at h
      injection h with _ h1 h2
      injection h1 with _ h0 h1
      injection h2 with _ h2 h3
      refine cW.fork [i,j,k,l] (aBe (fuel:=fuel) hc rfl) (fun z hz=>?_)
      simp only[bA,List.not_mem_nil,or_false] at hz
      rcases hz with rfl | rfl | rfl | rfl
      ·exact ihp _ _ h0
      ·exact ihq _ _ h1
      ·exact ihr _ _ h2
      ·exact ihs _ _ h3
   ·cases h
 | ckn vs hv k ih =>
   intro md st h
   unfold PT.walk PT.tree at h
   obtain ⟨md',dD,e,tr⟩:=eZ (P:=P) (n:=n) (stop:=eC) (k:=fun md st=>_) dW md st
   rw[e] at h
   refine tr _ ?_
   split at h
   ·rename_i id ops W j fuel listed cs
    split at h
    ·rename_i vs' md2 s hs
     rw[fI] at h
     injection h with h1 h2
     have:=aGg hs (ih _ _ h2)
     rwa [h1,xJ hv] at this
    ·cases h
   ·cases h
 | asm vs k ih =>
   intro md st h
   unfold PT.walk PT.tree at h
   injection h with h1 h2 h3
   exact l5.bW fun hv=>ih hv _ _ (congrFun h3 hv)
 | aMV om hf k ih =>
   intro md st h
   unfold PT.walk PT.tree at h
   obtain ⟨md',dD,e,tr⟩:=eZ (P:=P) (n:=n) (stop:=eC) (k:=fun md st=>_) dW md st
   rw[e] at h
   refine tr _ ?_
   split at h
   ·rename_i id ops W j fuel listed cs
    cases hc:(inW W j && Nat.blt j ops.size) with
    | false=>rw[hc] at h;cases h
    | true =>
      rw[hc] at h
      simp only[cond_true] at h
      split at h
      ·rename_i f' oB t hi
       rw[fC qV,fC aBc] at h
       injection h with h1 h2 h3 h4 h5
       subst h1;subst h2;subst h3
       refine eG.dA j om hc hi hf (fun r=>?_)
       have:=congrFun h5 r
       rw[fI] at this
       have e:(Array.mk listed).setIfInBounds j true=⟨listed.set j true⟩:=by simp
       rw[e]
       exact ih r _ _ this
      ·cases h
   ·cases h
 | all ks ops listed hint want ps k ih =>
   intro md st h
   unfold PT.walk PT.tree at h
   obtain ⟨md',dD,e,tr⟩:=eZ (P:=P) (n:=n) (stop:=eC) (k:=fun md st=>_) dW md st
   rw[e] at h
   refine tr _ ?_
   split at h
   ·rename_i id ops' fuel j6 cs
    injection h with _ h1 h2
    injection h1 with h1 _
    injection h1 with _ h1 h4 h5 _
    injection h2 with _ h2 h3
    rw[← h1,← h4,← h5] at h2
    exact gH.toX _ (aGj (ih _ _ h3) _ _ _ h2)
   ·rename_i id ops' W fuel j6 cs
    injection h with _ h1 h2
    injection h1 with h1 _
    injection h1 with _ h1 h4 h5 _
    injection h2 with _ h2 h3
    rw[← h1,← h4,← h5] at h2
    exact aGj (ih _ _ h3) _ _ _ h2
   ·cases h
 | @kn A T go ab R mc m k ih =>
   intro md st h
   unfold PT.walk PT.tree at h
   injection h with h1 h2 h3
   cases hm:mc with
   | none =>
     cases md <;> exact fun Γ S β a w hr x hx=>by cases hx
   | some r=>exact ih r hm _ _ (congrFun (congrFun h3 r) hm)
 | aUU om cs0 want hr =>
   intro md st h
   unfold PT.walk PT.tree at h
   obtain ⟨md',dD,e,tr⟩:=eZ (P:=P) (n:=n) (stop:=_) (k:=fun md st=>_) dW md st
   rw[e] at h
   refine tr _ ?_
   obtain ⟨s,hs,h⟩:=lE h (by intro h;cases h)
   injection h with h1 h2
   subst h1;subst h2
   exact Ref.keep _ _ hs hr
 | esc om cs0 want hr =>
   intro md st h
   unfold PT.walk PT.tree at h
   obtain ⟨md',dD,e,tr⟩:=eZ (P:=P) (n:=n) (stop:=_) (k:=fun md st=>_) dW md st
   rw[e] at h
   refine tr _ ?_
   obtain ⟨s,hs,h⟩:=lE h (by intro h;cases h)
   injection h with h1 h2
   subst h1;subst h2
   exact Ref.keep _ _ hs hr
 | aDx om id0 a5e l0 cs0 want hr =>
   intro md st h
   unfold PT.walk PT.tree at h
   obtain ⟨md',dD,e,tr⟩:=eZ (P:=P) (n:=n) (stop:=_) (k:=fun md st=>_) dW md st
   rw[e] at h
   refine tr _ ?_
   obtain ⟨s,hs,h⟩:=lE h (by intro h;cases h)
   injection h with h1 h2
   subst h1;subst h2
   exact eF.keep _ _ hs hr
abbrev PT.bk {A T:Type} {go:T→St} {ab:A→Ex × St} {U:Type} {m1:Option ((U ⊕ A) ⊕ U)} {m:U→Option (A ⊕ T)} (id:Nat) (tY:U→St) (p:PT P n (U ⊕ A) U tY (fun x=>match x with | .inl t=>(.exit id,tY t) | .inr a=>ab a) m1) (k:(t:U)→PT P n A T go ab (m t))
 (hid:∀ a,(ab a).1≠.exit id:=by intro a h;repeat' (first | (cases h;done) | (rcases a with a | a))):PT P n A T go ab (bP (bN m1) m):=.blk id tY hid p k
theorem Ref.pt {A T:Type} {go:T→St} {ab:A→Ex × St} {cs:List Code} {st:St} {m:Option (A ⊕ T)} (p:PT P n A T go ab m) (h:p.walk (.c cs) st=p.tree:=by kernel_rfl):Ref P n cs st m go ab:=p.sound _ _ h
def hl {P:Program} (l:List (Nat × Hn P)) (j:Nat):Hn P:=List.rec (motive:=fun _=>Hn P) (.no []) (fun p _ ih=>bif Nat.beq p.1 j then p.2 else ih) l
theorem bS.eq {P:Program} {f:FuncId} {c:List D} {x:List Go.Dl.Obj} {R:Type} {m m':Option R} {res:R→D} {o:R→List Go.Dl.Obj} (h:bS P f c x m res o) (e:m=m'):bS P f c x m' res o:=e ▸ h
abbrev PT.ap {A T:Type} {go:T→St} {ab:A→Ex × St} {m:Option (A ⊕ T)} {α:Type} (id rem o t:Nat) (E:El α) (a b:List α) (k:PT P n A T go ab m):PT P n A T go ab m:=.ob id rem o (El.jE E a b rfl rfl) (.sl id rem t (jR.app o a b) k)
theorem eF.pt {A T:Type} {go:T→St} {ab:A→Ex × St} {id:Nat} {ops:Array Oper} {l:List Oper} {cs:List Code} {st:St} {m:Option (A ⊕ T)} (p:PT P n A T go ab m) (h:p.walk (.r id ops l cs) st=p.tree:=by kernel_rfl):eF P n ops l cs st m go ab:=p.sound _ _ h
end
end
end Go.Dl

namespace Go.Dl
noncomputable section
variable [dK]
section
variable {P:Program} {n:Nat} {A T U R:Type} {go:T→St} {ab:A→Ex × St} {st dD:St} {m:Option (A ⊕ T)} {cs:List Code} {ops:Array Oper} {W:Nat→Bool}
theorem aK3 {Γ:j0} {S:Mem} {β:dF} {a:Act} {w:World} {o:Oper} {x:Operand} {args:Array Operand} {pN:Array TypeId} {f:FuncId} {cQ:List D} {g:List (Nat × Bool)}
 {mc:Option R} {res:R→D} {r:R} (hr:RR Γ S β a w n st)
 (l4:bS P f cQ [] mc res (fun _=>[])) (hh:st.holds g) (ho:o.op = .call ⟨.value x,args,pN⟩)
 (fT:jW st g x args.toList=some (f,cQ)) (hf:jV P f=true)
 (jB:cQ.all D.shut=true) (hm:mc=some r):xop P o a w fun v w'=>(∃ S' β',jJ S S'∧kE β β'∧Core Γ S' β' w' st.cA∧dL S' β' ((res r).mR [] st.cA.length) v)∧Up w w':=by
 unfold jW at fT
 split at fT
 ·rename_i f' k cap hx
  simp only[aA,aI] at fT
  obtain ⟨rfl,n8⟩:=fT
  have hh2:=hh
  have hxr:=gM hr hh2 x
  rw[hx] at hxr
  obtain ⟨vs,hxv,sV⟩:=qA hxr
  have hrun:(execOp a.eval o).run P w = .ok (.enter f' (args.map a.eval++vs)) w:=by
   unfold execOp
   rw[ho]
   simp only[resolve,hxv,Deferred.ofValue,pure_bind,invoke]
   rw[j5 hf]
   simp
  unfold xop
  simp only[hrun,sW]
  have hvm:∀ (l:List Operand),fQ S β (l.map (st.yY g).lv) (l.map a.eval):=by
   intro l
   induction l with
   | nil=>rfl
   | cons x l ih=>exact ⟨_,_,rfl,gM hr hh2 x,ih⟩
  have hargs:fQ S β cQ (args.map a.eval++vs).toList:=by
   rw[← n8]
   have e:(args.map a.eval++vs).toList=args.toList.map a.eval++vs.toList:=by simp
   rw[e]
   exact (hvm args.toList).append sV
  have hclosed:fQ S (fO β []) cQ (args.map a.eval++vs).toList:=fQ.shut jB hargs
  have hnd:mB []=true:=rfl
  have hlt:∀ x∈([]:List Nat),x<st.cA.length:=fun x hx=>by cases hx
  have fH:=hr.core.jO (om:=[]) hnd
  have vI:Core ⟨S,w,tW (fO β []) [],fO β []⟩ S (fO β []) w []:=by
   refine ⟨⟨rfl,rfl,rfl,aJ _,fun _ _ _=>rfl,fun _ _ _ _=>rfl,jJ.refl _,fH.aF1,fH.inv⟩,fH.holds,fH.cA,fH.out,fH.inj,fH.sep,fun o k y hy hl hk=>⟨(fH.mine o k y hy hl hk).1,fun _=>⟨o,k,y,hy,hl,hk,rfl⟩⟩⟩
  have:=l4 S (fO β []) w (args.map a.eval++vs).toList vI hclosed r hm
  have e2:(args.map a.eval++vs).toList.toArray=args.map a.eval++vs:=by simp
  rw[e2] at this
  refine this.mono fun e w' he=>?_
  obtain ⟨v,S',βc,rfl,hres,hB,mG⟩:=he
  obtain ⟨pL,hle⟩:=hr.core.after (om:=[]) hnd hlt mG (fun o k ho hk=>absurd ho (Nat.not_lt_zero _))
  rw[aB7] at pL
  have aBJ:dL S' (y7 β [] st.cA.length βc) ((res r).mR [] st.cA.length) v:=D.kV (fun i=>w8 hnd hlt i) hres
  have hnm:∀ b,¬ tW (fO β []) [] b:=by
   rintro b ⟨o,k,x,hx,_⟩
   simp at hx
  exact ⟨v,rfl,⟨S',_,mG.frame.le,hle,pL,aBJ⟩,⟨mG.frame.os,mG.frame.tape,mG.frame.output,mG.frame.size,fun b hb=>mG.frame.block b hb (hnm b)⟩⟩
 ·cases fT
theorem cW.aRf {o:Oper} {x:Operand} {args:Array Operand} {pN:Array TypeId} {t:Nat} {f:FuncId} {cQ:List D} {g:List (Nat × Bool)} {b:Bool}
 {mc:Option R} {res:R→D} {m:R→Option (A ⊕ T)} {fuel:Nat} {listed:Array Bool} (i:Nat) (r0:R)
 (l4:bS P f cQ [] mc res (fun _=>[])) (hi:ops[i]? = some o) (hone:Region.ready .any ops listed=[i]) (hWi:W i=false)
 (hg:guardOf ops o st=some g) (hb:iV st g=some b) (ho:o.op = .call ⟨.value x,args,pN⟩) (l3:o.dst=some t)
 (fT:jW st g x args.toList=some (f,cQ)) (hf:jV P f=true)
 (hn:(Nat.blt t n && (lP st t && g.all fun q=>!Nat.beq q.1 t))=true) (jB:cQ.all D.shut=true)
 (h:∀ r,cW P n ops W fuel (listed.setIfInBounds i true) cs (st.put (some t) ((res r).mR [] st.cA.length) st.cA g) (m r) go ab) :
 cW P n ops W (fuel+1) listed cs st ((cF b mc r0).bind m) go ab:=by
 intro Γ S β a w hr q hq
 simp only[aC,aM,aV] at hn
 obtain ⟨htn,hfree,hgt⟩:=hn
 have xA:∀ q∈g,q.1≠t:=fun q hq e=>by
  have:=hgt q hq
  rw[e] at this
  simp at this
 unfold uQ
 refine ⟨fun he=>absurd (hone.symm.trans he) (by simp),fun i' hi'=>?_⟩
 rw[hone] at hi'
 have hi':i'=i:=by simpa using hi'
 subst hi'
 unfold xOp
 rw[hWi]
 simp only[cond_false]
 unfold aAM
 simp only[hi]
 rcases aAs hr hg hb with ⟨rfl,hh,hw⟩ | ⟨rfl,hh,hw⟩
 ·simp only[cF,if_true] at hq
  cases hm:mc with
  | none=>rw[hm] at hq;cases hq
  | some r =>
    rw[hm,Option.bind_some] at hq
    rw[aH hw]
    refine xC (fun v w' ⟨⟨S',β',hle,hbl,mG,hv⟩,hup⟩=>⟨hup,fun w'' zA=>?_⟩) (aK3 hr l4 hh ho fT hf jB hm)
    have hput:=hr.put mG hle hbl htn hfree xA (fun _=>hv) (fun hno=>absurd hh hno)
    rw[l3]
    exact h r Γ S' β' _ w'' (hput.up zA) q hq
 ·simp only[cF,aQ,if_false,Option.bind_some] at hq
  rw[aF (by rw[hw];simp)]
  intro w' jN
  have hput:=(hr.up jN).put (d:=(res r0).mR [] st.cA.length) (v:=undef) (hr.up jN).core (jJ.refl _) (kE.refl _) htn hfree xA (fun hy=>absurd hy hh) (fun _=>rfl)
  rw[l3]
  exact h r0 Γ S β _ w' hput q hq
theorem cW.aMZ (i:Nat) {fuel fuel':Nat} {listed:Array Bool} {f:FuncId} {cQ:List D} {t:Nat} {g:List (Nat × Bool)} {b:Bool} {mc:Option R} {res:R→D} {m:R→Option (A ⊕ T)} (r0:R)
 (rR:fuel=fuel'+1) (hone:(decide (Region.ready .any ops listed=[i]) && (!W i && Nat.blt i ops.size))=true) (hi:jX P n ops (jP ops.toList i) st []=some ⟨f,cQ,t,g,b⟩) (l4:bS P f cQ [] mc res (fun _=>[]))
 (h:∀ r,cW P n ops W fuel' (listed.setIfInBounds i true) cs (st.put (some t) ((res r).mR [] st.cA.length) st.cA g) (m r) go ab):cW P n ops W fuel listed cs st ((cF b mc r0).bind m) go ab:=by
 simp only[aC,aB,aP] at hone
 subst rR
 unfold jX at hi
 split at hi
 ·rename_i x args pN t' g' oW hop hd hg hfr
  simp only[St.mI,aA] at hfr
  subst hfr
  split at hi
  ·rename_i b' f' oB hb hca
   obtain ⟨hc,hi⟩:=bU hi
   simp only[aA,sY.mk.injEq] at hi
   obtain ⟨rfl,rfl,rfl,rfl,rfl⟩:=hi
   simp only[aC] at hc
   have hlt:i<ops.size:=by simpa [aV] using hone.2.2
   have kU:ops[i]? = some (jP ops.toList i):=by
    simp [jP,List.getD,hlt]
   exact cW.aRf i r0 l4 kU hone.1 hone.2.1 hg hb hop hd hca hc.1 (by simp only[aC];exact hc.2.2) hc.2.1 h
  ·cases hi
 ·cases hi
end
end
end Go.Dl

namespace Go.Dl
variable [dK]
open Go.RowKit
abbrev Wd (l:Nat):Fence:=Fence.wide.inRound l
def pH (ops:Array Oper):Bool:=ops.toList.all fun o=>match o.op with
 | .defer _=>false
 | _=>true
theorem aB8 {ops:Array Oper} (h:pH ops=true) {o:Oper} (ho:o∈ops.toList) (c:Call):o.op≠.defer c:=by
 unfold pH at h
 have:=aM.1 h o ho
 intro e;rw[e] at this;cases this
section
variable {P:Program} {ops:Array Oper} {Q:Exit→Act→World→Prop}
theorem aDy (l k:Nat) {f:FuncId} {args:Array Value} {w:World} {R:Ending→World→Prop} (h:Calls P f args w R):CallsIn (Wd l) k P f args w R :=
 CallsIn.inRound l (callsIn_wide.2 h)
theorem aEQ (l k:Nat) {r:String} {args:Array Value} {w:World} {R:Value→World→Prop} (h:Rows P r args w R):RowsIn (Wd l) k P r args w R :=
 fun c cs _=>let ⟨v,w',hr,s⟩:=h c cs;⟨v,w',hr,by rw[fenced_inRound];exact stepsIn_wide.2 s⟩
theorem wpI {o:Oper} {a:Act} {w:World} {K:Act→World→Prop} (l k:Nat) (hd:∀ c,o.op≠.defer c) (hQ:¬ LetsOut Q) (h:o.wp P a w K Q):o.wpIn (Wd l) k P a w K Q:=by
 refine ⟨fun f _=>trivial,?_⟩
 rw[show o.semAt (Wd l).round a.eval=execOp a.eval o from Oper.semAt_eq _ _ _ hd]
 unfold Oper.wp at h
 generalize (execOp a.eval o).run P w=r at *
 cases r with
 | ok n w' =>
   cases n <;> simp only[Oper.upon] at h <;> simp only[Oper.uponIn]
   all_goals first
    | exact h
    | exact ⟨fun h=>by simp [Fence.wide] at h,aDy l _ h⟩
    | exact ⟨fun h=>by simp [Fence.wide] at h,aEQ l _ h⟩
 | halt x w'=>cases x <;> simp only[Oper.upon] at h <;> simp only[Oper.uponIn] <;> exact h
theorem aER (l k:Nat) (hQ:¬ LetsOut Q) (hn:pH ops=true):∀ {os:List Oper} {a:Act} {w:World},(∀ o∈os,o∈ops.toList)→wpList P ops Q os a w→wpListIn (Wd l) k P ops Q os a w
 | [],_,_,_,h=>h
 | o::os,a,w,ho,h=>by
   unfold wpList at h
   unfold wpListIn
   split
   ·rename_i hw
    rw[aH hw] at h
    rcases h with h | h
    ·exact Oper.wpIn_mono (fun a' w' h'=>aER l k hQ hn (fun o' h'=>ho o' (aT _ h')) h') (wpI l k (aB8 hn (ho o (bH ..))) hQ h)
    ·exact absurd h.2 hQ
   ·rename_i hw
    rw[aF hw] at h
    exact ⟨fun f _=>trivial,aER l k hQ hn (fun o' h'=>ho o' (aT _ h')) h⟩
theorem aES (l k:Nat) (hQ:¬ LetsOut Q) (hn:pH ops=true) {md:Region.Mode}:∀ (fuel:Nat) (listed:Array Bool) (a:Act) (w:World),wpAny P md ops Q fuel listed a w→wpAnyIn (Wd l) k P md ops Q fuel listed a w
 | 0,_,_,_,h=>h
 | fuel+1,listed,a,w,h=>by
   refine ⟨h.1,fun i hi=>?_⟩
   have hh:=h.2 i hi
   unfold wpOp at hh
   unfold wpOpIn
   split
   ·rename_i ho;rw[ho] at hh;exact aES l k hQ hn fuel _ a w hh
   ·rename_i o ho
    rw[ho] at hh
    simp only at hh
    have hm:o∈ops.toList:=by
     obtain ⟨hlt,e⟩:=Array.getElem?_eq_some_iff.1 ho
     rw[← e];simp
    split
    ·rename_i hw
     rw[aH hw] at hh
     rcases hh with hh | hh
     ·exact Oper.wpIn_mono (fun a' w' h'=>aES l k hQ hn fuel _ a' w' h') (wpI l k (aB8 hn hm) hQ hh)
     ·exact absurd hh.2 hQ
    ·rename_i hw
     rw[aF hw] at hh
     exact ⟨fun f _=>trivial,aES l k hQ hn fuel _ _ w hh⟩
end
def fL (P:Program) (n:Nat) {A T:Type} (c:Code) (st:St) (m:Option (A ⊕ T)) (go:T→St) (ab:A→Ex × St):Prop :=
 ∀ l k Γ S β a w,RR Γ S β a w n st→∀ x,m=some x→c.wpIn (Wd l) k P (Post Γ n go ab x) a w
section
variable {P:Program} {n:Nat} {A T U:Type} {go:T→St} {ab:A→Ex × St} {st:St} {m:Option (A ⊕ T)}
theorem aD2 {Γ:j0} {x:A ⊕ T}:¬ LetsOut (Post Γ n go ab x):=by
 rintro ⟨a,w,h⟩
 cases x with
 | inl t=>obtain ⟨h1,_⟩:=h;cases hx:(ab t).1 <;> rw[hx] at h1 <;> cases h1
 | inr t=>cases h.1
theorem aGk {Γ:j0} {x:A ⊕ T}:Exit.then (wpL P [] (Post Γ n go ab x)) (Post Γ n go ab x)=Post Γ n go ab x:=by
 funext e a w;cases e <;> rfl
theorem fL.region {id:Nat} {ops:Array Oper} (hn:pH ops=true) (h:eF P n ops ops.toList [] st m go ab):fL P n (.region id ops false) st m go ab:=by
 intro l k Γ S β a w hr x hx
 have hh:=h Γ S β a w hr x hx
 rw[aGk] at hh
 exact wpIn_region_list (aER l k aD2 hn (fun o h=>h) hh)
theorem fL.drawn {id:Nat} {ops:Array Oper} (hn:pH ops=true) (hm:P.follows .mixedOrders=true) (h:gH P n ops ops.size (Array.replicate ops.size false) [] st m go ab):fL P n (.region id ops true) st m go ab:=by
 intro l k Γ S β a w hr x hx
 have hh:=h Γ S β a { w with drawn:=w.drawn+1 } ⟨hr.core.drew,hr.tm,hr.un,hr.size,hr.defers,hr.hand⟩ x hx
 rw[aGk] at hh
 exact wpIn_region_any hm (aES l k aD2 hn _ _ _ _ hh)
theorem fL.rp {id:Nat} {ops:Array Oper} {m':Option (A ⊕ T)} (p:PT P n A T go ab m') (e:m'=m) (hn:pH ops=true:=by kernel_rfl) (h:p.walk (.r id ops ops.toList []) st=p.tree:=by kernel_rfl):fL P n (.region id ops false) st m go ab :=
 e ▸ fL.region hn (p.sound _ _ h)
theorem fL.dp {id:Nat} {ops:Array Oper} {m':Option (A ⊕ T)} (p:PT P n A T go ab m') (e:m'=m) (hn:pH ops=true:=by kernel_rfl) (hm:P.follows .mixedOrders=true:=by kernel_rfl)
 (h:p.walk (.y id ops ops.size (List.replicate ops.size false) []) st=p.tree:=by kernel_rfl):fL P n (.region id ops true) st m go ab :=
 e ▸ fL.drawn hn hm (p.sound _ _ h)
theorem fL.skip (t:T) (h:go t=st):fL P n .skip st (some (.inr t)) go ab:=by
 intro l k Γ S β a w hr x hx
 cases hx
 exact wpIn_skip ⟨rfl,S,β,by rw[h];exact hr⟩
theorem fL.exit {id:Nat} (t:A) (h:ab t=(.exit id,st)):fL P n (.exit id) st (some (.inl t)) go ab:=by
 intro l k Γ S β a w hr x hx
 cases hx
 exact wpIn_exit ⟨by rw[h];rfl,S,β,by rw[h];exact hr⟩
theorem fL.keep {c:Code} (l om:List Nat) (dD:St) (h:fL P n c dD m go ab) (hk:st.keep l om=some dD:=by kernel_rfl):fL P n c st m go ab :=
 fun i k Γ S β a w hr x hx=>h i k Γ S _ a w (gB hr hk) x hx
theorem fL.seq {c d:Code} {tY:U→St} {m1:Option (A ⊕ U)} {m2:U→Option (A ⊕ T)} (h1:fL P n c st m1 tY ab) (h2:∀ t,fL P n d (tY t) (m2 t) go ab):fL P n (.seq c d) st (bP m1 m2) go ab:=by
 intro l k Γ S β a w hr q hq
 cases hm:m1 with
 | none=>rw[hm] at hq;cases hq
 | some z =>
   rw[hm] at hq
   refine wpIn_seq (wpIn_mono (h1 l k Γ S β a w hr z hm) fun e a' w' he=>?_)
   cases z with
   | inl t =>
     simp only[bP,aA] at hq
     subst hq
     obtain ⟨vG,S',β',hr'⟩:=he
     have p9:Post Γ n go ab (.inl t) e a' w':=⟨vG,S',β',hr'⟩
     cases hx:(ab t).1 <;> (rw[hx] at vG;subst vG;exact p9)
   | inr u =>
     obtain ⟨rfl,S',β',hr'⟩:=he
     exact h2 u l k Γ S' β' a' w' hr' q hq
theorem fL.cond {c:Operand} {x y:Code} {b:Bool} {m1 m2:Option (A ⊕ T)} (hb:st.lv c = .c (.val (.bool b))) (hg:st.gd=[]) (h1:b=true→fL P n x st m1 go ab) (h2:b=false→fL P n y st m2 go ab) :
 fL P n (.cond c x y) st (if b=true then m1 else m2) go ab:=by
 intro l k Γ S β a w hr q hq
 have he:=aAY hr hg hb
 refine wpIn_cond he ?_
 cases b with
 | true =>
   rw[aH rfl] at hq
   exact h1 rfl l k Γ S β a w hr q hq
 | false =>
   rw[aF (by simp)] at hq
   exact h2 rfl l k Γ S β a w hr q hq
theorem fL.block {id:Nat} {c:Code} {m1:Option ((T ⊕ A) ⊕ T)}
 (h1:fL P n c st m1 go (fun x=>match x with | .inl t=>(.exit id,go t) | .inr a=>ab a)) (hid:∀ a,(ab a).1≠.exit id):fL P n (.block id c) st (bN m1) go ab:=by
 intro l k Γ S β a w hr q hq
 cases hm:m1 with
 | none=>rw[hm] at hq;cases hq
 | some z =>
   rw[hm] at hq
   refine wpIn_block (wpIn_mono (h1 l k Γ S β a w hr z hm) fun e a' w' he=>?_)
   cases z with
   | inl t =>
     cases t with
     | inl u =>
       simp only[bN,aA] at hq
       subst hq
       obtain ⟨rfl,S',β',hr'⟩:=he
       show Exit.inBlock id _ (.exit id) a' w'
       simp only[Exit.inBlock,if_true]
       exact ⟨rfl,S',β',hr'⟩
     | inr t =>
       simp only[bN,aA] at hq
       subst hq
       obtain ⟨vG,S',β',hr'⟩:=he
       have vG:e=(ab t).1.out:=vG
       have p9:Post Γ n go ab (.inl t) e a' w':=⟨vG,S',β',hr'⟩
       have hi:=hid t
       cases hx:(ab t).1 with
       | exit i2 =>
         rw[hx] at vG hi
         subst vG
         have hne:i2≠id:=fun e=>hi (by rw[e])
         show Exit.inBlock id _ (.exit i2) a' w'
         simp only[Exit.inBlock,hne,if_false]
         exact p9
       | _=>rw[hx] at vG;subst vG;exact p9
   | inr u =>
     simp only[bN,aA] at hq
     subst hq
     obtain ⟨rfl,S',β',hr'⟩:=he
     exact ⟨rfl,S',β',hr'⟩
theorem aTu {body:Code} {hd:T→St} {f:T→Option (A ⊕ T)} {Γ:j0} {go:U→St} (hb:∀ t,fL P n body (hd t) (f t) hd ab) (l k:Nat) :
 ∀ (j:Nat) (t:T) (x:A) (S:Mem) (β:dF) (a:Act) (w:World),RR Γ S β a w n (hd t)→iter j f t=some x→Code.roundsIn (Wd l) k P body (Post Γ n go ab (.inl x)) j a w
 | 0,t,x,S,β,a,w,hr,h=>by cases h
 | j+1,t,x,S,β,a,w,hr,h=>by
   unfold iter at h
   rw[roundsIn_succ]
   cases hf:f t with
   | none=>rw[hf] at h;cases h
   | some z =>
     rw[hf] at h
     refine wpIn_mono (hb t l k Γ S β a w hr z hf) fun e a' w' he=>?_
     cases z with
     | inl y =>
       simp only[aA] at h
       subst h
       obtain ⟨vG,S',β',hr'⟩:=he
       have p9:Post Γ n go ab (.inl y) e a' w':=⟨vG,S',β',hr'⟩
       cases hx:(ab y).1 <;> (rw[hx] at vG;subst vG;exact p9)
     | inr t' =>
       obtain ⟨rfl,S',β',hr'⟩:=he
       exact aTu hb l k j t' x S' β' a' w' hr' h
theorem fL.loop {body:Code} {hd:U→St} {f:U→Option (A ⊕ U)} (j:Nat) (t0:U) (h0:hd t0=st) (hb:∀ t,fL P n body (hd t) (f t) hd ab) :
 fL P n (.loop body) st ((iter j f t0).map .inl) go ab:=by
 intro l k Γ S β a w hr q hq
 cases hi:iter j f t0 with
 | none=>rw[hi] at hq;cases hq
 | some x =>
   rw[hi] at hq
   simp only[Option.map_some,aA] at hq
   subst hq
   subst h0
   exact wpIn_mono (wpIn_loop_rounds j (aTu (go:=go) hb l k j t0 x S β a w hr hi)) fun e a' w' h=>h
theorem put_defers (a:Act) (ds:List Deferred) (d:Option Tmp) (v:Value):({ a with defers:=ds }:Act).put d v={ a.put d v with defers:=ds }:=by cases d <;> rfl
theorem wM {ops:Array Oper} {Q:Exit→Act→World→Prop} {rest:List Oper} (ds:List Deferred):∀ {l:List Oper} {Γ:j0} {S:Mem} {β:dF} {a:Act} {w:World} {st dD:St} {vs:List Bool},
 RR Γ S β a w n st→iH P n ops l st=some (vs,dD)→(∀ b∈vs,b=true) →
 (∀ a' w' S' β',RR Γ S' β' a' w' n dD→wpList P ops Q rest { a' with defers:=ds } w')→wpList P ops Q (l++rest) { a with defers:=ds } w
 | [],_,_,_,_,_,_,_,_,h,he,_,hk=>by
   simp only[iH,aA,aI] at he
   obtain ⟨_,rfl⟩:=he
   exact hk _ _ _ _ h
 | o::l,Γ,S,β,a,w,_,_,_,h,he,hvs,hk=>by
   unfold iH at he
   split at he
   ·rename_i v st1 h1
    split at he
    ·rename_i vs2 oW h2
     simp only[aA,aI] at he
     obtain ⟨rfl,rfl⟩:=he
     have go:∀ a' w' S' β',RR Γ S' β' a' w' n st1→wpList P ops Q (l++rest) { a' with defers:=ds } w':=fun a' w' S' β' h' =>
      wM ds h' h2 (fun b hb=>hvs b (List.mem_append_right _ hb)) hk
     rcases jF h h1 (fun b hb=>hvs b (bJ _ hb)) with ⟨hw,v',w',S',β',hr,nB,_⟩ | ⟨hw,nB⟩
     ·show wpList P ops Q (o::(l++rest)) _ w
      have jN:Region.wanted o (yielded ops ({ a with defers:=ds }:Act).tmps)=true:=hw
      simp only[wpList,jN,if_true]
      left
      have rN:=go _ _ _ _ nB
      have ev:(execOp ({ a with defers:=ds }:Act).eval o)=execOp a.eval o:=rfl
      rcases hr with hr | ⟨hr,rfl⟩
      ·simp only[Oper.wp,ev,Oper.upon,hr,put_defers]
       exact rN
      ·simp only[Oper.wp,ev,Oper.upon,hr,put_defers]
       exact rN
     ·show wpList P ops Q (o::(l++rest)) _ w
      have jN:Region.wanted o (yielded ops ({ a with defers:=ds }:Act).tmps)=false:=hw
      simp only[wpList,jN,aQ,if_false,put_defers]
      exact go _ _ _ _ nB
    ·cases he
   ·cases he
theorem Frame.trans {Γ:j0} {S S':Mem} {w w':World} {M:Nat→Prop} {B:dF} (h:Frame Γ S w) (k:Frame ⟨S,w,M,B⟩ S' w') (hM:∀ b,b<Γ.w.heap.size→M b→Γ.M b):Frame Γ S' w' where
 os:=k.os.trans h.os
 tape:=k.tape.trans h.tape
 output:=k.output.trans h.output
 size:=aR h.size k.size
 block:=fun b hb hn=>(k.block b (bF hb h.size) (fun hm=>hn (hM b hb hm))).trans (h.block b hb hn)
 mem:=fun b i hb hn=>(k.mem b i (bF hb h.size) (fun hm=>hn (hM b hb hm))).trans (h.mem b i hb hn)
 le:=h.le.trans k.le
 aDh:=h.aDh
 inv:=h.inv
theorem Core.aMh {Γ:j0} {S:Mem} {β:dF} {w:World} {xs:List Obj} (h:Core Γ S β w xs):Core ⟨S,w,tW β xs,β⟩ S β w xs where
 frame:=⟨rfl,rfl,rfl,aJ _,fun _ _ _=>rfl,fun _ _ _ _=>rfl,jJ.refl _,h.aF1,h.inv⟩
 holds:=h.holds
 cA:=h.cA
 out:=h.out
 inj:=h.inj
 sep:=h.sep
 mine:=fun o k x hx hl hk=>⟨(h.mine o k x hx hl hk).1,fun _=>⟨o,k,x,hx,hl,hk,rfl⟩⟩
theorem Core.aMi {Γ:j0} {S S':Mem} {β β' B:dF} {w w':World} {xs ys:List Obj} (h:Core Γ S β w xs) (k:Core ⟨S,w,tW β xs,B⟩ S' β' w' ys):Core Γ S' β' w' ys where
 frame:=h.frame.trans k.frame fun b hb ⟨o,q,x,hx,hl,hk,e⟩=>e ▸ (h.mine o q x hx hl hk).2 (e ▸ hb)
 holds:=k.holds
 cA:=k.cA
 out:=k.out
 inj:=k.inj
 sep:=k.sep
 mine:=fun o q x hx hl hk=>by
  obtain ⟨h1,h2⟩:=k.mine o q x hx hl hk
  refine ⟨h1,fun hb=>?_⟩
  obtain ⟨o',q',x',hx',hl',hk',e⟩:=h2 (bF hb h.frame.size)
  exact e ▸ (h.mine o' q' x' hx' hl' hk').2 (e ▸ hb)
def aDO:Obj→Bool
 | .map ..=>false
 | _=>true
theorem Core.grown {Γ:j0} {S:Mem} {β:dF} {w w':World} {xs:List Obj} {row:Option Nat} (h:Core Γ S β w xs) (hx:xs.all aDO=true) (g:w.grownBy w' row)
 (hr:∀ r,row=some r→Γ.w.heap.size≤r∧∃ o:Go.Obj,w.heap[r]? = some o∧o.isCells=false):Core Γ S β w' xs where
 frame:=⟨g.os.trans h.frame.os,g.tape.trans h.frame.tape,g.output.trans h.frame.output,aR h.frame.size g.size,
  fun b hb hn=>(g.block b (bF hb h.frame.size) (fun e=>by have:=(hr b e.symm).1;omega)).trans (h.frame.block b hb hn),h.frame.mem,h.frame.le,h.frame.aDh,h.frame.inv⟩
 holds:=fun b i v hs=>by
  obtain ⟨h1,h2⟩:=h.holds b i v hs
  exact ⟨cell_kept h1 g fun r e=>(hr r e).2,h2⟩
 cA:=fun o x ho=>by
  have hh:=h.cA o x ho
  have hn:aDO x=true:=aM.1 hx x (bI ho)
  have keep:∀ {b:Nat} {c:Array Value} {t:TypeId} {z:Nat × Nat},w.heap[b]? = some (.cells c t z)→w'.heap[b]? = some (.cells c t z):=fun hb =>
   (grownBy_keeps_cells g (fun r e=>(hr r e).2) hb rfl).trans hb
  cases x with
  | dead=>trivial
  | cells l =>
    obtain ⟨k,h1,h2,h3,h4,vs,h5,h6⟩:=hh
    exact ⟨k,h1,h2,h3,h4,vs,keep h5,h6⟩
  | row e wd n get =>
    rcases hh with hh | ⟨k,h1,h2,h3,h4,h5,h6,cur,h7,h8⟩
    ·exact .inl hh
    ·exact .inr ⟨k,h1,h2,h3,h4,h5,h6,cur,keep h7,h8⟩
  | aAH e bs =>
    obtain ⟨k,h1,h2,h3,h4,h5,h6,cur,fz,h7,h8⟩:=hh
    exact ⟨k,h1,h2,h3,h4,h5,h6,cur,fz,keep h7,h8⟩
  | map z has get=>cases hn
 out:=h.out
 inj:=h.inj
 sep:=h.sep
 mine:=fun o k x ho hl hk=>⟨bF (h.mine o k x ho hl hk).1 g.size,(h.mine o k x ho hl hk).2⟩
def aDi (Γ:j0) (t:Tmp) (d:D):Exit→Act→World→Prop:=fun e a w=>e = .ret ∧
 (a.defers=[]∨∃ D,a.defers=[{ target:=.collected D,args:=#[] }]∧Γ.w.heap.size≤D∧w.heap[D]? = some (.deferred (some []))) ∧
 ∃ S' β',Core Γ S' β' w []∧dL S' β' d (a.tmps.getD t undef)
theorem aRg {fn:Func} {args:List D} {S:Mem} {β:dF} {w:World} {vs:List Value} (hc:Core ⟨S,w,tW β [],β⟩ S β w []) (hv:fQ S β args vs) (hn:args.length≤fn.ntmps) :
 RR ⟨S,w,tW β [],β⟩ S β { tmps:=vs.toArray++Array.replicate (fn.ntmps - vs.toArray.size) undef,defers:=[] } w fn.ntmps ⟨aEz args 0,[],[],0⟩:=by
 obtain ⟨hvl,hvg⟩:=hv.get
 refine ⟨hc,fun t _=>?_,fun t ht=>absurd (fun q hq=>by cases hq) ht,by simp;omega,rfl,fun o k _ h=>h⟩
 unfold St.get
 simp only
 rw[aBF]
 by_cases ht:t<args.length
 ·rw[aH (by omega)]
  obtain ⟨u,hu,hru⟩:=hvg t _ (aE ht)
  have e1:args.getD (t - 0) (.c .bot)=args[t]:=by simp [List.getD,aE ht]
  have e2:(vs.toArray++Array.replicate (fn.ntmps - vs.toArray.size) undef).getD t undef=u:=by
   rw[aN,Array.getElem?_append_left (by simp;omega)]
   simp [hu]
  rw[e1,e2];exact hru
 ·rw[aF (by omega)];trivial
theorem bS.aMl {f:FuncId} {fn:Func} {c:Code} {R:Type} {args:List D} {m:Option R} {res:R→D} (t:Tmp)
 (hf:P.funcs[f]? = some fn) (hb:fn.body=some c) (hn:Nat.ble args.length fn.ntmps=true) (hrs:fn.results = #[.tmp t])
 (h:∀ r,m=some r→∀ Γ S β a w,RR Γ S β a w fn.ntmps ⟨aEz args 0,[],[],0⟩→c.wp P (aDi Γ t (res r)) a w):bS P f args [] m res (fun _=>[]):=by
 intro S β w vs hc hv r hr
 have hn:=aY hn
 refine callsIn_wide.1 (callsIn_of_wp_marks (F:=Fence.wide) (n:=9) hf hb trivial (wpIn_wide.2 (Code.wp_mono (fun e a w' he=>?_) (h r hr _ S β _ w (aRg hc hv hn)))) rfl)
 obtain ⟨rfl,hd,S',β',fH,hrel⟩:=he
 have hres:∀ w'',(results fn a.tmps).run P w'' = .ok (a.tmps.getD t undef) w'':=fun w''=>aAm hrs a w'' rfl
 show LeavesInM Fence.wide 9 P fn a.tmps _ a.defers .returning w'
 rcases hd with hd | ⟨D,hd,hD,hK⟩
 ·rw[hd]
  exact ⟨_,hres w',_,S',β',rfl,hrel,fun o k ho _=>by simp at ho,fH⟩
 ·rw[hd]
  refine ⟨by simp,.inl ⟨_,_,rfl,run_takeDeferred hK,?_⟩⟩
  exact ⟨_,hres _,_,S',β',rfl,hrel,fun o k ho _=>by simp at ho,fH.grown rfl (grownBy_putObj' w' D _) fun r e=>by cases e;exact ⟨hD,_,hK,rfl⟩⟩
theorem Ref.at {c:Code} {t:T} {Γ:j0} {S:Mem} {β:dF} {a:Act} {w:World} {Q:Exit→Act→World→Prop} (h:Ref P n [c] st (some (.inr t)) go ab) (hr:RR Γ S β a w n st)
 (hk:∀ a' w' S' β',RR Γ S' β' a' w' n (go t)→Q .normal a' w'):c.wp P Q a w:=by
 refine Code.wp_mono (fun e a' w' he=>?_) (h Γ S β a w hr _ rfl)
 have he':Post Γ n go ab (.inr t) e a' w':=by cases e <;> exact he
 obtain ⟨rfl,S',β',hr'⟩:=he'
 exact hk a' w' S' β' hr'
theorem lJ {c x y:Code} {a:Act} {w:World} {Q:Exit→Act→World→Prop} (h:c = .seq x y) (hx:x.wp P (Exit.then (y.wp P Q) Q) a w):c.wp P Q a w:=by rw[h];exact wp_seq hx
end
end Go.Dl
