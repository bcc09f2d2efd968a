/- No conditions. -/
import Derived.Test.YtdbfbedholdjaaaGreatHDC
import Derived.RangeFuncWrites
import Derived.RangeFuncLeaves
import Derived.RangeFuncCalls
import Derived.OrdersIn
import Derived.TacticsIn
import Derived.LoopNIn
set_option linter.unusedVariables false
set_option linter.unusedSimpArgs false
set_option linter.unusedSectionVars false
namespace Go.Dl
noncomputable section
variable [dO]
section
variable {P:Program} {n:Nat} {A T U R:Type} {go:T→St} {ab:A→Ex × St} {st dD:St} {m:Option (A ⊕ T)} {cs:List Code} {c:Code}
theorem aCv (b:Nat):∀ (l:List Obj) (k:Nat),pU [] b [] l k=l
 | [],_=>rfl
 | x::r,k=>by
   show x::pU [] b [] r (k+1)=x::r
   rw[aCv b r (k+1)]
theorem aCw (l:List Obj):lR [] [] l=l:=by
 unfold lR
 rw[aCv]
 simp
theorem eO.a0v {ops:Array Oper} {o:Oper} {rest:List Oper} {x:Operand} {args:Array Operand} {pS:Array TypeId} {t:Nat} {f:FuncId} {cR:List D} {g:List (Nat × Bool)} {b:Bool}
 {mc:Option R} {res:R→D} {m:R→Option (A ⊕ T)} (r0:R)
 (lZ:bV P f cR [] mc res (fun _=>[])) (hg:guardOf ops o st=some g) (hb:iW st g=some b) (ho:o.op = .call ⟨.value x,args,pS⟩) (lY:o.dst=some t)
 (fX:jY st g x args.toList=some (f,cR)) (hf:jX P f=true)
 (hn:(Nat.blt t n && (lQ st t && g.all fun q=>!Nat.beq q.1 t))=true) (jA:cR.all D.shut=true)
 (h:∀ r,eO P n ops rest cs (st.put (some t) ((res r).mU [] st.cC.length) st.cC g) (m r) go ab) :
 eO P n ops (o::rest) cs st ((cE b mc r0).bind m) go ab:=by
 intro Γ S β a w hr q hq
 simp only[aC,aN,aW] at hn
 obtain ⟨htn,hfree,hgt⟩:=hn
 have xU:∀ q∈g,q.1≠t:=fun q hq e=>by
  have:=hgt q hq
  rw[e] at this
  simp at this
 by_cases hh:st.holds g
 ·have hbt:=mS hb hh
  subst hbt
  simp only[cE,if_true] at hq
  have xV:Region.wanted o (yielded ops a.tmps)=true:=by
   unfold guardOf at hg
   cases hgd:o.guard with
   | none=>simp [Region.wanted,hgd]
   | some jw =>
     obtain ⟨j,want⟩:=jw
     rw[hgd] at hg
     dsimp only at hg
     cases tC:(ops[j]?).bind (·.dst) with
     | none=>rw[tC] at hg;cases hg
     | some tj =>
       rw[tC] at hg
       simp only[aA] at hg
       subst hg
       have hrel:=hr.tm tj (fun q hq=>hh q (aT _ hq))
       have hxw:=hh (tj,want) (by simp)
       simp only at hxw
       rw[hxw] at hrel
       have hval:a.tmps.getD tj undef = .bool want:=hrel
       have hsome:a.tmps[tj]? = some (.bool want):=by
        rw[aO] at hval
        cases hq:a.tmps[tj]? with
        | none=>rw[hq] at hval;cases hval
        | some u=>rw[hq] at hval;simp only[Option.getD_some] at hval;rw[hval]
       have gX:yielded ops a.tmps j=some want:=by
        unfold yielded
        rw[tC]
        show (match a.tmps[tj]? with | some (.bool b)=>some b | _=>none)=some want
        rw[hsome]
       simp only[Region.wanted,hgd,gX]
       simp
  cases hm:mc with
  | none=>rw[hm] at hq;cases hq
  | some r =>
    rw[hm,Option.bind_some] at hq
    simp only[wpList,xV,if_true]
    left
    unfold jY at fX
    split at fX
    ·rename_i f' k cap hx
     simp only[aA,aI] at fX
     obtain ⟨rfl,oD⟩:=fX
     have hh2:=hh
     have hxr:=gN hr hh2 x
     rw[hx] at hxr
     obtain ⟨vs,hxv,tE⟩:=qG hxr
     have hrun:(execOp a.eval o).run P w = .ok (.enter f' (args.map a.eval++vs)) w:=by
      unfold execOp
      rw[ho]
      simp only[resolve,hxv,Deferred.ofValue,pure_bind,invoke]
      rw[kA hf]
      simp
     simp only[Oper.wp,Oper.upon,hrun]
     have hvm:∀ (l:List Operand),fT S β (l.map (st.zN g).lv) (l.map a.eval):=by
      intro l
      induction l with
      | nil=>rfl
      | cons x l ih=>exact ⟨_,_,rfl,gN hr hh2 x,ih⟩
     have hargs:fT S β cR (args.map a.eval++vs).toList:=by
      rw[← oD]
      have e:(args.map a.eval++vs).toList=args.toList.map a.eval++vs.toList:=by simp
      rw[e]
      exact (hvm args.toList).append tE
     have hclosed:fT S (fQ β []) cR (args.map a.eval++vs).toList:=fT.shut jA hargs
     have hnd:mD []=true:=rfl
     have hlt:∀ x∈([]:List Nat),x<st.cC.length:=fun x hx=>by cases hx
     have fL:=hr.core.jP (om:=[]) hnd
     have vY:Core ⟨S,w,uG (fQ β []) [],fQ β []⟩ S (fQ β []) w []:=by
      refine ⟨⟨rfl,rfl,rfl,aM _,fun _ _ _=>rfl,fun _ _ _ _=>rfl,jL.refl _,fL.aGD,fL.inv⟩,fL.holds,fL.cC,fL.out,fL.inj,fL.sep,fun o k y hy hl hk=>⟨(fL.mine o k y hy hl hk).1,fun _=>⟨o,k,y,hy,hl,hk,rfl⟩⟩⟩
     have:=lZ S (fQ β []) w (args.map a.eval++vs).toList vY hclosed r hm
     have e2:(args.map a.eval++vs).toList.toArray=args.map a.eval++vs:=by simp
     rw[e2] at this
     refine this.mono fun e w' he=>?_
     obtain ⟨v,S',βc,rfl,hres,hB,nM⟩:=he
     obtain ⟨pP,hle⟩:=hr.core.after (om:=[]) hnd hlt nM (fun o k ho hk=>absurd ho (Nat.not_lt_zero _))
     rw[aCw] at pP
     have aB8:dR S' (zT β [] st.cC.length βc) ((res r).mU [] st.cC.length) v:=D.kW (fun i=>xS hnd hlt i) hres
     have hput:=hr.put pP nM.frame.le hle htn hfree xU (fun _=>aB8) (fun hno=>absurd hh hno)
     rw[lY]
     exact h r Γ S' _ _ w' hput q hq
    ·cases fX
 ·have hb0:b=false:=by
   cases b with
   | false=>rfl
   | true=>exact absurd (nS hb) hh
  subst hb0
  simp only[cE,aR,if_false,Option.bind_some] at hq
  have hwt:Region.wanted o (yielded ops a.tmps)=false:=by
   unfold guardOf at hg
   cases hgd:o.guard with
   | none =>
     rw[hgd] at hg
     simp only[aA] at hg
     subst hg
     exact absurd (fun q hq=>by cases hq) hh
   | some jw =>
     obtain ⟨j,want⟩:=jw
     rw[hgd] at hg
     dsimp only at hg
     cases tC:(ops[j]?).bind (·.dst) with
     | none=>rw[tC] at hg;cases hg
     | some tj =>
       rw[tC] at hg
       simp only[aA] at hg
       subst hg
       obtain ⟨x0,hx0⟩:=mT hb
       have oC:∀ (yl:Option Bool),yielded ops a.tmps j=yl→Region.wanted o (yielded ops a.tmps)=(yl == some want):=by
        intro yl hy
        simp only[Region.wanted,hgd,hy]
       have gX:yielded ops a.tmps j=match a.tmps[tj]? with | some (.bool b)=>some b | _=>none:=by
        unfold yielded
        rw[tC]
        rfl
       by_cases nF:st.holds (st.nE tj)
       ·have hrel:=hr.tm tj nF
        rw[hx0] at hrel
        have hval:a.tmps.getD tj undef = .bool x0:=hrel
        have hsome:a.tmps[tj]? = some (.bool x0):=by
         rw[aO] at hval
         cases hq:a.tmps[tj]? with
         | none=>rw[hq] at hval;cases hval
         | some u=>rw[hq] at hval;simp only[Option.getD_some] at hval;rw[hval]
        rw[oC (some x0) (by rw[gX,hsome])]
        have hne:x0≠want:=by
         intro e
         subst e
         refine hh fun q hq=>?_
         rcases aY.1 hq with rfl | hq
         ·exact hx0
         ·exact nF q hq
        simpa using hne
       ·have hun:=hr.un tj nF
        have hnone:yielded ops a.tmps j=none:=by
         rw[gX]
         rw[aO] at hun
         cases hq:a.tmps[tj]? with
         | none=>rfl
         | some u =>
           rw[hq] at hun
           simp only[Option.getD_some] at hun
           rw[hun];rfl
        rw[oC none hnone]
        rfl
  simp only[wpList,hwt,aR,if_false]
  have hput:=hr.put (d:=(res r0).mU [] st.cC.length) (v:=undef) hr.core (jL.refl _) (kK.refl _) htn hfree xU (fun hy=>absurd hy hh) (fun _=>rfl)
  rw[lY]
  exact h r0 Γ S _ _ w hput q hq
theorem eO.aW5 (k k':Nat) {ops:Array Oper} {l:List Oper} {f:FuncId} {cR:List D} {t:Nat} {g:List (Nat × Bool)} {b:Bool} {mc:Option R} {res:R→D} {m:R→Option (A ⊕ T)} (r0:R)
 (hk:(Nat.blt k l.length && Nat.beq k' (k+1))=true) (hi:jZ P n ops (jQ l k) st []=some ⟨f,cR,t,g,b⟩) (lZ:bV P f cR [] mc res (fun _=>[]))
 (h:∀ r,eO P n ops (l.drop k') cs (st.put (some t) ((res r).mU [] st.cC.length) st.cC g) (m r) go ab):eO P n ops (l.drop k) cs st ((cE b mc r0).bind m) go ab:=by
 rw[aC] at hk
 obtain ⟨hk,hk'⟩:=hk
 have hk':=aH hk'
 subst hk'
 rw[nZ hk]
 unfold jZ at hi
 split at hi
 ·rename_i x args pS t' g' oZ hop hd hg hfr
  simp only[St.mM,aA] at hfr
  subst hfr
  split at hi
  ·rename_i b' f' oG hb hca
   obtain ⟨hc,hi⟩:=bZ hi
   simp only[aA,tH.mk.injEq] at hi
   obtain ⟨rfl,rfl,rfl,rfl,rfl⟩:=hi
   simp only[aC] at hc
   refine eO.a0v r0 lZ hg hb hop hd hca hc.1 (by simp only[aC];exact hc.2.2) hc.2.1 fun r=>?_
   exact h r
  ·cases hi
 ·cases hi
theorem gI.evH (is keep om:List Nat) {ops:Array Oper} {fuel fuel':Nat} {listed:Array Bool} {vs:List Bool} {dD:St} (sH:fuel=is.length+fuel')
 (hf:(Region.noSelect ops && (kX ops listed is).isSome)=true) (he:iN P n ops (opsOf ops is) st keep om=some (vs,dD))
 (h:(∀ b∈vs,b=true)→gI P n ops fuel' ((kX ops listed is).getD listed) cs dD m go ab):gI P n ops fuel listed cs st (bY vs m) go ab :=
 fun Γ S β a w hr x hx=>gI.evC is keep om sH hf he (h (fI hx).1) Γ S β a w hr x hx
theorem bV.aKg {f:FuncId} {R:Type} {args:List D} {m:Option R} {res:R→D} {out:R→List Obj} (h:bV P f args [] m res out) (hs:∀ r,D.shut (res r)=true):bV P f args [] m res (fun _=>[]):=by
 intro S β w vs hc hv r hr
 refine (h S β w vs hc hv r hr).mono fun e w' ⟨v,S',β',he,hd,hb,nM⟩=>?_
 have hd':fT S' β' [res r] [v]:=⟨v,[],rfl,hd,rfl⟩
 obtain ⟨v2,r2,e2,h2,_⟩:=fT.shut (by simp [hs r]) hd'
 simp only[List.cons.injEq] at e2
 obtain ⟨rfl,_⟩:=e2
 exact ⟨v,S',pQ,he,h2,fun o k ho _=>by simp at ho,⟨nM.frame,nM.holds,fun o x hx=>by simp at hx,fun _ _=>rfl,
  fun o o' k k' x x' hx=>by simp at hx,fun o k x hx=>by simp at hx,fun o k x hx=>by simp at hx⟩⟩
end
end
end Go.Dl

namespace Go.Dl
noncomputable section
variable [dO]
theorem fT.le {S:Mem} {β:dG}:∀ {l m:List D} {us:List Value},gD jS l m→fT S β l us→fT S β m us
 | _,_,_,.nil,h=>h
 | _,_,_,.cons h1 h2,⟨v,r,e,hv,hr⟩=>⟨v,r,e,h1 S β v hv,fT.le h2 hr⟩
theorem bV.le {P:Program} {f:FuncId} {R:Type} {args args':List D} {xs:List Go.Dl.Obj} {m:Option R} {res:R→D} {out:R→List Go.Dl.Obj} (h:bV P f args xs m res out) (hle:gD jS args' args):bV P f args' xs m res out :=
 fun S β w vs hc hv r hr=>h S β w vs hc (fT.le hle hv) r hr
section
variable {X:Type 1}
def kC {α:Type} (f:α→(α→X)→X) (l:List α):(List α→X)→X :=
 List.rec (motive:=fun _=>(List α→X)→X) (fun k=>k []) (fun a _ ih k=>f a fun a=>ih fun r=>k (a::r)) l
theorem fG {α:Type} {f:α→(α→X)→X} (hf:∀ a k,f a k=k a):∀ (l:List α) (k:List α→X),kC f l k=k l
 | [],k=>rfl
 | a::l,k=>by
   show f a (fun a=>kC f l fun r=>k (a::r))=k (a::l)
   rw[hf,fG hf l]
def a0p (v:Value) (k:Value→X):X:=match v with
 | .int i z=>k (.int i z)
 | .bool b=>k (.bool b)
 | v=>k v
theorem aSQ (v:Value) (k:Value→X):a0p v k=k v:=by cases v <;> rfl
def aU4:List Nat:=[0,1,2,3,4,5,6,7,8,9,10,11,12,13,14,15,16,17,18,19,20,21,22,23,24,25,26,27,28,29,30,31,32,33,34,35,36,37,38,39]
def aIO (o:Nat) (k:Nat→X):X:=List.rec (motive:=fun _=>X) (k o) (fun i _ ih=>bif Nat.beq o i then k i else ih) aU4
theorem yB (o:Nat) (k:Nat→X):aIO o k=k o:=by
 unfold aIO
 induction aU4 with
 | nil=>rfl
 | cons i l ih =>
   show (bif Nat.beq o i then k i else _)=k o
   cases h:Nat.beq o i with
   | true=>rw[aH h];rfl
   | false=>exact ih
def aLZ (c:C) (k:C→X):X:=match c with
 | .val v=>a0p v fun v=>k (.val v)
 | .own o n=>aIO o fun o=>k (.own o n)
 | .ptr o i j=>aIO o fun o=>k (.ptr o i j)
 | .self t b o=>aIO o fun o=>k (.self t b o)
 | .tree w n get=>k (.tree w n get)
 | .str l=>k (.str l)
 | .nil=>k .nil
 | .bot=>k .bot
 | .nP a b c=>k (.nP a b c)
 | c=>k c
theorem yC (c:C) (k:C→X):aLZ c k=k c:=match c with
 | .val v=>aSQ v fun v=>k (.val v)
 | .own o n=>yB o fun o=>k (.own o n)
 | .ptr o i j=>yB o fun o=>k (.ptr o i j)
 | .self t b o=>yB o fun o=>k (.self t b o)
 | .bot | .str _ | .nil | .tree .. | .nP .. | .opt .. | .iface .. | .func .. | .cond .. | .map _ | .tail ..=>rfl
def aU5 (c:D1) (k:D1→X):X:=match c with
 | .c c=>aLZ c fun c=>k (.c c)
 | .agg l=>kC aLZ l fun l=>k (.agg l)
theorem aNW (c:D1) (k:D1→X):aU5 c k=k c:=match c with
 | .c c=>yC c fun c=>k (.c c)
 | .agg l=>fG yC l fun l=>k (.agg l)
def aGQ (c:D) (k:D→X):X:=match c with
 | .c c=>aLZ c fun c=>k (.c c)
 | .agg l=>kC aLZ l fun l=>k (.agg l)
 | .jW l=>kC aU5 l fun l=>k (.jW l)
theorem rG (c:D) (k:D→X):aGQ c k=k c:=match c with
 | .c c=>yC c fun c=>k (.c c)
 | .agg l=>fG yC l fun l=>k (.agg l)
 | .jW l=>fG aNW l fun l=>k (.jW l)
def aL0 (x:Go.Dl.Obj) (k:Go.Dl.Obj→X):X:=match x with
 | .cells l=>kC aLZ l fun l=>k (.cells l)
 | .row t w n get=>k (.row t w n get)
 | .dead=>k .dead
 | x=>k x
theorem aBD (x:Go.Dl.Obj) (k:Go.Dl.Obj→X):aL0 x k=k x:=match x with
 | .cells l=>fG yC l fun l=>k (.cells l)
 | .row .. | .aA5 .. | .map .. | .dead=>rfl
def aSR (p:Nat × D) (k:Nat × D→X):X:=match p with
 | (t,d)=>aGQ d fun d=>k (t,d)
theorem aKd (p:Nat × D) (k:Nat × D→X):aSR p k=k p:=match p with
 | (t,d)=>rG d fun d=>k (t,d)
def tN {α:Type} (a:α) (k:α→X):X:=k a
theorem kY {α:Type} (a:α) (k:α→X):tN a k=k a:=rfl
def a0q (q:Bool) (l:List (Nat × D)) (k:List (Nat × D)→X):X :=
 bif q then (match l with
  | []=>k []
  | p::r=>aSR p fun p=>kC tN r fun r=>k (p::r)) else kC aSR l k
theorem aSS (q:Bool) (l:List (Nat × D)) (k:List (Nat × D)→X):a0q q l k=k l:=by
 cases q
 ·exact fG aKd _ _
 ·cases l with
  | nil=>rfl
  | cons p r =>
    show aSR p (fun p=>kC tN r fun r=>k (p::r))=_
    rw[aKd,fG kY]
def kR (q:Bool) (st:St) (k:St→X):X:=a0q q st.tmps fun l=>bif q then kC tN st.gd fun g=>aIO st.h fun h=>k ⟨l,st.cC,g,h⟩ else kC aL0 st.cC fun x=>kC tN st.gd fun g=>aIO st.h fun h=>k ⟨l,x,g,h⟩
theorem fM (q:Bool) (st:St) (k:St→X):kR q st k=k st:=by
 unfold kR
 rw[aSS]
 cases q
 ·show kC aL0 st.cC _=_
  rw[fG aBD,fG kY,yB]
 ·show kC tN st.gd _=_
  rw[fG kY,yB]
end
inductive Md where
 | c (cs:List Code)
 | r (id:Nat) (ops:Array Oper) (l:List Oper) (cs:List Code)
 | y (id:Nat) (ops:Array Oper) (fuel:Nat) (listed:List Bool) (cs:List Code)
 | x (id:Nat) (ops:Array Oper) (W:List Nat) (fuel:Nat) (listed:List Bool) (cs:List Code)
 | xi (id:Nat) (ops:Array Oper) (W:List Nat) (j fuel:Nat) (listed:List Bool) (cs:List Code)
def aAe:Op→Bool
 | .call ⟨.value _,_,_⟩=>true
 | _=>false
section
variable (P:Program) (n:Nat)
def l3 {A T:Type} (md:Md) (st:St) (m:Option (A ⊕ T)) (go:T→St) (ab:A→Ex × St):Prop :=
 match md with
 | .c cs=>Ref P n cs st m go ab
 | .r _ ops l cs=>eO P n ops l cs st m go ab
 | .y _ ops fuel listed cs=>gI P n ops fuel ⟨listed⟩ cs st m go ab
 | .x _ ops W fuel listed cs=>cX P n ops (inW W) fuel ⟨listed⟩ cs st m go ab
 | .xi _ ops W j fuel listed cs=>eQ P n ops (inW W) j fuel ⟨listed⟩ cs st m go ab
def aCs (st:St) (cs:List Code):Option (Bool × Md × St) :=
 bif st.gd.isEmpty then some (true,.c cs,st) else (st.keep ((st.tmps.filter fun p=>!(st.gd.any fun q=>Nat.beq q.1 p.1)).map Prod.fst) (List.range st.cC.length)).map fun s=>(false,.c cs,s)
def aFq (ops:Array Oper) (W:List Nat) (j:Nat):Bool:=inW W j && (ops[j]?).isSome || (!inW W j && (ops[j]?).elim false fun o=>o.guard.isNone && (oI o.op || gH o.op))
def aKe (id:Nat) (ops:Array Oper) (W:List Nat) (j fuel:Nat) (listed:List Bool) (cs:List Code) (st:St):Option (List Bool × Md × St) :=
 bif aFq ops W j then (match iG P n ops (opsOf ops [j]) st with
  | some (vs,s)=>(match s.keep (s.tmps.map Prod.fst) (List.range s.cC.length) with
    | some s2=>some (vs,.x id ops W fuel (listed.set j true) cs,s2)
    | none=>none)
  | none=>none) else none
def aGR (md:Md) (st:St):Option (Bool × Md × St) :=
 match md with
 | .c (.seq a b::cs)=>some (true,.c (a::b::cs),st)
 | .c (.skip::cs)=>some (true,.c cs,st)
 | .c (.region id ops false::cs)=>some (true,.r id ops ops.toList cs,st)
 | .c (.region id ops true::cs)=>bif P.follows .mixedOrders then some (true,.y id ops ops.size (List.replicate ops.size false) cs,st) else none
 | .y _ ops 0 listed cs=>bif (Region.ready .any ops ⟨listed⟩).isEmpty then aCs st cs else none
 | .x _ ops _ 0 listed cs=>bif (Region.ready .any ops ⟨listed⟩).isEmpty then aCs st cs else none
 | .r id ops [] cs=>aCs st cs
 | .r id ops (o::l) cs=>bif aAe o.op then none else
  (match mC P n ops o st with
  | some ([],s)=>some (gH o.op,.r id ops l cs,s)
  | _=>none)
 | .xi id ops W j fuel listed cs=>(match aKe P n id ops W j fuel listed cs st with
   | some ([],md,s)=>some (false,md,s)
   | _=>none)
 | _=>none
variable {P n}
variable {A T:Type} {go:T→St} {ab:A→Ex × St}
theorem eO.ev1 {ops:Array Oper} {o:Oper} {l:List Oper} {cs:List Code} {st dD:St} {vs:List Bool} {m:Option (A ⊕ T)} (he:mC P n ops o st=some (vs,dD)) (h:eO P n ops l cs dD m go ab):eO P n ops (o::l) cs st (bY vs m) go ab:=by
 intro Γ S β a w hr x hx
 obtain ⟨hvs,hm⟩:=fI hx
 have he2:iG P n ops [o] st=some (vs,dD):=by
  show (match mC P n ops o st with
   | some (v,s)=>(match iG P n ops [] s with
     | some (vs,s'')=>some (v++vs,s'')
     | none=>none)
   | none=>none)=_
  rw[he]
  show some (vs++[],dD)=_
  rw[bN]
 exact aAD (Q:=Exit.then (wpL P cs (Post Γ n go ab x)) (Post Γ n go ab x)) (rest:=l) hr he2 hvs fun a' w' S' β' h'=>h Γ S' β' a' w' h' x hm
theorem aAf {md':Md} {st dD:St} {q:Bool} {cs:List Code} {m:Option (A ⊕ T)} (h:aCs st cs=some (q,md',dD)) (hr:l3 P n md' dD m go ab):Ref P n cs st m go ab:=by
 unfold aCs at h
 cases hg:st.gd.isEmpty with
 | true =>
   rw[hg] at h
   simp only[cond_true,aA,aI] at h
   obtain ⟨_,rfl,rfl⟩:=h
   exact hr
 | false =>
   rw[hg] at h
   simp only[cond_false,Option.map_eq_some_iff,aI] at h
   obtain ⟨s,hs,_,rfl,rfl⟩:=h
   exact Ref.keep _ _ hs hr
theorem aGS {id:Nat} {ops:Array Oper} {W:List Nat} {j fuel:Nat} {listed:List Bool} {cs:List Code} {st dD:St} {vs:List Bool} {md':Md} {m:Option (A ⊕ T)} (h:aKe P n id ops W j fuel listed cs st=some (vs,md',dD)) (hr:l3 P n md' dD m go ab):eQ P n ops (inW W) j fuel ⟨listed⟩ cs st (bY vs m) go ab:=by
 unfold aKe at h
 cases ho:aFq ops W j with
 | false=>rw[ho] at h;cases h
 | true =>
   rw[ho] at h
   simp only[cond_true] at h
   split at h
   ·rename_i vs' s he
    split at h
    ·rename_i s2 hk
     simp only[aA,aI] at h
     obtain ⟨rfl,rfl,rfl⟩:=h
     have e:(Array.mk listed).setIfInBounds j true=⟨listed.set j true⟩:=by simp
     have hrun:iN P n ops (opsOf ops [j]) st (s.tmps.map Prod.fst) (List.range s.cC.length)=some (vs',s2):=by
      unfold iN
      rw[he]
      show (s.keep _ _).map _=_
      rw[hk]
      rfl
     have hr:cX P n ops (inW W) fuel ((Array.mk listed).setIfInBounds j true) cs s2 m go ab:=by rw[e];exact hr
     unfold aFq at ho
     rcases aL _ _ ▸ ho with ho | ho
     ·exact eQ.writes j _ _ ho hrun hr
     ·exact eQ.aFn j _ _ ho hrun hr
    ·cases h
   ·cases h
theorem aNX {md md':Md} {st dD:St} {q:Bool} {m:Option (A ⊕ T)} (h:aGR P n md st=some (q,md',dD)) (hr:l3 P n md' dD m go ab):l3 P n md st m go ab:=by
 unfold aGR at h
 split at h
 ·simp only[aA,aI] at h
  obtain ⟨_,rfl,rfl⟩:=h
  exact Ref.seq hr
 ·simp only[aA,aI] at h
  obtain ⟨_,rfl,rfl⟩:=h
  exact Ref.skip hr
 ·simp only[aA,aI] at h
  obtain ⟨_,rfl,rfl⟩:=h
  exact Ref.region hr
 ·rename_i id ops cs
  cases hf:P.follows .mixedOrders with
  | false=>rw[hf] at h;cases h
  | true =>
    rw[hf] at h
    simp only[cond_true,aA,aI] at h
    obtain ⟨_,rfl,rfl⟩:=h
    refine Ref.wA (c:=.region id ops true) id rfl hf ?_
    have e:(Array.replicate ops.size false)=⟨List.replicate ops.size false⟩:=rfl
    show gI P n ops ops.size (Array.replicate ops.size false) cs st m go ab
    rw[e]
    exact hr
 ·rename_i id ops listed cs
  cases hf:(Region.ready .any ops ⟨listed⟩).isEmpty with
  | false=>rw[hf] at h;cases h
  | true =>
    rw[hf] at h
    exact gI.done hf (aAf h hr)
 ·rename_i id ops W listed cs
  cases hf:(Region.ready .any ops ⟨listed⟩).isEmpty with
  | false=>rw[hf] at h;cases h
  | true =>
    rw[hf] at h
    exact cX.done hf (aAf h hr)
 ·exact eO.nil (aAf h hr)
 ·rename_i id ops o l cs
  cases hc:aAe o.op with
  | true=>rw[hc] at h;cases h
  | false =>
    rw[hc] at h
    simp only[cond_false] at h
    split at h
    ·rename_i s hs
     simp only[aA,aI] at h
     obtain ⟨_,rfl,rfl⟩:=h
     exact eO.ev1 hs hr
    ·cases h
 ·rename_i id ops W j fuel listed cs
  split at h
  ·rename_i md2 s hs
   simp only[aA,aI] at h
   obtain ⟨_,rfl,rfl⟩:=h
   exact aGS hs hr
  ·cases h
 ·cases h
def atM (id rem:Nat):Md→Bool
 | .r i _ l _=>Nat.beq id 1000000 || Nat.beq i id && Nat.beq l.length rem
 | _=>Nat.beq id 1000000
variable (P n) in
def rH {X:Type 1} (stop:Md→Bool) (k:Md→St→X) (f:Nat):Md→St→X :=
 Nat.rec (motive:=fun _=>Md→St→X) k (fun _ ih md st=>bif stop md then k md st else
  (match aGR P n md st with
  | some (q,md',s)=>kR q s fun s=>ih md' s
  | none=>k md st)) f
theorem fE {X:Type 1} {stop:Md→Bool} {k:Md→St→X}:∀ (f:Nat) (md:Md) (st:St),∃ md' dD,rH P n stop k f md st=k md' dD∧∀ m:Option (A ⊕ T),l3 P n md' dD m go ab→l3 P n md st m go ab
 | 0,md,st=>⟨md,st,rfl,fun _ h=>h⟩
 | f+1,md,st=>by
   show ∃ md' dD,(bif stop md then k md st else (match aGR P n md st with
    | some (q,md',s)=>kR q s fun s=>rH P n stop k f md' s
    | none=>k md st))=k md' dD∧_
   cases hs:stop md with
   | true=>exact ⟨md,st,rfl,fun _ h=>h⟩
   | false =>
     simp only[cond_false]
     cases h:aGR P n md st with
     | none=>exact ⟨md,st,rfl,fun _ h=>h⟩
     | some x =>
       obtain ⟨q,md1,s⟩:=x
       obtain ⟨md',dD,e,hk⟩:=fE (stop:=stop) (k:=k) f md1 s
       refine ⟨md',dD,?_,fun m hm=>aNX h (hk m hm)⟩
       show kR q s (fun s=>rH P n stop k f md1 s)=_
       rw[fM]
       exact e
end
inductive Tr:Type 1 where
 | bad
 | ck (vs:List Bool) (t:Tr)
 | ckh (vs:List Bool) {Q:Prop} (t:Q→Tr)
 | cn (b:Bool) (t:Tr)
 | br (b:Bool) (p q:Tr)
 | call (f:FuncId) (cR:List D) (xs:List Go.Dl.Obj) {R:Type} (k:R→Tr)
 | look (f:FuncId) (cR:List D) (b:Bool) {R:Type} (k:R→Tr)
 | leaf (e:Option Ex) (s:St)
 | sub (p:Tr) {U:Type} (k:U→Tr)
 | lp (s:St) {U:Type} (f:U→Tr)
 | ob (x:Go.Dl.Obj) (t:Tr)
 | sl (x:D) (t:Tr)
 | cl (x:C) (t:Tr)
 | op (t:Tr)
 | esc (md:Md) (st:St)
 | nt (k:Nat) (t:Tr)
 | kn {R:Type} {mc:Option R} (t:(r:R)→mc=some r→Tr)
inductive Pa where
 | s (t:Nat)
 | sa (t k:Nat)
 | o (i j:Nat)
 | k (o:Nat)
def aWY:C→Option Nat
 | .ptr o _ _=>some o
 | .own o _=>some o
 | .self _ _ o=>some o
 | _=>none
def a5F:D→Option Nat
 | .c c=>aWY c
 | _=>none
def a5G (k:Nat):D→Option Nat
 | .agg l=>(l[k]?).bind aWY
 | _=>none
def a0r (j:Nat):Go.Dl.Obj→Option Nat
 | .cells l=>(l[j]?).bind aWY
 | _=>none
def aU6 (st:St) (om:List Nat):Pa→Option Nat
 | .s t=>a5F (st.get t)
 | .sa t k=>a5G k (st.get t)
 | .o i j=>(om[i]?).bind fun q=>a0r j (st.cC.getD q .dead)
 | .k o=>some o
def wF (st:St):List Pa→List Nat→List Nat
 | [],om=>om
 | p::r,om=>match aU6 st om p with
   | some q=>wF st r (om++[q])
   | none=>om
inductive Cv:Type 1 where
 | bd {α:Type} (t:Nat) (E:El α) (l:List α)
 | ap {α:Type} (t:Nat) (E:El α) (a b:List α)
 | nl {α:Type} (t k:Nat) (E:El α)
 | fz (p:Pa)
inductive Hn (P:Program):Type 1 where
 | no (cv:List Cv)
 | ck (vs:List Bool) (h:∀ b∈vs,b=true) (cv:List Cv)
 | kc {R:Type} {f:FuncId} {cR:List D} {xs:List Go.Dl.Obj} {r:R} {res:R→D} {ou:R→List Go.Dl.Obj} (hs:List Pa) (h:bV P f cR xs (some r) res ou) (cv:List Cv)
inductive PT (P:Program) (n:Nat):(A T:Type)→(T→St)→(A→Ex × St)→Option (A ⊕ T)→Type 1 where
 | ck {A T:Type} {go:T→St} {ab:A→Ex × St} {m:Option (A ⊕ T)} (vs:List Bool) (k:PT P n A T go ab m):PT P n A T go ab (Go.Dl.bY vs m)
 | ckh {A T:Type} {go:T→St} {ab:A→Ex × St} {m:Option (A ⊕ T)} (vs:List Bool) (k:(hv:∀ b∈vs,b=true)→PT P n A T go ab m):PT P n A T go ab (Go.Dl.bY vs m)
 | cn {A T:Type} {go:T→St} {ab:A→Ex × St} {m:Option (A ⊕ T)} (b:Bool) (k:PT P n A T go ab m):PT P n A T go ab m
 | ite {A T:Type} {go:T→St} {ab:A→Ex × St} {m m':Option (A ⊕ T)} (b:Bool) (p:PT P n A T go ab m) (q:PT P n A T go ab m'):PT P n A T go ab (if b=true then m else m')
 | lt {A T:Type} {go:T→St} {ab:A→Ex × St} {X:Type} {m:X→Option (A ⊕ T)} (v:X) (k:(x:X)→PT P n A T go ab (m x)):PT P n A T go ab (Go.Dl.bR v m)
 | call {A T:Type} {go:T→St} {ab:A→Ex × St} {R:Type} {m:R→Option (A ⊕ T)} {f:FuncId} {cR:List D} {xs:List Go.Dl.Obj} {mc:Option R} {res:R→D} {ou:R→List Go.Dl.Obj} (om:List Nat) (h:bV P f cR xs mc res ou) (k:(r:R)→PT P n A T go ab (m r)):PT P n A T go ab (mc.bind m)
 | look {A T:Type} {go:T→St} {ab:A→Ex × St} {R:Type} {m:R→Option (A ⊕ T)} {f:FuncId} {cR:List D} {mc:Option R} {res:R→D} (r0:R) (b:Bool) (bo:List Nat) (h:bV P f cR [] mc res (fun _=>[])) (hf:∀ r,(res r).flat=true) (k:(r:R)→PT P n A T go ab (m r)):PT P n A T go ab ((cE b mc r0).bind m)
 | vN {A T:Type} {go:T→St} {ab:A→Ex × St} {R:Type} {m:R→Option (A ⊕ T)} {f:FuncId} {cR:List D} {mc:Option R} {res:R→D} (r0:R) (b:Bool) (h:bV P f cR [] mc res (fun _=>[])) (k:(r:R)→PT P n A T go ab (m r)):PT P n A T go ab ((cE b mc r0).bind m)
 | nil {A T:Type} {go:T→St} {ab:A→Ex × St} (om:List Nat) (t:T):PT P n A T go ab (some (.inr t))
 | ret {A T:Type} {go:T→St} {ab:A→Ex × St} (om:List Nat) (t:A):PT P n A T go ab (some (.inl t))
 | jn {A T:Type} {go:T→St} {ab:A→Ex × St} {U:Type} {m1:Option (A ⊕ U)} {m:U→Option (A ⊕ T)} (uI:U→St) (p:PT P n A U uI ab m1) (k:(t:U)→PT P n A T go ab (m t)):PT P n A T go ab (bT m1 m)
 | blk {A T:Type} {go:T→St} {ab:A→Ex × St} {U:Type} {m1:Option ((U ⊕ A) ⊕ U)} {m:U→Option (A ⊕ T)} (id:Nat) (uI:U→St) (hid:∀ a,(ab a).1≠.exit id) (p:PT P n (U ⊕ A) U uI (fun x=>match x with | .inl t=>(.exit id,uI t) | .inr a=>ab a) m1) (k:(t:U)→PT P n A T go ab (m t)):PT P n A T go ab (bT (bQ m1) m)
 | lp {A T:Type} {go:T→St} {ab:A→Ex × St} {U:Type} {mf:U→Option (A ⊕ U)} {K:Nat} {t0:U} (om:List Nat) (hd:U→St) (f:(u:U)→PT P n A U hd ab (mf u)):PT P n A T go ab ((iter K mf t0).map .inl)
 | ob {A T:Type} {go:T→St} {ab:A→Ex × St} {m:Option (A ⊕ T)} (id rem o:Nat) {x y:Go.Dl.Obj} (h:OLe x y) (k:PT P n A T go ab m):PT P n A T go ab m
 | sl {A T:Type} {go:T→St} {ab:A→Ex × St} {m:Option (A ⊕ T)} (id rem t:Nat) {x y:D} (h:jS x y) (k:PT P n A T go ab m):PT P n A T go ab m
 | sk {A T:Type} {go:T→St} {ab:A→Ex × St} {m:Option (A ⊕ T)} (id rem t k:Nat) {x y:C} (h:hG x y) (p:PT P n A T go ab m):PT P n A T go ab m
 | ok {A T:Type} {go:T→St} {ab:A→Ex × St} {m:Option (A ⊕ T)} (id rem o k:Nat) {x y:C} (h:hG x y) (p:PT P n A T go ab m):PT P n A T go ab m
 | fz {A T:Type} {go:T→St} {ab:A→Ex × St} {m:Option (A ⊕ T)} (id rem o:Nat) (k:PT P n A T go ab m):PT P n A T go ab m
 | mv {A T:Type} {go:T→St} {ab:A→Ex × St} {m:Option (A ⊕ T)} (id rem o:Nat) (k:PT P n A T go ab m):PT P n A T go ab m
 | ad {A T:Type} {go:T→St} {ab:A→Ex × St} {m:Option (A ⊕ T)} (id rem t:Nat) (e:TypeId) (wd:Nat) (get:Nat→Nat→C) (k:PT P n A T go ab m):PT P n A T go ab m
 | adc {A T:Type} {go:T→St} {ab:A→Ex × St} {m:Option (A ⊕ T)} (id rem o j:Nat) (e:TypeId) (wd:Nat) (get:Nat→Nat→C) (k:PT P n A T go ab m):PT P n A T go ab m
 | ex {A T:Type} {go:T→St} {ab:A→Ex × St} {m:Option (A ⊕ T)} (is:List Nat) (k:PT P n A T go ab m):PT P n A T go ab m
 | hO {A T:Type} {go:T→St} {ab:A→Ex × St} {m:Option (A ⊕ T)} (is:List Nat) (vs:List Bool) (k:PT P n A T go ab m):PT P n A T go ab (Go.Dl.bY vs m)
 | aWZ {A T:Type} {go:T→St} {ab:A→Ex × St} {m:Option (A ⊕ T)} (is:List Nat) (vs:List Bool) (k:(hv:∀ b∈vs,b=true)→PT P n A T go ab m):PT P n A T go ab (Go.Dl.bY vs m)
 | tx {A T:Type} {go:T→St} {ab:A→Ex × St} {m:Option (A ⊕ T)} (W:List Nat) (k:PT P n A T go ab m):PT P n A T go ab m
 | tl {A T:Type} {go:T→St} {ab:A→Ex × St} {m:Option (A ⊕ T)} (js:List Nat) (k:PT P n A T go ab m):PT P n A T go ab m
 | dQ {A T:Type} {go:T→St} {ab:A→Ex × St} {R:Type} {m:R→Option (A ⊕ T)} {f:FuncId} {cR:List D} {mc:Option R} {res:R→D} (i:Nat) (r0:R) (b:Bool) (bo:List Nat) (h:bV P f cR [] mc res (fun _=>[])) (hf:∀ r,((res r).flat && (res r).exact.isSome)=true) (k:(r:R)→PT P n A T go ab (m r)):PT P n A T go ab ((cE b mc r0).bind m)
 | fk {A T:Type} {go:T→St} {ab:A→Ex × St} {m:Option (A ⊕ T)} (i:Nat) (p:PT P n A T go ab m):PT P n A T go ab m
 | fk2 {A T:Type} {go:T→St} {ab:A→Ex × St} {m:Option (A ⊕ T)} (i j:Nat) (p q:PT P n A T go ab m):PT P n A T go ab m
 | fk3 {A T:Type} {go:T→St} {ab:A→Ex × St} {m:Option (A ⊕ T)} (i j k:Nat) (p q r:PT P n A T go ab m):PT P n A T go ab m
 | fk4 {A T:Type} {go:T→St} {ab:A→Ex × St} {m:Option (A ⊕ T)} (i j k l:Nat) (p q r s:PT P n A T go ab m):PT P n A T go ab m
 | ckn {A T:Type} {go:T→St} {ab:A→Ex × St} {m:Option (A ⊕ T)} (vs:List Bool) (h:∀ b∈vs,b=true) (k:PT P n A T go ab m):PT P n A T go ab m
 | asm {A T:Type} {go:T→St} {ab:A→Ex × St} {m:Option (A ⊕ T)} (vs:List Bool) (k:(hv:∀ b∈vs,b=true)→PT P n A T go ab m):PT P n A T go ab (Go.Dl.bY vs m)
 | aNY {A T:Type} {go:T→St} {ab:A→Ex × St} {R:Type} {m:R→Option (A ⊕ T)} {f:FuncId} {cR:List D} {xs:List Go.Dl.Obj} {mc:Option R} {res:R→D} {ou:R→List Go.Dl.Obj} (om:List Nat) (h:bV P f cR xs mc res ou) (k:(r:R)→PT P n A T go ab (m r)):PT P n A T go ab (mc.bind m)
 | all {A T:Type} {go:T→St} {ab:A→Ex × St} {m:Option (A ⊕ T)} (ks:List Nat) (ops:Array Oper) (listed:List Bool) (hint:Nat→Hn P) (want:St) (ps:List Pa) (k:PT P n A T go ab m):PT P n A T go ab m
 | kn {A T:Type} {go:T→St} {ab:A→Ex × St} {R:Type} {mc:Option R} {m:R→Option (A ⊕ T)} (k:(r:R)→mc=some r→PT P n A T go ab (m r)):PT P n A T go ab (mc.bind m)
 | aW0 {A T:Type} {go:T→St} {ab:A→Ex × St} {m:Option (A ⊕ T)} (om:List Nat) (cs:List Code) (st:St) (h:Ref P n cs st m go ab):PT P n A T go ab m
 | esc {A T:Type} {go:T→St} {ab:A→Ex × St} {m:Option (A ⊕ T)} (om:List Nat) (cs:List Code) (st:St) (h:Ref P n cs st m go ab):PT P n A T go ab m
 | aD7 {A T:Type} {go:T→St} {ab:A→Ex × St} {m:Option (A ⊕ T)} (om:List Nat) (id:Nat) (ops:Array Oper) (l:List Oper) (cs:List Code) (st:St) (h:eO P n ops l cs st m go ab):PT P n A T go ab m
section
variable {P:Program} {n:Nat}
/- The two sides have constants of their own,so that the kernel does not compare their parts before it has computed them. -/
def brs (l:List Nat) (g:Nat→Tr):Tr:=List.rec (motive:=fun _=>Tr) .bad (fun j _ t=>.br true (g j) t) l
def aW1 (l:List Nat) (g:Nat→Tr):Tr:=List.rec (motive:=fun _=>Tr) .bad (fun j _ t=>.br true (g j) t) l
def aST {X:Type 1} (l:List Bool):(List Bool→X)→X :=
 List.rec (motive:=fun _=>(List Bool→X)→X) (fun k=>k []) (fun a _ ih k=>ih fun r=>k (a::r)) l
theorem aBE {X:Type 1}:∀ (l:List Bool) (k:List Bool→X),aST l k=k l
 | [],k=>rfl
 | a::l,k=>aBE l fun r=>k (a::r)
theorem aNZ {g g':Nat→Tr}:∀ {l:List Nat},brs l g=aW1 l g'→∀ j∈l,g j=g' j
 | x::l,h,j,hj=>by
   have h:Tr.br true (g x) (brs l g)=Tr.br true (g' x) (aW1 l g'):=h
   injection h with _ h1 h2
   rcases aY.1 hj with rfl | hj
   ·exact h1
   ·exact aNZ h2 j hj
def cvT:List Cv→Tr→Tr
 | [],t=>t
 | .bd _ E l::r,t=>.ob (.row E.ty E.w l.length (xE (l.map E.cs))) (cvT r t)
 | .ap _ E a b::r,t=>.ob (.row E.ty E.w (a.length+b.length) fun i j=>bif Nat.blt i a.length then E.at a i j else E.at b (i - a.length) j) (.nt (a.length+b.length) (cvT r t))
 | .nl _ _ _::r,t=>.cl .nil (cvT r t)
 | .fz _::r,t=>.op (cvT r t)
def xt (ops:Array Oper) (hint:Nat→Hn P) (want:St) (f:Nat):List Bool→Tr :=
 Nat.rec (motive:=fun _=>List Bool→Tr) (fun _=>.esc (.c []) want) (fun _ ih listed=>bif (Region.ready .any ops ⟨listed⟩).isEmpty then .op .bad else aW1 (Region.ready .any ops ⟨listed⟩) fun j=>match hint j with
  | .no cv=>.op (cvT cv (aST (listed.set j true) fun l2=>.op (ih l2)))
  | .ck vs _ cv=>.ck vs (cvT cv (aST (listed.set j true) fun l2=>.op (ih l2)))
  | .kc (f:=f) (cR:=cR) (xs:=xs) _ _ cv=>.call f cR xs fun (_:Unit)=>cvT cv (aST (listed.set j true) fun l2=>.op (ih l2))) f
def PT.tree {A T:Type} {go:T→St} {ab:A→Ex × St} {m:Option (A ⊕ T)}:PT P n A T go ab m→Tr
 | .ck vs k=>.ck vs k.tree
 | .ckh vs k=>.ckh vs fun hv=>(k hv).tree
 | .cn b k=>.cn b k.tree
 | .ite b p q=>.br b p.tree q.tree
 | .lt v k=>(k v).tree
 | .call (f:=f) (cR:=cR) (xs:=xs) _ _ k=>.call f cR xs fun r=>(k r).tree
 | .look (f:=f) (cR:=cR) _ b _ _ _ k=>.look f cR b fun r=>(k r).tree
 | .vN (f:=f) (cR:=cR) _ b _ k=>.look f cR b fun r=>(k r).tree
 | .nil _ t=>.leaf none (go t)
 | .ret _ t=>.leaf (some (ab t).1) (ab t).2
 | .jn _ p k=>.sub p.tree fun t=>(k t).tree
 | .blk _ _ _ p k=>.sub p.tree fun t=>(k t).tree
 | .lp (t0:=t0) _ hd f=>.lp (hd t0) fun u=>(f u).tree
 | .ob (x:=x) _ _ _ _ k=>.ob x k.tree
 | .sl (x:=x) _ _ _ _ k=>.sl x k.tree
 | .sk (x:=x) _ _ _ _ _ p=>.cl x p.tree
 | .ok (x:=x) _ _ _ _ _ p=>.cl x p.tree
 | .fz _ _ _ k=>.op k.tree
 | .mv _ _ _ k=>.op k.tree
 | .ad _ _ _ _ _ _ k=>.op k.tree
 | .adc _ _ _ _ _ _ _ k=>.op k.tree
 | .ex _ k=>.op k.tree
 | .hO _ vs k=>.ck vs k.tree
 | .aWZ _ vs k=>.ckh vs fun hv=>(k hv).tree
 | .tx _ k=>.op k.tree
 | .tl _ k=>.op k.tree
 | .dQ (f:=f) (cR:=cR) _ _ b _ _ _ k=>.look f cR b fun r=>(k r).tree
 | .fk _ p=>.op p.tree
 | .fk2 _ _ p q=>.br true p.tree q.tree
 | .fk3 _ _ _ p q r=>.br true p.tree (.br true q.tree r.tree)
 | .fk4 _ _ _ _ p q r s=>.br true (.br true p.tree q.tree) (.br true r.tree s.tree)
 | .ckn vs _ k=>.ck vs k.tree
 | .asm vs k=>.ckh vs fun hv=>(k hv).tree
 | .aNY (f:=f) (cR:=cR) (xs:=xs) _ _ k=>.call f cR xs fun r=>(k r).tree
 | .all _ ops listed hint want _ k=>.br true (.esc (.y 0 ops (listed.filter fun b=>!b).length listed []) want) (.br true (xt ops hint want (listed.filter fun b=>!b).length listed) k.tree)
 | .kn (mc:=mc) k=>.kn (mc:=mc) fun r e=>(k r e).tree
 | .aW0 _ cs st _=>.esc (.c cs) st
 | .esc _ cs st _=>.esc (.c cs) st
 | .aD7 _ id ops l cs st _=>.esc (.r id ops l cs) st
def keys (st:St):List Nat:=st.tmps.map Prod.fst
def kept (st:St) (want:St) (om:List Nat) (k:St→Tr):Tr :=
 match st.keep (keys want) om with
 | some s=>k s
 | none=>.bad
def eL:Md→Bool:=fun _=>false
def atD:Md→Bool
 | .c (.region _ _ true::_)=>true
 | _=>false
def atC:Md→Bool
 | .c _=>true
 | _=>false
def eB:Nat:=100000
def isL (a b:List Nat):Bool:=decide (a=b)
variable (P n) in
def ckW (need:Nat) (k:List Bool→Md→St→Tr) (f:Nat):List Bool→Md→St→Tr :=
 Nat.rec (motive:=fun _=>List Bool→Md→St→Tr) (fun _ _ _=>.bad) (fun _ ih acc=>rH P n eL (fun md st=>match md with
  | .r id ops (o::l) cs=>bif aAe o.op then .bad else (match mC P n ops o st with
    | some (v::vs,s)=>kR false s fun s=>kC tN (acc++(v::vs)) fun acc=>bif Nat.ble need acc.length then k acc (.r id ops l cs) s else ih acc (.r id ops l cs) s
    | _=>.bad)
  | _=>.bad) eB) f
variable (P n) in
def evX (is:List Nat) (md:Md) (st:St) (k:List Bool→Md→St→Tr):Tr :=
 match md with
 | .y id ops fuel listed cs=>bif Nat.ble is.length fuel && Region.noSelect ops then (match kX ops ⟨listed⟩ is,iG P n ops (opsOf ops is) st with
   | some l2,some (vs,s)=>(match s.keep (keys s) (List.range s.cC.length) with
     | some s2=>kR false s2 fun s2=>kC tN vs fun vs=>kC tN l2.toList fun l2=>k vs (.y id ops (fuel - is.length) l2 cs) s2
     | none=>.bad)
   | _,_=>.bad) else .bad
 | .x id ops W fuel listed cs=>bif Nat.ble is.length fuel && Region.noSelect ops then (match kL .any ops (inW W) ⟨listed⟩ is,iG P n ops (opsOf ops is) st with
   | some l2,some (vs,s)=>(match s.keep (keys s) (List.range s.cC.length) with
     | some s2=>kR false s2 fun s2=>kC tN vs fun vs=>kC tN l2.toList fun l2=>k vs (.x id ops W (fuel - is.length) l2 cs) s2
     | none=>.bad)
   | _,_=>.bad) else .bad
 | _=>.bad
def aN0:C→List Nat
 | .own o _=>[o]
 | .ptr o _ _=>[o]
 | .self _ _ o=>[o]
 | _=>[]
def a0u:D→List Nat
 | .c c=>aN0 c
 | .agg l=>l.flatMap aN0
 | _=>[]
def aU7:Go.Dl.Obj→List Nat
 | .cells l=>l.flatMap aN0
 | _=>[]
def aW2 (xs:List Go.Dl.Obj) (f:Nat):List Nat→List Nat→List Nat :=
 Nat.rec (motive:=fun _=>List Nat→List Nat→List Nat) (fun _ acc=>acc) (fun _ ih todo acc=>match todo with
  | []=>acc
  | o::r=>bif acc.any (Nat.beq o) then ih r acc else ih (r++aU7 (xs.getD o .dead)) (acc++[o])) f
def aGU (ks:List Nat) (st:St) (k:St→Tr):Tr :=
 match st.keep (ks.filter fun t=>st.tmps.any fun p=>Nat.beq p.1 t) (aW2 st.cC 60 (ks.flatMap (fun t=>a0u (st.get t))++(List.range st.h).flatMap fun o=>aU7 (st.cC.getD o .dead)) (List.range st.h)) with
 | some s=>kR false s k
 | none=>.bad
def cvW:List Cv→St→(St→Tr)→Tr
 | [],st,k=>k st
 | .bd t E l::r,st,k=>match st.get t with
   | .c (.own o _)=>bif Nat.blt o st.cC.length then .ob (st.cC.getD o .dead) (kR false (st.setObj o (E.row l)) fun s=>cvW r s k) else .bad
   | _=>.bad
 | .ap t E a b::r,st,k=>match st.get t with
   | .c (.own o q)=>bif Nat.blt o st.cC.length && st.gd.isEmpty then .ob (st.cC.getD o .dead) (.nt q (kR false ((st.setObj o (E.row (a++b))).iH t (.c (.own o (a++b).length))) fun s=>cvW r s k)) else .bad
   | _=>.bad
 | .nl t i E::r,st,k=>match st.get t with
   | .agg l=>(match l[i]? with
     | some x=>bif st.gd.isEmpty then .cl x (kR false (st.iH t (.agg (l.set i (E.tree [])))) fun s=>cvW r s k) else .bad
     | none=>.bad)
   | _=>.bad
 | .fz p::r,st,k=>match aU6 st [] p with
   | some o=>(match st.freeze o with
     | some s=>.op (kR false s fun s=>cvW r s k)
     | none=>.bad)
   | none=>.bad
variable (P n) in
def xw (ks W:List Nat) (ops:Array Oper) (hint:Nat→Hn P) (want:St) (ps:List Pa) (f:Nat):List Bool→St→Tr :=
 Nat.rec (motive:=fun _=>List Bool→St→Tr) (fun listed st=>bif (Region.ready .any ops ⟨listed⟩).isEmpty then kept st want (wF st ps []) (fun s=>.esc (.c []) s) else .bad)
  (fun _ ih listed st=>bif (Region.ready .any ops ⟨listed⟩).isEmpty then .bad else brs (Region.ready .any ops ⟨listed⟩) fun j=>match hint j with
  | .no cv=>bif aFq ops W j then (match iG P n ops (opsOf ops [j]) st with
    | some ([],s)=>(match s.keep (keys s) (List.range s.cC.length) with
      | some s2=>.op (kR false s2 fun s=>cvW cv s fun s=>aGU ks s fun s=>kC tN (listed.set j true) fun l2=>.op (ih l2 s))
      | none=>.bad)
    | _=>.bad) else .bad
  | .ck _ _ cv=>bif aFq ops W j then (match iG P n ops (opsOf ops [j]) st with
    | some (vs,s)=>(match s.keep (keys s) (List.range s.cC.length) with
      | some s2=>.ck vs (kR false s2 fun s=>cvW cv s fun s=>aGU ks s fun s=>kC tN (listed.set j true) fun l2=>.op (ih l2 s))
      | none=>.bad)
    | none=>.bad) else .bad
  | .kc (r:=r) (res:=res) (ou:=ou) hs _ cv=>bif inW W j && Nat.blt j ops.size then (match lT P n (jQ ops.toList j) st (wF st hs []) with
    | some (f,cR,t)=>kC aGQ cR fun cR=>kC aL0 (gS st (wF st hs [])) fun xs=>.call f cR xs fun (_:Unit)=>kR false (st.put (some t) ((res r).mU (wF st hs []) st.cC.length) (lR (wF st hs []) (ou r) st.cC) []) fun s=>cvW cv s fun s=>aGU ks s fun s=>kC tN (listed.set j true) fun l2=>.op (ih l2 s)
    | none=>.bad) else .bad) f
def PT.walk {A T:Type} {go:T→St} {ab:A→Ex × St} {m:Option (A ⊕ T)}:PT P n A T go ab m→Md→St→Tr
 | .ck vs k=>ckW P n vs.length (fun acc md s=>.ck acc (k.walk md s)) vs.length []
 | .ckh vs k=>ckW P n vs.length (fun acc md s=>.ckh acc fun hv=>(k hv).walk md s) vs.length []
 | .cn b k=>rH P n eL (fun md st=>match md with
   | .c (.cond x c d::cs)=>bif st.gd.isEmpty then (match st.lv x with
     | .c (.val (.bool true))=>.cn true (k.walk (.c (c::cs)) st)
     | .c (.val (.bool false))=>.cn false (k.walk (.c (d::cs)) st)
     | _=>.bad) else .bad
   | _=>.bad) eB
 | .ite b p q=>rH P n eL (fun md st=>match md with
   | .c (.cond x c d::cs)=>bif st.gd.isEmpty then (match st.lv x with
     | .c (.val (.bool b))=>.br b (p.walk (.c (c::cs)) st) (q.walk (.c (d::cs)) st)
     | _=>.bad) else .bad
   | _=>.bad) eB
 | .lt v k=>(k v).walk
 | .call (res:=res) (ou:=ou) om _ k=>rH P n eL (fun md st=>match md with
   | .r id ops (o::l) cs=>(match lT P n o st om with
     | some (f,cR,t)=>kC aGQ cR fun cR=>kC aL0 (gS st om) fun xs=>.call f cR xs fun r=>kR false (st.put (some t) ((res r).mU om st.cC.length) (lR om (ou r) st.cC) []) fun s=>(k r).walk (.r id ops l cs) s
     | none=>.bad)
   | _=>.bad) eB
 | .look (res:=res) r0 b bo _ _ k=>rH P n eL (fun md st=>match md with
   | .r id ops (o::l) cs=>(match jZ P n ops o st bo with
     | some ⟨f,cR,t,g,b⟩=>kC aGQ cR fun cR=>.look f cR b fun r=>kR false (st.put (some t) (res r) st.cC g) fun s=>(k r).walk (.r id ops l cs) s
     | none=>.bad)
   | _=>.bad) eB
 | .vN (res:=res) r0 b _ k=>rH P n eL (fun md st=>match md with
   | .r id ops (o::l) cs=>(match jZ P n ops o st [] with
     | some ⟨f,cR,t,g,b⟩=>kC aGQ cR fun cR=>.look f cR b fun r=>kR false (st.put (some t) ((res r).mU [] st.cC.length) st.cC g) fun s=>(k r).walk (.r id ops l cs) s
     | none=>.bad)
   | _=>.bad) eB
 | .nil om t=>rH P n eL (fun md st=>match md with
   | .c []=>kept st (go t) om fun s=>.leaf none s
   | _=>.bad) eB
 | .ret om t=>rH P n eL (fun md st=>match md with
   | .c (.ret::_)=>kept st (ab t).2 om fun s=>.leaf (some .ret) s
   | .c (.exit id::_)=>kept st (ab t).2 om fun s=>.leaf (some (.exit id)) s
   | _=>.bad) eB
 | .jn uI p k=>rH P n eL (fun md st=>match md with
   | .c (c::cs)=>.sub (p.walk (.c [c]) st) fun t=>(k t).walk (.c cs) (uI t)
   | _=>.bad) eB
 | .blk id uI _ p k=>rH P n eL (fun md st=>match md with
   | .c (.block i c::cs)=>bif Nat.beq i id then .sub (p.walk (.c [c]) st) fun t=>(k t).walk (.c cs) (uI t) else .bad
   | _=>.bad) eB
 | .lp (t0:=t0) om hd f=>rH P n eL (fun md st=>match md with
   | .c (.loop c::_)=>kept st (hd t0) om fun s=>.lp s fun u=>(f u).walk (.c [c]) (hd u)
   | _=>.bad) eB
 | .ob (y:=y) id rem o _ k=>rH P n (atM id rem) (fun md st=>bif Nat.blt o st.cC.length then .ob (st.cC.getD o .dead) (kR false (st.setObj o y) fun s=>k.walk md s) else .bad) eB
 | .sl (y:=y) id rem t _ k=>rH P n (atM id rem) (fun md st=>bif st.gd.isEmpty then .sl (st.get t) (kR false (st.iH t y) fun s=>k.walk md s) else .bad) eB
 | .sk (y:=y) id rem t k _ p=>rH P n (atM id rem) (fun md st=>bif st.gd.isEmpty then (match st.get t with
   | .agg l=>(match l[k]? with
     | some x=>.cl x (kR false (st.iH t (.agg (l.set k y))) fun s=>p.walk md s)
     | none=>.bad)
   | _=>.bad) else .bad) eB
 | .ok (y:=y) id rem o k _ p=>rH P n (atM id rem) (fun md st=>bif Nat.blt o st.cC.length then (match st.cC.getD o .dead with
   | .cells l=>(match l[k]? with
     | some x=>.cl x (kR false (st.setObj o (.cells (l.set k y))) fun s=>p.walk md s)
     | none=>.bad)
   | _=>.bad) else .bad) eB
 | .fz id rem o k=>rH P n (atM id rem) (fun md st=>match st.freeze o with
   | some s=>.op (kR false s fun s=>k.walk md s)
   | none=>.bad) eB
 | .mv id rem o k=>rH P n (atM id rem) (fun md st=>bif Nat.ble st.h st.cC.length then (match st.move o with
   | some s=>.op (kR false s fun s=>k.walk md s)
   | none=>.bad) else .bad) eB
 | .ad id rem t e wd get k=>rH P n (atM id rem) (fun md st=>bif aIF (st.get t) && (st.gd.isEmpty && Nat.ble st.h st.cC.length) then .op (kR false (st.aEA t (.row e wd 0 get)) fun s=>k.walk md s) else .bad) eB
 | .adc id rem o j e wd get k=>rH P n (atM id rem) (fun md st=>match st.mB o j (.row e wd 0 get) with
   | some s=>.op (kR false s fun s=>k.walk md s)
   | none=>.bad) eB
 | .ex is k=>rH P n eL (fun md st=>evX P n is md st fun vs md s=>match vs with
   | []=>.op (k.walk md s)
   | _=>.bad) eB
 | .hO is _ k=>rH P n eL (fun md st=>evX P n is md st fun vs md s=>.ck vs (k.walk md s)) eB
 | .aWZ is _ k=>rH P n eL (fun md st=>evX P n is md st fun vs md s=>.ckh vs fun hv=>(k hv).walk md s) eB
 | .tx W k=>rH P n eL (fun md st=>match md with
   | .y id ops fuel listed cs=>.op (k.walk (.x id ops W fuel listed cs) st)
   | _=>.bad) eB
 | .tl js k=>rH P n eL (fun md st=>match md with
   | .y id ops fuel listed cs=>bif Nat.beq fuel js.length && (xX .any ops ⟨listed⟩ js && js.all fun j=>(ops[j]?).isSome) then .op (k.walk (.r id ops (opsOf ops js) cs) st) else .bad
   | .x id ops W fuel listed cs=>bif Nat.beq fuel js.length && (xX .any ops ⟨listed⟩ js && js.all fun j=>inW W j && (ops[j]?).isSome) then .op (k.walk (.r id ops (opsOf ops js) cs) st) else .bad
   | _=>.bad) eB
 | .dQ (res:=res) i r0 b bo _ _ k=>rH P n eL (fun md st=>match md with
   | .x id ops W (fuel+1) listed cs=>bif aCd ops (inW W) ⟨listed⟩ i && Nat.blt i ops.size then (match jZ P n ops (jQ ops.toList i) st bo with
     | some ⟨f,cR,t,g,b⟩=>kC aGQ cR fun cR=>kC tN (listed.set i true) fun l2=>.look f cR b fun r=>kR false (st.put (some t) (res r) st.cC g) fun s=>(k r).walk (.x id ops W fuel l2 cs) s
     | none=>.bad) else .bad
   | _=>.bad) eB
 | .fk i p=>rH P n eL (fun md st=>match md with
   | .x id ops W (fuel+1) listed cs=>bif isL (Region.ready .any ops ⟨listed⟩) [i] then .op (p.walk (.xi id ops W i fuel listed cs) st) else .bad
   | _=>.bad) eB
 | .fk2 i j p q=>rH P n eL (fun md st=>match md with
   | .x id ops W (fuel+1) listed cs=>bif isL (Region.ready .any ops ⟨listed⟩) [i,j] then .br true (p.walk (.xi id ops W i fuel listed cs) st) (q.walk (.xi id ops W j fuel listed cs) st) else .bad
   | _=>.bad) eB
 | .fk3 i j k p q r=>rH P n eL (fun md st=>match md with
   | .x id ops W (fuel+1) listed cs=>bif isL (Region.ready .any ops ⟨listed⟩) [i,j,k] then .br true (p.walk (.xi id ops W i fuel listed cs) st) (.br true (q.walk (.xi id ops W j fuel listed cs) st) (r.walk (.xi id ops W k fuel listed cs) st)) else .bad
   | _=>.bad) eB
 | .fk4 i j k l p q r s=>rH P n eL (fun md st=>match md with
   | .x id ops W (fuel+1) listed cs=>bif isL (Region.ready .any ops ⟨listed⟩) [i,j,k,l] then .br true (.br true (p.walk (.xi id ops W i fuel listed cs) st) (q.walk (.xi id ops W j fuel listed cs) st)) (.br true (r.walk (.xi id ops W k fuel listed cs) st) (s.walk (.xi id ops W l fuel listed cs) st)) else .bad
   | _=>.bad) eB
 | .ckn _ _ k=>rH P n eL (fun md st=>match md with
   | .xi id ops W j fuel listed cs=>(match aKe P n id ops W j fuel listed cs st with
     | some (vs,md,s)=>.ck vs (kR false s fun s=>k.walk md s)
     | none=>.bad)
   | _=>.bad) eB
 | .asm vs k=>fun md st=>.ckh vs fun hv=>(k hv).walk md st
 | .aNY (res:=res) (ou:=ou) om _ k=>rH P n eL (fun md st=>match md with
   | .xi id ops W j fuel listed cs=>bif inW W j && Nat.blt j ops.size then (match lT P n (jQ ops.toList j) st om with
     | some (f,cR,t)=>kC aGQ cR fun cR=>kC aL0 (gS st om) fun xs=>.call f cR xs fun r=>kR false (st.put (some t) ((res r).mU om st.cC.length) (lR om (ou r) st.cC) []) fun s=>(k r).walk (.x id ops W fuel (listed.set j true) cs) s
     | none=>.bad) else .bad
   | _=>.bad) eB
 | .all ks _ _ hint want ps k=>rH P n eL (fun md st=>match md with
   | .y id ops fuel listed cs=>.br true (.esc (.y 0 ops fuel listed []) want) (.br true (xw P n ks (List.range ops.size) ops hint want ps fuel listed st) (k.walk (.c cs) want))
   | .x id ops W fuel listed cs=>.br true (.esc (.y 0 ops fuel listed []) want) (.br true (xw P n ks W ops hint want ps fuel listed st) (k.walk (.c cs) want))
   | _=>.bad) eB
 | .kn (mc:=mc) k=>fun md st=>.kn (mc:=mc) fun r e=>(k r e).walk md st
 | .aW0 om _ want _=>rH P n atC (fun md st=>kept st want om fun s=>.esc md s) eB
 | .esc om _ want _=>rH P n atD (fun md st=>kept st want om fun s=>.esc md s) eB
 | .aD7 om id _ l _ want _=>rH P n (atM id l.length) (fun md st=>kept st want om fun s=>.esc md s) eB
theorem l3.conv {A T:Type} {go:T→St} {ab:A→Ex × St} {m:Option (A ⊕ T)} {md:Md} {st dD:St} (hc:Conv n st dD) (h:l3 P n md dD m go ab):l3 P n md st m go ab:=by
 cases md with
 | c cs=>exact Ref.conv hc h
 | r id ops l cs=>exact eO.conv hc h
 | y id ops fuel listed cs=>exact gI.conv hc h
 | x id ops W fuel listed cs=>exact cX.conv hc h
 | xi id ops W j fuel listed cs=>exact eQ.conv hc h
theorem lI {st want:St} {om:List Nat} {k:St→Tr} {t:Tr} (h:kept st want om k=t) (ht:t≠.bad):∃ s,st.keep (keys want) om=some s∧k s=t:=by
 unfold kept at h
 split at h
 ·rename_i s hs
  exact ⟨s,hs,h⟩
 ·exact absurd h.symm ht
theorem l3.bY {A T:Type} {go:T→St} {ab:A→Ex × St} {m:Option (A ⊕ T)} {md:Md} {st:St} {vs:List Bool} (h:(∀ b∈vs,b=true)→l3 P n md st m go ab):l3 P n md st (Go.Dl.bY vs m) go ab:=by
 cases md with
 | c cs=>exact fun Γ S β a w hr x hx=>(h (fI hx).1) Γ S β a w hr x (fI hx).2
 | r id ops l cs=>exact fun Γ S β a w hr x hx=>(h (fI hx).1) Γ S β a w hr x (fI hx).2
 | y id ops fuel listed cs=>exact fun Γ S β a w hr x hx=>(h (fI hx).1) Γ S β a w hr x (fI hx).2
 | x id ops W fuel listed cs=>exact fun Γ S β a w hr x hx=>(h (fI hx).1) Γ S β a w hr x (fI hx).2
 | xi id ops W j fuel listed cs=>exact fun Γ S β a w hr x hx=>(h (fI hx).1) Γ S β a w hr x (fI hx).2
theorem aBF {fuel:Nat} {a l:List Nat} (hc:isL a l=true) (hne:l.isEmpty=false):(Nat.beq (fuel+1) (fuel+1) && (decide (a=l) && !l.isEmpty))=true:=by
 unfold isL at hc
 rw[hc,hne,Nat.beq_refl];rfl
theorem yD {α:Type} {m:Option α}:∀ {vs:List Bool},(∀ b∈vs,b=true)→Go.Dl.bY vs m=m
 | [],_=>rfl
 | v::vs,h=>by
   show (if v=true then Go.Dl.bY vs m else none)=m
   rw[aE (h v (bA ..)),yD fun b hb=>h b (aT _ hb)]
theorem aCt {α:Type} {m:Option α}:∀ (a b:List Bool),Go.Dl.bY (a++b) m=Go.Dl.bY a (Go.Dl.bY b m)
 | [],_=>rfl
 | v::a,b=>by
   show (if v=true then Go.Dl.bY (a++b) m else none)=(if v=true then Go.Dl.bY a (Go.Dl.bY b m) else none)
   rw[aCt a b]
theorem aIP {A T:Type} {go:T→St} {ab:A→Ex × St} {need:Nat} {k:List Bool→Md→St→Tr}:∀ (f:Nat) (acc:List Bool) (md:Md) (st:St) (t:Tr),ckW P n need k f acc md st=t→t≠.bad →
 ∃ vs2 md' dD,k (acc++vs2) md' dD=t∧True∧∀ m:Option (A ⊕ T),l3 P n md' dD m go ab→l3 P n md st (Go.Dl.bY vs2 m) go ab
 | 0,acc,md,st,t,h,ht=>absurd h.symm ht
 | f+1,acc,md,st,t,h,ht=>by
   have h:rH P n eL (fun md st=>match md with
    | .r id ops (o::l) cs=>bif aAe o.op then Tr.bad else (match mC P n ops o st with
      | some (v::vs,s)=>kR false s fun s=>kC tN (acc++(v::vs)) fun acc=>bif Nat.ble need acc.length then k acc (.r id ops l cs) s else ckW P n need k f acc (.r id ops l cs) s
      | _=>.bad)
    | _=>.bad) eB md st=t:=h
   obtain ⟨md',dD,e,tr⟩:=fE (A:=A) (T:=T) (go:=go) (ab:=ab) (P:=P) (n:=n) (stop:=eL) (k:=fun md st=>match md with
    | .r id ops (o::l) cs=>bif aAe o.op then Tr.bad else (match mC P n ops o st with
      | some (v::vs,s)=>kR false s fun s=>kC tN (acc++(v::vs)) fun acc=>bif Nat.ble need acc.length then k acc (.r id ops l cs) s else ckW P n need k f acc (.r id ops l cs) s
      | _=>.bad)
    | _=>.bad) eB md st
   rw[e] at h
   split at h
   ·rename_i id ops o l cs
    cases hc:aAe o.op with
    | true=>rw[hc] at h;exact absurd h.symm ht
    | false =>
      rw[hc] at h
      simp only[cond_false] at h
      split at h
      ·rename_i v vs' s hs
       rw[fM,fG kY] at h
       cases hn:Nat.ble need (acc++(v::vs')).length with
       | true =>
         rw[hn] at h
         exact ⟨v::vs',_,_,h,trivial,fun m hm=>tr _ (eO.ev1 hs hm)⟩
       | false =>
         rw[hn] at h
         obtain ⟨vs3,md2,oZ,e2,_,tr2⟩:=aIP (A:=A) (T:=T) (go:=go) (ab:=ab) f _ _ _ _ h ht
         refine ⟨(v::vs')++vs3,md2,oZ,by rw[← bJ];exact e2,trivial,fun m hm=>?_⟩
         rw[aCt]
         exact tr _ (eO.ev1 hs (tr2 m hm))
      ·exact absurd h.symm ht
   ·exact absurd h.symm ht
theorem aFr {ops:Array Oper} {l:List Oper} {st s s2:St} {vs:List Bool} {k om:List Nat} (h:iG P n ops l st=some (vs,s)) (h2:s.keep k om=some s2):iN P n ops l st k om=some (vs,s2):=by
 unfold iN
 rw[h]
 show (s.keep k om).map _=_
 rw[h2]
 rfl
theorem aIQ {A T:Type} {go:T→St} {ab:A→Ex × St} {is:List Nat} {md:Md} {st:St} {k:List Bool→Md→St→Tr} {t:Tr} (h:evX P n is md st k=t) (ht:t≠.bad) :
 ∃ vs md' dD,k vs md' dD=t∧∀ m:Option (A ⊕ T),l3 P n md' dD m go ab→l3 P n md st (Go.Dl.bY vs m) go ab:=by
 unfold evX at h
 split at h
 ·rename_i id ops fuel listed cs
  cases hc:(Nat.ble is.length fuel && Region.noSelect ops) with
  | false=>rw[hc] at h;exact absurd h.symm ht
  | true =>
    rw[hc] at h
    rw[aC] at hc
    have hle:=aX hc.1
    simp only[cond_true] at h
    split at h
    ·rename_i l2 vs s hf he
     split at h
     ·rename_i s2 hk
      rw[fM,fG kY,fG kY] at h
      refine ⟨_,_,_,h,fun m hm=>gI.evC is (keys s) (List.range s.cC.length) (fuel':=fuel - is.length) (by omega) (by rw[hc.2,hf];rfl) (aFr he hk) ?_⟩
      rw[hf]
      exact hm
     ·exact absurd h.symm ht
    ·exact absurd h.symm ht
 ·rename_i id ops W fuel listed cs
  cases hc:(Nat.ble is.length fuel && Region.noSelect ops) with
  | false=>rw[hc] at h;exact absurd h.symm ht
  | true =>
    rw[hc] at h
    rw[aC] at hc
    have hle:=aX hc.1
    simp only[cond_true] at h
    split at h
    ·rename_i l2 vs s hf he
     split at h
     ·rename_i s2 hk
      rw[fM,fG kY,fG kY] at h
      refine ⟨_,_,_,h,fun m hm=>cX.evC is (keys s) (List.range s.cC.length) (fuel':=fuel - is.length) (by omega) (by rw[hc.2,hf];rfl) (aFr he hk) ?_⟩
      rw[hf]
      exact hm
     ·exact absurd h.symm ht
    ·exact absurd h.symm ht
 ·exact absurd h.symm ht
theorem jS.app {α:Type} (o:Nat) (a b:List α):jS (.c (.own o (a.length+b.length))) (.c (.own o (a++b).length)):=jS.c (hG.own List.length_append.symm)
theorem Conv.a5M {st:St}:Conv n st st:=fun Γ S β a w hr=>⟨S,β,hr⟩
theorem wG:∀ {cv:List Cv} {st:St} {k:St→Tr} {t:Tr},cvW cv st k=cvT cv t→∃ dD,k dD=t∧Conv n st dD
 | [],st,k,t,h=>⟨st,h,Conv.a5M⟩
 | .bd t0 E l::r,st,k,t,h=>by
   unfold cvW cvT at h
   split at h
   ·rename_i o q hq
    cases hx:Nat.blt o st.cC.length with
    | false=>rw[hx] at h;cases h
    | true =>
      rw[hx] at h
      simp only[cond_true] at h
      rw[fM] at h
      injection h with h1 h2
      obtain ⟨dD,h3,h4⟩:=wG (cv:=r) h2
      exact ⟨dD,h3,(Conv.obj o _ (by rw[h1];exact El.b9 E l rfl rfl) hx).trans h4⟩
   ·cases h
 | .ap t0 E a b::r,st,k,t,h=>by
   unfold cvW cvT at h
   split at h
   ·rename_i o q hq
    cases hx:(Nat.blt o st.cC.length && st.gd.isEmpty) with
    | false=>rw[hx] at h;cases h
    | true =>
      rw[hx] at h
      rw[aC] at hx
      simp only[cond_true] at h
      rw[fM] at h
      injection h with h1 h2
      injection h2 with h2 h3
      obtain ⟨dD,h4,h5⟩:=wG (cv:=r) h3
      refine ⟨dD,h4,(Conv.obj o _ (by rw[h1];exact El.jE E a b rfl rfl) hx.1).trans (Conv.trans (Conv.slot t0 (.c (.own o (a++b).length)) ?_ hx.2) h5)⟩
      show jS (st.get t0) _
      rw[hq,h2]
      exact jS.app o a b
   ·cases h
 | .nl t0 i E::r,st,k,t,h=>by
   unfold cvW cvT at h
   split at h
   ·rename_i l hl
    split at h
    ·rename_i x hx
     cases hg:st.gd.isEmpty with
     | false=>rw[hg] at h;cases h
     | true =>
       rw[hg] at h
       simp only[cond_true] at h
       rw[fM] at h
       injection h with h1 h2
       subst h1
       obtain ⟨dD,h3,h4⟩:=wG (cv:=r) h2
       exact ⟨dD,h3,(Conv.slot t0 _ (by rw[hl];exact jS.agg (gD.nth hG.refl (El.cJ E) i l hx)) hg).trans h4⟩
    ·cases h
   ·cases h
 | .fz p::r,st,k,t,h=>by
   unfold cvW cvT at h
   split at h
   ·rename_i o ho
    split at h
    ·rename_i s hs
     rw[fM] at h
     injection h with h1
     obtain ⟨dD,h3,h4⟩:=wG (cv:=r) h1
     exact ⟨dD,h3,(Conv.freeze o hs).trans h4⟩
    ·cases h
   ·cases h
theorem aCu {ks:List Nat} {st:St} {k:St→Tr} {t:Tr} (h:aGU ks st k=t) (ht:t≠.bad):∃ dD,k dD=t∧Conv n st dD:=by
 unfold aGU at h
 split at h
 ·rename_i s hs
  rw[fM] at h
  exact ⟨s,h,Conv.keep _ _ hs⟩
 ·exact absurd h.symm ht
theorem aKf {A T:Type} {go:T→St} {ab:A→Ex × St} {m:Option (A ⊕ T)} {ops:Array Oper} {W:List Nat} {j f:Nat} {listed:Array Bool} {cs:List Code} {st dD:St} {vs:List Bool} {k om:List Nat} (ho:aFq ops W j=true) (he:iN P n ops (opsOf ops [j]) st k om=some (vs,dD)) (h:cX P n ops (inW W) f (listed.setIfInBounds j true) cs dD m go ab):eQ P n ops (inW W) j f listed cs st (Go.Dl.bY vs m) go ab:=by
 unfold aFq at ho
 rcases aL _ _ ▸ ho with ho | ho
 ·exact eQ.writes j _ _ ho he h
 ·exact eQ.aFn j _ _ ho he h
theorem aGV {A T:Type} {go:T→St} {ab:A→Ex × St} {m:Option (A ⊕ T)} {ks W:List Nat} {ops:Array Oper} {hint:Nat→Hn P} {want:St} {ps:List Pa} {cs:List Code} (hk:Ref P n cs want m go ab):∀ (f:Nat) (listed:List Bool) (st:St),xw P n ks W ops hint want ps f listed st=xt ops hint want f listed→cX P n ops (inW W) f ⟨listed⟩ cs st m go ab
 | 0,listed,st,h=>by
   have h:(bif (Region.ready .any ops ⟨listed⟩).isEmpty then kept st want (wF st ps []) (fun s=>Tr.esc (.c []) s) else Tr.bad)=Tr.esc (.c []) want:=h
   cases hr:(Region.ready .any ops ⟨listed⟩).isEmpty with
   | false=>rw[hr] at h;cases h
   | true =>
     rw[hr] at h
     simp only[cond_true] at h
     obtain ⟨s,hs,h⟩:=lI h (by intro h;cases h)
     injection h with h1 h2
     subst h2
     exact cX.done hr (Ref.keep _ _ hs hk)
 | f+1,listed,st,h=>by
   cases hr:(Region.ready .any ops ⟨listed⟩).isEmpty with
   | true =>
     unfold xw xt at h
     simp only[hr,cond_true] at h
     cases h
   | false =>
     refine cX.fork (Region.ready .any ops ⟨listed⟩) (fuel':=f) (by rw[Nat.beq_refl,hr];simp) (fun j hj=>?_)
     have h2:=h
     unfold xw xt at h2
     simp only[hr,cond_false] at h2
     have h3:=aNZ h2 j hj
     clear h h2
     have e:(Array.mk listed).setIfInBounds j true=⟨listed.set j true⟩:=by simp
     have run:∀ {vs:List Bool} {s s2:St},iG P n ops (opsOf ops [j]) st=some (vs,s)→s.keep (keys s) (List.range s.cC.length)=some s2→iN P n ops (opsOf ops [j]) st (keys s) (List.range s.cC.length)=some (vs,s2):=fun he hk=>aFr he hk
     split at h3
     ·rename_i cv hh
      cases hc:aFq ops W j with
      | false=>rw[hc] at h3;cases h3
      | true =>
        rw[hc] at h3
        simp only[cond_true] at h3
        split at h3
        ·rename_i s he
         split at h3
         ·rename_i s2 hs2
          rw[fM] at h3
          injection h3 with h3
          rw[aBE] at h3
          obtain ⟨st1,h4,h5⟩:=wG (n:=n) h3
          obtain ⟨dD,h4,h6⟩:=aCu (n:=n) h4 (by intro h;cases h)
          rw[fG kY] at h4
          injection h4 with h4
          have h5:=Conv.trans h5 h6
          exact aKf (m:=m) hc (run he hs2) (by rw[e];exact cX.conv h5 (aGV hk f _ dD h4))
         ·cases h3
        ·cases h3
     ·rename_i vs hv cv hh
      cases hc:aFq ops W j with
      | false=>rw[hc] at h3;cases h3
      | true =>
        rw[hc] at h3
        simp only[cond_true] at h3
        split at h3
        ·rename_i vs' s he
         split at h3
         ·rename_i s2 hs2
          rw[fM] at h3
          injection h3 with h1 h3
          rw[aBE] at h3
          obtain ⟨st1,h4,h5⟩:=wG (n:=n) h3
          obtain ⟨dD,h4,h6⟩:=aCu (n:=n) h4 (by intro h;cases h)
          rw[fG kY] at h4
          injection h4 with h4
          have h5:=Conv.trans h5 h6
          have:=aKf (P:=P) (go:=go) (ab:=ab) (m:=m) (cs:=cs) hc (run he hs2) (by rw[e];exact cX.conv h5 (aGV hk f _ dD h4))
          rwa [h1,yD hv] at this
         ·cases h3
        ·cases h3
     ·rename_i R f' cR xs r res ou hs hf cv hh
      have hf':bV P f' cR xs (some ()) (fun _=>res r) (fun _=>ou r):=fun S β w vs hc hv _ _=>hf S β w vs hc hv r rfl
      cases hc:(inW W j && Nat.blt j ops.size) with
      | false=>rw[hc] at h3;cases h3
      | true =>
        rw[hc] at h3
        simp only[cond_true] at h3
        split at h3
        ·rename_i f2 a5N t hi
         rw[fG rG,fG aBD] at h3
         injection h3 with h1 h2 h4 h5 h6
         subst h1;subst h2;subst h4
         have h7:=congrFun h6 ()
         rw[fM] at h7
         rw[aBE] at h7
         obtain ⟨st1,h8,h9⟩:=wG (n:=n) h7
         obtain ⟨dD,h8,h10⟩:=aCu (n:=n) h8 (by intro h;cases h)
         rw[fG kY] at h8
         injection h8 with h8
         have h9:=Conv.trans h9 h10
         exact eQ.c8 (mc:=some ()) (m:=fun _=>m) j _ hc hi hf' (fun _=>by rw[e];exact cX.conv h9 (aGV hk f _ dD h8))
        ·cases h3
theorem PT.sound {A T:Type} {go:T→St} {ab:A→Ex × St} {m:Option (A ⊕ T)} (p:PT P n A T go ab m):∀ (md:Md) (st:St),p.walk md st=p.tree→l3 P n md st m go ab:=by
 induction p with
 | ck vs k ih =>
   intro md st h
   unfold PT.walk PT.tree at h
   obtain ⟨vs2,md',dD,e,h,tr⟩:=aIP (A:=_) (T:=_) (go:=_) (ab:=_) (P:=P) (n:=n) (need:=vs.length) (k:=fun acc md s=>Tr.ck acc (k.walk md s)) vs.length [] md st _ h (by intro h;cases h)
   injection e with h1 h2
   rw[List.nil_append] at h1
   rw[← h1]
   exact tr _ (ih _ _ h2)
 | ckh vs k ih =>
   intro md st h
   unfold PT.walk PT.tree at h
   obtain ⟨vs2,md',dD,e,h,tr⟩:=aIP (A:=_) (T:=_) (go:=_) (ab:=_) (P:=P) (n:=n) (need:=vs.length) (k:=fun acc md s=>Tr.ckh acc fun hv=>(k hv).walk md s) vs.length [] md st _ h (by intro h;cases h)
   injection e with h1 h2 h3
   rw[List.nil_append] at h1
   refine l3.bY fun hv=>?_
   have:=tr _ (ih hv _ _ (congrFun h3 hv))
   rwa [h1,yD hv] at this
 | cn b k ih =>
   intro md st h
   unfold PT.walk PT.tree at h
   obtain ⟨md',dD,e,tr⟩:=fE (P:=P) (n:=n) (stop:=eL) (k:=fun md st=>_) eB md st
   rw[e] at h
   refine tr _ ?_
   split at h
   ·rename_i x c d cs
    cases hg:dD.gd.isEmpty with
    | false=>rw[hg] at h;cases h
    | true =>
      rw[hg] at h
      simp only[cond_true] at h
      split at h
      ·rename_i hb
       injection h with h1 h2
       have:=Ref.cond (x:=c) (y:=d) (m1:=_) (m2:=none) hb (by simpa using hg) (fun _=>ih _ _ h2) (fun h=>by cases h)
       rw[aE rfl] at this
       exact this
      ·rename_i hb
       injection h with h1 h2
       have:=Ref.cond (x:=c) (y:=d) (m1:=none) (m2:=_) hb (by simpa using hg) (fun h=>by cases h) (fun _=>ih _ _ h2)
       rw[aD (by simp)] at this
       exact this
      ·cases h
   ·cases h
 | ite b p q ihp ihq =>
   intro md st h
   unfold PT.walk PT.tree at h
   obtain ⟨md',dD,e,tr⟩:=fE (P:=P) (n:=n) (stop:=eL) (k:=fun md st=>_) eB md st
   rw[e] at h
   refine tr _ ?_
   split at h
   ·rename_i x c d cs
    cases hg:dD.gd.isEmpty with
    | false=>rw[hg] at h;cases h
    | true =>
      rw[hg] at h
      simp only[cond_true] at h
      split at h
      ·rename_i b' hb
       injection h with h1 h2 h3
       subst h1
       exact Ref.cond hb (by simpa using hg) (fun _=>ihp _ _ h2) (fun _=>ihq _ _ h3)
      ·cases h
   ·cases h
 | lt v k ih =>
   intro md st h
   exact ih v md st h
 | call om hf k ih =>
   intro md st h
   unfold PT.walk PT.tree at h
   obtain ⟨md',dD,e,tr⟩:=fE (P:=P) (n:=n) (stop:=eL) (k:=fun md st=>_) eB md st
   rw[e] at h
   refine tr _ ?_
   split at h
   ·rename_i id ops o l cs
    split at h
    ·rename_i f' oG t hi
     rw[fG rG,fG aBD] at h
     injection h with h1 h2 h3 h4 h5
     subst h1;subst h2;subst h3
     refine eO.c8 (l:=o::l) 0 1 om rfl hi hf (fun r=>?_)
     have:=congrFun h5 r
     rw[fM] at this
     exact ih r _ _ this
    ·cases h
   ·cases h
 | look r0 b bo hf hfl k ih =>
   intro md st h
   unfold PT.walk PT.tree at h
   obtain ⟨md',dD,e,tr⟩:=fE (P:=P) (n:=n) (stop:=eL) (k:=fun md st=>_) eB md st
   rw[e] at h
   refine tr _ ?_
   split at h
   ·rename_i id ops o l cs
    split at h
    ·rename_i f' oG t g b' hi
     rw[fG rG] at h
     injection h with h1 h2 h3 h4 h5
     subst h1;subst h2;subst h3
     refine eO.aJ7 (l:=o::l) 0 1 bo r0 rfl hi hf hfl (fun r=>?_)
     have:=congrFun h5 r
     rw[fM] at this
     exact ih r _ _ this
    ·cases h
   ·cases h
 | vN r0 b hf k ih =>
   intro md st h
   unfold PT.walk PT.tree at h
   obtain ⟨md',dD,e,tr⟩:=fE (P:=P) (n:=n) (stop:=eL) (k:=fun md st=>_) eB md st
   rw[e] at h
   refine tr _ ?_
   split at h
   ·rename_i id ops o l cs
    split at h
    ·rename_i f' oG t g b' hi
     rw[fG rG] at h
     injection h with h1 h2 h3 h4 h5
     subst h1;subst h2;subst h3
     refine eO.aW5 (l:=o::l) 0 1 r0 rfl hi hf (fun r=>?_)
     have:=congrFun h5 r
     rw[fM] at this
     exact ih r _ _ this
    ·cases h
   ·cases h
 | nil om t =>
   intro md st h
   unfold PT.walk PT.tree at h
   obtain ⟨md',dD,e,tr⟩:=fE (P:=P) (n:=n) (stop:=eL) (k:=fun md st=>_) eB md st
   rw[e] at h
   refine tr _ ?_
   split at h
   ·obtain ⟨s,hs,h⟩:=lI h (by intro h;cases h)
    injection h with h1 h2
    exact Ref.keep _ _ hs (Ref.nil h2.symm)
   ·cases h
 | ret om t =>
   intro md st h
   unfold PT.walk PT.tree at h
   obtain ⟨md',dD,e,tr⟩:=fE (P:=P) (n:=n) (stop:=eL) (k:=fun md st=>_) eB md st
   rw[e] at h
   refine tr _ ?_
   split at h
   ·obtain ⟨s,hs,h⟩:=lI h (by intro h;cases h)
    injection h with h1 h2
    injection h1 with h1
    exact Ref.keep _ _ hs (Ref.ret (Prod.ext h1.symm h2.symm))
   ·obtain ⟨s,hs,h⟩:=lI h (by intro h;cases h)
    injection h with h1 h2
    injection h1 with h1
    exact Ref.keep _ _ hs (Ref.exit (Prod.ext h1.symm h2.symm))
   ·cases h
 | jn uI p k ihp ihk =>
   intro md st h
   unfold PT.walk PT.tree at h
   obtain ⟨md',dD,e,tr⟩:=fE (P:=P) (n:=n) (stop:=eL) (k:=fun md st=>_) eB md st
   rw[e] at h
   refine tr _ ?_
   split at h
   ·injection h with h1 h2 h3
    exact Ref.bind (ihp _ _ h1) (fun t=>ihk t _ _ (congrFun h3 t))
   ·cases h
 | blk id uI hid p k ihp ihk =>
   intro md st h
   unfold PT.walk PT.tree at h
   obtain ⟨md',dD,e,tr⟩:=fE (P:=P) (n:=n) (stop:=eL) (k:=fun md st=>_) eB md st
   rw[e] at h
   refine tr _ ?_
   split at h
   ·rename_i i c cs
    cases hi:Nat.beq i id with
    | false=>rw[hi] at h;cases h
    | true =>
      rw[hi] at h
      have hi:=aH hi
      subst hi
      simp only[cond_true] at h
      injection h with h1 h2 h3
      exact Ref.block (ihp _ _ h1) hid (fun t=>ihk t _ _ (congrFun h3 t))
   ·cases h
 | @lp A T go ab U mf K t0 om hd f ih =>
   intro md st h
   unfold PT.walk PT.tree at h
   obtain ⟨md',dD,e,tr⟩:=fE (P:=P) (n:=n) (stop:=eL) (k:=fun md st=>_) eB md st
   rw[e] at h
   refine tr _ ?_
   split at h
   ·obtain ⟨s,hs,h⟩:=lI h (by intro h;cases h)
    injection h with h1 h2 h3
    exact Ref.keep _ _ hs (Ref.loop K t0 h1.symm (fun u=>ih u _ _ (congrFun h3 u)))
   ·cases h
 | ob id rem o hle k ih =>
   intro md st h
   unfold PT.walk PT.tree at h
   obtain ⟨md',dD,e,tr⟩:=fE (P:=P) (n:=n) (stop:=atM id rem) (k:=fun md st=>_) eB md st
   rw[e] at h
   refine tr _ ?_
   cases hx:Nat.blt o dD.cC.length with
   | false=>rw[hx] at h;cases h
   | true =>
     rw[hx] at h
     simp only[cond_true] at h
     rw[fM] at h
     injection h with h1 h2
     exact l3.conv (Conv.obj o _ (by rw[h1];exact hle) hx) (ih _ _ h2)
 | sl id rem t hle k ih =>
   intro md st h
   unfold PT.walk PT.tree at h
   obtain ⟨md',dD,e,tr⟩:=fE (P:=P) (n:=n) (stop:=atM id rem) (k:=fun md st=>_) eB md st
   rw[e] at h
   refine tr _ ?_
   cases hx:dD.gd.isEmpty with
   | false=>rw[hx] at h;cases h
   | true =>
     rw[hx] at h
     simp only[cond_true] at h
     rw[fM] at h
     injection h with h1 h2
     exact l3.conv (Conv.slot t _ (by rw[h1];exact hle) hx) (ih _ _ h2)
 | sk id rem t k hle p ih =>
   intro md st h
   unfold PT.walk PT.tree at h
   obtain ⟨md',dD,e,tr⟩:=fE (P:=P) (n:=n) (stop:=atM id rem) (k:=fun md st=>_) eB md st
   rw[e] at h
   refine tr _ ?_
   cases hx:dD.gd.isEmpty with
   | false=>rw[hx] at h;cases h
   | true =>
     rw[hx] at h
     simp only[cond_true] at h
     split at h
     ·rename_i l hl
      split at h
      ·rename_i x hk
       rw[fM] at h
       injection h with h1 h2
       subst h1
       exact l3.conv (Conv.slot t _ (by rw[hl];exact jS.agg (gD.nth hG.refl hle k l hk)) hx) (ih _ _ h2)
      ·cases h
     ·cases h
 | ok id rem o k hle p ih =>
   intro md st h
   unfold PT.walk PT.tree at h
   obtain ⟨md',dD,e,tr⟩:=fE (P:=P) (n:=n) (stop:=atM id rem) (k:=fun md st=>_) eB md st
   rw[e] at h
   refine tr _ ?_
   cases hx:Nat.blt o dD.cC.length with
   | false=>rw[hx] at h;cases h
   | true =>
     rw[hx] at h
     simp only[cond_true] at h
     split at h
     ·rename_i l hl
      split at h
      ·rename_i x hk
       rw[fM] at h
       injection h with h1 h2
       subst h1
       exact l3.conv (Conv.obj o _ (by rw[hl];exact OLe.cells (gD.nth hG.refl hle k l hk)) hx) (ih _ _ h2)
      ·cases h
     ·cases h
 | fz id rem o k ih =>
   intro md st h
   unfold PT.walk PT.tree at h
   obtain ⟨md',dD,e,tr⟩:=fE (P:=P) (n:=n) (stop:=atM id rem) (k:=fun md st=>_) eB md st
   rw[e] at h
   refine tr _ ?_
   split at h
   ·rename_i s hs
    rw[fM] at h
    injection h with h1
    exact l3.conv (Conv.freeze o hs) (ih _ _ h1)
   ·cases h
 | mv id rem o k ih =>
   intro md st h
   unfold PT.walk PT.tree at h
   obtain ⟨md',dD,e,tr⟩:=fE (P:=P) (n:=n) (stop:=atM id rem) (k:=fun md st=>_) eB md st
   rw[e] at h
   refine tr _ ?_
   cases hx:Nat.ble dD.h dD.cC.length with
   | false=>rw[hx] at h;cases h
   | true =>
     rw[hx] at h
     simp only[cond_true] at h
     split at h
     ·rename_i s hs
      rw[fM] at h
      injection h with h1
      exact l3.conv (Conv.move o hs hx) (ih _ _ h1)
     ·cases h
 | ad id rem t e wd get k ih =>
   intro md st h
   unfold PT.walk PT.tree at h
   obtain ⟨md',dD,eq,tr⟩:=fE (P:=P) (n:=n) (stop:=atM id rem) (k:=fun md st=>_) eB md st
   rw[eq] at h
   refine tr _ ?_
   cases hc:(aIF (dD.get t) && (dD.gd.isEmpty && Nat.ble dD.h dD.cC.length)) with
   | false=>rw[hc] at h;cases h
   | true =>
     rw[hc] at h
     simp only[cond_true] at h
     rw[fM] at h
     injection h with h
     simp only[aC] at hc
     exact l3.conv (Conv.aEA t e wd get hc.1 hc.2.1 hc.2.2) (ih _ _ h)
 | adc id rem o j e wd get k ih =>
   intro md st h
   unfold PT.walk PT.tree at h
   obtain ⟨md',dD,eq,tr⟩:=fE (P:=P) (n:=n) (stop:=atM id rem) (k:=fun md st=>_) eB md st
   rw[eq] at h
   refine tr _ ?_
   split at h
   ·rename_i s hs
    rw[fM] at h
    injection h with h
    exact l3.conv (Conv.mB o j e wd get hs) (ih _ _ h)
   ·cases h
 | ex is k ih =>
   intro md st h
   unfold PT.walk PT.tree at h
   obtain ⟨md',dD,e,tr⟩:=fE (P:=P) (n:=n) (stop:=eL) (k:=fun md st=>_) eB md st
   rw[e] at h
   refine tr _ ?_
   obtain ⟨vs,md2,oZ,h,tr2⟩:=aIQ (A:=_) (T:=_) (go:=_) (ab:=_) h (by intro h;cases h)
   split at h
   ·injection h with h
    exact tr2 _ (ih _ _ h)
   ·cases h
 | hO is vs k ih =>
   intro md st h
   unfold PT.walk PT.tree at h
   obtain ⟨md',dD,e,tr⟩:=fE (P:=P) (n:=n) (stop:=eL) (k:=fun md st=>_) eB md st
   rw[e] at h
   refine tr _ ?_
   obtain ⟨vs2,md2,oZ,h,tr2⟩:=aIQ (A:=_) (T:=_) (go:=_) (ab:=_) h (by intro h;cases h)
   injection h with h1 h2
   rw[← h1]
   exact tr2 _ (ih _ _ h2)
 | aWZ is vs k ih =>
   intro md st h
   unfold PT.walk PT.tree at h
   obtain ⟨md',dD,e,tr⟩:=fE (P:=P) (n:=n) (stop:=eL) (k:=fun md st=>_) eB md st
   rw[e] at h
   refine tr _ ?_
   obtain ⟨vs2,md2,oZ,h,tr2⟩:=aIQ (A:=_) (T:=_) (go:=_) (ab:=_) h (by intro h;cases h)
   injection h with h1 h2 h3
   refine l3.bY fun hv=>?_
   have:=tr2 _ (ih hv _ _ (congrFun h3 hv))
   rwa [h1,yD hv] at this
 | tx W k ih =>
   intro md st h
   unfold PT.walk PT.tree at h
   obtain ⟨md',dD,e,tr⟩:=fE (P:=P) (n:=n) (stop:=eL) (k:=fun md st=>_) eB md st
   rw[e] at h
   refine tr _ ?_
   split at h
   ·injection h with h
    exact gI.toX W (ih _ _ h)
   ·cases h
 | tl js k ih =>
   intro md st h
   unfold PT.walk PT.tree at h
   obtain ⟨md',dD,e,tr⟩:=fE (P:=P) (n:=n) (stop:=eL) (k:=fun md st=>_) eB md st
   rw[e] at h
   refine tr _ ?_
   split at h
   ·rename_i id ops fuel listed cs
    cases hc:(Nat.beq fuel js.length && (xX .any ops ⟨listed⟩ js && js.all fun j=>(ops[j]?).isSome)) with
    | false=>rw[hc] at h;cases h
    | true =>
      rw[hc] at h
      rw[aC] at hc
      simp only[cond_true] at h
      injection h with h
      exact gI.tail js (aH hc.1) hc.2 (ih _ _ h)
   ·rename_i id ops W fuel listed cs
    cases hc:(Nat.beq fuel js.length && (xX .any ops ⟨listed⟩ js && js.all fun j=>inW W j && (ops[j]?).isSome)) with
    | false=>rw[hc] at h;cases h
    | true =>
      rw[hc] at h
      rw[aC] at hc
      simp only[cond_true] at h
      injection h with h
      exact cX.a0a js (aH hc.1) hc.2 (ih _ _ h)
   ·cases h
 | dQ i r0 b bo hf hfl k ih =>
   intro md st h
   unfold PT.walk PT.tree at h
   obtain ⟨md',dD,e,tr⟩:=fE (P:=P) (n:=n) (stop:=eL) (k:=fun md st=>_) eB md st
   rw[e] at h
   refine tr _ ?_
   split at h
   ·rename_i id ops W fuel listed cs
    cases hc:(aCd ops (inW W) ⟨listed⟩ i && Nat.blt i ops.size) with
    | false=>rw[hc] at h;cases h
    | true =>
      rw[hc] at h
      simp only[cond_true] at h
      split at h
      ·rename_i f' oG t g b' hi
       rw[fG rG,fG kY] at h
       injection h with h1 h2 h3 h4 h5
       subst h1;subst h2;subst h3
       refine cX.aJ7 i bo r0 rfl hc hi hf hfl (fun r=>?_)
       have:=congrFun h5 r
       rw[fM] at this
       have e:(Array.mk listed).setIfInBounds i true=⟨listed.set i true⟩:=by simp
       rw[e]
       exact ih r _ _ this
      ·cases h
   ·cases h
 | fk i p ih =>
   intro md st h
   unfold PT.walk PT.tree at h
   obtain ⟨md',dD,e,tr⟩:=fE (P:=P) (n:=n) (stop:=eL) (k:=fun md st=>_) eB md st
   rw[e] at h
   refine tr _ ?_
   split at h
   ·rename_i id ops W fuel listed cs
    cases hc:isL (Region.ready .any ops ⟨listed⟩) [i] with
    | false=>rw[hc] at h;cases h
    | true =>
      rw[hc] at h
      simp only[cond_true] at h
      injection h with h1
      refine cX.fork [i] (aBF (fuel:=fuel) hc rfl) (fun z hz=>?_)
      simp only[aY,List.not_mem_nil,or_false] at hz
      subst hz
      exact ih _ _ h1
   ·cases h
 | fk2 i j p q ihp ihq =>
   intro md st h
   unfold PT.walk PT.tree at h
   obtain ⟨md',dD,e,tr⟩:=fE (P:=P) (n:=n) (stop:=eL) (k:=fun md st=>_) eB md st
   rw[e] at h
   refine tr _ ?_
   split at h
   ·rename_i id ops W fuel listed cs
    cases hc:isL (Region.ready .any ops ⟨listed⟩) [i,j] with
    | false=>rw[hc] at h;cases h
    | true =>
      rw[hc] at h
      simp only[cond_true] at h
      injection h with _ h1 h2
      refine cX.fork [i,j] (aBF (fuel:=fuel) hc rfl) (fun z hz=>?_)
      simp only[aY,List.not_mem_nil,or_false] at hz
      rcases hz with rfl | rfl
      ·exact ihp _ _ h1
      ·exact ihq _ _ h2
   ·cases h
 | fk3 i j k p q r ihp ihq ihr =>
   intro md st h
   unfold PT.walk PT.tree at h
   obtain ⟨md',dD,e,tr⟩:=fE (P:=P) (n:=n) (stop:=eL) (k:=fun md st=>_) eB md st
   rw[e] at h
   refine tr _ ?_
   split at h
   ·rename_i id ops W fuel listed cs
    cases hc:isL (Region.ready .any ops ⟨listed⟩) [i,j,k] with
    | false=>rw[hc] at h;cases h
    | true =>
      rw[hc] at h
      simp only[cond_true] at h
      injection h with _ h1 h2
      injection h2 with _ h2 h3
      refine cX.fork [i,j,k] (aBF (fuel:=fuel) hc rfl) (fun z hz=>?_)
      simp only[aY,List.not_mem_nil,or_false] at hz
      rcases hz with rfl | rfl | rfl
      ·exact ihp _ _ h1
      ·exact ihq _ _ h2
      ·exact ihr _ _ h3
   ·cases h
 | fk4 i j k l p q r s ihp ihq ihr ihs =>
   intro md st h
   unfold PT.walk PT.tree at h
   obtain ⟨md',dD,e,tr⟩:=fE (P:=P) (n:=n) (stop:=eL) (k:=fun md st=>_) eB md st
   rw[e] at h
   refine tr _ ?_
   split at h
   ·rename_i id ops W fuel listed cs
    cases hc:isL (Region.ready .any ops ⟨listed⟩) [i,j,k,l] with
    | false=>rw[hc] at h;cases h
    | true =>
      rw[hc] at h
      simp only[cond_true] at h
      injection h with _ h1 h2
      injection h1 with _ h0 h1
      injection h2 with _ h2 h3
      refine cX.fork [i,j,k,l] (aBF (fuel:=fuel) hc rfl) (fun z hz=>?_)
      simp only[aY,List.not_mem_nil,or_false] at hz
      rcases hz with rfl | rfl | rfl | rfl
      ·exact ihp _ _ h0
      ·exact ihq _ _ h1
      ·exact ihr _ _ h2
      ·exact ihs _ _ h3
   ·cases h
 | ckn vs hv k ih =>
   intro md st h
   unfold PT.walk PT.tree at h
   obtain ⟨md',dD,e,tr⟩:=fE (P:=P) (n:=n) (stop:=eL) (k:=fun md st=>_) eB md st
   rw[e] at h
   refine tr _ ?_
   split at h
   ·rename_i id ops W j fuel listed cs
    split at h
    ·rename_i vs' md2 s hs
     rw[fM] at h
     injection h with h1 h2
     have:=aGS hs (ih _ _ h2)
     rwa [h1,yD hv] at this
    ·cases h
   ·cases h
 | asm vs k ih =>
   intro md st h
   unfold PT.walk PT.tree at h
   injection h with h1 h2 h3
   exact l3.bY fun hv=>ih hv _ _ (congrFun h3 hv)
 | aNY om hf k ih =>
   intro md st h
   unfold PT.walk PT.tree at h
   obtain ⟨md',dD,e,tr⟩:=fE (P:=P) (n:=n) (stop:=eL) (k:=fun md st=>_) eB md st
   rw[e] at h
   refine tr _ ?_
   split at h
   ·rename_i id ops W j fuel listed cs
    cases hc:(inW W j && Nat.blt j ops.size) with
    | false=>rw[hc] at h;cases h
    | true =>
      rw[hc] at h
      simp only[cond_true] at h
      split at h
      ·rename_i f' oG t hi
       rw[fG rG,fG aBD] at h
       injection h with h1 h2 h3 h4 h5
       subst h1;subst h2;subst h3
       refine eQ.c8 j om hc hi hf (fun r=>?_)
       have:=congrFun h5 r
       rw[fM] at this
       have e:(Array.mk listed).setIfInBounds j true=⟨listed.set j true⟩:=by simp
       rw[e]
       exact ih r _ _ this
      ·cases h
   ·cases h
 | all ks ops listed hint want ps k ih =>
   intro md st h
   unfold PT.walk PT.tree at h
   obtain ⟨md',dD,e,tr⟩:=fE (P:=P) (n:=n) (stop:=eL) (k:=fun md st=>_) eB md st
   rw[e] at h
   refine tr _ ?_
   split at h
   ·rename_i id ops' fuel kB cs
    injection h with _ h1 h2
    injection h1 with h1 _
    injection h1 with _ h1 h4 h5 _
    injection h2 with _ h2 h3
    rw[← h1,← h4,← h5] at h2
    exact gI.toX _ (aGV (ih _ _ h3) _ _ _ h2)
   ·rename_i id ops' W fuel kB cs
    injection h with _ h1 h2
    injection h1 with h1 _
    injection h1 with _ h1 h4 h5 _
    injection h2 with _ h2 h3
    rw[← h1,← h4,← h5] at h2
    exact aGV (ih _ _ h3) _ _ _ h2
   ·cases h
 | @kn A T go ab R mc m k ih =>
   intro md st h
   unfold PT.walk PT.tree at h
   injection h with h1 h2 h3
   cases hm:mc with
   | none =>
     cases md <;> exact fun Γ S β a w hr x hx=>by cases hx
   | some r=>exact ih r hm _ _ (congrFun (congrFun h3 r) hm)
 | aW0 om cs0 want hr =>
   intro md st h
   unfold PT.walk PT.tree at h
   obtain ⟨md',dD,e,tr⟩:=fE (P:=P) (n:=n) (stop:=_) (k:=fun md st=>_) eB md st
   rw[e] at h
   refine tr _ ?_
   obtain ⟨s,hs,h⟩:=lI h (by intro h;cases h)
   injection h with h1 h2
   subst h1;subst h2
   exact Ref.keep _ _ hs hr
 | esc om cs0 want hr =>
   intro md st h
   unfold PT.walk PT.tree at h
   obtain ⟨md',dD,e,tr⟩:=fE (P:=P) (n:=n) (stop:=_) (k:=fun md st=>_) eB md st
   rw[e] at h
   refine tr _ ?_
   obtain ⟨s,hs,h⟩:=lI h (by intro h;cases h)
   injection h with h1 h2
   subst h1;subst h2
   exact Ref.keep _ _ hs hr
 | aD7 om id0 a8t l0 cs0 want hr =>
   intro md st h
   unfold PT.walk PT.tree at h
   obtain ⟨md',dD,e,tr⟩:=fE (P:=P) (n:=n) (stop:=_) (k:=fun md st=>_) eB md st
   rw[e] at h
   refine tr _ ?_
   obtain ⟨s,hs,h⟩:=lI h (by intro h;cases h)
   injection h with h1 h2
   subst h1;subst h2
   exact eO.keep _ _ hs hr
abbrev PT.bk {A T:Type} {go:T→St} {ab:A→Ex × St} {U:Type} {m1:Option ((U ⊕ A) ⊕ U)} {m:U→Option (A ⊕ T)} (id:Nat) (uI:U→St) (p:PT P n (U ⊕ A) U uI (fun x=>match x with | .inl t=>(.exit id,uI t) | .inr a=>ab a) m1) (k:(t:U)→PT P n A T go ab (m t))
 (hid:∀ a,(ab a).1≠.exit id:=by intro a h;repeat' (first | (cases h;done) | (rcases a with a | a))):PT P n A T go ab (bT (bQ m1) m):=.blk id uI hid p k
theorem Ref.pt {A T:Type} {go:T→St} {ab:A→Ex × St} {cs:List Code} {st:St} {m:Option (A ⊕ T)} (p:PT P n A T go ab m) (h:p.walk (.c cs) st=p.tree:=by kernel_rfl):Ref P n cs st m go ab:=p.sound _ _ h
def hl {P:Program} (l:List (Nat × Hn P)) (j:Nat):Hn P:=List.rec (motive:=fun _=>Hn P) (.no []) (fun p _ ih=>bif Nat.beq p.1 j then p.2 else ih) l
theorem bV.eq {P:Program} {f:FuncId} {c:List D} {x:List Go.Dl.Obj} {R:Type} {m m':Option R} {res:R→D} {o:R→List Go.Dl.Obj} (h:bV P f c x m res o) (e:m=m'):bV P f c x m' res o:=e ▸ h
abbrev PT.ap {A T:Type} {go:T→St} {ab:A→Ex × St} {m:Option (A ⊕ T)} {α:Type} (id rem o t:Nat) (E:El α) (a b:List α) (k:PT P n A T go ab m):PT P n A T go ab m:=.ob id rem o (El.jE E a b rfl rfl) (.sl id rem t (jS.app o a b) k)
theorem eO.pt {A T:Type} {go:T→St} {ab:A→Ex × St} {id:Nat} {ops:Array Oper} {l:List Oper} {cs:List Code} {st:St} {m:Option (A ⊕ T)} (p:PT P n A T go ab m) (h:p.walk (.r id ops l cs) st=p.tree:=by kernel_rfl):eO P n ops l cs st m go ab:=p.sound _ _ h
end
end
end Go.Dl

namespace Go.Dl
noncomputable section
variable [dO]
section
variable {P:Program} {n:Nat} {A T U R:Type} {go:T→St} {ab:A→Ex × St} {st dD:St} {m:Option (A ⊕ T)} {cs:List Code} {ops:Array Oper} {W:Nat→Bool}
theorem aL1 {Γ:j6} {S:Mem} {β:dG} {a:Act} {w:World} {o:Oper} {x:Operand} {args:Array Operand} {pS:Array TypeId} {f:FuncId} {cR:List D} {g:List (Nat × Bool)}
 {mc:Option R} {res:R→D} {r:R} (hr:RR Γ S β a w n st)
 (lZ:bV P f cR [] mc res (fun _=>[])) (hh:st.holds g) (ho:o.op = .call ⟨.value x,args,pS⟩)
 (fX:jY st g x args.toList=some (f,cR)) (hf:jX P f=true)
 (jA:cR.all D.shut=true) (hm:mc=some r):xop P o a w fun v w'=>(∃ S' β',jL S S'∧kK β β'∧Core Γ S' β' w' st.cC∧dR S' β' ((res r).mU [] st.cC.length) v)∧Up w w':=by
 unfold jY at fX
 split at fX
 ·rename_i f' k cap hx
  simp only[aA,aI] at fX
  obtain ⟨rfl,oD⟩:=fX
  have hh2:=hh
  have hxr:=gN hr hh2 x
  rw[hx] at hxr
  obtain ⟨vs,hxv,tE⟩:=qG hxr
  have hrun:(execOp a.eval o).run P w = .ok (.enter f' (args.map a.eval++vs)) w:=by
   unfold execOp
   rw[ho]
   simp only[resolve,hxv,Deferred.ofValue,pure_bind,invoke]
   rw[kA hf]
   simp
  unfold xop
  simp only[hrun,tF]
  have hvm:∀ (l:List Operand),fT S β (l.map (st.zN g).lv) (l.map a.eval):=by
   intro l
   induction l with
   | nil=>rfl
   | cons x l ih=>exact ⟨_,_,rfl,gN hr hh2 x,ih⟩
  have hargs:fT S β cR (args.map a.eval++vs).toList:=by
   rw[← oD]
   have e:(args.map a.eval++vs).toList=args.toList.map a.eval++vs.toList:=by simp
   rw[e]
   exact (hvm args.toList).append tE
  have hclosed:fT S (fQ β []) cR (args.map a.eval++vs).toList:=fT.shut jA hargs
  have hnd:mD []=true:=rfl
  have hlt:∀ x∈([]:List Nat),x<st.cC.length:=fun x hx=>by cases hx
  have fL:=hr.core.jP (om:=[]) hnd
  have vY:Core ⟨S,w,uG (fQ β []) [],fQ β []⟩ S (fQ β []) w []:=by
   refine ⟨⟨rfl,rfl,rfl,aM _,fun _ _ _=>rfl,fun _ _ _ _=>rfl,jL.refl _,fL.aGD,fL.inv⟩,fL.holds,fL.cC,fL.out,fL.inj,fL.sep,fun o k y hy hl hk=>⟨(fL.mine o k y hy hl hk).1,fun _=>⟨o,k,y,hy,hl,hk,rfl⟩⟩⟩
  have:=lZ S (fQ β []) w (args.map a.eval++vs).toList vY hclosed r hm
  have e2:(args.map a.eval++vs).toList.toArray=args.map a.eval++vs:=by simp
  rw[e2] at this
  refine this.mono fun e w' he=>?_
  obtain ⟨v,S',βc,rfl,hres,hB,nM⟩:=he
  obtain ⟨pP,hle⟩:=hr.core.after (om:=[]) hnd hlt nM (fun o k ho hk=>absurd ho (Nat.not_lt_zero _))
  rw[aCw] at pP
  have aB8:dR S' (zT β [] st.cC.length βc) ((res r).mU [] st.cC.length) v:=D.kW (fun i=>xS hnd hlt i) hres
  have hnm:∀ b,¬ uG (fQ β []) [] b:=by
   rintro b ⟨o,k,x,hx,_⟩
   simp at hx
  exact ⟨v,rfl,⟨S',_,nM.frame.le,hle,pP,aB8⟩,⟨nM.frame.os,nM.frame.tape,nM.frame.output,nM.frame.size,fun b hb=>nM.frame.block b hb (hnm b)⟩⟩
 ·cases fX
theorem cX.aSU {o:Oper} {x:Operand} {args:Array Operand} {pS:Array TypeId} {t:Nat} {f:FuncId} {cR:List D} {g:List (Nat × Bool)} {b:Bool}
 {mc:Option R} {res:R→D} {m:R→Option (A ⊕ T)} {fuel:Nat} {listed:Array Bool} (i:Nat) (r0:R)
 (lZ:bV P f cR [] mc res (fun _=>[])) (hi:ops[i]? = some o) (hone:Region.ready .any ops listed=[i]) (hWi:W i=false)
 (hg:guardOf ops o st=some g) (hb:iW st g=some b) (ho:o.op = .call ⟨.value x,args,pS⟩) (lY:o.dst=some t)
 (fX:jY st g x args.toList=some (f,cR)) (hf:jX P f=true)
 (hn:(Nat.blt t n && (lQ st t && g.all fun q=>!Nat.beq q.1 t))=true) (jA:cR.all D.shut=true)
 (h:∀ r,cX P n ops W fuel (listed.setIfInBounds i true) cs (st.put (some t) ((res r).mU [] st.cC.length) st.cC g) (m r) go ab) :
 cX P n ops W (fuel+1) listed cs st ((cE b mc r0).bind m) go ab:=by
 intro Γ S β a w hr q hq
 simp only[aC,aN,aW] at hn
 obtain ⟨htn,hfree,hgt⟩:=hn
 have xU:∀ q∈g,q.1≠t:=fun q hq e=>by
  have:=hgt q hq
  rw[e] at this
  simp at this
 unfold vB
 refine ⟨fun he=>absurd (hone.symm.trans he) (by simp),fun i' hi'=>?_⟩
 rw[hone] at hi'
 have hi':i'=i:=by simpa using hi'
 subst hi'
 unfold xOp
 rw[hWi]
 simp only[cond_false]
 unfold aBa
 simp only[hi]
 rcases aAN hr hg hb with ⟨rfl,hh,hw⟩ | ⟨rfl,hh,hw⟩
 ·simp only[cE,if_true] at hq
  cases hm:mc with
  | none=>rw[hm] at hq;cases hq
  | some r =>
    rw[hm,Option.bind_some] at hq
    rw[aE hw]
    refine xW (fun v w' ⟨⟨S',β',hle,hbl,nM,hv⟩,hup⟩=>⟨hup,fun w'' zW=>?_⟩) (aL1 hr lZ hh ho fX hf jA hm)
    have hput:=hr.put nM hle hbl htn hfree xU (fun _=>hv) (fun hno=>absurd hh hno)
    rw[lY]
    exact h r Γ S' β' _ w'' (hput.up zW) q hq
 ·simp only[cE,aR,if_false,Option.bind_some] at hq
  rw[aD (by rw[hw];simp)]
  intro w' j8
  have hput:=(hr.up j8).put (d:=(res r0).mU [] st.cC.length) (v:=undef) (hr.up j8).core (jL.refl _) (kK.refl _) htn hfree xU (fun hy=>absurd hy hh) (fun _=>rfl)
  rw[lY]
  exact h r0 Γ S β _ w' hput q hq
theorem cX.aN2 (i:Nat) {fuel fuel':Nat} {listed:Array Bool} {f:FuncId} {cR:List D} {t:Nat} {g:List (Nat × Bool)} {b:Bool} {mc:Option R} {res:R→D} {m:R→Option (A ⊕ T)} (r0:R)
 (sH:fuel=fuel'+1) (hone:(decide (Region.ready .any ops listed=[i]) && (!W i && Nat.blt i ops.size))=true) (hi:jZ P n ops (jQ ops.toList i) st []=some ⟨f,cR,t,g,b⟩) (lZ:bV P f cR [] mc res (fun _=>[]))
 (h:∀ r,cX P n ops W fuel' (listed.setIfInBounds i true) cs (st.put (some t) ((res r).mU [] st.cC.length) st.cC g) (m r) go ab):cX P n ops W fuel listed cs st ((cE b mc r0).bind m) go ab:=by
 simp only[aC,aB,aQ] at hone
 subst sH
 unfold jZ at hi
 split at hi
 ·rename_i x args pS t' g' oZ hop hd hg hfr
  simp only[St.mM,aA] at hfr
  subst hfr
  split at hi
  ·rename_i b' f' oG hb hca
   obtain ⟨hc,hi⟩:=bZ hi
   simp only[aA,tH.mk.injEq] at hi
   obtain ⟨rfl,rfl,rfl,rfl,rfl⟩:=hi
   simp only[aC] at hc
   have hlt:i<ops.size:=by simpa [aW] using hone.2.2
   have iT:ops[i]? = some (jQ ops.toList i):=by
    simp [jQ,List.getD,hlt]
   exact cX.aSU i r0 lZ iT hone.1 hone.2.1 hg hb hop hd hca hc.1 (by simp only[aC];exact hc.2.2) hc.2.1 h
  ·cases hi
 ·cases hi
end
end
end Go.Dl

namespace Go.Dl
variable [dO]
open Go.RowKit
abbrev Wd (l:Nat):Fence:=Fence.wide.inRound l
def pJ (ops:Array Oper):Bool:=ops.toList.all fun o=>match o.op with
 | .defer _=>false
 | _=>true
theorem aCx {ops:Array Oper} (h:pJ ops=true) {o:Oper} (ho:o∈ops.toList) (c:Call):o.op≠.defer c:=by
 unfold pJ at h
 have:=aN.1 h o ho
 intro e;rw[e] at this;cases this
section
variable {P:Program} {ops:Array Oper} {Q:Exit→Act→World→Prop}
theorem aD8 (l k:Nat) {f:FuncId} {args:Array Value} {w:World} {R:Ending→World→Prop} (h:Calls P f args w R):CallsIn (Wd l) k P f args w R :=
 CallsIn.inRound l (callsIn_wide.2 h)
theorem aFs (l k:Nat) {r:String} {args:Array Value} {w:World} {R:Value→World→Prop} (h:Rows P r args w R):RowsIn (Wd l) k P r args w R :=
 fun c cs _=>let ⟨v,w',hr,s⟩:=h c cs;⟨v,w',hr,by rw[fenced_inRound];exact stepsIn_wide.2 s⟩
theorem wpI {o:Oper} {a:Act} {w:World} {K:Act→World→Prop} (l k:Nat) (hd:∀ c,o.op≠.defer c) (hQ:¬ LetsOut Q) (h:o.wp P a w K Q):o.wpIn (Wd l) k P a w K Q:=by
 refine ⟨fun f _=>trivial,?_⟩
 rw[show o.semAt (Wd l).round a.eval=execOp a.eval o from Oper.semAt_eq _ _ _ hd]
 unfold Oper.wp at h
 generalize (execOp a.eval o).run P w=r at *
 cases r with
 | ok n w' =>
   cases n <;> simp only[Oper.upon] at h <;> simp only[Oper.uponIn]
   all_goals first
    | exact h
    | exact ⟨fun h=>by simp [Fence.wide] at h,aD8 l _ h⟩
    | exact ⟨fun h=>by simp [Fence.wide] at h,aFs l _ h⟩
 | halt x w'=>cases x <;> simp only[Oper.upon] at h <;> simp only[Oper.uponIn] <;> exact h
theorem aFt (l k:Nat) (hQ:¬ LetsOut Q) (hn:pJ ops=true):∀ {os:List Oper} {a:Act} {w:World},(∀ o∈os,o∈ops.toList)→wpList P ops Q os a w→wpListIn (Wd l) k P ops Q os a w
 | [],_,_,_,h=>h
 | o::os,a,w,ho,h=>by
   unfold wpList at h
   unfold wpListIn
   split
   ·rename_i hw
    rw[aE hw] at h
    rcases h with h | h
    ·exact Oper.wpIn_mono (fun a' w' h'=>aFt l k hQ hn (fun o' h'=>ho o' (aT _ h')) h') (wpI l k (aCx hn (ho o (bA ..))) hQ h)
    ·exact absurd h.2 hQ
   ·rename_i hw
    rw[aD hw] at h
    exact ⟨fun f _=>trivial,aFt l k hQ hn (fun o' h'=>ho o' (aT _ h')) h⟩
theorem aFu (l k:Nat) (hQ:¬ LetsOut Q) (hn:pJ ops=true) {md:Region.Mode}:∀ (fuel:Nat) (listed:Array Bool) (a:Act) (w:World),wpAny P md ops Q fuel listed a w→wpAnyIn (Wd l) k P md ops Q fuel listed a w
 | 0,_,_,_,h=>h
 | fuel+1,listed,a,w,h=>by
   refine ⟨h.1,fun i hi=>?_⟩
   have hh:=h.2 i hi
   unfold wpOp at hh
   unfold wpOpIn
   split
   ·rename_i ho;rw[ho] at hh;exact aFu l k hQ hn fuel _ a w hh
   ·rename_i o ho
    rw[ho] at hh
    simp only at hh
    have hm:o∈ops.toList:=by
     obtain ⟨hlt,e⟩:=Array.getElem?_eq_some_iff.1 ho
     rw[← e];simp
    split
    ·rename_i hw
     rw[aE hw] at hh
     rcases hh with hh | hh
     ·exact Oper.wpIn_mono (fun a' w' h'=>aFu l k hQ hn fuel _ a' w' h') (wpI l k (aCx hn hm) hQ hh)
     ·exact absurd hh.2 hQ
    ·rename_i hw
     rw[aD hw] at hh
     exact ⟨fun f _=>trivial,aFu l k hQ hn fuel _ _ w hh⟩
end
def fO (P:Program) (n:Nat) {A T:Type} (c:Code) (st:St) (m:Option (A ⊕ T)) (go:T→St) (ab:A→Ex × St):Prop :=
 ∀ l k Γ S β a w,RR Γ S β a w n st→∀ x,m=some x→c.wpIn (Wd l) k P (Post Γ n go ab x) a w
section
variable {P:Program} {n:Nat} {A T U:Type} {go:T→St} {ab:A→Ex × St} {st:St} {m:Option (A ⊕ T)}
theorem aEF {Γ:j6} {x:A ⊕ T}:¬ LetsOut (Post Γ n go ab x):=by
 rintro ⟨a,w,h⟩
 cases x with
 | inl t=>obtain ⟨h1,_⟩:=h;cases hx:(ab t).1 <;> rw[hx] at h1 <;> cases h1
 | inr t=>cases h.1
theorem aGW {Γ:j6} {x:A ⊕ T}:Exit.then (wpL P [] (Post Γ n go ab x)) (Post Γ n go ab x)=Post Γ n go ab x:=by
 funext e a w;cases e <;> rfl
theorem fO.region {id:Nat} {ops:Array Oper} (hn:pJ ops=true) (h:eO P n ops ops.toList [] st m go ab):fO P n (.region id ops false) st m go ab:=by
 intro l k Γ S β a w hr x hx
 have hh:=h Γ S β a w hr x hx
 rw[aGW] at hh
 exact wpIn_region_list (aFt l k aEF hn (fun o h=>h) hh)
theorem fO.drawn {id:Nat} {ops:Array Oper} (hn:pJ ops=true) (hm:P.follows .mixedOrders=true) (h:gI P n ops ops.size (Array.replicate ops.size false) [] st m go ab):fO P n (.region id ops true) st m go ab:=by
 intro l k Γ S β a w hr x hx
 have hh:=h Γ S β a { w with drawn:=w.drawn+1 } ⟨hr.core.drew,hr.tm,hr.un,hr.size,hr.defers,hr.hand⟩ x hx
 rw[aGW] at hh
 exact wpIn_region_any hm (aFu l k aEF hn _ _ _ _ hh)
theorem fO.rp {id:Nat} {ops:Array Oper} {m':Option (A ⊕ T)} (p:PT P n A T go ab m') (e:m'=m) (hn:pJ ops=true:=by kernel_rfl) (h:p.walk (.r id ops ops.toList []) st=p.tree:=by kernel_rfl):fO P n (.region id ops false) st m go ab :=
 e ▸ fO.region hn (p.sound _ _ h)
theorem fO.dp {id:Nat} {ops:Array Oper} {m':Option (A ⊕ T)} (p:PT P n A T go ab m') (e:m'=m) (hn:pJ ops=true:=by kernel_rfl) (hm:P.follows .mixedOrders=true:=by kernel_rfl)
 (h:p.walk (.y id ops ops.size (List.replicate ops.size false) []) st=p.tree:=by kernel_rfl):fO P n (.region id ops true) st m go ab :=
 e ▸ fO.drawn hn hm (p.sound _ _ h)
theorem fO.skip (t:T) (h:go t=st):fO P n .skip st (some (.inr t)) go ab:=by
 intro l k Γ S β a w hr x hx
 cases hx
 exact wpIn_skip ⟨rfl,S,β,by rw[h];exact hr⟩
theorem fO.exit {id:Nat} (t:A) (h:ab t=(.exit id,st)):fO P n (.exit id) st (some (.inl t)) go ab:=by
 intro l k Γ S β a w hr x hx
 cases hx
 exact wpIn_exit ⟨by rw[h];rfl,S,β,by rw[h];exact hr⟩
theorem fO.keep {c:Code} (l om:List Nat) (dD:St) (h:fO P n c dD m go ab) (hk:st.keep l om=some dD:=by kernel_rfl):fO P n c st m go ab :=
 fun i k Γ S β a w hr x hx=>h i k Γ S _ a w (gC hr hk) x hx
theorem fO.seq {c d:Code} {uI:U→St} {m1:Option (A ⊕ U)} {m2:U→Option (A ⊕ T)} (h1:fO P n c st m1 uI ab) (h2:∀ t,fO P n d (uI t) (m2 t) go ab):fO P n (.seq c d) st (bT m1 m2) go ab:=by
 intro l k Γ S β a w hr q hq
 cases hm:m1 with
 | none=>rw[hm] at hq;cases hq
 | some z =>
   rw[hm] at hq
   refine wpIn_seq (wpIn_mono (h1 l k Γ S β a w hr z hm) fun e a' w' he=>?_)
   cases z with
   | inl t =>
     simp only[bT,aA] at hq
     subst hq
     obtain ⟨vW,S',β',hr'⟩:=he
     have qF:Post Γ n go ab (.inl t) e a' w':=⟨vW,S',β',hr'⟩
     cases hx:(ab t).1 <;> (rw[hx] at vW;subst vW;exact qF)
   | inr u =>
     obtain ⟨rfl,S',β',hr'⟩:=he
     exact h2 u l k Γ S' β' a' w' hr' q hq
theorem fO.cond {c:Operand} {x y:Code} {b:Bool} {m1 m2:Option (A ⊕ T)} (hb:st.lv c = .c (.val (.bool b))) (hg:st.gd=[]) (h1:b=true→fO P n x st m1 go ab) (h2:b=false→fO P n y st m2 go ab) :
 fO P n (.cond c x y) st (if b=true then m1 else m2) go ab:=by
 intro l k Γ S β a w hr q hq
 have he:=aBp hr hg hb
 refine wpIn_cond he ?_
 cases b with
 | true =>
   rw[aE rfl] at hq
   exact h1 rfl l k Γ S β a w hr q hq
 | false =>
   rw[aD (by simp)] at hq
   exact h2 rfl l k Γ S β a w hr q hq
theorem fO.block {id:Nat} {c:Code} {m1:Option ((T ⊕ A) ⊕ T)}
 (h1:fO P n c st m1 go (fun x=>match x with | .inl t=>(.exit id,go t) | .inr a=>ab a)) (hid:∀ a,(ab a).1≠.exit id):fO P n (.block id c) st (bQ m1) go ab:=by
 intro l k Γ S β a w hr q hq
 cases hm:m1 with
 | none=>rw[hm] at hq;cases hq
 | some z =>
   rw[hm] at hq
   refine wpIn_block (wpIn_mono (h1 l k Γ S β a w hr z hm) fun e a' w' he=>?_)
   cases z with
   | inl t =>
     cases t with
     | inl u =>
       simp only[bQ,aA] at hq
       subst hq
       obtain ⟨rfl,S',β',hr'⟩:=he
       show Exit.inBlock id _ (.exit id) a' w'
       simp only[Exit.inBlock,if_true]
       exact ⟨rfl,S',β',hr'⟩
     | inr t =>
       simp only[bQ,aA] at hq
       subst hq
       obtain ⟨vW,S',β',hr'⟩:=he
       have vW:e=(ab t).1.out:=vW
       have qF:Post Γ n go ab (.inl t) e a' w':=⟨vW,S',β',hr'⟩
       have hi:=hid t
       cases hx:(ab t).1 with
       | exit i2 =>
         rw[hx] at vW hi
         subst vW
         have hne:i2≠id:=fun e=>hi (by rw[e])
         show Exit.inBlock id _ (.exit i2) a' w'
         simp only[Exit.inBlock,hne,if_false]
         exact qF
       | _=>rw[hx] at vW;subst vW;exact qF
   | inr u =>
     simp only[bQ,aA] at hq
     subst hq
     obtain ⟨rfl,S',β',hr'⟩:=he
     exact ⟨rfl,S',β',hr'⟩
theorem aU8 {body:Code} {hd:T→St} {f:T→Option (A ⊕ T)} {Γ:j6} {go:U→St} (hb:∀ t,fO P n body (hd t) (f t) hd ab) (l k:Nat) :
 ∀ (j:Nat) (t:T) (x:A) (S:Mem) (β:dG) (a:Act) (w:World),RR Γ S β a w n (hd t)→iter j f t=some x→Code.roundsIn (Wd l) k P body (Post Γ n go ab (.inl x)) j a w
 | 0,t,x,S,β,a,w,hr,h=>by cases h
 | j+1,t,x,S,β,a,w,hr,h=>by
   unfold iter at h
   rw[roundsIn_succ]
   cases hf:f t with
   | none=>rw[hf] at h;cases h
   | some z =>
     rw[hf] at h
     refine wpIn_mono (hb t l k Γ S β a w hr z hf) fun e a' w' he=>?_
     cases z with
     | inl y =>
       simp only[aA] at h
       subst h
       obtain ⟨vW,S',β',hr'⟩:=he
       have qF:Post Γ n go ab (.inl y) e a' w':=⟨vW,S',β',hr'⟩
       cases hx:(ab y).1 <;> (rw[hx] at vW;subst vW;exact qF)
     | inr t' =>
       obtain ⟨rfl,S',β',hr'⟩:=he
       exact aU8 hb l k j t' x S' β' a' w' hr' h
theorem fO.loop {body:Code} {hd:U→St} {f:U→Option (A ⊕ U)} (j:Nat) (t0:U) (h0:hd t0=st) (hb:∀ t,fO P n body (hd t) (f t) hd ab) :
 fO P n (.loop body) st ((iter j f t0).map .inl) go ab:=by
 intro l k Γ S β a w hr q hq
 cases hi:iter j f t0 with
 | none=>rw[hi] at hq;cases hq
 | some x =>
   rw[hi] at hq
   simp only[Option.map_some,aA] at hq
   subst hq
   subst h0
   exact wpIn_mono (wpIn_loop_rounds j (aU8 (go:=go) hb l k j t0 x S β a w hr hi)) fun e a' w' h=>h
theorem put_defers (a:Act) (ds:List Deferred) (d:Option Tmp) (v:Value):({ a with defers:=ds }:Act).put d v={ a.put d v with defers:=ds }:=by cases d <;> rfl
theorem xC {ops:Array Oper} {Q:Exit→Act→World→Prop} {rest:List Oper} (ds:List Deferred):∀ {l:List Oper} {Γ:j6} {S:Mem} {β:dG} {a:Act} {w:World} {st dD:St} {vs:List Bool},
 RR Γ S β a w n st→iG P n ops l st=some (vs,dD)→(∀ b∈vs,b=true) →
 (∀ a' w' S' β',RR Γ S' β' a' w' n dD→wpList P ops Q rest { a' with defers:=ds } w')→wpList P ops Q (l++rest) { a with defers:=ds } w
 | [],_,_,_,_,_,_,_,_,h,he,_,hk=>by
   simp only[iG,aA,aI] at he
   obtain ⟨_,rfl⟩:=he
   exact hk _ _ _ _ h
 | o::l,Γ,S,β,a,w,_,_,_,h,he,hvs,hk=>by
   unfold iG at he
   split at he
   ·rename_i v st1 h1
    split at he
    ·rename_i vs2 oZ h2
     simp only[aA,aI] at he
     obtain ⟨rfl,rfl⟩:=he
     have go:∀ a' w' S' β',RR Γ S' β' a' w' n st1→wpList P ops Q (l++rest) { a' with defers:=ds } w':=fun a' w' S' β' h' =>
      xC ds h' h2 (fun b hb=>hvs b (List.mem_append_right _ hb)) hk
     rcases jF h h1 (fun b hb=>hvs b (List.mem_append_left _ hb)) with ⟨hw,v',w',S',β',hr,nF,_⟩ | ⟨hw,nF⟩
     ·show wpList P ops Q (o::(l++rest)) _ w
      have j8:Region.wanted o (yielded ops ({ a with defers:=ds }:Act).tmps)=true:=hw
      simp only[wpList,j8,if_true]
      left
      have rY:=go _ _ _ _ nF
      have ev:(execOp ({ a with defers:=ds }:Act).eval o)=execOp a.eval o:=rfl
      rcases hr with hr | ⟨hr,rfl⟩
      ·simp only[Oper.wp,ev,Oper.upon,hr,put_defers]
       exact rY
      ·simp only[Oper.wp,ev,Oper.upon,hr,put_defers]
       exact rY
     ·show wpList P ops Q (o::(l++rest)) _ w
      have j8:Region.wanted o (yielded ops ({ a with defers:=ds }:Act).tmps)=false:=hw
      simp only[wpList,j8,aR,if_false,put_defers]
      exact go _ _ _ _ nF
    ·cases he
   ·cases he
theorem Frame.trans {Γ:j6} {S S':Mem} {w w':World} {M:Nat→Prop} {B:dG} (h:Frame Γ S w) (k:Frame ⟨S,w,M,B⟩ S' w') (hM:∀ b,b<Γ.w.heap.size→M b→Γ.M b):Frame Γ S' w' where
 os:=k.os.trans h.os
 tape:=k.tape.trans h.tape
 output:=k.output.trans h.output
 size:=aS h.size k.size
 block:=fun b hb hn=>(k.block b (bH hb h.size) (fun hm=>hn (hM b hb hm))).trans (h.block b hb hn)
 mem:=fun b i hb hn=>(k.mem b i (bH hb h.size) (fun hm=>hn (hM b hb hm))).trans (h.mem b i hb hn)
 le:=h.le.trans k.le
 aDS:=h.aDS
 inv:=h.inv
theorem Core.aNl {Γ:j6} {S:Mem} {β:dG} {w:World} {xs:List Obj} (h:Core Γ S β w xs):Core ⟨S,w,uG β xs,β⟩ S β w xs where
 frame:=⟨rfl,rfl,rfl,aM _,fun _ _ _=>rfl,fun _ _ _ _=>rfl,jL.refl _,h.aGD,h.inv⟩
 holds:=h.holds
 cC:=h.cC
 out:=h.out
 inj:=h.inj
 sep:=h.sep
 mine:=fun o k x hx hl hk=>⟨(h.mine o k x hx hl hk).1,fun _=>⟨o,k,x,hx,hl,hk,rfl⟩⟩
theorem Core.aNm {Γ:j6} {S S':Mem} {β β' B:dG} {w w':World} {xs ys:List Obj} (h:Core Γ S β w xs) (k:Core ⟨S,w,uG β xs,B⟩ S' β' w' ys):Core Γ S' β' w' ys where
 frame:=h.frame.trans k.frame fun b hb ⟨o,q,x,hx,hl,hk,e⟩=>e ▸ (h.mine o q x hx hl hk).2 (e ▸ hb)
 holds:=k.holds
 cC:=k.cC
 out:=k.out
 inj:=k.inj
 sep:=k.sep
 mine:=fun o q x hx hl hk=>by
  obtain ⟨h1,h2⟩:=k.mine o q x hx hl hk
  refine ⟨h1,fun hb=>?_⟩
  obtain ⟨o',q',x',hx',hl',hk',e⟩:=h2 (bH hb h.frame.size)
  exact e ▸ (h.mine o' q' x' hx' hl' hk').2 (e ▸ hb)
def aEs:Obj→Bool
 | .map ..=>false
 | _=>true
theorem Core.grown {Γ:j6} {S:Mem} {β:dG} {w w':World} {xs:List Obj} {row:Option Nat} (h:Core Γ S β w xs) (hx:xs.all aEs=true) (g:w.grownBy w' row)
 (hr:∀ r,row=some r→Γ.w.heap.size≤r∧∃ o:Go.Obj,w.heap[r]? = some o∧o.isCells=false):Core Γ S β w' xs where
 frame:=⟨g.os.trans h.frame.os,g.tape.trans h.frame.tape,g.output.trans h.frame.output,aS h.frame.size g.size,
  fun b hb hn=>(g.block b (bH hb h.frame.size) (fun e=>by have:=(hr b e.symm).1;omega)).trans (h.frame.block b hb hn),h.frame.mem,h.frame.le,h.frame.aDS,h.frame.inv⟩
 holds:=fun b i v hs=>by
  obtain ⟨h1,h2⟩:=h.holds b i v hs
  exact ⟨cell_kept h1 g fun r e=>(hr r e).2,h2⟩
 cC:=fun o x ho=>by
  have hh:=h.cC o x ho
  have hn:aEs x=true:=aN.1 hx x (bL ho)
  have keep:∀ {b:Nat} {c:Array Value} {t:TypeId} {z:Nat × Nat},w.heap[b]? = some (.cells c t z)→w'.heap[b]? = some (.cells c t z):=fun hb =>
   (grownBy_keeps_cells g (fun r e=>(hr r e).2) hb rfl).trans hb
  cases x with
  | dead=>trivial
  | cells l =>
    obtain ⟨k,h1,h2,h3,h4,vs,h5,h6⟩:=hh
    exact ⟨k,h1,h2,h3,h4,vs,keep h5,h6⟩
  | row e wd n get =>
    rcases hh with hh | ⟨k,h1,h2,h3,h4,h5,h6,cur,h7,h8⟩
    ·exact .inl hh
    ·exact .inr ⟨k,h1,h2,h3,h4,h5,h6,cur,keep h7,h8⟩
  | aA5 e bs =>
    obtain ⟨k,h1,h2,h3,h4,h5,h6,cur,fz,h7,h8⟩:=hh
    exact ⟨k,h1,h2,h3,h4,h5,h6,cur,fz,keep h7,h8⟩
  | map z has get=>cases hn
 out:=h.out
 inj:=h.inj
 sep:=h.sep
 mine:=fun o k x ho hl hk=>⟨bH (h.mine o k x ho hl hk).1 g.size,(h.mine o k x ho hl hk).2⟩
def aDT (Γ:j6) (t:Tmp) (d:D):Exit→Act→World→Prop:=fun e a w=>e = .ret ∧
 (a.defers=[]∨∃ D,a.defers=[{ target:=.collected D,args:=#[] }]∧Γ.w.heap.size≤D∧w.heap[D]? = some (.deferred (some []))) ∧
 ∃ S' β',Core Γ S' β' w []∧dR S' β' d (a.tmps.getD t undef)
theorem aSV {fn:Func} {args:List D} {S:Mem} {β:dG} {w:World} {vs:List Value} (hc:Core ⟨S,w,uG β [],β⟩ S β w []) (hv:fT S β args vs) (hn:args.length≤fn.ntmps) :
 RR ⟨S,w,uG β [],β⟩ S β { tmps:=vs.toArray++Array.replicate (fn.ntmps - vs.toArray.size) undef,defers:=[] } w fn.ntmps ⟨aFa args 0,[],[],0⟩:=by
 obtain ⟨hvl,hvg⟩:=hv.get
 refine ⟨hc,fun t _=>?_,fun t ht=>absurd (fun q hq=>by cases hq) ht,by simp;omega,rfl,fun o k _ h=>h⟩
 unfold St.get
 simp only
 rw[aB4]
 by_cases ht:t<args.length
 ·rw[aE (by omega)]
  obtain ⟨u,hu,hru⟩:=hvg t _ (aF ht)
  have e1:args.getD (t - 0) (.c .bot)=args[t]:=by simp [List.getD,aF ht]
  have e2:(vs.toArray++Array.replicate (fn.ntmps - vs.toArray.size) undef).getD t undef=u:=by
   rw[aO,Array.getElem?_append_left (by simp;omega)]
   simp [hu]
  rw[e1,e2];exact hru
 ·rw[aD (by omega)];trivial
theorem bV.aNo {f:FuncId} {fn:Func} {c:Code} {R:Type} {args:List D} {m:Option R} {res:R→D} (t:Tmp)
 (hf:P.funcs[f]? = some fn) (hb:fn.body=some c) (hn:Nat.ble args.length fn.ntmps=true) (hrs:fn.results = #[.tmp t])
 (h:∀ r,m=some r→∀ Γ S β a w,RR Γ S β a w fn.ntmps ⟨aFa args 0,[],[],0⟩→c.wp P (aDT Γ t (res r)) a w):bV P f args [] m res (fun _=>[]):=by
 intro S β w vs hc hv r hr
 have hn:=aX hn
 refine callsIn_wide.1 (callsIn_of_wp_marks (F:=Fence.wide) (n:=9) hf hb trivial (wpIn_wide.2 (Code.wp_mono (fun e a w' he=>?_) (h r hr _ S β _ w (aSV hc hv hn)))) rfl)
 obtain ⟨rfl,hd,S',β',fL,hrel⟩:=he
 have hres:∀ w'',(results fn a.tmps).run P w'' = .ok (a.tmps.getD t undef) w'':=fun w''=>aAH hrs a w'' rfl
 show LeavesInM Fence.wide 9 P fn a.tmps _ a.defers .returning w'
 rcases hd with hd | ⟨D,hd,hD,hK⟩
 ·rw[hd]
  exact ⟨_,hres w',_,S',β',rfl,hrel,fun o k ho _=>by simp at ho,fL⟩
 ·rw[hd]
  refine ⟨by simp,.inl ⟨_,_,rfl,run_takeDeferred hK,?_⟩⟩
  exact ⟨_,hres _,_,S',β',rfl,hrel,fun o k ho _=>by simp at ho,fL.grown rfl (grownBy_putObj' w' D _) fun r e=>by cases e;exact ⟨hD,_,hK,rfl⟩⟩
theorem Ref.at {c:Code} {t:T} {Γ:j6} {S:Mem} {β:dG} {a:Act} {w:World} {Q:Exit→Act→World→Prop} (h:Ref P n [c] st (some (.inr t)) go ab) (hr:RR Γ S β a w n st)
 (hk:∀ a' w' S' β',RR Γ S' β' a' w' n (go t)→Q .normal a' w'):c.wp P Q a w:=by
 refine Code.wp_mono (fun e a' w' he=>?_) (h Γ S β a w hr _ rfl)
 have he':Post Γ n go ab (.inr t) e a' w':=by cases e <;> exact he
 obtain ⟨rfl,S',β',hr'⟩:=he'
 exact hk a' w' S' β' hr'
theorem lK {c x y:Code} {a:Act} {w:World} {Q:Exit→Act→World→Prop} (h:c = .seq x y) (hx:x.wp P (Exit.then (y.wp P Q) Q) a w):c.wp P Q a w:=by rw[h];exact wp_seq hx
end
end Go.Dl
