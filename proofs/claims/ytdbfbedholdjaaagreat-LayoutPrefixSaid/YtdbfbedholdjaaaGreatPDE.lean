/- No conditions. -/
import Derived.Test.YtdbfbedholdjaaaGreatPDC
import Derived.RangeFuncWrites
import Derived.RangeFuncLeaves
import Derived.RangeFuncCalls
import Derived.OrdersIn
import Derived.TacticsIn
import Derived.LoopNIn
set_option linter.unusedVariables false
set_option linter.unusedSimpArgs false
set_option linter.unusedSectionVars false
namespace Go.Dl
noncomputable section
variable [dW]
section
variable {P:Program} {n:Nat} {A T U R:Type} {go:T→St} {ab:A→Ex × St} {st cR:St} {m:Option (A ⊕ T)} {cs:List Code} {c:Code}
theorem aDs (b:Nat):∀ (l:List Obj) (k:Nat),sR [] b [] l k=l
 | [],_=>rfl
 | x::r,k=>by
   show x::sR [] b [] r (k+1)=x::r
   rw[aDs b r (k+1)]
theorem aDt (l:List Obj):oU [] [] l=l:=by
 unfold oU
 rw[aDs]
 simp
theorem c6.aWB {ops:Array Oper} {o:Oper} {rest:List Oper} {x:Operand} {args:Array Operand} {sO:Array TypeId} {t:Nat} {f:FuncId} {dF:List D} {g:List (Nat × Bool)} {b:Bool}
 {mc:Option R} {res:R→D} {m:R→Option (A ⊕ T)} (r0:R)
 (nE:bS P f dF [] mc res (fun _=>[])) (hg:guardOf ops o st=some g) (hb:kA st g=some b) (ho:o.op = .call ⟨.value x,args,sO⟩) (nD:o.dst=some t)
 (gF:kY st g x args.toList=some (f,dF)) (hf:kX P f=true)
 (hn:(Nat.blt t n && (mT st t && g.all fun q=>!Nat.beq q.1 t))=true) (kG:dF.all D.shut=true)
 (h:∀ r,c6 P n ops rest cs (st.put (some t) ((res r).oT [] st.cE.length) st.cE g) (m r) go ab) :
 c6 P n ops (o::rest) cs st ((cH b mc r0).bind m) go ab:=by
 intro Γ S β a w hr q hq
 simp only[aC,aK,aT] at hn
 obtain ⟨htn,hfree,hgt⟩:=hn
 have aAa:∀ q∈g,q.1≠t:=fun q hq e=>by
  have:=hgt q hq
  rw[e] at this
  simp at this
 by_cases hh:st.holds g
 ·have hbt:=oE hb hh
  subst hbt
  simp only[cH,if_true] at hq
  have aAb:Region.wanted o (yielded ops a.tmps)=true:=by
   unfold guardOf at hg
   cases hgd:o.guard with
   | none=>simp [Region.wanted,hgd]
   | some jw =>
     obtain ⟨j,want⟩:=jw
     rw[hgd] at hg
     dsimp only at hg
     cases vR:(ops[j]?).bind (·.dst) with
     | none=>rw[vR] at hg;cases hg
     | some tj =>
       rw[vR] at hg
       simp only[aA] at hg
       subst hg
       have hrel:=hr.tm tj (fun q hq=>hh q (aX _ hq))
       have hxw:=hh (tj,want) (by simp)
       simp only at hxw
       rw[hxw] at hrel
       have hval:a.tmps.getD tj undef = .bool want:=hrel
       have hsome:a.tmps[tj]? = some (.bool want):=by
        rw[aL] at hval
        cases hq:a.tmps[tj]? with
        | none=>rw[hq] at hval;cases hval
        | some u=>rw[hq] at hval;simp only[Option.getD_some] at hval;rw[hval]
       have iX:yielded ops a.tmps j=some want:=by
        unfold yielded
        rw[vR]
        show (match a.tmps[tj]? with | some (.bool b)=>some b | _=>none)=some want
        rw[hsome]
       simp only[Region.wanted,hgd,iX]
       simp
  cases hm:mc with
  | none=>rw[hm] at hq;cases hq
  | some r =>
    rw[hm,Option.bind_some] at hq
    simp only[wpList,aAb,if_true]
    left
    unfold kY at gF
    split at gF
    ·rename_i f' k cap hx
     simp only[aA,aI] at gF
     obtain ⟨rfl,qL⟩:=gF
     have hh2:=hh
     have hxr:=iJ hr hh2 x
     rw[hx] at hxr
     obtain ⟨vs,hxv,vU⟩:=tK hxr
     have hrun:(execOp a.eval o).run P w = .ok (.enter f' (args.map a.eval++vs)) w:=by
      unfold execOp
      rw[ho]
      simp only[resolve,hxv,Deferred.ofValue,pure_bind,invoke]
      rw[lK hf]
      simp
     simp only[Oper.wp,Oper.upon,hrun]
     have hvm:∀ (l:List Operand),gD S β (l.map (st.see g).lv) (l.map a.eval):=by
      intro l
      induction l with
      | nil=>rfl
      | cons x l ih=>exact ⟨_,_,rfl,iJ hr hh2 x,ih⟩
     have hargs:gD S β dF (args.map a.eval++vs).toList:=by
      rw[← qL]
      have e:(args.map a.eval++vs).toList=args.toList.map a.eval++vs.toList:=by simp
      rw[e]
      exact (hvm args.toList).append vU
     have hclosed:gD S (fV β []) dF (args.map a.eval++vs).toList:=gD.shut kG hargs
     have hnd:nO []=true:=rfl
     have hlt:∀ x∈([]:List Nat),x<st.cE.length:=fun x hx=>by cases hx
     have fQ:=hr.core.kT (om:=[]) hnd
     have yT:Core ⟨S,w,xA (fV β []) [],fV β []⟩ S (fV β []) w []:=by
      refine ⟨⟨rfl,rfl,rfl,aQ _,fun _ _ _=>rfl,fun _ _ _ _=>rfl,kQ.refl _,fQ.aGH,fQ.inv⟩,fQ.holds,fQ.cE,fQ.out,fQ.inj,fQ.sep,fun o k y hy hl hk=>⟨(fQ.mine o k y hy hl hk).1,fun _=>⟨o,k,y,hy,hl,hk,rfl⟩⟩⟩
     have:=nE S (fV β []) w (args.map a.eval++vs).toList yT hclosed r hm
     have e2:(args.map a.eval++vs).toList.toArray=args.map a.eval++vs:=by simp
     rw[e2] at this
     refine this.mono fun e w' he=>?_
     obtain ⟨v,S',βc,rfl,hres,hB,oR⟩:=he
     obtain ⟨sL,hle⟩:=hr.core.after (om:=[]) hnd hlt oR (fun o k ho hk=>absurd ho (Nat.not_lt_zero _))
     rw[aDt] at sL
     have aC7:dP S' (aA5 β [] st.cE.length βc) ((res r).oT [] st.cE.length) v:=D.l7 (fun i=>z7 hnd hlt i) hres
     have hput:=hr.put sL oR.frame.le hle htn hfree aAa (fun _=>aC7) (fun hno=>absurd hh hno)
     rw[nD]
     exact h r Γ S' _ _ w' hput q hq
    ·cases gF
 ·have hb0:b=false:=by
   cases b with
   | false=>rfl
   | true=>exact absurd (pQ hb) hh
  subst hb0
  simp only[cH,aN,if_false,Option.bind_some] at hq
  have hwt:Region.wanted o (yielded ops a.tmps)=false:=by
   unfold guardOf at hg
   cases hgd:o.guard with
   | none =>
     rw[hgd] at hg
     simp only[aA] at hg
     subst hg
     exact absurd (fun q hq=>by cases hq) hh
   | some jw =>
     obtain ⟨j,want⟩:=jw
     rw[hgd] at hg
     dsimp only at hg
     cases vR:(ops[j]?).bind (·.dst) with
     | none=>rw[vR] at hg;cases hg
     | some tj =>
       rw[vR] at hg
       simp only[aA] at hg
       subst hg
       obtain ⟨x0,hx0⟩:=oF hb
       have qK:∀ (yl:Option Bool),yielded ops a.tmps j=yl→Region.wanted o (yielded ops a.tmps)=(yl == some want):=by
        intro yl hy
        simp only[Region.wanted,hgd,hy]
       have iX:yielded ops a.tmps j=match a.tmps[tj]? with | some (.bool b)=>some b | _=>none:=by
        unfold yielded
        rw[vR]
        rfl
       by_cases oS:st.holds (st.nK tj)
       ·have hrel:=hr.tm tj oS
        rw[hx0] at hrel
        have hval:a.tmps.getD tj undef = .bool x0:=hrel
        have hsome:a.tmps[tj]? = some (.bool x0):=by
         rw[aL] at hval
         cases hq:a.tmps[tj]? with
         | none=>rw[hq] at hval;cases hval
         | some u=>rw[hq] at hval;simp only[Option.getD_some] at hval;rw[hval]
        rw[qK (some x0) (by rw[iX,hsome])]
        have hne:x0≠want:=by
         intro e
         subst e
         refine hh fun q hq=>?_
         rcases aZ.1 hq with rfl | hq
         ·exact hx0
         ·exact oS q hq
        simpa using hne
       ·have hun:=hr.un tj oS
        have hnone:yielded ops a.tmps j=none:=by
         rw[iX]
         rw[aL] at hun
         cases hq:a.tmps[tj]? with
         | none=>rfl
         | some u =>
           rw[hq] at hun
           simp only[Option.getD_some] at hun
           rw[hun];rfl
        rw[qK none hnone]
        rfl
  simp only[wpList,hwt,aN,if_false]
  have hput:=hr.put (d:=(res r0).oT [] st.cE.length) (v:=undef) hr.core (kQ.refl _) (lU.refl _) htn hfree aAa (fun hy=>absurd hy hh) (fun _=>rfl)
  rw[nD]
  exact h r0 Γ S _ _ w hput q hq
theorem c6.aUk (k k':Nat) {ops:Array Oper} {l:List Oper} {f:FuncId} {dF:List D} {t:Nat} {g:List (Nat × Bool)} {b:Bool} {mc:Option R} {res:R→D} {m:R→Option (A ⊕ T)} (r0:R)
 (hk:(Nat.blt k l.length && Nat.beq k' (k+1))=true) (hi:lB P n ops (kZ l k) st []=some ⟨f,dF,t,g,b⟩) (nE:bS P f dF [] mc res (fun _=>[]))
 (h:∀ r,c6 P n ops (l.drop k') cs (st.put (some t) ((res r).oT [] st.cE.length) st.cE g) (m r) go ab):c6 P n ops (l.drop k) cs st ((cH b mc r0).bind m) go ab:=by
 rw[aC] at hk
 obtain ⟨hk,hk'⟩:=hk
 have hk':=aF hk'
 subst hk'
 rw[qA hk]
 unfold lB at hi
 split at hi
 ·rename_i x args sO t' g' rJ hop hd hg hfr
  simp only[St.n8,aA] at hfr
  subst hfr
  split at hi
  ·rename_i b' f' sW hb hca
   obtain ⟨hc,hi⟩:=bU hi
   simp only[aA,vX.mk.injEq] at hi
   obtain ⟨rfl,rfl,rfl,rfl,rfl⟩:=hi
   simp only[aC] at hc
   refine c6.aWB r0 nE hg hb hop hd hca hc.1 (by simp only[aC];exact hc.2.2) hc.2.1 fun r=>?_
   exact h r
  ·cases hi
 ·cases hi
theorem dN.evH (is keep om:List Nat) {ops:Array Oper} {fuel fuel':Nat} {listed:Array Bool} {vs:List Bool} {cR:St} (sV:fuel=is.length+fuel')
 (hf:(Region.noSelect ops && (l8 ops listed is).isSome)=true) (he:iE P n ops (opsOf ops is) st keep om=some (vs,cR))
 (h:(∀ b∈vs,b=true)→dN P n ops fuel' ((l8 ops listed is).getD listed) cs cR m go ab):dN P n ops fuel listed cs st (bW vs m) go ab :=
 fun Γ S β a w hr x hx=>dN.evC is keep om sV hf he (h (fS hx).1) Γ S β a w hr x hx
theorem bS.aKg {f:FuncId} {R:Type} {args:List D} {m:Option R} {res:R→D} {out:R→List Obj} (h:bS P f args [] m res out) (hs:∀ r,D.shut (res r)=true):bS P f args [] m res (fun _=>[]):=by
 intro S β w vs hc hv r hr
 refine (h S β w vs hc hv r hr).mono fun e w' ⟨v,S',β',he,hd,hb,oR⟩=>?_
 have hd':gD S' β' [res r] [v]:=⟨v,[],rfl,hd,rfl⟩
 obtain ⟨v2,r2,e2,h2,_⟩:=gD.shut (by simp [hs r]) hd'
 simp only[List.cons.injEq] at e2
 obtain ⟨rfl,_⟩:=e2
 exact ⟨v,S',sM,he,h2,fun o k ho _=>by simp at ho,⟨oR.frame,oR.holds,fun o x hx=>by simp at hx,fun _ _=>rfl,
  fun o o' k k' x x' hx=>by simp at hx,fun o k x hx=>by simp at hx,fun o k x hx=>by simp at hx⟩⟩
end
end
end Go.Dl

namespace Go.Dl
noncomputable section
variable [dW]
theorem gD.le {S:Mem} {β:dI}:∀ {l m:List D} {us:List Value},hG eA l m→gD S β l us→gD S β m us
 | _,_,_,.nil,h=>h
 | _,_,_,.cons h1 h2,⟨v,r,e,hv,hr⟩=>⟨v,r,e,h1 S β v hv,gD.le h2 hr⟩
theorem bS.le {P:Program} {f:FuncId} {R:Type} {args args':List D} {xs:List Go.Dl.Obj} {m:Option R} {res:R→D} {out:R→List Go.Dl.Obj} (h:bS P f args xs m res out) (hle:hG eA args' args):bS P f args' xs m res out :=
 fun S β w vs hc hv r hr=>h S β w vs hc (gD.le hle hv) r hr
section
variable {X:Type 1}
def nR {α:Type} (f:α→(α→X)→X) (l:List α):(List α→X)→X :=
 List.rec (motive:=fun _=>(List α→X)→X) (fun k=>k []) (fun a _ ih k=>f a fun a=>ih fun r=>k (a::r)) l
theorem hO {α:Type} {f:α→(α→X)→X} (hf:∀ a k,f a k=k a):∀ (l:List α) (k:List α→X),nR f l k=k l
 | [],k=>rfl
 | a::l,k=>by
   show f a (fun a=>nR f l fun r=>k (a::r))=k (a::l)
   rw[hf,hO hf l]
def aWw (v:Value) (k:Value→X):X:=match v with
 | .int i z=>k (.int i z)
 | v=>k v
theorem aQ9 (v:Value) (k:Value→X):aWw v k=k v:=by cases v <;> rfl
def aL3 (c:C) (k:C→X):X:=match c with
 | .val v=>aWw v fun v=>k (.val v)
 | c=>k c
theorem aAk (c:C) (k:C→X):aL3 c k=k c:=match c with
 | .val v=>aQ9 v fun v=>k (.val v)
 | .bot | .str _ | .nil | .tree .. | .own .. | .ptr .. | .rL .. | .opt .. | .iface .. | .func .. | .cond .. | .self .. | .map _ | .tail ..=>rfl
def aS7 (c:D1) (k:D1→X):X:=match c with
 | .c c=>aL3 c fun c=>k (.c c)
 | .agg l=>nR aL3 l fun l=>k (.agg l)
theorem aNL (c:D1) (k:D1→X):aS7 c k=k c:=match c with
 | .c c=>aAk c fun c=>k (.c c)
 | .agg l=>hO aAk l fun l=>k (.agg l)
def aL4 (c:D) (k:D→X):X:=match c with
 | .c c=>aL3 c fun c=>k (.c c)
 | .agg l=>nR aL3 l fun l=>k (.agg l)
 | .iT l=>nR aS7 l fun l=>k (.iT l)
theorem aAl (c:D) (k:D→X):aL4 c k=k c:=match c with
 | .c c=>aAk c fun c=>k (.c c)
 | .agg l=>hO aAk l fun l=>k (.agg l)
 | .iT l=>hO aNL l fun l=>k (.iT l)
def aRa (x:Go.Dl.Obj) (k:Go.Dl.Obj→X):X:=match x with
 | .cells l=>nR aL3 l fun l=>k (.cells l)
 | x=>k x
theorem aKd (x:Go.Dl.Obj) (k:Go.Dl.Obj→X):aRa x k=k x:=match x with
 | .cells l=>hO aAk l fun l=>k (.cells l)
 | .row .. | .aB9 .. | .map .. | .dead=>rfl
def aRb (p:Nat × D) (k:Nat × D→X):X:=aL4 p.2 fun d=>k (p.1,d)
theorem aKe (p:Nat × D) (k:Nat × D→X):aRb p k=k p:=aAl _ _
def aAm {α:Type} (a:α) (k:α→X):X:=k a
theorem pR {α:Type} (a:α) (k:α→X):aAm a k=k a:=rfl
def aWx (q:Bool) (l:List (Nat × D)) (k:List (Nat × D)→X):X :=
 bif q then (match l with
  | []=>k []
  | p::r=>aRb p fun p=>nR aAm r fun r=>k (p::r)) else nR aRb l k
theorem aRc (q:Bool) (l:List (Nat × D)) (k:List (Nat × D)→X):aWx q l k=k l:=by
 cases q
 ·exact hO aKe _ _
 ·cases l with
  | nil=>rfl
  | cons p r =>
    show aRb p (fun p=>nR aAm r fun r=>k (p::r))=_
    rw[aKe,hO pR]
def rM (q:Bool) (st:St) (k:St→X):X:=aWx q st.tmps fun l=>bif q then nR aAm st.gd fun g=>k ⟨l,st.cE,g,st.h⟩ else nR aRa st.cE fun x=>nR aAm st.gd fun g=>k ⟨l,x,g,st.h⟩
theorem j9 (q:Bool) (st:St) (k:St→X):rM q st k=k st:=by
 unfold rM
 rw[aRc]
 cases q
 ·show nR aRa st.cE _=_
  rw[hO aKd,hO pR]
 ·show nR aAm st.gd _=_
  rw[hO pR]
end
inductive Md where
 | c (cs:List Code)
 | r (id:Nat) (ops:Array Oper) (l:List Oper) (cs:List Code)
 | y (id:Nat) (ops:Array Oper) (fuel:Nat) (listed:List Bool) (cs:List Code)
 | x (id:Nat) (ops:Array Oper) (W:List Nat) (fuel:Nat) (listed:List Bool) (cs:List Code)
def aBj:Op→Bool
 | .call ⟨.value _,_,_⟩=>true
 | _=>false
section
variable (P:Program) (n:Nat)
def oH {A T:Type} (md:Md) (st:St) (m:Option (A ⊕ T)) (go:T→St) (ab:A→Ex × St):Prop :=
 match md with
 | .c cs=>Ref P n cs st m go ab
 | .r _ ops l cs=>c6 P n ops l cs st m go ab
 | .y _ ops fuel listed cs=>dN P n ops fuel ⟨listed⟩ cs st m go ab
 | .x _ ops W fuel listed cs=>bO P n ops (inW W) fuel ⟨listed⟩ cs st m go ab
def aDq (st:St) (cs:List Code):Option (Bool × Md × St) :=
 bif st.gd.isEmpty then some (true,.c cs,st) else (st.keep ((st.tmps.filter fun p=>!(st.gd.any fun q=>Nat.beq q.1 p.1)).map Prod.fst) (List.range st.cE.length)).map fun s=>(false,.c cs,s)
def aGV (md:Md) (st:St):Option (Bool × Md × St) :=
 match md with
 | .c (.seq a b::cs)=>some (true,.c (a::b::cs),st)
 | .c (.skip::cs)=>some (true,.c cs,st)
 | .c (.region id ops false::cs)=>some (true,.r id ops ops.toList cs,st)
 | .c (.region id ops true::cs)=>bif P.follows .mixedOrders then some (true,.y id ops ops.size (List.replicate ops.size false) cs,st) else none
 | .y _ ops 0 listed cs=>bif (Region.ready .any ops ⟨listed⟩).isEmpty then aDq st cs else none
 | .x _ ops _ 0 listed cs=>bif (Region.ready .any ops ⟨listed⟩).isEmpty then aDq st cs else none
 | .r id ops [] cs=>aDq st cs
 | .r id ops (o::l) cs=>bif aBj o.op then none else
  (match nN P n ops o st with
  | some ([],s)=>some (iI o.op,.r id ops l cs,s)
  | _=>none)
 | _=>none
variable {P n}
variable {A T:Type} {go:T→St} {ab:A→Ex × St}
theorem c6.ev1 {ops:Array Oper} {o:Oper} {l:List Oper} {cs:List Code} {st cR:St} {vs:List Bool} {m:Option (A ⊕ T)} (he:nN P n ops o st=some (vs,cR)) (h:c6 P n ops l cs cR m go ab):c6 P n ops (o::l) cs st (bW vs m) go ab:=by
 intro Γ S β a w hr x hx
 obtain ⟨hvs,hm⟩:=fS hx
 have he2:kL P n ops [o] st=some (vs,cR):=by
  show (match nN P n ops o st with
   | some (v,s)=>(match kL P n ops [] s with
     | some (vs,s'')=>some (v++vs,s'')
     | none=>none)
   | none=>none)=_
  rw[he]
  show some (vs++[],cR)=_
  rw[List.append_nil]
 exact vS (Q:=Exit.then (wpL P cs (Post Γ n go ab x)) (Post Γ n go ab x)) (rest:=l) hr he2 hvs fun a' w' S' β' h'=>h Γ S' β' a' w' h' x hm
theorem aBk {md':Md} {st cR:St} {q:Bool} {cs:List Code} {m:Option (A ⊕ T)} (h:aDq st cs=some (q,md',cR)) (hr:oH P n md' cR m go ab):Ref P n cs st m go ab:=by
 unfold aDq at h
 cases hg:st.gd.isEmpty with
 | true =>
   rw[hg] at h
   simp only[cond_true,aA,aI] at h
   obtain ⟨_,rfl,rfl⟩:=h
   exact hr
 | false =>
   rw[hg] at h
   simp only[cond_false,Option.map_eq_some_iff,aI] at h
   obtain ⟨s,hs,_,rfl,rfl⟩:=h
   exact Ref.keep _ _ hs hr
theorem aNM {md md':Md} {st cR:St} {q:Bool} {m:Option (A ⊕ T)} (h:aGV P n md st=some (q,md',cR)) (hr:oH P n md' cR m go ab):oH P n md st m go ab:=by
 unfold aGV at h
 split at h
 ·simp only[aA,aI] at h
  obtain ⟨_,rfl,rfl⟩:=h
  exact Ref.seq hr
 ·simp only[aA,aI] at h
  obtain ⟨_,rfl,rfl⟩:=h
  exact Ref.skip hr
 ·simp only[aA,aI] at h
  obtain ⟨_,rfl,rfl⟩:=h
  exact Ref.region hr
 ·rename_i id ops cs
  cases hf:P.follows .mixedOrders with
  | false=>rw[hf] at h;cases h
  | true =>
    rw[hf] at h
    simp only[cond_true,aA,aI] at h
    obtain ⟨_,rfl,rfl⟩:=h
    refine Ref.eH (c:=.region id ops true) id rfl hf ?_
    have e:(Array.replicate ops.size false)=⟨List.replicate ops.size false⟩:=rfl
    show dN P n ops ops.size (Array.replicate ops.size false) cs st m go ab
    rw[e]
    exact hr
 ·rename_i id ops listed cs
  cases hf:(Region.ready .any ops ⟨listed⟩).isEmpty with
  | false=>rw[hf] at h;cases h
  | true =>
    rw[hf] at h
    exact dN.done hf (aBk h hr)
 ·rename_i id ops W listed cs
  cases hf:(Region.ready .any ops ⟨listed⟩).isEmpty with
  | false=>rw[hf] at h;cases h
  | true =>
    rw[hf] at h
    exact bO.done hf (aBk h hr)
 ·exact c6.nil (aBk h hr)
 ·rename_i id ops o l cs
  cases hc:aBj o.op with
  | true=>rw[hc] at h;cases h
  | false =>
    rw[hc] at h
    simp only[cond_false] at h
    split at h
    ·rename_i s hs
     simp only[aA,aI] at h
     obtain ⟨_,rfl,rfl⟩:=h
     exact c6.ev1 hs hr
    ·cases h
 ·cases h
def atM (id rem:Nat):Md→Bool
 | .r i _ l _=>Nat.beq id 1000000 || Nat.beq i id && Nat.beq l.length rem
 | _=>Nat.beq id 1000000
variable (P n) in
def y5 {X:Type 1} (stop:Md→Bool) (k:Md→St→X) (f:Nat):Md→St→X :=
 Nat.rec (motive:=fun _=>Md→St→X) k (fun _ ih md st=>bif stop md then k md st else
  (match aGV P n md st with
  | some (q,md',s)=>rM q s fun s=>ih md' s
  | none=>k md st)) f
theorem gN {X:Type 1} {stop:Md→Bool} {k:Md→St→X}:∀ (f:Nat) (md:Md) (st:St),∃ md' cR,y5 P n stop k f md st=k md' cR∧∀ m:Option (A ⊕ T),oH P n md' cR m go ab→oH P n md st m go ab
 | 0,md,st=>⟨md,st,rfl,fun _ h=>h⟩
 | f+1,md,st=>by
   show ∃ md' cR,(bif stop md then k md st else (match aGV P n md st with
    | some (q,md',s)=>rM q s fun s=>y5 P n stop k f md' s
    | none=>k md st))=k md' cR∧_
   cases hs:stop md with
   | true=>exact ⟨md,st,rfl,fun _ h=>h⟩
   | false =>
     simp only[cond_false]
     cases h:aGV P n md st with
     | none=>exact ⟨md,st,rfl,fun _ h=>h⟩
     | some x =>
       obtain ⟨q,md1,s⟩:=x
       obtain ⟨md',cR,e,hk⟩:=gN (stop:=stop) (k:=k) f md1 s
       refine ⟨md',cR,?_,fun m hm=>aNM h (hk m hm)⟩
       show rM q s (fun s=>y5 P n stop k f md1 s)=_
       rw[j9]
       exact e
end
inductive Tr:Type 1 where
 | bad
 | ck (vs:List Bool) (t:Tr)
 | ckh (vs:List Bool) {Q:Prop} (t:Q→Tr)
 | cn (b:Bool) (t:Tr)
 | br (b:Bool) (p q:Tr)
 | call (f:FuncId) (dF:List D) (xs:List Go.Dl.Obj) {R:Type} (k:R→Tr)
 | look (f:FuncId) (dF:List D) (b:Bool) {R:Type} (k:R→Tr)
 | leaf (e:Option Ex) (s:St)
 | sub (p:Tr) {U:Type} (k:U→Tr)
 | lp (s:St) {U:Type} (f:U→Tr)
 | ob (x:Go.Dl.Obj) (t:Tr)
 | sl (x:D) (t:Tr)
 | cl (x:C) (t:Tr)
 | op (t:Tr)
 | esc (md:Md) (st:St)
inductive PT (P:Program) (n:Nat):(A T:Type)→(T→St)→(A→Ex × St)→Option (A ⊕ T)→Type 1 where
 | ck {A T:Type} {go:T→St} {ab:A→Ex × St} {m:Option (A ⊕ T)} (vs:List Bool) (k:PT P n A T go ab m):PT P n A T go ab (Go.Dl.bW vs m)
 | ckh {A T:Type} {go:T→St} {ab:A→Ex × St} {m:Option (A ⊕ T)} (vs:List Bool) (k:(hv:∀ b∈vs,b=true)→PT P n A T go ab m):PT P n A T go ab (Go.Dl.bW vs m)
 | cn {A T:Type} {go:T→St} {ab:A→Ex × St} {m:Option (A ⊕ T)} (b:Bool) (k:PT P n A T go ab m):PT P n A T go ab m
 | ite {A T:Type} {go:T→St} {ab:A→Ex × St} {m m':Option (A ⊕ T)} (b:Bool) (p:PT P n A T go ab m) (q:PT P n A T go ab m'):PT P n A T go ab (if b=true then m else m')
 | lt {A T:Type} {go:T→St} {ab:A→Ex × St} {X:Type} {m:X→Option (A ⊕ T)} (v:X) (k:(x:X)→PT P n A T go ab (m x)):PT P n A T go ab (Go.Dl.bN v m)
 | call {A T:Type} {go:T→St} {ab:A→Ex × St} {R:Type} {m:R→Option (A ⊕ T)} {f:FuncId} {dF:List D} {xs:List Go.Dl.Obj} {mc:Option R} {res:R→D} {ou:R→List Go.Dl.Obj} (om:List Nat) (h:bS P f dF xs mc res ou) (k:(r:R)→PT P n A T go ab (m r)):PT P n A T go ab (mc.bind m)
 | look {A T:Type} {go:T→St} {ab:A→Ex × St} {R:Type} {m:R→Option (A ⊕ T)} {f:FuncId} {dF:List D} {mc:Option R} {res:R→D} (r0:R) (b:Bool) (bo:List Nat) (h:bS P f dF [] mc res (fun _=>[])) (hf:∀ r,(res r).flat=true) (k:(r:R)→PT P n A T go ab (m r)):PT P n A T go ab ((cH b mc r0).bind m)
 | yE {A T:Type} {go:T→St} {ab:A→Ex × St} {R:Type} {m:R→Option (A ⊕ T)} {f:FuncId} {dF:List D} {mc:Option R} {res:R→D} (r0:R) (b:Bool) (h:bS P f dF [] mc res (fun _=>[])) (k:(r:R)→PT P n A T go ab (m r)):PT P n A T go ab ((cH b mc r0).bind m)
 | nil {A T:Type} {go:T→St} {ab:A→Ex × St} (om:List Nat) (t:T):PT P n A T go ab (some (.inr t))
 | ret {A T:Type} {go:T→St} {ab:A→Ex × St} (om:List Nat) (t:A):PT P n A T go ab (some (.inl t))
 | jn {A T:Type} {go:T→St} {ab:A→Ex × St} {U:Type} {m1:Option (A ⊕ U)} {m:U→Option (A ⊕ T)} (xC:U→St) (p:PT P n A U xC ab m1) (k:(t:U)→PT P n A T go ab (m t)):PT P n A T go ab (bL m1 m)
 | blk {A T:Type} {go:T→St} {ab:A→Ex × St} {U:Type} {m1:Option ((U ⊕ A) ⊕ U)} {m:U→Option (A ⊕ T)} (id:Nat) (xC:U→St) (hid:∀ a,(ab a).1≠.exit id) (p:PT P n (U ⊕ A) U xC (fun x=>match x with | .inl t=>(.exit id,xC t) | .inr a=>ab a) m1) (k:(t:U)→PT P n A T go ab (m t)):PT P n A T go ab (bL (bJ m1) m)
 | lp {A T:Type} {go:T→St} {ab:A→Ex × St} {U:Type} {mf:U→Option (A ⊕ U)} {K:Nat} {t0:U} (om:List Nat) (hd:U→St) (f:(u:U)→PT P n A U hd ab (mf u)):PT P n A T go ab ((iter K mf t0).map .inl)
 | ob {A T:Type} {go:T→St} {ab:A→Ex × St} {m:Option (A ⊕ T)} (id rem o:Nat) {x y:Go.Dl.Obj} (h:OLe x y) (k:PT P n A T go ab m):PT P n A T go ab m
 | sl {A T:Type} {go:T→St} {ab:A→Ex × St} {m:Option (A ⊕ T)} (id rem t:Nat) {x y:D} (h:eA x y) (k:PT P n A T go ab m):PT P n A T go ab m
 | sk {A T:Type} {go:T→St} {ab:A→Ex × St} {m:Option (A ⊕ T)} (id rem t k:Nat) {x y:C} (h:dY x y) (p:PT P n A T go ab m):PT P n A T go ab m
 | ok {A T:Type} {go:T→St} {ab:A→Ex × St} {m:Option (A ⊕ T)} (id rem o k:Nat) {x y:C} (h:dY x y) (p:PT P n A T go ab m):PT P n A T go ab m
 | fz {A T:Type} {go:T→St} {ab:A→Ex × St} {m:Option (A ⊕ T)} (id rem o:Nat) (k:PT P n A T go ab m):PT P n A T go ab m
 | mv {A T:Type} {go:T→St} {ab:A→Ex × St} {m:Option (A ⊕ T)} (id rem o:Nat) (k:PT P n A T go ab m):PT P n A T go ab m
 | ad {A T:Type} {go:T→St} {ab:A→Ex × St} {m:Option (A ⊕ T)} (id rem t:Nat) (e:TypeId) (wd:Nat) (get:Nat→Nat→C) (k:PT P n A T go ab m):PT P n A T go ab m
 | adc {A T:Type} {go:T→St} {ab:A→Ex × St} {m:Option (A ⊕ T)} (id rem o j:Nat) (e:TypeId) (wd:Nat) (get:Nat→Nat→C) (k:PT P n A T go ab m):PT P n A T go ab m
 | ex {A T:Type} {go:T→St} {ab:A→Ex × St} {m:Option (A ⊕ T)} (is:List Nat) (k:PT P n A T go ab m):PT P n A T go ab m
 | lT {A T:Type} {go:T→St} {ab:A→Ex × St} {m:Option (A ⊕ T)} (is:List Nat) (vs:List Bool) (k:PT P n A T go ab m):PT P n A T go ab (Go.Dl.bW vs m)
 | aUh {A T:Type} {go:T→St} {ab:A→Ex × St} {m:Option (A ⊕ T)} (is:List Nat) (vs:List Bool) (k:(hv:∀ b∈vs,b=true)→PT P n A T go ab m):PT P n A T go ab (Go.Dl.bW vs m)
 | tx {A T:Type} {go:T→St} {ab:A→Ex × St} {m:Option (A ⊕ T)} (W:List Nat) (k:PT P n A T go ab m):PT P n A T go ab m
 | tl {A T:Type} {go:T→St} {ab:A→Ex × St} {m:Option (A ⊕ T)} (js:List Nat) (k:PT P n A T go ab m):PT P n A T go ab m
 | fF {A T:Type} {go:T→St} {ab:A→Ex × St} {R:Type} {m:R→Option (A ⊕ T)} {f:FuncId} {dF:List D} {mc:Option R} {res:R→D} (i:Nat) (r0:R) (b:Bool) (bo:List Nat) (h:bS P f dF [] mc res (fun _=>[])) (hf:∀ r,((res r).flat && (res r).exact.isSome)=true) (k:(r:R)→PT P n A T go ab (m r)):PT P n A T go ab ((cH b mc r0).bind m)
 | esc {A T:Type} {go:T→St} {ab:A→Ex × St} {m:Option (A ⊕ T)} (om:List Nat) (cs:List Code) (st:St) (h:Ref P n cs st m go ab):PT P n A T go ab m
 | aEK {A T:Type} {go:T→St} {ab:A→Ex × St} {m:Option (A ⊕ T)} (om:List Nat) (id:Nat) (ops:Array Oper) (l:List Oper) (cs:List Code) (st:St) (h:c6 P n ops l cs st m go ab):PT P n A T go ab m
section
variable {P:Program} {n:Nat}
def PT.tree {A T:Type} {go:T→St} {ab:A→Ex × St} {m:Option (A ⊕ T)}:PT P n A T go ab m→Tr
 | .ck vs k=>.ck vs k.tree
 | .ckh vs k=>.ckh vs fun hv=>(k hv).tree
 | .cn b k=>.cn b k.tree
 | .ite b p q=>.br b p.tree q.tree
 | .lt v k=>(k v).tree
 | .call (f:=f) (dF:=dF) (xs:=xs) _ _ k=>.call f dF xs fun r=>(k r).tree
 | .look (f:=f) (dF:=dF) _ b _ _ _ k=>.look f dF b fun r=>(k r).tree
 | .yE (f:=f) (dF:=dF) _ b _ k=>.look f dF b fun r=>(k r).tree
 | .nil _ t=>.leaf none (go t)
 | .ret _ t=>.leaf (some (ab t).1) (ab t).2
 | .jn _ p k=>.sub p.tree fun t=>(k t).tree
 | .blk _ _ _ p k=>.sub p.tree fun t=>(k t).tree
 | .lp (t0:=t0) _ hd f=>.lp (hd t0) fun u=>(f u).tree
 | .ob (x:=x) _ _ _ _ k=>.ob x k.tree
 | .sl (x:=x) _ _ _ _ k=>.sl x k.tree
 | .sk (x:=x) _ _ _ _ _ p=>.cl x p.tree
 | .ok (x:=x) _ _ _ _ _ p=>.cl x p.tree
 | .fz _ _ _ k=>.op k.tree
 | .mv _ _ _ k=>.op k.tree
 | .ad _ _ _ _ _ _ k=>.op k.tree
 | .adc _ _ _ _ _ _ _ k=>.op k.tree
 | .ex _ k=>.op k.tree
 | .lT _ vs k=>.ck vs k.tree
 | .aUh _ vs k=>.ckh vs fun hv=>(k hv).tree
 | .tx _ k=>.op k.tree
 | .tl _ k=>.op k.tree
 | .fF (f:=f) (dF:=dF) _ _ b _ _ _ k=>.look f dF b fun r=>(k r).tree
 | .esc _ cs st _=>.esc (.c cs) st
 | .aEK _ id ops l cs st _=>.esc (.r id ops l cs) st
def keys (st:St):List Nat:=st.tmps.map Prod.fst
def kept (st:St) (want:St) (om:List Nat) (k:St→Tr):Tr :=
 match st.keep (keys want) om with
 | some s=>k s
 | none=>.bad
def fJ:Md→Bool:=fun _=>false
def atD:Md→Bool
 | .c (.region _ _ true::_)=>true
 | _=>false
def eT:Nat:=100000
variable (P n) in
def ckW (need:Nat) (k:List Bool→Md→St→Tr) (f:Nat):List Bool→Md→St→Tr :=
 Nat.rec (motive:=fun _=>List Bool→Md→St→Tr) (fun _ _ _=>.bad) (fun _ ih acc=>y5 P n fJ (fun md st=>match md with
  | .r id ops (o::l) cs=>bif aBj o.op then .bad else (match nN P n ops o st with
    | some (v::vs,s)=>rM false s fun s=>nR aAm (acc++(v::vs)) fun acc=>bif Nat.ble need acc.length then k acc (.r id ops l cs) s else ih acc (.r id ops l cs) s
    | _=>.bad)
  | _=>.bad) eT) f
variable (P n) in
def evX (is:List Nat) (md:Md) (st:St) (k:List Bool→Md→St→Tr):Tr :=
 match md with
 | .y id ops fuel listed cs=>bif Nat.ble is.length fuel && Region.noSelect ops then (match l8 ops ⟨listed⟩ is,kL P n ops (opsOf ops is) st with
   | some l2,some (vs,s)=>(match s.keep (keys s) (List.range s.cE.length) with
     | some s2=>rM false s2 fun s2=>nR aAm vs fun vs=>nR aAm l2.toList fun l2=>k vs (.y id ops (fuel - is.length) l2 cs) s2
     | none=>.bad)
   | _,_=>.bad) else .bad
 | .x id ops W fuel listed cs=>bif Nat.ble is.length fuel && Region.noSelect ops then (match jH .any ops (inW W) ⟨listed⟩ is,kL P n ops (opsOf ops is) st with
   | some l2,some (vs,s)=>(match s.keep (keys s) (List.range s.cE.length) with
     | some s2=>rM false s2 fun s2=>nR aAm vs fun vs=>nR aAm l2.toList fun l2=>k vs (.x id ops W (fuel - is.length) l2 cs) s2
     | none=>.bad)
   | _,_=>.bad) else .bad
 | _=>.bad
def PT.walk {A T:Type} {go:T→St} {ab:A→Ex × St} {m:Option (A ⊕ T)}:PT P n A T go ab m→Md→St→Tr
 | .ck vs k=>ckW P n vs.length (fun acc md s=>.ck acc (k.walk md s)) vs.length []
 | .ckh vs k=>ckW P n vs.length (fun acc md s=>.ckh acc fun hv=>(k hv).walk md s) vs.length []
 | .cn b k=>y5 P n fJ (fun md st=>match md with
   | .c (.cond x c d::cs)=>bif st.gd.isEmpty then (match st.lv x with
     | .c (.val (.bool true))=>.cn true (k.walk (.c (c::cs)) st)
     | .c (.val (.bool false))=>.cn false (k.walk (.c (d::cs)) st)
     | _=>.bad) else .bad
   | _=>.bad) eT
 | .ite b p q=>y5 P n fJ (fun md st=>match md with
   | .c (.cond x c d::cs)=>bif st.gd.isEmpty then (match st.lv x with
     | .c (.val (.bool b))=>.br b (p.walk (.c (c::cs)) st) (q.walk (.c (d::cs)) st)
     | _=>.bad) else .bad
   | _=>.bad) eT
 | .lt v k=>(k v).walk
 | .call (res:=res) (ou:=ou) om _ k=>y5 P n fJ (fun md st=>match md with
   | .r id ops (o::l) cs=>(match qO P n o st om with
     | some (f,dF,t)=>nR aL4 dF fun dF=>nR aRa (jP st om) fun xs=>.call f dF xs fun r=>rM false (st.put (some t) ((res r).oT om st.cE.length) (oU om (ou r) st.cE) []) fun s=>(k r).walk (.r id ops l cs) s
     | none=>.bad)
   | _=>.bad) eT
 | .look (res:=res) r0 b bo _ _ k=>y5 P n fJ (fun md st=>match md with
   | .r id ops (o::l) cs=>(match lB P n ops o st bo with
     | some ⟨f,dF,t,g,b⟩=>nR aL4 dF fun dF=>.look f dF b fun r=>rM false (st.put (some t) (res r) st.cE g) fun s=>(k r).walk (.r id ops l cs) s
     | none=>.bad)
   | _=>.bad) eT
 | .yE (res:=res) r0 b _ k=>y5 P n fJ (fun md st=>match md with
   | .r id ops (o::l) cs=>(match lB P n ops o st [] with
     | some ⟨f,dF,t,g,b⟩=>nR aL4 dF fun dF=>.look f dF b fun r=>rM false (st.put (some t) ((res r).oT [] st.cE.length) st.cE g) fun s=>(k r).walk (.r id ops l cs) s
     | none=>.bad)
   | _=>.bad) eT
 | .nil om t=>y5 P n fJ (fun md st=>match md with
   | .c []=>kept st (go t) om fun s=>.leaf none s
   | _=>.bad) eT
 | .ret om t=>y5 P n fJ (fun md st=>match md with
   | .c (.ret::_)=>kept st (ab t).2 om fun s=>.leaf (some .ret) s
   | .c (.exit id::_)=>kept st (ab t).2 om fun s=>.leaf (some (.exit id)) s
   | _=>.bad) eT
 | .jn xC p k=>y5 P n fJ (fun md st=>match md with
   | .c (c::cs)=>.sub (p.walk (.c [c]) st) fun t=>(k t).walk (.c cs) (xC t)
   | _=>.bad) eT
 | .blk id xC _ p k=>y5 P n fJ (fun md st=>match md with
   | .c (.block i c::cs)=>bif Nat.beq i id then .sub (p.walk (.c [c]) st) fun t=>(k t).walk (.c cs) (xC t) else .bad
   | _=>.bad) eT
 | .lp (t0:=t0) om hd f=>y5 P n fJ (fun md st=>match md with
   | .c (.loop c::_)=>kept st (hd t0) om fun s=>.lp s fun u=>(f u).walk (.c [c]) (hd u)
   | _=>.bad) eT
 | .ob (y:=y) id rem o _ k=>y5 P n (atM id rem) (fun md st=>bif Nat.blt o st.cE.length then .ob (st.cE.getD o .dead) (rM false (st.setObj o y) fun s=>k.walk md s) else .bad) eT
 | .sl (y:=y) id rem t _ k=>y5 P n (atM id rem) (fun md st=>bif st.gd.isEmpty then .sl (st.get t) (rM false (st.jD t y) fun s=>k.walk md s) else .bad) eT
 | .sk (y:=y) id rem t k _ p=>y5 P n (atM id rem) (fun md st=>bif st.gd.isEmpty then (match st.get t with
   | .agg l=>(match l[k]? with
     | some x=>.cl x (rM false (st.jD t (.agg (l.set k y))) fun s=>p.walk md s)
     | none=>.bad)
   | _=>.bad) else .bad) eT
 | .ok (y:=y) id rem o k _ p=>y5 P n (atM id rem) (fun md st=>bif Nat.blt o st.cE.length then (match st.cE.getD o .dead with
   | .cells l=>(match l[k]? with
     | some x=>.cl x (rM false (st.setObj o (.cells (l.set k y))) fun s=>p.walk md s)
     | none=>.bad)
   | _=>.bad) else .bad) eT
 | .fz id rem o k=>y5 P n (atM id rem) (fun md st=>match st.freeze o with
   | some s=>.op (rM false s fun s=>k.walk md s)
   | none=>.bad) eT
 | .mv id rem o k=>y5 P n (atM id rem) (fun md st=>bif Nat.ble st.h st.cE.length then (match st.move o with
   | some s=>.op (rM false s fun s=>k.walk md s)
   | none=>.bad) else .bad) eT
 | .ad id rem t e wd get k=>y5 P n (atM id rem) (fun md st=>bif aID (st.get t) && (st.gd.isEmpty && Nat.ble st.h st.cE.length) then .op (rM false (st.aE5 t (.row e wd 0 get)) fun s=>k.walk md s) else .bad) eT
 | .adc id rem o j e wd get k=>y5 P n (atM id rem) (fun md st=>match st.nM o j (.row e wd 0 get) with
   | some s=>.op (rM false s fun s=>k.walk md s)
   | none=>.bad) eT
 | .ex is k=>y5 P n fJ (fun md st=>evX P n is md st fun vs md s=>match vs with
   | []=>.op (k.walk md s)
   | _=>.bad) eT
 | .lT is _ k=>y5 P n fJ (fun md st=>evX P n is md st fun vs md s=>.ck vs (k.walk md s)) eT
 | .aUh is _ k=>y5 P n fJ (fun md st=>evX P n is md st fun vs md s=>.ckh vs fun hv=>(k hv).walk md s) eT
 | .tx W k=>y5 P n fJ (fun md st=>match md with
   | .y id ops fuel listed cs=>.op (k.walk (.x id ops W fuel listed cs) st)
   | _=>.bad) eT
 | .tl js k=>y5 P n fJ (fun md st=>match md with
   | .y id ops fuel listed cs=>bif Nat.beq fuel js.length && (aAd .any ops ⟨listed⟩ js && js.all fun j=>(ops[j]?).isSome) then .op (k.walk (.r id ops (opsOf ops js) cs) st) else .bad
   | .x id ops W fuel listed cs=>bif Nat.beq fuel js.length && (aAd .any ops ⟨listed⟩ js && js.all fun j=>inW W j && (ops[j]?).isSome) then .op (k.walk (.r id ops (opsOf ops js) cs) st) else .bad
   | _=>.bad) eT
 | .fF (res:=res) i r0 b bo _ _ k=>y5 P n fJ (fun md st=>match md with
   | .x id ops W (fuel+1) listed cs=>bif aDc ops (inW W) ⟨listed⟩ i && Nat.blt i ops.size then (match lB P n ops (kZ ops.toList i) st bo with
     | some ⟨f,dF,t,g,b⟩=>nR aL4 dF fun dF=>nR aAm (listed.set i true) fun l2=>.look f dF b fun r=>rM false (st.put (some t) (res r) st.cE g) fun s=>(k r).walk (.x id ops W fuel l2 cs) s
     | none=>.bad) else .bad
   | _=>.bad) eT
 | .esc om _ want _=>y5 P n atD (fun md st=>kept st want om fun s=>.esc md s) eT
 | .aEK om id _ l _ want _=>y5 P n (atM id l.length) (fun md st=>kept st want om fun s=>.esc md s) eT
theorem oH.conv {A T:Type} {go:T→St} {ab:A→Ex × St} {m:Option (A ⊕ T)} {md:Md} {st cR:St} (hc:Conv n st cR) (h:oH P n md cR m go ab):oH P n md st m go ab:=by
 cases md with
 | c cs=>exact Ref.conv hc h
 | r id ops l cs=>exact c6.conv hc h
 | y id ops fuel listed cs=>exact dN.conv hc h
 | x id ops W fuel listed cs=>exact bO.conv hc h
theorem qC {st want:St} {om:List Nat} {k:St→Tr} {t:Tr} (h:kept st want om k=t) (ht:t≠.bad):∃ s,st.keep (keys want) om=some s∧k s=t:=by
 unfold kept at h
 split at h
 ·rename_i s hs
  exact ⟨s,hs,h⟩
 ·exact absurd h.symm ht
theorem oH.bW {A T:Type} {go:T→St} {ab:A→Ex × St} {m:Option (A ⊕ T)} {md:Md} {st:St} {vs:List Bool} (h:(∀ b∈vs,b=true)→oH P n md st m go ab):oH P n md st (Go.Dl.bW vs m) go ab:=by
 cases md with
 | c cs=>exact fun Γ S β a w hr x hx=>(h (fS hx).1) Γ S β a w hr x (fS hx).2
 | r id ops l cs=>exact fun Γ S β a w hr x hx=>(h (fS hx).1) Γ S β a w hr x (fS hx).2
 | y id ops fuel listed cs=>exact fun Γ S β a w hr x hx=>(h (fS hx).1) Γ S β a w hr x (fS hx).2
 | x id ops W fuel listed cs=>exact fun Γ S β a w hr x hx=>(h (fS hx).1) Γ S β a w hr x (fS hx).2
theorem aFQ {α:Type} {m:Option α}:∀ {vs:List Bool},(∀ b∈vs,b=true)→Go.Dl.bW vs m=m
 | [],_=>rfl
 | v::vs,h=>by
   show (if v=true then Go.Dl.bW vs m else none)=m
   rw[aH (h v (List.mem_cons_self ..)),aFQ fun b hb=>h b (aX _ hb)]
theorem aDr {α:Type} {m:Option α}:∀ (a b:List Bool),Go.Dl.bW (a++b) m=Go.Dl.bW a (Go.Dl.bW b m)
 | [],_=>rfl
 | v::a,b=>by
   show (if v=true then Go.Dl.bW (a++b) m else none)=(if v=true then Go.Dl.bW a (Go.Dl.bW b m) else none)
   rw[aDr a b]
theorem aIP {A T:Type} {go:T→St} {ab:A→Ex × St} {need:Nat} {k:List Bool→Md→St→Tr}:∀ (f:Nat) (acc:List Bool) (md:Md) (st:St) (t:Tr),ckW P n need k f acc md st=t→t≠.bad →
 ∃ vs2 md' cR,k (acc++vs2) md' cR=t∧True∧∀ m:Option (A ⊕ T),oH P n md' cR m go ab→oH P n md st (Go.Dl.bW vs2 m) go ab
 | 0,acc,md,st,t,h,ht=>absurd h.symm ht
 | f+1,acc,md,st,t,h,ht=>by
   have h:y5 P n fJ (fun md st=>match md with
    | .r id ops (o::l) cs=>bif aBj o.op then Tr.bad else (match nN P n ops o st with
      | some (v::vs,s)=>rM false s fun s=>nR aAm (acc++(v::vs)) fun acc=>bif Nat.ble need acc.length then k acc (.r id ops l cs) s else ckW P n need k f acc (.r id ops l cs) s
      | _=>.bad)
    | _=>.bad) eT md st=t:=h
   obtain ⟨md',cR,e,tr⟩:=gN (A:=A) (T:=T) (go:=go) (ab:=ab) (P:=P) (n:=n) (stop:=fJ) (k:=fun md st=>match md with
    | .r id ops (o::l) cs=>bif aBj o.op then Tr.bad else (match nN P n ops o st with
      | some (v::vs,s)=>rM false s fun s=>nR aAm (acc++(v::vs)) fun acc=>bif Nat.ble need acc.length then k acc (.r id ops l cs) s else ckW P n need k f acc (.r id ops l cs) s
      | _=>.bad)
    | _=>.bad) eT md st
   rw[e] at h
   split at h
   ·rename_i id ops o l cs
    cases hc:aBj o.op with
    | true=>rw[hc] at h;exact absurd h.symm ht
    | false =>
      rw[hc] at h
      simp only[cond_false] at h
      split at h
      ·rename_i v vs' s hs
       rw[j9,hO pR] at h
       cases hn:Nat.ble need (acc++(v::vs')).length with
       | true =>
         rw[hn] at h
         exact ⟨v::vs',_,_,h,trivial,fun m hm=>tr _ (c6.ev1 hs hm)⟩
       | false =>
         rw[hn] at h
         obtain ⟨vs3,md2,rJ,e2,_,tr2⟩:=aIP (A:=A) (T:=T) (go:=go) (ab:=ab) f _ _ _ _ h ht
         refine ⟨(v::vs')++vs3,md2,rJ,by rw[← List.append_assoc];exact e2,trivial,fun m hm=>?_⟩
         rw[aDr]
         exact tr _ (c6.ev1 hs (tr2 m hm))
      ·exact absurd h.symm ht
   ·exact absurd h.symm ht
theorem aKf {ops:Array Oper} {l:List Oper} {st s s2:St} {vs:List Bool} {k om:List Nat} (h:kL P n ops l st=some (vs,s)) (h2:s.keep k om=some s2):iE P n ops l st k om=some (vs,s2):=by
 unfold iE
 rw[h]
 show (s.keep k om).map _=_
 rw[h2]
 rfl
theorem aIQ {A T:Type} {go:T→St} {ab:A→Ex × St} {is:List Nat} {md:Md} {st:St} {k:List Bool→Md→St→Tr} {t:Tr} (h:evX P n is md st k=t) (ht:t≠.bad) :
 ∃ vs md' cR,k vs md' cR=t∧∀ m:Option (A ⊕ T),oH P n md' cR m go ab→oH P n md st (Go.Dl.bW vs m) go ab:=by
 unfold evX at h
 split at h
 ·rename_i id ops fuel listed cs
  cases hc:(Nat.ble is.length fuel && Region.noSelect ops) with
  | false=>rw[hc] at h;exact absurd h.symm ht
  | true =>
    rw[hc] at h
    rw[aC] at hc
    have hle:=aS hc.1
    simp only[cond_true] at h
    split at h
    ·rename_i l2 vs s hf he
     split at h
     ·rename_i s2 hk
      rw[j9,hO pR,hO pR] at h
      refine ⟨_,_,_,h,fun m hm=>dN.evC is (keys s) (List.range s.cE.length) (fuel':=fuel - is.length) (by omega) (by rw[hc.2,hf];rfl) (aKf he hk) ?_⟩
      rw[hf]
      exact hm
     ·exact absurd h.symm ht
    ·exact absurd h.symm ht
 ·rename_i id ops W fuel listed cs
  cases hc:(Nat.ble is.length fuel && Region.noSelect ops) with
  | false=>rw[hc] at h;exact absurd h.symm ht
  | true =>
    rw[hc] at h
    rw[aC] at hc
    have hle:=aS hc.1
    simp only[cond_true] at h
    split at h
    ·rename_i l2 vs s hf he
     split at h
     ·rename_i s2 hk
      rw[j9,hO pR,hO pR] at h
      refine ⟨_,_,_,h,fun m hm=>bO.evC is (keys s) (List.range s.cE.length) (fuel':=fuel - is.length) (by omega) (by rw[hc.2,hf];rfl) (aKf he hk) ?_⟩
      rw[hf]
      exact hm
     ·exact absurd h.symm ht
    ·exact absurd h.symm ht
 ·exact absurd h.symm ht
theorem PT.sound {A T:Type} {go:T→St} {ab:A→Ex × St} {m:Option (A ⊕ T)} (p:PT P n A T go ab m):∀ (md:Md) (st:St),p.walk md st=p.tree→oH P n md st m go ab:=by
 induction p with
 | ck vs k ih =>
   intro md st h
   unfold PT.walk PT.tree at h
   obtain ⟨vs2,md',cR,e,h,tr⟩:=aIP (A:=_) (T:=_) (go:=_) (ab:=_) (P:=P) (n:=n) (need:=vs.length) (k:=fun acc md s=>Tr.ck acc (k.walk md s)) vs.length [] md st _ h (by intro h;cases h)
   injection e with h1 h2
   rw[List.nil_append] at h1
   rw[← h1]
   exact tr _ (ih _ _ h2)
 | ckh vs k ih =>
   intro md st h
   unfold PT.walk PT.tree at h
   obtain ⟨vs2,md',cR,e,h,tr⟩:=aIP (A:=_) (T:=_) (go:=_) (ab:=_) (P:=P) (n:=n) (need:=vs.length) (k:=fun acc md s=>Tr.ckh acc fun hv=>(k hv).walk md s) vs.length [] md st _ h (by intro h;cases h)
   injection e with h1 h2 h3
   rw[List.nil_append] at h1
   refine oH.bW fun hv=>?_
   have:=tr _ (ih hv _ _ (congrFun h3 hv))
   rwa [h1,aFQ hv] at this
 | cn b k ih =>
   intro md st h
   unfold PT.walk PT.tree at h
   obtain ⟨md',cR,e,tr⟩:=gN (P:=P) (n:=n) (stop:=fJ) (k:=fun md st=>_) eT md st
   rw[e] at h
   refine tr _ ?_
   split at h
   ·rename_i x c d cs
    cases hg:cR.gd.isEmpty with
    | false=>rw[hg] at h;cases h
    | true =>
      rw[hg] at h
      simp only[cond_true] at h
      split at h
      ·rename_i hb
       injection h with h1 h2
       have:=Ref.cond (x:=c) (y:=d) (m1:=_) (m2:=none) hb (by simpa using hg) (fun _=>ih _ _ h2) (fun h=>by cases h)
       rw[aH rfl] at this
       exact this
      ·rename_i hb
       injection h with h1 h2
       have:=Ref.cond (x:=c) (y:=d) (m1:=none) (m2:=_) hb (by simpa using hg) (fun h=>by cases h) (fun _=>ih _ _ h2)
       rw[aG (by simp)] at this
       exact this
      ·cases h
   ·cases h
 | ite b p q ihp ihq =>
   intro md st h
   unfold PT.walk PT.tree at h
   obtain ⟨md',cR,e,tr⟩:=gN (P:=P) (n:=n) (stop:=fJ) (k:=fun md st=>_) eT md st
   rw[e] at h
   refine tr _ ?_
   split at h
   ·rename_i x c d cs
    cases hg:cR.gd.isEmpty with
    | false=>rw[hg] at h;cases h
    | true =>
      rw[hg] at h
      simp only[cond_true] at h
      split at h
      ·rename_i b' hb
       injection h with h1 h2 h3
       subst h1
       exact Ref.cond hb (by simpa using hg) (fun _=>ihp _ _ h2) (fun _=>ihq _ _ h3)
      ·cases h
   ·cases h
 | lt v k ih =>
   intro md st h
   exact ih v md st h
 | call om hf k ih =>
   intro md st h
   unfold PT.walk PT.tree at h
   obtain ⟨md',cR,e,tr⟩:=gN (P:=P) (n:=n) (stop:=fJ) (k:=fun md st=>_) eT md st
   rw[e] at h
   refine tr _ ?_
   split at h
   ·rename_i id ops o l cs
    split at h
    ·rename_i f' sW t hi
     rw[hO aAl,hO aKd] at h
     injection h with h1 h2 h3 h4 h5
     subst h1;subst h2;subst h3
     refine c6.cG (l:=o::l) 0 1 om rfl hi hf (fun r=>?_)
     have:=congrFun h5 r
     rw[j9] at this
     exact ih r _ _ this
    ·cases h
   ·cases h
 | look r0 b bo hf hfl k ih =>
   intro md st h
   unfold PT.walk PT.tree at h
   obtain ⟨md',cR,e,tr⟩:=gN (P:=P) (n:=n) (stop:=fJ) (k:=fun md st=>_) eT md st
   rw[e] at h
   refine tr _ ?_
   split at h
   ·rename_i id ops o l cs
    split at h
    ·rename_i f' sW t g b' hi
     rw[hO aAl] at h
     injection h with h1 h2 h3 h4 h5
     subst h1;subst h2;subst h3
     refine c6.lC (l:=o::l) 0 1 bo r0 rfl hi hf hfl (fun r=>?_)
     have:=congrFun h5 r
     rw[j9] at this
     exact ih r _ _ this
    ·cases h
   ·cases h
 | yE r0 b hf k ih =>
   intro md st h
   unfold PT.walk PT.tree at h
   obtain ⟨md',cR,e,tr⟩:=gN (P:=P) (n:=n) (stop:=fJ) (k:=fun md st=>_) eT md st
   rw[e] at h
   refine tr _ ?_
   split at h
   ·rename_i id ops o l cs
    split at h
    ·rename_i f' sW t g b' hi
     rw[hO aAl] at h
     injection h with h1 h2 h3 h4 h5
     subst h1;subst h2;subst h3
     refine c6.aUk (l:=o::l) 0 1 r0 rfl hi hf (fun r=>?_)
     have:=congrFun h5 r
     rw[j9] at this
     exact ih r _ _ this
    ·cases h
   ·cases h
 | nil om t =>
   intro md st h
   unfold PT.walk PT.tree at h
   obtain ⟨md',cR,e,tr⟩:=gN (P:=P) (n:=n) (stop:=fJ) (k:=fun md st=>_) eT md st
   rw[e] at h
   refine tr _ ?_
   split at h
   ·obtain ⟨s,hs,h⟩:=qC h (by intro h;cases h)
    injection h with h1 h2
    exact Ref.keep _ _ hs (Ref.nil h2.symm)
   ·cases h
 | ret om t =>
   intro md st h
   unfold PT.walk PT.tree at h
   obtain ⟨md',cR,e,tr⟩:=gN (P:=P) (n:=n) (stop:=fJ) (k:=fun md st=>_) eT md st
   rw[e] at h
   refine tr _ ?_
   split at h
   ·obtain ⟨s,hs,h⟩:=qC h (by intro h;cases h)
    injection h with h1 h2
    injection h1 with h1
    exact Ref.keep _ _ hs (Ref.ret (Prod.ext h1.symm h2.symm))
   ·obtain ⟨s,hs,h⟩:=qC h (by intro h;cases h)
    injection h with h1 h2
    injection h1 with h1
    exact Ref.keep _ _ hs (Ref.exit (Prod.ext h1.symm h2.symm))
   ·cases h
 | jn xC p k ihp ihk =>
   intro md st h
   unfold PT.walk PT.tree at h
   obtain ⟨md',cR,e,tr⟩:=gN (P:=P) (n:=n) (stop:=fJ) (k:=fun md st=>_) eT md st
   rw[e] at h
   refine tr _ ?_
   split at h
   ·injection h with h1 h2 h3
    exact Ref.bind (ihp _ _ h1) (fun t=>ihk t _ _ (congrFun h3 t))
   ·cases h
 | blk id xC hid p k ihp ihk =>
   intro md st h
   unfold PT.walk PT.tree at h
   obtain ⟨md',cR,e,tr⟩:=gN (P:=P) (n:=n) (stop:=fJ) (k:=fun md st=>_) eT md st
   rw[e] at h
   refine tr _ ?_
   split at h
   ·rename_i i c cs
    cases hi:Nat.beq i id with
    | false=>rw[hi] at h;cases h
    | true =>
      rw[hi] at h
      have hi:=aF hi
      subst hi
      simp only[cond_true] at h
      injection h with h1 h2 h3
      exact Ref.block (ihp _ _ h1) hid (fun t=>ihk t _ _ (congrFun h3 t))
   ·cases h
 | @lp A T go ab U mf K t0 om hd f ih =>
   intro md st h
   unfold PT.walk PT.tree at h
   obtain ⟨md',cR,e,tr⟩:=gN (P:=P) (n:=n) (stop:=fJ) (k:=fun md st=>_) eT md st
   rw[e] at h
   refine tr _ ?_
   split at h
   ·obtain ⟨s,hs,h⟩:=qC h (by intro h;cases h)
    injection h with h1 h2 h3
    exact Ref.keep _ _ hs (Ref.loop K t0 h1.symm (fun u=>ih u _ _ (congrFun h3 u)))
   ·cases h
 | ob id rem o hle k ih =>
   intro md st h
   unfold PT.walk PT.tree at h
   obtain ⟨md',cR,e,tr⟩:=gN (P:=P) (n:=n) (stop:=atM id rem) (k:=fun md st=>_) eT md st
   rw[e] at h
   refine tr _ ?_
   cases hx:Nat.blt o cR.cE.length with
   | false=>rw[hx] at h;cases h
   | true =>
     rw[hx] at h
     simp only[cond_true] at h
     rw[j9] at h
     injection h with h1 h2
     exact oH.conv (Conv.obj o _ (by rw[h1];exact hle) hx) (ih _ _ h2)
 | sl id rem t hle k ih =>
   intro md st h
   unfold PT.walk PT.tree at h
   obtain ⟨md',cR,e,tr⟩:=gN (P:=P) (n:=n) (stop:=atM id rem) (k:=fun md st=>_) eT md st
   rw[e] at h
   refine tr _ ?_
   cases hx:cR.gd.isEmpty with
   | false=>rw[hx] at h;cases h
   | true =>
     rw[hx] at h
     simp only[cond_true] at h
     rw[j9] at h
     injection h with h1 h2
     exact oH.conv (Conv.slot t _ (by rw[h1];exact hle) hx) (ih _ _ h2)
 | sk id rem t k hle p ih =>
   intro md st h
   unfold PT.walk PT.tree at h
   obtain ⟨md',cR,e,tr⟩:=gN (P:=P) (n:=n) (stop:=atM id rem) (k:=fun md st=>_) eT md st
   rw[e] at h
   refine tr _ ?_
   cases hx:cR.gd.isEmpty with
   | false=>rw[hx] at h;cases h
   | true =>
     rw[hx] at h
     simp only[cond_true] at h
     split at h
     ·rename_i l hl
      split at h
      ·rename_i x hk
       rw[j9] at h
       injection h with h1 h2
       subst h1
       exact oH.conv (Conv.slot t _ (by rw[hl];exact eA.agg (hG.nth dY.refl hle k l hk)) hx) (ih _ _ h2)
      ·cases h
     ·cases h
 | ok id rem o k hle p ih =>
   intro md st h
   unfold PT.walk PT.tree at h
   obtain ⟨md',cR,e,tr⟩:=gN (P:=P) (n:=n) (stop:=atM id rem) (k:=fun md st=>_) eT md st
   rw[e] at h
   refine tr _ ?_
   cases hx:Nat.blt o cR.cE.length with
   | false=>rw[hx] at h;cases h
   | true =>
     rw[hx] at h
     simp only[cond_true] at h
     split at h
     ·rename_i l hl
      split at h
      ·rename_i x hk
       rw[j9] at h
       injection h with h1 h2
       subst h1
       exact oH.conv (Conv.obj o _ (by rw[hl];exact OLe.cells (hG.nth dY.refl hle k l hk)) hx) (ih _ _ h2)
      ·cases h
     ·cases h
 | fz id rem o k ih =>
   intro md st h
   unfold PT.walk PT.tree at h
   obtain ⟨md',cR,e,tr⟩:=gN (P:=P) (n:=n) (stop:=atM id rem) (k:=fun md st=>_) eT md st
   rw[e] at h
   refine tr _ ?_
   split at h
   ·rename_i s hs
    rw[j9] at h
    injection h with h1
    exact oH.conv (Conv.freeze o hs) (ih _ _ h1)
   ·cases h
 | mv id rem o k ih =>
   intro md st h
   unfold PT.walk PT.tree at h
   obtain ⟨md',cR,e,tr⟩:=gN (P:=P) (n:=n) (stop:=atM id rem) (k:=fun md st=>_) eT md st
   rw[e] at h
   refine tr _ ?_
   cases hx:Nat.ble cR.h cR.cE.length with
   | false=>rw[hx] at h;cases h
   | true =>
     rw[hx] at h
     simp only[cond_true] at h
     split at h
     ·rename_i s hs
      rw[j9] at h
      injection h with h1
      exact oH.conv (Conv.move o hs hx) (ih _ _ h1)
     ·cases h
 | ad id rem t e wd get k ih =>
   intro md st h
   unfold PT.walk PT.tree at h
   obtain ⟨md',cR,eq,tr⟩:=gN (P:=P) (n:=n) (stop:=atM id rem) (k:=fun md st=>_) eT md st
   rw[eq] at h
   refine tr _ ?_
   cases hc:(aID (cR.get t) && (cR.gd.isEmpty && Nat.ble cR.h cR.cE.length)) with
   | false=>rw[hc] at h;cases h
   | true =>
     rw[hc] at h
     simp only[cond_true] at h
     rw[j9] at h
     injection h with h
     simp only[aC] at hc
     exact oH.conv (Conv.aE5 t e wd get hc.1 hc.2.1 hc.2.2) (ih _ _ h)
 | adc id rem o j e wd get k ih =>
   intro md st h
   unfold PT.walk PT.tree at h
   obtain ⟨md',cR,eq,tr⟩:=gN (P:=P) (n:=n) (stop:=atM id rem) (k:=fun md st=>_) eT md st
   rw[eq] at h
   refine tr _ ?_
   split at h
   ·rename_i s hs
    rw[j9] at h
    injection h with h
    exact oH.conv (Conv.nM o j e wd get hs) (ih _ _ h)
   ·cases h
 | ex is k ih =>
   intro md st h
   unfold PT.walk PT.tree at h
   obtain ⟨md',cR,e,tr⟩:=gN (P:=P) (n:=n) (stop:=fJ) (k:=fun md st=>_) eT md st
   rw[e] at h
   refine tr _ ?_
   obtain ⟨vs,md2,rJ,h,tr2⟩:=aIQ (A:=_) (T:=_) (go:=_) (ab:=_) h (by intro h;cases h)
   split at h
   ·injection h with h
    exact tr2 _ (ih _ _ h)
   ·cases h
 | lT is vs k ih =>
   intro md st h
   unfold PT.walk PT.tree at h
   obtain ⟨md',cR,e,tr⟩:=gN (P:=P) (n:=n) (stop:=fJ) (k:=fun md st=>_) eT md st
   rw[e] at h
   refine tr _ ?_
   obtain ⟨vs2,md2,rJ,h,tr2⟩:=aIQ (A:=_) (T:=_) (go:=_) (ab:=_) h (by intro h;cases h)
   injection h with h1 h2
   rw[← h1]
   exact tr2 _ (ih _ _ h2)
 | aUh is vs k ih =>
   intro md st h
   unfold PT.walk PT.tree at h
   obtain ⟨md',cR,e,tr⟩:=gN (P:=P) (n:=n) (stop:=fJ) (k:=fun md st=>_) eT md st
   rw[e] at h
   refine tr _ ?_
   obtain ⟨vs2,md2,rJ,h,tr2⟩:=aIQ (A:=_) (T:=_) (go:=_) (ab:=_) h (by intro h;cases h)
   injection h with h1 h2 h3
   refine oH.bW fun hv=>?_
   have:=tr2 _ (ih hv _ _ (congrFun h3 hv))
   rwa [h1,aFQ hv] at this
 | tx W k ih =>
   intro md st h
   unfold PT.walk PT.tree at h
   obtain ⟨md',cR,e,tr⟩:=gN (P:=P) (n:=n) (stop:=fJ) (k:=fun md st=>_) eT md st
   rw[e] at h
   refine tr _ ?_
   split at h
   ·injection h with h
    exact dN.qB W (ih _ _ h)
   ·cases h
 | tl js k ih =>
   intro md st h
   unfold PT.walk PT.tree at h
   obtain ⟨md',cR,e,tr⟩:=gN (P:=P) (n:=n) (stop:=fJ) (k:=fun md st=>_) eT md st
   rw[e] at h
   refine tr _ ?_
   split at h
   ·rename_i id ops fuel listed cs
    cases hc:(Nat.beq fuel js.length && (aAd .any ops ⟨listed⟩ js && js.all fun j=>(ops[j]?).isSome)) with
    | false=>rw[hc] at h;cases h
    | true =>
      rw[hc] at h
      rw[aC] at hc
      simp only[cond_true] at h
      injection h with h
      exact dN.tail js (aF hc.1) hc.2 (ih _ _ h)
   ·rename_i id ops W fuel listed cs
    cases hc:(Nat.beq fuel js.length && (aAd .any ops ⟨listed⟩ js && js.all fun j=>inW W j && (ops[j]?).isSome)) with
    | false=>rw[hc] at h;cases h
    | true =>
      rw[hc] at h
      rw[aC] at hc
      simp only[cond_true] at h
      injection h with h
      exact bO.qP js (aF hc.1) hc.2 (ih _ _ h)
   ·cases h
 | fF i r0 b bo hf hfl k ih =>
   intro md st h
   unfold PT.walk PT.tree at h
   obtain ⟨md',cR,e,tr⟩:=gN (P:=P) (n:=n) (stop:=fJ) (k:=fun md st=>_) eT md st
   rw[e] at h
   refine tr _ ?_
   split at h
   ·rename_i id ops W fuel listed cs
    cases hc:(aDc ops (inW W) ⟨listed⟩ i && Nat.blt i ops.size) with
    | false=>rw[hc] at h;cases h
    | true =>
      rw[hc] at h
      simp only[cond_true] at h
      split at h
      ·rename_i f' sW t g b' hi
       rw[hO aAl,hO pR] at h
       injection h with h1 h2 h3 h4 h5
       subst h1;subst h2;subst h3
       refine bO.lC i bo r0 rfl hc hi hf hfl (fun r=>?_)
       have:=congrFun h5 r
       rw[j9] at this
       have e:(Array.mk listed).setIfInBounds i true=⟨listed.set i true⟩:=by simp
       rw[e]
       exact ih r _ _ this
      ·cases h
   ·cases h
 | esc om cs0 want hr =>
   intro md st h
   unfold PT.walk PT.tree at h
   obtain ⟨md',cR,e,tr⟩:=gN (P:=P) (n:=n) (stop:=_) (k:=fun md st=>_) eT md st
   rw[e] at h
   refine tr _ ?_
   obtain ⟨s,hs,h⟩:=qC h (by intro h;cases h)
   injection h with h1 h2
   subst h1;subst h2
   exact Ref.keep _ _ hs hr
 | aEK om id0 a2F l0 cs0 want hr =>
   intro md st h
   unfold PT.walk PT.tree at h
   obtain ⟨md',cR,e,tr⟩:=gN (P:=P) (n:=n) (stop:=_) (k:=fun md st=>_) eT md st
   rw[e] at h
   refine tr _ ?_
   obtain ⟨s,hs,h⟩:=qC h (by intro h;cases h)
   injection h with h1 h2
   subst h1;subst h2
   exact c6.keep _ _ hs hr
abbrev PT.bk {A T:Type} {go:T→St} {ab:A→Ex × St} {U:Type} {m1:Option ((U ⊕ A) ⊕ U)} {m:U→Option (A ⊕ T)} (id:Nat) (xC:U→St) (p:PT P n (U ⊕ A) U xC (fun x=>match x with | .inl t=>(.exit id,xC t) | .inr a=>ab a) m1) (k:(t:U)→PT P n A T go ab (m t))
 (hid:∀ a,(ab a).1≠.exit id:=by intro a h;repeat' (first | (cases h;done) | (rcases a with a | a))):PT P n A T go ab (bL (bJ m1) m):=.blk id xC hid p k
theorem Ref.pt {A T:Type} {go:T→St} {ab:A→Ex × St} {cs:List Code} {st:St} {m:Option (A ⊕ T)} (p:PT P n A T go ab m) (h:p.walk (.c cs) st=p.tree:=by kernel_rfl):Ref P n cs st m go ab:=p.sound _ _ h
theorem c6.pt {A T:Type} {go:T→St} {ab:A→Ex × St} {id:Nat} {ops:Array Oper} {l:List Oper} {cs:List Code} {st:St} {m:Option (A ⊕ T)} (p:PT P n A T go ab m) (h:p.walk (.r id ops l cs) st=p.tree:=by kernel_rfl):c6 P n ops l cs st m go ab:=p.sound _ _ h
end
end
end Go.Dl

namespace Go.Dl
noncomputable section
variable [dW]
section
variable {P:Program} {n:Nat} {A T U R:Type} {go:T→St} {ab:A→Ex × St} {st cR:St} {m:Option (A ⊕ T)} {cs:List Code} {ops:Array Oper} {W:Nat→Bool}
theorem aL5 {Γ:lG} {S:Mem} {β:dI} {a:Act} {w:World} {o:Oper} {x:Operand} {args:Array Operand} {sO:Array TypeId} {f:FuncId} {dF:List D} {g:List (Nat × Bool)}
 {mc:Option R} {res:R→D} {r:R} (hr:RR Γ S β a w n st)
 (nE:bS P f dF [] mc res (fun _=>[])) (hh:st.holds g) (ho:o.op = .call ⟨.value x,args,sO⟩)
 (gF:kY st g x args.toList=some (f,dF)) (hf:kX P f=true)
 (kG:dF.all D.shut=true) (hm:mc=some r):xop P o a w fun v w'=>(∃ S' β',kQ S S'∧lU β β'∧Core Γ S' β' w' st.cE∧dP S' β' ((res r).oT [] st.cE.length) v)∧Up w w':=by
 unfold kY at gF
 split at gF
 ·rename_i f' k cap hx
  simp only[aA,aI] at gF
  obtain ⟨rfl,qL⟩:=gF
  have hh2:=hh
  have hxr:=iJ hr hh2 x
  rw[hx] at hxr
  obtain ⟨vs,hxv,vU⟩:=tK hxr
  have hrun:(execOp a.eval o).run P w = .ok (.enter f' (args.map a.eval++vs)) w:=by
   unfold execOp
   rw[ho]
   simp only[resolve,hxv,Deferred.ofValue,pure_bind,invoke]
   rw[lK hf]
   simp
  unfold xop
  simp only[hrun,vV]
  have hvm:∀ (l:List Operand),gD S β (l.map (st.see g).lv) (l.map a.eval):=by
   intro l
   induction l with
   | nil=>rfl
   | cons x l ih=>exact ⟨_,_,rfl,iJ hr hh2 x,ih⟩
  have hargs:gD S β dF (args.map a.eval++vs).toList:=by
   rw[← qL]
   have e:(args.map a.eval++vs).toList=args.toList.map a.eval++vs.toList:=by simp
   rw[e]
   exact (hvm args.toList).append vU
  have hclosed:gD S (fV β []) dF (args.map a.eval++vs).toList:=gD.shut kG hargs
  have hnd:nO []=true:=rfl
  have hlt:∀ x∈([]:List Nat),x<st.cE.length:=fun x hx=>by cases hx
  have fQ:=hr.core.kT (om:=[]) hnd
  have yT:Core ⟨S,w,xA (fV β []) [],fV β []⟩ S (fV β []) w []:=by
   refine ⟨⟨rfl,rfl,rfl,aQ _,fun _ _ _=>rfl,fun _ _ _ _=>rfl,kQ.refl _,fQ.aGH,fQ.inv⟩,fQ.holds,fQ.cE,fQ.out,fQ.inj,fQ.sep,fun o k y hy hl hk=>⟨(fQ.mine o k y hy hl hk).1,fun _=>⟨o,k,y,hy,hl,hk,rfl⟩⟩⟩
  have:=nE S (fV β []) w (args.map a.eval++vs).toList yT hclosed r hm
  have e2:(args.map a.eval++vs).toList.toArray=args.map a.eval++vs:=by simp
  rw[e2] at this
  refine this.mono fun e w' he=>?_
  obtain ⟨v,S',βc,rfl,hres,hB,oR⟩:=he
  obtain ⟨sL,hle⟩:=hr.core.after (om:=[]) hnd hlt oR (fun o k ho hk=>absurd ho (Nat.not_lt_zero _))
  rw[aDt] at sL
  have aC7:dP S' (aA5 β [] st.cE.length βc) ((res r).oT [] st.cE.length) v:=D.l7 (fun i=>z7 hnd hlt i) hres
  have hnm:∀ b,¬ xA (fV β []) [] b:=by
   rintro b ⟨o,k,x,hx,_⟩
   simp at hx
  exact ⟨v,rfl,⟨S',_,oR.frame.le,hle,sL,aC7⟩,⟨oR.frame.os,oR.frame.tape,oR.frame.output,oR.frame.size,fun b hb=>oR.frame.block b hb (hnm b)⟩⟩
 ·cases gF
theorem bO.aRd {o:Oper} {x:Operand} {args:Array Operand} {sO:Array TypeId} {t:Nat} {f:FuncId} {dF:List D} {g:List (Nat × Bool)} {b:Bool}
 {mc:Option R} {res:R→D} {m:R→Option (A ⊕ T)} {fuel:Nat} {listed:Array Bool} (i:Nat) (r0:R)
 (nE:bS P f dF [] mc res (fun _=>[])) (hi:ops[i]? = some o) (hone:Region.ready .any ops listed=[i]) (hWi:W i=false)
 (hg:guardOf ops o st=some g) (hb:kA st g=some b) (ho:o.op = .call ⟨.value x,args,sO⟩) (nD:o.dst=some t)
 (gF:kY st g x args.toList=some (f,dF)) (hf:kX P f=true)
 (hn:(Nat.blt t n && (mT st t && g.all fun q=>!Nat.beq q.1 t))=true) (kG:dF.all D.shut=true)
 (h:∀ r,bO P n ops W fuel (listed.setIfInBounds i true) cs (st.put (some t) ((res r).oT [] st.cE.length) st.cE g) (m r) go ab) :
 bO P n ops W (fuel+1) listed cs st ((cH b mc r0).bind m) go ab:=by
 intro Γ S β a w hr q hq
 simp only[aC,aK,aT] at hn
 obtain ⟨htn,hfree,hgt⟩:=hn
 have aAa:∀ q∈g,q.1≠t:=fun q hq e=>by
  have:=hgt q hq
  rw[e] at this
  simp at this
 unfold xQ
 refine ⟨fun he=>absurd (hone.symm.trans he) (by simp),fun i' hi'=>?_⟩
 rw[hone] at hi'
 have hi':i'=i:=by simpa using hi'
 subst hi'
 unfold xOp
 rw[hWi]
 simp only[cond_false]
 unfold aCe
 simp only[hi]
 rcases aBK hr hg hb with ⟨rfl,hh,hw⟩ | ⟨rfl,hh,hw⟩
 ·simp only[cH,if_true] at hq
  cases hm:mc with
  | none=>rw[hm] at hq;cases hq
  | some r =>
    rw[hm,Option.bind_some] at hq
    rw[aH hw]
    refine aAc (fun v w' ⟨⟨S',β',hle,hbl,oR,hv⟩,hup⟩=>⟨hup,fun w'' aA8=>?_⟩) (aL5 hr nE hh ho gF hf kG hm)
    have hput:=hr.put oR hle hbl htn hfree aAa (fun _=>hv) (fun hno=>absurd hh hno)
    rw[nD]
    exact h r Γ S' β' _ w'' (hput.up aA8) q hq
 ·simp only[cH,aN,if_false,Option.bind_some] at hq
  rw[aG (by rw[hw];simp)]
  intro w' lI
  have hput:=(hr.up lI).put (d:=(res r0).oT [] st.cE.length) (v:=undef) (hr.up lI).core (kQ.refl _) (lU.refl _) htn hfree aAa (fun hy=>absurd hy hh) (fun _=>rfl)
  rw[nD]
  exact h r0 Γ S β _ w' hput q hq
theorem bO.aNN (i:Nat) {fuel fuel':Nat} {listed:Array Bool} {f:FuncId} {dF:List D} {t:Nat} {g:List (Nat × Bool)} {b:Bool} {mc:Option R} {res:R→D} {m:R→Option (A ⊕ T)} (r0:R)
 (sV:fuel=fuel'+1) (hone:(decide (Region.ready .any ops listed=[i]) && (!W i && Nat.blt i ops.size))=true) (hi:lB P n ops (kZ ops.toList i) st []=some ⟨f,dF,t,g,b⟩) (nE:bS P f dF [] mc res (fun _=>[]))
 (h:∀ r,bO P n ops W fuel' (listed.setIfInBounds i true) cs (st.put (some t) ((res r).oT [] st.cE.length) st.cE g) (m r) go ab):bO P n ops W fuel listed cs st ((cH b mc r0).bind m) go ab:=by
 simp only[aC,aB,aP] at hone
 subst sV
 unfold lB at hi
 split at hi
 ·rename_i x args sO t' g' rJ hop hd hg hfr
  simp only[St.n8,aA] at hfr
  subst hfr
  split at hi
  ·rename_i b' f' sW hb hca
   obtain ⟨hc,hi⟩:=bU hi
   simp only[aA,vX.mk.injEq] at hi
   obtain ⟨rfl,rfl,rfl,rfl,rfl⟩:=hi
   simp only[aC] at hc
   have hlt:i<ops.size:=by simpa [aT] using hone.2.2
   have tW:ops[i]? = some (kZ ops.toList i):=by
    simp [kZ,List.getD,hlt]
   exact bO.aRd i r0 nE tW hone.1 hone.2.1 hg hb hop hd hca hc.1 (by simp only[aC];exact hc.2.2) hc.2.1 h
  ·cases hi
 ·cases hi
end
end
end Go.Dl

namespace Go.Dl
variable [dW]
open Go.RowKit
abbrev Wd (l:Nat):Fence:=Fence.wide.inRound l
def rX (ops:Array Oper):Bool:=ops.toList.all fun o=>match o.op with
 | .defer _=>false
 | _=>true
theorem aDu {ops:Array Oper} (h:rX ops=true) {o:Oper} (ho:o∈ops.toList) (c:Call):o.op≠.defer c:=by
 unfold rX at h
 have:=aK.1 h o ho
 intro e;rw[e] at this;cases this
section
variable {P:Program} {ops:Array Oper} {Q:Exit→Act→World→Prop}
theorem aEL (l k:Nat) {f:FuncId} {args:Array Value} {w:World} {R:Ending→World→Prop} (h:Calls P f args w R):CallsIn (Wd l) k P f args w R :=
 CallsIn.inRound l (callsIn_wide.2 h)
theorem aFR (l k:Nat) {r:String} {args:Array Value} {w:World} {R:Value→World→Prop} (h:Rows P r args w R):RowsIn (Wd l) k P r args w R :=
 fun c cs _=>let ⟨v,w',hr,s⟩:=h c cs;⟨v,w',hr,by rw[fenced_inRound];exact stepsIn_wide.2 s⟩
theorem wpI {o:Oper} {a:Act} {w:World} {K:Act→World→Prop} (l k:Nat) (hd:∀ c,o.op≠.defer c) (hQ:¬ LetsOut Q) (h:o.wp P a w K Q):o.wpIn (Wd l) k P a w K Q:=by
 refine ⟨fun f _=>trivial,?_⟩
 rw[show o.semAt (Wd l).round a.eval=execOp a.eval o from Oper.semAt_eq _ _ _ hd]
 unfold Oper.wp at h
 generalize (execOp a.eval o).run P w=r at *
 cases r with
 | ok n w' =>
   cases n <;> simp only[Oper.upon] at h <;> simp only[Oper.uponIn]
   all_goals first
    | exact h
    | exact ⟨fun h=>by simp [Fence.wide] at h,aEL l _ h⟩
    | exact ⟨fun h=>by simp [Fence.wide] at h,aFR l _ h⟩
 | halt x w'=>cases x <;> simp only[Oper.upon] at h <;> simp only[Oper.uponIn] <;> exact h
theorem aFS (l k:Nat) (hQ:¬ LetsOut Q) (hn:rX ops=true):∀ {os:List Oper} {a:Act} {w:World},(∀ o∈os,o∈ops.toList)→wpList P ops Q os a w→wpListIn (Wd l) k P ops Q os a w
 | [],_,_,_,h=>h
 | o::os,a,w,ho,h=>by
   unfold wpList at h
   unfold wpListIn
   split
   ·rename_i hw
    rw[aH hw] at h
    rcases h with h | h
    ·exact Oper.wpIn_mono (fun a' w' h'=>aFS l k hQ hn (fun o' h'=>ho o' (aX _ h')) h') (wpI l k (aDu hn (ho o (List.mem_cons_self ..))) hQ h)
    ·exact absurd h.2 hQ
   ·rename_i hw
    rw[aG hw] at h
    exact ⟨fun f _=>trivial,aFS l k hQ hn (fun o' h'=>ho o' (aX _ h')) h⟩
theorem aFT (l k:Nat) (hQ:¬ LetsOut Q) (hn:rX ops=true) {md:Region.Mode}:∀ (fuel:Nat) (listed:Array Bool) (a:Act) (w:World),wpAny P md ops Q fuel listed a w→wpAnyIn (Wd l) k P md ops Q fuel listed a w
 | 0,_,_,_,h=>h
 | fuel+1,listed,a,w,h=>by
   refine ⟨h.1,fun i hi=>?_⟩
   have hh:=h.2 i hi
   unfold wpOp at hh
   unfold wpOpIn
   split
   ·rename_i ho;rw[ho] at hh;exact aFT l k hQ hn fuel _ a w hh
   ·rename_i o ho
    rw[ho] at hh
    simp only at hh
    have hm:o∈ops.toList:=by
     obtain ⟨hlt,e⟩:=Array.getElem?_eq_some_iff.1 ho
     rw[← e];simp
    split
    ·rename_i hw
     rw[aH hw] at hh
     rcases hh with hh | hh
     ·exact Oper.wpIn_mono (fun a' w' h'=>aFT l k hQ hn fuel _ a' w' h') (wpI l k (aDu hn hm) hQ hh)
     ·exact absurd hh.2 hQ
    ·rename_i hw
     rw[aG hw] at hh
     exact ⟨fun f _=>trivial,aFT l k hQ hn fuel _ _ w hh⟩
end
def fU (P:Program) (n:Nat) {A T:Type} (c:Code) (st:St) (m:Option (A ⊕ T)) (go:T→St) (ab:A→Ex × St):Prop :=
 ∀ l k Γ S β a w,RR Γ S β a w n st→∀ x,m=some x→c.wpIn (Wd l) k P (Post Γ n go ab x) a w
section
variable {P:Program} {n:Nat} {A T U:Type} {go:T→St} {ab:A→Ex × St} {st:St} {m:Option (A ⊕ T)}
theorem aE8 {Γ:lG} {x:A ⊕ T}:¬ LetsOut (Post Γ n go ab x):=by
 rintro ⟨a,w,h⟩
 cases x with
 | inl t=>obtain ⟨h1,_⟩:=h;cases hx:(ab t).1 <;> rw[hx] at h1 <;> cases h1
 | inr t=>cases h.1
theorem aGX {Γ:lG} {x:A ⊕ T}:Exit.then (wpL P [] (Post Γ n go ab x)) (Post Γ n go ab x)=Post Γ n go ab x:=by
 funext e a w;cases e <;> rfl
theorem fU.region {id:Nat} {ops:Array Oper} (hn:rX ops=true) (h:c6 P n ops ops.toList [] st m go ab):fU P n (.region id ops false) st m go ab:=by
 intro l k Γ S β a w hr x hx
 have hh:=h Γ S β a w hr x hx
 rw[aGX] at hh
 exact wpIn_region_list (aFS l k aE8 hn (fun o h=>h) hh)
theorem fU.drawn {id:Nat} {ops:Array Oper} (hn:rX ops=true) (hm:P.follows .mixedOrders=true) (h:dN P n ops ops.size (Array.replicate ops.size false) [] st m go ab):fU P n (.region id ops true) st m go ab:=by
 intro l k Γ S β a w hr x hx
 have hh:=h Γ S β a { w with drawn:=w.drawn+1 } ⟨hr.core.drew,hr.tm,hr.un,hr.size,hr.defers,hr.hand⟩ x hx
 rw[aGX] at hh
 exact wpIn_region_any hm (aFT l k aE8 hn _ _ _ _ hh)
theorem fU.rp {id:Nat} {ops:Array Oper} {m':Option (A ⊕ T)} (p:PT P n A T go ab m') (e:m'=m) (hn:rX ops=true:=by kernel_rfl) (h:p.walk (.r id ops ops.toList []) st=p.tree:=by kernel_rfl):fU P n (.region id ops false) st m go ab :=
 e ▸ fU.region hn (p.sound _ _ h)
theorem fU.dp {id:Nat} {ops:Array Oper} {m':Option (A ⊕ T)} (p:PT P n A T go ab m') (e:m'=m) (hn:rX ops=true:=by kernel_rfl) (hm:P.follows .mixedOrders=true:=by kernel_rfl)
 (h:p.walk (.y id ops ops.size (List.replicate ops.size false) []) st=p.tree:=by kernel_rfl):fU P n (.region id ops true) st m go ab :=
 e ▸ fU.drawn hn hm (p.sound _ _ h)
theorem fU.skip (t:T) (h:go t=st):fU P n .skip st (some (.inr t)) go ab:=by
 intro l k Γ S β a w hr x hx
 cases hx
 exact wpIn_skip ⟨rfl,S,β,by rw[h];exact hr⟩
theorem fU.exit {id:Nat} (t:A) (h:ab t=(.exit id,st)):fU P n (.exit id) st (some (.inl t)) go ab:=by
 intro l k Γ S β a w hr x hx
 cases hx
 exact wpIn_exit ⟨by rw[h];rfl,S,β,by rw[h];exact hr⟩
theorem fU.keep {c:Code} (l om:List Nat) (cR:St) (h:fU P n c cR m go ab) (hk:st.keep l om=some cR:=by kernel_rfl):fU P n c st m go ab :=
 fun i k Γ S β a w hr x hx=>h i k Γ S _ a w (gH hr hk) x hx
theorem fU.seq {c d:Code} {xC:U→St} {m1:Option (A ⊕ U)} {m2:U→Option (A ⊕ T)} (h1:fU P n c st m1 xC ab) (h2:∀ t,fU P n d (xC t) (m2 t) go ab):fU P n (.seq c d) st (bL m1 m2) go ab:=by
 intro l k Γ S β a w hr q hq
 cases hm:m1 with
 | none=>rw[hm] at hq;cases hq
 | some z =>
   rw[hm] at hq
   refine wpIn_seq (wpIn_mono (h1 l k Γ S β a w hr z hm) fun e a' w' he=>?_)
   cases z with
   | inl t =>
     simp only[bL,aA] at hq
     subst hq
     obtain ⟨yR,S',β',hr'⟩:=he
     have tJ:Post Γ n go ab (.inl t) e a' w':=⟨yR,S',β',hr'⟩
     cases hx:(ab t).1 <;> (rw[hx] at yR;subst yR;exact tJ)
   | inr u =>
     obtain ⟨rfl,S',β',hr'⟩:=he
     exact h2 u l k Γ S' β' a' w' hr' q hq
theorem fU.cond {c:Operand} {x y:Code} {b:Bool} {m1 m2:Option (A ⊕ T)} (hb:st.lv c = .c (.val (.bool b))) (hg:st.gd=[]) (h1:b=true→fU P n x st m1 go ab) (h2:b=false→fU P n y st m2 go ab) :
 fU P n (.cond c x y) st (if b=true then m1 else m2) go ab:=by
 intro l k Γ S β a w hr q hq
 have he:=aCq hr hg hb
 refine wpIn_cond he ?_
 cases b with
 | true =>
   rw[aH rfl] at hq
   exact h1 rfl l k Γ S β a w hr q hq
 | false =>
   rw[aG (by simp)] at hq
   exact h2 rfl l k Γ S β a w hr q hq
theorem fU.block {id:Nat} {c:Code} {m1:Option ((T ⊕ A) ⊕ T)}
 (h1:fU P n c st m1 go (fun x=>match x with | .inl t=>(.exit id,go t) | .inr a=>ab a)) (hid:∀ a,(ab a).1≠.exit id):fU P n (.block id c) st (bJ m1) go ab:=by
 intro l k Γ S β a w hr q hq
 cases hm:m1 with
 | none=>rw[hm] at hq;cases hq
 | some z =>
   rw[hm] at hq
   refine wpIn_block (wpIn_mono (h1 l k Γ S β a w hr z hm) fun e a' w' he=>?_)
   cases z with
   | inl t =>
     cases t with
     | inl u =>
       simp only[bJ,aA] at hq
       subst hq
       obtain ⟨rfl,S',β',hr'⟩:=he
       show Exit.inBlock id _ (.exit id) a' w'
       simp only[Exit.inBlock,if_true]
       exact ⟨rfl,S',β',hr'⟩
     | inr t =>
       simp only[bJ,aA] at hq
       subst hq
       obtain ⟨yR,S',β',hr'⟩:=he
       have yR:e=(ab t).1.out:=yR
       have tJ:Post Γ n go ab (.inl t) e a' w':=⟨yR,S',β',hr'⟩
       have hi:=hid t
       cases hx:(ab t).1 with
       | exit i2 =>
         rw[hx] at yR hi
         subst yR
         have hne:i2≠id:=fun e=>hi (by rw[e])
         show Exit.inBlock id _ (.exit i2) a' w'
         simp only[Exit.inBlock,hne,if_false]
         exact tJ
       | _=>rw[hx] at yR;subst yR;exact tJ
   | inr u =>
     simp only[bJ,aA] at hq
     subst hq
     obtain ⟨rfl,S',β',hr'⟩:=he
     exact ⟨rfl,S',β',hr'⟩
theorem aS8 {body:Code} {hd:T→St} {f:T→Option (A ⊕ T)} {Γ:lG} {go:U→St} (hb:∀ t,fU P n body (hd t) (f t) hd ab) (l k:Nat) :
 ∀ (j:Nat) (t:T) (x:A) (S:Mem) (β:dI) (a:Act) (w:World),RR Γ S β a w n (hd t)→iter j f t=some x→Code.roundsIn (Wd l) k P body (Post Γ n go ab (.inl x)) j a w
 | 0,t,x,S,β,a,w,hr,h=>by cases h
 | j+1,t,x,S,β,a,w,hr,h=>by
   unfold iter at h
   rw[roundsIn_succ]
   cases hf:f t with
   | none=>rw[hf] at h;cases h
   | some z =>
     rw[hf] at h
     refine wpIn_mono (hb t l k Γ S β a w hr z hf) fun e a' w' he=>?_
     cases z with
     | inl y =>
       simp only[aA] at h
       subst h
       obtain ⟨yR,S',β',hr'⟩:=he
       have tJ:Post Γ n go ab (.inl y) e a' w':=⟨yR,S',β',hr'⟩
       cases hx:(ab y).1 <;> (rw[hx] at yR;subst yR;exact tJ)
     | inr t' =>
       obtain ⟨rfl,S',β',hr'⟩:=he
       exact aS8 hb l k j t' x S' β' a' w' hr' h
theorem fU.loop {body:Code} {hd:U→St} {f:U→Option (A ⊕ U)} (j:Nat) (t0:U) (h0:hd t0=st) (hb:∀ t,fU P n body (hd t) (f t) hd ab) :
 fU P n (.loop body) st ((iter j f t0).map .inl) go ab:=by
 intro l k Γ S β a w hr q hq
 cases hi:iter j f t0 with
 | none=>rw[hi] at hq;cases hq
 | some x =>
   rw[hi] at hq
   simp only[Option.map_some,aA] at hq
   subst hq
   subst h0
   exact wpIn_mono (wpIn_loop_rounds j (aS8 (go:=go) hb l k j t0 x S β a w hr hi)) fun e a' w' h=>h
theorem put_defers (a:Act) (ds:List Deferred) (d:Option Tmp) (v:Value):({ a with defers:=ds }:Act).put d v={ a.put d v with defers:=ds }:=by cases d <;> rfl
theorem zN {ops:Array Oper} {Q:Exit→Act→World→Prop} {rest:List Oper} (ds:List Deferred):∀ {l:List Oper} {Γ:lG} {S:Mem} {β:dI} {a:Act} {w:World} {st cR:St} {vs:List Bool},
 RR Γ S β a w n st→kL P n ops l st=some (vs,cR)→(∀ b∈vs,b=true) →
 (∀ a' w' S' β',RR Γ S' β' a' w' n cR→wpList P ops Q rest { a' with defers:=ds } w')→wpList P ops Q (l++rest) { a with defers:=ds } w
 | [],_,_,_,_,_,_,_,_,h,he,_,hk=>by
   simp only[kL,aA,aI] at he
   obtain ⟨_,rfl⟩:=he
   exact hk _ _ _ _ h
 | o::l,Γ,S,β,a,w,_,_,_,h,he,hvs,hk=>by
   unfold kL at he
   split at he
   ·rename_i v st1 h1
    split at he
    ·rename_i vs2 rJ h2
     simp only[aA,aI] at he
     obtain ⟨rfl,rfl⟩:=he
     have go:∀ a' w' S' β',RR Γ S' β' a' w' n st1→wpList P ops Q (l++rest) { a' with defers:=ds } w':=fun a' w' S' β' h' =>
      zN ds h' h2 (fun b hb=>hvs b (List.mem_append_right _ hb)) hk
     rcases kI h h1 (fun b hb=>hvs b (List.mem_append_left _ hb)) with ⟨hw,v',w',S',β',hr,oS,_⟩ | ⟨hw,oS⟩
     ·show wpList P ops Q (o::(l++rest)) _ w
      have lI:Region.wanted o (yielded ops ({ a with defers:=ds }:Act).tmps)=true:=hw
      simp only[wpList,lI,if_true]
      left
      have uV:=go _ _ _ _ oS
      have ev:(execOp ({ a with defers:=ds }:Act).eval o)=execOp a.eval o:=rfl
      rcases hr with hr | ⟨hr,rfl⟩
      ·simp only[Oper.wp,ev,Oper.upon,hr,put_defers]
       exact uV
      ·simp only[Oper.wp,ev,Oper.upon,hr,put_defers]
       exact uV
     ·show wpList P ops Q (o::(l++rest)) _ w
      have lI:Region.wanted o (yielded ops ({ a with defers:=ds }:Act).tmps)=false:=hw
      simp only[wpList,lI,aN,if_false,put_defers]
      exact go _ _ _ _ oS
    ·cases he
   ·cases he
theorem Frame.trans {Γ:lG} {S S':Mem} {w w':World} {M:Nat→Prop} {B:dI} (h:Frame Γ S w) (k:Frame ⟨S,w,M,B⟩ S' w') (hM:∀ b,b<Γ.w.heap.size→M b→Γ.M b):Frame Γ S' w' where
 os:=k.os.trans h.os
 tape:=k.tape.trans h.tape
 output:=k.output.trans h.output
 size:=aV h.size k.size
 block:=fun b hb hn=>(k.block b (bE hb h.size) (fun hm=>hn (hM b hb hm))).trans (h.block b hb hn)
 mem:=fun b i hb hn=>(k.mem b i (bE hb h.size) (fun hm=>hn (hM b hb hm))).trans (h.mem b i hb hn)
 le:=h.le.trans k.le
 aEv:=h.aEv
 inv:=h.inv
theorem Core.aM8 {Γ:lG} {S:Mem} {β:dI} {w:World} {xs:List Obj} (h:Core Γ S β w xs):Core ⟨S,w,xA β xs,β⟩ S β w xs where
 frame:=⟨rfl,rfl,rfl,aQ _,fun _ _ _=>rfl,fun _ _ _ _=>rfl,kQ.refl _,h.aGH,h.inv⟩
 holds:=h.holds
 cE:=h.cE
 out:=h.out
 inj:=h.inj
 sep:=h.sep
 mine:=fun o k x hx hl hk=>⟨(h.mine o k x hx hl hk).1,fun _=>⟨o,k,x,hx,hl,hk,rfl⟩⟩
theorem Core.aM9 {Γ:lG} {S S':Mem} {β β' B:dI} {w w':World} {xs ys:List Obj} (h:Core Γ S β w xs) (k:Core ⟨S,w,xA β xs,B⟩ S' β' w' ys):Core Γ S' β' w' ys where
 frame:=h.frame.trans k.frame fun b hb ⟨o,q,x,hx,hl,hk,e⟩=>e ▸ (h.mine o q x hx hl hk).2 (e ▸ hb)
 holds:=k.holds
 cE:=k.cE
 out:=k.out
 inj:=k.inj
 sep:=k.sep
 mine:=fun o q x hx hl hk=>by
  obtain ⟨h1,h2⟩:=k.mine o q x hx hl hk
  refine ⟨h1,fun hb=>?_⟩
  obtain ⟨o',q',x',hx',hl',hk',e⟩:=h2 (bE hb h.frame.size)
  exact e ▸ (h.mine o' q' x' hx' hl' hk').2 (e ▸ hb)
def aEX:Obj→Bool
 | .map ..=>false
 | _=>true
theorem Core.grown {Γ:lG} {S:Mem} {β:dI} {w w':World} {xs:List Obj} {row:Option Nat} (h:Core Γ S β w xs) (hx:xs.all aEX=true) (g:w.grownBy w' row)
 (hr:∀ r,row=some r→Γ.w.heap.size≤r∧∃ o:Go.Obj,w.heap[r]? = some o∧o.isCells=false):Core Γ S β w' xs where
 frame:=⟨g.os.trans h.frame.os,g.tape.trans h.frame.tape,g.output.trans h.frame.output,aV h.frame.size g.size,
  fun b hb hn=>(g.block b (bE hb h.frame.size) (fun e=>by have:=(hr b e.symm).1;omega)).trans (h.frame.block b hb hn),h.frame.mem,h.frame.le,h.frame.aEv,h.frame.inv⟩
 holds:=fun b i v hs=>by
  obtain ⟨h1,h2⟩:=h.holds b i v hs
  exact ⟨cell_kept h1 g fun r e=>(hr r e).2,h2⟩
 cE:=fun o x ho=>by
  have hh:=h.cE o x ho
  have hn:aEX x=true:=aK.1 hx x (bG ho)
  have keep:∀ {b:Nat} {c:Array Value} {t:TypeId} {z:Nat × Nat},w.heap[b]? = some (.cells c t z)→w'.heap[b]? = some (.cells c t z):=fun hb =>
   (grownBy_keeps_cells g (fun r e=>(hr r e).2) hb rfl).trans hb
  cases x with
  | dead=>trivial
  | cells l =>
    obtain ⟨k,h1,h2,h3,h4,vs,h5,h6⟩:=hh
    exact ⟨k,h1,h2,h3,h4,vs,keep h5,h6⟩
  | row e wd n get =>
    rcases hh with hh | ⟨k,h1,h2,h3,h4,h5,h6,cur,h7,h8⟩
    ·exact .inl hh
    ·exact .inr ⟨k,h1,h2,h3,h4,h5,h6,cur,keep h7,h8⟩
  | aB9 e bs =>
    obtain ⟨k,h1,h2,h3,h4,h5,h6,cur,fz,h7,h8⟩:=hh
    exact ⟨k,h1,h2,h3,h4,h5,h6,cur,fz,keep h7,h8⟩
  | map z has get=>cases hn
 out:=h.out
 inj:=h.inj
 sep:=h.sep
 mine:=fun o k x ho hl hk=>⟨bE (h.mine o k x ho hl hk).1 g.size,(h.mine o k x ho hl hk).2⟩
def aEw (Γ:lG) (t:Tmp) (d:D):Exit→Act→World→Prop:=fun e a w=>e = .ret ∧
 (a.defers=[]∨∃ D,a.defers=[{ target:=.collected D,args:=#[] }]∧Γ.w.heap.size≤D∧w.heap[D]? = some (.deferred (some []))) ∧
 ∃ S' β',Core Γ S' β' w []∧dP S' β' d (a.tmps.getD t undef)
theorem aRe {fn:Func} {args:List D} {S:Mem} {β:dI} {w:World} {vs:List Value} (hc:Core ⟨S,w,xA β [],β⟩ S β w []) (hv:gD S β args vs) (hn:args.length≤fn.ntmps) :
 RR ⟨S,w,xA β [],β⟩ S β { tmps:=vs.toArray++Array.replicate (fn.ntmps - vs.toArray.size) undef,defers:=[] } w fn.ntmps ⟨aFE args 0,[],[],0⟩:=by
 obtain ⟨hvl,hvg⟩:=hv.get
 refine ⟨hc,fun t _=>?_,fun t ht=>absurd (fun q hq=>by cases hq) ht,by simp;omega,rfl,fun o k _ h=>h⟩
 unfold St.get
 simp only
 rw[aC3]
 by_cases ht:t<args.length
 ·rw[aH (by omega)]
  obtain ⟨u,hu,hru⟩:=hvg t _ (aD ht)
  have e1:args.getD (t - 0) (.c .bot)=args[t]:=by simp [List.getD,aD ht]
  have e2:(vs.toArray++Array.replicate (fn.ntmps - vs.toArray.size) undef).getD t undef=u:=by
   rw[aL,Array.getElem?_append_left (by simp;omega)]
   simp [hu]
  rw[e1,e2];exact hru
 ·rw[aG (by omega)];trivial
theorem bS.aNb {f:FuncId} {fn:Func} {c:Code} {R:Type} {args:List D} {m:Option R} {res:R→D} (t:Tmp)
 (hf:P.funcs[f]? = some fn) (hb:fn.body=some c) (hn:Nat.ble args.length fn.ntmps=true) (hrs:fn.results = #[.tmp t])
 (h:∀ r,m=some r→∀ Γ S β a w,RR Γ S β a w fn.ntmps ⟨aFE args 0,[],[],0⟩→c.wp P (aEw Γ t (res r)) a w):bS P f args [] m res (fun _=>[]):=by
 intro S β w vs hc hv r hr
 have hn:=aS hn
 refine callsIn_wide.1 (callsIn_of_wp_marks (F:=Fence.wide) (n:=9) hf hb trivial (wpIn_wide.2 (Code.wp_mono (fun e a w' he=>?_) (h r hr _ S β _ w (aRe hc hv hn)))) rfl)
 obtain ⟨rfl,hd,S',β',fQ,hrel⟩:=he
 have hres:∀ w'',(results fn a.tmps).run P w'' = .ok (a.tmps.getD t undef) w'':=fun w''=>aBE hrs a w'' rfl
 show LeavesInM Fence.wide 9 P fn a.tmps _ a.defers .returning w'
 rcases hd with hd | ⟨D,hd,hD,hK⟩
 ·rw[hd]
  exact ⟨_,hres w',_,S',β',rfl,hrel,fun o k ho _=>by simp at ho,fQ⟩
 ·rw[hd]
  refine ⟨by simp,.inl ⟨_,_,rfl,run_takeDeferred hK,?_⟩⟩
  exact ⟨_,hres _,_,S',β',rfl,hrel,fun o k ho _=>by simp at ho,fQ.grown rfl (grownBy_putObj' w' D _) fun r e=>by cases e;exact ⟨hD,_,hK,rfl⟩⟩
theorem Ref.at {c:Code} {t:T} {Γ:lG} {S:Mem} {β:dI} {a:Act} {w:World} {Q:Exit→Act→World→Prop} (h:Ref P n [c] st (some (.inr t)) go ab) (hr:RR Γ S β a w n st)
 (hk:∀ a' w' S' β',RR Γ S' β' a' w' n (go t)→Q .normal a' w'):c.wp P Q a w:=by
 refine Code.wp_mono (fun e a' w' he=>?_) (h Γ S β a w hr _ rfl)
 have he':Post Γ n go ab (.inr t) e a' w':=by cases e <;> exact he
 obtain ⟨rfl,S',β',hr'⟩:=he'
 exact hk a' w' S' β' hr'
theorem mP {c x y:Code} {a:Act} {w:World} {Q:Exit→Act→World→Prop} (h:c = .seq x y) (hx:x.wp P (Exit.then (y.wp P Q) Q) a w):c.wp P Q a w:=by rw[h];exact wp_seq hx
end
end Go.Dl
