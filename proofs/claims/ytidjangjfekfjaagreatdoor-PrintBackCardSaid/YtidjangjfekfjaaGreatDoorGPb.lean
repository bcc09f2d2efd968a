/- No conditions. -/
import Derived.Test.YtidjangjfekfjaaGreatDoorGPa
set_option linter.unusedVariables false
set_option linter.unusedSimpArgs false
set_option linter.unusedSectionVars false
namespace Go.Proofs.YtidjangjfekfjaaGreatDoor.ex
open Go Go.Dl
set_option maxHeartbeats 8000000
set_option maxRecDepth 100000
variable {T:List fS} {e:Int} {i:Nat} {k a:Int} {K:Nat}
def Ts (T:List fS):Prop:=∀ t∈T,lx.Is t.b9 t.eG t.fN
theorem Ts.at (h:Ts T) (hi:i<T.length):lx.Is (T.getD i default).b9 (T.getD i default).eG (T.getD i default).fN:=by
 refine h _ ?_
 have e:T.getD i default=T[i]:=by simp [List.getD,aN hi]
 rw[e]
 exact List.getElem_mem hi
theorem Ts.word (h:Ts T) (h1:eV T i 1=true):Wd (tok T e i).eG:=by
 have hi:=kK h1
 have:=h.at hi
 unfold eV at h1
 rw[aK,beq_iff_eq] at h1
 unfold tok
 rw[aJ hi]
 rw[h1.2] at this
 rw[aNe this] at this
 exact this
theorem Ts.num (h:Ts T) (h1:eV T i 3=true):∃ m:Nat,(tok T e i).fN=m∧m≤32768:=by
 have hi:=kK h1
 have:=h.at hi
 unfold eV at h1
 rw[aK,beq_iff_eq] at h1
 unfold tok
 rw[aJ hi]
 rw[h1.2] at this
 exact aQD this
inductive Rp (T:List fS) (e:Int) {α:Type} (i:Nat) (Q:α→Nat→Prop):α × cV→Prop
 | ok (j:Nat) (v:α):i<j→j≤T.length→Q v j→Rp T e i Q (v,P T e j)
 | er (j:Nat) (k a:Int) (v:α):k≠0→Rp T e i Q (v,PE T e j k a)
def QE (d:Int) (i:Nat) (v:dM) (j:Nat):Prop:=Sx v∧(nd v:Int)+d≤7∧(pr.gC v).length+i≤j
def QP (d:Int) (i:Nat) (v:dM) (j:Nat):Prop:=Sx v∧(n7 v:Int)+d≤7∧(wH v).length+i≤j
def Q19 (T:List fS) (e:Int) (n:Nat):Prop:=∀ (K i:Nat) (d:Int),T.length - i≤n→i≤T.length→1≤d→d≤7→200+4 * n≤K→∃ x,b5 (uN K (P T e i) d)=some x∧Rp T e i (QE d i) x
def Q40 (T:List fS) (e:Int) (n:Nat):Prop:=∀ (K i:Nat) (d:Int),T.length - i≤n→i≤T.length→1≤d→d≤7→(6<d→fY T i=false)→202+4 * n≤K+4→150≤K→∃ x,b5 (F38 (K+1) (P T e i) d)=some x∧Rp T e i (QP d i) x
theorem Rp.aIT {α:Type} {Q Q':α→Nat→Prop} {i0:Nat} {x:α × cV} (h:Rp T e i Q x) (hi:i0≤i) (hQ:∀ v j,i<j→Q v j→Q' v j):Rp T e i0 Q' x:=by
 cases h with
 | ok j v h1 h2 h3=>exact .ok j v (by omega) h2 (hQ v j h1 h3)
 | er j k a v h=>exact .er j k a v h
theorem Rp.map {α β:Type} {Q:α→Nat→Prop} {Q':β→Nat→Prop} {i0:Nat} {x:α × cV} (f:α→β) (h:Rp T e i Q x) (hi:i0≤i) (hQ:∀ v j,i<j→Q v j→Q' (f v) j):Rp T e i0 Q' (f x.1,x.2):=by
 cases h with
 | ok j v h1 h2 h3=>exact .ok j _ (by omega) h2 (hQ v j h1 h3)
 | er j k a v h=>exact .er j k a _ h
theorem aQF (hT:T.length≤100000) (hs:Ts T) (hK:101<K):∃ x,b5 (F68 K (P T e i))=some x∧Rp T e i (fun w j=>Wd w∧i+3≤j) x:=by
 rw[s71 hT hK]
 cases h1:cW T i [[40]]
 ·simp only[aE,if_false]
  exact ⟨_,rfl,.er _ _ _ _ (by decide)⟩
 have l1:=eA h1
 simp only[if_true]
 cases h2:eV T (i+1) 1
 ·simp only[aE,if_false]
  exact ⟨_,rfl,.er _ _ _ _ (by decide)⟩
 have l2:=kK h2
 simp only[if_true]
 cases h3:cW T (i+1+1) [[41]]
 ·simp only[aE,if_false]
  exact ⟨_,rfl,.er _ _ _ _ (by decide)⟩
 have l3:=eA h3
 simp only[if_true]
 exact ⟨_,rfl,.ok _ _ (by omega) (by omega) ⟨hs.word h2,by omega⟩⟩
theorem aCA (hT:T.length≤100000) {n:Nat} (h19:Q19 T e n) (K i:Nat) (d:Int) (l r:Bytes) (h:cW T i [l]=true) (hn:T.length - (i+1)≤n) (hd:1≤d) (rW:d≤6) (hK:200+4 * n≤K) :
 ∃ x,b5 (F70 (K+1) (P T e i) d l r)=some x∧Rp T e i (fun v j=>Sx v∧(nd v:Int)+1+d≤7∧(pr.gC v).length+2+i≤j) x:=by
 have hi:=eA h
 rw[s73 hT (by omega) d l r h,wrap64 (by omega) (by omega)]
 obtain ⟨x,h1,h2⟩:=h19 K (i+1) (d+1) hn (by omega) (by omega) (by omega) hK
 rw[h1,aA]
 cases h2 with
 | er j k a v hk =>
   dsimp only
   rw[vP (by omega),aQ]
   exact ⟨_,rfl,.er _ _ _ _ hk⟩
 | ok j v hj hl hq =>
   obtain ⟨q1,q2,q3⟩:=hq
   dsimp only
   rw[p93 hT (by omega),aQ]
   cases hr:cW T j [r]
   ·simp only[aE,if_false]
    exact ⟨_,rfl,.er _ _ _ _ (by decide)⟩
   ·have:=eA hr
    simp only[if_true]
    exact ⟨_,rfl,.ok _ _ (by omega) (by omega) ⟨q1,by omega,by omega⟩⟩
theorem aLH (l:List dM) (x:dM):(jE (l++[x])).length=(jE l).length+(pr.gC x).length+(if l=[] then 0 else 1):=by
 cases l with
 | nil=>simp [jE]
 | cons y r=>simp [jE,List.flatMap_append];omega
theorem aNh (hT:T.length≤100000) {n0:Nat} (h19:Q19 T e n0) (K:Nat) (d:Int) (hd:1≤d) (rW:d≤6) (hK:200+4 * n0≤K) (b:Nat) :
 ∀ (n i:Nat) (l:List dM) (q:Nat),T.length - i≤n→n≤n0→i≤T.length→(d=6→l=[])→l.length≤i→n+2<q→(∀ x∈l,Sx x∧(nd x:Int)+1+d≤7)→(jE l).length+(if l=[] then 0 else 1)+b≤i→l.length≤3 →
   ∃ l1 p1 p2,iter q (mT K d) (P T e i,l,true)=some (.inl (p1,l1))∧b5 (fV K p1 [[41]])=some p2∧Rp T e i (fun l1 j=>(∀ x∈l1,Sx x∧(nd x:Int)+1+d≤7)∧l1.length≤3∧(jE l1).length+1+b≤j) (l1,p2)
 | n,i,l,0,_,_,_,_,_,hq,_,_,_=>absurd hq (by omega)
 | n,i,l,q+1,hn,hn0,hi,h6,hl,hq,hx,hb,h3=>by
   by_cases hfull:(3≤l.length∧d<6)∧fY T i=true
   ·have e1:=aGO (T:=T) (e:=e) (i:=i) (K:=K) (by omega) hfull ⟨hd,by omega⟩ (by omega)
    obtain ⟨q',rfl⟩:∃ z,q=z+1:=⟨q - 1,by omega⟩
    refine ⟨l++[⟨5,0,(tok T e i).eG,[],[]⟩],PE T e i 5 (tok T e i).kQ,PE T e i 5 (tok T e i).kQ,?_,vP (i:=i) (k:=5) (a:=(tok T e i).kQ) (by omega),.er _ _ _ _ (by decide)⟩
    unfold iter
    rw[e1]
    dsimp only
    unfold iter
    rw[vQ]
   ·obtain ⟨⟨v,p'⟩,f1,f2⟩:=h19 K i (d+1) (by omega) hi (by omega) (by omega) hK
    obtain ⟨q',rfl⟩:∃ z,q=z+1:=⟨q - 1,by omega⟩
    cases f2 with
    | er j k a v hk =>
      have e1:=pJ (T:=T) (e:=e) (i:=i) (K:=K) (by omega) hfull ⟨hd,by omega⟩ (by omega) f1 lS
      refine ⟨l++[v],_,_,?_,vP (i:=j) (k:=k) (a:=a) (by omega),.er _ _ _ _ hk⟩
      unfold iter;rw[e1];dsimp only;unfold iter;rw[vQ]
    | ok j v hj hl' hqv =>
      obtain ⟨v1,v2,v3⟩:=hqv
      have hnd:=aCy v
      have hd5:d≤5:=by omega
      have hst:fY T i=true:=by
       cases hs:fY T i
       ·exfalso
        -- what does not begin is no expression
        obtain ⟨z,rfl⟩:∃ z,K=z+2:=⟨K - 2,by omega⟩
        rw[s19 hT (by omega)] at f1
        unfold o19 at f1
        have hsg:=wG (T:=T) (i:=i)
        rw[hs,Bool.or_eq_false_iff,Bool.or_eq_false_iff,Bool.or_eq_false_iff] at hsg
        obtain ⟨g1,⟨g2,g3⟩,g4⟩:=hsg
        have gs:∀ w∈pS,cW T i [w]=false:=fun w hw=>gV g4 fun x hx=>by rw[aS.1 hx];exact hw
        rw[aG (fun g=>by rw[hs] at g;cases g.2),aG (by rw[gV (l:=[[45]]) g1 (by simp)];simp),aG (by rw[gV (l:=[[78,79,84]]) g1 (by simp)];simp),s40 hT (by omega)] at f1
        unfold o40 at f1
        rw[g3,gs _ (by decide),gs _ (by decide),gs _ (by decide),gs _ (by decide),gs _ (by decide),gs _ (by decide),gs _ (by decide),gs _ (by decide),gV (l:=[[84,72,73,83],[83,85,80,69,82]]) g4 (by simp),g2] at f1
        simp only[aE,if_false,aA] at f1
        rw[aKs (by omega)] at f1
        have:=congrArg (fun o:Option (dM × cV)=>o.map fun r=>r.2.j9) f1
        simp [P,PE] at this
       ·rfl
      have hl3:l.length<3:=by
       rcases bI l.length 3 with h | h
       ·exact h
       ·exact absurd ⟨⟨h,by omega⟩,hst⟩ hfull
      have hx':∀ x∈l++[v],Sx x∧(nd x:Int)+1+d≤7:=by
       intro x hm
       rcases bH.1 hm with hm | hm
       ·exact hx x hm
       ·rw[aS.1 hm];exact ⟨v1,by omega⟩
      have hlen:=aLH l v
      cases hc:cW T j [[44]]
      ·have e1:=pJ (T:=T) (e:=e) (i:=i) (K:=K) (by omega) hfull ⟨hd,by omega⟩ (by omega) f1 (nJ hT (by omega) hc)
       refine ⟨l++[v],P T e j,_,?_,p93 hT (by omega),?_⟩
       ·unfold iter;rw[e1];dsimp only;unfold iter;rw[vQ]
       ·cases hr:cW T j [[41]]
        ·simp only[aE,if_false]
         exact .er _ _ _ _ (by decide)
        ·have:=eA hr
         simp only[if_true]
         exact .ok _ _ (by omega) (by omega) ⟨hx',by simp;omega,by omega⟩
      ·have hj2:=eA hc
       have e1:=pJ (T:=T) (e:=e) (i:=i) (K:=K) (by omega) hfull ⟨hd,by omega⟩ (by omega) f1 (sN hT (by omega) hc)
       obtain ⟨l1,p1,p2,z1,z2,z3⟩:=aNh hT h19 K d hd rW hK b (n - 1) (j+1) (l++[v]) (q'+1) (by omega) (by omega) (by omega) (fun h=>by omega) (by simp;omega) (by omega) hx' (by rw[hlen];simp;omega) (by simp;omega)
       refine ⟨l1,p1,p2,?_,z2,z3.aIT (by omega) fun _ _ _ h=>h⟩
       conv=>lhs;unfold iter
       rw[e1];exact z1
 termination_by n _ _ _=>n
theorem aCB (hT:T.length≤100000) (hs:Ts T) {n0:Nat} (h19:Q19 T e n0) (K i:Nat) (d:Int) (e0:dM) (hk:e0.b9=13) (hn:T.length - i≤n0) (hi:i≤T.length) (hd:1≤d) (rW:d≤6) (hK:200+4 * n0≤K) :
 ∃ x,b5 (F72 (K+1) (P T e i) e0 d)=some x∧Rp T e i (fun v j=>∃ wh ag,v=⟨13,e0.fN,e0.cA,wh,ag⟩∧Wd wh∧(∀ x∈ag,Sx x∧(nd x:Int)+1+d≤7)∧ag.length≤3∧(jE ag).length+4+i≤j) x:=by
 by_cases oY:cW T i [[46]]=true∧eV T (i+1) 1=true∧cW T (i+1+1) [[40]]=true
 ·obtain ⟨h1,h2,h3⟩:=oY
  have l3:=eA h3
  rw[s75 hT (by omega) e0 d hk h1 h2 h3]
  unfold aAD
  cases h4:cW T (i+1+1+1) [[41]]
  ·rw[nJ hT (by omega) h4,aA]
   simp only[aE,if_false]
   obtain ⟨m1,p1,p2,z1,z2,z3⟩:=aNh hT h19 K d hd rW hK (i+3) (n0 - 3) (i+1+1+1) [] K (by omega) (by omega) (by omega) (fun _=>rfl) (by simp) (by omega) (by simp) (by simp [jE]) (by simp)
   rw[z1]
   simp only[aQ,cC,cD]
   rw[z2]
   cases z3 with
   | er j k a v hk=>exact ⟨_,rfl,.er j k a _ hk⟩
   | ok j v hj hl hq =>
     obtain ⟨q1,q2,q3⟩:=hq
     exact ⟨_,rfl,.ok j _ (by omega) hl ⟨_,_,rfl,hs.word h2,q1,q2,by omega⟩⟩
  ·have l4:=eA h4
   rw[sN hT (by omega) h4,aA]
   simp only[if_true]
   exact ⟨_,rfl,.ok _ _ (by omega) (by omega) ⟨_,[],rfl,hs.word h2,by simp,by simp,by simp [jE];omega⟩⟩
 ·obtain ⟨v,j,a,h⟩:=aY8 (T:=T) (e:=e) (i:=i) (K:=K) hT (by omega) e0 d hk (by
   cases h1:cW T i [[46]]
   ·exact .inl rfl
   ·cases h2:eV T (i+1) 1
    ·exact .inr (.inl rfl)
    ·cases h3:cW T (i+1+1) [[40]]
     ·exact .inr (.inr rfl)
     ·exact absurd ⟨h1,h2,h3⟩ oY)
  exact ⟨_,h,.er _ _ _ _ (by decide)⟩
end Go.Proofs.YtidjangjfekfjaaGreatDoor.ex

namespace Go.Proofs.YtidjangjfekfjaaGreatDoor.ex
open Go Go.Dl
set_option maxHeartbeats 8000000
set_option maxRecDepth 100000
variable {T:List fS} {e:Int} {i:Nat} {k a:Int} {K:Nat}
theorem qp {d:Int} {v:dM} {j:Nat} (h:Sx v) (hp:np v.b9=false) (hn:(nd v:Int)+d≤7) (hl:(pr.gC v).length+i≤j):QP d i v j:=⟨h,by rw[aKv hp];exact hn,by rw[zM hp];exact hl⟩
theorem aV9 (hT:T.length≤100000) (hs:Ts T) {n:Nat} (h19:∀ m,m<n→Q19 T e m):Q40 T e n:=by
 intro K i d hn hi hd hd7 h7 hK hK2
 have hKb:100<K:=by omega
 have d6:fY T i=true→d≤6:=fun h=>by
  by_cases g:6<d
  ·rw[h7 g] at h;cases h
  ·omega
 rw[s40 hT hKb]
 unfold o40
 cases h3:eV T i 3
 rotate_left
 ·have l:=kK h3
  have rW:=d6 (aBb (.inr rfl) h3)
  obtain ⟨m,hm,hm2⟩:=hs.num (e:=e) h3
  rw[aJ rfl,hm]
  exact ⟨_,rfl,.ok _ _ (by omega) (by omega) (qp (.num m hm2) rfl (by rw[rN rfl];omega) (by rw[aFj];simp;omega))⟩
 rw[aG (by simp)]
 cases h1:cW T i [[84,82,85,69]]
 rotate_left
 ·have l:=eA h1
  have rW:=d6 (iP (by decide) h1)
  rw[aJ rfl]
  exact ⟨_,rfl,.ok _ _ (by omega) (by omega) (qp (.lit 2 (by simp)) rfl (by rw[rN rfl];omega) (by rw[aAF (by simp)];simp;omega))⟩
 rw[aG (by simp)]
 cases h1:cW T i [[70,65,76,83,69]]
 rotate_left
 ·have l:=eA h1
  have rW:=d6 (iP (by decide) h1)
  rw[aJ rfl]
  exact ⟨_,rfl,.ok _ _ (by omega) (by omega) (qp (.lit 3 (by simp)) rfl (by rw[rN rfl];omega) (by rw[aAF (by simp)];simp;omega))⟩
 rw[aG (by simp)]
 cases h1:cW T i [[78,85,76,76]]
 rotate_left
 ·have l:=eA h1
  have rW:=d6 (iP (by decide) h1)
  rw[aJ rfl]
  exact ⟨_,rfl,.ok _ _ (by omega) (by omega) (qp (.lit 4 (by simp)) rfl (by rw[rN rfl];omega) (by rw[aAF (by simp)];simp;omega))⟩
 rw[aG (by simp)]
 have ofk:∀ (q:Int),q=10∨q=11∨q=12→d≤6→i<T.length→∃ x,((b5 (F68 K (P T e (i+1)))).map fun r=>((⟨q,0,r.1,[],[]⟩:dM),r.2))=some x∧Rp T e i (QP d i) x:=by
  intro q hq rW l
  obtain ⟨x,b1,b2⟩:=aQF (e:=e) (i:=i+1) hT hs (K:=K) (by omega)
  rw[b1,aQ]
  refine ⟨_,rfl,b2.map (fun w=>(⟨q,0,w,[],[]⟩:dM)) (by omega) fun w j hj hw=>?_⟩
  refine qp (.of q w hq hw.1) (by rcases hq with rfl | rfl | rfl <;> rfl) ?_ ?_
  ·rw[rN (by rcases hq with rfl | rfl | rfl <;> rfl)];omega
  ·rw[aGU w hq];simp;omega
 cases h1:cW T i [[82,69,70]]
 rotate_left
 ·rw[aJ rfl];exact ofk 10 (by simp) (d6 (iP (by decide) h1)) (eA h1)
 rw[aG (by simp)]
 cases h1:cW T i [[68,79,78,69]]
 rotate_left
 ·rw[aJ rfl];exact ofk 11 (by simp) (d6 (iP (by decide) h1)) (eA h1)
 rw[aG (by simp)]
 cases h1:cW T i [[67,79,85,78,84]]
 rotate_left
 ·rw[aJ rfl];exact ofk 12 (by simp) (d6 (iP (by decide) h1)) (eA h1)
 rw[aG (by simp)]
 clear ofk
 cases h1:cW T i [[65,83]]
 rotate_left
 ·have l:=eA h1
  have rW:=d6 (iP (by decide) h1)
  rw[aJ rfl]
  obtain ⟨q,rfl⟩:∃ z,K=z+3:=⟨K - 3,by omega⟩
  cases h2:eV T (i+1) 1
  ·obtain ⟨v,hv⟩:=aY6 (T:=T) (e:=e) (i:=i+1) (k:=3) (a:=(tok T e (i+1)).kQ) (K:=q) (by omega) d [40] [41]
   rw[aG (by simp),hv]
   exact ⟨_,rfl,.er _ _ _ _ (by decide)⟩
  ·have l2:=kK h2
   rw[aJ rfl]
   cases h4:cW T (i+1+1) [[40]]
   ·obtain ⟨v,hv⟩:=aY7 (T:=T) (e:=e) (i:=i+1+1) (K:=q) hT (by omega) d [40] [41] h4
    rw[hv]
    exact ⟨_,rfl,.er _ _ _ _ (by decide)⟩
   ·obtain ⟨x,w1,w2⟩:=aCA hT (h19 (n - 3) (by omega)) (q+2) (i+1+1) d [40] [41] h4 (by omega) hd rW (by omega)
    have l4:=eA h4
    rw[w1,aQ]
    refine ⟨_,rfl,w2.map (fun v=>(⟨14,0,(tok T e (i+1)).eG,[],[v]⟩:dM)) (by omega) fun v j hj hv=>?_⟩
    obtain ⟨v1,v2,v3⟩:=hv
    refine qp (.cast _ v (hs.word h2) v1) rfl ?_ ?_
    ·rw[aFk rfl];omega
    ·rw[aGT];simp;omega
 rw[aG (by simp)]
 cases h1:cW T i [[40]]
 rotate_left
 ·have l:=eA h1
  have rW:=d6 (iP (by decide) h1)
  rw[aJ rfl]
  obtain ⟨q,rfl⟩:∃ z,K=z+1:=⟨K - 1,by omega⟩
  obtain ⟨x,w1,w2⟩:=aCA hT (h19 (n - 1) (by omega)) q i d [40] [41] h1 (by omega) hd rW (by omega)
  refine ⟨_,w1,w2.aIT (aR _) fun v j hj hv=>?_⟩
  obtain ⟨v1,v2,v3⟩:=hv
  have:=aQE v
  have:=aTr v
  exact ⟨v1,by omega,by omega⟩
 rw[aG (by simp)]
 have ndc:∀ (m:Int) (w s:Bytes) (ag:List dM),d≤6→(∀ x∈ag,Sx x∧(nd x:Int)+1+d≤7)→(nd ⟨13,m,w,s,ag⟩:Int)+d≤7:=by
  intro m w s ag rW h
  have:nd ⟨13,m,w,s,ag⟩≤(7 - d).toNat:=aFl.2 ⟨by omega,fun x hx=>by have:=(h x hx).2;omega⟩
  omega
 cases h1:cW T i [[84,72,73,83],[83,85,80,69,82]]
 rotate_left
 ·have l:=eA h1
  have hst:fY T i=true:=by
   rw[kA,bK] at h1
   rcases h1 with h | h
   ·exact iP (by decide) h
   ·exact iP (by decide) h
  have rW:=d6 hst
  rw[aJ rfl]
  obtain ⟨q,rfl⟩:∃ z,K=z+2:=⟨K - 2,by omega⟩
  rw[s74 hT (by omega) d h1]
  obtain ⟨x,c1,c2⟩:=aCB hT hs (h19 (n - 1) (by omega)) q (i+1) d ⟨13,if cW T i [[84,72,73,83]]=true then 1 else 2,[],[],[]⟩ rfl (by omega) (by omega) hd rW (by omega)
  refine ⟨_,c1,c2.aIT (by omega) fun v j hj hv=>?_⟩
  obtain ⟨wh,ag,rfl,g1,g2,g3,g4⟩:=hv
  have hm:(if cW T i [[84,72,73,83]]=true then (1:Int) else 2)=1∨(if cW T i [[84,72,73,83]]=true then (1:Int) else 2)=2:=by split <;> simp
  refine qp (.own _ wh ag hm g1 (fun x hx=>(g2 x hx).1) g3) rfl (ndc _ _ _ _ rW g2) ?_
  rw[aAG wh ag hm];simp;omega
 rw[aG (by simp)]
 cases hW:eV T i 1
 ·rw[aG (by simp)]
  exact ⟨_,rfl,.er _ _ _ _ (by decide)⟩
 have l:=kK hW
 have rW:=d6 (aBb (.inl rfl) hW)
 rw[aJ rfl]
 cases h1:cW T (i+1) [[91]]
 rotate_left
 ·rw[aJ rfl]
  obtain ⟨q,rfl⟩:∃ z,K=z+1:=⟨K - 1,by omega⟩
  have l2:=eA h1
  obtain ⟨x,w1,w2⟩:=aCA hT (h19 (n - 2) (by omega)) q (i+1) d [91] [93] h1 (by omega) hd rW (by omega)
  rw[w1,aQ]
  refine ⟨_,rfl,w2.map (fun v=>(⟨6,0,(tok T e i).eG,[],[v]⟩:dM)) (by omega) fun v j hj hv=>?_⟩
  obtain ⟨v1,v2,v3⟩:=hv
  refine qp (.index _ v (hs.word hW) v1) rfl ?_ ?_
  ·rw[aFk rfl];omega
  ·rw[vT];simp;omega
 rw[aG (by simp)]
 cases h1:cW T (i+1) [[46]]
 rotate_left
 ·rw[aJ rfl]
  obtain ⟨q,rfl⟩:∃ z,K=z+1:=⟨K - 1,by omega⟩
  obtain ⟨x,c1,c2⟩:=aCB hT hs (h19 (n - 1) (by omega)) q (i+1) d ⟨13,0,(tok T e i).eG,[],[]⟩ rfl (by omega) (by omega) hd rW (by omega)
  refine ⟨_,c1,c2.aIT (by omega) fun v j hj hv=>?_⟩
  obtain ⟨wh,ag,rfl,g1,g2,g3,g4⟩:=hv
  refine qp (.call _ wh ag (hs.word hW) g1 (fun x hx=>(g2 x hx).1) g3) rfl (ndc _ _ _ _ rW g2) ?_
  dsimp only
  rw[tL];simp;omega
 rw[aG (by simp)]
 exact ⟨_,rfl,.ok _ _ (by omega) (by omega) (qp (.name _ (hs.word hW)) rfl (by rw[rN rfl];omega) (by rw[zK];simp;omega))⟩
theorem aTs (hT:T.length≤100000) (hs:Ts T) {n:Nat} (h40:∀ m,m≤n→Q40 T e m):Q19 T e n:=by
 intro K i d hn hi hd hd7 hK
 obtain ⟨q,rfl⟩:∃ z,K=z+2:=⟨K - 2,by omega⟩
 rw[s19 hT (by omega)]
 unfold o19
 by_cases vS:6<d∧fY T i=true
 ·rw[aJ vS]
  exact ⟨_,rfl,.er _ _ _ _ (by decide)⟩
 rw[aG vS]
 have h6:6<d→fY T i=false:=fun g=>by simpa [g] using vS
 have d6:fY T i=true→d≤6:=fun h=>by
  by_cases g:6<d
  ·rw[h6 g] at h;cases h
  ·omega
 have sgn:∀ (z:Int),z=7∨z=8→d≤6→i<T.length→∃ x,((b5 (F38 (q+1) (P T e (i+1)) d)).map fun r=>((⟨z,0,[],[],[r.1]⟩:dM),r.2))=some x∧Rp T e i (QE d i) x:=by
  intro z hz rW l
  obtain ⟨x,c1,c2⟩:=h40 (n - 1) (by omega) q (i+1) d (by omega) (by omega) hd hd7 (fun g=>by omega) (by omega) (by omega)
  rw[c1,aQ]
  refine ⟨_,rfl,c2.map (fun v=>(⟨z,0,[],[],[v]⟩:dM)) (by omega) fun v j hj hv=>?_⟩
  obtain ⟨v1,v2,v3⟩:=hv
  refine ⟨.sign z v hz v1,?_,?_⟩
  ·rw[aKu (by rcases hz with rfl | rfl <;> rfl)];exact v2
  ·rw[zL v hz];simp;omega
 cases hM:cW T i [[45]]
 rotate_left
 ·rw[aJ rfl];exact sgn 7 (by simp) (d6 (iP (by decide) hM)) (eA hM)
 rw[aG (by simp)]
 cases hN:cW T i [[78,79,84]]
 rotate_left
 ·rw[aJ rfl];exact sgn 8 (by simp) (d6 (iP (by decide) hN)) (eA hN)
 rw[aG (by simp)]
 clear sgn
 obtain ⟨x,c1,c2⟩:=h40 n (aR _) q i d hn hi hd hd7 h6 (by omega) (by omega)
 rw[c1,aA]
 cases c2 with
 | er j k a v hk =>
   rw[aKs (by omega)]
   exact ⟨_,rfl,.er _ _ _ _ hk⟩
 | ok j v hj hl hv =>
   obtain ⟨v1,v2,v3⟩:=hv
   have hnd:=aCy v
   have hop:1≤n7 v:=by unfold n7 opd;split <;> dsimp only <;> omega
   rw[aIR hT (by omega)]
   unfold t19
   cases ho:cW T j opsL
   ·rw[aG (by simp)]
    refine ⟨_,rfl,.ok j _ hj hl ⟨v1,?_,?_⟩⟩
    ·have:nd v≤n7 v:=by unfold n7 opd;split <;> dsimp only <;> omega
     omega
    ·have:(pr.gC v).length≤(wH v).length:=by unfold wH;split <;> simp <;> omega
     omega
   ·have lo:=eA ho
    rw[aJ rfl]
    obtain ⟨x,c1,c2⟩:=h40 (n - 1) (by omega) q (j+1) d (by omega) (by omega) hd hd7 (fun g=>by omega) (by omega) (by omega)
    rw[c1,aQ]
    have o14:=aNf (T:=T) (i:=j)
    have o0:opN T j≠0:=fun g=>by rw[aGM.1 g] at ho;cases ho
    refine ⟨_,rfl,c2.map (fun w=>(⟨9,((opN T j:Nat):Int),[],[],[v,w]⟩:dM)) (by omega) fun w z hz hw=>?_⟩
    obtain ⟨w1,w2,w3⟩:=hw
    refine ⟨.bin _ v w (by omega) o14 v1 w1,?_,?_⟩
    ·rw[aNg];omega
    ·rw[aCz];simp;omega
theorem aR1 (hT:T.length≤100000) (hs:Ts T):∀ n,Q19 T e n:=by
 intro n
 induction n using Nat.strongRecOn with
 | ind n ih=>exact aTs hT hs fun m hm=>aV9 hT hs fun m' hm'=>ih m' (by omega)
end Go.Proofs.YtidjangjfekfjaaGreatDoor.ex
