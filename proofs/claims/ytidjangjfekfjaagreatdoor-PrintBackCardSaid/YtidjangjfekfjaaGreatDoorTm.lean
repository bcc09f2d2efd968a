/- No conditions. -/
import Derived.Test.YtidjangjfekfjaaGreatDoorSm
set_option linter.unusedVariables false
set_option linter.unusedSimpArgs false
set_option linter.unusedSectionVars false
namespace Go.Proofs.YtidjangjfekfjaaGreatDoor
open Go Go.Dl
section
variable {α:Type} {E:El α} {l:List α} {S:Mem} {β:eB} {v:Value}
theorem lA (h:dN S β (E.tree l) v):l.length≤maxLen:=by
 obtain ⟨a,cap,_,h2,h3,_⟩:=h
 omega
theorem gQ (h:dN S β (E.tree l) v) {x:α} (hx:x∈l) {j:Nat} (hj:j<E.w):∃ u,dN S qD ((E.cs x).getD j .bot) u:=by
 obtain ⟨a,cap,_,h2,h3,h4⟩:=h
 obtain ⟨i,hi,rfl⟩:=List.mem_iff_getElem.1 hx
 rcases h4 with h4 | ⟨b,off,h5,h6⟩
 ·omega
 ·obtain ⟨u,_,hu⟩:=h6 i j hi hj
  refine ⟨u,?_⟩
  unfold El.at at hu
  rwa [show l.getD i E.d=l[i] by simp [List.getD,aN hi]] at hu
end
inductive T25:List dM→Prop
 | mk (l:List dM) (h:l.length≤maxLen) (hx:∀ x∈l,T25 x.gK):T25 l
inductive aJN:List cU→Prop
 | mk (l:List cU) (h:l.length≤maxLen) (hE:∀ x∈l,T25 x.eD) (hL:∀ x∈l,x.dF.length≤maxLen∧∀ y∈x.dF,y.length≤maxLen) (hB:∀ x∈l,x.dL.length≤maxLen)
   (hb:∀ x∈l,∀ b∈x.dL,aJN b):aJN l
structure T83 (x:jT):Prop where
 p:x.dH.length≤maxLen
 v:x.fB.length≤maxLen
 b:aJN x.fM
structure T50 (x:kY):Prop where
 f:x.eL.length≤maxLen
 v:x.fB.length≤maxLen
 m:x.b6.length≤maxLen
 ms:∀ y∈x.b6,T83 y
 b:aJN x.fM
structure T36 (x:yL):Prop where
 l:x.b7.length≤maxLen
 d:∀ y∈x.b7,T50 y
theorem t25 {S:Mem}:∀ (n:Nat) (l:List dM),SizeOf.sizeOf l<n→∀ (β:eB) (v:Value),dN S β (dD.tree l) v→T25 l
 | 0,l,hn,_,_,_=>absurd hn (by omega)
 | n+1,l,hn,β,v,h=>by
   refine .mk l (lA h) fun x hx=>?_
   obtain ⟨u,hu⟩:=gQ h hx (j:=4) (by decide)
   have hs:=List.sizeOf_lt_of_mem hx
   have hs2:SizeOf.sizeOf x.gK<SizeOf.sizeOf x:=by cases x;simp;omega
   exact t25 n x.gK (by omega) qD u (pE x.gK _ _ _ hu)
theorem aZC {S:Mem} {l:List dM} {β:eB} {v:Value} (h:dN S β (dD.tree l) v):T25 l:=t25 _ l (Nat.lt_succ_self _) β v h
theorem t110 {S:Mem}:∀ (n:Nat) (l:List cU),SizeOf.sizeOf l<n→∀ (β:eB) (v:Value),dN S β (cF.tree l) v→aJN l
 | 0,l,hn,_,_,_=>absurd hn (by omega)
 | n+1,l,hn,β,v,h=>by
   refine .mk l (lA h) (fun x hx=>?_) (fun x hx=>?_) (fun x hx=>?_) fun x hx b hb=>?_
   ·obtain ⟨u,hu⟩:=gQ h hx (j:=3) (by decide)
    exact aZC hu
   ·obtain ⟨u,hu⟩:=gQ h hx (j:=4) (by decide)
    refine ⟨lA (E:=iI) hu,fun y hy=>?_⟩
    obtain ⟨u2,hu2⟩:=gQ (E:=iI) hu hy (j:=0) (by decide)
    exact lA (E:=E3) hu2
   ·obtain ⟨u,hu⟩:=gQ h hx (j:=5) (by decide)
    exact lA (E:=fQ) (iO x.dL _ _ _ hu)
   ·obtain ⟨u,hu⟩:=gQ h hx (j:=5) (by decide)
    obtain ⟨u2,hu2⟩:=gQ (E:=fQ) (iO x.dL _ _ _ hu) hb (j:=0) (by decide)
    have hs:=List.sizeOf_lt_of_mem hx
    have hs1:=List.sizeOf_lt_of_mem hb
    have hs2:SizeOf.sizeOf x.dL<SizeOf.sizeOf x:=by cases x;simp;omega
    exact t110 n b (by omega) qD u2 hu2
theorem aSP {S:Mem} {l:List cU} {β:eB} {v:Value} (h:dN S β (cF.tree l) v):aJN l:=t110 _ l (Nat.lt_succ_self _) β v h
theorem t36 {S:Mem} {x:yL} {β:eB} {v:Value} (h:dN S β (eP.tree x.b7) v):T36 x:=by
 refine ⟨lA h,fun y hy=>⟨?_,?_,?_,fun z hz=>⟨?_,?_,?_⟩,?_⟩⟩
 ·obtain ⟨u,hu⟩:=gQ h hy (j:=3) (by decide);exact lA (E:=E9) hu
 ·obtain ⟨u,hu⟩:=gQ h hy (j:=6) (by decide);exact lA (E:=dG) hu
 ·obtain ⟨u,hu⟩:=gQ h hy (j:=7) (by decide);exact lA (E:=fC) hu
 ·obtain ⟨u,hu⟩:=gQ h hy (j:=7) (by decide)
  obtain ⟨u2,hu2⟩:=gQ (E:=fC) hu hz (j:=4) (by decide);exact lA (E:=dG) hu2
 ·obtain ⟨u,hu⟩:=gQ h hy (j:=7) (by decide)
  obtain ⟨u2,hu2⟩:=gQ (E:=fC) hu hz (j:=9) (by decide);exact lA (E:=dG) hu2
 ·obtain ⟨u,hu⟩:=gQ h hy (j:=7) (by decide)
  obtain ⟨u2,hu2⟩:=gQ (E:=fC) hu hz (j:=10) (by decide);exact aSP hu2
 ·obtain ⟨u,hu⟩:=gQ h hy (j:=8) (by decide);exact aSP hu
section
variable {A T U:Type}
theorem uC {X:Type} {K n:Nat} (hn:n≤maxLen) (hK:n<K) (B:Int→Option (((Unit) ⊕ (Unit ⊕ X)) ⊕ Unit)) (hB:∀ i:Nat,i<n→B (i:Int)=some (.inr ())) :
 (iter K (fun (u:Int)=>(if decide ((u:Int)<(Int.ofNat n))=true then (cO (cN (B u)) (fun (_:Unit)=>(some (.inr ((IntKind.i64.wrap (u+1))))))) else (some (.inl (Sum.inl ())))):Int→Option ((Unit ⊕ X) ⊕ Int)) 0)=some (Sum.inl ()):=by
 refine aC8 (fun t:Int=>n - t.toNat) (fun _=>Sum.inl ()) (fun t=>0≤t∧t.toNat≤n) ?_ K 0 (by simp) (by simpa using hK)
 rintro i ⟨g1,g2⟩
 obtain ⟨k,rfl⟩:∃ k:Nat,i=(k:Int):=⟨i.toNat,by omega⟩
 simp only[aY] at g2
 have hm:maxLen≤9223372036854775807:=by unfold maxLen;omega
 by_cases hk:k<n
 ·left
  rw[aJ (by simp;omega),hB k hk]
  refine ⟨((k+1:Nat):Int),?_,⟨by omega,by simp;omega⟩,by simp;omega,rfl⟩
  rw[cH,cD,wrap64 (by omega) (by omega)];rfl
 ·right
  rw[aG (by simp;omega)]
end
theorem ne_self (a:Int):(a != a)=false:=bne_self_eq_false a
theorem aUF {l:List Bytes} (h:l.length≤maxLen) {K:Nat} (hK:l.length<K):b5 (F29 K l l)=some true:=by
 unfold F29
 simp only[cY,ne_self,aE,if_false]
 rw[uC h hK _ fun i hi=>by rw[dZ (eW hi),dZ (eW hi),cB] <;> simp]
 rfl
theorem aJO {l:List fO} (h:l.length≤maxLen) {K:Nat} (hK:l.length<K):b5 (F30 K l l)=some true:=by
 unfold F30
 simp only[cY,ne_self,aE,if_false]
 rw[uC h hK _ fun i hi=>by rw[dZ (eW hi),dZ (eW hi),cB] <;> simp]
 rfl
theorem aUG {l:List Int} (h:l.length≤maxLen) {K:Nat} (hK:l.length<K):b5 (F60 K l l)=some true:=by
 unfold F60
 simp only[cY,ne_self,aE,if_false]
 rw[uC h hK _ fun i hi=>by rw[dZ (eW hi),dZ (eW hi),cB] <;> simp]
 rfl
def Ev (P:Nat→Prop):Prop:=∃ N,∀ K,N≤K→P K
theorem Ev.and {P Q:Nat→Prop} (h:Ev P) (k:Ev Q):Ev fun K=>P K∧Q K:=by
 obtain ⟨n,h⟩:=h
 obtain ⟨m,k⟩:=k
 exact ⟨n+m,fun K hK=>⟨h K (by omega),k K (by omega)⟩⟩
theorem Ev.all {α:Type} {P:α→Nat→Prop}:∀ (l:List α),(∀ x∈l,Ev (P x))→Ev fun K=>∀ x∈l,P x K
 | [],_=>⟨0,fun K _ x hx=>by cases hx⟩
 | a::l,h=>by
   obtain ⟨n,h1⟩:=h a (bR ..)
   obtain ⟨m,h2⟩:=Ev.all l fun x hx=>h x (aV _ hx)
   exact ⟨n+m,fun K hK x hx=>by
    rcases aT.1 hx with rfl | hx
    ·exact h1 K (by omega)
    ·exact h2 K (by omega) x hx⟩
theorem Ev.ge (n:Nat):Ev fun K=>n<K:=⟨n+1,fun K h=>by omega⟩
theorem Ev.mono {P Q:Nat→Prop} (h:Ev P) (k:∀ K,P K→Q K):Ev Q:=by
 obtain ⟨n,h⟩:=h
 exact ⟨n,fun K hK=>k K (h K hK)⟩
theorem Ev.succ {P Q:Nat→Prop} (h:Ev P) (k:∀ K,P K→Q (K+1)):Ev Q:=by
 obtain ⟨n,h⟩:=h
 refine ⟨n+1,fun K hK=>?_⟩
 obtain ⟨m,rfl⟩:∃ m,K=m+1:=⟨K - 1,by omega⟩
 exact k m (h m (by omega))
theorem gO {α:Type} (l:List α) (d:α) (i:Nat) (h:i<l.length):l.getD i d∈l:=by
 simp [List.getD,aN h]
theorem aUH {l:List dM} (h:T25 l):Ev fun K=>b5 (F20 K l l)=some true:=by
 induction h with
 | mk l hl _ ih =>
   refine Ev.succ (Ev.succ ((Ev.all l ih).and (Ev.ge l.length)) (Q:=fun K=>(∀ x∈l,b5 (F8 K x x)=some true)∧l.length<K) fun K ⟨h1,h2⟩=>⟨fun x hx=>?_,by omega⟩) fun K ⟨h1,h2⟩=>?_
   ·rw[F8]
    simp only[cY,beq_self_eq_true,Bool.and_self,cX,if_true,h1 x hx,aA]
    rfl
   ·rw[F20]
    simp only[cY,ne_self,aE,if_false]
    rw[uC hl h2 _ fun i hi=>by rw[dZ (eW hi),dZ (eW hi),cB,aY];simp only[cX,if_true,h1 _ (gO l default i hi),aA,bN,aE,if_false]]
    rfl
theorem aPm {l:List cU} (h:aJN l):Ev fun K=>b5 (F31 K l l)=some true:=by
 induction h with
 | mk l hl hE hL hB _ ih =>
   have h1:=Ev.all l fun x hx=>aUH (hE x hx)
   have h2:=Ev.all l fun x hx=>Ev.all x.dL (ih x hx)
   have h3:=Ev.all l fun x hx=>Ev.all x.dF fun y hy=>Ev.ge y.length
   have h4:=Ev.all l fun x hx=>Ev.ge x.dF.length
   have h5:=Ev.all l fun x hx=>Ev.ge x.dL.length
   refine Ev.succ ((((h1.and h2).and h3).and (h4.and h5)).and (Ev.ge l.length)) fun K ⟨⟨⟨⟨g1,g2⟩,g3⟩,g4,g5⟩,g6⟩=>?_
   rw[F31]
   simp only[cY,ne_self,aE,if_false]
   rw[uC hl g6 _ fun i hi=>?_]
   ·rfl
   ·have hm:=gO l default i hi
    simp only[aY]
    rw[dZ (eW hi),cB,dZ (eW hi),cB]
    simp only[beq_self_eq_true,bN,Bool.or_self,bA,cX,if_true,g1 _ hm,aA,Bool.or_false,aE,if_false]
    rw[uC (hL _ hm).1 (g4 _ hm) _ fun j hj=>?_]
    ·simp only[aQ,cC,cD]
     rw[uC (hB _ hm) (g5 _ hm) _ fun j hj=>?_]
     ·rfl
     ·rw[dZ (eW hj),dZ (eW hj),cB]
      simp only[aY,cX,if_true,g2 _ hm _ (gO (l.getD i default).dL default j hj),aA,bN,aE,if_false]
    ·rw[dZ (eW hj),dZ (eW hj),cB]
     have hy:=gO (l.getD i default).dF default j hj
     simp only[aY,cX,if_true,aUG ((hL _ hm).2 _ hy) (g3 _ hm _ hy),aA,bN,aE,if_false]
theorem aUI {u:yL} (h:T36 u):Ev fun K=>b5 (F12 K u u)=some true:=by
 have h1:=Ev.all u.b7 fun x hx=>Ev.ge x.eL.length
 have h2:=Ev.all u.b7 fun x hx=>Ev.ge x.fB.length
 have h3:=Ev.all u.b7 fun x hx=>Ev.ge x.b6.length
 have h4:=Ev.all u.b7 fun x hx=>aPm (h.d x hx).b
 have h5:=Ev.all u.b7 fun x hx=>Ev.all x.b6 fun y hy=>((Ev.ge y.dH.length).and (Ev.ge y.fB.length)).and (aPm ((h.d x hx).ms y hy).b)
 refine ((((h1.and h2).and (h3.and h4)).and h5).and (Ev.ge u.b7.length)).mono fun K ⟨⟨⟨⟨g1,g2⟩,g3,g4⟩,g5⟩,g6⟩=>?_
 unfold F12
 simp only[cY,ne_self,aE,if_false]
 rw[uC h.l g6 _ fun i hi=>?_]
 ·rfl
 ·have hm:=gO u.b7 default i hi
  have ht:=h.d _ hm
  simp only[aY]
  rw[dZ (eW hi),cB,dZ (eW hi),cB]
  simp only[beq_self_eq_true,bN,Bool.or_self,bA,cX,if_true,aUF ht.f (g1 _ hm),aJO ht.v (g2 _ hm),g4 _ hm,aA,Bool.or_false,aE,if_false]
  rw[uC ht.m (g3 _ hm) _ fun j hj=>?_]
  ·rfl
  ·have hy:=gO (u.b7.getD i default).b6 default j hj
   have hs:=ht.ms _ hy
   obtain ⟨⟨q1,q2⟩,q3⟩:=g5 _ hm _ hy
   simp only[aY]
   rw[dZ (eW hj),cB,dZ (eW hj),cB]
   simp only[beq_self_eq_true,bN,Bool.or_self,bA,cX,if_true,Bool.and_self,aJO hs.p q1,aJO hs.v q2,q3,aA,Bool.or_false,aE,if_false]
open Classical in
noncomputable def aPe (K:Nat) (a0 a1:yL):Option (Bool ⊕ Bool):=if a0=a1 then some (.inl true) else none
theorem aRg (K:Nat) (a0 a1:yL):cQ Tryz.prog 12 [.agg (iA.cs a0),.agg (iA.cs a1)] [] (b5 (aPe K a0 a1)) (fun r=>.c (.val (.bool r))) (fun r=>[]):=by
 intro S β w vs hc hv r hr
 unfold aPe at hr
 split at hr
 ·rename_i e
  subst e
  obtain rfl:true=r:=by simpa [b5] using hr
  obtain ⟨v0,r0,rfl,h0,h1⟩:=id hv
  obtain ⟨ws,_,hw⟩:=h0
  obtain ⟨w0,w1,_,hw0,_⟩:=hw
  obtain ⟨N,hN⟩:=aUI (t36 (x:=a0) hw0)
  exact aUE N a0 a0 S β w _ hc hv true (hN N (aR _))
 ·cases hr
end Go.Proofs.YtidjangjfekfjaaGreatDoor
