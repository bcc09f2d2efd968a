/- No conditions. -/
import Derived.Test.YtngjamedgphjiaaGreatDoorTB
set_option linter.unusedVariables false
set_option linter.unusedSimpArgs false
set_option linter.unusedSectionVars false
namespace Go.Proofs.YtngjamedgphjiaaGreatDoor
open Go Go.Dl
set_option maxRecDepth 100000
set_option maxHeartbeats 2000000
theorem tN {K:Nat} {l:List Int} {n:Int} (h:l.length≤1000):eA (aBY K l n) (fun v=>v.length≤1):=by
 refine eA.of ?_
 unfold aBY
 refine bF.bO (bF.ite (fun _=>?_) (fun hc=>?_))
 ·(repeat' (first|(with_reducible first|apply bF.bO|refine bF.dF (by assumption) ?_|refine bF.dB (by assumption) ?_|refine bF.ite (fun _=>?_) (fun _=>?_)|apply bF.cJ|apply bF.ret|apply sE.l|apply sE.r)))
  simp
 simp only[aP,aC,not_or,aD] at hc
 rw[wrap64 (by omega) (by omega)]
 refine bF.c5 (by simp only[cK,aB,aC];omega) (bF.cJ ?_)
 (repeat' (first|(with_reducible first|apply bF.bO|refine bF.dF (by assumption) ?_|refine bF.dB (by assumption) ?_|refine bF.ite (fun _=>?_) (fun _=>?_)|apply bF.cJ|apply bF.ret|apply sE.l|apply sE.r)))
 simp only[List.length_take,List.length_drop]
 omega
theorem yO {K:Nat} {a0:eW} {c:Int} {m:Nat} (hK:1000<K) (h:Sm a0 m):eA (aDo K a0 c) (fun v=>v.length≤40∧∀ x∈v,0≤x∧x<a0.bE.length):=by
 have hl:=h.kX
 refine eA.of ?_
 unfold aDo
 refine bF.bO (bF.ite (fun _=>?_) (fun hc=>?_))
 ·(repeat' (first|(with_reducible first|apply bF.bO|apply bF.bL|apply bF.bI|refine bF.dF (by assumption) ?_|refine bF.dB (by assumption) ?_|refine bF.ite (fun _=>?_) (fun _=>?_)|apply bF.cJ|apply bF.ret|apply sE.l|apply sE.r)))
  simp
 refine bF.bL (bF.bI (bF.dX ?_))
 refine bF.loop (fun t:List Int × Int=>0≤t.2∧t.2≤a0.bE.length∧(t.1.length:Int)≤t.2∧∀ x∈t.1,0≤x∧x<a0.bE.length) (fun t=>a0.bE.length - t.2.toNat) (by simp) (by simp;omega) (fun t hI=>?_)
 obtain ⟨l,i⟩:=t
 obtain ⟨hI1,hI2,hI3,hI4⟩:=hI
 simp only at hI1 hI2 hI3 hI4 ⊢
 refine bF.bO (bF.ite (fun hc=>?_) (fun hc=>?_))
 ·simp only[aD,aC] at hc
  have hw:IntKind.i64.wrap (i+1)=i+1:=wrap64 (by omega) (by omega)
  have hw2:IntKind.i64.wrap (Int.ofNat a0.bE.length+1)=(a0.bE.length:Int)+1:=wrap64 (by simp;omega) (by simp;omega)
  rw[hw,hw2]
  refine bF.bL (bF.bI (bF.bO (bF.bL (bF.bI (bF.dX ?_)))))
  refine bF.loop (fun t:Int × Int=>0≤t.2) (fun t=>a0.bE.length+1 - t.2.toNat) (by simp) (by simp;omega) (fun t hJ=>?_)
  obtain ⟨at',k⟩:=t
  simp only at hJ ⊢
  refine bF.ite (fun hk=>?_) (fun _=>?_)
  ·simp only[aC] at hk
   have hw3:IntKind.i64.wrap (k+1)=k+1:=wrap64 (by omega) (by omega)
   rw[hw3]
   refine bF.bL (bF.bI (bF.ite (fun _=>?_) (fun _=>?_)))
   ·refine bF.c5 (by simp only[room,aC,List.length_cons,List.length_nil];omega) (bF.cJ ?_)
    (repeat' (first|(with_reducible first|apply bF.bO|apply bF.bL|apply bF.bI|refine bF.dF (by assumption) ?_|refine bF.dB (by assumption) ?_|refine bF.ite (fun _=>?_) (fun _=>?_)|apply bF.cJ|apply bF.ret|apply sE.l|apply sE.r)))
    refine ⟨⟨by omega,by omega,by simp;omega,fun x hx=>?_⟩,by omega⟩
    rcases List.mem_append.1 hx with hx|hx
    ·exact hI4 x hx
    ·obtain rfl:x=i:=by simpa using hx
     omega
   ·refine bF.bO (bF.ite (fun _=>?_) (fun hq=>?_))
    ·(repeat' (first|(with_reducible first|apply bF.bO|apply bF.bL|apply bF.bI|refine bF.dF (by assumption) ?_|refine bF.dB (by assumption) ?_|refine bF.ite (fun _=>?_) (fun _=>?_)|apply bF.cJ|apply bF.ret|apply sE.l|apply sE.r)))
     exact ⟨⟨by omega,by omega,by show (l.length:Int)≤i+1;omega,hI4⟩,by omega⟩
    ·simp only[aP,aC,not_or,aD] at hq
     refine bF.c5 (by simp only[cR,aB,aC];omega) (bF.cJ ?_)
     (repeat' (first|(with_reducible first|apply bF.bO|apply bF.bL|apply bF.bI|refine bF.dF (by assumption) ?_|refine bF.dB (by assumption) ?_|refine bF.ite (fun _=>?_) (fun _=>?_)|apply bF.cJ|apply bF.ret|apply sE.l|apply sE.r)))
     exact ⟨by omega,by omega⟩
  ·(repeat' (first|(with_reducible first|apply bF.bO|apply bF.bL|apply bF.bI|refine bF.dF (by assumption) ?_|refine bF.dB (by assumption) ?_|refine bF.ite (fun _=>?_) (fun _=>?_)|apply bF.cJ|apply bF.ret|apply sE.l|apply sE.r)))
   exact ⟨⟨by omega,by omega,by show (l.length:Int)≤i+1;omega,hI4⟩,by omega⟩
 ·(repeat' (first|(with_reducible first|apply bF.bO|apply bF.bL|apply bF.bI|refine bF.dF (by assumption) ?_|refine bF.dB (by assumption) ?_|refine bF.ite (fun _=>?_) (fun _=>?_)|apply bF.cJ|apply bF.ret|apply sE.l|apply sE.r)))
  exact ⟨by omega,hI4⟩
theorem bF.tP {A:Type} {K:Nat} {f:List Int × Int→Option (A ⊕ (List Int × Int))} {p:A→Prop} (n w:Nat) (l0:List Int) (hn:n<K)
 (hs:∀ (l:List Int) (i:Nat),i<n→l.length≤l0.length+i * w→bF (f (l,(i:Int))) (sE p (fun t=>t.1.length≤l.length+w∧t.2=(i:Int)+1)))
 (he:∀ l:List Int,l.length≤l0.length+n * w→bF (f (l,(n:Int))) (sE p (fun _=>False))):bF (iter K f (l0,0)) p:=by
 refine bF.loop (fun t:List Int × Int=>∃ i:Nat,t.2=i∧i≤n∧t.1.length≤l0.length+i * w) (fun t=>n - t.2.toNat) ⟨0,rfl,by omega,by simp⟩ (by simpa using hn) ?_
 rintro ⟨l,t⟩ ⟨i,rfl,hi,hl⟩
 by_cases h:i=n
 ·subst h
  refine (he l hl).tI ?_
  rintro (a|t) h
  ·exact h
  ·exact h.elim
 ·refine (hs l i (by omega) hl).tI ?_
  rintro (a|⟨l',t⟩) h
  ·exact h
  ·obtain ⟨h1,h2⟩:=h
   simp only at h1 h2
   have hl:l.length≤l0.length+i * w:=hl
   subst h2
   refine ⟨⟨i+1,by simp,by omega,?_⟩,by simp;omega⟩
   simp only
   rw[Nat.add_mul]
   omega
theorem aDp {K:Nat} {a0:eW} {c:gY} {o:jC} {m:Nat} (hK:10000<K) (hm:m≤1) (h:Sm a0 m):eA (aBZ K a0 c o) (fun v=>v.length≤2400):=by
 have hl:=h.kX
 refine eA.of ?_
 unfold aBZ
 (repeat' (first|(with_reducible first|apply bF.bO|apply bF.bL|apply bF.bI|refine bF.dF (by assumption) ?_|refine bF.dB (by assumption) ?_|refine bF.ite (fun _=>?_) (fun _=>?_)|apply bF.cJ|apply bF.ret|apply sE.l|apply sE.r)))
 ·simp
 all_goals (try (simp;done))
 ·refine bF.call (yO (by omega) h) (fun v hv=>?_)
  obtain ⟨tS,nB⟩:=hv
  refine bF.bL (bF.bI (bF.dX ?_))
  refine bF.tP v.length 1 [] (by omega) (fun l i hi hll=>?_) (fun l hll=>?_)
  ·have hx:=eV (d:=default) nB hi
   refine bF.bO (bF.dF (by simp only[aD,aC];omega) ?_)
   simp only[aM]
   have hd:=eV (d:=default) h.cls (i:=(v.getD i default).toNat) (by omega)
   refine bF.bL (bF.bI (bF.c5 (gC hi) (bF.cJ (bF.c5 (by simp only[cR,aB,aC];omega) (bF.cJ (bF.bO ?_))))))
   refine bF.call (tN (by have:=hd.v;omega)) (fun v2 hv3=>?_)
   simp at hll
   refine bF.c5 (by simp only[room,aC];omega) (bF.cJ ?_)
   (repeat' (first|(with_reducible first|apply bF.bO|apply bF.bL|apply bF.bI|refine bF.dF (by assumption) ?_|refine bF.dB (by assumption) ?_|refine bF.ite (fun _=>?_) (fun _=>?_)|apply bF.cJ|apply bF.ret|apply sE.l|apply sE.r)))
   exact ⟨by simp;omega,wrap64 (by omega) (by omega)⟩
  ·refine bF.bO (bF.dB (by simp) ?_)
   (repeat' (first|(with_reducible first|apply bF.bO|apply bF.bL|apply bF.bI|refine bF.dF (by assumption) ?_|refine bF.dB (by assumption) ?_|refine bF.ite (fun _=>?_) (fun _=>?_)|apply bF.cJ|apply bF.ret|apply sE.l|apply sE.r)))
   simp at hll
   show l.length≤2400
   omega
 ·refine bF.call (yO (by omega) h) (fun v hv=>?_)
  obtain ⟨tS,nB⟩:=hv
  refine bF.bL (bF.bI (bF.dX ?_))
  refine bF.tP v.length 1 [] (by omega) (fun l i hi hll=>?_) (fun l hll=>?_)
  ·have hx:=eV (d:=default) nB hi
   refine bF.bO (bF.dF (by simp only[aD,aC];omega) ?_)
   simp only[aM]
   have hd:=eV (d:=default) h.cls (i:=(v.getD i default).toNat) (by omega)
   refine bF.bL (bF.bI (bF.c5 (gC hi) (bF.cJ (bF.c5 (by simp only[cR,aB,aC];omega) (bF.cJ (bF.bO ?_))))))
   refine bF.call (tN (by have:=hd.v;omega)) (fun v2 hv3=>?_)
   simp at hll
   refine bF.c5 (by simp only[room,aC];omega) (bF.cJ ?_)
   (repeat' (first|(with_reducible first|apply bF.bO|apply bF.bL|apply bF.bI|refine bF.dF (by assumption) ?_|refine bF.dB (by assumption) ?_|refine bF.ite (fun _=>?_) (fun _=>?_)|apply bF.cJ|apply bF.ret|apply sE.l|apply sE.r)))
   exact ⟨by simp;omega,wrap64 (by omega) (by omega)⟩
  ·refine bF.bO (bF.dB (by simp) ?_)
   (repeat' (first|(with_reducible first|apply bF.bO|apply bF.bL|apply bF.bI|refine bF.dF (by assumption) ?_|refine bF.dB (by assumption) ?_|refine bF.ite (fun _=>?_) (fun _=>?_)|apply bF.cJ|apply bF.ret|apply sE.l|apply sE.r)))
   simp at hll
   show l.length≤2400
   omega
 ·refine bF.dX ?_
  refine bF.tP a0.bE.length 60 [] (by omega) (fun l i hi hll=>?_) (fun l hll=>?_)
  ·refine bF.bO (bF.dF (by simp only[aD,aC];omega) ?_)
   simp only[aM]
   have hd:=eV (d:=default) h.cls hi
   have ht:=hd.t
   have htl:=hd.l
   simp only[List.length_nil] at hll
   refine bF.bL (bF.bI (bF.c5 (gC hi) (bF.cJ (bF.bO (bF.bO (bF.bL (bF.bI (bF.dX ?_))))))))
   generalize (a0.bE.getD i default).eO=ts at ht htl ⊢
   refine bF.tP ts.length 1 l (by omega) (fun l2 j hj hl2=>?_) (fun l2 hl2=>?_)
   ·refine bF.dF (by simp only[aD,aC];omega) ?_
    simp only[aM]
    have hq:=eV (d:=default) htl hj
    refine bF.bL (bF.bI (bF.c5 (gC hj) (bF.cJ (bF.bO (bF.ite (fun _=>?_) (fun _=>?_))))))
    ·refine bF.bO ?_
     refine bF.call (tN (by omega)) (fun v2 hv3=>?_)
     refine bF.c5 (by simp only[room,aC];omega) (bF.cJ ?_)
     (repeat' (first|(with_reducible first|apply bF.bO|apply bF.bL|apply bF.bI|refine bF.dF (by assumption) ?_|refine bF.dB (by assumption) ?_|refine bF.ite (fun _=>?_) (fun _=>?_)|apply bF.cJ|apply bF.ret|apply sE.l|apply sE.r)))
     exact ⟨by simp;omega,wrap64 (by omega) (by omega)⟩
    ·(repeat' (first|(with_reducible first|apply bF.bO|apply bF.bL|apply bF.bI|refine bF.dF (by assumption) ?_|refine bF.dB (by assumption) ?_|refine bF.ite (fun _=>?_) (fun _=>?_)|apply bF.cJ|apply bF.ret|apply sE.l|apply sE.r)))
     exact ⟨by simp,wrap64 (by omega) (by omega)⟩
   ·refine bF.dB (by simp) ?_
    (repeat' (first|(with_reducible first|apply bF.bO|apply bF.bL|apply bF.bI|refine bF.dF (by assumption) ?_|refine bF.dB (by assumption) ?_|refine bF.ite (fun _=>?_) (fun _=>?_)|apply bF.cJ|apply bF.ret|apply sE.l|apply sE.r)))
    exact ⟨by show l2.length≤l.length+60;omega,wrap64 (by omega) (by omega)⟩
  ·refine bF.bO (bF.dB (by simp) ?_)
   (repeat' (first|(with_reducible first|apply bF.bO|apply bF.bL|apply bF.bI|refine bF.dF (by assumption) ?_|refine bF.dB (by assumption) ?_|refine bF.ite (fun _=>?_) (fun _=>?_)|apply bF.cJ|apply bF.ret|apply sE.l|apply sE.r)))
   simp only[List.length_nil] at hll
   show l.length≤2400
   omega
theorem yP {K:Nat} {a0:eW} {x:Int}:eA (aDq K x a0) (fun v=>v=true↔¬ (0≤x∧x<a0.bB.length)):=by
 refine ⟨_,rfl,?_⟩
 simp only[aP,aC,aD]
 omega
theorem bF.upQ {A:Type} {K:Nat} {f:Int→Option (A ⊕ Int)} {p:A→Prop} (n:Nat) (P:Nat→Prop) (hK:n<K) (hs:∀ i:Nat,i<n→(∀ j,j<i→P j)→bF (f i) (sE p (fun t=>t=(i:Int)+1∧P i))) (he:(∀ i,i<n→P i)→bF (f n) (sE p (fun _=>False))):bF (iter K f 0) p:=by
 refine bF.loop (fun t=>∃ i:Nat,t=i∧i≤n∧∀ j,j<i→P j) (fun t=>n - t.toNat) ⟨0,rfl,by omega,by simp⟩ (by simpa using hK) ?_
 rintro t ⟨i,rfl,hi,hP⟩
 by_cases h:i=n
 ·subst h
  refine (he hP).tI ?_
  rintro (a|t) h
  ·exact h
  ·exact h.elim
 ·refine (hs i (by omega) hP).tI ?_
  rintro (a|t) h
  ·exact h
  ·obtain ⟨h1,h2⟩:=h
   subst h1
   refine ⟨⟨i+1,by omega,by omega,fun j hj=>?_⟩,?_⟩
   ·by_cases h:j=i
    ·subst h;exact h2
    ·exact hP j (by omega)
   ·omega
def InC (a0:eW) (x:Int):Prop:=0≤x∧x<a0.bB.length
theorem yQ {K:Nat} {l:List Int} {a0:eW} (hK:l.length<K) (hl:l.length≤1000000):eA (pO K l a0) (fun v=>(v = -1∧∀ x∈l,InC a0 x)∨(0≤v∧v<l.length∧∀ j:Nat,(j:Int)<v→InC a0 (l.getD j default))):=by
 refine eA.of ?_
 unfold pO
 refine bF.bL (bF.bI (bF.dX ?_))
 refine bF.upQ l.length (fun i=>InC a0 (l.getD i default)) hK (fun i hi hq=>?_) (fun hp=>?_)
 ·refine bF.bO (bF.dF (by simp only[aD,aC];omega) ?_)
  simp only[aM]
  refine bF.bL (bF.bI (bF.c5 (gC hi) (bF.cJ ?_)))
  refine bF.call yP (fun v hv=>?_)
  refine bF.ite (fun hc=>?_) (fun hc=>?_)
  ·(repeat' (first|(with_reducible first|apply bF.bO|apply bF.bL|apply bF.bI|refine bF.dF (by assumption) ?_|refine bF.dB (by assumption) ?_|refine bF.ite (fun _=>?_) (fun _=>?_)|apply bF.cJ|apply bF.ret|apply sE.l|apply sE.r)))
   exact Or.inr ⟨by omega,by omega,fun j hj=>hq j (by omega)⟩
  ·(repeat' (first|(with_reducible first|apply bF.bO|apply bF.bL|apply bF.bI|refine bF.dF (by assumption) ?_|refine bF.dB (by assumption) ?_|refine bF.ite (fun _=>?_) (fun _=>?_)|apply bF.cJ|apply bF.ret|apply sE.l|apply sE.r)))
   exact ⟨wrap64 (by omega) (by omega),Classical.not_not.1 (fun h=>hc (hv.2 h))⟩
 ·refine bF.bO (bF.dB (by simp) ?_)
  (repeat' (first|(with_reducible first|apply bF.bO|apply bF.bL|apply bF.bI|refine bF.dF (by assumption) ?_|refine bF.dB (by assumption) ?_|refine bF.ite (fun _=>?_) (fun _=>?_)|apply bF.cJ|apply bF.ret|apply sE.l|apply sE.r)))
  exact Or.inl ⟨rfl,jT hp⟩
theorem aDr {K:Nat} {l:List Int} {a0:eW} (hK:l.length<K) (hl:l.length≤1000000):eA (kD K l a0) (fun v=>v.length≤l.length∧∀ x∈v,InC a0 x):=by
 refine eA.of ?_
 unfold kD
 refine bF.cF (fun _=>yQ hK hl) (fun v hv=>?_)
 have hv:=hv rfl
 refine bF.ite (fun hc=>?_) (fun hc=>?_)
 ·(repeat' (first|(with_reducible first|apply bF.bO|apply bF.bL|apply bF.bI|refine bF.dF (by assumption) ?_|refine bF.dB (by assumption) ?_|refine bF.ite (fun _=>?_) (fun _=>?_)|apply bF.cJ|apply bF.ret|apply sE.l|apply sE.r)))
  have hc:v = -1:=by simpa using hc
  rcases hv with ⟨_,h⟩|⟨h,_⟩
  ·exact ⟨aI _,h⟩
  ·omega
 have hc:v≠-1:=by simpa using hc
 rcases hv with ⟨h,_⟩|⟨h1,h2,h3⟩
 ·exact absurd h hc
 rw[wrap64 (x:=v+1) (by omega) (by omega)]
 refine bF.bL (bF.bI (bF.dX ?_))
 refine bF.loop (fun t:List Int × Int × Int=>t.1.length=l.length∧0≤t.2.1∧t.2.1<t.2.2∧t.2.2≤l.length∧∀ j:Nat,(j:Int)<t.2.1→InC a0 (t.1.getD j default)) (fun t=>l.length - t.2.2.toNat) ⟨rfl,h1,by simp;omega,by simp;omega,h3⟩ (by simp;omega) (fun t hI=>?_)
 obtain ⟨x,i,j⟩:=t
 obtain ⟨hI1,hI2,hI3,hI4,hI5⟩:=hI
 simp only at hI1 hI2 hI3 hI4 hI5 ⊢
 refine bF.bO (bF.ite (fun hj=>?_) (fun hj=>?_))
 ·simp only[aC,aD] at hj
  have hw:IntKind.i64.wrap (j+1)=j+1:=wrap64 (by omega) (by omega)
  have hw2:IntKind.i64.wrap (i+1)=i+1:=wrap64 (by omega) (by omega)
  rw[hw]
  refine bF.bL (bF.bI (bF.c5 (by simp only[cR,aB,aC];omega) (bF.cJ ?_)))
  refine bF.call yP (fun v2 nB=>?_)
  refine bF.ite (fun hb=>?_) (fun hb=>?_)
  ·refine bF.c5 (by simp only[cR,aB,aC];omega) (bF.cJ ?_)
   rw[hw2]
   (repeat' (first|(with_reducible first|apply bF.bO|apply bF.bL|apply bF.bI|refine bF.dF (by assumption) ?_|refine bF.dB (by assumption) ?_|refine bF.ite (fun _=>?_) (fun _=>?_)|apply bF.cJ|apply bF.ret|apply sE.l|apply sE.r)))
   refine ⟨⟨by simpa using hI1,by show 0≤i+1;omega,by show i+1<j+1;omega,by show j+1≤(l.length:Int);omega,fun q hq=>?_⟩,by show l.length - (j+1).toNat<l.length - j.toNat;omega⟩
   have hq:(q:Int)<i+1:=hq
   show InC a0 ((x.set i.toNat (x.getD j.toNat default)).getD q default)
   by_cases he:q=i.toNat
   ·subst he
    rw[List.getD,List.getElem?_set_self (by omega)]
    exact Classical.not_not.1 (fun h=>by
     have:=nB.2 h
     subst this
     simp at hb)
   ·rw[List.getD,List.getElem?_set_ne (by omega)]
    exact hI5 q (by omega)
  ·(repeat' (first|(with_reducible first|apply bF.bO|apply bF.bL|apply bF.bI|refine bF.dF (by assumption) ?_|refine bF.dB (by assumption) ?_|refine bF.ite (fun _=>?_) (fun _=>?_)|apply bF.cJ|apply bF.ret|apply sE.l|apply sE.r)))
   exact ⟨⟨hI1,hI2,by show i<j+1;omega,by show j+1≤(l.length:Int);omega,hI5⟩,by show l.length - (j+1).toNat<l.length - j.toNat;omega⟩
 ·(repeat' (first|(with_reducible first|apply bF.bO|apply bF.bL|apply bF.bI|refine bF.dF (by assumption) ?_|refine bF.dB (by assumption) ?_|refine bF.ite (fun _=>?_) (fun _=>?_)|apply bF.cJ|apply bF.ret|apply sE.l|apply sE.r)))
  refine bF.c5 (by simp only[cK,aB,aC,aD];omega) (bF.cJ (bF.c5 (by simp only[cK,aB,aC,fI];omega) (bF.cJ ?_)))
  (repeat' (first|(with_reducible first|apply bF.bO|apply bF.bL|apply bF.bI|refine bF.dF (by assumption) ?_|refine bF.dB (by assumption) ?_|refine bF.ite (fun _=>?_) (fun _=>?_)|apply bF.cJ|apply bF.ret|apply sE.l|apply sE.r)))
  rw[rA _ _ _ _ (aI _)]
  refine ⟨by simp;omega,fun y hy=>?_⟩
  obtain ⟨q,hq,rfl⟩:=List.getElem_of_mem hy
  simp only[List.length_take] at hq
  have:=hI5 q (by omega)
  rw[List.getElem_take]
  rwa [List.getD,aE (by omega)] at this
end Go.Proofs.YtngjamedgphjiaaGreatDoor

namespace Go.Proofs.YtngjamedgphjiaaGreatDoor
open Go Go.Dl
set_option maxRecDepth 100000
set_option maxHeartbeats 2000000
theorem aDs {K:Nat} {l:List Int} {P:Int→Prop} (hK:l.length<K) (hl:l.length≤1000000) (h:∀ x∈l,P x):eA (vD K l) (fun v=>v.length≤l.length∧∀ x∈v,P x):=by
 refine eA.of ?_
 unfold vD
 refine bF.ite (fun _=>?_) (fun hc=>?_)
 ·(repeat' (first|(with_reducible first|apply bF.bO|apply bF.bL|apply bF.bI|refine bF.dF (by assumption) ?_|refine bF.dB (by assumption) ?_|refine bF.ite (fun _=>?_) (fun _=>?_)|apply bF.cJ|apply bF.ret|apply sE.l|apply sE.r)))
  exact ⟨aI _,h⟩
 simp only[aC,aD] at hc
 refine bF.bL (bF.bI (bF.dX ?_))
 refine bF.loop (fun t:Int=>1≤t∧t≤l.length) (fun t=>l.length - t.toNat) (by omega) (by simp;omega) (fun k hI=>?_)
 refine bF.bO (bF.ite (fun hk=>?_) (fun hk=>?_))
 ·simp only[aC,aD] at hk
  have hw:IntKind.i64.wrap (k+1)=k+1:=wrap64 (by omega) (by omega)
  have hw2:IntKind.i64.wrap (k - 1)=k - 1:=wrap64 (by omega) (by omega)
  rw[hw,hw2]
  refine bF.bL (bF.bI (bF.c5 (by simp only[cR,aB,aC];omega) (bF.c5 (by simp only[cR,aB,aC];omega) (bF.cJ (bF.bO (bF.ite (fun _=>?_) (fun _=>?_)))))))
  ·refine bF.c5 (by simp only[cK,aB,aC,aD];omega) (bF.cJ (bF.bL (bF.bI (bF.dX ?_))))
   simp only[aD,aM]
   refine bF.loop (fun t:List Int × Int × Int=>t.1.length=l.length∧(∀ x∈t.1,P x)∧0≤t.2.1∧t.2.1<k+t.2.2∧1≤t.2.2∧t.2.2≤l.length - k) (fun t=>l.length - t.2.2.toNat) ⟨rfl,h,by show 0≤k;omega,by show k<k+1;omega,by show (1:Int)≤1;omega,by show (1:Int)≤_;omega⟩ (by simp;omega) (fun t hJ=>?_)
   obtain ⟨x,i,j⟩:=t
   obtain ⟨hJ1,hJ2,hJ3,hJ4,hJ5,hJ6⟩:=hJ
   simp only at hJ1 hJ2 hJ3 hJ4 hJ5 hJ6 ⊢
   have hn:((l.length - k.toNat:Nat):Int)=l.length - k:=by omega
   refine bF.bO (bF.ite (fun hj=>?_) (fun hj=>?_))
   ·simp only[aC,hn] at hj
    have hw3:IntKind.i64.wrap (j+1)=j+1:=wrap64 (by omega) (by omega)
    have hw4:IntKind.i64.wrap (j - 1)=j - 1:=wrap64 (by omega) (by omega)
    have hw5:IntKind.i64.wrap (i+1)=i+1:=wrap64 (by omega) (by omega)
    rw[hw3,hw4,hw5]
    refine bF.bL (bF.bI (bF.c5 (by simp only[cR,aB,aC];omega) (bF.c5 (by simp only[cR,aB,aC];omega) (bF.cJ (bF.bO (bF.ite (fun _=>?_) (fun _=>?_)))))))
    ·refine bF.c5 (by simp only[cR,aB,aC];omega) (bF.c5 (by simp only[cR,aB,aC];omega) (bF.cJ ?_))
     (repeat' (first|(with_reducible first|apply bF.bO|apply bF.bL|apply bF.bI|refine bF.dF (by assumption) ?_|refine bF.dB (by assumption) ?_|refine bF.ite (fun _=>?_) (fun _=>?_)|apply bF.cJ|apply bF.ret|apply sE.l|apply sE.r)))
     refine ⟨⟨by simpa using hJ1,fun y hy=>?_,by show 0≤i+1;omega,by show i+1<k+(j+1);omega,by show 1≤j+1;omega,by show j+1≤(l.length:Int) - k;omega⟩,by show l.length - (j+1).toNat<l.length - j.toNat;omega⟩
     rcases List.mem_or_eq_of_mem_set hy with hy|rfl
     ·exact hJ2 y hy
     ·exact eV (d:=default) hJ2 (by omega)
    ·(repeat' (first|(with_reducible first|apply bF.bO|apply bF.bL|apply bF.bI|refine bF.dF (by assumption) ?_|refine bF.dB (by assumption) ?_|refine bF.ite (fun _=>?_) (fun _=>?_)|apply bF.cJ|apply bF.ret|apply sE.l|apply sE.r)))
     exact ⟨⟨hJ1,hJ2,hJ3,by show i<k+(j+1);omega,by show 1≤j+1;omega,by show j+1≤(l.length:Int) - k;omega⟩,by show l.length - (j+1).toNat<l.length - j.toNat;omega⟩
   ·simp only[aC,hn] at hj
    (repeat' (first|(with_reducible first|apply bF.bO|apply bF.bL|apply bF.bI|refine bF.dF (by assumption) ?_|refine bF.dB (by assumption) ?_|refine bF.ite (fun _=>?_) (fun _=>?_)|apply bF.cJ|apply bF.ret|apply sE.l|apply sE.r)))
    refine bF.c5 (by simp only[cK,aB,aC,aD];omega) (bF.cJ (bF.c5 (by simp only[cK,aB,aC,fI];omega) (bF.cJ ?_)))
    (repeat' (first|(with_reducible first|apply bF.bO|apply bF.bL|apply bF.bI|refine bF.dF (by assumption) ?_|refine bF.dB (by assumption) ?_|refine bF.ite (fun _=>?_) (fun _=>?_)|apply bF.cJ|apply bF.ret|apply sE.l|apply sE.r)))
    rw[rA _ _ _ _ (aI _)]
    exact ⟨by simp;omega,fun y hy=>hJ2 y (List.mem_of_mem_take hy)⟩
  ·(repeat' (first|(with_reducible first|apply bF.bO|apply bF.bL|apply bF.bI|refine bF.dF (by assumption) ?_|refine bF.dB (by assumption) ?_|refine bF.ite (fun _=>?_) (fun _=>?_)|apply bF.cJ|apply bF.ret|apply sE.l|apply sE.r)))
   exact ⟨by omega,by omega⟩
 ·(repeat' (first|(with_reducible first|apply bF.bO|apply bF.bL|apply bF.bI|refine bF.dF (by assumption) ?_|refine bF.dB (by assumption) ?_|refine bF.ite (fun _=>?_) (fun _=>?_)|apply bF.cJ|apply bF.ret|apply sE.l|apply sE.r)))
  exact ⟨aI _,h⟩
theorem aDt {K:Nat} {l:List Int} (hl:l.length≤1000000):eA (zI K l) (fun v=>v.length=l.length∧∀ x∈v,x∈l):=by
 refine ⟨l.mergeSort fun x y=>decide (x≤y),?_,?_,fun x hx=>?_⟩
 ·unfold zI;rw[aO (by omega)];rfl
 ·exact List.length_mergeSort l
 ·exact List.mem_mergeSort.1 hx
theorem aFy {K:Nat} {a0:eW} {n:Int} {m:Nat} (hK:1000000<K) (hm:m≤1) (h:Sm a0 m):eA (F86 K a0 n) (fun v=>v.length≤1000000∧∀ x∈v,InC a0 x):=by
 refine eA.of ?_
 unfold F86
 refine bF.bO (bF.ite (fun _=>?_) (fun hc=>?_))
 ·(repeat' (first|(with_reducible first|apply bF.bO|apply bF.bL|apply bF.bI|refine bF.dF (by assumption) ?_|refine bF.dB (by assumption) ?_|refine bF.ite (fun _=>?_) (fun _=>?_)|apply bF.cJ|apply bF.ret|apply sE.l|apply sE.r)))
  simp
 simp only[aP,aC,not_or,aD] at hc
 have hx:=eV (d:=default) h.code (i:=n.toNat) (by omega)
 have ho:=hx.o
 have hin:cR n a0.bB.length=true:=by simp only[cR,aB,aC];omega
 refine bF.c5 hin (bF.cJ (bF.bO (bF.bO (bF.bL (bF.bI (bF.dX ?_))))))
 refine bF.tP (a0.bB.getD n.toNat default).bT.length 2400 [] (by omega) (fun l i hi hll=>?_) (fun l hll=>?_)
 ·refine bF.dF (by simp only[aD,aC];omega) ?_
  refine bF.bL (bF.bI (bF.c5 (gC hi) (bF.cJ (bF.c5 hin (bF.cJ ?_)))))
  refine bF.call (aDp (by omega) hm h) (fun v hv=>?_)
  simp only[List.length_nil] at hll
  refine bF.c5 (by simp only[room,aC];omega) (bF.cJ ?_)
  (repeat' (first|(with_reducible first|apply bF.bO|apply bF.bL|apply bF.bI|refine bF.dF (by assumption) ?_|refine bF.dB (by assumption) ?_|refine bF.ite (fun _=>?_) (fun _=>?_)|apply bF.cJ|apply bF.ret|apply sE.l|apply sE.r)))
  exact ⟨by simp;omega,wrap64 (by omega) (by omega)⟩
 ·refine bF.dB (by simp) ?_
  (repeat' (first|(with_reducible first|apply bF.bO|apply bF.bL|apply bF.bI|refine bF.dF (by assumption) ?_|refine bF.dB (by assumption) ?_|refine bF.ite (fun _=>?_) (fun _=>?_)|apply bF.cJ|apply bF.ret|apply sE.l|apply sE.r)))
  simp only[List.length_nil] at hll
  dsimp only
  refine bF.call (aDr (by omega) (by omega)) (fun v hv=>?_)
  refine bF.call (aDt (by omega)) (fun v2 nB=>?_)
  refine bF.c5 (by simp [nB.1]) (bF.cJ ?_)
  refine bF.call (aDs (P:=InC a0) (by omega) (by omega) (fun x hx=>hv.2 x (nB.2 x hx))) (fun v3 hv3=>?_)
  (repeat' (first|(with_reducible first|apply bF.bO|apply bF.bL|apply bF.bI|refine bF.dF (by assumption) ?_|refine bF.dB (by assumption) ?_|refine bF.ite (fun _=>?_) (fun _=>?_)|apply bF.cJ|apply bF.ret|apply sE.l|apply sE.r)))
  exact ⟨by omega,hv3.2⟩
def un (s:fJ) (n:Nat):Nat:=(List.range n).countP fun (i:Nat)=>!((s.cZ (i:Int)).getD default)
theorem vE {q q':Nat→Bool}:∀ {l:List Nat},(∀ i∈l,q' i=true→q i=true)→(∃ i∈l,q i=true∧q' i=false)→l.countP q'<l.countP q
|[],_,h=>by obtain ⟨i,hi,_⟩:=h;cases hi
|a::l,h1,h2=>by
   have hle:l.countP q'≤l.countP q:=List.countP_mono_left fun i hi=>h1 i (List.mem_cons_of_mem _ hi)
   simp only[List.countP_cons]
   obtain ⟨i,hi,hq,hq'⟩:=h2
   rcases List.mem_cons.1 hi with rfl|hi
   ·rw[hq,hq'];simp;omega
   ·have:=vE (l:=l) (fun i hi=>h1 i (List.mem_cons_of_mem _ hi)) ⟨i,hi,hq,hq'⟩
    have h3:=h1 a (List.mem_cons_self)
    cases h4:q' a
    ·cases q a <;> simp <;> omega
    ·rw[h3 h4];simp;omega
theorem nE {m:Mp Bool} {i j:Int} {v:Bool}:((iG m i v) j).getD default=if j=i then v else (m j).getD default:=by
 by_cases h:j=i
 ·subst h;rw[aBR];simp
 ·rw[aEO _ _ h,aH h]
theorem aFA {a0:eW} {m:Nat} (hm:m≤1) (h:Sm a0 m):∀ (L K:Nat) (s:fJ) (c:Int),s.bP=a0→InC a0 c→un s a0.bB.length≤L→1000001+L<K→eA (yR K s c) (fun v=>v.2.bP=a0∧∀ i,(v.2.cZ i).getD default=(s.cZ i).getD default):=by
 intro L
 induction L with
|zero =>
   intro K s c hs hc hu hK
   obtain ⟨K,rfl⟩:∃ q,K=q+1:=⟨K - 1,by omega⟩
   refine eA.of ?_
   rw[yR]
   refine bF.ite (fun _=>?_) (fun hq=>?_)
   ·(repeat' (first|(with_reducible first|apply bF.bO|apply bF.bL|apply bF.bI|refine bF.dF (by assumption) ?_|refine bF.dB (by assumption) ?_|refine bF.ite (fun _=>?_) (fun _=>?_)|apply bF.cJ|apply bF.ret|apply sE.l|apply sE.r)))
    exact ⟨hs,fun _=>rfl⟩
   exfalso
   have:0<un s a0.bB.length:=by
    unfold un
    rw[List.countP_pos_iff]
    refine ⟨c.toNat,by have:=hc.1;have:=hc.2;simp;omega,?_⟩
    rw[Int.toNat_of_nonneg hc.1]
    simpa using hq
   omega
|succ L ih =>
   intro K s c hs hc hu hK
   obtain ⟨K,rfl⟩:∃ q,K=q+1:=⟨K - 1,by omega⟩
   refine eA.of ?_
   rw[yR]
   refine bF.ite (fun _=>?_) (fun hq=>?_)
   ·(repeat' (first|(with_reducible first|apply bF.bO|apply bF.bL|apply bF.bI|refine bF.dF (by assumption) ?_|refine bF.dB (by assumption) ?_|refine bF.ite (fun _=>?_) (fun _=>?_)|apply bF.cJ|apply bF.ret|apply sE.l|apply sE.r)))
    exact ⟨hs,fun _=>rfl⟩
   refine bF.ite (fun _=>?_) (fun hq2=>?_)
   ·(repeat' (first|(with_reducible first|apply bF.bO|apply bF.bL|apply bF.bI|refine bF.dF (by assumption) ?_|refine bF.dB (by assumption) ?_|refine bF.ite (fun _=>?_) (fun _=>?_)|apply bF.cJ|apply bF.ret|apply sE.l|apply sE.r)))
    exact ⟨hs,fun _=>rfl⟩
   have hq:(s.cZ c).getD default=false:=by simpa using hq
   refine bF.call (aFy (by omega) hm (hs ▸ h)) (fun v hv=>?_)
   refine bF.bL (bF.bI (bF.dX ?_))
   have hlt:∀ t:fJ,(∀ i,(t.cZ i).getD default=(iG s.cZ c true i).getD default)→un t a0.bB.length≤L:=by
    intro t ht
    have:un t a0.bB.length<un s a0.bB.length:=by
     unfold un
     refine vE (fun i _ hi=>?_) ⟨c.toNat,by have:=hc.1;have:=hc.2;simp;omega,?_,?_⟩
     ·rw[ht,nE] at hi
      split at hi
      ·simp at hi
      ·exact hi
     ·rw[Int.toNat_of_nonneg hc.1,hq];rfl
     ·rw[ht,nE,Int.toNat_of_nonneg hc.1];simp
    omega
   refine bF.loop (fun t:fJ × Int × Int × Bool × Int=>t.1.bP=a0∧(∀ i,(t.1.cZ i).getD default=(iG s.cZ c true i).getD default)∧0≤t.2.2.2.2∧t.2.2.2.2≤v.length) (fun t=>v.length - t.2.2.2.2.toNat) ⟨hs,fun _=>rfl,by simp,by simp⟩ (by have:=hv.1;simp;omega) (fun t hI=>?_)
   obtain ⟨t,x1,x2,x3,i⟩:=t
   obtain ⟨hI1,hI2,hI3,hI4⟩:=hI
   simp only at hI1 hI2 hI3 hI4 ⊢
   have hvl:=hv.1
   refine bF.bO (bF.ite (fun hi=>?_) (fun hi=>?_))
   ·simp only[aC,aD] at hi
    have hx:=eV (d:=default) hv.2 (i:=i.toNat) (by omega)
    rw[hs] at hx
    refine bF.bL (bF.bI (bF.c5 (by simp only[cR,aB,aC];omega) (bF.cJ ?_)))
    refine bF.call (ih K ⟨t.bP,t.bN,t.cZ⟩ _ hI1 hx (hlt _ hI2) (by omega)) (fun v2 nB=>?_)
    (repeat' (first|(with_reducible first|apply bF.bO|apply bF.bL|apply bF.bI|refine bF.dF (by assumption) ?_|refine bF.dB (by assumption) ?_|refine bF.ite (fun _=>?_) (fun _=>?_)|apply bF.cJ|apply bF.ret|apply sE.l|apply sE.r)))
    refine ⟨⟨nB.1,fun j=>(nB.2 j).trans (hI2 j),?_,?_⟩,?_⟩
    ·show 0≤IntKind.i64.wrap (i+1)
     rw[wrap64 (by omega) (by omega)];omega
    ·show IntKind.i64.wrap (i+1)≤_
     rw[wrap64 (by omega) (by omega)];omega
    ·show v.length - (IntKind.i64.wrap (i+1)).toNat<v.length - i.toNat
     rw[wrap64 (by omega) (by omega)];omega
   ·(repeat' (first|(with_reducible first|apply bF.bO|apply bF.bL|apply bF.bI|refine bF.dF (by assumption) ?_|refine bF.dB (by assumption) ?_|refine bF.ite (fun _=>?_) (fun _=>?_)|apply bF.cJ|apply bF.ret|apply sE.l|apply sE.r)))
    refine bF.c5 (by have:=hc.1;have:=hc.2;show cR c t.bP.bB.length=true;rw[hI1];simp only[cR,aB,aC];omega) (bF.cJ ?_)
    refine bF.cF (fun _=>lU) (fun v3 _=>?_)
    (repeat' (first|(with_reducible first|apply bF.bO|apply bF.bL|apply bF.bI|refine bF.dF (by assumption) ?_|refine bF.dB (by assumption) ?_|refine bF.ite (fun _=>?_) (fun _=>?_)|apply bF.cJ|apply bF.ret|apply sE.l|apply sE.r)))
    refine ⟨hI1,fun j=>?_⟩
    show ((iG t.cZ c false) j).getD default=_
    rw[nE]
    split
    ·rename_i hj
     rw[hj,hq]
    ·rename_i hj
     rw[hI2,nE,aH hj]
end Go.Proofs.YtngjamedgphjiaaGreatDoor

namespace Go.Proofs.YtngjamedgphjiaaGreatDoor
open Go Go.Dl
set_option maxRecDepth 100000
set_option maxHeartbeats 2000000
theorem aJG (s:fJ) (n:Nat):un s n≤n:=by
 unfold un
 refine Nat.le_trans List.countP_le_length ?_
 simp
theorem aFB {K:Nat} {a0:eW} {m:Nat} (hK:2000000<K) (hm:m≤1) (h:Sm a0 m):eA (F49 K a0) (fun _=>True):=by
 have hl:=h.tJ
 refine eA.of ?_
 unfold F49
 refine bF.bL (bF.bI (bF.dX ?_))
 refine bF.loop (fun dH=>(⟨dH.1,dH.2.1,dH.2.2.1,dH.2.2.2.1,dH.2.2.2.2.1,dH.2.2.2.2.2.1,dH.2.2.2.2.2.2.1,dH.2.2.2.2.2.2.2.1,dH.2.2.2.2.2.2.2.2.1,dH.2.2.2.2.2.2.2.2.2.1,dH.2.2.2.2.2.2.2.2.2.2.1,dH.2.2.2.2.2.2.2.2.2.2.2.1⟩:eW)=a0∧0≤dH.2.2.2.2.2.2.2.2.2.2.2.2.2.2.2.2∧dH.2.2.2.2.2.2.2.2.2.2.2.2.2.2.2.2≤a0.bB.length) (fun dH=>a0.bB.length - dH.2.2.2.2.2.2.2.2.2.2.2.2.2.2.2.2.toNat) ⟨rfl,by simp,by simp⟩ (by simp;omega) (fun t hI=>?_)
 obtain ⟨x1,x2,x3,x4,x5,x6,x7,x8,x9,kN,x11,x12,kn,und,d,w,i⟩:=t
 obtain ⟨hI1,hI2,hI3⟩:=hI
 simp only at hI1 hI2 hI3 ⊢
 rw[hI1]
 refine bF.bO (bF.ite (fun hi=>?_) (fun hi=>?_))
 ·simp only[aC,aD] at hi
  have hw:IntKind.i64.wrap (i+1)=i+1:=wrap64 (by omega) (by omega)
  rw[hw]
  refine bF.bL (bF.bI (bF.c5 (by simp only[cR,aB,aC];omega) (bF.cJ (bF.bO (bF.ite (fun _=>?_) (fun _=>?_))))))
  ·(repeat' (first|(with_reducible first|apply bF.bO|apply bF.bL|apply bF.bI|refine bF.dF (by assumption) ?_|refine bF.dB (by assumption) ?_|refine bF.ite (fun _=>?_) (fun _=>?_)|apply bF.cJ|apply bF.ret|apply sE.l|apply sE.r)))
   exact ⟨⟨rfl,by show 0≤i+1;omega,by show i+1≤_;omega⟩,by show a0.bB.length - (i+1).toNat<a0.bB.length - i.toNat;omega⟩
  ·refine bF.call (aFA hm h a0.bB.length K ⟨a0,kn,und⟩ i rfl ⟨hI2,hi⟩ (aJG _ _) (by omega)) (fun v hv=>?_)
   (repeat' (first|(with_reducible first|apply bF.bO|apply bF.bL|apply bF.bI|refine bF.dF (by assumption) ?_|refine bF.dB (by assumption) ?_|refine bF.ite (fun _=>?_) (fun _=>?_)|apply bF.cJ|apply bF.ret|apply sE.l|apply sE.r)))
   ·(all_goals (try (first|trivial|(intro h;cases h;done))))
   ·exact ⟨⟨hv.1,by show 0≤i+1;omega,by show i+1≤_;omega⟩,by show a0.bB.length - (i+1).toNat<a0.bB.length - i.toNat;omega⟩
 ·(repeat' (first|(with_reducible first|apply bF.bO|apply bF.bL|apply bF.bI|refine bF.dF (by assumption) ?_|refine bF.dB (by assumption) ?_|refine bF.ite (fun _=>?_) (fun _=>?_)|apply bF.cJ|apply bF.ret|apply sE.l|apply sE.r)))
  (all_goals (try (first|trivial|(intro h;cases h;done))))
theorem aFC {K:Nat} {a0:eW} {m:Nat} (hK:2000000<K) (hm:m≤1) (h:Sm a0 m):eA (F21 K a0) (fun _=>True):=by
 refine eA.of ?_
 unfold F21
 refine bF.call (aFB hK hm h) (fun v _=>?_)
 (repeat' (first|(with_reducible first|apply bF.bO|apply bF.ret|apply sE.l|apply sE.r)))
 (all_goals (try (first|trivial|(intro h;cases h;done))))
theorem nF {K:Nat} {im:eW} {b1 b2 b3 b4 b5 b6 b7:Bool} (h1:cT (F15 K im)=some b1) (h2:b1=true→cT (F16 K im)=some b2) (h3:b1=true→b2=true→cT (F17 K im)=some b3) (h4:b1=true→b2=true→b3=true→cT (F18 K im)=some b4)
 (h5:b1=true→b2=true→b3=true→b4=true→cT (F19 K im)=some b5) (h6:b1=true→b2=true→b3=true→b4=true→b5=true→cT (zG K im)=some b6) (h7:b1=true→b2=true→b3=true→b4=true→b5=true→b6=true→cT (F21 K im)=some b7) :
 rW K im=some (.inl (if b1=false then [115,105,122,101,115] else if b2=false then [108,101,116,116,101,114,115] else if b3=false then [99,108,97,115,115,101,115] else if b4=false then [116,97,98,108,101,115] else if b5=false then [116,104,105,110,103,115] else if b6=false then [99,111,100,101,115] else if b7=false then [98,111,117,110,100,115] else [])):=by
 unfold rW
 rw[h1]
 cases b1
 ·rfl
 rw[h2 rfl]
 cases b2
 ·rfl
 rw[h3 rfl rfl]
 cases b3
 ·rfl
 rw[h4 rfl rfl rfl]
 cases b4
 ·rfl
 rw[h5 rfl rfl rfl rfl]
 cases b5
 ·rfl
 rw[h6 rfl rfl rfl rfl rfl]
 cases b6
 ·rfl
 rw[h7 rfl rfl rfl rfl rfl rfl]
 cases b7 <;> rfl
structure Yes (K:Nat) (im:eW):Prop where
 y1:cT (F15 K im)=some true
 y2:cT (F16 K im)=some true
 y3:cT (F17 K im)=some true
 y4:cT (F18 K im)=some true
 y5:cT (F19 K im)=some true
 y6:cT (zG K im)=some true
 y7:cT (F21 K im)=some true
theorem aFD {K:Nat} {im:eW} {m:Nat} (hK:2000000<K) (hm:m≤1) (h:Sm im m):eA (rW K im) (fun v=>v=[]→Yes K im):=by
 obtain ⟨b1,h1,_⟩:=aE5 (K:=K) (by omega) h
 obtain ⟨b2,h2,_⟩:=aE6 (K:=K) (by omega) hm h
 obtain ⟨b3,h3,ha⟩:=aFc (K:=K) (by omega) hm h
 obtain ⟨b5,h5,_⟩:=aFm (K:=K) (by omega) hm h
 obtain ⟨b6,h6,_⟩:=aFv (K:=K) (by omega) hm h
 obtain ⟨b7,h7,_⟩:=aFC (K:=K) (by omega) hm h
 have h4:∃ b4,b3=true→cT (F18 K im)=some b4:=by
  cases b3
  ·exact ⟨true,fun h=>by cases h⟩
  ·obtain ⟨b4,h4,_⟩:=aFf (K:=K) (by omega) hm (ha rfl) h
   exact ⟨b4,fun _=>h4⟩
 obtain ⟨b4,h4⟩:=h4
 refine ⟨_,by rw[nF h1 (fun _=>h2) (fun _ _=>h3) (fun _ _=>h4) (fun _ _ _ _=>h5) (fun _ _ _ _ _=>h6) (fun _ _ _ _ _ _=>h7)];rfl,fun hv=>?_⟩
 cases b1
 ·simp at hv
 cases b2
 ·simp at hv
 cases b3
 ·simp at hv
 cases b4
 ·simp at hv
 cases b5
 ·simp at hv
 cases b6
 ·simp at hv
 cases b7
 ·simp at hv
 exact ⟨h1,h2,h3,h4 rfl,h5,h6,h7⟩
end Go.Proofs.YtngjamedgphjiaaGreatDoor
