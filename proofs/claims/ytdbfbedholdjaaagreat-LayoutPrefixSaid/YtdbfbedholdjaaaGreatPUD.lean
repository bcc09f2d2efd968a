/- No conditions. -/
import Derived.Test.YtdbfbedholdjaaaGreatPUC
import Derived.Test.YtdbfbedholdjaaaGreatPLE
import Derived.Test.YtdbfbedholdjaaaGreatPLL
set_option linter.unusedVariables false
set_option linter.unusedSimpArgs false
set_option linter.unusedSectionVars false
namespace Go.Proofs.YtdbfbedholdjaaaGreat
open Go Go.Dl
variable [dW]
set_option maxRecDepth 100000
set_option maxHeartbeats 8000000
theorem aPB {K:Nat} {u:cZ} {w:dR} {e:cL} (hK:40100000<K) (he:e.sz≤6004) (h:Sm u):dA (aI2 K u w e) (fun _=>True):=by
 refine dA.of ?_
 unfold aI2
 refine bI.call (aEd hK he h) (fun _ _=>?_)
 exact T0
theorem cJ.szq (s:cJ):s.sz=1+cL.jC s.cT+rB s.eL+cJ.lQ s.bY:=by cases s;rw[cJ.sz]
theorem aJD:∀ {l:List cJ} {x:cJ},x∈l→x.sz≤cJ.jC l
 | y::r,x,h=>by
   rw[cJ.jC]
   rcases aZ.1 h with rfl | h
   ·omega
   ·have:=aJD h;omega
theorem aAL:∀ {l:List (List cJ)} {x:List cJ},x∈l→cJ.jC x+1≤cJ.lQ l
 | y::r,x,h=>by
   rw[cJ.lQ]
   rcases aZ.1 h with rfl | h
   ·omega
   ·have:=aAL h;omega
theorem aHN:∀ {l:List (List Int)} {x:List Int},x∈l→x.length≤rB l
 | y::r,x,h=>by
   rw[rB]
   rcases aZ.1 h with rfl | h
   ·omega
   ·have:=aHN h;omega
theorem aPD {K:Nat} {u:cZ} {w:dR} {s:cJ} (hK:40100000<K) (hs:s.sz≤6004) (h:Sm u) (hw:Plc u w):dA (aN7 K u w s) (fun _=>True):=by
 refine dA.of ?_
 unfold aN7
 have hq:=s.szq
 have hl:=oC s.cT
 refine bI.dS ?_ (fun p=>?_)
 ·refine bI.ite (fun e=>?_) (fun e=>?_)
  ·simp only[aB] at e
   have hv:Vw u w:=by
    rcases hw with hw | hw
    ·exact hw.2
    ·omega
   refine bI.bW (bR hv.1) (bI.bW (bR hv.2) (bI.cD ?_))
   exact T0
  ·exact T0
 ·refine bI.ite (fun e=>?_) (fun e=>?_)
  ·exact T0
  ·simp only[beq_iff_eq,Int.ofNat_eq_natCast] at e
   have hm:=p7 (dQ (d:=default) (show (0:Int).toNat<s.cT.length by simp;omega))
   refine bI.bW (bR (by omega)) (bI.cD ?_)
   refine bI.call (aEd hK (by omega) h) (fun _ _=>?_)
   refine bI.ite (fun e=>?_) (fun e=>?_)
   ·exact T0
   refine bI.cG (fun _=>aEe (by omega) h) (fun _ _=>?_)
   exact T0
structure Shp (s:cJ):Prop where
 k1:s.bP=1∨s.bP=3∨s.bP=4→s.cT.length=1
 k2:s.bP=2∨s.bP=11→s.cT.length=2
 k5:s.bP=5→1≤s.cT.length∧s.bY.length=s.cT.length+1
 k6:s.bP=6→s.cT.length=1
 k7:s.bP=7→s.cT.length=1∧s.bY.length=1
 k8:s.bP=8→s.cT.length=2∧s.bY.length=1
theorem aPE {K:Nat} {s:cJ} (hK:100000<K) (hs:s.sz≤7000):dA (aN8 K s) (fun v=>v=true→Shp s):=by
 refine dA.of ?_
 unfold aN8
 have hq:=s.szq
 have hl:=oC s.cT
 have hb:=aEf s.eL
 refine bI.ite (fun e=>?_) (fun e=>?_)
 ·refine bI.dS (bI.bJ (bI.dK ?_)) (fun _=>?_)
  ·refine bI.loop (fun t:Int=>0≤t∧t≤s.eL.length) (fun t=>(s.eL.length - t).toNat) ⟨by simp,by simp⟩ (by simp;omega) (fun t ⟨h1,h2⟩=>?_)
   simp (disch:=omega) only[wr,Int.ofNat_eq_natCast]
   refine bI.bN (bI.ite (fun e6=>?_) (fun e6=>?_))
   ·simp only[aB] at e6
    refine bI.dS (bI.bJ (bI.bW (bR (by omega)) (bI.cD (bI.bN (bI.ite (fun e7=>?_) (fun e7=>?_)))))) (fun _=>?_)
    ·exact T0
    ·exact T0
    ·refine bI.ret (sE.r ?_)
     exact ⟨⟨by omega,by omega⟩,by omega⟩
   ·exact T0
  ·refine bI.bN ?_
   simp (disch:=omega) only[wr,Int.ofNat_eq_natCast]
   refine bI.ret (sE.l ?_)
   intro h
   simp only[beq_iff_eq,aC] at e h
   constructor <;> omega
 ·refine bI.bN (bI.ite (fun e=>?_) (fun e=>?_))
  ·exact T0
  simp (disch:=omega) only[wr,Int.ofNat_eq_natCast]
  refine bI.dS (bI.bJ ?_) (fun _=>by exact T0)
  refine bI.cP (fun b=>b=true↔s.bP=1∨s.bP=3) ?_ (fun b hb1=>?_)
  ·refine bI.ite (fun _=>bI.ret (sE.r ?_)) (fun _=>bI.ret (sE.r ?_))
   all_goals simp only[beq_iff_eq] at *
   all_goals omega
  refine bI.ite (fun e1=>?_) (fun e1=>?_)
  ·have hk:=hb1.1 e1
   refine bI.bN (bI.ret (sE.l (sE.r ?_)))
   intro h
   simp only[beq_iff_eq,aC] at h
   constructor <;> omega
  have hn1:¬ (s.bP=1∨s.bP=3):=fun q=>e1 (hb1.2 q)
  refine bI.cP (fun b=>b=true↔s.bP=2∨s.bP=11) ?_ (fun b hb1=>?_)
  ·refine bI.ite (fun _=>bI.ret (sE.r ?_)) (fun _=>bI.ret (sE.r ?_))
   all_goals simp only[beq_iff_eq] at *
   all_goals omega
  refine bI.ite (fun e1=>?_) (fun e1=>?_)
  ·have hk:=hb1.1 e1
   refine bI.bN (bI.ret (sE.l (sE.r ?_)))
   intro h
   simp only[beq_iff_eq,aC] at h
   constructor <;> omega
  have hn2:¬ (s.bP=2∨s.bP=11):=fun q=>e1 (hb1.2 q)
  refine bI.ite (fun e1=>?_) (fun e1=>?_)
  ·refine bI.bN (bI.bW ?_ ?_)
   ·by_cases q:s.cT.length=1
    ·rw[bR (by omega)];simp
    ·have:(((s.cT.length:Int) == 1)=false):=beq_eq_false_iff_ne.2 (by omega)
     rw[this];rfl
   ·refine bI.cD (bI.bN (bI.ret (sE.l (sE.r ?_))))
    intro h
    simp only[beq_iff_eq,aC] at h e1
    constructor <;> omega
  refine bI.ite (fun _=>bI.bN (bI.ret (sE.l (sE.r ?_)))) (fun _=>bI.ite (fun _=>bI.bN (bI.ret (sE.l (sE.r ?_)))) (fun _=>bI.ite (fun _=>bI.bN (bI.ret (sE.l (sE.r ?_)))) (fun _=>bI.ite (fun _=>bI.bN (bI.ret (sE.l (sE.r ?_)))) (fun _=>bI.ite (fun _=>bI.bN (bI.ret (sE.l (sE.r ?_)))) (fun _=>bI.ret (sE.r ?_))))))
  all_goals try trivial
  all_goals
   intro h
   simp only[beq_iff_eq,aC,aB] at *
   constructor <;> omega
theorem bI.l5 {A:Type} {K:Nat} {f:Int→Option (A ⊕ Int)} {p:A→Prop} (n:Nat) (hK:n<K) (hs:∀ i:Nat,i<n→bI (f i) (sE p (fun t=>t=(i:Int)+1))) (he:bI (f n) (sE p (fun _=>False))):bI (iter K f 0) p :=
 bI.up n hK (fun i hi=>(hs i hi).aAK (by rintro (a | t) h;exact h;exact ⟨h,trivial⟩)) he
theorem st7:∀ k:Nat,(∀ (u:cZ) (w:dR) (l:List cJ) (b:Bool),Sm u→Plc u w→cJ.jC l≤6004→3 * cJ.jC l+100000002<k→dA (y9 k u w l b) (fun _=>True)) ∧
 (∀ (u:cZ) (w:dR) (s:cJ) (b:Bool),Sm u→Plc u w→s.sz≤6004→3 * s.sz+100000001<k→dA (aMk k u w s b) (fun _=>True)) ∧
 (∀ (u:cZ) (w:dR) (s:cJ),Sm u→Plc u w→s.sz≤6004→Shp s→s.bP=1∨s.bP=2∨s.bP=3∨s.bP=8∨s.bP=11→3 * s.sz+100000000<k→dA (aMl k u w s) (fun _=>True)) ∧
 (∀ (u:cZ) (w:dR) (s:cJ) (b:Bool),Sm u→Plc u w→s.sz≤6004→Shp s→s.bP=6→3 * s.sz+100000000<k→dA (aMm k u w s b) (fun _=>True))
 | 0=>⟨fun _ _ _ _ _ _ _ h=>by omega,fun _ _ _ _ _ _ _ h=>by omega,fun _ _ _ _ _ _ _ _ h=>by omega,fun _ _ _ _ _ _ _ _ _ h=>by omega⟩
 | k+1=>by
   obtain ⟨ih1,ih2,ih3,ih4⟩:=st7 k
   refine ⟨fun u w l b h hp hz hk=>?_,fun u w s b h hp hz hk=>?_,fun u w s h hp hz hs hq hk=>?_,fun u w s b h hp hz hs hq hk=>?_⟩
   ·refine dA.of ?_
    rw[y9]
    have hl:=aJE l
    refine bI.dS (bI.bJ (bI.dK ?_)) (fun _=>by exact T0)
    refine bI.l5 l.length (by omega) (fun i hi=>?_) ?_
    ·simp (disch:=omega) only[wr,Int.ofNat_eq_natCast]
     refine bI.bN (bI.eR (by simp only[aB];omega) ?_)
     refine bI.dS (bI.bJ (bI.bW (bR (by omega)) (bI.cD ?_))) (fun _=>?_)
     ·rw[Int.toNat_natCast]
      have hm:=aJD (dQ (d:=default) hi)
      refine bI.cX (by decide) (ih2 u w _ b h hp (by omega) (by omega)) (fun _ _=>?_)
      exact T0
     ·refine bI.ret (sE.r ?_);rfl
    ·simp (disch:=omega) only[wr,Int.ofNat_eq_natCast]
     refine bI.bN (bI.eQ (by simp) ?_)
     exact T0
   ·refine dA.of ?_
    rw[aMk]
    have hsz:=s.szq
    have hl:=oC s.cT
    have hbl:=aCL s.bY
    refine bI.call (aPE (by omega) (by omega)) (fun v hv=>?_)
    refine bI.ite (fun e=>?_) (fun e=>?_)
    ·exact T0
    have hs:=hv (by simpa using e)
    have hblk:∀ (i:Nat) (b:Bool),i<s.bY.length→dA (y9 k u w (s.bY.getD i default) b) (fun _=>True):=fun i b hi=>by
     have:=aAL (dQ (d:=default) hi)
     exact ih1 u w _ b h hp (by omega) (by omega)
    have hex:∀ i:Nat,i<s.cT.length→dA (aI2 k u w (s.cT.getD i default)) (fun _=>True):=fun i hi=>by
     have:=p7 (dQ (d:=default) hi)
     exact aPB (by omega) (by omega) h
    refine bI.dS (bI.bJ ?_) (fun _=>by exact T0)
    refine bI.cP (fun b=>b=true→s.bP=1∨s.bP=2∨s.bP=3∨s.bP=8∨s.bP=11) ?_ (fun bb hb1=>?_)
    ·refine bI.ite (fun _=>bI.ret (sE.r ?_)) (fun _=>bI.ite (fun _=>bI.ret (sE.r ?_)) (fun _=>bI.ite (fun _=>bI.ret (sE.r ?_)) (fun _=>bI.ite (fun _=>bI.ret (sE.r ?_)) (fun _=>bI.ret (sE.r ?_)))))
     all_goals simp only[beq_iff_eq] at *
     all_goals omega
    refine bI.ite (fun e1=>?_) (fun e1=>?_)
    ·refine bI.call (ih3 u w s h hp hz hs (hb1 e1) (by omega)) (fun _ _=>?_)
     exact T0
    refine bI.ite (fun e1=>?_) (fun e1=>?_)
    ·have h1:=hs.k1 (.inr (.inr (beq_iff_eq.1 e1)))
     have hm:=p7 (dQ (d:=default) (show (0:Int).toNat<s.cT.length by simp;omega))
     refine bI.bW (bR (by omega)) (bI.cD ?_)
     refine bI.call (aPF (by omega) (by omega) h) (fun _ _=>?_)
     exact T0
    refine bI.ite (fun e1=>?_) (fun e1=>?_)
    ·have h1:=hs.k5 (beq_iff_eq.1 e1)
     refine bI.dS (bI.bJ (bI.dK ?_)) (fun _=>?_)
     ·refine bI.l5 s.cT.length (by omega) (fun i hi=>?_) ?_
      ·simp (disch:=omega) only[wr,Int.ofNat_eq_natCast]
       refine bI.bN (bI.eR (by simp only[aB];omega) ?_)
       refine bI.dS (bI.bJ (bI.bW (bR (by omega)) (bI.cD ?_))) (fun _=>?_)
       ·rw[Int.toNat_natCast]
        refine bI.cX (by decide) (hex i hi) (fun _ _=>?_)
        refine bI.ite (fun e2=>?_) (fun e2=>?_)
        ·exact T0
        refine bI.bW (bR (by omega)) (bI.cD ?_)
        refine bI.cX (by decide) (hblk i b (by omega)) (fun _ _=>?_)
        exact T0
       ·refine bI.ret (sE.r ?_);rfl
      ·simp (disch:=omega) only[wr,Int.ofNat_eq_natCast]
       refine bI.bN (bI.eQ (by simp) ?_)
       exact T0
     ·refine bI.bW (bR (by simp only[Int.ofNat_eq_natCast];omega)) (bI.cD (bI.bN ?_))
      refine bI.cX (by decide) (hblk s.cT.length b (by omega)) (fun _ _=>?_)
      exact T0
    refine bI.ite (fun e1=>?_) (fun e1=>?_)
    ·refine bI.call (ih4 u w s b h hp hz hs (beq_iff_eq.1 e1) (by omega)) (fun _ _=>?_)
     exact T0
    refine bI.ite (fun e1=>?_) (fun e1=>?_)
    ·have h1:=hs.k7 (beq_iff_eq.1 e1)
     refine bI.bW (bR (by omega)) (bI.cD ?_)
     refine bI.cX (by decide) (hex _ (by simp;omega)) (fun _ _=>?_)
     refine bI.ite (fun e2=>?_) (fun e2=>?_)
     ·exact T0
     refine bI.bW (bR (by omega)) (bI.cD ?_)
     refine bI.cX (by decide) (hblk _ _ (by simp;omega)) (fun _ _=>?_)
     exact T0
    refine bI.ite (fun e1=>?_) (fun e1=>?_)
    ·refine bI.call (aPD (by omega) hz h hp) (fun _ _=>?_)
     exact T0
    ·exact T0
   ·refine dA.of ?_
    rw[aMl]
    have hsz:=s.szq
    have hl:=oC s.cT
    refine bI.call (aEg (by omega) h) (fun r1 _=>?_)
    refine bI.ite (fun e=>?_) (fun e=>?_)
    ·exact T0
    have a1:=hs.k1
    have a2:=hs.k2
    have a8:=hs.k8
    refine bI.cP (fun v:Bool × Int=>v.2=s.cT.length) (bI.bJ ?_) ?_
    ·refine bI.ite (fun _=>bI.ret (sE.r ?_)) (fun _=>bI.ite (fun _=>bI.ret (sE.r ?_)) (fun _=>bI.ite (fun _=>bI.ret (sE.r ?_)) (fun _=>bI.ite (fun _=>bI.bN (bI.ret (sE.r ?_))) (fun _=>bI.ite (fun _=>bI.ret (sE.r ?_)) (fun _=>bI.ret (sE.r ?_))))))
     all_goals try trivial
     all_goals simp only[beq_iff_eq] at *
     all_goals omega
    rintro ⟨b,n⟩ hn
    dsimp only at hn ⊢
    refine bI.ite (fun e=>?_) (fun e=>?_)
    ·exact T0
    refine bI.bW ?_ (bI.cD ?_)
    ·simp only[cW,aC,aB];omega
    have hsub:=aLd s.cT (0:Int).toNat (n.toNat - (0:Int).toNat)
    refine bI.call (aPG (by omega) (by omega) h) (fun r5 hr=>?_)
    refine bI.ite (fun e=>?_) (fun e=>?_)
    ·exact T0
    have hr':=hr (by simpa using e)
    rw[aU,bH] at hr'
    have hlen:r5.1.length=s.cT.length:=by
     rw[hr',hn];simp
    refine bI.dS (bI.bJ ?_) (fun b2=>?_)
    ·refine bI.ite (fun e=>?_) (fun e=>?_)
     ·have:=a1 (.inl (beq_iff_eq.1 e))
      refine bI.bW (bR (by omega)) (bI.cD ?_)
      refine bI.cX (by decide) (aEe (by omega) h) (fun _ _=>?_)
      exact T0
     refine bI.ite (fun e=>?_) (fun e=>?_)
     ·have:=a1 (.inr (.inl (beq_iff_eq.1 e)))
      refine bI.bW (bR (by omega)) ?_
      exact T0
     have hex:r5.1.length=2:=by
      simp only[beq_iff_eq] at *
      rcases hq with q | q | q | q | q
      ·omega
      ·have:=a2 (.inl q);omega
      ·omega
      ·have:=a8 q;omega
      ·have:=a2 (.inr q);omega
     refine bI.ite (fun e=>?_) (fun e=>?_)
     ·refine bI.bW (bR (by omega)) (bI.bW (by rw[bR (by omega)];simp) ?_)
      exact T0
     ·refine bI.bW (bR (by omega)) (bI.bW (by rw[bR (by omega)];simp) ?_)
      exact T0
    ·refine bI.ite (fun e=>?_) (fun e=>?_)
     ·exact T0
     refine bI.ite (fun e=>?_) (fun e=>?_)
     ·have h8:=a8 (beq_iff_eq.1 e)
      have hm:=aAL (dQ (d:=default) (show (0:Int).toNat<s.bY.length by simp;omega))
      refine bI.bW (bR (by omega)) (bI.cD ?_)
      refine bI.cX (by decide) (ih1 u w _ _ h hp (by omega) (by omega)) (fun _ _=>?_)
      exact T0
     ·exact T0
   ·refine dA.of ?_
    rw[aMm]
    have hsz:=s.szq
    have hl:=oC s.cT
    have hbl:=aCL s.bY
    have a2K:=aEf s.eL
    have h6:=hs.k6 hq
    have hm:=p7 (dQ (d:=default) (show (0:Int).toNat<s.cT.length by simp;omega))
    refine bI.bW (bR (by omega)) (bI.cD ?_)
    refine bI.call (aEd (by omega) (by omega) h) (fun _ _=>?_)
    refine bI.ite (fun e=>?_) (fun e=>?_)
    ·exact T0
    refine bI.ite (fun e=>?_) (fun e=>?_)
    ·exact T0
    refine bI.dS (bI.bJ (bI.dK ?_)) (fun _=>?_)
    ·refine bI.loop (fun t:List Int × Int=>0≤t.2∧t.2≤s.eL.length∧(t.1.length:Int)≤7000 * t.2) (fun t=>(s.eL.length - t.2).toNat) ⟨by simp,by simp,by simp⟩ (by simp;omega) ?_
     rintro ⟨out,t⟩ ⟨g1,g2,g3⟩
     dsimp only at g1 g2 g3 ⊢
     obtain ⟨n,rfl⟩:=aJ g1
     simp (disch:=omega) only[wr,Int.ofNat_eq_natCast]
     refine bI.bN (bI.ite (fun e1=>?_) (fun e1=>?_))
     ·simp only[aB] at e1
      have yN:=aHN (dQ (d:=default) (show n<s.eL.length by omega))
      refine bI.cP (fun o:List Int=>(o.length:Int)≤7000 * n+7000) (bI.bJ ?_) ?_
      ·refine bI.cP (fun o:List Int=>(o.length:Int)≤7000 * n+7000) (bI.bJ (bI.dK ?_)) (fun o ho=>by refine bI.ret (sE.r ?_);exact ho)
       refine bI.loop (fun t:List Int × Int=>0≤t.2∧t.2≤(s.eL.getD n default).length∧(t.1.length:Int)≤7000 * n+t.2) (fun t=>((s.eL.getD n default).length - t.2).toNat) ⟨by simp,by dsimp only;omega,by dsimp only;omega⟩ (by dsimp only;omega) ?_
       rintro ⟨o2,t2⟩ ⟨k1,k2,k3⟩
       dsimp only at k1 k2 k3 ⊢
       rw[Int.toNat_natCast]
       refine bI.bW (bR (by omega)) (bI.cD ?_)
       simp (disch:=omega) only[wr,Int.ofNat_eq_natCast]
       refine bI.bN (bI.ite (fun e2=>?_) (fun e2=>?_))
       ·simp only[aB] at e2
        refine bI.cP (fun o:List Int=>(o.length:Int)≤7000 * n+t2+1) (bI.bJ ?_) ?_
        ·refine bI.bW (bR (by omega)) (bI.bW (bR (by omega)) (bI.cD (bI.bN ?_)))
         refine bI.dS (bI.bJ (bI.dK ?_)) (fun _=>?_)
         ·refine bI.l5 o2.length (by omega) (fun i hi=>?_) ?_
          ·simp (disch:=omega) only[wr,Int.ofNat_eq_natCast]
           refine bI.bN (bI.eR (by simp only[aB];omega) ?_)
           refine bI.dS (bI.bJ (bI.bW (bR (by omega)) (bI.cD ?_))) (fun _=>?_)
           ·exact T0
           ·refine bI.ret (sE.r ?_);rfl
          ·simp (disch:=omega) only[wr,Int.ofNat_eq_natCast]
           refine bI.bN (bI.eQ (by simp) ?_)
           exact T0
         ·refine bI.bN (bI.ite (fun e3=>?_) (fun e3=>?_))
          ·exact T0
          ·refine bI.bW (dX ?_) (bI.cD ?_)
           ·simp only[List.length_singleton];omega
           ·refine bI.ret (sE.r ?_)
            rw[aE,List.length_singleton];omega
        ·intro o ho
         refine bI.ret (sE.r ?_)
         exact ⟨⟨by dsimp only;omega,by dsimp only;omega,by dsimp only;omega⟩,by dsimp only;omega⟩
       ·simp only[aB] at e2
        refine bI.ret (sE.l (sE.l ?_))
        show (o2.length:Int)≤_
        omega
      ·intro o ho
       refine bI.ret (sE.r ?_)
       exact ⟨⟨by dsimp only;omega,by dsimp only;omega,by dsimp only;omega⟩,by dsimp only;omega⟩
     ·exact T0
    ·refine bI.dS (bI.bJ (bI.dK ?_)) (fun _=>by exact T0)
     refine bI.l5 s.bY.length (by omega) (fun i hi=>?_) ?_
     ·simp (disch:=omega) only[wr,Int.ofNat_eq_natCast]
      refine bI.bN (bI.eR (by simp only[aB];omega) ?_)
      refine bI.dS (bI.bJ (bI.bW (bR (by omega)) (bI.cD (bI.bN ?_)))) (fun _=>?_)
      ·rw[Int.toNat_natCast]
       have hm:=aAL (dQ (d:=default) hi)
       refine bI.cX (by decide) (ih1 u w _ b h hp (by omega) (by omega)) (fun _ _=>?_)
       exact T0
      ·refine bI.ret (sE.r ?_);rfl
     ·simp (disch:=omega) only[wr,Int.ofNat_eq_natCast]
      refine bI.bN (bI.eQ (by simp) ?_)
      exact T0
theorem aHO {K:Nat} {u:cZ} {w:dR} {l:List cJ} (hK:100100000<K) (hl:cJ.jC l≤6004) (h:Sm u):dA (aMn K u w l) (fun _=>True):=by
 refine dA.of ?_
 unfold aMn
 refine bI.call aAM (fun v hv=>?_)
 refine bI.ite (fun e=>?_) (fun e=>?_)
 ·exact T0
 refine bI.call ((st7 K).1 u w l false h (hv (by simpa using e)) hl (by omega)) (fun _ _=>?_)
 exact T0
end Go.Proofs.YtdbfbedholdjaaaGreat

namespace Go.Proofs.YtdbfbedholdjaaaGreat
open Go Go.Dl
variable [dW]
set_option maxRecDepth 100000
set_option maxHeartbeats 8000000
theorem iO {α:Type} {l:List α} {n:Nat} (z:α) (h:n<l.length):l.take (n+1)=l.take n++[l.getD n z]:=by
 rw[List.getD,aD h,Option.getD_some,List.take_add_one,aD h];rfl
theorem aPH {K:Nat} {d:jG} (hK:100000<K) (h:d.bM.length≤6004):dA (aNW K d) (fun v=>v=false→d.bM.length≤6∧d.eB.length≤4∧d.cU.length≤8∧∀ m∈d.bM,m.cV.length≤3∧m.cU.length≤8):=by
 refine dA.of ?_
 unfold aNW
 refine bI.bN (bI.ite (fun e=>?_) (fun e=>?_))
 ·exact T0
 simp only[aM,aB,not_or,Int.ofNat_eq_natCast] at e
 refine bI.cP (fun _=>∀ m∈d.bM,m.cV.length≤3∧m.cU.length≤8) (bI.bJ (bI.dK ?_)) (fun _ h1=>?_)
 ·refine bI.upP d.bM.length (fun i=>(d.bM.getD i default).cV.length≤3∧(d.bM.getD i default).cU.length≤8) (by omega) (fun i hi=>?_) (fun hp=>?_)
  ·simp (disch:=omega) only[wr,Int.ofNat_eq_natCast]
   refine bI.bN (bI.eR (by simp only[aB];omega) ?_)
   rw[Int.toNat_natCast]
   refine bI.cP (fun _=>(d.bM.getD i default).cV.length≤3∧(d.bM.getD i default).cU.length≤8) (bI.bJ (bI.bW (bR (by omega)) (bI.bW (by rw[bR (by omega)];simp) (bI.cD (bI.bN (bI.ite (fun e2=>?_) (fun e2=>?_))))))) (fun _ h2=>?_)
   ·exact T0
   ·simp only[aM,aB,not_or] at e2
    refine bI.ret (sE.r ?_)
    exact ⟨by omega,by omega⟩
   ·refine bI.ret (sE.r ?_);exact ⟨rfl,h2⟩
  ·simp (disch:=omega) only[wr,Int.ofNat_eq_natCast]
   refine bI.bN (bI.eQ (by simp) ?_)
   refine bI.ret (sE.l (sE.l ?_))
   exact wY (d:=default) hp
 ·refine bI.ret (sE.l ?_)
  exact fun _=>⟨by omega,by omega,by omega,h1⟩
theorem aHP {K:Nat} {u:cZ} {s:Bytes} {b:Bool} (hK:100000<K) (h:Sm u):dA (aMc K u s b) (fun v=>v=true→kd u (fnd u s)≠0):=by
 refine dA.of ?_
 unfold aMc
 refine bI.aJF rfl (lR (by omega) (by assumption)) ?_
 refine bI.cX (by decide) lS ?_
 rintro _ rfl
 refine bI.bN (bI.ret (sE.l ?_))
 intro e
 simp only[aM,beq_iff_eq,aC] at e
 omega
def tyP (t:fL):Prop:=t.bP=1∨t.bP=2∨t.bP=5
def tyF (t:fL):Prop:=tyP t∨t.bP=3∨(t.bP=4∧0≤t.fHi∧t.fHi<8)
def tyV (t:fL):Prop:=tyF t∨t.bP=6∨t.bP=7
theorem aHQ {K:Nat} {u:cZ} {t:fL} (hK:100000<K) (h:Sm u):dA (aMd K u t) (fun v=>v=true→tyP t):=by
 refine dA.of ?_
 unfold aMd
 refine bI.bN (bI.cG (fun _=>aHP hK h) (fun _ _=>?_))
 refine bI.ret (sE.l ?_)
 intro e
 simp only[aM,beq_iff_eq,aC] at e
 unfold tyP;omega
theorem aPI {K:Nat} {t:fL}:dA (aNX K t) (fun _=>True):=by
 refine dA.of ?_
 unfold aNX
 exact T0
theorem aHR {K:Nat} {u:cZ} {m:hU} (hK:100000<K) (hm:m.cV.length≤6004) (h:Sm u):dA (aMe K u m) (fun _=>True):=by
 refine dA.of ?_
 unfold aMe
 refine bI.dS (bI.bJ (bI.dK ?_)) (fun _=>?_)
 ·refine bI.l5 m.cV.length (by omega) (fun i hi=>?_) ?_
  ·simp (disch:=omega) only[wr,Int.ofNat_eq_natCast]
   refine bI.bN (bI.eR (by simp only[aB];omega) ?_)
   refine bI.dS (bI.bJ (bI.bW (bR (by omega)) (bI.cD ?_))) (fun _=>?_)
   ·refine bI.cX (by decide) (aHQ (by omega) h) (fun _ _=>?_)
    exact T0
   ·refine bI.ret (sE.r ?_);rfl
  ·simp (disch:=omega) only[wr,Int.ofNat_eq_natCast]
   refine bI.bN (bI.eQ (by simp) ?_)
   exact T0
 ·refine bI.call aPI (fun _ _=>?_)
  exact T0
theorem rC {K:Nat} {l:List Bytes} (hK:100000000<K) (hl:l.length≤36200000):dA (aDz K l) (fun _=>True):=by
 refine dA.of ?_
 unfold aDz
 refine bI.dS (bI.bJ (bI.dK ?_)) (fun _=>by exact T0)
 refine bI.l5 l.length (by omega) (fun i hi=>?_) ?_
 ·simp (disch:=omega) only[wr,Int.ofNat_eq_natCast]
  refine bI.bN (bI.eR (by simp only[aB];omega) ?_)
  refine bI.dS (bI.bJ ?_) (fun _=>by refine bI.ret (sE.r ?_);rfl)
  refine bI.dS (bI.bJ (bI.dK ?_)) (fun _=>by exact T0)
  refine bI.l5 i (by omega) (fun j hj=>?_) ?_
  ·simp (disch:=omega) only[wr,Int.ofNat_eq_natCast]
   refine bI.eR (by simp only[aB];omega) ?_
   refine bI.dS (bI.bJ (bI.bW (bR (by omega)) (bI.bW (bR (by omega)) (bI.cD ?_)))) (fun _=>by refine bI.ret (sE.r ?_);rfl)
   exact T0
  ·refine bI.eQ (by simp) ?_
   exact T0
 ·simp (disch:=omega) only[wr,Int.ofNat_eq_natCast]
  refine bI.bN (bI.eQ (by simp) ?_)
  exact T0
theorem aEh {K:Nat} {d:jG} (hK:100000<K) (h:d.bM.length≤6004):dA (aI0 K d) (fun v=>v=d.bM.map fun m=>m.cC):=by
 refine dA.of ?_
 unfold aI0
 refine bI.cP (fun v=>v=d.bM.map fun m=>m.cC) (bI.bJ (bI.dK ?_)) (fun v hv=>by refine bI.ret (sE.l ?_);exact hv)
 refine bI.loop (fun t:List Bytes × Int=>0≤t.2∧t.2≤d.bM.length∧t.1=(d.bM.take t.2.toNat).map fun m=>m.cC) (fun t=>(d.bM.length - t.2).toNat) ⟨by simp,by simp,rfl⟩ (by simp;omega) ?_
 rintro ⟨o,t⟩ ⟨g1,g2,g3⟩
 dsimp only at g1 g2 g3 ⊢
 obtain ⟨n,rfl⟩:=aJ g1
 rw[Int.toNat_natCast] at g3
 simp (disch:=omega) only[wr,Int.ofNat_eq_natCast]
 refine bI.bN (bI.ite (fun e1=>?_) (fun e1=>?_))
 ·simp only[aB] at e1
  have ho:o.length≤6004:=by rw[g3,List.length_map,aU];omega
  rw[Int.toNat_natCast]
  refine bI.cP (fun v:List Bytes=>v=(d.bM.take (n+1)).map fun m=>m.cC) (bI.bJ (bI.bW (bR (by omega)) (bI.cD (bI.bN (bI.bW (dX ?_) (bI.cD ?_)))))) (fun v hv=>?_)
  ·show (o.length+1) * 16≤_
   omega
  ·refine bI.ret (sE.r ?_)
   rw[iO default (by omega),List.map_append,← g3];rfl
  ·refine bI.ret (sE.r ?_)
   exact ⟨⟨by dsimp only;omega,by dsimp only;omega,by dsimp only;rw[show ((n:Int)+1).toNat=n+1 by omega];exact hv⟩,by dsimp only;omega⟩
 ·simp only[aB] at e1
  refine bI.ret (sE.l (sE.l ?_))
  show o=_
  rw[g3,List.take_of_length_le (by omega)]
theorem aAN {K:Nat} {l:List fE} (hK:100000000<K) (h:l.length≤36200000):dA (aG5 K l) (fun v=>v.length=l.length):=by
 refine dA.of ?_
 unfold aG5
 refine bI.cP (fun v:List Bytes=>v.length=l.length) (bI.bJ (bI.dK ?_)) (fun v hv=>by refine bI.ret (sE.l ?_);exact hv)
 refine bI.loop (fun t:List Bytes × Int=>0≤t.2∧t.2≤l.length∧(t.1.length:Int)=t.2) (fun t=>(l.length - t.2).toNat) ⟨by simp,by simp,by simp⟩ (by simp;omega) ?_
 rintro ⟨o,t⟩ ⟨g1,g2,g3⟩
 dsimp only at g1 g2 g3 ⊢
 simp (disch:=omega) only[wr,Int.ofNat_eq_natCast]
 refine bI.bN (bI.ite (fun e1=>?_) (fun e1=>?_))
 ·simp only[aB] at e1
  refine bI.cP (fun v:List Bytes=>(v.length:Int)=t+1) (bI.bJ (bI.bW (bR (by omega)) (bI.cD (bI.bW (dX ?_) (bI.cD ?_))))) (fun v hv=>?_)
  ·show (o.length+1) * 16≤_
   omega
  ·refine bI.ret (sE.r ?_)
   show ((o++[_]).length:Int)=_
   rw[aE,List.length_singleton];omega
  ·refine bI.ret (sE.r ?_)
   exact ⟨⟨by dsimp only;omega,by dsimp only;omega,hv⟩,by dsimp only;omega⟩
 ·simp only[aB] at e1
  refine bI.ret (sE.l (sE.l ?_))
  show o.length=l.length
  omega
theorem aPJ {K:Nat} {u:cZ} {d:jG} (hK:100000000<K) (hd:d.bM.length≤6004) (hm:∀ m∈d.bM,m.cV.length≤6004) (h:Sm u):dA (aNZ K u d) (fun _=>True):=by
 refine dA.of ?_
 unfold aNZ
 refine bI.dS (bI.bJ (bI.dK ?_)) (fun _=>?_)
 ·refine bI.l5 d.bM.length (by omega) (fun i hi=>?_) ?_
  ·simp (disch:=omega) only[wr,Int.ofNat_eq_natCast]
   refine bI.bN (bI.eR (by simp only[aB];omega) ?_)
   refine bI.dS (bI.bJ (bI.bW (bR (by omega)) (bI.cD ?_))) (fun _=>by refine bI.ret (sE.r ?_);rfl)
   rw[Int.toNat_natCast]
   refine bI.cX (by decide) (aHR (by omega) (hm _ (dQ hi)) h) (fun _ _=>?_)
   exact T0
  ·simp (disch:=omega) only[wr,Int.ofNat_eq_natCast]
   refine bI.bN (bI.eQ (by simp) ?_)
   exact T0
 ·refine bI.call (aEh (by omega) hd) ?_
  rintro _ rfl
  refine bI.call (rC hK (by rw[List.length_map];omega)) (fun _ _=>?_)
  refine bI.dS (bI.bJ (bI.dK ?_)) (fun _=>by exact T0)
  refine bI.loop (fun t:Bool × Int=>0≤t.2∧t.2≤d.bM.length) (fun t=>(d.bM.length - t.2).toNat) ⟨by simp,by simp⟩ (by simp;omega) ?_
  rintro ⟨b,t⟩ ⟨g1,g2⟩
  dsimp only at g1 g2 ⊢
  simp (disch:=omega) only[wr,Int.ofNat_eq_natCast]
  refine bI.bN (bI.ite (fun e1=>?_) (fun e1=>?_))
  ·simp only[aB] at e1
   have hp:=hm _ (dQ (d:=default) (show t.toNat<d.bM.length by omega))
   refine bI.dS (bI.bJ (bI.bW (by rw[bR (by omega)];simp) (bI.cD ?_))) (fun _=>?_)
   ·refine bI.cG (fun _=>aAN hK (by omega)) (fun v hv=>?_)
    refine bI.cG (fun eb=>rC hK (by rw[hv eb];omega)) (fun _ _=>?_)
    exact T0
   ·refine bI.ret (sE.r ?_)
    exact ⟨⟨by dsimp only;omega,by dsimp only;omega⟩,by dsimp only;omega⟩
  ·exact T0
theorem aHS {K:Nat} {x:fE}:dA (aMf K x) (fun _=>True):=by
 refine dA.of ?_
 unfold aMf
 refine bI.dS (bI.bJ ?_) (fun _=>by exact T0)
 exact T0
theorem aHT {K:Nat} {u:cZ} {t:fL} (hK:100000<K) (h:Sm u):dA (aMg K u t) (fun v=>v=true→tyF t):=by
 refine dA.of ?_
 unfold aMg
 refine bI.call (aHQ hK h) (fun v hv=>?_)
 refine bI.bN (bI.ret (sE.l ?_))
 intro e
 simp only[aM,beq_iff_eq,aC,aB] at e
 rcases e with (e | e) | e
 ·exact .inl (hv e)
 ·exact .inr (.inl e.1.1.1)
 ·exact .inr (.inr ⟨e.1.1,e.1.2,e.2⟩)
theorem aPK {K:Nat} {u:cZ} {t:fL} (hK:100000<K) (h:Sm u):dA (aN5 K u t) (fun v=>v=true→tyV t):=by
 refine dA.of ?_
 unfold aN5
 refine bI.ite (fun e=>?_) (fun e=>?_)
 ·refine bI.cX (by decide) (aHP hK h) (fun v hv=>?_)
  refine bI.cG (fun _=>lR hK h) (fun w hw=>?_)
  refine bI.bW ?_ ?_
  ·by_cases q:v=true
   ·rw[hw q,bR (gT rfl (hv q))];simp
   ·simp only[Bool.not_eq_true] at q;rw[q];rfl
  ·refine bI.cD (bI.bN (bI.ret (sE.l ?_)))
   exact fun _=>.inr (.inl (beq_iff_eq.1 e))
 ·refine bI.call (aHT hK h) (fun v hv=>?_)
  refine bI.bN (bI.ret (sE.l ?_))
  intro e
  simp only[aM,beq_iff_eq,aC,aB] at e
  rcases e with e | e
  ·exact .inl (hv e)
  ·exact .inr (.inr e.1.1)
end Go.Proofs.YtdbfbedholdjaaaGreat

namespace Go.Proofs.YtdbfbedholdjaaaGreat
open Go Go.Dl
variable [dW]
set_option maxRecDepth 100000
set_option maxHeartbeats 8000000
structure Sz8 (d:jG):Prop where
 m:d.bM.length≤6
 f:d.eB.length≤4
 v:d.cU.length≤8
 p:∀ m∈d.bM,m.cV.length≤3∧m.cU.length≤8
theorem aPL {K:Nat} {u:cZ} {d:jG} (hK:100000000<K) (hd:Sz8 d) (h:Sm u):dA (aN0 K u d) (fun v=>v=0→∀ x∈d.cU,tyF x.cQ):=by
 refine dA.of ?_
 unfold aN0
 obtain ⟨d1,d2,d3,d4⟩:=hd
 refine bI.bW (dX (by omega)) (bI.cD ?_)
 refine bI.cP (fun o:List fE=>o.length≤100∧∀ x∈d.cU,x∈o) (bI.bJ (bI.dK ?_)) ?_
 ·refine bI.loop (fun t:List fE × Int=>0≤t.2∧t.2≤d.bM.length∧(t.1.length:Int)≤8+8 * t.2∧∀ x∈d.cU,x∈t.1) (fun t=>(d.bM.length - t.2).toNat) ⟨by simp,by simp,by dsimp only;omega,fun x hx=>hx⟩ (by simp;omega) ?_
  rintro ⟨o,t⟩ ⟨g1,g2,g3,g4⟩
  dsimp only at g1 g2 g3 g4 ⊢
  obtain ⟨n,rfl⟩:=aJ g1
  simp (disch:=omega) only[wr,Int.ofNat_eq_natCast]
  refine bI.bN (bI.ite (fun e1=>?_) (fun e1=>?_))
  ·simp only[aB] at e1
   have hn:n<d.bM.length:=by omega
   have hp:=d4 _ (dQ (d:=default) hn)
   rw[Int.toNat_natCast]
   refine bI.cP (fun v:List fE=>(v.length:Int)≤16+8 * n∧∀ x∈d.cU,x∈v) (bI.bJ (bI.bW (bR (by omega)) (bI.cD ?_))) (fun v hv=>?_)
   ·refine bI.call (aHR (by omega) (by omega) h) (fun _ _=>?_)
    refine bI.ite (fun e2=>?_) (fun e2=>?_)
    ·exact T0
    refine bI.dS (bI.bJ (bI.dK ?_)) (fun _=>?_)
    ·refine bI.l5 (d.bM.getD n default).cV.length (by omega) (fun i hi=>?_) ?_
     ·simp (disch:=omega) only[wr,Int.ofNat_eq_natCast]
      refine bI.bN (bI.eR (by simp only[aB];omega) ?_)
      refine bI.dS (bI.bJ (bI.bW (bR (by omega)) (bI.cD ?_))) (fun _=>by refine bI.ret (sE.r ?_);rfl)
      exact T0
     ·simp (disch:=omega) only[wr,Int.ofNat_eq_natCast]
      refine bI.bN (bI.eQ (by simp) ?_)
      exact T0
    ·refine bI.bN (bI.bW (dX ?_) (bI.cD ?_))
     ·omega
     ·refine bI.ret (sE.r ?_)
      refine ⟨?_,fun x hx=>List.mem_append_left _ (g4 x hx)⟩
      rw[aE];omega
   ·refine bI.ret (sE.r ?_)
    exact ⟨⟨by dsimp only;omega,by dsimp only;omega,by dsimp only;omega,hv.2⟩,by dsimp only;omega⟩
  ·refine bI.ret (sE.l (sE.l ?_))
   simp only[aB] at e1
   exact ⟨by show o.length≤100;omega,g4⟩
 rintro o ⟨ho,hin⟩
 refine bI.cP (fun _=>∀ x∈o,tyF x.cQ) (bI.bJ (bI.dK ?_)) (fun _ hty=>?_)
 ·refine bI.upP o.length (fun i=>tyF (o.getD i default).cQ) (by omega) (fun i hi=>?_) (fun hp=>?_)
  ·simp (disch:=omega) only[wr,Int.ofNat_eq_natCast]
   refine bI.bN (bI.eR (by simp only[aB];omega) ?_)
   rw[Int.toNat_natCast]
   refine bI.cP (fun _=>tyF (o.getD i default).cQ) (bI.bJ (bI.bW (bR (by omega)) (bI.cD ?_))) (fun _ h2=>?_)
   ·refine bI.cX (by decide) (aHT (by omega) h) (fun v hv=>?_)
    refine bI.bW (by rw[bR (by omega)];simp) (bI.cD (bI.bN (bI.ite (fun e2=>?_) (fun e2=>?_))))
    ·exact T0
    ·simp only[aM,not_or,aP,Bool.not_eq_false] at e2
     refine bI.ret (sE.r ?_)
     exact hv e2.1
   ·refine bI.ret (sE.r ?_);exact ⟨rfl,h2⟩
  ·simp (disch:=omega) only[wr,Int.ofNat_eq_natCast]
   refine bI.bN (bI.eQ (by simp) ?_)
   refine bI.ret (sE.l (sE.l ?_))
   exact wY (d:=default) hp
 ·refine bI.dS (bI.bJ (bI.dK ?_)) (fun _=>?_)
  ·refine bI.l5 o.length (by omega) (fun i hi=>?_) ?_
   ·simp (disch:=omega) only[wr,Int.ofNat_eq_natCast]
    refine bI.bN (bI.eR (by simp only[aB];omega) ?_)
    refine bI.dS (bI.bJ (bI.bW (bR (by omega)) (bI.cD ?_))) (fun _=>by refine bI.ret (sE.r ?_);rfl)
    refine bI.call aHS (fun _ _=>?_)
    exact T0
   ·simp (disch:=omega) only[wr,Int.ofNat_eq_natCast]
    refine bI.bN (bI.eQ (by simp) ?_)
    exact T0
  ·refine bI.ret (sE.l ?_)
   exact fun _ x hx=>hty x (hin x hx)
theorem aPM {K:Nat} {u:cZ} {d:Int} (hK:100000000<K) (hk:kd u d=2) (h:Sm u):dA (aN2 K u d) (fun _=>True):=by
 have hd:=gT hk (by decide)
 have yN:=h.aB6 d
 have hul:=h.len
 refine dA.of ?_
 unfold aN2
 refine bI.bW (bR hd) (bI.cD (bI.bN (bI.ite (fun e=>?_) (fun e=>?_))))
 ·exact T0
 refine bI.dS (bI.bJ (bI.dK ?_)) (fun _=>?_)
 ·refine bI.l5 (dc u d).bM.length (by omega) (fun i hi=>?_) ?_
  ·have hi':i<(u.bK.getD d.toNat default).bM.length:=hi
   simp (disch:=omega) only[wr,Int.ofNat_eq_natCast]
   refine bI.bN (bI.eR (by simp only[aB];omega) ?_)
   refine bI.dS (bI.bJ (bI.bW (bR (by omega)) (bI.cD ?_))) (fun _=>by refine bI.ret (sE.r ?_);rfl)
   exact T0
  ·simp (disch:=omega) only[wr,Int.ofNat_eq_natCast]
   refine bI.bN (bI.eQ (by simp) ?_)
   exact T0
 ·refine bI.call (rD (by omega) h) ?_
  rintro _ rfl
  have yM:=nZ u d
  refine bI.dS (bI.bJ (bI.dK ?_)) (fun _=>by exact T0)
  refine bI.loop (fun t:Int=>0≤t∧t≤(chain u d).length) (fun t=>((chain u d).length - t).toNat) ⟨by simp,by simp⟩ (by simp;omega) (fun t ⟨g1,g2⟩=>?_)
  obtain ⟨n,rfl⟩:=aJ g1
  simp (disch:=omega) only[wr,Int.ofNat_eq_natCast]
  refine bI.bN (bI.ite (fun e1=>?_) (fun e1=>by exact T0))
  simp only[aC,aB] at e1
  have hn:n<(chain u d).length:=by omega
  rw[Int.toNat_natCast]
  have hmem:=dQ (d:=default) hn
  generalize hc:(chain u d).getD n default=c at hmem
  have hx:=oM hmem
  have hcm:=h.aB6 c
  refine bI.dS (bI.bJ (bI.bW (bR (by omega)) (bI.cD (bI.bW (bR hx) (bI.cD ?_))))) (fun _=>by refine bI.ret (sE.r ?_);exact ⟨⟨by omega,by omega⟩,by omega⟩)
  refine bI.call (aEh (by omega) hcm) ?_
  rintro _ rfl
  refine bI.dS (bI.bJ (bI.dK ?_)) (fun _=>by exact T0)
  refine bI.l5 ((dc u c).bM.map fun m=>m.cC).length (by rw[List.length_map];omega) (fun i hi=>?_) ?_
  ·rw[List.length_map] at hi
   have hi':i<(u.bK.getD c.toNat default).bM.length:=hi
   simp (disch:=omega) only[wr,Int.ofNat_eq_natCast]
   refine bI.bN (bI.eR (by simp only[aB,List.length_map];omega) ?_)
   refine bI.dS (bI.bJ (bI.bW (bR (by rw[List.length_map];omega)) (bI.cD ?_))) (fun _=>by refine bI.ret (sE.r ?_);rfl)
   rw[Int.toNat_natCast]
   have hnm:((dc u c).bM.map fun m=>m.cC).getD i default=((dc u c).bM.getD i default).cC:=by
    rw[List.getD,bD,aD hi,List.getD,aD hi];rfl
   rw[hnm]
   refine bI.jV (wZ (by omega) (by assumption)) ?_
   have hf:(u7 u d ((dc u c).bM.getD i default).cC).2=true:=by
    refine aAO (c:=c) ?_ (aEi (dQ (d:=default) hi) (beq_self_eq_true _))
    unfold line
    rw[aG (by omega)];exact hmem
   refine bI.call (aAP (aBr hf).1) ?_
   rintro _ rfl
   exact T0
  ·refine bI.bN (bI.eQ (by simp only[aB,Int.ofNat_eq_natCast];exact Int.lt_irrefl _) ?_)
   exact T0
def aFg (a b:hU):Prop:=a.cV.length=b.cV.length∧a.fG=b.fG∧∀ i:Nat,(i:Int)<a.cV.length→(a.cV.getD i default).cQ=(b.cV.getD i default).cQ
def aEj (u:cZ) (d:Int) (m:hU):Prop :=
 (m.aBt=true↔1<(chain u d).length∧(u7 u ((chain u d).getD 1 default) m.cC).2=true) ∧
 (1<(chain u d).length→(u7 u ((chain u d).getD 1 default) m.cC).2=true→aFg m (mof u (u7 u ((chain u d).getD 1 default) m.cC).1))
theorem aPN {K:Nat} {u:cZ} {d:Int} (hK:100000000<K) (hd:0≤d∧d<u.bK.length) (hs:Sz8 (dc u d)) (h:Sm u):dA (aN3 K u d) (fun v=>v=false→∀ m∈(dc u d).bM,aEj u d m):=by
 have yN:=h.aB6 d
 refine dA.of ?_
 unfold aN3
 refine bI.bW (bR hd) (bI.cD ?_)
 refine bI.call (rD (by omega) h) ?_
 rintro _ rfl
 refine bI.cP (fun _=>∀ m∈(dc u d).bM,aEj u d m) (bI.bJ (bI.dK ?_)) (fun _ hq=>by refine bI.ret (sE.l ?_);exact fun _=>hq)
 refine bI.upP (dc u d).bM.length (fun i=>aEj u d ((dc u d).bM.getD i default)) (by omega) (fun i hi=>?_) (fun hp=>?_)
 ·have hi':i<(u.bK.getD d.toNat default).bM.length:=hi
  simp (disch:=omega) only[wr,Int.ofNat_eq_natCast]
  refine bI.bN (bI.eR (by simp only[aB];omega) ?_)
  rw[Int.toNat_natCast]
  have hmp:=hs.p _ (dQ (d:=default) hi)
  have hlp:((dc u d).bM.getD i default).cV.length≤6004:=by omega
  generalize hm:(dc u d).bM.getD i default=m at hlp
  refine bI.cP (fun _=>aEj u d m) (bI.bJ (bI.bW (bR (by omega)) (bI.cD ?_))) (fun _ h2=>by refine bI.ret (sE.r ?_);exact ⟨rfl,h2⟩)
  refine bI.cP (fun v:Bool × hU=>(v.1=true↔1<(chain u d).length∧(u7 u ((chain u d).getD 1 default) m.cC).2=true)∧(v.1=true→v.2=mof u (u7 u ((chain u d).getD 1 default) m.cC).1)) ?_ (fun v hv=>?_)
  ·refine bI.ite (fun e1=>?_) (fun e1=>?_)
   ·simp only[aB,Int.ofNat_eq_natCast] at e1
    refine bI.bW (bR (by omega)) (bI.cD ?_)
    have h1:(1:Int).toNat=1:=rfl
    rw[h1,← hm]
    refine bI.jV (wZ (by omega) (by assumption)) ?_
    rw[hm]
    refine bI.ite (fun e2=>?_) (fun e2=>?_)
    ·refine bI.call (aAP (aBr e2).1) ?_
     rintro _ rfl
     refine bI.ret (sE.r ?_)
     exact ⟨⟨fun _=>⟨by omega,e2⟩,fun _=>rfl⟩,fun _=>rfl⟩
    ·refine bI.ret (sE.r ?_)
     exact ⟨⟨fun q=>(by cases q),fun q=>absurd q.2 e2⟩,fun q=>by cases q⟩
   ·simp only[aB,Int.ofNat_eq_natCast] at e1
    refine bI.ret (sE.r ?_)
    exact ⟨⟨fun q=>(by cases q),fun q=>absurd q.1 (by omega)⟩,fun q=>by cases q⟩
  ·obtain ⟨v1,v2⟩:=hv
   refine bI.bN ?_
   refine bI.cG (fun _=>aHU (by omega) (by omega)) (fun w hw=>?_)
   refine bI.bN (bI.ite (fun e1=>?_) (fun e1=>?_))
   ·exact T0
   ·refine bI.ret (sE.r ?_)
    simp only[aM,not_or,aC,not_and,aP,Bool.not_eq_false,beq_iff_eq] at e1
    obtain ⟨e1,e2⟩:=e1
    refine ⟨by rw[e1];exact v1,fun q1 q2=>?_⟩
    have q:=v1.2 ⟨q1,q2⟩
    have e3:=e2 q
    rw[← v2 q]
    exact hw (by simp only[Bool.not_eq_true] at e3;simp [q,e1,e3.1]) e3.2
 ·simp (disch:=omega) only[wr,Int.ofNat_eq_natCast]
  refine bI.bN (bI.eQ (by simp) ?_)
  refine bI.ret (sE.l (sE.l ?_))
  exact wY (d:=default) hp
end Go.Proofs.YtdbfbedholdjaaaGreat

namespace Go.Proofs.YtdbfbedholdjaaaGreat
open Go Go.Dl
variable [dW]
set_option maxRecDepth 100000
set_option maxHeartbeats 8000000
theorem aPO {u:cZ} {d x:Int} (h:x∈vA u d):0≤x∧x<u.bK.length:=by
 have h1:∀ (l:List Bytes) (out:List Int),(∀ x∈out,0≤x∧x<u.bK.length)→∀ x∈l.foldl (xZ u) out,0≤x∧x<u.bK.length:=by
  intro l
  induction l with
  | nil=>exact fun _ h=>h
  | cons s l ih =>
    intro out ho
    refine ih _ ?_
    unfold xZ
    split
    ·rename_i e
     intro x hx
     rcases aY.1 hx with hx | hx
     ·exact ho x hx
     ·rw[aO.1 hx];exact gT e.1 (by decide)
    ·exact ho
 have h2:∀ (l:List Int) (out:List Int),(∀ x∈out,0≤x∧x<u.bK.length)→∀ x∈l.foldl (fun out c=>(dc u c).eB.foldl (xZ u) out) out,0≤x∧x<u.bK.length:=by
  intro l
  induction l with
  | nil=>exact fun _ h=>h
  | cons c l ih=>exact fun out ho=>ih _ (h1 _ _ ho)
 exact h2 _ _ (fun x hx=>by cases hx) x h
theorem aPP {K:Nat} {u:cZ} {d:Int} (hK:100000000<K) (h:Sm u):dA (aOS K u d) (fun _=>True):=by
 have hul:=h.len
 have hfl:=aFh u d
 refine dA.of ?_
 unfold aOS
 refine bI.call (aHV (by omega) h) ?_
 rintro _ rfl
 refine bI.dS (bI.bJ (bI.dK ?_)) (fun _=>by exact T0)
 refine bI.l5 (vA u d).length (by omega) (fun n hn=>?_) ?_
 ·simp (disch:=omega) only[wr,Int.ofNat_eq_natCast]
  refine bI.bN (bI.eR (by simp only[aB];omega) ?_)
  rw[Int.toNat_natCast]
  have hx:=aPO (dQ (d:=default) hn)
  generalize hc:(vA u d).getD n default=c at hx
  have hcm:=h.aB6 c
  refine bI.dS (bI.bJ (bI.bW (bR (by omega)) (bI.cD (bI.bW (bR hx) (bI.cD ?_))))) (fun _=>by refine bI.ret (sE.r ?_);rfl)
  refine bI.dS (bI.bJ (bI.dK ?_)) (fun _=>by exact T0)
  refine bI.l5 (dc u c).bM.length (by omega) (fun i hi=>?_) ?_
  ·have hi':i<(u.bK.getD c.toNat default).bM.length:=hi
   simp (disch:=omega) only[wr,Int.ofNat_eq_natCast]
   refine bI.bN (bI.eR (by simp only[aB];omega) ?_)
   refine bI.dS (bI.bJ (bI.bW (bR (by omega)) (bI.cD ?_))) (fun _=>by refine bI.ret (sE.r ?_);rfl)
   refine bI.jV (wZ (by omega) (by assumption)) ?_
   refine bI.bW (by rw[bR (by omega)];simp) (bI.cD ?_)
   refine bI.cG (fun e=>aAP (aBr (by simpa using e)).1) (fun v hv=>?_)
   refine bI.cG (fun e=>aHU (by omega) ?_) (fun _ _=>?_)
   ·rw[hv e]
    exact (hU.bounds (h.m _ _)).1
   ·exact T0
  ·simp (disch:=omega) only[wr,Int.ofNat_eq_natCast]
   refine bI.bN (bI.eQ (by simp) ?_)
   exact T0
 ·simp (disch:=omega) only[wr,Int.ofNat_eq_natCast]
  refine bI.bN (bI.eQ (by simp) ?_)
  exact T0
theorem aPQ {K:Nat} {u:cZ} {d k:Int} (hK:100000000<K) (hd:0≤d∧d<u.bK.length) (hk:0≤k∧k<(dc u d).cU.length) (h:Sm u):dA (aN6 K u d k) (fun _=>True):=by
 have hul:=h.len
 refine dA.of ?_
 unfold aN6
 refine bI.dS (bI.bJ (bI.dK ?_)) (fun _=>by exact T0)
 refine bI.loop (fun t:Int=>0≤t∧t≤d+1) (fun t=>(d+1 - t).toNat) ⟨by omega,by omega⟩ (by omega) (fun t ⟨g1,g2⟩=>?_)
 have hv:=h.vars t
 simp (disch:=omega) only[wr,Int.ofNat_eq_natCast]
 refine bI.ite (fun e1=>?_) (fun e1=>by exact T0)
 simp only[aB] at e1
 refine bI.dS (bI.bJ (bI.bW (bR (by omega)) (bI.cD ?_))) (fun _=>by refine bI.ret (sE.r ?_);exact ⟨⟨by omega,by omega⟩,by omega⟩)
 refine bI.dS (bI.bJ (bI.dK ?_)) (fun _=>by exact T0)
 refine bI.loop (fun i:Int=>0≤i∧i≤(dc u t).cU.length) (fun i=>((dc u t).cU.length - i).toNat) ⟨by omega,by omega⟩ (by omega) (fun i ⟨k1,k2⟩=>?_)
 simp (disch:=omega) only[wr,Int.ofNat_eq_natCast]
 refine bI.bN (bI.ite (fun e2=>?_) (fun e2=>by exact T0))
 simp only[aB,aC] at e2
 have hi:i<(dc u t).cU.length:=e2.1.1
 refine bI.dS (bI.bJ (bI.bW (bR ⟨k1,hi⟩) (bI.bW (by rw[bR (n:=(u.bK.getD t.toNat default).cU.length) ⟨k1,hi⟩];simp) (bI.bW (by rw[bR hd];simp) (bI.bW (by rw[bR (n:=(u.bK.getD d.toNat default).cU.length) hk];simp) (bI.cD ?_)))))) (fun _=>by refine bI.ret (sE.r ?_);exact ⟨⟨by omega,by omega⟩,by omega⟩)
 exact T0
def aFi (x:fE):Prop:=tyV x.cQ∧(x.nF≠0→x.cQ.bP=1∨x.cQ.bP=2)∧0≤x.nF∧x.nF≤2
theorem aPR {K:Nat} {u:cZ} {d:Int} (hK:101000000<K) (hd:0≤d∧d<u.bK.length) (h:Sm u):dA (aOe K u d) (fun v=>v=0→∀ x∈(dc u d).cU,aFi x):=by
 have hul:=h.len
 have hv:=h.vars d
 refine dA.of ?_
 unfold aOe
 refine bI.bW (bR hd) (bI.cD ?_)
 refine bI.cP (fun _=>∀ x∈(dc u d).cU,aFi x) (bI.bJ (bI.dK ?_)) (fun _ hq=>?_)
 ·refine bI.upP (dc u d).cU.length (fun i=>aFi ((dc u d).cU.getD i default)) (by omega) (fun i hi=>?_) (fun hp=>?_)
  ·have hi':i<(u.bK.getD d.toNat default).cU.length:=hi
   simp (disch:=omega) only[wr,Int.ofNat_eq_natCast]
   refine bI.bN (bI.eR (by simp only[aB];omega) ?_)
   rw[Int.toNat_natCast]
   refine bI.cP (fun _=>aFi ((dc u d).cU.getD i default)) (bI.bJ (bI.bW (bR (by omega)) (bI.cD ?_))) (fun _ h2=>by refine bI.ret (sE.r ?_);exact ⟨rfl,h2⟩)
   refine bI.call (aPK (by omega) h) (fun v hv=>?_)
   refine bI.bN (bI.ite (fun e2=>?_) (fun e2=>?_))
   ·exact T0
   ·simp only[aM,aC,not_or,not_and,aP,Bool.not_eq_false,aB,bne_iff_ne,ne_eq,Decidable.not_not,Bool.not_eq_true] at e2
    obtain ⟨⟨⟨e3,e4⟩,e5⟩,e6⟩:=e2
    refine bI.ret (sE.r ?_)
    refine ⟨hv e3,fun aJG=>?_,?_,?_⟩
    ·by_cases q:((u.bK.getD d.toNat default).cU.getD i default).cQ.bP=1
     ·exact .inl q
     ·exact .inr (e6 ⟨aJG,q⟩)
    ·show 0≤((u.bK.getD d.toNat default).cU.getD i default).nF
     omega
    ·show ((u.bK.getD d.toNat default).cU.getD i default).nF≤2
     omega
  ·simp (disch:=omega) only[wr,Int.ofNat_eq_natCast]
   refine bI.bN (bI.eQ (by simp only[aB];exact Int.lt_irrefl _) ?_)
   refine bI.ret (sE.l (sE.l ?_))
   exact wY (d:=default) hp
 ·refine bI.dS (bI.bJ (bI.dK ?_)) (fun _=>?_)
  ·refine bI.l5 (dc u d).cU.length (by omega) (fun i hi=>?_) ?_
   ·have hi':i<(u.bK.getD d.toNat default).cU.length:=hi
    simp (disch:=omega) only[wr,Int.ofNat_eq_natCast]
    refine bI.bN (bI.eR (by simp only[aB];omega) ?_)
    refine bI.dS (bI.bJ (bI.bW (bR (by omega)) (bI.cD ?_))) (fun _=>by refine bI.ret (sE.r ?_);rfl)
    refine bI.call aHS (fun _ _=>?_)
    exact T0
   ·simp (disch:=omega) only[wr,Int.ofNat_eq_natCast]
    refine bI.bN (bI.eQ (by simp only[aB];exact Int.lt_irrefl _) ?_)
    exact T0
  ·refine bI.dS (bI.bJ (bI.dK ?_)) (fun _=>?_)
   ·refine bI.l5 (dc u d).cU.length (by omega) (fun i hi=>?_) ?_
    ·have hi':i<(u.bK.getD d.toNat default).cU.length:=hi
     simp (disch:=omega) only[wr,Int.ofNat_eq_natCast]
     refine bI.bN (bI.eR (by simp only[aB];omega) ?_)
     refine bI.dS (bI.bJ (bI.bW (bR (by omega)) (bI.cD (bI.bN ?_)))) (fun _=>by refine bI.ret (sE.r ?_);rfl)
     refine bI.cG (fun _=>aPQ (by omega) hd ⟨by omega,by omega⟩ h) (fun _ _=>?_)
     exact T0
    ·simp (disch:=omega) only[wr,Int.ofNat_eq_natCast]
     refine bI.bN (bI.eQ (by simp only[aB];exact Int.lt_irrefl _) ?_)
     exact T0
   ·refine bI.bN ?_
    refine bI.call (aAN (by omega) (show (dc u d).cU.length≤_ by omega)) (fun v hv2=>?_)
    refine bI.call (rC (by omega) (by rw[hv2];show (dc u d).cU.length≤_;omega)) (fun _ _=>?_)
    refine bI.ite (fun e=>?_) (fun e=>bI.bN ?_)
    ·exact T0
    ·refine bI.call (aHO (by omega) (h.body d) h) (fun _ _=>?_)
     refine bI.ret (sE.l ?_)
     exact fun _=>hq
theorem aPS {K:Nat} {u:cZ} {d:Int} (hK:101000000<K) (hd:0≤d∧d<u.bK.length) (h:Sm u):dA (aOg K u d) (fun _=>True):=by
 have hul:=h.len
 refine dA.of ?_
 unfold aOg
 refine bI.bW (bR hd) (bI.cD (bI.bN ?_))
 refine bI.jV (lR (by omega) (by assumption)) ?_
 refine bI.jV (lS) ?_
 refine bI.bN (bI.dS (bI.bJ (bI.dK ?_)) (fun _=>by exact T0))
 refine bI.loop (fun t:Bool × Int=>0≤t.2∧t.2≤d) (fun t=>(d - t.2).toNat) ⟨by dsimp only;omega,by dsimp only;omega⟩ (by dsimp only;omega) ?_
 rintro ⟨b,t⟩ ⟨g1,g2⟩
 dsimp only at g1 g2 ⊢
 simp (disch:=omega) only[wr,Int.ofNat_eq_natCast]
 refine bI.ite (fun e1=>?_) (fun e1=>by exact T0)
 simp only[aB] at e1
 refine bI.dS (bI.bJ (bI.bW (by rw[bR (by omega)];simp) (bI.bW (by rw[bR (by omega)];simp) (bI.cD ?_)))) (fun _=>by refine bI.ret (sE.r ?_);exact ⟨⟨by dsimp only;omega,by dsimp only;omega⟩,by dsimp only;omega⟩)
 exact T0
structure Cls (u:cZ) (d:Int):Prop where
 base:(dc u d).j6=[]∨(kd u (fnd u (dc u d).j6)=2∧fnd u (dc u d).j6<d)
 vars:∀ x∈(dc u d).cU,tyF x.cQ
 over:∀ m∈(dc u d).bM,aEj u d m
theorem aPT {K:Nat} {u:cZ} {d:Int} (hK:101000000<K) (hk:kd u d=2) (hs:Sz8 (dc u d)) (h:Sm u):dA (aOV K u d) (fun v=>v=0→Cls u d):=by
 have hd:=gT hk (by decide)
 have hul:=h.len
 have yN:=h.aB6 d
 refine dA.of ?_
 unfold aOV
 refine bI.bW (bR hd) (bI.cD (bI.bN ?_))
 refine bI.cP (fun _=>(dc u d).j6=[]∨(kd u (fnd u (dc u d).j6)=2∧fnd u (dc u d).j6<d)) ?_ (fun _ hbase=>?_)
 ·refine bI.ite (fun e=>bI.bN ?_) (fun e=>?_)
  ·refine bI.jV (lR (by omega) (by assumption)) ?_
   refine bI.jV (lS) ?_
   refine bI.bW ?_ (bI.cD (bI.bN (bI.ite (fun e2=>?_) (fun e2=>?_))))
   ·by_cases q:kd u (fnd u (dc u d).j6)=2
    ·rw[bR (gT q (by decide))];simp
    ·have:(kd u (fnd u (dc u d).j6) != 2)=true:=bne_iff_ne.2 q
     rw[this];simp
   ·exact T0
   ·simp only[aM,not_or,bne_iff_ne,ne_eq,Decidable.not_not,aB] at e2
    refine bI.ret (sE.r ?_)
    refine .inr ⟨e2.1.1,?_⟩
    show fnd u (u.bK.getD d.toNat default).j6<d
    omega
  ·simp only[aP,Bool.not_eq_false,beq_iff_eq] at e
   refine bI.ret (sE.r ?_)
   exact .inl e
 have hfl:=hs.f
 refine bI.dS (bI.bJ (bI.dK ?_)) (fun _=>?_)
 ·refine bI.l5 (dc u d).eB.length (by omega) (fun i hi=>?_) ?_
  ·have hi':i<(u.bK.getD d.toNat default).eB.length:=hi
   simp (disch:=omega) only[wr,Int.ofNat_eq_natCast]
   refine bI.bN (bI.eR (by simp only[aB];omega) ?_)
   refine bI.dS (bI.bJ (bI.bW (bR (by omega)) (bI.cD (bI.bN ?_)))) (fun _=>by refine bI.ret (sE.r ?_);rfl)
   refine bI.aJF rfl (lR (by omega) (by assumption)) ?_
   refine bI.cX (by decide) lS ?_
   rintro _ rfl
   exact T0
  ·simp (disch:=omega) only[wr,Int.ofNat_eq_natCast]
   refine bI.bN (bI.eQ (by simp only[aB];exact Int.lt_irrefl _) ?_)
   exact T0
 refine bI.bN (bI.call (rC (by omega) (show (dc u d).eB.length≤_ by omega)) (fun _ _=>?_))
 refine bI.ite (fun e=>by exact T0) (fun e=>?_)
 refine bI.call (aPL (by omega) hs h) (fun v hvars=>?_)
 refine bI.ite (fun e=>?_) (fun e=>?_)
 ·refine bI.ret (sE.l ?_)
  intro q
  exact absurd q (by simpa using e)
 have hvars:=hvars (by simpa using e)
 refine bI.call (aLe (by omega) h) ?_
 rintro _ rfl
 have hfd:=aEk h d
 refine bI.call (aAN (by omega) (by omega)) (fun v hv=>?_)
 refine bI.call (rC (by omega) (by omega)) (fun b1 _=>?_)
 refine bI.cG (fun _=>aEh (by omega) yN) (fun v2 hv2=>?_)
 refine bI.cG (fun e=>rC (by omega) (by rw[hv2 e,List.length_map];exact aV yN (by omega))) (fun b2 _=>?_)
 refine bI.dS (bI.bJ (bI.dK ?_)) (fun _=>?_)
 ·refine bI.loop (fun t:Bool × Int=>0≤t.2∧t.2≤(dc u d).bM.length) (fun t=>((dc u d).bM.length - t.2).toNat) ⟨by dsimp only;omega,by dsimp only;omega⟩ (by dsimp only;omega) ?_
  rintro ⟨b,t⟩ ⟨g1,g2⟩
  dsimp only at g1 g2 ⊢
  simp (disch:=omega) only[wr,Int.ofNat_eq_natCast]
  refine bI.bN (bI.ite (fun e1=>?_) (fun e1=>by exact T0))
  have e1:t<(dc u d).bM.length:=of_decide_eq_true e1
  refine bI.dS (bI.bJ ?_) (fun _=>by refine bI.ret (sE.r ?_);exact ⟨⟨by dsimp only;omega,by dsimp only;omega⟩,by dsimp only;omega⟩)
  refine bI.cG (fun _=>aHW (by omega) h) (fun v3 hv3=>?_)
  refine bI.cG (fun e=>aAN (by omega) (hv3 e)) (fun v4 hv4=>?_)
  refine bI.cG (fun e=>rC (by omega) (by rw[hv4 e];exact hv3 e)) (fun _ _=>?_)
  exact T0
 refine bI.ite (fun e=>by exact T0) (fun e=>?_)
 refine bI.call (aPM (by omega) hk h) (fun _ _=>?_)
 refine bI.ite (fun e=>by exact T0) (fun e=>?_)
 refine bI.call (aPN (by omega) hd hs h) (fun v aPU=>?_)
 refine bI.ite (fun e=>by exact T0) (fun e=>?_)
 have aPU:=aPU (by simpa using e)
 refine bI.call (aPP (by omega) h) (fun _ _=>?_)
 refine bI.ite (fun e=>by exact T0) (fun e=>?_)
 refine bI.dS (bI.bJ (bI.dK ?_)) (fun _=>by refine bI.ret (sE.l ?_);exact fun _=>⟨hbase,hvars,aPU⟩)
 refine bI.l5 (dc u d).bM.length (by omega) (fun i hi=>?_) ?_
 ·have hi':i<(u.bK.getD d.toNat default).bM.length:=hi
  simp (disch:=omega) only[wr,Int.ofNat_eq_natCast]
  refine bI.bN (bI.eR (by simp only[aB];omega) ?_)
  refine bI.dS (bI.bJ (bI.bW (bR (by omega)) (bI.cD (bI.bN (bI.ite (fun e=>?_) (fun e=>?_)))))) (fun _=>by refine bI.ret (sE.r ?_);rfl)
  ·refine bI.ret (sE.l (sE.l ?_));trivial
  ·refine bI.bW (bR (by omega)) (bI.cD (bI.bN ?_))
   have hb:=hU.bounds (h.m d (i:Int).toNat)
   refine bI.cX (by decide) (aHO (by omega) hb.2.2 h) (fun v _=>?_)
   refine bI.ite (fun _=>bI.ret (sE.l (sE.r (sE.r ?_)))) (fun _=>bI.ret (sE.r ?_))
   ·rename_i e2
    intro q
    exact absurd q (by simpa using e2)
   ·trivial
 ·simp (disch:=omega) only[wr,Int.ofNat_eq_natCast]
  refine bI.bN (bI.eQ (by simp only[aB];exact Int.lt_irrefl _) ?_)
  exact T0
end Go.Proofs.YtdbfbedholdjaaaGreat

namespace Go.Proofs.YtdbfbedholdjaaaGreat
open Go Go.Dl
variable [dW]
set_option maxRecDepth 100000
set_option maxHeartbeats 8000000
structure Ok8 (u:cZ) (d:Int):Prop where
 kd:1≤kd u d∧kd u d≤4
 lim:d<12
 sz:Sz8 (dc u d)
 nm:fnd u (dc u d).cC=d
 cls:Go.Proofs.YtdbfbedholdjaaaGreat.kd u d=2→Cls u d
 prg:Go.Proofs.YtdbfbedholdjaaaGreat.kd u d=3→∀ x∈(dc u d).cU,aFi x
theorem aVq {u:cZ} {d:Int} (h:0≤d∧d<u.bK.length):0≤fnd u (dc u d).cC∧fnd u (dc u d).cC≤d:=by
 have h1:(dc u d)∈u.bK:=dQ (by omega)
 have h0:0≤fnd u (dc u d).cC:=aEi h1 (beq_self_eq_true _)
 refine ⟨h0,?_⟩
 unfold fnd ix at h0 ⊢
 split at h0
 ·rename_i e
  rw[aH e]
  refine Classical.byContradiction fun hlt=>?_
  have hlt:d.toNat<u.bK.findIdx (fun x:jG=>x.cC == (dc u d).cC):=by omega
  have:=List.not_of_lt_findIdx hlt
  have hd:u.bK[d.toNat]=dc u d:=by
   rw[dc,List.getD,aD (by omega)];rfl
  rw[hd] at this
  simp at this
 ·omega
theorem aSq {K:Nat} {u:cZ} {d:Int} (hK:101000000<K) (hd:0≤d∧d<u.bK.length) (h:Sm u):dA (F77 K u d) (fun v=>v=0→Ok8 u d):=by
 have yN:=h.aB6 d
 have hkd:kd u d=(dc u d).bP:=by unfold kd;rw[aG (by omega)]
 refine dA.of ?_
 unfold F77
 refine bI.bW (by rw[bR hd];simp) (bI.bW (by rw[bR hd];simp) (bI.cD (bI.bN (bI.ite (fun e=>by exact T0) (fun e=>?_)))))
 simp only[aM,not_or,aB,Int.ofNat_eq_natCast] at e
 obtain ⟨⟨_,e1⟩,e2⟩:=e
 refine bI.bW (bR hd) (bI.cD ?_)
 refine bI.cG (fun _=>aPH (by omega) yN) (fun v hv=>?_)
 refine bI.ite (fun e=>by exact T0) (fun e=>bI.bN ?_)
 simp only[aM,not_or,aB,Bool.not_eq_true] at e
 obtain ⟨e3,e4⟩:=e
 have hsz:=hv (by simp;omega) e4
 have hs:Sz8 (dc u d):=⟨hsz.1,hsz.2.1,hsz.2.2.1,hsz.2.2.2⟩
 refine bI.jV (lR (by omega) (by assumption)) ?_
 refine bI.ite (fun e=>by exact T0) (fun e=>bI.bN ?_)
 simp only[aB] at e
 have hn:fnd u (dc u d).cC=d:=by
  have h1:=(aVq hd).2
  have h2:¬ fnd u (dc u d).cC<d:=e
  omega
 have hk:1≤kd u d∧kd u d≤4:=by
  rw[hkd]
  constructor
  ·show 1≤(u.bK.getD d.toNat default).bP;omega
  ·show (u.bK.getD d.toNat default).bP≤4;omega
 change bI (bL (bJ (if (((dc u d).bP:Int) == 1)=true then _ else if (((dc u d).bP:Int) == 2)=true then _ else if (((dc u d).bP:Int) == 3)=true then _ else _)) _) _
 refine bI.cP (fun _=>kd u d≠2∧kd u d≠3) (bI.bJ ?_) (fun _ hq=>?_)
 ·refine bI.ite (fun e=>?_) (fun e=>?_)
  ·have e:=beq_iff_eq.1 e
   rw[← hkd] at e
   refine bI.call (aPJ (by omega) yN (fun m hm=>by have:=(hs.p m hm).1;omega) h) (fun _ _=>?_)
   refine bI.ret (sE.l (sE.r ?_))
   exact fun _=>⟨hk,by omega,hs,hn,fun q=>by omega,fun q=>by omega⟩
  refine bI.ite (fun e'=>?_) (fun e'=>?_)
  ·have e:=beq_iff_eq.1 e'
   rw[← hkd] at e
   refine bI.call (aPT (by omega) e hs h) (fun v hv=>?_)
   refine bI.ret (sE.l (sE.r ?_))
   exact fun q=>⟨hk,by omega,hs,hn,fun _=>hv q,fun q=>by omega⟩
  refine bI.ite (fun e''=>?_) (fun e''=>?_)
  ·have e:=beq_iff_eq.1 e''
   rw[← hkd] at e
   refine bI.call (aPR (by omega) hd h) (fun v hv=>?_)
   refine bI.ret (sE.l (sE.r ?_))
   exact fun q=>⟨hk,by omega,hs,hn,fun q=>by omega,fun _=>hv q⟩
  ·simp only[beq_iff_eq] at e' e''
   refine bI.ret (sE.r ?_)
   exact ⟨by rw[hkd];exact e',by rw[hkd];exact e''⟩
 ·refine bI.call (aPS (by omega) hd h) (fun v hv=>?_)
  refine bI.ret (sE.l ?_)
  exact fun _=>⟨hk,by omega,hs,hn,fun q=>absurd q hq.1,fun q=>absurd q hq.2⟩
def Wf (u:cZ):Prop:=∀ d:Int,0≤d∧d<u.bK.length→Ok8 u d
theorem aSr {K:Nat} {u:cZ} (hK:101000000<K) (h:Sm u):dA (F34 K u) (fun v=>(v=[]→Wf u)∧v.length≤6004∧∀ w∈v,0≤w.zK∧w.zK<u.bK.length):=by
 have hul:=h.len
 refine dA.of ?_
 unfold F34
 refine bI.cP (fun v:List nV=>(v=[]→Wf u)∧v.length≤6004∧∀ w∈v,0≤w.zK∧w.zK<u.bK.length) (bI.bJ (bI.dK ?_)) (fun v hv=>by refine bI.ret (sE.l ?_);exact hv)
 refine bI.loop (fun t:List nV × Int=>0≤t.2∧t.2≤u.bK.length∧(t.1=[]→∀ d:Int,0≤d∧d<t.2→Ok8 u d)∧(t.1.length:Int)≤t.2∧∀ w∈t.1,0≤w.zK∧w.zK<u.bK.length) (fun t=>(u.bK.length - t.2).toNat) ⟨by simp,by simp,fun _ d hd=>by simp only at hd;omega,by simp,fun w hw=>by cases hw⟩ (by simp;omega) ?_
 rintro ⟨o,t⟩ ⟨g1,g2,g3,g4,g5⟩
 dsimp only at g1 g2 g3 g4 g5 ⊢
 simp (disch:=omega) only[wr,Int.ofNat_eq_natCast]
 refine bI.bN (bI.ite (fun e1=>?_) (fun e1=>?_))
 ·simp only[aB] at e1
  refine bI.cP (fun o2:List nV=>(o2=[]→∀ d:Int,0≤d∧d<t+1→Ok8 u d)∧(o2.length:Int)≤t+1∧∀ w∈o2,0≤w.zK∧w.zK<u.bK.length) (bI.bJ ?_) (fun o2 ho=>?_)
  ·refine bI.call (aSq hK ⟨g1,e1⟩ h) (fun v hv=>?_)
   refine bI.ite (fun e2=>bI.bW (dX ?_) (bI.cD ?_)) (fun e2=>?_)
   ·show (o.length+1) * 16≤_
    omega
   ·refine bI.ret (sE.r ?_)
    refine ⟨fun q=>?_,?_,?_⟩
    ·exact absurd q (by simp)
    ·rw[aE,List.length_singleton];omega
    ·intro w hw
     rcases aY.1 hw with hw | hw
     ·exact g5 w hw
     ·rw[aO.1 hw];exact ⟨g1,e1⟩
   ·have hv:=hv (by simpa using e2)
    refine bI.ret (sE.r ?_)
    refine ⟨fun q d hd=>?_,by omega,g5⟩
    by_cases hdt:d=t
    ·subst hdt;exact hv
    ·exact g3 q d (by omega)
  ·refine bI.ret (sE.r ?_)
   exact ⟨⟨by dsimp only;omega,by dsimp only;omega,ho.1,ho.2.1,ho.2.2⟩,by dsimp only;omega⟩
 ·simp only[aB] at e1
  refine bI.ret (sE.l (sE.l ?_))
  refine ⟨fun q d hd=>g3 q d (by omega),?_,g5⟩
  show o.length≤_
  omega
end Go.Proofs.YtdbfbedholdjaaaGreat
