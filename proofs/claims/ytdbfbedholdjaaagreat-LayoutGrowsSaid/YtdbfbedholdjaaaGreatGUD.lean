/- No conditions. -/
import Derived.Test.YtdbfbedholdjaaaGreatGUC
import Derived.Test.YtdbfbedholdjaaaGreatGLE
import Derived.Test.YtdbfbedholdjaaaGreatGLL
set_option linter.unusedVariables false
set_option linter.unusedSimpArgs false
set_option linter.unusedSectionVars false
namespace Go.Proofs.YtdbfbedholdjaaaGreat
open Go Go.Dl
variable [dK]
set_option maxRecDepth 100000
set_option maxHeartbeats 8000000
theorem aPD {K:Nat} {u:cM} {w:dR} {e:cI} (hK:40100000<K) (he:e.sz≤6004) (h:Sm u):cR (aIv K u w e) (fun _=>True):=by
 refine cR.of ?_
 unfold aIv
 refine bL.call (aCU hK he h) (fun _ _=>?_)
 exact T0
theorem cG.szq (s:cG):s.sz=1+cI.hG s.cT+oN s.eT+cG.j9 s.bY:=by cases s;rw[cG.sz]
theorem aIY:∀ {l:List cG} {x:cG},x∈l→x.sz≤cG.hG l
 | y::r,x,h=>by
   rw[cG.hG]
   rcases bA.1 h with rfl | h
   ·omega
   ·have:=aIY h;omega
theorem yR:∀ {l:List (List cG)} {x:List cG},x∈l→cG.hG x+1≤cG.j9 l
 | y::r,x,h=>by
   rw[cG.j9]
   rcases bA.1 h with rfl | h
   ·omega
   ·have:=yR h;omega
theorem aG9:∀ {l:List (List Int)} {x:List Int},x∈l→x.length≤oN l
 | y::r,x,h=>by
   rw[oN]
   rcases bA.1 h with rfl | h
   ·omega
   ·have:=aG9 h;omega
theorem aPF {K:Nat} {u:cM} {w:dR} {s:cG} (hK:40100000<K) (hs:s.sz≤6004) (h:Sm u) (hw:Plc u w):cR (aNL K u w s) (fun _=>True):=by
 refine cR.of ?_
 unfold aNL
 have hq:=s.szq
 have hl:=mN s.cT
 refine bL.dI ?_ (fun p=>?_)
 ·refine bL.ite (fun e=>?_) (fun e=>?_)
  ·simp only[aB] at e
   have hv:Vw u w:=by
    rcases hw with hw | hw
    ·exact hw.2
    ·omega
   refine bL.bW (bT hv.1) (bL.bW (bT hv.2) (bL.bX ?_))
   exact T0
  ·exact T0
 ·refine bL.ite (fun e=>?_) (fun e=>?_)
  ·exact T0
  ·simp only[beq_iff_eq,Int.ofNat_eq_natCast] at e
   have hm:=nT (c9 (d:=default) (show (0:Int).toNat<s.cT.length by simp;omega))
   refine bL.bW (bT (by omega)) (bL.bX ?_)
   refine bL.call (aCU hK (by omega) h) (fun _ _=>?_)
   refine bL.ite (fun e=>?_) (fun e=>?_)
   ·exact T0
   refine bL.dA (fun _=>aCV (by omega) h) (fun _ _=>?_)
   exact T0
structure Shp (s:cG):Prop where
 k1:s.bR=1∨s.bR=3∨s.bR=4→s.cT.length=1
 k2:s.bR=2∨s.bR=11→s.cT.length=2
 k5:s.bR=5→1≤s.cT.length∧s.bY.length=s.cT.length+1
 k6:s.bR=6→s.cT.length=1
 k7:s.bR=7→s.cT.length=1∧s.bY.length=1
 k8:s.bR=8→s.cT.length=2∧s.bY.length=1
theorem aPG {K:Nat} {s:cG} (hK:100000<K) (hs:s.sz≤7000):cR (aNM K s) (fun v=>v=true→Shp s):=by
 refine cR.of ?_
 unfold aNM
 have hq:=s.szq
 have hl:=mN s.cT
 have hb:=aCW s.eT
 refine bL.ite (fun e=>?_) (fun e=>?_)
 ·refine bL.dI (bL.bN (bL.c7 ?_)) (fun _=>?_)
  ·refine bL.loop (fun t:Int=>0≤t∧t≤s.eT.length) (fun t=>(s.eT.length - t).toNat) ⟨by simp,by simp⟩ (by simp;omega) (fun t ⟨h1,h2⟩=>?_)
   simp (disch:=omega) only[wr,Int.ofNat_eq_natCast]
   refine bL.bO (bL.ite (fun e6=>?_) (fun e6=>?_))
   ·simp only[aB] at e6
    refine bL.dI (bL.bN (bL.bW (bT (by omega)) (bL.bX (bL.bO (bL.ite (fun e7=>?_) (fun e7=>?_)))))) (fun _=>?_)
    ·exact T0
    ·exact T0
    ·refine bL.ret (sE.r ?_)
     exact ⟨⟨by omega,by omega⟩,by omega⟩
   ·exact T0
  ·refine bL.bO ?_
   simp (disch:=omega) only[wr,Int.ofNat_eq_natCast]
   refine bL.ret (sE.l ?_)
   intro h
   simp only[beq_iff_eq,aC] at e h
   constructor <;> omega
 ·refine bL.bO (bL.ite (fun e=>?_) (fun e=>?_))
  ·exact T0
  simp (disch:=omega) only[wr,Int.ofNat_eq_natCast]
  refine bL.dI (bL.bN ?_) (fun _=>by exact T0)
  refine bL.bZ (fun b=>b=true↔s.bR=1∨s.bR=3) ?_ (fun b hb1=>?_)
  ·refine bL.ite (fun _=>bL.ret (sE.r ?_)) (fun _=>bL.ret (sE.r ?_))
   all_goals simp only[beq_iff_eq] at *
   all_goals omega
  refine bL.ite (fun e1=>?_) (fun e1=>?_)
  ·have hk:=hb1.1 e1
   refine bL.bO (bL.ret (sE.l (sE.r ?_)))
   intro h
   simp only[beq_iff_eq,aC] at h
   constructor <;> omega
  have hn1:¬ (s.bR=1∨s.bR=3):=fun q=>e1 (hb1.2 q)
  refine bL.bZ (fun b=>b=true↔s.bR=2∨s.bR=11) ?_ (fun b hb1=>?_)
  ·refine bL.ite (fun _=>bL.ret (sE.r ?_)) (fun _=>bL.ret (sE.r ?_))
   all_goals simp only[beq_iff_eq] at *
   all_goals omega
  refine bL.ite (fun e1=>?_) (fun e1=>?_)
  ·have hk:=hb1.1 e1
   refine bL.bO (bL.ret (sE.l (sE.r ?_)))
   intro h
   simp only[beq_iff_eq,aC] at h
   constructor <;> omega
  have hn2:¬ (s.bR=2∨s.bR=11):=fun q=>e1 (hb1.2 q)
  refine bL.ite (fun e1=>?_) (fun e1=>?_)
  ·refine bL.bO (bL.bW ?_ ?_)
   ·by_cases q:s.cT.length=1
    ·rw[bT (by omega)];simp
    ·have:(((s.cT.length:Int) == 1)=false):=beq_eq_false_iff_ne.2 (by omega)
     rw[this];rfl
   ·refine bL.bX (bL.bO (bL.ret (sE.l (sE.r ?_))))
    intro h
    simp only[beq_iff_eq,aC] at h e1
    constructor <;> omega
  refine bL.ite (fun _=>bL.bO (bL.ret (sE.l (sE.r ?_)))) (fun _=>bL.ite (fun _=>bL.bO (bL.ret (sE.l (sE.r ?_)))) (fun _=>bL.ite (fun _=>bL.bO (bL.ret (sE.l (sE.r ?_)))) (fun _=>bL.ite (fun _=>bL.bO (bL.ret (sE.l (sE.r ?_)))) (fun _=>bL.ite (fun _=>bL.bO (bL.ret (sE.l (sE.r ?_)))) (fun _=>bL.ret (sE.r ?_))))))
  all_goals try trivial
  all_goals
   intro h
   simp only[beq_iff_eq,aC,aB] at *
   constructor <;> omega
theorem bL.kS {A:Type} {K:Nat} {f:Int→Option (A ⊕ Int)} {p:A→Prop} (n:Nat) (hK:n<K) (hs:∀ i:Nat,i<n→bL (f i) (sE p (fun t=>t=(i:Int)+1))) (he:bL (f n) (sE p (fun _=>False))):bL (iter K f 0) p :=
 bL.up n hK (fun i hi=>(hs i hi).yQ (by rintro (a | t) h;exact h;exact ⟨h,trivial⟩)) he
theorem st7:∀ k:Nat,(∀ (u:cM) (w:dR) (l:List cG) (b:Bool),Sm u→Plc u w→cG.hG l≤6004→3 * cG.hG l+100000002<k→cR (xT k u w l b) (fun _=>True)) ∧
 (∀ (u:cM) (w:dR) (s:cG) (b:Bool),Sm u→Plc u w→s.sz≤6004→3 * s.sz+100000001<k→cR (aLl k u w s b) (fun _=>True)) ∧
 (∀ (u:cM) (w:dR) (s:cG),Sm u→Plc u w→s.sz≤6004→Shp s→s.bR=1∨s.bR=2∨s.bR=3∨s.bR=8∨s.bR=11→3 * s.sz+100000000<k→cR (aLm k u w s) (fun _=>True)) ∧
 (∀ (u:cM) (w:dR) (s:cG) (b:Bool),Sm u→Plc u w→s.sz≤6004→Shp s→s.bR=6→3 * s.sz+100000000<k→cR (aLn k u w s b) (fun _=>True))
 | 0=>⟨fun _ _ _ _ _ _ _ h=>by omega,fun _ _ _ _ _ _ _ h=>by omega,fun _ _ _ _ _ _ _ _ h=>by omega,fun _ _ _ _ _ _ _ _ _ h=>by omega⟩
 | k+1=>by
   obtain ⟨ih1,ih2,ih3,ih4⟩:=st7 k
   refine ⟨fun u w l b h hp hz hk=>?_,fun u w s b h hp hz hk=>?_,fun u w s h hp hz hs hq hk=>?_,fun u w s b h hp hz hs hq hk=>?_⟩
   ·refine cR.of ?_
    rw[xT]
    have hl:=aIZ l
    refine bL.dI (bL.bN (bL.c7 ?_)) (fun _=>by exact T0)
    refine bL.kS l.length (by omega) (fun i hi=>?_) ?_
    ·simp (disch:=omega) only[wr,Int.ofNat_eq_natCast]
     refine bL.bO (bL.dV (by simp only[aB];omega) ?_)
     refine bL.dI (bL.bN (bL.bW (bT (by omega)) (bL.bX ?_))) (fun _=>?_)
     ·rw[Int.toNat_natCast]
      have hm:=aIY (c9 (d:=default) hi)
      refine bL.cJ (by decide) (ih2 u w _ b h hp (by omega) (by omega)) (fun _ _=>?_)
      exact T0
     ·refine bL.ret (sE.r ?_);rfl
    ·simp (disch:=omega) only[wr,Int.ofNat_eq_natCast]
     refine bL.bO (bL.dN (by simp) ?_)
     exact T0
   ·refine cR.of ?_
    rw[aLl]
    have hsz:=s.szq
    have hl:=mN s.cT
    have hbl:=aBu s.bY
    refine bL.call (aPG (by omega) (by omega)) (fun v hv=>?_)
    refine bL.ite (fun e=>?_) (fun e=>?_)
    ·exact T0
    have hs:=hv (by simpa using e)
    have hblk:∀ (i:Nat) (b:Bool),i<s.bY.length→cR (xT k u w (s.bY.getD i default) b) (fun _=>True):=fun i b hi=>by
     have:=yR (c9 (d:=default) hi)
     exact ih1 u w _ b h hp (by omega) (by omega)
    have hex:∀ i:Nat,i<s.cT.length→cR (aIv k u w (s.cT.getD i default)) (fun _=>True):=fun i hi=>by
     have:=nT (c9 (d:=default) hi)
     exact aPD (by omega) (by omega) h
    refine bL.dI (bL.bN ?_) (fun _=>by exact T0)
    refine bL.bZ (fun b=>b=true→s.bR=1∨s.bR=2∨s.bR=3∨s.bR=8∨s.bR=11) ?_ (fun bb hb1=>?_)
    ·refine bL.ite (fun _=>bL.ret (sE.r ?_)) (fun _=>bL.ite (fun _=>bL.ret (sE.r ?_)) (fun _=>bL.ite (fun _=>bL.ret (sE.r ?_)) (fun _=>bL.ite (fun _=>bL.ret (sE.r ?_)) (fun _=>bL.ret (sE.r ?_)))))
     all_goals simp only[beq_iff_eq] at *
     all_goals omega
    refine bL.ite (fun e1=>?_) (fun e1=>?_)
    ·refine bL.call (ih3 u w s h hp hz hs (hb1 e1) (by omega)) (fun _ _=>?_)
     exact T0
    refine bL.ite (fun e1=>?_) (fun e1=>?_)
    ·have h1:=hs.k1 (.inr (.inr (beq_iff_eq.1 e1)))
     have hm:=nT (c9 (d:=default) (show (0:Int).toNat<s.cT.length by simp;omega))
     refine bL.bW (bT (by omega)) (bL.bX ?_)
     refine bL.call (aPH (by omega) (by omega) h) (fun _ _=>?_)
     exact T0
    refine bL.ite (fun e1=>?_) (fun e1=>?_)
    ·have h1:=hs.k5 (beq_iff_eq.1 e1)
     refine bL.dI (bL.bN (bL.c7 ?_)) (fun _=>?_)
     ·refine bL.kS s.cT.length (by omega) (fun i hi=>?_) ?_
      ·simp (disch:=omega) only[wr,Int.ofNat_eq_natCast]
       refine bL.bO (bL.dV (by simp only[aB];omega) ?_)
       refine bL.dI (bL.bN (bL.bW (bT (by omega)) (bL.bX ?_))) (fun _=>?_)
       ·rw[Int.toNat_natCast]
        refine bL.cJ (by decide) (hex i hi) (fun _ _=>?_)
        refine bL.ite (fun e2=>?_) (fun e2=>?_)
        ·exact T0
        refine bL.bW (bT (by omega)) (bL.bX ?_)
        refine bL.cJ (by decide) (hblk i b (by omega)) (fun _ _=>?_)
        exact T0
       ·refine bL.ret (sE.r ?_);rfl
      ·simp (disch:=omega) only[wr,Int.ofNat_eq_natCast]
       refine bL.bO (bL.dN (by simp) ?_)
       exact T0
     ·refine bL.bW (bT (by simp only[Int.ofNat_eq_natCast];omega)) (bL.bX (bL.bO ?_))
      refine bL.cJ (by decide) (hblk s.cT.length b (by omega)) (fun _ _=>?_)
      exact T0
    refine bL.ite (fun e1=>?_) (fun e1=>?_)
    ·refine bL.call (ih4 u w s b h hp hz hs (beq_iff_eq.1 e1) (by omega)) (fun _ _=>?_)
     exact T0
    refine bL.ite (fun e1=>?_) (fun e1=>?_)
    ·have h1:=hs.k7 (beq_iff_eq.1 e1)
     refine bL.bW (bT (by omega)) (bL.bX ?_)
     refine bL.cJ (by decide) (hex _ (by simp;omega)) (fun _ _=>?_)
     refine bL.ite (fun e2=>?_) (fun e2=>?_)
     ·exact T0
     refine bL.bW (bT (by omega)) (bL.bX ?_)
     refine bL.cJ (by decide) (hblk _ _ (by simp;omega)) (fun _ _=>?_)
     exact T0
    refine bL.ite (fun e1=>?_) (fun e1=>?_)
    ·refine bL.call (aPF (by omega) hz h hp) (fun _ _=>?_)
     exact T0
    ·exact T0
   ·refine cR.of ?_
    rw[aLm]
    have hsz:=s.szq
    have hl:=mN s.cT
    refine bL.call (aCX (by omega) h) (fun r1 _=>?_)
    refine bL.ite (fun e=>?_) (fun e=>?_)
    ·exact T0
    have a1:=hs.k1
    have a2:=hs.k2
    have a8:=hs.k8
    refine bL.bZ (fun v:Bool × Int=>v.2=s.cT.length) (bL.bN ?_) ?_
    ·refine bL.ite (fun _=>bL.ret (sE.r ?_)) (fun _=>bL.ite (fun _=>bL.ret (sE.r ?_)) (fun _=>bL.ite (fun _=>bL.ret (sE.r ?_)) (fun _=>bL.ite (fun _=>bL.bO (bL.ret (sE.r ?_))) (fun _=>bL.ite (fun _=>bL.ret (sE.r ?_)) (fun _=>bL.ret (sE.r ?_))))))
     all_goals try trivial
     all_goals simp only[beq_iff_eq] at *
     all_goals omega
    rintro ⟨b,n⟩ hn
    dsimp only at hn ⊢
    refine bL.ite (fun e=>?_) (fun e=>?_)
    ·exact T0
    refine bL.bW ?_ (bL.bX ?_)
    ·simp only[c5,aC,aB];omega
    have hsub:=aKk s.cT (0:Int).toNat (n.toNat - (0:Int).toNat)
    refine bL.call (aPI (by omega) (by omega) h) (fun r5 hr=>?_)
    refine bL.ite (fun e=>?_) (fun e=>?_)
    ·exact T0
    have hr':=hr (by simpa using e)
    rw[aS,bK] at hr'
    have hlen:r5.1.length=s.cT.length:=by
     rw[hr',hn];simp
    refine bL.dI (bL.bN ?_) (fun b2=>?_)
    ·refine bL.ite (fun e=>?_) (fun e=>?_)
     ·have:=a1 (.inl (beq_iff_eq.1 e))
      refine bL.bW (bT (by omega)) (bL.bX ?_)
      refine bL.cJ (by decide) (aCV (by omega) h) (fun _ _=>?_)
      exact T0
     refine bL.ite (fun e=>?_) (fun e=>?_)
     ·have:=a1 (.inr (.inl (beq_iff_eq.1 e)))
      refine bL.bW (bT (by omega)) ?_
      exact T0
     have hex:r5.1.length=2:=by
      simp only[beq_iff_eq] at *
      rcases hq with q | q | q | q | q
      ·omega
      ·have:=a2 (.inl q);omega
      ·omega
      ·have:=a8 q;omega
      ·have:=a2 (.inr q);omega
     refine bL.ite (fun e=>?_) (fun e=>?_)
     ·refine bL.bW (bT (by omega)) (bL.bW (by rw[bT (by omega)];simp) ?_)
      exact T0
     ·refine bL.bW (bT (by omega)) (bL.bW (by rw[bT (by omega)];simp) ?_)
      exact T0
    ·refine bL.ite (fun e=>?_) (fun e=>?_)
     ·exact T0
     refine bL.ite (fun e=>?_) (fun e=>?_)
     ·have h8:=a8 (beq_iff_eq.1 e)
      have hm:=yR (c9 (d:=default) (show (0:Int).toNat<s.bY.length by simp;omega))
      refine bL.bW (bT (by omega)) (bL.bX ?_)
      refine bL.cJ (by decide) (ih1 u w _ _ h hp (by omega) (by omega)) (fun _ _=>?_)
      exact T0
     ·exact T0
   ·refine cR.of ?_
    rw[aLn]
    have hsz:=s.szq
    have hl:=mN s.cT
    have hbl:=aBu s.bY
    have a5w:=aCW s.eT
    have h6:=hs.k6 hq
    have hm:=nT (c9 (d:=default) (show (0:Int).toNat<s.cT.length by simp;omega))
    refine bL.bW (bT (by omega)) (bL.bX ?_)
    refine bL.call (aCU (by omega) (by omega) h) (fun _ _=>?_)
    refine bL.ite (fun e=>?_) (fun e=>?_)
    ·exact T0
    refine bL.ite (fun e=>?_) (fun e=>?_)
    ·exact T0
    refine bL.dI (bL.bN (bL.c7 ?_)) (fun _=>?_)
    ·refine bL.loop (fun t:List Int × Int=>0≤t.2∧t.2≤s.eT.length∧(t.1.length:Int)≤7000 * t.2) (fun t=>(s.eT.length - t.2).toNat) ⟨by simp,by simp,by simp⟩ (by simp;omega) ?_
     rintro ⟨out,t⟩ ⟨g1,g2,g3⟩
     dsimp only at g1 g2 g3 ⊢
     obtain ⟨n,rfl⟩:=aK g1
     simp (disch:=omega) only[wr,Int.ofNat_eq_natCast]
     refine bL.bO (bL.ite (fun e1=>?_) (fun e1=>?_))
     ·simp only[aB] at e1
      have wJ:=aG9 (c9 (d:=default) (show n<s.eT.length by omega))
      refine bL.bZ (fun o:List Int=>(o.length:Int)≤7000 * n+7000) (bL.bN ?_) ?_
      ·refine bL.bZ (fun o:List Int=>(o.length:Int)≤7000 * n+7000) (bL.bN (bL.c7 ?_)) (fun o ho=>by refine bL.ret (sE.r ?_);exact ho)
       refine bL.loop (fun t:List Int × Int=>0≤t.2∧t.2≤(s.eT.getD n default).length∧(t.1.length:Int)≤7000 * n+t.2) (fun t=>((s.eT.getD n default).length - t.2).toNat) ⟨by simp,by dsimp only;omega,by dsimp only;omega⟩ (by dsimp only;omega) ?_
       rintro ⟨o2,t2⟩ ⟨k1,k2,k3⟩
       dsimp only at k1 k2 k3 ⊢
       rw[Int.toNat_natCast]
       refine bL.bW (bT (by omega)) (bL.bX ?_)
       simp (disch:=omega) only[wr,Int.ofNat_eq_natCast]
       refine bL.bO (bL.ite (fun e2=>?_) (fun e2=>?_))
       ·simp only[aB] at e2
        refine bL.bZ (fun o:List Int=>(o.length:Int)≤7000 * n+t2+1) (bL.bN ?_) ?_
        ·refine bL.bW (bT (by omega)) (bL.bW (bT (by omega)) (bL.bX (bL.bO ?_)))
         refine bL.dI (bL.bN (bL.c7 ?_)) (fun _=>?_)
         ·refine bL.kS o2.length (by omega) (fun i hi=>?_) ?_
          ·simp (disch:=omega) only[wr,Int.ofNat_eq_natCast]
           refine bL.bO (bL.dV (by simp only[aB];omega) ?_)
           refine bL.dI (bL.bN (bL.bW (bT (by omega)) (bL.bX ?_))) (fun _=>?_)
           ·exact T0
           ·refine bL.ret (sE.r ?_);rfl
          ·simp (disch:=omega) only[wr,Int.ofNat_eq_natCast]
           refine bL.bO (bL.dN (by simp) ?_)
           exact T0
         ·refine bL.bO (bL.ite (fun e3=>?_) (fun e3=>?_))
          ·exact T0
          ·refine bL.bW (cP ?_) (bL.bX ?_)
           ·simp only[List.length_singleton];omega
           ·refine bL.ret (sE.r ?_)
            rw[aD,List.length_singleton];omega
        ·intro o ho
         refine bL.ret (sE.r ?_)
         exact ⟨⟨by dsimp only;omega,by dsimp only;omega,by dsimp only;omega⟩,by dsimp only;omega⟩
       ·simp only[aB] at e2
        refine bL.ret (sE.l (sE.l ?_))
        show (o2.length:Int)≤_
        omega
      ·intro o ho
       refine bL.ret (sE.r ?_)
       exact ⟨⟨by dsimp only;omega,by dsimp only;omega,by dsimp only;omega⟩,by dsimp only;omega⟩
     ·exact T0
    ·refine bL.dI (bL.bN (bL.c7 ?_)) (fun _=>by exact T0)
     refine bL.kS s.bY.length (by omega) (fun i hi=>?_) ?_
     ·simp (disch:=omega) only[wr,Int.ofNat_eq_natCast]
      refine bL.bO (bL.dV (by simp only[aB];omega) ?_)
      refine bL.dI (bL.bN (bL.bW (bT (by omega)) (bL.bX (bL.bO ?_)))) (fun _=>?_)
      ·rw[Int.toNat_natCast]
       have hm:=yR (c9 (d:=default) hi)
       refine bL.cJ (by decide) (ih1 u w _ b h hp (by omega) (by omega)) (fun _ _=>?_)
       exact T0
      ·refine bL.ret (sE.r ?_);rfl
     ·simp (disch:=omega) only[wr,Int.ofNat_eq_natCast]
      refine bL.bO (bL.dN (by simp) ?_)
      exact T0
theorem aHa {K:Nat} {u:cM} {w:dR} {l:List cG} (hK:100100000<K) (hl:cG.hG l≤6004) (h:Sm u):cR (aLo K u w l) (fun _=>True):=by
 refine cR.of ?_
 unfold aLo
 refine bL.call yS (fun v hv=>?_)
 refine bL.ite (fun e=>?_) (fun e=>?_)
 ·exact T0
 refine bL.call ((st7 K).1 u w l false h (hv (by simpa using e)) hl (by omega)) (fun _ _=>?_)
 exact T0
end Go.Proofs.YtdbfbedholdjaaaGreat

namespace Go.Proofs.YtdbfbedholdjaaaGreat
open Go Go.Dl
variable [dK]
set_option maxRecDepth 100000
set_option maxHeartbeats 8000000
theorem eP {α:Type} {l:List α} {n:Nat} (z:α) (h:n<l.length):l.take (n+1)=l.take n++[l.getD n z]:=by
 rw[List.getD,aE h,Option.getD_some,List.take_add_one,aE h];rfl
theorem aPJ {K:Nat} {d:gX} (hK:100000<K) (h:d.bQ.length≤6004):cR (aNy K d) (fun v=>v=false→d.bQ.length≤6∧d.cK.length≤4∧d.cH.length≤8∧∀ m∈d.bQ,m.cN.length≤3∧m.cH.length≤8):=by
 refine cR.of ?_
 unfold aNy
 refine bL.bO (bL.ite (fun e=>?_) (fun e=>?_))
 ·exact T0
 simp only[aO,aB,not_or,Int.ofNat_eq_natCast] at e
 refine bL.bZ (fun _=>∀ m∈d.bQ,m.cN.length≤3∧m.cH.length≤8) (bL.bN (bL.c7 ?_)) (fun _ h1=>?_)
 ·refine bL.upP d.bQ.length (fun i=>(d.bQ.getD i default).cN.length≤3∧(d.bQ.getD i default).cH.length≤8) (by omega) (fun i hi=>?_) (fun hp=>?_)
  ·simp (disch:=omega) only[wr,Int.ofNat_eq_natCast]
   refine bL.bO (bL.dV (by simp only[aB];omega) ?_)
   rw[Int.toNat_natCast]
   refine bL.bZ (fun _=>(d.bQ.getD i default).cN.length≤3∧(d.bQ.getD i default).cH.length≤8) (bL.bN (bL.bW (bT (by omega)) (bL.bW (by rw[bT (by omega)];simp) (bL.bX (bL.bO (bL.ite (fun e2=>?_) (fun e2=>?_))))))) (fun _ h2=>?_)
   ·exact T0
   ·simp only[aO,aB,not_or] at e2
    refine bL.ret (sE.r ?_)
    exact ⟨by omega,by omega⟩
   ·refine bL.ret (sE.r ?_);exact ⟨rfl,h2⟩
  ·simp (disch:=omega) only[wr,Int.ofNat_eq_natCast]
   refine bL.bO (bL.dN (by simp) ?_)
   refine bL.ret (sE.l (sE.l ?_))
   exact tQ (d:=default) hp
 ·refine bL.ret (sE.l ?_)
  exact fun _=>⟨by omega,by omega,by omega,h1⟩
theorem aHb {K:Nat} {u:cM} {s:Bytes} {b:Bool} (hK:100000<K) (h:Sm u):cR (aLc K u s b) (fun v=>v=true→kd u (kY u s)≠0):=by
 refine cR.of ?_
 unfold aLc
 refine bL.aI0 rfl (kA (by omega) (by assumption)) ?_
 refine bL.cJ (by decide) kB ?_
 rintro _ rfl
 refine bL.bO (bL.ret (sE.l ?_))
 intro e
 simp only[aO,beq_iff_eq,aC] at e
 omega
def tyP (t:fU):Prop:=t.bR=1∨t.bR=2∨t.bR=5
def tyF (t:fU):Prop:=tyP t∨t.bR=3∨(t.bR=4∧0≤t.fHi∧t.fHi<8)
def tyV (t:fU):Prop:=tyF t∨t.bR=6∨t.bR=7
theorem aHc {K:Nat} {u:cM} {t:fU} (hK:100000<K) (h:Sm u):cR (aLd K u t) (fun v=>v=true→tyP t):=by
 refine cR.of ?_
 unfold aLd
 refine bL.bO (bL.dA (fun _=>aHb hK h) (fun _ _=>?_))
 refine bL.ret (sE.l ?_)
 intro e
 simp only[aO,beq_iff_eq,aC] at e
 unfold tyP;omega
theorem aPK {K:Nat} {t:fU}:cR (aNz K t) (fun _=>True):=by
 refine cR.of ?_
 unfold aNz
 exact T0
theorem aHd {K:Nat} {u:cM} {m:iT} (hK:100000<K) (hm:m.cN.length≤6004) (h:Sm u):cR (aLe K u m) (fun _=>True):=by
 refine cR.of ?_
 unfold aLe
 refine bL.dI (bL.bN (bL.c7 ?_)) (fun _=>?_)
 ·refine bL.kS m.cN.length (by omega) (fun i hi=>?_) ?_
  ·simp (disch:=omega) only[wr,Int.ofNat_eq_natCast]
   refine bL.bO (bL.dV (by simp only[aB];omega) ?_)
   refine bL.dI (bL.bN (bL.bW (bT (by omega)) (bL.bX ?_))) (fun _=>?_)
   ·refine bL.cJ (by decide) (aHc (by omega) h) (fun _ _=>?_)
    exact T0
   ·refine bL.ret (sE.r ?_);rfl
  ·simp (disch:=omega) only[wr,Int.ofNat_eq_natCast]
   refine bL.bO (bL.dN (by simp) ?_)
   exact T0
 ·refine bL.call aPK (fun _ _=>?_)
  exact T0
theorem oO {K:Nat} {l:List Bytes} (hK:100000000<K) (hl:l.length≤36200000):cR (aCk K l) (fun _=>True):=by
 refine cR.of ?_
 unfold aCk
 refine bL.dI (bL.bN (bL.c7 ?_)) (fun _=>by exact T0)
 refine bL.kS l.length (by omega) (fun i hi=>?_) ?_
 ·simp (disch:=omega) only[wr,Int.ofNat_eq_natCast]
  refine bL.bO (bL.dV (by simp only[aB];omega) ?_)
  refine bL.dI (bL.bN ?_) (fun _=>by refine bL.ret (sE.r ?_);rfl)
  refine bL.dI (bL.bN (bL.c7 ?_)) (fun _=>by exact T0)
  refine bL.kS i (by omega) (fun j hj=>?_) ?_
  ·simp (disch:=omega) only[wr,Int.ofNat_eq_natCast]
   refine bL.dV (by simp only[aB];omega) ?_
   refine bL.dI (bL.bN (bL.bW (bT (by omega)) (bL.bW (bT (by omega)) (bL.bX ?_)))) (fun _=>by refine bL.ret (sE.r ?_);rfl)
   exact T0
  ·refine bL.dN (by simp) ?_
   exact T0
 ·simp (disch:=omega) only[wr,Int.ofNat_eq_natCast]
  refine bL.bO (bL.dN (by simp) ?_)
  exact T0
theorem aCY {K:Nat} {d:gX} (hK:100000<K) (h:d.bQ.length≤6004):cR (aIr K d) (fun v=>v=d.bQ.map fun m=>m.cD):=by
 refine cR.of ?_
 unfold aIr
 refine bL.bZ (fun v=>v=d.bQ.map fun m=>m.cD) (bL.bN (bL.c7 ?_)) (fun v hv=>by refine bL.ret (sE.l ?_);exact hv)
 refine bL.loop (fun t:List Bytes × Int=>0≤t.2∧t.2≤d.bQ.length∧t.1=(d.bQ.take t.2.toNat).map fun m=>m.cD) (fun t=>(d.bQ.length - t.2).toNat) ⟨by simp,by simp,rfl⟩ (by simp;omega) ?_
 rintro ⟨o,t⟩ ⟨g1,g2,g3⟩
 dsimp only at g1 g2 g3 ⊢
 obtain ⟨n,rfl⟩:=aK g1
 rw[Int.toNat_natCast] at g3
 simp (disch:=omega) only[wr,Int.ofNat_eq_natCast]
 refine bL.bO (bL.ite (fun e1=>?_) (fun e1=>?_))
 ·simp only[aB] at e1
  have ho:o.length≤6004:=by rw[g3,aW,aS];omega
  rw[Int.toNat_natCast]
  refine bL.bZ (fun v:List Bytes=>v=(d.bQ.take (n+1)).map fun m=>m.cD) (bL.bN (bL.bW (bT (by omega)) (bL.bX (bL.bO (bL.bW (cP ?_) (bL.bX ?_)))))) (fun v hv=>?_)
  ·show (o.length+1) * 16≤_
   omega
  ·refine bL.ret (sE.r ?_)
   rw[eP default (by omega),List.map_append,← g3];rfl
  ·refine bL.ret (sE.r ?_)
   exact ⟨⟨by dsimp only;omega,by dsimp only;omega,by dsimp only;rw[show ((n:Int)+1).toNat=n+1 by omega];exact hv⟩,by dsimp only;omega⟩
 ·simp only[aB] at e1
  refine bL.ret (sE.l (sE.l ?_))
  show o=_
  rw[g3,List.take_of_length_le (by omega)]
theorem yT {K:Nat} {l:List fE} (hK:100000000<K) (h:l.length≤36200000):cR (aGA K l) (fun v=>v.length=l.length):=by
 refine cR.of ?_
 unfold aGA
 refine bL.bZ (fun v:List Bytes=>v.length=l.length) (bL.bN (bL.c7 ?_)) (fun v hv=>by refine bL.ret (sE.l ?_);exact hv)
 refine bL.loop (fun t:List Bytes × Int=>0≤t.2∧t.2≤l.length∧(t.1.length:Int)=t.2) (fun t=>(l.length - t.2).toNat) ⟨by simp,by simp,by simp⟩ (by simp;omega) ?_
 rintro ⟨o,t⟩ ⟨g1,g2,g3⟩
 dsimp only at g1 g2 g3 ⊢
 simp (disch:=omega) only[wr,Int.ofNat_eq_natCast]
 refine bL.bO (bL.ite (fun e1=>?_) (fun e1=>?_))
 ·simp only[aB] at e1
  refine bL.bZ (fun v:List Bytes=>(v.length:Int)=t+1) (bL.bN (bL.bW (bT (by omega)) (bL.bX (bL.bW (cP ?_) (bL.bX ?_))))) (fun v hv=>?_)
  ·show (o.length+1) * 16≤_
   omega
  ·refine bL.ret (sE.r ?_)
   show ((o++[_]).length:Int)=_
   rw[aD,List.length_singleton];omega
  ·refine bL.ret (sE.r ?_)
   exact ⟨⟨by dsimp only;omega,by dsimp only;omega,hv⟩,by dsimp only;omega⟩
 ·simp only[aB] at e1
  refine bL.ret (sE.l (sE.l ?_))
  show o.length=l.length
  omega
theorem aPL {K:Nat} {u:cM} {d:gX} (hK:100000000<K) (hd:d.bQ.length≤6004) (hm:∀ m∈d.bQ,m.cN.length≤6004) (h:Sm u):cR (aNB K u d) (fun _=>True):=by
 refine cR.of ?_
 unfold aNB
 refine bL.dI (bL.bN (bL.c7 ?_)) (fun _=>?_)
 ·refine bL.kS d.bQ.length (by omega) (fun i hi=>?_) ?_
  ·simp (disch:=omega) only[wr,Int.ofNat_eq_natCast]
   refine bL.bO (bL.dV (by simp only[aB];omega) ?_)
   refine bL.dI (bL.bN (bL.bW (bT (by omega)) (bL.bX ?_))) (fun _=>by refine bL.ret (sE.r ?_);rfl)
   rw[Int.toNat_natCast]
   refine bL.cJ (by decide) (aHd (by omega) (hm _ (c9 hi)) h) (fun _ _=>?_)
   exact T0
  ·simp (disch:=omega) only[wr,Int.ofNat_eq_natCast]
   refine bL.bO (bL.dN (by simp) ?_)
   exact T0
 ·refine bL.call (aCY (by omega) hd) ?_
  rintro _ rfl
  refine bL.call (oO hK (by rw[aW];omega)) (fun _ _=>?_)
  refine bL.dI (bL.bN (bL.c7 ?_)) (fun _=>by exact T0)
  refine bL.loop (fun t:Bool × Int=>0≤t.2∧t.2≤d.bQ.length) (fun t=>(d.bQ.length - t.2).toNat) ⟨by simp,by simp⟩ (by simp;omega) ?_
  rintro ⟨b,t⟩ ⟨g1,g2⟩
  dsimp only at g1 g2 ⊢
  simp (disch:=omega) only[wr,Int.ofNat_eq_natCast]
  refine bL.bO (bL.ite (fun e1=>?_) (fun e1=>?_))
  ·simp only[aB] at e1
   have hp:=hm _ (c9 (d:=default) (show t.toNat<d.bQ.length by omega))
   refine bL.dI (bL.bN (bL.bW (by rw[bT (by omega)];simp) (bL.bX ?_))) (fun _=>?_)
   ·refine bL.dA (fun _=>yT hK (by omega)) (fun v hv=>?_)
    refine bL.dA (fun eb=>oO hK (by rw[hv eb];omega)) (fun _ _=>?_)
    exact T0
   ·refine bL.ret (sE.r ?_)
    exact ⟨⟨by dsimp only;omega,by dsimp only;omega⟩,by dsimp only;omega⟩
  ·exact T0
theorem aHe {K:Nat} {x:fE}:cR (aLf K x) (fun _=>True):=by
 refine cR.of ?_
 unfold aLf
 refine bL.dI (bL.bN ?_) (fun _=>by exact T0)
 exact T0
theorem aHf {K:Nat} {u:cM} {t:fU} (hK:100000<K) (h:Sm u):cR (aLg K u t) (fun v=>v=true→tyF t):=by
 refine cR.of ?_
 unfold aLg
 refine bL.call (aHc hK h) (fun v hv=>?_)
 refine bL.bO (bL.ret (sE.l ?_))
 intro e
 simp only[aO,beq_iff_eq,aC,aB] at e
 rcases e with (e | e) | e
 ·exact .inl (hv e)
 ·exact .inr (.inl e.1.1.1)
 ·exact .inr (.inr ⟨e.1.1,e.1.2,e.2⟩)
theorem aPM {K:Nat} {u:cM} {t:fU} (hK:100000<K) (h:Sm u):cR (aNI K u t) (fun v=>v=true→tyV t):=by
 refine cR.of ?_
 unfold aNI
 refine bL.ite (fun e=>?_) (fun e=>?_)
 ·refine bL.cJ (by decide) (aHb hK h) (fun v hv=>?_)
  refine bL.dA (fun _=>kA hK h) (fun w hw=>?_)
  refine bL.bW ?_ ?_
  ·by_cases q:v=true
   ·rw[hw q,bT (gA rfl (hv q))];simp
   ·simp only[Bool.not_eq_true] at q;rw[q];rfl
  ·refine bL.bX (bL.bO (bL.ret (sE.l ?_)))
   exact fun _=>.inr (.inl (beq_iff_eq.1 e))
 ·refine bL.call (aHf hK h) (fun v hv=>?_)
  refine bL.bO (bL.ret (sE.l ?_))
  intro e
  simp only[aO,beq_iff_eq,aC,aB] at e
  rcases e with e | e
  ·exact .inl (hv e)
  ·exact .inr (.inr e.1.1)
end Go.Proofs.YtdbfbedholdjaaaGreat

namespace Go.Proofs.YtdbfbedholdjaaaGreat
open Go Go.Dl
variable [dK]
set_option maxRecDepth 100000
set_option maxHeartbeats 8000000
structure Sz8 (d:gX):Prop where
 m:d.bQ.length≤6
 f:d.cK.length≤4
 v:d.cH.length≤8
 p:∀ m∈d.bQ,m.cN.length≤3∧m.cH.length≤8
theorem aPN {K:Nat} {u:cM} {d:gX} (hK:100000000<K) (hd:Sz8 d) (h:Sm u):cR (aNC K u d) (fun v=>v=0→∀ x∈d.cH,tyF x.cO):=by
 refine cR.of ?_
 unfold aNC
 obtain ⟨d1,d2,d3,d4⟩:=hd
 refine bL.bW (cP (by omega)) (bL.bX ?_)
 refine bL.bZ (fun o:List fE=>o.length≤100∧∀ x∈d.cH,x∈o) (bL.bN (bL.c7 ?_)) ?_
 ·refine bL.loop (fun t:List fE × Int=>0≤t.2∧t.2≤d.bQ.length∧(t.1.length:Int)≤8+8 * t.2∧∀ x∈d.cH,x∈t.1) (fun t=>(d.bQ.length - t.2).toNat) ⟨by simp,by simp,by dsimp only;omega,fun x hx=>hx⟩ (by simp;omega) ?_
  rintro ⟨o,t⟩ ⟨g1,g2,g3,g4⟩
  dsimp only at g1 g2 g3 g4 ⊢
  obtain ⟨n,rfl⟩:=aK g1
  simp (disch:=omega) only[wr,Int.ofNat_eq_natCast]
  refine bL.bO (bL.ite (fun e1=>?_) (fun e1=>?_))
  ·simp only[aB] at e1
   have hn:n<d.bQ.length:=by omega
   have hp:=d4 _ (c9 (d:=default) hn)
   rw[Int.toNat_natCast]
   refine bL.bZ (fun v:List fE=>(v.length:Int)≤16+8 * n∧∀ x∈d.cH,x∈v) (bL.bN (bL.bW (bT (by omega)) (bL.bX ?_))) (fun v hv=>?_)
   ·refine bL.call (aHd (by omega) (by omega) h) (fun _ _=>?_)
    refine bL.ite (fun e2=>?_) (fun e2=>?_)
    ·exact T0
    refine bL.dI (bL.bN (bL.c7 ?_)) (fun _=>?_)
    ·refine bL.kS (d.bQ.getD n default).cN.length (by omega) (fun i hi=>?_) ?_
     ·simp (disch:=omega) only[wr,Int.ofNat_eq_natCast]
      refine bL.bO (bL.dV (by simp only[aB];omega) ?_)
      refine bL.dI (bL.bN (bL.bW (bT (by omega)) (bL.bX ?_))) (fun _=>by refine bL.ret (sE.r ?_);rfl)
      exact T0
     ·simp (disch:=omega) only[wr,Int.ofNat_eq_natCast]
      refine bL.bO (bL.dN (by simp) ?_)
      exact T0
    ·refine bL.bO (bL.bW (cP ?_) (bL.bX ?_))
     ·omega
     ·refine bL.ret (sE.r ?_)
      refine ⟨?_,fun x hx=>bJ _ (g4 x hx)⟩
      rw[aD];omega
   ·refine bL.ret (sE.r ?_)
    exact ⟨⟨by dsimp only;omega,by dsimp only;omega,by dsimp only;omega,hv.2⟩,by dsimp only;omega⟩
  ·refine bL.ret (sE.l (sE.l ?_))
   simp only[aB] at e1
   exact ⟨by show o.length≤100;omega,g4⟩
 rintro o ⟨ho,hin⟩
 refine bL.bZ (fun _=>∀ x∈o,tyF x.cO) (bL.bN (bL.c7 ?_)) (fun _ hty=>?_)
 ·refine bL.upP o.length (fun i=>tyF (o.getD i default).cO) (by omega) (fun i hi=>?_) (fun hp=>?_)
  ·simp (disch:=omega) only[wr,Int.ofNat_eq_natCast]
   refine bL.bO (bL.dV (by simp only[aB];omega) ?_)
   rw[Int.toNat_natCast]
   refine bL.bZ (fun _=>tyF (o.getD i default).cO) (bL.bN (bL.bW (bT (by omega)) (bL.bX ?_))) (fun _ h2=>?_)
   ·refine bL.cJ (by decide) (aHf (by omega) h) (fun v hv=>?_)
    refine bL.bW (by rw[bT (by omega)];simp) (bL.bX (bL.bO (bL.ite (fun e2=>?_) (fun e2=>?_))))
    ·exact T0
    ·simp only[aO,not_or,aP,Bool.not_eq_false] at e2
     refine bL.ret (sE.r ?_)
     exact hv e2.1
   ·refine bL.ret (sE.r ?_);exact ⟨rfl,h2⟩
  ·simp (disch:=omega) only[wr,Int.ofNat_eq_natCast]
   refine bL.bO (bL.dN (by simp) ?_)
   refine bL.ret (sE.l (sE.l ?_))
   exact tQ (d:=default) hp
 ·refine bL.dI (bL.bN (bL.c7 ?_)) (fun _=>?_)
  ·refine bL.kS o.length (by omega) (fun i hi=>?_) ?_
   ·simp (disch:=omega) only[wr,Int.ofNat_eq_natCast]
    refine bL.bO (bL.dV (by simp only[aB];omega) ?_)
    refine bL.dI (bL.bN (bL.bW (bT (by omega)) (bL.bX ?_))) (fun _=>by refine bL.ret (sE.r ?_);rfl)
    refine bL.call aHe (fun _ _=>?_)
    exact T0
   ·simp (disch:=omega) only[wr,Int.ofNat_eq_natCast]
    refine bL.bO (bL.dN (by simp) ?_)
    exact T0
  ·refine bL.ret (sE.l ?_)
   exact fun _ x hx=>hty x (hin x hx)
theorem aPO {K:Nat} {u:cM} {d:Int} (hK:100000000<K) (hk:kd u d=2) (h:Sm u):cR (aNF K u d) (fun _=>True):=by
 have hd:=gA hk (by decide)
 have wJ:=h.aAG d
 have hul:=h.len
 refine cR.of ?_
 unfold aNF
 refine bL.bW (bT hd) (bL.bX (bL.bO (bL.ite (fun e=>?_) (fun e=>?_))))
 ·exact T0
 refine bL.dI (bL.bN (bL.c7 ?_)) (fun _=>?_)
 ·refine bL.kS (dc u d).bQ.length (by omega) (fun i hi=>?_) ?_
  ·have hi':i<(u.bM.getD d.toNat default).bQ.length:=hi
   simp (disch:=omega) only[wr,Int.ofNat_eq_natCast]
   refine bL.bO (bL.dV (by simp only[aB];omega) ?_)
   refine bL.dI (bL.bN (bL.bW (bT (by omega)) (bL.bX ?_))) (fun _=>by refine bL.ret (sE.r ?_);rfl)
   exact T0
  ·simp (disch:=omega) only[wr,Int.ofNat_eq_natCast]
   refine bL.bO (bL.dN (by simp) ?_)
   exact T0
 ·refine bL.call (oP (by omega) h) ?_
  rintro _ rfl
  have sF:=mF u d
  refine bL.dI (bL.bN (bL.c7 ?_)) (fun _=>by exact T0)
  refine bL.loop (fun t:Int=>0≤t∧t≤(chain u d).length) (fun t=>((chain u d).length - t).toNat) ⟨by simp,by simp⟩ (by simp;omega) (fun t ⟨g1,g2⟩=>?_)
  obtain ⟨n,rfl⟩:=aK g1
  simp (disch:=omega) only[wr,Int.ofNat_eq_natCast]
  refine bL.bO (bL.ite (fun e1=>?_) (fun e1=>by exact T0))
  simp only[aC,aB] at e1
  have hn:n<(chain u d).length:=by omega
  rw[Int.toNat_natCast]
  have hmem:=c9 (d:=default) hn
  generalize hc:(chain u d).getD n default=c at hmem
  have hx:=iJ hmem
  have hcm:=h.aAG c
  refine bL.dI (bL.bN (bL.bW (bT (by omega)) (bL.bX (bL.bW (bT hx) (bL.bX ?_))))) (fun _=>by refine bL.ret (sE.r ?_);exact ⟨⟨by omega,by omega⟩,by omega⟩)
  refine bL.call (aCY (by omega) hcm) ?_
  rintro _ rfl
  refine bL.dI (bL.bN (bL.c7 ?_)) (fun _=>by exact T0)
  refine bL.kS ((dc u c).bQ.map fun m=>m.cD).length (by rw[aW];omega) (fun i hi=>?_) ?_
  ·rw[aW] at hi
   have hi':i<(u.bM.getD c.toNat default).bQ.length:=hi
   simp (disch:=omega) only[wr,Int.ofNat_eq_natCast]
   refine bL.bO (bL.dV (by simp only[aB,aW];omega) ?_)
   refine bL.dI (bL.bN (bL.bW (bT (by rw[aW];omega)) (bL.bX ?_))) (fun _=>by refine bL.ret (sE.r ?_);rfl)
   rw[Int.toNat_natCast]
   have hnm:((dc u c).bQ.map fun m=>m.cD).getD i default=((dc u c).bQ.getD i default).cD:=by
    rw[List.getD,bE,aE hi,List.getD,aE hi];rfl
   rw[hnm]
   refine bL.iO (tR (by omega) (by assumption)) ?_
   have hf:(nM u d ((dc u c).bQ.getD i default).cD).2=true:=by
    refine aCZ (c:=c) ?_ (aI1 (c9 (d:=default) hi) (beq_self_eq_true _))
    unfold line
    rw[aF (by omega)];exact hmem
   refine bL.call (yU (oG hf).1) ?_
   rintro _ rfl
   exact T0
  ·refine bL.bO (bL.dN (by simp only[aB,Int.ofNat_eq_natCast];exact Int.lt_irrefl _) ?_)
   exact T0
def a0Q (a b:iT):Prop:=a.cN.length=b.cN.length∧a.eY=b.eY∧∀ i:Nat,(i:Int)<a.cN.length→(a.cN.getD i default).cO=(b.cN.getD i default).cO
def tC (u:cM) (d:Int) (m:iT):Prop :=
 (m.aDQ=true↔1<(chain u d).length∧(nM u ((chain u d).getD 1 default) m.cD).2=true) ∧
 (1<(chain u d).length→(nM u ((chain u d).getD 1 default) m.cD).2=true→a0Q m (sC u (nM u ((chain u d).getD 1 default) m.cD).1))
theorem aPP {K:Nat} {u:cM} {d:Int} (hK:100000000<K) (hd:0≤d∧d<u.bM.length) (hs:Sz8 (dc u d)) (h:Sm u):cR (aNG K u d) (fun v=>v=false→∀ m∈(dc u d).bQ,tC u d m):=by
 have wJ:=h.aAG d
 refine cR.of ?_
 unfold aNG
 refine bL.bW (bT hd) (bL.bX ?_)
 refine bL.call (oP (by omega) h) ?_
 rintro _ rfl
 refine bL.bZ (fun _=>∀ m∈(dc u d).bQ,tC u d m) (bL.bN (bL.c7 ?_)) (fun _ hq=>by refine bL.ret (sE.l ?_);exact fun _=>hq)
 refine bL.upP (dc u d).bQ.length (fun i=>tC u d ((dc u d).bQ.getD i default)) (by omega) (fun i hi=>?_) (fun hp=>?_)
 ·have hi':i<(u.bM.getD d.toNat default).bQ.length:=hi
  simp (disch:=omega) only[wr,Int.ofNat_eq_natCast]
  refine bL.bO (bL.dV (by simp only[aB];omega) ?_)
  rw[Int.toNat_natCast]
  have hmp:=hs.p _ (c9 (d:=default) hi)
  have hlp:((dc u d).bQ.getD i default).cN.length≤6004:=by omega
  generalize hm:(dc u d).bQ.getD i default=m at hlp
  refine bL.bZ (fun _=>tC u d m) (bL.bN (bL.bW (bT (by omega)) (bL.bX ?_))) (fun _ h2=>by refine bL.ret (sE.r ?_);exact ⟨rfl,h2⟩)
  refine bL.bZ (fun v:Bool × iT=>(v.1=true↔1<(chain u d).length∧(nM u ((chain u d).getD 1 default) m.cD).2=true)∧(v.1=true→v.2=sC u (nM u ((chain u d).getD 1 default) m.cD).1)) ?_ (fun v hv=>?_)
  ·refine bL.ite (fun e1=>?_) (fun e1=>?_)
   ·simp only[aB,Int.ofNat_eq_natCast] at e1
    refine bL.bW (bT (by omega)) (bL.bX ?_)
    have h1:(1:Int).toNat=1:=rfl
    rw[h1,← hm]
    refine bL.iO (tR (by omega) (by assumption)) ?_
    rw[hm]
    refine bL.ite (fun e2=>?_) (fun e2=>?_)
    ·refine bL.call (yU (oG e2).1) ?_
     rintro _ rfl
     refine bL.ret (sE.r ?_)
     exact ⟨⟨fun _=>⟨by omega,e2⟩,fun _=>rfl⟩,fun _=>rfl⟩
    ·refine bL.ret (sE.r ?_)
     exact ⟨⟨fun q=>(by cases q),fun q=>absurd q.2 e2⟩,fun q=>by cases q⟩
   ·simp only[aB,Int.ofNat_eq_natCast] at e1
    refine bL.ret (sE.r ?_)
    exact ⟨⟨fun q=>(by cases q),fun q=>absurd q.1 (by omega)⟩,fun q=>by cases q⟩
  ·obtain ⟨v1,v2⟩:=hv
   refine bL.bO ?_
   refine bL.dA (fun _=>aHg (by omega) (by omega)) (fun w hw=>?_)
   refine bL.bO (bL.ite (fun e1=>?_) (fun e1=>?_))
   ·exact T0
   ·refine bL.ret (sE.r ?_)
    simp only[aO,not_or,aC,not_and,aP,Bool.not_eq_false,beq_iff_eq] at e1
    obtain ⟨e1,e2⟩:=e1
    refine ⟨by rw[e1];exact v1,fun q1 q2=>?_⟩
    have q:=v1.2 ⟨q1,q2⟩
    have e3:=e2 q
    rw[← v2 q]
    exact hw (by simp only[Bool.not_eq_true] at e3;simp [q,e1,e3.1]) e3.2
 ·simp (disch:=omega) only[wr,Int.ofNat_eq_natCast]
  refine bL.bO (bL.dN (by simp) ?_)
  refine bL.ret (sE.l (sE.l ?_))
  exact tQ (d:=default) hp
end Go.Proofs.YtdbfbedholdjaaaGreat

namespace Go.Proofs.YtdbfbedholdjaaaGreat
open Go Go.Dl
variable [dK]
set_option maxRecDepth 100000
set_option maxHeartbeats 8000000
theorem aPQ {u:cM} {d x:Int} (h:x∈lH u d):0≤x∧x<u.bM.length:=by
 have h1:∀ (l:List Bytes) (out:List Int),(∀ x∈out,0≤x∧x<u.bM.length)→∀ x∈l.foldl (iA u) out,0≤x∧x<u.bM.length:=by
  intro l
  induction l with
  | nil=>exact fun _ h=>h
  | cons s l ih =>
    intro out ho
    refine ih _ ?_
    unfold iA
    split
    ·rename_i e
     intro x hx
     rcases aX.1 hx with hx | hx
     ·exact ho x hx
     ·rw[aL.1 hx];exact gA e.1 (by decide)
    ·exact ho
 have h2:∀ (l:List Int) (out:List Int),(∀ x∈out,0≤x∧x<u.bM.length)→∀ x∈l.foldl (fun out c=>(dc u c).cK.foldl (iA u) out) out,0≤x∧x<u.bM.length:=by
  intro l
  induction l with
  | nil=>exact fun _ h=>h
  | cons c l ih=>exact fun out ho=>ih _ (h1 _ _ ho)
 exact h2 _ _ (fun x hx=>by cases hx) x h
theorem aPR {K:Nat} {u:cM} {d:Int} (hK:100000000<K) (h:Sm u):cR (aOv K u d) (fun _=>True):=by
 have hul:=h.len
 have hfl:=uD u d
 refine cR.of ?_
 unfold aOv
 refine bL.call (aHh (by omega) h) ?_
 rintro _ rfl
 refine bL.dI (bL.bN (bL.c7 ?_)) (fun _=>by exact T0)
 refine bL.kS (lH u d).length (by omega) (fun n hn=>?_) ?_
 ·simp (disch:=omega) only[wr,Int.ofNat_eq_natCast]
  refine bL.bO (bL.dV (by simp only[aB];omega) ?_)
  rw[Int.toNat_natCast]
  have hx:=aPQ (c9 (d:=default) hn)
  generalize hc:(lH u d).getD n default=c at hx
  have hcm:=h.aAG c
  refine bL.dI (bL.bN (bL.bW (bT (by omega)) (bL.bX (bL.bW (bT hx) (bL.bX ?_))))) (fun _=>by refine bL.ret (sE.r ?_);rfl)
  refine bL.dI (bL.bN (bL.c7 ?_)) (fun _=>by exact T0)
  refine bL.kS (dc u c).bQ.length (by omega) (fun i hi=>?_) ?_
  ·have hi':i<(u.bM.getD c.toNat default).bQ.length:=hi
   simp (disch:=omega) only[wr,Int.ofNat_eq_natCast]
   refine bL.bO (bL.dV (by simp only[aB];omega) ?_)
   refine bL.dI (bL.bN (bL.bW (bT (by omega)) (bL.bX ?_))) (fun _=>by refine bL.ret (sE.r ?_);rfl)
   refine bL.iO (tR (by omega) (by assumption)) ?_
   refine bL.bW (by rw[bT (by omega)];simp) (bL.bX ?_)
   refine bL.dA (fun e=>yU (oG (by simpa using e)).1) (fun v hv=>?_)
   refine bL.dA (fun e=>aHg (by omega) ?_) (fun _ _=>?_)
   ·rw[hv e]
    exact (iT.bounds (h.m _ _)).1
   ·exact T0
  ·simp (disch:=omega) only[wr,Int.ofNat_eq_natCast]
   refine bL.bO (bL.dN (by simp) ?_)
   exact T0
 ·simp (disch:=omega) only[wr,Int.ofNat_eq_natCast]
  refine bL.bO (bL.dN (by simp) ?_)
  exact T0
theorem aPS {K:Nat} {u:cM} {d k:Int} (hK:100000000<K) (hd:0≤d∧d<u.bM.length) (hk:0≤k∧k<(dc u d).cH.length) (h:Sm u):cR (aNJ K u d k) (fun _=>True):=by
 have hul:=h.len
 refine cR.of ?_
 unfold aNJ
 refine bL.dI (bL.bN (bL.c7 ?_)) (fun _=>by exact T0)
 refine bL.loop (fun t:Int=>0≤t∧t≤d+1) (fun t=>(d+1 - t).toNat) ⟨by omega,by omega⟩ (by omega) (fun t ⟨g1,g2⟩=>?_)
 have hv:=h.vars t
 simp (disch:=omega) only[wr,Int.ofNat_eq_natCast]
 refine bL.ite (fun e1=>?_) (fun e1=>by exact T0)
 simp only[aB] at e1
 refine bL.dI (bL.bN (bL.bW (bT (by omega)) (bL.bX ?_))) (fun _=>by refine bL.ret (sE.r ?_);exact ⟨⟨by omega,by omega⟩,by omega⟩)
 refine bL.dI (bL.bN (bL.c7 ?_)) (fun _=>by exact T0)
 refine bL.loop (fun i:Int=>0≤i∧i≤(dc u t).cH.length) (fun i=>((dc u t).cH.length - i).toNat) ⟨by omega,by omega⟩ (by omega) (fun i ⟨k1,k2⟩=>?_)
 simp (disch:=omega) only[wr,Int.ofNat_eq_natCast]
 refine bL.bO (bL.ite (fun e2=>?_) (fun e2=>by exact T0))
 simp only[aB,aC] at e2
 have hi:i<(dc u t).cH.length:=e2.1.1
 refine bL.dI (bL.bN (bL.bW (bT ⟨k1,hi⟩) (bL.bW (by rw[bT (n:=(u.bM.getD t.toNat default).cH.length) ⟨k1,hi⟩];simp) (bL.bW (by rw[bT hd];simp) (bL.bW (by rw[bT (n:=(u.bM.getD d.toNat default).cH.length) hk];simp) (bL.bX ?_)))))) (fun _=>by refine bL.ret (sE.r ?_);exact ⟨⟨by omega,by omega⟩,by omega⟩)
 exact T0
def aEf (x:fE):Prop:=tyV x.cO∧(x.kO≠0→x.cO.bR=1∨x.cO.bR=2)∧0≤x.kO∧x.kO≤2
theorem aPT {K:Nat} {u:cM} {d:Int} (hK:101000000<K) (hd:0≤d∧d<u.bM.length) (h:Sm u):cR (aNR K u d) (fun v=>v=0→∀ x∈(dc u d).cH,aEf x):=by
 have hul:=h.len
 have hv:=h.vars d
 refine cR.of ?_
 unfold aNR
 refine bL.bW (bT hd) (bL.bX ?_)
 refine bL.bZ (fun _=>∀ x∈(dc u d).cH,aEf x) (bL.bN (bL.c7 ?_)) (fun _ hq=>?_)
 ·refine bL.upP (dc u d).cH.length (fun i=>aEf ((dc u d).cH.getD i default)) (by omega) (fun i hi=>?_) (fun hp=>?_)
  ·have hi':i<(u.bM.getD d.toNat default).cH.length:=hi
   simp (disch:=omega) only[wr,Int.ofNat_eq_natCast]
   refine bL.bO (bL.dV (by simp only[aB];omega) ?_)
   rw[Int.toNat_natCast]
   refine bL.bZ (fun _=>aEf ((dc u d).cH.getD i default)) (bL.bN (bL.bW (bT (by omega)) (bL.bX ?_))) (fun _ h2=>by refine bL.ret (sE.r ?_);exact ⟨rfl,h2⟩)
   refine bL.call (aPM (by omega) h) (fun v hv=>?_)
   refine bL.bO (bL.ite (fun e2=>?_) (fun e2=>?_))
   ·exact T0
   ·simp only[aO,aC,not_or,not_and,aP,Bool.not_eq_false,aB,bne_iff_ne,ne_eq,Decidable.not_not,Bool.not_eq_true] at e2
    obtain ⟨⟨⟨e3,e4⟩,e5⟩,e6⟩:=e2
    refine bL.ret (sE.r ?_)
    refine ⟨hv e3,fun aI2=>?_,?_,?_⟩
    ·by_cases q:((u.bM.getD d.toNat default).cH.getD i default).cO.bR=1
     ·exact .inl q
     ·exact .inr (e6 ⟨aI2,q⟩)
    ·show 0≤((u.bM.getD d.toNat default).cH.getD i default).kO
     omega
    ·show ((u.bM.getD d.toNat default).cH.getD i default).kO≤2
     omega
  ·simp (disch:=omega) only[wr,Int.ofNat_eq_natCast]
   refine bL.bO (bL.dN (by simp only[aB];exact Int.lt_irrefl _) ?_)
   refine bL.ret (sE.l (sE.l ?_))
   exact tQ (d:=default) hp
 ·refine bL.dI (bL.bN (bL.c7 ?_)) (fun _=>?_)
  ·refine bL.kS (dc u d).cH.length (by omega) (fun i hi=>?_) ?_
   ·have hi':i<(u.bM.getD d.toNat default).cH.length:=hi
    simp (disch:=omega) only[wr,Int.ofNat_eq_natCast]
    refine bL.bO (bL.dV (by simp only[aB];omega) ?_)
    refine bL.dI (bL.bN (bL.bW (bT (by omega)) (bL.bX ?_))) (fun _=>by refine bL.ret (sE.r ?_);rfl)
    refine bL.call aHe (fun _ _=>?_)
    exact T0
   ·simp (disch:=omega) only[wr,Int.ofNat_eq_natCast]
    refine bL.bO (bL.dN (by simp only[aB];exact Int.lt_irrefl _) ?_)
    exact T0
  ·refine bL.dI (bL.bN (bL.c7 ?_)) (fun _=>?_)
   ·refine bL.kS (dc u d).cH.length (by omega) (fun i hi=>?_) ?_
    ·have hi':i<(u.bM.getD d.toNat default).cH.length:=hi
     simp (disch:=omega) only[wr,Int.ofNat_eq_natCast]
     refine bL.bO (bL.dV (by simp only[aB];omega) ?_)
     refine bL.dI (bL.bN (bL.bW (bT (by omega)) (bL.bX (bL.bO ?_)))) (fun _=>by refine bL.ret (sE.r ?_);rfl)
     refine bL.dA (fun _=>aPS (by omega) hd ⟨by omega,by omega⟩ h) (fun _ _=>?_)
     exact T0
    ·simp (disch:=omega) only[wr,Int.ofNat_eq_natCast]
     refine bL.bO (bL.dN (by simp only[aB];exact Int.lt_irrefl _) ?_)
     exact T0
   ·refine bL.bO ?_
    refine bL.call (yT (by omega) (show (dc u d).cH.length≤_ by omega)) (fun v hv2=>?_)
    refine bL.call (oO (by omega) (by rw[hv2];show (dc u d).cH.length≤_;omega)) (fun _ _=>?_)
    refine bL.ite (fun e=>?_) (fun e=>bL.bO ?_)
    ·exact T0
    ·refine bL.call (aHa (by omega) (h.body d) h) (fun _ _=>?_)
     refine bL.ret (sE.l ?_)
     exact fun _=>hq
theorem aPU {K:Nat} {u:cM} {d:Int} (hK:101000000<K) (hd:0≤d∧d<u.bM.length) (h:Sm u):cR (aNT K u d) (fun v=>v=0→kd u (kY u (dc u d).fV)=3):=by
 have hul:=h.len
 refine cR.of ?_
 unfold aNT
 refine bL.bW (bT hd) (bL.bX (bL.bO ?_))
 refine bL.iO (kA (by omega) h) ?_
 refine bL.iO kB ?_
 refine bL.bO ?_
 refine bL.bZ (fun b:Bool=>b=false→kd u (kY u (dc u d).fV)=3) (bL.bN (bL.c7 ?_)) (fun b hb=>bL.ite (fun e=>bL.ret (sE.l (fun q=>absurd q (by decide)))) (fun e=>bL.ret (sE.l (fun _=>hb (by simpa using e)))))
 refine bL.loop (fun t:Bool × Int=>0≤t.2∧t.2≤d∧(t.1=false→kd u (kY u (dc u d).fV)=3)) (fun t=>(d - t.2).toNat) ⟨by dsimp only;omega,by dsimp only;omega,fun q=>?_⟩ (by dsimp only;omega) ?_
 ·simp only[Bool.or_eq_false_iff,bne_eq_false_iff_eq] at q
  exact q.1.1.1.1.1
 rintro ⟨b,t⟩ ⟨g1,g2,g3⟩
 dsimp only at g1 g2 g3 ⊢
 refine bL.ite (fun e1=>?_) (fun e1=>bL.ret (sE.l (sE.l g3)))
 simp only[aB] at e1
 refine bL.bZ (fun v:Bool=>v=false→kd u (kY u (dc u d).fV)=3) (bL.bN (bL.bW (by rw[bT (by omega)];simp) (bL.bW (by rw[bT (by omega)];simp) (bL.bX (bL.bO (bL.ret (sE.r ?_))))))) (fun v hv=>by rw[wr (by omega) (by omega)];exact bL.ret (sE.r ⟨⟨by dsimp only;omega,by dsimp only;omega,hv⟩,by dsimp only;omega⟩))
 intro q
 simp only[Bool.or_eq_false_iff] at q
 exact g3 q.1
structure Cls (u:cM) (d:Int):Prop where
 base:(dc u d).fV=[]∨(kd u (kY u (dc u d).fV)=2∧kY u (dc u d).fV<d)
 vars:∀ x∈(dc u d).cH,tyF x.cO
 over:∀ m∈(dc u d).bQ,tC u d m
theorem aPV {K:Nat} {u:cM} {d:Int} (hK:101000000<K) (hk:kd u d=2) (hs:Sz8 (dc u d)) (h:Sm u):cR (aOw K u d) (fun v=>v=0→Cls u d):=by
 have hd:=gA hk (by decide)
 have hul:=h.len
 have wJ:=h.aAG d
 refine cR.of ?_
 unfold aOw
 refine bL.bW (bT hd) (bL.bX (bL.bO ?_))
 refine bL.bZ (fun _=>(dc u d).fV=[]∨(kd u (kY u (dc u d).fV)=2∧kY u (dc u d).fV<d)) ?_ (fun _ hbase=>?_)
 ·refine bL.ite (fun e=>bL.bO ?_) (fun e=>?_)
  ·refine bL.iO (kA (by omega) (by assumption)) ?_
   refine bL.iO (kB) ?_
   refine bL.bW ?_ (bL.bX (bL.bO (bL.ite (fun e2=>?_) (fun e2=>?_))))
   ·by_cases q:kd u (kY u (dc u d).fV)=2
    ·rw[bT (gA q (by decide))];simp
    ·have:(kd u (kY u (dc u d).fV) != 2)=true:=bne_iff_ne.2 q
     rw[this];simp
   ·exact T0
   ·simp only[aO,not_or,bne_iff_ne,ne_eq,Decidable.not_not,aB] at e2
    refine bL.ret (sE.r ?_)
    refine .inr ⟨e2.1.1,?_⟩
    show kY u (u.bM.getD d.toNat default).fV<d
    omega
  ·simp only[aP,Bool.not_eq_false,beq_iff_eq] at e
   refine bL.ret (sE.r ?_)
   exact .inl e
 have hfl:=hs.f
 refine bL.dI (bL.bN (bL.c7 ?_)) (fun _=>?_)
 ·refine bL.kS (dc u d).cK.length (by omega) (fun i hi=>?_) ?_
  ·have hi':i<(u.bM.getD d.toNat default).cK.length:=hi
   simp (disch:=omega) only[wr,Int.ofNat_eq_natCast]
   refine bL.bO (bL.dV (by simp only[aB];omega) ?_)
   refine bL.dI (bL.bN (bL.bW (bT (by omega)) (bL.bX (bL.bO ?_)))) (fun _=>by refine bL.ret (sE.r ?_);rfl)
   refine bL.aI0 rfl (kA (by omega) (by assumption)) ?_
   refine bL.cJ (by decide) kB ?_
   rintro _ rfl
   exact T0
  ·simp (disch:=omega) only[wr,Int.ofNat_eq_natCast]
   refine bL.bO (bL.dN (by simp only[aB];exact Int.lt_irrefl _) ?_)
   exact T0
 refine bL.bO (bL.call (oO (by omega) (show (dc u d).cK.length≤_ by omega)) (fun _ _=>?_))
 refine bL.ite (fun e=>by exact T0) (fun e=>?_)
 refine bL.call (aPN (by omega) hs h) (fun v hvars=>?_)
 refine bL.ite (fun e=>?_) (fun e=>?_)
 ·refine bL.ret (sE.l ?_)
  intro q
  exact absurd q (by simpa using e)
 have hvars:=hvars (by simpa using e)
 refine bL.call (aKl (by omega) h) ?_
 rintro _ rfl
 have hfd:=aC0 h d
 refine bL.call (yT (by omega) (by omega)) (fun v hv=>?_)
 refine bL.call (oO (by omega) (by omega)) (fun b1 _=>?_)
 refine bL.dA (fun _=>aCY (by omega) wJ) (fun v2 hv2=>?_)
 refine bL.dA (fun e=>oO (by omega) (by rw[hv2 e,aW];exact aR wJ (by omega))) (fun b2 _=>?_)
 refine bL.dI (bL.bN (bL.c7 ?_)) (fun _=>?_)
 ·refine bL.loop (fun t:Bool × Int=>0≤t.2∧t.2≤(dc u d).bQ.length) (fun t=>((dc u d).bQ.length - t.2).toNat) ⟨by dsimp only;omega,by dsimp only;omega⟩ (by dsimp only;omega) ?_
  rintro ⟨b,t⟩ ⟨g1,g2⟩
  dsimp only at g1 g2 ⊢
  simp (disch:=omega) only[wr,Int.ofNat_eq_natCast]
  refine bL.bO (bL.ite (fun e1=>?_) (fun e1=>by exact T0))
  have e1:t<(dc u d).bQ.length:=of_decide_eq_true e1
  refine bL.dI (bL.bN ?_) (fun _=>by refine bL.ret (sE.r ?_);exact ⟨⟨by dsimp only;omega,by dsimp only;omega⟩,by dsimp only;omega⟩)
  refine bL.dA (fun _=>aHi (by omega) h) (fun v3 hv3=>?_)
  refine bL.dA (fun e=>yT (by omega) (hv3 e)) (fun v4 hv4=>?_)
  refine bL.dA (fun e=>oO (by omega) (by rw[hv4 e];exact hv3 e)) (fun _ _=>?_)
  exact T0
 refine bL.ite (fun e=>by exact T0) (fun e=>?_)
 refine bL.call (aPO (by omega) hk h) (fun _ _=>?_)
 refine bL.ite (fun e=>by exact T0) (fun e=>?_)
 refine bL.call (aPP (by omega) hd hs h) (fun v aPW=>?_)
 refine bL.ite (fun e=>by exact T0) (fun e=>?_)
 have aPW:=aPW (by simpa using e)
 refine bL.call (aPR (by omega) h) (fun _ _=>?_)
 refine bL.ite (fun e=>by exact T0) (fun e=>?_)
 refine bL.dI (bL.bN (bL.c7 ?_)) (fun _=>by refine bL.ret (sE.l ?_);exact fun _=>⟨hbase,hvars,aPW⟩)
 refine bL.kS (dc u d).bQ.length (by omega) (fun i hi=>?_) ?_
 ·have hi':i<(u.bM.getD d.toNat default).bQ.length:=hi
  simp (disch:=omega) only[wr,Int.ofNat_eq_natCast]
  refine bL.bO (bL.dV (by simp only[aB];omega) ?_)
  refine bL.dI (bL.bN (bL.bW (bT (by omega)) (bL.bX (bL.bO (bL.ite (fun e=>?_) (fun e=>?_)))))) (fun _=>by refine bL.ret (sE.r ?_);rfl)
  ·refine bL.ret (sE.l (sE.l ?_));trivial
  ·refine bL.bW (bT (by omega)) (bL.bX (bL.bO ?_))
   have hb:=iT.bounds (h.m d (i:Int).toNat)
   refine bL.cJ (by decide) (aHa (by omega) hb.2.2 h) (fun v _=>?_)
   refine bL.ite (fun _=>bL.ret (sE.l (sE.r (sE.r ?_)))) (fun _=>bL.ret (sE.r ?_))
   ·rename_i e2
    intro q
    exact absurd q (by simpa using e2)
   ·trivial
 ·simp (disch:=omega) only[wr,Int.ofNat_eq_natCast]
  refine bL.bO (bL.dN (by simp only[aB];exact Int.lt_irrefl _) ?_)
  exact T0
end Go.Proofs.YtdbfbedholdjaaaGreat

namespace Go.Proofs.YtdbfbedholdjaaaGreat
open Go Go.Dl
variable [dK]
set_option maxRecDepth 100000
set_option maxHeartbeats 8000000
structure Ok8 (u:cM) (d:Int):Prop where
 kd:1≤kd u d∧kd u d≤4
 lim:d<12
 sz:Sz8 (dc u d)
 cls:Go.Proofs.YtdbfbedholdjaaaGreat.kd u d=2→Cls u d
 prg:Go.Proofs.YtdbfbedholdjaaaGreat.kd u d=3→∀ x∈(dc u d).cH,aEf x
 tsk:Go.Proofs.YtdbfbedholdjaaaGreat.kd u d=4→Go.Proofs.YtdbfbedholdjaaaGreat.kd u (kY u (dc u d).fV)=3
theorem aWO {u:cM} {d:Int} (h:0≤d∧d<u.bM.length):0≤kY u (dc u d).cD∧kY u (dc u d).cD≤d:=by
 have h1:(dc u d)∈u.bM:=c9 (by omega)
 have h0:0≤kY u (dc u d).cD:=aI1 h1 (beq_self_eq_true _)
 refine ⟨h0,?_⟩
 unfold kY ix at h0 ⊢
 split at h0
 ·rename_i e
  rw[aH e]
  refine Classical.byContradiction fun hlt=>?_
  have hlt:d.toNat<u.bM.findIdx (fun x:gX=>x.cD == (dc u d).cD):=by omega
  have:=List.not_of_lt_findIdx hlt
  have hd:u.bM[d.toNat]=dc u d:=by
   rw[dc,List.getD,aE (by omega)];rfl
  rw[hd] at this
  simp at this
 ·omega
theorem aSO {K:Nat} {u:cM} {d:Int} (hK:101000000<K) (hd:0≤d∧d<u.bM.length) (h:Sm u):cR (F77 K u d) (fun v=>v=0→Ok8 u d):=by
 have wJ:=h.aAG d
 have hkd:kd u d=(dc u d).bR:=by unfold kd;rw[aF (by omega)]
 refine cR.of ?_
 unfold F77
 refine bL.bW (by rw[bT hd];simp) (bL.bW (by rw[bT hd];simp) (bL.bX (bL.bO (bL.ite (fun e=>by exact T0) (fun e=>?_)))))
 simp only[aO,not_or,aB,Int.ofNat_eq_natCast] at e
 obtain ⟨⟨_,e1⟩,e2⟩:=e
 refine bL.bW (bT hd) (bL.bX ?_)
 refine bL.dA (fun _=>aPJ (by omega) wJ) (fun v hv=>?_)
 refine bL.ite (fun e=>by exact T0) (fun e=>bL.bO ?_)
 simp only[aO,not_or,aB,Bool.not_eq_true] at e
 obtain ⟨e3,e4⟩:=e
 have hsz:=hv (by simp;omega) e4
 have hs:Sz8 (dc u d):=⟨hsz.1,hsz.2.1,hsz.2.2.1,hsz.2.2.2⟩
 refine bL.iO (kA (by omega) (by assumption)) ?_
 refine bL.ite (fun e=>by exact T0) (fun e=>bL.bO ?_)
 simp only[aB] at e
 have hn:kY u (dc u d).cD=d:=by
  have h1:=(aWO hd).2
  have h2:¬ kY u (dc u d).cD<d:=e
  omega
 have hk:1≤kd u d∧kd u d≤4:=by
  rw[hkd]
  constructor
  ·show 1≤(u.bM.getD d.toNat default).bR;omega
  ·show (u.bM.getD d.toNat default).bR≤4;omega
 change bL (bP (bN (if (((dc u d).bR:Int) == 1)=true then _ else if (((dc u d).bR:Int) == 2)=true then _ else if (((dc u d).bR:Int) == 3)=true then _ else _)) _) _
 refine bL.bZ (fun _=>kd u d≠2∧kd u d≠3) (bL.bN ?_) (fun _ hq=>?_)
 ·refine bL.ite (fun e=>?_) (fun e=>?_)
  ·have e:=beq_iff_eq.1 e
   rw[← hkd] at e
   refine bL.call (aPL (by omega) wJ (fun m hm=>by have:=(hs.p m hm).1;omega) h) (fun _ _=>?_)
   refine bL.ret (sE.l (sE.r ?_))
   exact fun _=>⟨hk,by omega,hs,fun q=>by omega,fun q=>by omega,fun q=>by omega⟩
  refine bL.ite (fun e'=>?_) (fun e'=>?_)
  ·have e:=beq_iff_eq.1 e'
   rw[← hkd] at e
   refine bL.call (aPV (by omega) e hs h) (fun v hv=>?_)
   refine bL.ret (sE.l (sE.r ?_))
   exact fun q=>⟨hk,by omega,hs,fun _=>hv q,fun q=>by omega,fun q=>by omega⟩
  refine bL.ite (fun e''=>?_) (fun e''=>?_)
  ·have e:=beq_iff_eq.1 e''
   rw[← hkd] at e
   refine bL.call (aPT (by omega) hd h) (fun v hv=>?_)
   refine bL.ret (sE.l (sE.r ?_))
   exact fun q=>⟨hk,by omega,hs,fun q=>by omega,fun _=>hv q,fun q=>by omega⟩
  ·simp only[beq_iff_eq] at e' e''
   refine bL.ret (sE.r ?_)
   exact ⟨by rw[hkd];exact e',by rw[hkd];exact e''⟩
 ·refine bL.call (aPU (by omega) hd h) (fun v hv=>?_)
  refine bL.ret (sE.l ?_)
  exact fun q0=>⟨hk,by omega,hs,fun q=>absurd q hq.1,fun q=>absurd q hq.2,fun _=>hv q0⟩
def Wf (u:cM):Prop:=∀ d:Int,0≤d∧d<u.bM.length→Ok8 u d
theorem aSP {K:Nat} {u:cM} (hK:101000000<K) (h:Sm u):cR (F34 K u) (fun v=>(v=[]→Wf u)∧v.length≤6004∧∀ w∈v,0≤w.fAt∧w.fAt<u.bM.length):=by
 have hul:=h.len
 refine cR.of ?_
 unfold F34
 refine bL.bZ (fun v:List uJ=>(v=[]→Wf u)∧v.length≤6004∧∀ w∈v,0≤w.fAt∧w.fAt<u.bM.length) (bL.bN (bL.c7 ?_)) (fun v hv=>by refine bL.ret (sE.l ?_);exact hv)
 refine bL.loop (fun t:List uJ × Int=>0≤t.2∧t.2≤u.bM.length∧(t.1=[]→∀ d:Int,0≤d∧d<t.2→Ok8 u d)∧(t.1.length:Int)≤t.2∧∀ w∈t.1,0≤w.fAt∧w.fAt<u.bM.length) (fun t=>(u.bM.length - t.2).toNat) ⟨by simp,by simp,fun _ d hd=>by simp only at hd;omega,by simp,fun w hw=>by cases hw⟩ (by simp;omega) ?_
 rintro ⟨o,t⟩ ⟨g1,g2,g3,g4,g5⟩
 dsimp only at g1 g2 g3 g4 g5 ⊢
 simp (disch:=omega) only[wr,Int.ofNat_eq_natCast]
 refine bL.bO (bL.ite (fun e1=>?_) (fun e1=>?_))
 ·simp only[aB] at e1
  refine bL.bZ (fun o2:List uJ=>(o2=[]→∀ d:Int,0≤d∧d<t+1→Ok8 u d)∧(o2.length:Int)≤t+1∧∀ w∈o2,0≤w.fAt∧w.fAt<u.bM.length) (bL.bN ?_) (fun o2 ho=>?_)
  ·refine bL.call (aSO hK ⟨g1,e1⟩ h) (fun v hv=>?_)
   refine bL.ite (fun e2=>bL.bW (cP ?_) (bL.bX ?_)) (fun e2=>?_)
   ·show (o.length+1) * 16≤_
    omega
   ·refine bL.ret (sE.r ?_)
    refine ⟨fun q=>?_,?_,?_⟩
    ·exact absurd q (by simp)
    ·rw[aD,List.length_singleton];omega
    ·intro w hw
     rcases aX.1 hw with hw | hw
     ·exact g5 w hw
     ·rw[aL.1 hw];exact ⟨g1,e1⟩
   ·have hv:=hv (by simpa using e2)
    refine bL.ret (sE.r ?_)
    refine ⟨fun q d hd=>?_,by omega,g5⟩
    by_cases hdt:d=t
    ·subst hdt;exact hv
    ·exact g3 q d (by omega)
  ·refine bL.ret (sE.r ?_)
   exact ⟨⟨by dsimp only;omega,by dsimp only;omega,ho.1,ho.2.1,ho.2.2⟩,by dsimp only;omega⟩
 ·simp only[aB] at e1
  refine bL.ret (sE.l (sE.l ?_))
  refine ⟨fun q d hd=>g3 q d (by omega),?_,g5⟩
  show o.length≤_
  omega
end Go.Proofs.YtdbfbedholdjaaaGreat
