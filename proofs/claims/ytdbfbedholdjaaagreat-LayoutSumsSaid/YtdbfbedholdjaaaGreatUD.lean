/- No conditions. -/
import Derived.Test.YtdbfbedholdjaaaGreatUC
import Derived.Test.YtdbfbedholdjaaaGreatLE
import Derived.Test.YtdbfbedholdjaaaGreatLL
set_option linter.unusedVariables false
set_option linter.unusedSimpArgs false
set_option linter.unusedSectionVars false
namespace Go.Proofs.YtdbfbedholdjaaaGreat
open Go Go.Dl
variable [eC]
set_option maxRecDepth 100000
set_option maxHeartbeats 8000000
theorem aPi {K:Nat} {u:dD} {w:dX} {e:cM} (hK:40100000<K) (he:e.sz≤6004) (h:Sm u):dG (aIS K u w e) (fun _=>True):=by
 refine dG.of ?_
 unfold aIS
 refine bJ.call (aD3 hK he h) (fun _ _=>?_)
 exact T0
theorem cJ.szq (s:cJ):s.sz=1+cM.jF s.cT+qY s.eP+cJ.lS s.bX:=by cases s;rw[cJ.sz]
theorem aJt:∀ {l:List cJ} {x:cJ},x∈l→x.sz≤cJ.jF l
 | y::r,x,h=>by
   rw[cJ.jF]
   rcases bE.1 h with rfl | h
   ·omega
   ·have:=aJt h;omega
theorem aAI:∀ {l:List (List cJ)} {x:List cJ},x∈l→cJ.jF x+1≤cJ.lS l
 | y::r,x,h=>by
   rw[cJ.lS]
   rcases bE.1 h with rfl | h
   ·omega
   ·have:=aAI h;omega
theorem aHF:∀ {l:List (List Int)} {x:List Int},x∈l→x.length≤qY l
 | y::r,x,h=>by
   rw[qY]
   rcases bE.1 h with rfl | h
   ·omega
   ·have:=aHF h;omega
theorem aPk {K:Nat} {u:dD} {w:dX} {s:cJ} (hK:40100000<K) (hs:s.sz≤6004) (h:Sm u) (hw:Plc u w):dG (aNS K u w s) (fun _=>True):=by
 refine dG.of ?_
 unfold aNS
 have hq:=s.szq
 have hl:=oE s.cT
 refine bJ.eE ?_ (fun p=>?_)
 ·refine bJ.ite (fun e=>?_) (fun e=>?_)
  ·simp only[aB] at e
   have hv:Vw u w:=by
    rcases hw with hw | hw
    ·exact hw.2
    ·omega
   refine bJ.bW (bV hv.1) (bJ.bW (bV hv.2) (bJ.cC ?_))
   exact T0
  ·exact T0
 ·refine bJ.ite (fun e=>?_) (fun e=>?_)
  ·exact T0
  ·simp only[beq_iff_eq,Int.ofNat_eq_natCast] at e
   have hm:=p7 (eA (d:=default) (show (0:Int).toNat<s.cT.length by simp;omega))
   refine bJ.bW (bV (by omega)) (bJ.cC ?_)
   refine bJ.call (aD3 hK (by omega) h) (fun _ _=>?_)
   refine bJ.ite (fun e=>?_) (fun e=>?_)
   ·exact T0
   refine bJ.cF (fun _=>aD4 (by omega) h) (fun _ _=>?_)
   exact T0
structure Shp (s:cJ):Prop where
 k1:s.bP=1∨s.bP=3∨s.bP=4→s.cT.length=1
 k2:s.bP=2∨s.bP=11→s.cT.length=2
 k5:s.bP=5→1≤s.cT.length∧s.bX.length=s.cT.length+1
 k6:s.bP=6→s.cT.length=1
 k7:s.bP=7→s.cT.length=1∧s.bX.length=1
 k8:s.bP=8→s.cT.length=2∧s.bX.length=1
theorem aPl {K:Nat} {s:cJ} (hK:100000<K) (hs:s.sz≤7000):dG (aNT K s) (fun v=>v=true→Shp s):=by
 refine dG.of ?_
 unfold aNT
 have hq:=s.szq
 have hl:=oE s.cT
 have hb:=aD5 s.eP
 refine bJ.ite (fun e=>?_) (fun e=>?_)
 ·refine bJ.eE (bJ.bL (bJ.dN ?_)) (fun _=>?_)
  ·refine bJ.loop (fun t:Int=>0≤t∧t≤s.eP.length) (fun t=>(s.eP.length - t).toNat) ⟨by simp,by simp⟩ (by simp;omega) (fun t ⟨h1,h2⟩=>?_)
   simp (disch:=omega) only[wr,Int.ofNat_eq_natCast]
   refine bJ.bO (bJ.ite (fun e6=>?_) (fun e6=>?_))
   ·simp only[aB] at e6
    refine bJ.eE (bJ.bL (bJ.bW (bV (by omega)) (bJ.cC (bJ.bO (bJ.ite (fun e7=>?_) (fun e7=>?_)))))) (fun _=>?_)
    ·exact T0
    ·exact T0
    ·refine bJ.ret (sE.r ?_)
     exact ⟨⟨by omega,by omega⟩,by omega⟩
   ·exact T0
  ·refine bJ.bO ?_
   simp (disch:=omega) only[wr,Int.ofNat_eq_natCast]
   refine bJ.ret (sE.l ?_)
   intro h
   simp only[beq_iff_eq,aC] at e h
   constructor <;> omega
 ·refine bJ.bO (bJ.ite (fun e=>?_) (fun e=>?_))
  ·exact T0
  simp (disch:=omega) only[wr,Int.ofNat_eq_natCast]
  refine bJ.eE (bJ.bL ?_) (fun _=>by exact T0)
  refine bJ.cN (fun b=>b=true↔s.bP=1∨s.bP=3) ?_ (fun b hb1=>?_)
  ·refine bJ.ite (fun _=>bJ.ret (sE.r ?_)) (fun _=>bJ.ret (sE.r ?_))
   all_goals simp only[beq_iff_eq] at *
   all_goals omega
  refine bJ.ite (fun e1=>?_) (fun e1=>?_)
  ·have hk:=hb1.1 e1
   refine bJ.bO (bJ.ret (sE.l (sE.r ?_)))
   intro h
   simp only[beq_iff_eq,aC] at h
   constructor <;> omega
  have hn1:¬ (s.bP=1∨s.bP=3):=fun q=>e1 (hb1.2 q)
  refine bJ.cN (fun b=>b=true↔s.bP=2∨s.bP=11) ?_ (fun b hb1=>?_)
  ·refine bJ.ite (fun _=>bJ.ret (sE.r ?_)) (fun _=>bJ.ret (sE.r ?_))
   all_goals simp only[beq_iff_eq] at *
   all_goals omega
  refine bJ.ite (fun e1=>?_) (fun e1=>?_)
  ·have hk:=hb1.1 e1
   refine bJ.bO (bJ.ret (sE.l (sE.r ?_)))
   intro h
   simp only[beq_iff_eq,aC] at h
   constructor <;> omega
  have hn2:¬ (s.bP=2∨s.bP=11):=fun q=>e1 (hb1.2 q)
  refine bJ.ite (fun e1=>?_) (fun e1=>?_)
  ·refine bJ.bO (bJ.bW ?_ ?_)
   ·by_cases q:s.cT.length=1
    ·rw[bV (by omega)];simp
    ·have:(((s.cT.length:Int) == 1)=false):=beq_eq_false_iff_ne.2 (by omega)
     rw[this];rfl
   ·refine bJ.cC (bJ.bO (bJ.ret (sE.l (sE.r ?_))))
    intro h
    simp only[beq_iff_eq,aC] at h e1
    constructor <;> omega
  refine bJ.ite (fun _=>bJ.bO (bJ.ret (sE.l (sE.r ?_)))) (fun _=>bJ.ite (fun _=>bJ.bO (bJ.ret (sE.l (sE.r ?_)))) (fun _=>bJ.ite (fun _=>bJ.bO (bJ.ret (sE.l (sE.r ?_)))) (fun _=>bJ.ite (fun _=>bJ.bO (bJ.ret (sE.l (sE.r ?_)))) (fun _=>bJ.ite (fun _=>bJ.bO (bJ.ret (sE.l (sE.r ?_)))) (fun _=>bJ.ret (sE.r ?_))))))
  all_goals try trivial
  all_goals
   intro h
   simp only[beq_iff_eq,aC,aB] at *
   constructor <;> omega
theorem bJ.mA {A:Type} {K:Nat} {f:Int→Option (A ⊕ Int)} {p:A→Prop} (n:Nat) (hK:n<K) (hs:∀ i:Nat,i<n→bJ (f i) (sE p (fun t=>t=(i:Int)+1))) (he:bJ (f n) (sE p (fun _=>False))):bJ (iter K f 0) p :=
 bJ.up n hK (fun i hi=>(hs i hi).aAH (by rintro (a | t) h;exact h;exact ⟨h,trivial⟩)) he
theorem st7:∀ k:Nat,(∀ (u:dD) (w:dX) (l:List cJ) (b:Bool),Sm u→Plc u w→cJ.jF l≤6004→3 * cJ.jF l+100000002<k→dG (yX k u w l b) (fun _=>True)) ∧
 (∀ (u:dD) (w:dX) (s:cJ) (b:Bool),Sm u→Plc u w→s.sz≤6004→3 * s.sz+100000001<k→dG (aL5 k u w s b) (fun _=>True)) ∧
 (∀ (u:dD) (w:dX) (s:cJ),Sm u→Plc u w→s.sz≤6004→Shp s→s.bP=1∨s.bP=2∨s.bP=3∨s.bP=8∨s.bP=11→3 * s.sz+100000000<k→dG (aL6 k u w s) (fun _=>True)) ∧
 (∀ (u:dD) (w:dX) (s:cJ) (b:Bool),Sm u→Plc u w→s.sz≤6004→Shp s→s.bP=6→3 * s.sz+100000000<k→dG (aL7 k u w s b) (fun _=>True))
 | 0=>⟨fun _ _ _ _ _ _ _ h=>by omega,fun _ _ _ _ _ _ _ h=>by omega,fun _ _ _ _ _ _ _ _ h=>by omega,fun _ _ _ _ _ _ _ _ _ h=>by omega⟩
 | k+1=>by
   obtain ⟨ih1,ih2,ih3,ih4⟩:=st7 k
   refine ⟨fun u w l b h hp hz hk=>?_,fun u w s b h hp hz hk=>?_,fun u w s h hp hz hs hq hk=>?_,fun u w s b h hp hz hs hq hk=>?_⟩
   ·refine dG.of ?_
    rw[yX]
    have hl:=aJu l
    refine bJ.eE (bJ.bL (bJ.dN ?_)) (fun _=>by exact T0)
    refine bJ.mA l.length (by omega) (fun i hi=>?_) ?_
    ·simp (disch:=omega) only[wr,Int.ofNat_eq_natCast]
     refine bJ.bO (bJ.eX (by simp only[aB];omega) ?_)
     refine bJ.eE (bJ.bL (bJ.bW (bV (by omega)) (bJ.cC ?_))) (fun _=>?_)
     ·rw[Int.toNat_natCast]
      have hm:=aJt (eA (d:=default) hi)
      refine bJ.dB (by decide) (ih2 u w _ b h hp (by omega) (by omega)) (fun _ _=>?_)
      exact T0
     ·refine bJ.ret (sE.r ?_);rfl
    ·simp (disch:=omega) only[wr,Int.ofNat_eq_natCast]
     refine bJ.bO (bJ.fC (by simp) ?_)
     exact T0
   ·refine dG.of ?_
    rw[aL5]
    have hsz:=s.szq
    have hl:=oE s.cT
    have hbl:=aCF s.bX
    refine bJ.call (aPl (by omega) (by omega)) (fun v hv=>?_)
    refine bJ.ite (fun e=>?_) (fun e=>?_)
    ·exact T0
    have hs:=hv (by simpa using e)
    have hblk:∀ (i:Nat) (b:Bool),i<s.bX.length→dG (yX k u w (s.bX.getD i default) b) (fun _=>True):=fun i b hi=>by
     have:=aAI (eA (d:=default) hi)
     exact ih1 u w _ b h hp (by omega) (by omega)
    have hex:∀ i:Nat,i<s.cT.length→dG (aIS k u w (s.cT.getD i default)) (fun _=>True):=fun i hi=>by
     have:=p7 (eA (d:=default) hi)
     exact aPi (by omega) (by omega) h
    refine bJ.eE (bJ.bL ?_) (fun _=>by exact T0)
    refine bJ.cN (fun b=>b=true→s.bP=1∨s.bP=2∨s.bP=3∨s.bP=8∨s.bP=11) ?_ (fun bb hb1=>?_)
    ·refine bJ.ite (fun _=>bJ.ret (sE.r ?_)) (fun _=>bJ.ite (fun _=>bJ.ret (sE.r ?_)) (fun _=>bJ.ite (fun _=>bJ.ret (sE.r ?_)) (fun _=>bJ.ite (fun _=>bJ.ret (sE.r ?_)) (fun _=>bJ.ret (sE.r ?_)))))
     all_goals simp only[beq_iff_eq] at *
     all_goals omega
    refine bJ.ite (fun e1=>?_) (fun e1=>?_)
    ·refine bJ.call (ih3 u w s h hp hz hs (hb1 e1) (by omega)) (fun _ _=>?_)
     exact T0
    refine bJ.ite (fun e1=>?_) (fun e1=>?_)
    ·have h1:=hs.k1 (.inr (.inr (beq_iff_eq.1 e1)))
     have hm:=p7 (eA (d:=default) (show (0:Int).toNat<s.cT.length by simp;omega))
     refine bJ.bW (bV (by omega)) (bJ.cC ?_)
     refine bJ.call (aPm (by omega) (by omega) h) (fun _ _=>?_)
     exact T0
    refine bJ.ite (fun e1=>?_) (fun e1=>?_)
    ·have h1:=hs.k5 (beq_iff_eq.1 e1)
     refine bJ.eE (bJ.bL (bJ.dN ?_)) (fun _=>?_)
     ·refine bJ.mA s.cT.length (by omega) (fun i hi=>?_) ?_
      ·simp (disch:=omega) only[wr,Int.ofNat_eq_natCast]
       refine bJ.bO (bJ.eX (by simp only[aB];omega) ?_)
       refine bJ.eE (bJ.bL (bJ.bW (bV (by omega)) (bJ.cC ?_))) (fun _=>?_)
       ·rw[Int.toNat_natCast]
        refine bJ.dB (by decide) (hex i hi) (fun _ _=>?_)
        refine bJ.ite (fun e2=>?_) (fun e2=>?_)
        ·exact T0
        refine bJ.bW (bV (by omega)) (bJ.cC ?_)
        refine bJ.dB (by decide) (hblk i b (by omega)) (fun _ _=>?_)
        exact T0
       ·refine bJ.ret (sE.r ?_);rfl
      ·simp (disch:=omega) only[wr,Int.ofNat_eq_natCast]
       refine bJ.bO (bJ.fC (by simp) ?_)
       exact T0
     ·refine bJ.bW (bV (by simp only[Int.ofNat_eq_natCast];omega)) (bJ.cC (bJ.bO ?_))
      refine bJ.dB (by decide) (hblk s.cT.length b (by omega)) (fun _ _=>?_)
      exact T0
    refine bJ.ite (fun e1=>?_) (fun e1=>?_)
    ·refine bJ.call (ih4 u w s b h hp hz hs (beq_iff_eq.1 e1) (by omega)) (fun _ _=>?_)
     exact T0
    refine bJ.ite (fun e1=>?_) (fun e1=>?_)
    ·have h1:=hs.k7 (beq_iff_eq.1 e1)
     refine bJ.bW (bV (by omega)) (bJ.cC ?_)
     refine bJ.dB (by decide) (hex _ (by simp;omega)) (fun _ _=>?_)
     refine bJ.ite (fun e2=>?_) (fun e2=>?_)
     ·exact T0
     refine bJ.bW (bV (by omega)) (bJ.cC ?_)
     refine bJ.dB (by decide) (hblk _ _ (by simp;omega)) (fun _ _=>?_)
     exact T0
    refine bJ.ite (fun e1=>?_) (fun e1=>?_)
    ·refine bJ.call (aPk (by omega) hz h hp) (fun _ _=>?_)
     exact T0
    ·exact T0
   ·refine dG.of ?_
    rw[aL6]
    have hsz:=s.szq
    have hl:=oE s.cT
    refine bJ.call (aD6 (by omega) h) (fun r1 _=>?_)
    refine bJ.ite (fun e=>?_) (fun e=>?_)
    ·exact T0
    have a1:=hs.k1
    have a2:=hs.k2
    have a8:=hs.k8
    refine bJ.cN (fun v:Bool × Int=>v.2=s.cT.length) (bJ.bL ?_) ?_
    ·refine bJ.ite (fun _=>bJ.ret (sE.r ?_)) (fun _=>bJ.ite (fun _=>bJ.ret (sE.r ?_)) (fun _=>bJ.ite (fun _=>bJ.ret (sE.r ?_)) (fun _=>bJ.ite (fun _=>bJ.bO (bJ.ret (sE.r ?_))) (fun _=>bJ.ite (fun _=>bJ.ret (sE.r ?_)) (fun _=>bJ.ret (sE.r ?_))))))
     all_goals try trivial
     all_goals simp only[beq_iff_eq] at *
     all_goals omega
    rintro ⟨b,n⟩ hn
    dsimp only at hn ⊢
    refine bJ.ite (fun e=>?_) (fun e=>?_)
    ·exact T0
    refine bJ.bW ?_ (bJ.cC ?_)
    ·simp only[c9,aC,aB];omega
    have hsub:=aK0 s.cT (0:Int).toNat (n.toNat - (0:Int).toNat)
    refine bJ.call (aPn (by omega) (by omega) h) (fun r5 hr=>?_)
    refine bJ.ite (fun e=>?_) (fun e=>?_)
    ·exact T0
    have hr':=hr (by simpa using e)
    rw[aR,bI] at hr'
    have hlen:r5.1.length=s.cT.length:=by
     rw[hr',hn];simp
    refine bJ.eE (bJ.bL ?_) (fun b2=>?_)
    ·refine bJ.ite (fun e=>?_) (fun e=>?_)
     ·have:=a1 (.inl (beq_iff_eq.1 e))
      refine bJ.bW (bV (by omega)) (bJ.cC ?_)
      refine bJ.dB (by decide) (aD4 (by omega) h) (fun _ _=>?_)
      exact T0
     refine bJ.ite (fun e=>?_) (fun e=>?_)
     ·have:=a1 (.inr (.inl (beq_iff_eq.1 e)))
      refine bJ.bW (bV (by omega)) ?_
      exact T0
     have hex:r5.1.length=2:=by
      simp only[beq_iff_eq] at *
      rcases hq with q | q | q | q | q
      ·omega
      ·have:=a2 (.inl q);omega
      ·omega
      ·have:=a8 q;omega
      ·have:=a2 (.inr q);omega
     refine bJ.ite (fun e=>?_) (fun e=>?_)
     ·refine bJ.bW (bV (by omega)) (bJ.bW (by rw[bV (by omega)];simp) ?_)
      exact T0
     ·refine bJ.bW (bV (by omega)) (bJ.bW (by rw[bV (by omega)];simp) ?_)
      exact T0
    ·refine bJ.ite (fun e=>?_) (fun e=>?_)
     ·exact T0
     refine bJ.ite (fun e=>?_) (fun e=>?_)
     ·have h8:=a8 (beq_iff_eq.1 e)
      have hm:=aAI (eA (d:=default) (show (0:Int).toNat<s.bX.length by simp;omega))
      refine bJ.bW (bV (by omega)) (bJ.cC ?_)
      refine bJ.dB (by decide) (ih1 u w _ _ h hp (by omega) (by omega)) (fun _ _=>?_)
      exact T0
     ·exact T0
   ·refine dG.of ?_
    rw[aL7]
    have hsz:=s.szq
    have hl:=oE s.cT
    have hbl:=aCF s.bX
    have a2q:=aD5 s.eP
    have h6:=hs.k6 hq
    have hm:=p7 (eA (d:=default) (show (0:Int).toNat<s.cT.length by simp;omega))
    refine bJ.bW (bV (by omega)) (bJ.cC ?_)
    refine bJ.call (aD3 (by omega) (by omega) h) (fun _ _=>?_)
    refine bJ.ite (fun e=>?_) (fun e=>?_)
    ·exact T0
    refine bJ.ite (fun e=>?_) (fun e=>?_)
    ·exact T0
    refine bJ.eE (bJ.bL (bJ.dN ?_)) (fun _=>?_)
    ·refine bJ.loop (fun t:List Int × Int=>0≤t.2∧t.2≤s.eP.length∧(t.1.length:Int)≤7000 * t.2) (fun t=>(s.eP.length - t.2).toNat) ⟨by simp,by simp,by simp⟩ (by simp;omega) ?_
     rintro ⟨out,t⟩ ⟨g1,g2,g3⟩
     dsimp only at g1 g2 g3 ⊢
     obtain ⟨n,rfl⟩:=aJ g1
     simp (disch:=omega) only[wr,Int.ofNat_eq_natCast]
     refine bJ.bO (bJ.ite (fun e1=>?_) (fun e1=>?_))
     ·simp only[aB] at e1
      have zE:=aHF (eA (d:=default) (show n<s.eP.length by omega))
      refine bJ.cN (fun o:List Int=>(o.length:Int)≤7000 * n+7000) (bJ.bL ?_) ?_
      ·refine bJ.cN (fun o:List Int=>(o.length:Int)≤7000 * n+7000) (bJ.bL (bJ.dN ?_)) (fun o ho=>by refine bJ.ret (sE.r ?_);exact ho)
       refine bJ.loop (fun t:List Int × Int=>0≤t.2∧t.2≤(s.eP.getD n default).length∧(t.1.length:Int)≤7000 * n+t.2) (fun t=>((s.eP.getD n default).length - t.2).toNat) ⟨by simp,by dsimp only;omega,by dsimp only;omega⟩ (by dsimp only;omega) ?_
       rintro ⟨o2,t2⟩ ⟨k1,k2,k3⟩
       dsimp only at k1 k2 k3 ⊢
       rw[Int.toNat_natCast]
       refine bJ.bW (bV (by omega)) (bJ.cC ?_)
       simp (disch:=omega) only[wr,Int.ofNat_eq_natCast]
       refine bJ.bO (bJ.ite (fun e2=>?_) (fun e2=>?_))
       ·simp only[aB] at e2
        refine bJ.cN (fun o:List Int=>(o.length:Int)≤7000 * n+t2+1) (bJ.bL ?_) ?_
        ·refine bJ.bW (bV (by omega)) (bJ.bW (bV (by omega)) (bJ.cC (bJ.bO ?_)))
         refine bJ.eE (bJ.bL (bJ.dN ?_)) (fun _=>?_)
         ·refine bJ.mA o2.length (by omega) (fun i hi=>?_) ?_
          ·simp (disch:=omega) only[wr,Int.ofNat_eq_natCast]
           refine bJ.bO (bJ.eX (by simp only[aB];omega) ?_)
           refine bJ.eE (bJ.bL (bJ.bW (bV (by omega)) (bJ.cC ?_))) (fun _=>?_)
           ·exact T0
           ·refine bJ.ret (sE.r ?_);rfl
          ·simp (disch:=omega) only[wr,Int.ofNat_eq_natCast]
           refine bJ.bO (bJ.fC (by simp) ?_)
           exact T0
         ·refine bJ.bO (bJ.ite (fun e3=>?_) (fun e3=>?_))
          ·exact T0
          ·refine bJ.bW (eB ?_) (bJ.cC ?_)
           ·simp only[List.length_singleton];omega
           ·refine bJ.ret (sE.r ?_)
            rw[aE,List.length_singleton];omega
        ·intro o ho
         refine bJ.ret (sE.r ?_)
         exact ⟨⟨by dsimp only;omega,by dsimp only;omega,by dsimp only;omega⟩,by dsimp only;omega⟩
       ·simp only[aB] at e2
        refine bJ.ret (sE.l (sE.l ?_))
        show (o2.length:Int)≤_
        omega
      ·intro o ho
       refine bJ.ret (sE.r ?_)
       exact ⟨⟨by dsimp only;omega,by dsimp only;omega,by dsimp only;omega⟩,by dsimp only;omega⟩
     ·exact T0
    ·refine bJ.eE (bJ.bL (bJ.dN ?_)) (fun _=>by exact T0)
     refine bJ.mA s.bX.length (by omega) (fun i hi=>?_) ?_
     ·simp (disch:=omega) only[wr,Int.ofNat_eq_natCast]
      refine bJ.bO (bJ.eX (by simp only[aB];omega) ?_)
      refine bJ.eE (bJ.bL (bJ.bW (bV (by omega)) (bJ.cC (bJ.bO ?_)))) (fun _=>?_)
      ·rw[Int.toNat_natCast]
       have hm:=aAI (eA (d:=default) hi)
       refine bJ.dB (by decide) (ih1 u w _ b h hp (by omega) (by omega)) (fun _ _=>?_)
       exact T0
      ·refine bJ.ret (sE.r ?_);rfl
     ·simp (disch:=omega) only[wr,Int.ofNat_eq_natCast]
      refine bJ.bO (bJ.fC (by simp) ?_)
      exact T0
theorem aHG {K:Nat} {u:dD} {w:dX} {l:List cJ} (hK:100100000<K) (hl:cJ.jF l≤6004) (h:Sm u):dG (aL8 K u w l) (fun _=>True):=by
 refine dG.of ?_
 unfold aL8
 refine bJ.call aAJ (fun v hv=>?_)
 refine bJ.ite (fun e=>?_) (fun e=>?_)
 ·exact T0
 refine bJ.call ((st7 K).1 u w l false h (hv (by simpa using e)) hl (by omega)) (fun _ _=>?_)
 exact T0
end Go.Proofs.YtdbfbedholdjaaaGreat

namespace Go.Proofs.YtdbfbedholdjaaaGreat
open Go Go.Dl
variable [eC]
set_option maxRecDepth 100000
set_option maxHeartbeats 8000000
theorem gN {α:Type} {l:List α} {n:Nat} (z:α) (h:n<l.length):l.take (n+1)=l.take n++[l.getD n z]:=by
 rw[List.getD,aD h,Option.getD_some,List.take_add_one,aD h];rfl
theorem aPo {K:Nat} {d:jX} (hK:100000<K) (h:d.bN.length≤6004):dG (aNH K d) (fun v=>v=false→d.bN.length≤6∧d.dZ.length≤4∧d.cU.length≤8∧∀ m∈d.bN,m.cV.length≤3∧m.cU.length≤8):=by
 refine dG.of ?_
 unfold aNH
 refine bJ.bO (bJ.ite (fun e=>?_) (fun e=>?_))
 ·exact T0
 simp only[aM,aB,not_or,Int.ofNat_eq_natCast] at e
 refine bJ.cN (fun _=>∀ m∈d.bN,m.cV.length≤3∧m.cU.length≤8) (bJ.bL (bJ.dN ?_)) (fun _ h1=>?_)
 ·refine bJ.upP d.bN.length (fun i=>(d.bN.getD i default).cV.length≤3∧(d.bN.getD i default).cU.length≤8) (by omega) (fun i hi=>?_) (fun hp=>?_)
  ·simp (disch:=omega) only[wr,Int.ofNat_eq_natCast]
   refine bJ.bO (bJ.eX (by simp only[aB];omega) ?_)
   rw[Int.toNat_natCast]
   refine bJ.cN (fun _=>(d.bN.getD i default).cV.length≤3∧(d.bN.getD i default).cU.length≤8) (bJ.bL (bJ.bW (bV (by omega)) (bJ.bW (by rw[bV (by omega)];simp) (bJ.cC (bJ.bO (bJ.ite (fun e2=>?_) (fun e2=>?_))))))) (fun _ h2=>?_)
   ·exact T0
   ·simp only[aM,aB,not_or] at e2
    refine bJ.ret (sE.r ?_)
    exact ⟨by omega,by omega⟩
   ·refine bJ.ret (sE.r ?_);exact ⟨rfl,h2⟩
  ·simp (disch:=omega) only[wr,Int.ofNat_eq_natCast]
   refine bJ.bO (bJ.fC (by simp) ?_)
   refine bJ.ret (sE.l (sE.l ?_))
   exact wX (d:=default) hp
 ·refine bJ.ret (sE.l ?_)
  exact fun _=>⟨by omega,by omega,by omega,h1⟩
theorem aHH {K:Nat} {u:dD} {s:Bytes} {b:Bool} (hK:100000<K) (h:Sm u):dG (aLX K u s b) (fun v=>v=true→kd u (fnd u s)≠0):=by
 refine dG.of ?_
 unfold aLX
 refine bJ.aJv rfl (lT (by omega) (by assumption)) ?_
 refine bJ.dB (by decide) lU ?_
 rintro _ rfl
 refine bJ.bO (bJ.ret (sE.l ?_))
 intro e
 simp only[aM,beq_iff_eq,aC] at e
 omega
def tyP (t:fP):Prop:=t.bP=1∨t.bP=2∨t.bP=5
def tyF (t:fP):Prop:=tyP t∨t.bP=3∨(t.bP=4∧0≤t.vG∧t.vG<8)
def tyV (t:fP):Prop:=tyF t∨t.bP=6∨t.bP=7
theorem aHI {K:Nat} {u:dD} {t:fP} (hK:100000<K) (h:Sm u):dG (aLY K u t) (fun v=>v=true→tyP t):=by
 refine dG.of ?_
 unfold aLY
 refine bJ.bO (bJ.cF (fun _=>aHH hK h) (fun _ _=>?_))
 refine bJ.ret (sE.l ?_)
 intro e
 simp only[aM,beq_iff_eq,aC] at e
 unfold tyP;omega
theorem aPp {K:Nat} {t:fP}:dG (aNI K t) (fun _=>True):=by
 refine dG.of ?_
 unfold aNI
 exact T0
theorem aHJ {K:Nat} {u:dD} {m:iI} (hK:100000<K) (hm:m.cV.length≤6004) (h:Sm u):dG (aLZ K u m) (fun _=>True):=by
 refine dG.of ?_
 unfold aLZ
 refine bJ.eE (bJ.bL (bJ.dN ?_)) (fun _=>?_)
 ·refine bJ.mA m.cV.length (by omega) (fun i hi=>?_) ?_
  ·simp (disch:=omega) only[wr,Int.ofNat_eq_natCast]
   refine bJ.bO (bJ.eX (by simp only[aB];omega) ?_)
   refine bJ.eE (bJ.bL (bJ.bW (bV (by omega)) (bJ.cC ?_))) (fun _=>?_)
   ·refine bJ.dB (by decide) (aHI (by omega) h) (fun _ _=>?_)
    exact T0
   ·refine bJ.ret (sE.r ?_);rfl
  ·simp (disch:=omega) only[wr,Int.ofNat_eq_natCast]
   refine bJ.bO (bJ.fC (by simp) ?_)
   exact T0
 ·refine bJ.call aPp (fun _ _=>?_)
  exact T0
theorem qZ {K:Nat} {l:List Bytes} (hK:100000000<K) (hl:l.length≤36200000):dG (aDq K l) (fun _=>True):=by
 refine dG.of ?_
 unfold aDq
 refine bJ.eE (bJ.bL (bJ.dN ?_)) (fun _=>by exact T0)
 refine bJ.mA l.length (by omega) (fun i hi=>?_) ?_
 ·simp (disch:=omega) only[wr,Int.ofNat_eq_natCast]
  refine bJ.bO (bJ.eX (by simp only[aB];omega) ?_)
  refine bJ.eE (bJ.bL ?_) (fun _=>by refine bJ.ret (sE.r ?_);rfl)
  refine bJ.eE (bJ.bL (bJ.dN ?_)) (fun _=>by exact T0)
  refine bJ.mA i (by omega) (fun j hj=>?_) ?_
  ·simp (disch:=omega) only[wr,Int.ofNat_eq_natCast]
   refine bJ.eX (by simp only[aB];omega) ?_
   refine bJ.eE (bJ.bL (bJ.bW (bV (by omega)) (bJ.bW (bV (by omega)) (bJ.cC ?_)))) (fun _=>by refine bJ.ret (sE.r ?_);rfl)
   exact T0
  ·refine bJ.fC (by simp) ?_
   exact T0
 ·simp (disch:=omega) only[wr,Int.ofNat_eq_natCast]
  refine bJ.bO (bJ.fC (by simp) ?_)
  exact T0
theorem aD7 {K:Nat} {d:jX} (hK:100000<K) (h:d.bN.length≤6004):dG (aIQ K d) (fun v=>v=d.bN.map fun m=>m.cG):=by
 refine dG.of ?_
 unfold aIQ
 refine bJ.cN (fun v=>v=d.bN.map fun m=>m.cG) (bJ.bL (bJ.dN ?_)) (fun v hv=>by refine bJ.ret (sE.l ?_);exact hv)
 refine bJ.loop (fun t:List Bytes × Int=>0≤t.2∧t.2≤d.bN.length∧t.1=(d.bN.take t.2.toNat).map fun m=>m.cG) (fun t=>(d.bN.length - t.2).toNat) ⟨by simp,by simp,rfl⟩ (by simp;omega) ?_
 rintro ⟨o,t⟩ ⟨g1,g2,g3⟩
 dsimp only at g1 g2 g3 ⊢
 obtain ⟨n,rfl⟩:=aJ g1
 rw[Int.toNat_natCast] at g3
 simp (disch:=omega) only[wr,Int.ofNat_eq_natCast]
 refine bJ.bO (bJ.ite (fun e1=>?_) (fun e1=>?_))
 ·simp only[aB] at e1
  have ho:o.length≤6004:=by rw[g3,List.length_map,aR];omega
  rw[Int.toNat_natCast]
  refine bJ.cN (fun v:List Bytes=>v=(d.bN.take (n+1)).map fun m=>m.cG) (bJ.bL (bJ.bW (bV (by omega)) (bJ.cC (bJ.bO (bJ.bW (eB ?_) (bJ.cC ?_)))))) (fun v hv=>?_)
  ·show (o.length+1) * 16≤_
   omega
  ·refine bJ.ret (sE.r ?_)
   rw[gN default (by omega),List.map_append,← g3];rfl
  ·refine bJ.ret (sE.r ?_)
   exact ⟨⟨by dsimp only;omega,by dsimp only;omega,by dsimp only;rw[show ((n:Int)+1).toNat=n+1 by omega];exact hv⟩,by dsimp only;omega⟩
 ·simp only[aB] at e1
  refine bJ.ret (sE.l (sE.l ?_))
  show o=_
  rw[g3,bF (by omega)]
theorem aAK {K:Nat} {l:List fG} (hK:100000000<K) (h:l.length≤36200000):dG (aGW K l) (fun v=>v.length=l.length):=by
 refine dG.of ?_
 unfold aGW
 refine bJ.cN (fun v:List Bytes=>v.length=l.length) (bJ.bL (bJ.dN ?_)) (fun v hv=>by refine bJ.ret (sE.l ?_);exact hv)
 refine bJ.loop (fun t:List Bytes × Int=>0≤t.2∧t.2≤l.length∧(t.1.length:Int)=t.2) (fun t=>(l.length - t.2).toNat) ⟨by simp,by simp,by simp⟩ (by simp;omega) ?_
 rintro ⟨o,t⟩ ⟨g1,g2,g3⟩
 dsimp only at g1 g2 g3 ⊢
 simp (disch:=omega) only[wr,Int.ofNat_eq_natCast]
 refine bJ.bO (bJ.ite (fun e1=>?_) (fun e1=>?_))
 ·simp only[aB] at e1
  refine bJ.cN (fun v:List Bytes=>(v.length:Int)=t+1) (bJ.bL (bJ.bW (bV (by omega)) (bJ.cC (bJ.bW (eB ?_) (bJ.cC ?_))))) (fun v hv=>?_)
  ·show (o.length+1) * 16≤_
   omega
  ·refine bJ.ret (sE.r ?_)
   show ((o++[_]).length:Int)=_
   rw[aE,List.length_singleton];omega
  ·refine bJ.ret (sE.r ?_)
   exact ⟨⟨by dsimp only;omega,by dsimp only;omega,hv⟩,by dsimp only;omega⟩
 ·simp only[aB] at e1
  refine bJ.ret (sE.l (sE.l ?_))
  show o.length=l.length
  omega
theorem aPq {K:Nat} {u:dD} {d:jX} (hK:100000000<K) (hd:d.bN.length≤6004) (hm:∀ m∈d.bN,m.cV.length≤6004) (h:Sm u):dG (aNK K u d) (fun _=>True):=by
 refine dG.of ?_
 unfold aNK
 refine bJ.eE (bJ.bL (bJ.dN ?_)) (fun _=>?_)
 ·refine bJ.mA d.bN.length (by omega) (fun i hi=>?_) ?_
  ·simp (disch:=omega) only[wr,Int.ofNat_eq_natCast]
   refine bJ.bO (bJ.eX (by simp only[aB];omega) ?_)
   refine bJ.eE (bJ.bL (bJ.bW (bV (by omega)) (bJ.cC ?_))) (fun _=>by refine bJ.ret (sE.r ?_);rfl)
   rw[Int.toNat_natCast]
   refine bJ.dB (by decide) (aHJ (by omega) (hm _ (eA hi)) h) (fun _ _=>?_)
   exact T0
  ·simp (disch:=omega) only[wr,Int.ofNat_eq_natCast]
   refine bJ.bO (bJ.fC (by simp) ?_)
   exact T0
 ·refine bJ.call (aD7 (by omega) hd) ?_
  rintro _ rfl
  refine bJ.call (qZ hK (by rw[List.length_map];omega)) (fun _ _=>?_)
  refine bJ.eE (bJ.bL (bJ.dN ?_)) (fun _=>by exact T0)
  refine bJ.loop (fun t:Bool × Int=>0≤t.2∧t.2≤d.bN.length) (fun t=>(d.bN.length - t.2).toNat) ⟨by simp,by simp⟩ (by simp;omega) ?_
  rintro ⟨b,t⟩ ⟨g1,g2⟩
  dsimp only at g1 g2 ⊢
  simp (disch:=omega) only[wr,Int.ofNat_eq_natCast]
  refine bJ.bO (bJ.ite (fun e1=>?_) (fun e1=>?_))
  ·simp only[aB] at e1
   have hp:=hm _ (eA (d:=default) (show t.toNat<d.bN.length by omega))
   refine bJ.eE (bJ.bL (bJ.bW (by rw[bV (by omega)];simp) (bJ.cC ?_))) (fun _=>?_)
   ·refine bJ.cF (fun _=>aAK hK (by omega)) (fun v hv=>?_)
    refine bJ.cF (fun eb=>qZ hK (by rw[hv eb];omega)) (fun _ _=>?_)
    exact T0
   ·refine bJ.ret (sE.r ?_)
    exact ⟨⟨by dsimp only;omega,by dsimp only;omega⟩,by dsimp only;omega⟩
  ·exact T0
theorem aHK {K:Nat} {x:fG}:dG (aL0 K x) (fun _=>True):=by
 refine dG.of ?_
 unfold aL0
 refine bJ.eE (bJ.bL ?_) (fun _=>by exact T0)
 exact T0
theorem aHL {K:Nat} {u:dD} {t:fP} (hK:100000<K) (h:Sm u):dG (aL1 K u t) (fun v=>v=true→tyF t):=by
 refine dG.of ?_
 unfold aL1
 refine bJ.call (aHI hK h) (fun v hv=>?_)
 refine bJ.bO (bJ.ret (sE.l ?_))
 intro e
 simp only[aM,beq_iff_eq,aC,aB] at e
 rcases e with (e | e) | e
 ·exact .inl (hv e)
 ·exact .inr (.inl e.1.1.1)
 ·exact .inr (.inr ⟨e.1.1,e.1.2,e.2⟩)
theorem aPr {K:Nat} {u:dD} {t:fP} (hK:100000<K) (h:Sm u):dG (aNQ K u t) (fun v=>v=true→tyV t):=by
 refine dG.of ?_
 unfold aNQ
 refine bJ.ite (fun e=>?_) (fun e=>?_)
 ·refine bJ.dB (by decide) (aHH hK h) (fun v hv=>?_)
  refine bJ.cF (fun _=>lT hK h) (fun w hw=>?_)
  refine bJ.bW ?_ ?_
  ·by_cases q:v=true
   ·rw[hw q,bV (lH rfl (hv q))];simp
   ·simp only[Bool.not_eq_true] at q;rw[q];rfl
  ·refine bJ.cC (bJ.bO (bJ.ret (sE.l ?_)))
   exact fun _=>.inr (.inl (beq_iff_eq.1 e))
 ·refine bJ.call (aHL hK h) (fun v hv=>?_)
  refine bJ.bO (bJ.ret (sE.l ?_))
  intro e
  simp only[aM,beq_iff_eq,aC,aB] at e
  rcases e with e | e
  ·exact .inl (hv e)
  ·exact .inr (.inr e.1.1)
end Go.Proofs.YtdbfbedholdjaaaGreat

namespace Go.Proofs.YtdbfbedholdjaaaGreat
open Go Go.Dl
variable [eC]
set_option maxRecDepth 100000
set_option maxHeartbeats 8000000
structure Sz8 (d:jX):Prop where
 m:d.bN.length≤6
 f:d.dZ.length≤4
 v:d.cU.length≤8
 p:∀ m∈d.bN,m.cV.length≤3∧m.cU.length≤8
theorem aPs {K:Nat} {u:dD} {d:jX} (hK:100000000<K) (hd:Sz8 d) (h:Sm u):dG (aNL K u d) (fun v=>v=0→∀ x∈d.cU,tyF x.cI):=by
 refine dG.of ?_
 unfold aNL
 obtain ⟨d1,d2,d3,d4⟩:=hd
 refine bJ.bW (eB (by omega)) (bJ.cC ?_)
 refine bJ.cN (fun o:List fG=>o.length≤100∧∀ x∈d.cU,x∈o) (bJ.bL (bJ.dN ?_)) ?_
 ·refine bJ.loop (fun t:List fG × Int=>0≤t.2∧t.2≤d.bN.length∧(t.1.length:Int)≤8+8 * t.2∧∀ x∈d.cU,x∈t.1) (fun t=>(d.bN.length - t.2).toNat) ⟨by simp,by simp,by dsimp only;omega,fun x hx=>hx⟩ (by simp;omega) ?_
  rintro ⟨o,t⟩ ⟨g1,g2,g3,g4⟩
  dsimp only at g1 g2 g3 g4 ⊢
  obtain ⟨n,rfl⟩:=aJ g1
  simp (disch:=omega) only[wr,Int.ofNat_eq_natCast]
  refine bJ.bO (bJ.ite (fun e1=>?_) (fun e1=>?_))
  ·simp only[aB] at e1
   have hn:n<d.bN.length:=by omega
   have hp:=d4 _ (eA (d:=default) hn)
   rw[Int.toNat_natCast]
   refine bJ.cN (fun v:List fG=>(v.length:Int)≤16+8 * n∧∀ x∈d.cU,x∈v) (bJ.bL (bJ.bW (bV (by omega)) (bJ.cC ?_))) (fun v hv=>?_)
   ·refine bJ.call (aHJ (by omega) (by omega) h) (fun _ _=>?_)
    refine bJ.ite (fun e2=>?_) (fun e2=>?_)
    ·exact T0
    refine bJ.eE (bJ.bL (bJ.dN ?_)) (fun _=>?_)
    ·refine bJ.mA (d.bN.getD n default).cV.length (by omega) (fun i hi=>?_) ?_
     ·simp (disch:=omega) only[wr,Int.ofNat_eq_natCast]
      refine bJ.bO (bJ.eX (by simp only[aB];omega) ?_)
      refine bJ.eE (bJ.bL (bJ.bW (bV (by omega)) (bJ.cC ?_))) (fun _=>by refine bJ.ret (sE.r ?_);rfl)
      exact T0
     ·simp (disch:=omega) only[wr,Int.ofNat_eq_natCast]
      refine bJ.bO (bJ.fC (by simp) ?_)
      exact T0
    ·refine bJ.bO (bJ.bW (eB ?_) (bJ.cC ?_))
     ·omega
     ·refine bJ.ret (sE.r ?_)
      refine ⟨?_,fun x hx=>List.mem_append_left _ (g4 x hx)⟩
      rw[aE];omega
   ·refine bJ.ret (sE.r ?_)
    exact ⟨⟨by dsimp only;omega,by dsimp only;omega,by dsimp only;omega,hv.2⟩,by dsimp only;omega⟩
  ·refine bJ.ret (sE.l (sE.l ?_))
   simp only[aB] at e1
   exact ⟨by show o.length≤100;omega,g4⟩
 rintro o ⟨ho,hin⟩
 refine bJ.cN (fun _=>∀ x∈o,tyF x.cI) (bJ.bL (bJ.dN ?_)) (fun _ hty=>?_)
 ·refine bJ.upP o.length (fun i=>tyF (o.getD i default).cI) (by omega) (fun i hi=>?_) (fun hp=>?_)
  ·simp (disch:=omega) only[wr,Int.ofNat_eq_natCast]
   refine bJ.bO (bJ.eX (by simp only[aB];omega) ?_)
   rw[Int.toNat_natCast]
   refine bJ.cN (fun _=>tyF (o.getD i default).cI) (bJ.bL (bJ.bW (bV (by omega)) (bJ.cC ?_))) (fun _ h2=>?_)
   ·refine bJ.dB (by decide) (aHL (by omega) h) (fun v hv=>?_)
    refine bJ.bW (by rw[bV (by omega)];simp) (bJ.cC (bJ.bO (bJ.ite (fun e2=>?_) (fun e2=>?_))))
    ·exact T0
    ·simp only[aM,not_or,aP,Bool.not_eq_false] at e2
     refine bJ.ret (sE.r ?_)
     exact hv e2.1
   ·refine bJ.ret (sE.r ?_);exact ⟨rfl,h2⟩
  ·simp (disch:=omega) only[wr,Int.ofNat_eq_natCast]
   refine bJ.bO (bJ.fC (by simp) ?_)
   refine bJ.ret (sE.l (sE.l ?_))
   exact wX (d:=default) hp
 ·refine bJ.eE (bJ.bL (bJ.dN ?_)) (fun _=>?_)
  ·refine bJ.mA o.length (by omega) (fun i hi=>?_) ?_
   ·simp (disch:=omega) only[wr,Int.ofNat_eq_natCast]
    refine bJ.bO (bJ.eX (by simp only[aB];omega) ?_)
    refine bJ.eE (bJ.bL (bJ.bW (bV (by omega)) (bJ.cC ?_))) (fun _=>by refine bJ.ret (sE.r ?_);rfl)
    refine bJ.call aHK (fun _ _=>?_)
    exact T0
   ·simp (disch:=omega) only[wr,Int.ofNat_eq_natCast]
    refine bJ.bO (bJ.fC (by simp) ?_)
    exact T0
  ·refine bJ.ret (sE.l ?_)
   exact fun _ x hx=>hty x (hin x hx)
theorem aPt {K:Nat} {u:dD} {d:Int} (hK:100000000<K) (hk:kd u d=2) (h:Sm u):dG (aNN K u d) (fun _=>True):=by
 have hd:=lH hk (by decide)
 have zE:=h.aB2 d
 have hul:=h.len
 refine dG.of ?_
 unfold aNN
 refine bJ.bW (bV hd) (bJ.cC (bJ.bO (bJ.ite (fun e=>?_) (fun e=>?_))))
 ·exact T0
 refine bJ.eE (bJ.bL (bJ.dN ?_)) (fun _=>?_)
 ·refine bJ.mA (dc u d).bN.length (by omega) (fun i hi=>?_) ?_
  ·have hi':i<(u.bK.getD d.toNat default).bN.length:=hi
   simp (disch:=omega) only[wr,Int.ofNat_eq_natCast]
   refine bJ.bO (bJ.eX (by simp only[aB];omega) ?_)
   refine bJ.eE (bJ.bL (bJ.bW (bV (by omega)) (bJ.cC ?_))) (fun _=>by refine bJ.ret (sE.r ?_);rfl)
   exact T0
  ·simp (disch:=omega) only[wr,Int.ofNat_eq_natCast]
   refine bJ.bO (bJ.fC (by simp) ?_)
   exact T0
 ·refine bJ.call (rA (by omega) h) ?_
  rintro _ rfl
  have xV:=n7 u d
  refine bJ.eE (bJ.bL (bJ.dN ?_)) (fun _=>by exact T0)
  refine bJ.loop (fun t:Int=>0≤t∧t≤(chain u d).length) (fun t=>((chain u d).length - t).toNat) ⟨by simp,by simp⟩ (by simp;omega) (fun t ⟨g1,g2⟩=>?_)
  obtain ⟨n,rfl⟩:=aJ g1
  simp (disch:=omega) only[wr,Int.ofNat_eq_natCast]
  refine bJ.bO (bJ.ite (fun e1=>?_) (fun e1=>by exact T0))
  simp only[aC,aB] at e1
  have hn:n<(chain u d).length:=by omega
  rw[Int.toNat_natCast]
  have hmem:=eA (d:=default) hn
  generalize hc:(chain u d).getD n default=c at hmem
  have hx:=oM hmem
  have hcm:=h.aB2 c
  refine bJ.eE (bJ.bL (bJ.bW (bV (by omega)) (bJ.cC (bJ.bW (bV hx) (bJ.cC ?_))))) (fun _=>by refine bJ.ret (sE.r ?_);exact ⟨⟨by omega,by omega⟩,by omega⟩)
  refine bJ.call (aD7 (by omega) hcm) ?_
  rintro _ rfl
  refine bJ.eE (bJ.bL (bJ.dN ?_)) (fun _=>by exact T0)
  refine bJ.mA ((dc u c).bN.map fun m=>m.cG).length (by rw[List.length_map];omega) (fun i hi=>?_) ?_
  ·rw[List.length_map] at hi
   have hi':i<(u.bK.getD c.toNat default).bN.length:=hi
   simp (disch:=omega) only[wr,Int.ofNat_eq_natCast]
   refine bJ.bO (bJ.eX (by simp only[aB,List.length_map];omega) ?_)
   refine bJ.eE (bJ.bL (bJ.bW (bV (by rw[List.length_map];omega)) (bJ.cC ?_))) (fun _=>by refine bJ.ret (sE.r ?_);rfl)
   rw[Int.toNat_natCast]
   have hnm:((dc u c).bN.map fun m=>m.cG).getD i default=((dc u c).bN.getD i default).cG:=by
    rw[List.getD,bA,aD hi,List.getD,aD hi];rfl
   rw[hnm]
   refine bJ.jV (wY (by omega) (by assumption)) ?_
   have hf:(mth u d ((dc u c).bN.getD i default).cG).2=true:=by
    refine aD8 (c:=c) ?_ (aJw (eA (d:=default) hi) (beq_self_eq_true _))
    unfold line
    rw[aG (by omega)];exact hmem
   refine bJ.call (aAL (aBq hf).1) ?_
   rintro _ rfl
   exact T0
  ·refine bJ.bO (bJ.fC (by simp only[aB,Int.ofNat_eq_natCast];exact Int.lt_irrefl _) ?_)
   exact T0
def aYl (a b:iI):Prop:=a.cV.length=b.cV.length∧a.fH=b.fH∧∀ i:Nat,(i:Int)<a.cV.length→(a.cV.getD i default).cI=(b.cV.getD i default).cI
def aD9 (u:dD) (d:Int) (m:iI):Prop :=
 (m.aES=true↔1<(chain u d).length∧(mth u ((chain u d).getD 1 default) m.cG).2=true) ∧
 (1<(chain u d).length→(mth u ((chain u d).getD 1 default) m.cG).2=true→aYl m (mof u (mth u ((chain u d).getD 1 default) m.cG).1))
theorem aPu {K:Nat} {u:dD} {d:Int} (hK:100000000<K) (hd:0≤d∧d<u.bK.length) (hs:Sz8 (dc u d)) (h:Sm u):dG (aNO K u d) (fun v=>v=false→∀ m∈(dc u d).bN,aD9 u d m):=by
 have zE:=h.aB2 d
 refine dG.of ?_
 unfold aNO
 refine bJ.bW (bV hd) (bJ.cC ?_)
 refine bJ.call (rA (by omega) h) ?_
 rintro _ rfl
 refine bJ.cN (fun _=>∀ m∈(dc u d).bN,aD9 u d m) (bJ.bL (bJ.dN ?_)) (fun _ hq=>by refine bJ.ret (sE.l ?_);exact fun _=>hq)
 refine bJ.upP (dc u d).bN.length (fun i=>aD9 u d ((dc u d).bN.getD i default)) (by omega) (fun i hi=>?_) (fun hp=>?_)
 ·have hi':i<(u.bK.getD d.toNat default).bN.length:=hi
  simp (disch:=omega) only[wr,Int.ofNat_eq_natCast]
  refine bJ.bO (bJ.eX (by simp only[aB];omega) ?_)
  rw[Int.toNat_natCast]
  have hmp:=hs.p _ (eA (d:=default) hi)
  have hlp:((dc u d).bN.getD i default).cV.length≤6004:=by omega
  generalize hm:(dc u d).bN.getD i default=m at hlp
  refine bJ.cN (fun _=>aD9 u d m) (bJ.bL (bJ.bW (bV (by omega)) (bJ.cC ?_))) (fun _ h2=>by refine bJ.ret (sE.r ?_);exact ⟨rfl,h2⟩)
  refine bJ.cN (fun v:Bool × iI=>(v.1=true↔1<(chain u d).length∧(mth u ((chain u d).getD 1 default) m.cG).2=true)∧(v.1=true→v.2=mof u (mth u ((chain u d).getD 1 default) m.cG).1)) ?_ (fun v hv=>?_)
  ·refine bJ.ite (fun e1=>?_) (fun e1=>?_)
   ·simp only[aB,Int.ofNat_eq_natCast] at e1
    refine bJ.bW (bV (by omega)) (bJ.cC ?_)
    have h1:(1:Int).toNat=1:=rfl
    rw[h1,← hm]
    refine bJ.jV (wY (by omega) (by assumption)) ?_
    rw[hm]
    refine bJ.ite (fun e2=>?_) (fun e2=>?_)
    ·refine bJ.call (aAL (aBq e2).1) ?_
     rintro _ rfl
     refine bJ.ret (sE.r ?_)
     exact ⟨⟨fun _=>⟨by omega,e2⟩,fun _=>rfl⟩,fun _=>rfl⟩
    ·refine bJ.ret (sE.r ?_)
     exact ⟨⟨fun q=>(by cases q),fun q=>absurd q.2 e2⟩,fun q=>by cases q⟩
   ·simp only[aB,Int.ofNat_eq_natCast] at e1
    refine bJ.ret (sE.r ?_)
    exact ⟨⟨fun q=>(by cases q),fun q=>absurd q.1 (by omega)⟩,fun q=>by cases q⟩
  ·obtain ⟨v1,v2⟩:=hv
   refine bJ.bO ?_
   refine bJ.cF (fun _=>aHM (by omega) (by omega)) (fun w hw=>?_)
   refine bJ.bO (bJ.ite (fun e1=>?_) (fun e1=>?_))
   ·exact T0
   ·refine bJ.ret (sE.r ?_)
    simp only[aM,not_or,aC,not_and,aP,Bool.not_eq_false,beq_iff_eq] at e1
    obtain ⟨e1,e2⟩:=e1
    refine ⟨by rw[e1];exact v1,fun q1 q2=>?_⟩
    have q:=v1.2 ⟨q1,q2⟩
    have e3:=e2 q
    rw[← v2 q]
    exact hw (by simp only[Bool.not_eq_true] at e3;simp [q,e1,e3.1]) e3.2
 ·simp (disch:=omega) only[wr,Int.ofNat_eq_natCast]
  refine bJ.bO (bJ.fC (by simp) ?_)
  refine bJ.ret (sE.l (sE.l ?_))
  exact wX (d:=default) hp
end Go.Proofs.YtdbfbedholdjaaaGreat

namespace Go.Proofs.YtdbfbedholdjaaaGreat
open Go Go.Dl
variable [eC]
set_option maxRecDepth 100000
set_option maxHeartbeats 8000000
theorem aPv {u:dD} {d x:Int} (h:x∈u7 u d):0≤x∧x<u.bK.length:=by
 have h1:∀ (l:List Bytes) (out:List Int),(∀ x∈out,0≤x∧x<u.bK.length)→∀ x∈l.foldl (xU u) out,0≤x∧x<u.bK.length:=by
  intro l
  induction l with
  | nil=>exact fun _ h=>h
  | cons s l ih =>
    intro out ho
    refine ih _ ?_
    unfold xU
    split
    ·rename_i e
     intro x hx
     rcases bG.1 hx with hx | hx
     ·exact ho x hx
     ·rw[aQ.1 hx];exact lH e.1 (by decide)
    ·exact ho
 have h2:∀ (l:List Int) (out:List Int),(∀ x∈out,0≤x∧x<u.bK.length)→∀ x∈l.foldl (fun out c=>(dc u c).dZ.foldl (xU u) out) out,0≤x∧x<u.bK.length:=by
  intro l
  induction l with
  | nil=>exact fun _ h=>h
  | cons c l ih=>exact fun out ho=>ih _ (h1 _ _ ho)
 exact h2 _ _ (fun x hx=>by cases hx) x h
theorem aPw {K:Nat} {u:dD} {d:Int} (hK:100000000<K) (h:Sm u):dG (aOC K u d) (fun _=>True):=by
 have hul:=h.len
 have hfl:=aE9 u d
 refine dG.of ?_
 unfold aOC
 refine bJ.call (aHN (by omega) h) ?_
 rintro _ rfl
 refine bJ.eE (bJ.bL (bJ.dN ?_)) (fun _=>by exact T0)
 refine bJ.mA (u7 u d).length (by omega) (fun n hn=>?_) ?_
 ·simp (disch:=omega) only[wr,Int.ofNat_eq_natCast]
  refine bJ.bO (bJ.eX (by simp only[aB];omega) ?_)
  rw[Int.toNat_natCast]
  have hx:=aPv (eA (d:=default) hn)
  generalize hc:(u7 u d).getD n default=c at hx
  have hcm:=h.aB2 c
  refine bJ.eE (bJ.bL (bJ.bW (bV (by omega)) (bJ.cC (bJ.bW (bV hx) (bJ.cC ?_))))) (fun _=>by refine bJ.ret (sE.r ?_);rfl)
  refine bJ.eE (bJ.bL (bJ.dN ?_)) (fun _=>by exact T0)
  refine bJ.mA (dc u c).bN.length (by omega) (fun i hi=>?_) ?_
  ·have hi':i<(u.bK.getD c.toNat default).bN.length:=hi
   simp (disch:=omega) only[wr,Int.ofNat_eq_natCast]
   refine bJ.bO (bJ.eX (by simp only[aB];omega) ?_)
   refine bJ.eE (bJ.bL (bJ.bW (bV (by omega)) (bJ.cC ?_))) (fun _=>by refine bJ.ret (sE.r ?_);rfl)
   refine bJ.jV (wY (by omega) (by assumption)) ?_
   refine bJ.bW (by rw[bV (by omega)];simp) (bJ.cC ?_)
   refine bJ.cF (fun e=>aAL (aBq (by simpa using e)).1) (fun v hv=>?_)
   refine bJ.cF (fun e=>aHM (by omega) ?_) (fun _ _=>?_)
   ·rw[hv e]
    exact (iI.bounds (h.m _ _)).1
   ·exact T0
  ·simp (disch:=omega) only[wr,Int.ofNat_eq_natCast]
   refine bJ.bO (bJ.fC (by simp) ?_)
   exact T0
 ·simp (disch:=omega) only[wr,Int.ofNat_eq_natCast]
  refine bJ.bO (bJ.fC (by simp) ?_)
  exact T0
theorem aPx {K:Nat} {u:dD} {d k:Int} (hK:100000000<K) (hd:0≤d∧d<u.bK.length) (hk:0≤k∧k<(dc u d).cU.length) (h:Sm u):dG (aNR K u d k) (fun _=>True):=by
 have hul:=h.len
 refine dG.of ?_
 unfold aNR
 refine bJ.eE (bJ.bL (bJ.dN ?_)) (fun _=>by exact T0)
 refine bJ.loop (fun t:Int=>0≤t∧t≤d+1) (fun t=>(d+1 - t).toNat) ⟨by omega,by omega⟩ (by omega) (fun t ⟨g1,g2⟩=>?_)
 have hv:=h.vars t
 simp (disch:=omega) only[wr,Int.ofNat_eq_natCast]
 refine bJ.ite (fun e1=>?_) (fun e1=>by exact T0)
 simp only[aB] at e1
 refine bJ.eE (bJ.bL (bJ.bW (bV (by omega)) (bJ.cC ?_))) (fun _=>by refine bJ.ret (sE.r ?_);exact ⟨⟨by omega,by omega⟩,by omega⟩)
 refine bJ.eE (bJ.bL (bJ.dN ?_)) (fun _=>by exact T0)
 refine bJ.loop (fun i:Int=>0≤i∧i≤(dc u t).cU.length) (fun i=>((dc u t).cU.length - i).toNat) ⟨by omega,by omega⟩ (by omega) (fun i ⟨k1,k2⟩=>?_)
 simp (disch:=omega) only[wr,Int.ofNat_eq_natCast]
 refine bJ.bO (bJ.ite (fun e2=>?_) (fun e2=>by exact T0))
 simp only[aB,aC] at e2
 have hi:i<(dc u t).cU.length:=e2.1.1
 refine bJ.eE (bJ.bL (bJ.bW (bV ⟨k1,hi⟩) (bJ.bW (by rw[bV (n:=(u.bK.getD t.toNat default).cU.length) ⟨k1,hi⟩];simp) (bJ.bW (by rw[bV hd];simp) (bJ.bW (by rw[bV (n:=(u.bK.getD d.toNat default).cU.length) hk];simp) (bJ.cC ?_)))))) (fun _=>by refine bJ.ret (sE.r ?_);exact ⟨⟨by omega,by omega⟩,by omega⟩)
 exact T0
def aFa (x:fG):Prop:=tyV x.cI∧(x.l9≠0→x.cI.bP=1∨x.cI.bP=2)∧0≤x.l9∧x.l9≤2
theorem aPy {K:Nat} {u:dD} {d:Int} (hK:101000000<K) (hd:0≤d∧d<u.bK.length) (h:Sm u):dG (aNZ K u d) (fun v=>v=0→∀ x∈(dc u d).cU,aFa x):=by
 have hul:=h.len
 have hv:=h.vars d
 refine dG.of ?_
 unfold aNZ
 refine bJ.bW (bV hd) (bJ.cC ?_)
 refine bJ.cN (fun _=>∀ x∈(dc u d).cU,aFa x) (bJ.bL (bJ.dN ?_)) (fun _ hq=>?_)
 ·refine bJ.upP (dc u d).cU.length (fun i=>aFa ((dc u d).cU.getD i default)) (by omega) (fun i hi=>?_) (fun hp=>?_)
  ·have hi':i<(u.bK.getD d.toNat default).cU.length:=hi
   simp (disch:=omega) only[wr,Int.ofNat_eq_natCast]
   refine bJ.bO (bJ.eX (by simp only[aB];omega) ?_)
   rw[Int.toNat_natCast]
   refine bJ.cN (fun _=>aFa ((dc u d).cU.getD i default)) (bJ.bL (bJ.bW (bV (by omega)) (bJ.cC ?_))) (fun _ h2=>by refine bJ.ret (sE.r ?_);exact ⟨rfl,h2⟩)
   refine bJ.call (aPr (by omega) h) (fun v hv=>?_)
   refine bJ.bO (bJ.ite (fun e2=>?_) (fun e2=>?_))
   ·exact T0
   ·simp only[aM,aC,not_or,not_and,aP,Bool.not_eq_false,aB,bne_iff_ne,ne_eq,Decidable.not_not,Bool.not_eq_true] at e2
    obtain ⟨⟨⟨e3,e4⟩,e5⟩,e6⟩:=e2
    refine bJ.ret (sE.r ?_)
    refine ⟨hv e3,fun aJx=>?_,?_,?_⟩
    ·by_cases q:((u.bK.getD d.toNat default).cU.getD i default).cI.bP=1
     ·exact .inl q
     ·exact .inr (e6 ⟨aJx,q⟩)
    ·show 0≤((u.bK.getD d.toNat default).cU.getD i default).l9
     omega
    ·show ((u.bK.getD d.toNat default).cU.getD i default).l9≤2
     omega
  ·simp (disch:=omega) only[wr,Int.ofNat_eq_natCast]
   refine bJ.bO (bJ.fC (by simp only[aB];exact Int.lt_irrefl _) ?_)
   refine bJ.ret (sE.l (sE.l ?_))
   exact wX (d:=default) hp
 ·refine bJ.eE (bJ.bL (bJ.dN ?_)) (fun _=>?_)
  ·refine bJ.mA (dc u d).cU.length (by omega) (fun i hi=>?_) ?_
   ·have hi':i<(u.bK.getD d.toNat default).cU.length:=hi
    simp (disch:=omega) only[wr,Int.ofNat_eq_natCast]
    refine bJ.bO (bJ.eX (by simp only[aB];omega) ?_)
    refine bJ.eE (bJ.bL (bJ.bW (bV (by omega)) (bJ.cC ?_))) (fun _=>by refine bJ.ret (sE.r ?_);rfl)
    refine bJ.call aHK (fun _ _=>?_)
    exact T0
   ·simp (disch:=omega) only[wr,Int.ofNat_eq_natCast]
    refine bJ.bO (bJ.fC (by simp only[aB];exact Int.lt_irrefl _) ?_)
    exact T0
  ·refine bJ.eE (bJ.bL (bJ.dN ?_)) (fun _=>?_)
   ·refine bJ.mA (dc u d).cU.length (by omega) (fun i hi=>?_) ?_
    ·have hi':i<(u.bK.getD d.toNat default).cU.length:=hi
     simp (disch:=omega) only[wr,Int.ofNat_eq_natCast]
     refine bJ.bO (bJ.eX (by simp only[aB];omega) ?_)
     refine bJ.eE (bJ.bL (bJ.bW (bV (by omega)) (bJ.cC (bJ.bO ?_)))) (fun _=>by refine bJ.ret (sE.r ?_);rfl)
     refine bJ.cF (fun _=>aPx (by omega) hd ⟨by omega,by omega⟩ h) (fun _ _=>?_)
     exact T0
    ·simp (disch:=omega) only[wr,Int.ofNat_eq_natCast]
     refine bJ.bO (bJ.fC (by simp only[aB];exact Int.lt_irrefl _) ?_)
     exact T0
   ·refine bJ.bO ?_
    refine bJ.call (aAK (by omega) (show (dc u d).cU.length≤_ by omega)) (fun v hv2=>?_)
    refine bJ.call (qZ (by omega) (by rw[hv2];show (dc u d).cU.length≤_;omega)) (fun _ _=>?_)
    refine bJ.ite (fun e=>?_) (fun e=>bJ.bO ?_)
    ·exact T0
    ·refine bJ.call (aHG (by omega) (h.body d) h) (fun _ _=>?_)
     refine bJ.ret (sE.l ?_)
     exact fun _=>hq
theorem aPz {K:Nat} {u:dD} {d:Int} (hK:101000000<K) (hd:0≤d∧d<u.bK.length) (h:Sm u):dG (aN1 K u d) (fun _=>True):=by
 have hul:=h.len
 refine dG.of ?_
 unfold aN1
 refine bJ.bW (bV hd) (bJ.cC (bJ.bO ?_))
 refine bJ.jV (lT (by omega) (by assumption)) ?_
 refine bJ.jV (lU) ?_
 refine bJ.bO (bJ.eE (bJ.bL (bJ.dN ?_)) (fun _=>by exact T0))
 refine bJ.loop (fun t:Bool × Int=>0≤t.2∧t.2≤d) (fun t=>(d - t.2).toNat) ⟨by dsimp only;omega,by dsimp only;omega⟩ (by dsimp only;omega) ?_
 rintro ⟨b,t⟩ ⟨g1,g2⟩
 dsimp only at g1 g2 ⊢
 simp (disch:=omega) only[wr,Int.ofNat_eq_natCast]
 refine bJ.ite (fun e1=>?_) (fun e1=>by exact T0)
 simp only[aB] at e1
 refine bJ.eE (bJ.bL (bJ.bW (by rw[bV (by omega)];simp) (bJ.bW (by rw[bV (by omega)];simp) (bJ.cC ?_)))) (fun _=>by refine bJ.ret (sE.r ?_);exact ⟨⟨by dsimp only;omega,by dsimp only;omega⟩,by dsimp only;omega⟩)
 exact T0
structure Cls (u:dD) (d:Int):Prop where
 base:(dc u d).lE=[]∨(kd u (fnd u (dc u d).lE)=2∧fnd u (dc u d).lE<d)
 vars:∀ x∈(dc u d).cU,tyF x.cI
 over:∀ m∈(dc u d).bN,aD9 u d m
theorem aPA {K:Nat} {u:dD} {d:Int} (hK:101000000<K) (hk:kd u d=2) (hs:Sz8 (dc u d)) (h:Sm u):dG (aOF K u d) (fun v=>v=0→Cls u d):=by
 have hd:=lH hk (by decide)
 have hul:=h.len
 have zE:=h.aB2 d
 refine dG.of ?_
 unfold aOF
 refine bJ.bW (bV hd) (bJ.cC (bJ.bO ?_))
 refine bJ.cN (fun _=>(dc u d).lE=[]∨(kd u (fnd u (dc u d).lE)=2∧fnd u (dc u d).lE<d)) ?_ (fun _ hbase=>?_)
 ·refine bJ.ite (fun e=>bJ.bO ?_) (fun e=>?_)
  ·refine bJ.jV (lT (by omega) (by assumption)) ?_
   refine bJ.jV (lU) ?_
   refine bJ.bW ?_ (bJ.cC (bJ.bO (bJ.ite (fun e2=>?_) (fun e2=>?_))))
   ·by_cases q:kd u (fnd u (dc u d).lE)=2
    ·rw[bV (lH q (by decide))];simp
    ·have:(kd u (fnd u (dc u d).lE) != 2)=true:=bne_iff_ne.2 q
     rw[this];simp
   ·exact T0
   ·simp only[aM,not_or,bne_iff_ne,ne_eq,Decidable.not_not,aB] at e2
    refine bJ.ret (sE.r ?_)
    refine .inr ⟨e2.1.1,?_⟩
    show fnd u (u.bK.getD d.toNat default).lE<d
    omega
  ·simp only[aP,Bool.not_eq_false,beq_iff_eq] at e
   refine bJ.ret (sE.r ?_)
   exact .inl e
 have hfl:=hs.f
 refine bJ.eE (bJ.bL (bJ.dN ?_)) (fun _=>?_)
 ·refine bJ.mA (dc u d).dZ.length (by omega) (fun i hi=>?_) ?_
  ·have hi':i<(u.bK.getD d.toNat default).dZ.length:=hi
   simp (disch:=omega) only[wr,Int.ofNat_eq_natCast]
   refine bJ.bO (bJ.eX (by simp only[aB];omega) ?_)
   refine bJ.eE (bJ.bL (bJ.bW (bV (by omega)) (bJ.cC (bJ.bO ?_)))) (fun _=>by refine bJ.ret (sE.r ?_);rfl)
   refine bJ.aJv rfl (lT (by omega) (by assumption)) ?_
   refine bJ.dB (by decide) lU ?_
   rintro _ rfl
   exact T0
  ·simp (disch:=omega) only[wr,Int.ofNat_eq_natCast]
   refine bJ.bO (bJ.fC (by simp only[aB];exact Int.lt_irrefl _) ?_)
   exact T0
 refine bJ.bO (bJ.call (qZ (by omega) (show (dc u d).dZ.length≤_ by omega)) (fun _ _=>?_))
 refine bJ.ite (fun e=>by exact T0) (fun e=>?_)
 refine bJ.call (aPs (by omega) hs h) (fun v hvars=>?_)
 refine bJ.ite (fun e=>?_) (fun e=>?_)
 ·refine bJ.ret (sE.l ?_)
  intro q
  exact absurd q (by simpa using e)
 have hvars:=hvars (by simpa using e)
 refine bJ.call (aK1 (by omega) h) ?_
 rintro _ rfl
 have hfd:=aEa h d
 refine bJ.call (aAK (by omega) (by omega)) (fun v hv=>?_)
 refine bJ.call (qZ (by omega) (by omega)) (fun b1 _=>?_)
 refine bJ.cF (fun _=>aD7 (by omega) zE) (fun v2 hv2=>?_)
 refine bJ.cF (fun e=>qZ (by omega) (by rw[hv2 e,List.length_map];exact aV zE (by omega))) (fun b2 _=>?_)
 refine bJ.eE (bJ.bL (bJ.dN ?_)) (fun _=>?_)
 ·refine bJ.loop (fun t:Bool × Int=>0≤t.2∧t.2≤(dc u d).bN.length) (fun t=>((dc u d).bN.length - t.2).toNat) ⟨by dsimp only;omega,by dsimp only;omega⟩ (by dsimp only;omega) ?_
  rintro ⟨b,t⟩ ⟨g1,g2⟩
  dsimp only at g1 g2 ⊢
  simp (disch:=omega) only[wr,Int.ofNat_eq_natCast]
  refine bJ.bO (bJ.ite (fun e1=>?_) (fun e1=>by exact T0))
  have e1:t<(dc u d).bN.length:=of_decide_eq_true e1
  refine bJ.eE (bJ.bL ?_) (fun _=>by refine bJ.ret (sE.r ?_);exact ⟨⟨by dsimp only;omega,by dsimp only;omega⟩,by dsimp only;omega⟩)
  refine bJ.cF (fun _=>aHO (by omega) h) (fun v3 hv3=>?_)
  refine bJ.cF (fun e=>aAK (by omega) (hv3 e)) (fun v4 hv4=>?_)
  refine bJ.cF (fun e=>qZ (by omega) (by rw[hv4 e];exact hv3 e)) (fun _ _=>?_)
  exact T0
 refine bJ.ite (fun e=>by exact T0) (fun e=>?_)
 refine bJ.call (aPt (by omega) hk h) (fun _ _=>?_)
 refine bJ.ite (fun e=>by exact T0) (fun e=>?_)
 refine bJ.call (aPu (by omega) hd hs h) (fun v aPB=>?_)
 refine bJ.ite (fun e=>by exact T0) (fun e=>?_)
 have aPB:=aPB (by simpa using e)
 refine bJ.call (aPw (by omega) h) (fun _ _=>?_)
 refine bJ.ite (fun e=>by exact T0) (fun e=>?_)
 refine bJ.eE (bJ.bL (bJ.dN ?_)) (fun _=>by refine bJ.ret (sE.l ?_);exact fun _=>⟨hbase,hvars,aPB⟩)
 refine bJ.mA (dc u d).bN.length (by omega) (fun i hi=>?_) ?_
 ·have hi':i<(u.bK.getD d.toNat default).bN.length:=hi
  simp (disch:=omega) only[wr,Int.ofNat_eq_natCast]
  refine bJ.bO (bJ.eX (by simp only[aB];omega) ?_)
  refine bJ.eE (bJ.bL (bJ.bW (bV (by omega)) (bJ.cC (bJ.bO (bJ.ite (fun e=>?_) (fun e=>?_)))))) (fun _=>by refine bJ.ret (sE.r ?_);rfl)
  ·refine bJ.ret (sE.l (sE.l ?_));trivial
  ·refine bJ.bW (bV (by omega)) (bJ.cC (bJ.bO ?_))
   have hb:=iI.bounds (h.m d (i:Int).toNat)
   refine bJ.dB (by decide) (aHG (by omega) hb.2.2 h) (fun v _=>?_)
   refine bJ.ite (fun _=>bJ.ret (sE.l (sE.r (sE.r ?_)))) (fun _=>bJ.ret (sE.r ?_))
   ·rename_i e2
    intro q
    exact absurd q (by simpa using e2)
   ·trivial
 ·simp (disch:=omega) only[wr,Int.ofNat_eq_natCast]
  refine bJ.bO (bJ.fC (by simp only[aB];exact Int.lt_irrefl _) ?_)
  exact T0
end Go.Proofs.YtdbfbedholdjaaaGreat

namespace Go.Proofs.YtdbfbedholdjaaaGreat
open Go Go.Dl
variable [eC]
set_option maxRecDepth 100000
set_option maxHeartbeats 8000000
structure Ok8 (u:dD) (d:Int):Prop where
 kd:1≤kd u d∧kd u d≤4
 lim:d<12
 sz:Sz8 (dc u d)
 nm:fnd u (dc u d).cG=d
 cls:Go.Proofs.YtdbfbedholdjaaaGreat.kd u d=2→Cls u d
 prg:Go.Proofs.YtdbfbedholdjaaaGreat.kd u d=3→∀ x∈(dc u d).cU,aFa x
theorem aU7 {u:dD} {d:Int} (h:0≤d∧d<u.bK.length):0≤fnd u (dc u d).cG∧fnd u (dc u d).cG≤d:=by
 have h1:(dc u d)∈u.bK:=eA (by omega)
 have h0:0≤fnd u (dc u d).cG:=aJw h1 (beq_self_eq_true _)
 refine ⟨h0,?_⟩
 unfold fnd ix at h0 ⊢
 split at h0
 ·rename_i e
  rw[aH e]
  refine Classical.byContradiction fun hlt=>?_
  have hlt:d.toNat<u.bK.findIdx (fun x:jX=>x.cG == (dc u d).cG):=by omega
  have:=List.not_of_lt_findIdx hlt
  have hd:u.bK[d.toNat]=dc u d:=by
   rw[dc,List.getD,aD (by omega)];rfl
  rw[hd] at this
  simp at this
 ·omega
theorem aR4 {K:Nat} {u:dD} {d:Int} (hK:101000000<K) (hd:0≤d∧d<u.bK.length) (h:Sm u):dG (F77 K u d) (fun v=>v=0→Ok8 u d):=by
 have zE:=h.aB2 d
 have hkd:kd u d=(dc u d).bP:=by unfold kd;rw[aG (by omega)]
 refine dG.of ?_
 unfold F77
 refine bJ.bW (by rw[bV hd];simp) (bJ.bW (by rw[bV hd];simp) (bJ.cC (bJ.bO (bJ.ite (fun e=>by exact T0) (fun e=>?_)))))
 simp only[aM,not_or,aB,Int.ofNat_eq_natCast] at e
 obtain ⟨⟨_,e1⟩,e2⟩:=e
 refine bJ.bW (bV hd) (bJ.cC ?_)
 refine bJ.cF (fun _=>aPo (by omega) zE) (fun v hv=>?_)
 refine bJ.ite (fun e=>by exact T0) (fun e=>bJ.bO ?_)
 simp only[aM,not_or,aB,Bool.not_eq_true] at e
 obtain ⟨e3,e4⟩:=e
 have hsz:=hv (by simp;omega) e4
 have hs:Sz8 (dc u d):=⟨hsz.1,hsz.2.1,hsz.2.2.1,hsz.2.2.2⟩
 refine bJ.jV (lT (by omega) (by assumption)) ?_
 refine bJ.ite (fun e=>by exact T0) (fun e=>bJ.bO ?_)
 simp only[aB] at e
 have hn:fnd u (dc u d).cG=d:=by
  have h1:=(aU7 hd).2
  have h2:¬ fnd u (dc u d).cG<d:=e
  omega
 have hk:1≤kd u d∧kd u d≤4:=by
  rw[hkd]
  constructor
  ·show 1≤(u.bK.getD d.toNat default).bP;omega
  ·show (u.bK.getD d.toNat default).bP≤4;omega
 change bJ (bM (bL (if (((dc u d).bP:Int) == 1)=true then _ else if (((dc u d).bP:Int) == 2)=true then _ else if (((dc u d).bP:Int) == 3)=true then _ else _)) _) _
 refine bJ.cN (fun _=>kd u d≠2∧kd u d≠3) (bJ.bL ?_) (fun _ hq=>?_)
 ·refine bJ.ite (fun e=>?_) (fun e=>?_)
  ·have e:=beq_iff_eq.1 e
   rw[← hkd] at e
   refine bJ.call (aPq (by omega) zE (fun m hm=>by have:=(hs.p m hm).1;omega) h) (fun _ _=>?_)
   refine bJ.ret (sE.l (sE.r ?_))
   exact fun _=>⟨hk,by omega,hs,hn,fun q=>by omega,fun q=>by omega⟩
  refine bJ.ite (fun e'=>?_) (fun e'=>?_)
  ·have e:=beq_iff_eq.1 e'
   rw[← hkd] at e
   refine bJ.call (aPA (by omega) e hs h) (fun v hv=>?_)
   refine bJ.ret (sE.l (sE.r ?_))
   exact fun q=>⟨hk,by omega,hs,hn,fun _=>hv q,fun q=>by omega⟩
  refine bJ.ite (fun e''=>?_) (fun e''=>?_)
  ·have e:=beq_iff_eq.1 e''
   rw[← hkd] at e
   refine bJ.call (aPy (by omega) hd h) (fun v hv=>?_)
   refine bJ.ret (sE.l (sE.r ?_))
   exact fun q=>⟨hk,by omega,hs,hn,fun q=>by omega,fun _=>hv q⟩
  ·simp only[beq_iff_eq] at e' e''
   refine bJ.ret (sE.r ?_)
   exact ⟨by rw[hkd];exact e',by rw[hkd];exact e''⟩
 ·refine bJ.call (aPz (by omega) hd h) (fun v hv=>?_)
  refine bJ.ret (sE.l ?_)
  exact fun _=>⟨hk,by omega,hs,hn,fun q=>absurd q hq.1,fun q=>absurd q hq.2⟩
def Wf (u:dD):Prop:=∀ d:Int,0≤d∧d<u.bK.length→Ok8 u d
theorem aR5 {K:Nat} {u:dD} (hK:101000000<K) (h:Sm u):dG (F34 K u) (fun v=>(v=[]→Wf u)∧v.length≤6004∧∀ w∈v,0≤w.zF∧w.zF<u.bK.length):=by
 have hul:=h.len
 refine dG.of ?_
 unfold F34
 refine bJ.cN (fun v:List oC=>(v=[]→Wf u)∧v.length≤6004∧∀ w∈v,0≤w.zF∧w.zF<u.bK.length) (bJ.bL (bJ.dN ?_)) (fun v hv=>by refine bJ.ret (sE.l ?_);exact hv)
 refine bJ.loop (fun t:List oC × Int=>0≤t.2∧t.2≤u.bK.length∧(t.1=[]→∀ d:Int,0≤d∧d<t.2→Ok8 u d)∧(t.1.length:Int)≤t.2∧∀ w∈t.1,0≤w.zF∧w.zF<u.bK.length) (fun t=>(u.bK.length - t.2).toNat) ⟨by simp,by simp,fun _ d hd=>by simp only at hd;omega,by simp,fun w hw=>by cases hw⟩ (by simp;omega) ?_
 rintro ⟨o,t⟩ ⟨g1,g2,g3,g4,g5⟩
 dsimp only at g1 g2 g3 g4 g5 ⊢
 simp (disch:=omega) only[wr,Int.ofNat_eq_natCast]
 refine bJ.bO (bJ.ite (fun e1=>?_) (fun e1=>?_))
 ·simp only[aB] at e1
  refine bJ.cN (fun o2:List oC=>(o2=[]→∀ d:Int,0≤d∧d<t+1→Ok8 u d)∧(o2.length:Int)≤t+1∧∀ w∈o2,0≤w.zF∧w.zF<u.bK.length) (bJ.bL ?_) (fun o2 ho=>?_)
  ·refine bJ.call (aR4 hK ⟨g1,e1⟩ h) (fun v hv=>?_)
   refine bJ.ite (fun e2=>bJ.bW (eB ?_) (bJ.cC ?_)) (fun e2=>?_)
   ·show (o.length+1) * 16≤_
    omega
   ·refine bJ.ret (sE.r ?_)
    refine ⟨fun q=>?_,?_,?_⟩
    ·exact absurd q (by simp)
    ·rw[aE,List.length_singleton];omega
    ·intro w hw
     rcases bG.1 hw with hw | hw
     ·exact g5 w hw
     ·rw[aQ.1 hw];exact ⟨g1,e1⟩
   ·have hv:=hv (by simpa using e2)
    refine bJ.ret (sE.r ?_)
    refine ⟨fun q d hd=>?_,by omega,g5⟩
    by_cases hdt:d=t
    ·subst hdt;exact hv
    ·exact g3 q d (by omega)
  ·refine bJ.ret (sE.r ?_)
   exact ⟨⟨by dsimp only;omega,by dsimp only;omega,ho.1,ho.2.1,ho.2.2⟩,by dsimp only;omega⟩
 ·simp only[aB] at e1
  refine bJ.ret (sE.l (sE.l ?_))
  refine ⟨fun q d hd=>g3 q d (by omega),?_,g5⟩
  show o.length≤_
  omega
end Go.Proofs.YtdbfbedholdjaaaGreat
