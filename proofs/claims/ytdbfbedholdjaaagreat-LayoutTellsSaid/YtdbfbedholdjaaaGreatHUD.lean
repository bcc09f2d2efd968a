/- No conditions. -/
import Derived.Test.YtdbfbedholdjaaaGreatHUC
import Derived.Test.YtdbfbedholdjaaaGreatHLE
import Derived.Test.YtdbfbedholdjaaaGreatHLL
set_option linter.unusedVariables false
set_option linter.unusedSimpArgs false
set_option linter.unusedSectionVars false
namespace Go.Proofs.YtdbfbedholdjaaaGreat
open Go Go.Dl
variable [dO]
set_option maxRecDepth 100000
set_option maxHeartbeats 8000000
theorem aRo {K:Nat} {u:cK} {w:dS} {e:cM} (hK:40100000<K) (he:e.sz≤6004) (h:Sm u):cQ (aI4 K u w e) (fun _=>True):=by
 refine cQ.of ?_
 unfold aI4
 refine bO.call (aDu hK he h) (fun _ _=>?_)
 exact T0
theorem cI.szq (s:cI):s.sz=1+cM.gZ s.cU+oQ s.eY+cI.kH s.b8:=by cases s;rw[cI.sz]
theorem aJG:∀ {l:List cI} {x:cI},x∈l→x.sz≤cI.gZ l
 | y::r,x,h=>by
   rw[cI.gZ]
   rcases aY.1 h with rfl | h
   ·omega
   ·have:=aJG h;omega
theorem zH:∀ {l:List (List cI)} {x:List cI},x∈l→cI.gZ x+1≤cI.kH l
 | y::r,x,h=>by
   rw[cI.kH]
   rcases aY.1 h with rfl | h
   ·omega
   ·have:=zH h;omega
theorem aHS:∀ {l:List (List Int)} {x:List Int},x∈l→x.length≤oQ l
 | y::r,x,h=>by
   rw[oQ]
   rcases aY.1 h with rfl | h
   ·omega
   ·have:=aHS h;omega
theorem aRq {K:Nat} {u:cK} {w:dS} {s:cI} (hK:40100000<K) (hs:s.sz≤6004) (h:Sm u) (hw:Plc u w):cQ (aOy K u w s) (fun _=>True):=by
 refine cQ.of ?_
 unfold aOy
 have hq:=s.szq
 have hl:=mQ s.cU
 refine bO.eC ?_ (fun p=>?_)
 ·refine bO.ite (fun e=>?_) (fun e=>?_)
  ·simp only[aB] at e
   have hv:Vw u w:=by
    rcases hw with hw | hw
    ·exact hw.2
    ·omega
   refine bO.bY (bW hv.1) (bO.bY (bW hv.2) (bO.b7 ?_))
   exact T0
  ·exact T0
 ·refine bO.ite (fun e=>?_) (fun e=>?_)
  ·exact T0
  ·simp only[beq_iff_eq,Int.ofNat_eq_natCast] at e
   have hm:=nX (c6 (d:=default) (show (0:Int).toNat<s.cU.length by simp;omega))
   refine bO.bY (bW (by omega)) (bO.b7 ?_)
   refine bO.call (aDu hK (by omega) h) (fun _ _=>?_)
   refine bO.ite (fun e=>?_) (fun e=>?_)
   ·exact T0
   refine bO.c8 (fun _=>aDv (by omega) h) (fun _ _=>?_)
   exact T0
structure Shp (s:cI):Prop where
 k1:s.bU=1∨s.bU=3∨s.bU=4→s.cU.length=1
 k2:s.bU=2∨s.bU=11→s.cU.length=2
 k5:s.bU=5→1≤s.cU.length∧s.b8.length=s.cU.length+1
 k6:s.bU=6→s.cU.length=1
 k7:s.bU=7→s.cU.length=1∧s.b8.length=1
 k8:s.bU=8→s.cU.length=2∧s.b8.length=1
theorem aRr {K:Nat} {s:cI} (hK:100000<K) (hs:s.sz≤7000):cQ (aOz K s) (fun v=>v=true→Shp s):=by
 refine cQ.of ?_
 unfold aOz
 have hq:=s.szq
 have hl:=mQ s.cU
 have hb:=aDw s.eY
 refine bO.ite (fun e=>?_) (fun e=>?_)
 ·refine bO.eC (bO.bQ (bO.cT ?_)) (fun _=>?_)
  ·refine bO.loop (fun t:Int=>0≤t∧t≤s.eY.length) (fun t=>(s.eY.length - t).toNat) ⟨by simp,by simp⟩ (by simp;omega) (fun t ⟨h1,h2⟩=>?_)
   simp (disch:=omega) only[wr,Int.ofNat_eq_natCast]
   refine bO.bR (bO.ite (fun e6=>?_) (fun e6=>?_))
   ·simp only[aB] at e6
    refine bO.eC (bO.bQ (bO.bY (bW (by omega)) (bO.b7 (bO.bR (bO.ite (fun e7=>?_) (fun e7=>?_)))))) (fun _=>?_)
    ·exact T0
    ·exact T0
    ·refine bO.ret (sE.r ?_)
     exact ⟨⟨by omega,by omega⟩,by omega⟩
   ·exact T0
  ·refine bO.bR ?_
   simp (disch:=omega) only[wr,Int.ofNat_eq_natCast]
   refine bO.ret (sE.l ?_)
   intro h
   simp only[beq_iff_eq,aC] at e h
   constructor <;> omega
 ·refine bO.bR (bO.ite (fun e=>?_) (fun e=>?_))
  ·exact T0
  simp (disch:=omega) only[wr,Int.ofNat_eq_natCast]
  refine bO.eC (bO.bQ ?_) (fun _=>by exact T0)
  refine bO.b5 (fun b=>b=true↔s.bU=1∨s.bU=3) ?_ (fun b hb1=>?_)
  ·refine bO.ite (fun _=>bO.ret (sE.r ?_)) (fun _=>bO.ret (sE.r ?_))
   all_goals simp only[beq_iff_eq] at *
   all_goals omega
  refine bO.ite (fun e1=>?_) (fun e1=>?_)
  ·have hk:=hb1.1 e1
   refine bO.bR (bO.ret (sE.l (sE.r ?_)))
   intro h
   simp only[beq_iff_eq,aC] at h
   constructor <;> omega
  have hn1:¬ (s.bU=1∨s.bU=3):=fun q=>e1 (hb1.2 q)
  refine bO.b5 (fun b=>b=true↔s.bU=2∨s.bU=11) ?_ (fun b hb1=>?_)
  ·refine bO.ite (fun _=>bO.ret (sE.r ?_)) (fun _=>bO.ret (sE.r ?_))
   all_goals simp only[beq_iff_eq] at *
   all_goals omega
  refine bO.ite (fun e1=>?_) (fun e1=>?_)
  ·have hk:=hb1.1 e1
   refine bO.bR (bO.ret (sE.l (sE.r ?_)))
   intro h
   simp only[beq_iff_eq,aC] at h
   constructor <;> omega
  have hn2:¬ (s.bU=2∨s.bU=11):=fun q=>e1 (hb1.2 q)
  refine bO.ite (fun e1=>?_) (fun e1=>?_)
  ·refine bO.bR (bO.bY ?_ ?_)
   ·by_cases q:s.cU.length=1
    ·rw[bW (by omega)];simp
    ·have:(((s.cU.length:Int) == 1)=false):=beq_eq_false_iff_ne.2 (by omega)
     rw[this];rfl
   ·refine bO.b7 (bO.bR (bO.ret (sE.l (sE.r ?_))))
    intro h
    simp only[beq_iff_eq,aC] at h e1
    constructor <;> omega
  refine bO.ite (fun _=>bO.bR (bO.ret (sE.l (sE.r ?_)))) (fun _=>bO.ite (fun _=>bO.bR (bO.ret (sE.l (sE.r ?_)))) (fun _=>bO.ite (fun _=>bO.bR (bO.ret (sE.l (sE.r ?_)))) (fun _=>bO.ite (fun _=>bO.bR (bO.ret (sE.l (sE.r ?_)))) (fun _=>bO.ite (fun _=>bO.bR (bO.ret (sE.l (sE.r ?_)))) (fun _=>bO.ret (sE.r ?_))))))
  all_goals try trivial
  all_goals
   intro h
   simp only[beq_iff_eq,aC,aB] at *
   constructor <;> omega
theorem bO.sG {A:Type} {K:Nat} {f:Int→Option (A ⊕ Int)} {p:A→Prop} (n:Nat) (hK:n<K) (hs:∀ i:Nat,i<n→bO (f i) (sE p (fun t=>t=(i:Int)+1))) (he:bO (f n) (sE p (fun _=>False))):bO (iter K f 0) p :=
 bO.up n hK (fun i hi=>(hs i hi).zG (by rintro (a | t) h;exact h;exact ⟨h,trivial⟩)) he
theorem st7:∀ k:Nat,(∀ (u:cK) (w:dS) (l:List cI) (b:Bool),Sm u→Plc u w→cI.gZ l≤6004→3 * cI.gZ l+100000002<k→cQ (yM k u w l b) (fun _=>True)) ∧
 (∀ (u:cK) (w:dS) (s:cI) (b:Bool),Sm u→Plc u w→s.sz≤6004→3 * s.sz+100000001<k→cQ (aMk k u w s b) (fun _=>True)) ∧
 (∀ (u:cK) (w:dS) (s:cI),Sm u→Plc u w→s.sz≤6004→Shp s→s.bU=1∨s.bU=2∨s.bU=3∨s.bU=8∨s.bU=11→3 * s.sz+100000000<k→cQ (aMl k u w s) (fun _=>True)) ∧
 (∀ (u:cK) (w:dS) (s:cI) (b:Bool),Sm u→Plc u w→s.sz≤6004→Shp s→s.bU=6→3 * s.sz+100000000<k→cQ (aMm k u w s b) (fun _=>True))
 | 0=>⟨fun _ _ _ _ _ _ _ h=>by omega,fun _ _ _ _ _ _ _ h=>by omega,fun _ _ _ _ _ _ _ _ h=>by omega,fun _ _ _ _ _ _ _ _ _ h=>by omega⟩
 | k+1=>by
   obtain ⟨ih1,ih2,ih3,ih4⟩:=st7 k
   refine ⟨fun u w l b h hp hz hk=>?_,fun u w s b h hp hz hk=>?_,fun u w s h hp hz hs hq hk=>?_,fun u w s b h hp hz hs hq hk=>?_⟩
   ·refine cQ.of ?_
    rw[yM]
    have hl:=aJH l
    refine bO.eC (bO.bQ (bO.cT ?_)) (fun _=>by exact T0)
    refine bO.sG l.length (by omega) (fun i hi=>?_) ?_
    ·simp (disch:=omega) only[wr,Int.ofNat_eq_natCast]
     refine bO.bR (bO.dN (by simp only[aB];omega) ?_)
     refine bO.eC (bO.bQ (bO.bY (bW (by omega)) (bO.b7 ?_))) (fun _=>?_)
     ·rw[Int.toNat_natCast]
      have hm:=aJG (c6 (d:=default) hi)
      refine bO.cH (by decide) (ih2 u w _ b h hp (by omega) (by omega)) (fun _ _=>?_)
      exact T0
     ·refine bO.ret (sE.r ?_);rfl
    ·simp (disch:=omega) only[wr,Int.ofNat_eq_natCast]
     refine bO.bR (bO.dA (by simp) ?_)
     exact T0
   ·refine cQ.of ?_
    rw[aMk]
    have hsz:=s.szq
    have hl:=mQ s.cU
    have hbl:=aBS s.b8
    refine bO.call (aRr (by omega) (by omega)) (fun v hv=>?_)
    refine bO.ite (fun e=>?_) (fun e=>?_)
    ·exact T0
    have hs:=hv (by simpa using e)
    have hblk:∀ (i:Nat) (b:Bool),i<s.b8.length→cQ (yM k u w (s.b8.getD i default) b) (fun _=>True):=fun i b hi=>by
     have:=zH (c6 (d:=default) hi)
     exact ih1 u w _ b h hp (by omega) (by omega)
    have hex:∀ i:Nat,i<s.cU.length→cQ (aI4 k u w (s.cU.getD i default)) (fun _=>True):=fun i hi=>by
     have:=nX (c6 (d:=default) hi)
     exact aRo (by omega) (by omega) h
    refine bO.eC (bO.bQ ?_) (fun _=>by exact T0)
    refine bO.b5 (fun b=>b=true→s.bU=1∨s.bU=2∨s.bU=3∨s.bU=8∨s.bU=11) ?_ (fun bb hb1=>?_)
    ·refine bO.ite (fun _=>bO.ret (sE.r ?_)) (fun _=>bO.ite (fun _=>bO.ret (sE.r ?_)) (fun _=>bO.ite (fun _=>bO.ret (sE.r ?_)) (fun _=>bO.ite (fun _=>bO.ret (sE.r ?_)) (fun _=>bO.ret (sE.r ?_)))))
     all_goals simp only[beq_iff_eq] at *
     all_goals omega
    refine bO.ite (fun e1=>?_) (fun e1=>?_)
    ·refine bO.call (ih3 u w s h hp hz hs (hb1 e1) (by omega)) (fun _ _=>?_)
     exact T0
    refine bO.ite (fun e1=>?_) (fun e1=>?_)
    ·have h1:=hs.k1 (.inr (.inr (beq_iff_eq.1 e1)))
     have hm:=nX (c6 (d:=default) (show (0:Int).toNat<s.cU.length by simp;omega))
     refine bO.bY (bW (by omega)) (bO.b7 ?_)
     refine bO.call (aRs (by omega) (by omega) h) (fun _ _=>?_)
     exact T0
    refine bO.ite (fun e1=>?_) (fun e1=>?_)
    ·have h1:=hs.k5 (beq_iff_eq.1 e1)
     refine bO.eC (bO.bQ (bO.cT ?_)) (fun _=>?_)
     ·refine bO.sG s.cU.length (by omega) (fun i hi=>?_) ?_
      ·simp (disch:=omega) only[wr,Int.ofNat_eq_natCast]
       refine bO.bR (bO.dN (by simp only[aB];omega) ?_)
       refine bO.eC (bO.bQ (bO.bY (bW (by omega)) (bO.b7 ?_))) (fun _=>?_)
       ·rw[Int.toNat_natCast]
        refine bO.cH (by decide) (hex i hi) (fun _ _=>?_)
        refine bO.ite (fun e2=>?_) (fun e2=>?_)
        ·exact T0
        refine bO.bY (bW (by omega)) (bO.b7 ?_)
        refine bO.cH (by decide) (hblk i b (by omega)) (fun _ _=>?_)
        exact T0
       ·refine bO.ret (sE.r ?_);rfl
      ·simp (disch:=omega) only[wr,Int.ofNat_eq_natCast]
       refine bO.bR (bO.dA (by simp) ?_)
       exact T0
     ·refine bO.bY (bW (by simp only[Int.ofNat_eq_natCast];omega)) (bO.b7 (bO.bR ?_))
      refine bO.cH (by decide) (hblk s.cU.length b (by omega)) (fun _ _=>?_)
      exact T0
    refine bO.ite (fun e1=>?_) (fun e1=>?_)
    ·refine bO.call (ih4 u w s b h hp hz hs (beq_iff_eq.1 e1) (by omega)) (fun _ _=>?_)
     exact T0
    refine bO.ite (fun e1=>?_) (fun e1=>?_)
    ·have h1:=hs.k7 (beq_iff_eq.1 e1)
     refine bO.bY (bW (by omega)) (bO.b7 ?_)
     refine bO.cH (by decide) (hex _ (by simp;omega)) (fun _ _=>?_)
     refine bO.ite (fun e2=>?_) (fun e2=>?_)
     ·exact T0
     refine bO.bY (bW (by omega)) (bO.b7 ?_)
     refine bO.cH (by decide) (hblk _ _ (by simp;omega)) (fun _ _=>?_)
     exact T0
    refine bO.ite (fun e1=>?_) (fun e1=>?_)
    ·refine bO.call (aRq (by omega) hz h hp) (fun _ _=>?_)
     exact T0
    ·exact T0
   ·refine cQ.of ?_
    rw[aMl]
    have hsz:=s.szq
    have hl:=mQ s.cU
    refine bO.call (aDx (by omega) h) (fun r1 _=>?_)
    refine bO.ite (fun e=>?_) (fun e=>?_)
    ·exact T0
    have a1:=hs.k1
    have a2:=hs.k2
    have a8:=hs.k8
    refine bO.b5 (fun v:Bool × Int=>v.2=s.cU.length) (bO.bQ ?_) ?_
    ·refine bO.ite (fun _=>bO.ret (sE.r ?_)) (fun _=>bO.ite (fun _=>bO.ret (sE.r ?_)) (fun _=>bO.ite (fun _=>bO.ret (sE.r ?_)) (fun _=>bO.ite (fun _=>bO.bR (bO.ret (sE.r ?_))) (fun _=>bO.ite (fun _=>bO.ret (sE.r ?_)) (fun _=>bO.ret (sE.r ?_))))))
     all_goals try trivial
     all_goals simp only[beq_iff_eq] at *
     all_goals omega
    rintro ⟨b,n⟩ hn
    dsimp only at hn ⊢
    refine bO.ite (fun e=>?_) (fun e=>?_)
    ·exact T0
    refine bO.bY ?_ (bO.b7 ?_)
    ·simp only[c5,aC,aB];omega
    have hsub:=aLp s.cU (0:Int).toNat (n.toNat - (0:Int).toNat)
    refine bO.call (aRt (by omega) (by omega) h) (fun r5 hr=>?_)
    refine bO.ite (fun e=>?_) (fun e=>?_)
    ·exact T0
    have hr':=hr (by simpa using e)
    rw[aK,bM] at hr'
    have hlen:r5.1.length=s.cU.length:=by
     rw[hr',hn];simp
    refine bO.eC (bO.bQ ?_) (fun b2=>?_)
    ·refine bO.ite (fun e=>?_) (fun e=>?_)
     ·have:=a1 (.inl (beq_iff_eq.1 e))
      refine bO.bY (bW (by omega)) (bO.b7 ?_)
      refine bO.cH (by decide) (aDv (by omega) h) (fun _ _=>?_)
      exact T0
     refine bO.ite (fun e=>?_) (fun e=>?_)
     ·have:=a1 (.inr (.inl (beq_iff_eq.1 e)))
      refine bO.bY (bW (by omega)) ?_
      exact T0
     have hex:r5.1.length=2:=by
      simp only[beq_iff_eq] at *
      rcases hq with q | q | q | q | q
      ·omega
      ·have:=a2 (.inl q);omega
      ·omega
      ·have:=a8 q;omega
      ·have:=a2 (.inr q);omega
     refine bO.ite (fun e=>?_) (fun e=>?_)
     ·refine bO.bY (bW (by omega)) (bO.bY (by rw[bW (by omega)];simp) ?_)
      exact T0
     ·refine bO.bY (bW (by omega)) (bO.bY (by rw[bW (by omega)];simp) ?_)
      exact T0
    ·refine bO.ite (fun e=>?_) (fun e=>?_)
     ·exact T0
     refine bO.ite (fun e=>?_) (fun e=>?_)
     ·have h8:=a8 (beq_iff_eq.1 e)
      have hm:=zH (c6 (d:=default) (show (0:Int).toNat<s.b8.length by simp;omega))
      refine bO.bY (bW (by omega)) (bO.b7 ?_)
      refine bO.cH (by decide) (ih1 u w _ _ h hp (by omega) (by omega)) (fun _ _=>?_)
      exact T0
     ·exact T0
   ·refine cQ.of ?_
    rw[aMm]
    have hsz:=s.szq
    have hl:=mQ s.cU
    have hbl:=aBS s.b8
    have a8J:=aDw s.eY
    have h6:=hs.k6 hq
    have hm:=nX (c6 (d:=default) (show (0:Int).toNat<s.cU.length by simp;omega))
    refine bO.bY (bW (by omega)) (bO.b7 ?_)
    refine bO.call (aDu (by omega) (by omega) h) (fun _ _=>?_)
    refine bO.ite (fun e=>?_) (fun e=>?_)
    ·exact T0
    refine bO.ite (fun e=>?_) (fun e=>?_)
    ·exact T0
    refine bO.eC (bO.bQ (bO.cT ?_)) (fun _=>?_)
    ·refine bO.loop (fun t:List Int × Int=>0≤t.2∧t.2≤s.eY.length∧(t.1.length:Int)≤7000 * t.2) (fun t=>(s.eY.length - t.2).toNat) ⟨by simp,by simp,by simp⟩ (by simp;omega) ?_
     rintro ⟨out,t⟩ ⟨g1,g2,g3⟩
     dsimp only at g1 g2 g3 ⊢
     obtain ⟨n,rfl⟩:=aP g1
     simp (disch:=omega) only[wr,Int.ofNat_eq_natCast]
     refine bO.bR (bO.ite (fun e1=>?_) (fun e1=>?_))
     ·simp only[aB] at e1
      have uJ:=aHS (c6 (d:=default) (show n<s.eY.length by omega))
      refine bO.b5 (fun o:List Int=>(o.length:Int)≤7000 * n+7000) (bO.bQ ?_) ?_
      ·refine bO.b5 (fun o:List Int=>(o.length:Int)≤7000 * n+7000) (bO.bQ (bO.cT ?_)) (fun o ho=>by refine bO.ret (sE.r ?_);exact ho)
       refine bO.loop (fun t:List Int × Int=>0≤t.2∧t.2≤(s.eY.getD n default).length∧(t.1.length:Int)≤7000 * n+t.2) (fun t=>((s.eY.getD n default).length - t.2).toNat) ⟨by simp,by dsimp only;omega,by dsimp only;omega⟩ (by dsimp only;omega) ?_
       rintro ⟨o2,t2⟩ ⟨k1,k2,k3⟩
       dsimp only at k1 k2 k3 ⊢
       rw[Int.toNat_natCast]
       refine bO.bY (bW (by omega)) (bO.b7 ?_)
       simp (disch:=omega) only[wr,Int.ofNat_eq_natCast]
       refine bO.bR (bO.ite (fun e2=>?_) (fun e2=>?_))
       ·simp only[aB] at e2
        refine bO.b5 (fun o:List Int=>(o.length:Int)≤7000 * n+t2+1) (bO.bQ ?_) ?_
        ·refine bO.bY (bW (by omega)) (bO.bY (bW (by omega)) (bO.b7 (bO.bR ?_)))
         refine bO.eC (bO.bQ (bO.cT ?_)) (fun _=>?_)
         ·refine bO.sG o2.length (by omega) (fun i hi=>?_) ?_
          ·simp (disch:=omega) only[wr,Int.ofNat_eq_natCast]
           refine bO.bR (bO.dN (by simp only[aB];omega) ?_)
           refine bO.eC (bO.bQ (bO.bY (bW (by omega)) (bO.b7 ?_))) (fun _=>?_)
           ·exact T0
           ·refine bO.ret (sE.r ?_);rfl
          ·simp (disch:=omega) only[wr,Int.ofNat_eq_natCast]
           refine bO.bR (bO.dA (by simp) ?_)
           exact T0
         ·refine bO.bR (bO.ite (fun e3=>?_) (fun e3=>?_))
          ·exact T0
          ·refine bO.bY (cS ?_) (bO.b7 ?_)
           ·simp only[List.length_singleton];omega
           ·refine bO.ret (sE.r ?_)
            rw[aG,List.length_singleton];omega
        ·intro o ho
         refine bO.ret (sE.r ?_)
         exact ⟨⟨by dsimp only;omega,by dsimp only;omega,by dsimp only;omega⟩,by dsimp only;omega⟩
       ·simp only[aB] at e2
        refine bO.ret (sE.l (sE.l ?_))
        show (o2.length:Int)≤_
        omega
      ·intro o ho
       refine bO.ret (sE.r ?_)
       exact ⟨⟨by dsimp only;omega,by dsimp only;omega,by dsimp only;omega⟩,by dsimp only;omega⟩
     ·exact T0
    ·refine bO.eC (bO.bQ (bO.cT ?_)) (fun _=>by exact T0)
     refine bO.sG s.b8.length (by omega) (fun i hi=>?_) ?_
     ·simp (disch:=omega) only[wr,Int.ofNat_eq_natCast]
      refine bO.bR (bO.dN (by simp only[aB];omega) ?_)
      refine bO.eC (bO.bQ (bO.bY (bW (by omega)) (bO.b7 (bO.bR ?_)))) (fun _=>?_)
      ·rw[Int.toNat_natCast]
       have hm:=zH (c6 (d:=default) hi)
       refine bO.cH (by decide) (ih1 u w _ b h hp (by omega) (by omega)) (fun _ _=>?_)
       exact T0
      ·refine bO.ret (sE.r ?_);rfl
     ·simp (disch:=omega) only[wr,Int.ofNat_eq_natCast]
      refine bO.bR (bO.dA (by simp) ?_)
      exact T0
theorem aHT {K:Nat} {u:cK} {w:dS} {l:List cI} (hK:100100000<K) (hl:cI.gZ l≤6004) (h:Sm u):cQ (aMn K u w l) (fun _=>True):=by
 refine cQ.of ?_
 unfold aMn
 refine bO.call zI (fun v hv=>?_)
 refine bO.ite (fun e=>?_) (fun e=>?_)
 ·exact T0
 refine bO.call ((st7 K).1 u w l false h (hv (by simpa using e)) hl (by omega)) (fun _ _=>?_)
 exact T0
end Go.Proofs.YtdbfbedholdjaaaGreat

namespace Go.Proofs.YtdbfbedholdjaaaGreat
open Go Go.Dl
variable [dO]
set_option maxRecDepth 100000
set_option maxHeartbeats 8000000
theorem dZ {α:Type} {l:List α} {n:Nat} (z:α) (h:n<l.length):l.take (n+1)=l.take n++[l.getD n z]:=by
 rw[List.getD,aF h,Option.getD_some,List.take_add_one,aF h];rfl
theorem aRu {K:Nat} {d:iR} (hK:100000<K) (h:d.bS.length≤6004):cQ (aOm K d) (fun v=>v=false→d.bS.length≤6∧d.cL.length≤4∧d.cA.length≤8∧∀ m∈d.bS,m.cG.length≤3∧m.cA.length≤8):=by
 refine cQ.of ?_
 unfold aOm
 refine bO.bR (bO.ite (fun e=>?_) (fun e=>?_))
 ·exact T0
 simp only[aL,aB,not_or,Int.ofNat_eq_natCast] at e
 refine bO.b5 (fun _=>∀ m∈d.bS,m.cG.length≤3∧m.cA.length≤8) (bO.bQ (bO.cT ?_)) (fun _ h1=>?_)
 ·refine bO.upP d.bS.length (fun i=>(d.bS.getD i default).cG.length≤3∧(d.bS.getD i default).cA.length≤8) (by omega) (fun i hi=>?_) (fun hp=>?_)
  ·simp (disch:=omega) only[wr,Int.ofNat_eq_natCast]
   refine bO.bR (bO.dN (by simp only[aB];omega) ?_)
   rw[Int.toNat_natCast]
   refine bO.b5 (fun _=>(d.bS.getD i default).cG.length≤3∧(d.bS.getD i default).cA.length≤8) (bO.bQ (bO.bY (bW (by omega)) (bO.bY (by rw[bW (by omega)];simp) (bO.b7 (bO.bR (bO.ite (fun e2=>?_) (fun e2=>?_))))))) (fun _ h2=>?_)
   ·exact T0
   ·simp only[aL,aB,not_or] at e2
    refine bO.ret (sE.r ?_)
    exact ⟨by omega,by omega⟩
   ·refine bO.ret (sE.r ?_);exact ⟨rfl,h2⟩
  ·simp (disch:=omega) only[wr,Int.ofNat_eq_natCast]
   refine bO.bR (bO.dA (by simp) ?_)
   refine bO.ret (sE.l (sE.l ?_))
   exact jJ (d:=default) hp
 ·refine bO.ret (sE.l ?_)
  exact fun _=>⟨by omega,by omega,by omega,h1⟩
theorem aHU {K:Nat} {u:cK} {s:Bytes} {b:Bool} (hK:100000<K) (h:Sm u):cQ (aMc K u s b) (fun v=>v=true→kd u (vC u s)≠0):=by
 refine cQ.of ?_
 unfold aMc
 refine bO.aJI rfl (iV (by omega) (by assumption)) ?_
 refine bO.cH (by decide) iU ?_
 rintro _ rfl
 refine bO.bR (bO.ret (sE.l ?_))
 intro e
 simp only[aL,beq_iff_eq,aC] at e
 omega
def tyP (t:fS):Prop:=t.bU=1∨t.bU=2∨t.bU=5
def tyF (t:fS):Prop:=tyP t∨t.bU=3∨(t.bU=4∧0≤t.zO∧t.zO<8)
def tyV (t:fS):Prop:=tyF t∨t.bU=6∨t.bU=7
theorem aHV {K:Nat} {u:cK} {t:fS} (hK:100000<K) (h:Sm u):cQ (aMd K u t) (fun v=>v=true→tyP t):=by
 refine cQ.of ?_
 unfold aMd
 refine bO.bR (bO.c8 (fun _=>aHU hK h) (fun _ _=>?_))
 refine bO.ret (sE.l ?_)
 intro e
 simp only[aL,beq_iff_eq,aC] at e
 unfold tyP;omega
theorem aRv {K:Nat} {t:fS}:cQ (aOn K t) (fun _=>True):=by
 refine cQ.of ?_
 unfold aOn
 exact T0
theorem aHW {K:Nat} {u:cK} {m:hU} (hK:100000<K) (hm:m.cG.length≤6004) (h:Sm u):cQ (aMe K u m) (fun v=>v=true→∀ p∈m.cG,tyP p.cB):=by
 refine cQ.of ?_
 unfold aMe
 refine bO.b5 (fun _=>∀ p∈m.cG,tyP p.cB) (bO.bQ (bO.cT ?_)) (fun _ hq=>?_)
 ·refine bO.upP m.cG.length (fun i=>tyP (m.cG.getD i default).cB) (by omega) (fun i hi=>?_) (fun hp=>?_)
  ·simp (disch:=omega) only[wr,Int.ofNat_eq_natCast]
   refine bO.bR (bO.dN (by simp only[aB];omega) ?_)
   rw[Int.toNat_natCast]
   refine bO.b5 (fun _=>tyP (m.cG.getD i default).cB) (bO.bQ (bO.bY (bW (by omega)) (bO.b7 ?_))) (fun _ h2=>by refine bO.ret (sE.r ?_);exact ⟨rfl,h2⟩)
   refine bO.cH (by decide) (aHV (by omega) h) (fun v hv=>?_)
   refine bO.ite (fun e=>?_) (fun e=>?_)
   ·exact T0
   ·exact bO.ret (sE.r (hv (by simpa using e)))
  ·simp (disch:=omega) only[wr,Int.ofNat_eq_natCast]
   refine bO.bR (bO.dA (by simp) ?_)
   exact bO.ret (sE.l (sE.l (jJ (d:=default) hp)))
 ·refine bO.call aRv (fun _ _=>?_)
  exact bO.ret (sE.l (fun _=>hq))
def Dst (l:List Bytes):Prop:=∀ i,i<l.length→∀ j,j<i→l.getD j default≠l.getD i default
theorem oR {K:Nat} {l:List Bytes} (hK:100000000<K) (hl:l.length≤36200000):cQ (aCL K l) (fun v=>v=false→Dst l):=by
 refine cQ.of ?_
 unfold aCL
 refine bO.b5 (fun _=>Dst l) (bO.bQ (bO.cT ?_)) (fun _ hq=>bO.ret (sE.l (fun _=>hq)))
 refine bO.upP l.length (fun i=>∀ j,j<i→l.getD j default≠l.getD i default) (by omega) (fun i hi=>?_) (fun hp=>?_)
 ·simp (disch:=omega) only[wr,Int.ofNat_eq_natCast]
  refine bO.bR (bO.dN (by simp only[aB];omega) ?_)
  refine bO.b5 (fun _=>∀ j,j<i→l.getD j default≠l.getD i default) (bO.bQ ?_) (fun _ h2=>by refine bO.ret (sE.r ?_);exact ⟨rfl,h2⟩)
  refine bO.b5 (fun _=>∀ j,j<i→l.getD j default≠l.getD i default) (bO.bQ (bO.cT ?_)) (fun _ h2=>bO.ret (sE.r h2))
  refine bO.upP i (fun j=>l.getD j default≠l.getD i default) (by omega) (fun j hj=>?_) (fun hp=>?_)
  ·simp (disch:=omega) only[wr,Int.ofNat_eq_natCast]
   refine bO.dN (by simp only[aB];omega) ?_
   rw[Int.toNat_natCast,Int.toNat_natCast]
   refine bO.b5 (fun _=>l.getD j default≠l.getD i default) (bO.bQ (bO.bY (bW (by omega)) (bO.bY (bW (by omega)) (bO.b7 (bO.bR (bO.ite (fun e=>?_) (fun e=>?_))))))) (fun _ h2=>by refine bO.ret (sE.r ?_);exact ⟨rfl,h2⟩)
   ·exact T0
   ·exact bO.ret (sE.r (fun q=>e (beq_iff_eq.2 q)))
  ·refine bO.dA (by simp) ?_
   exact bO.ret (sE.l (sE.l hp))
 ·simp (disch:=omega) only[wr,Int.ofNat_eq_natCast]
  refine bO.bR (bO.dA (by simp) ?_)
  exact bO.ret (sE.l (sE.l hp))
theorem aDy {K:Nat} {d:iR} (hK:100000<K) (h:d.bS.length≤6004):cQ (aI1 K d) (fun v=>v=d.bS.map fun m=>m.cD):=by
 refine cQ.of ?_
 unfold aI1
 refine bO.b5 (fun v=>v=d.bS.map fun m=>m.cD) (bO.bQ (bO.cT ?_)) (fun v hv=>by refine bO.ret (sE.l ?_);exact hv)
 refine bO.loop (fun t:List Bytes × Int=>0≤t.2∧t.2≤d.bS.length∧t.1=(d.bS.take t.2.toNat).map fun m=>m.cD) (fun t=>(d.bS.length - t.2).toNat) ⟨by simp,by simp,rfl⟩ (by simp;omega) ?_
 rintro ⟨o,t⟩ ⟨g1,g2,g3⟩
 dsimp only at g1 g2 g3 ⊢
 obtain ⟨n,rfl⟩:=aP g1
 rw[Int.toNat_natCast] at g3
 simp (disch:=omega) only[wr,Int.ofNat_eq_natCast]
 refine bO.bR (bO.ite (fun e1=>?_) (fun e1=>?_))
 ·simp only[aB] at e1
  have ho:o.length≤6004:=by rw[g3,aU,aK];omega
  rw[Int.toNat_natCast]
  refine bO.b5 (fun v:List Bytes=>v=(d.bS.take (n+1)).map fun m=>m.cD) (bO.bQ (bO.bY (bW (by omega)) (bO.b7 (bO.bR (bO.bY (cS ?_) (bO.b7 ?_)))))) (fun v hv=>?_)
  ·show (o.length+1) * 16≤_
   omega
  ·refine bO.ret (sE.r ?_)
   rw[dZ default (by omega),bK,← g3];rfl
  ·refine bO.ret (sE.r ?_)
   exact ⟨⟨by dsimp only;omega,by dsimp only;omega,by dsimp only;rw[show ((n:Int)+1).toNat=n+1 by omega];exact hv⟩,by dsimp only;omega⟩
 ·simp only[aB] at e1
  refine bO.ret (sE.l (sE.l ?_))
  show o=_
  rw[g3,List.take_of_length_le (by omega)]
theorem zJ {K:Nat} {l:List eZ} (hK:100000000<K) (h:l.length≤36200000):cQ (aG6 K l) (fun v=>v.length=l.length∧v=l.map fun x=>x.cD):=by
 refine cQ.of ?_
 unfold aG6
 refine bO.b5 (fun v:List Bytes=>v.length=l.length∧v=l.map fun x=>x.cD) (bO.bQ (bO.cT ?_)) (fun v hv=>by refine bO.ret (sE.l ?_);exact hv)
 refine bO.loop (fun t:List Bytes × Int=>0≤t.2∧t.2≤l.length∧t.1=(l.take t.2.toNat).map fun x=>x.cD) (fun t=>(l.length - t.2).toNat) ⟨by simp,by simp,rfl⟩ (by simp;omega) ?_
 rintro ⟨o,t⟩ ⟨g1,g2,g3⟩
 dsimp only at g1 g2 g3 ⊢
 obtain ⟨n,rfl⟩:=aP g1
 rw[Int.toNat_natCast] at g3
 have ho:o.length≤n:=by rw[g3,aU,aK];omega
 simp (disch:=omega) only[wr,Int.ofNat_eq_natCast]
 refine bO.bR (bO.ite (fun e1=>?_) (fun e1=>?_))
 ·simp only[aB] at e1
  rw[Int.toNat_natCast]
  refine bO.b5 (fun v:List Bytes=>v=(l.take (n+1)).map fun x=>x.cD) (bO.bQ (bO.bY (bW (by omega)) (bO.b7 (bO.bY (cS ?_) (bO.b7 ?_))))) (fun v hv=>?_)
  ·show (o.length+1) * 16≤_
   omega
  ·refine bO.ret (sE.r ?_)
   rw[dZ default (by omega),bK,← g3];rfl
  ·refine bO.ret (sE.r ?_)
   exact ⟨⟨by dsimp only;omega,by dsimp only;omega,by dsimp only;rw[show ((n:Int)+1).toNat=n+1 by omega];exact hv⟩,by dsimp only;omega⟩
 ·simp only[aB] at e1
  refine bO.ret (sE.l (sE.l ?_))
  have:o=l.map fun x=>x.cD:=by rw[g3,List.take_of_length_le (by omega)]
  exact ⟨by rw[this,aU],this⟩
theorem aRw {K:Nat} {u:cK} {d:iR} (hK:100000000<K) (hd:d.bS.length≤6004) (hm:∀ m∈d.bS,m.cG.length≤6004) (h:Sm u):cQ (aOp K u d) (fun v=>v=0→∀ m∈d.bS,∀ p∈m.cG,tyP p.cB):=by
 refine cQ.of ?_
 unfold aOp
 refine bO.b5 (fun _=>∀ m∈d.bS,∀ p∈m.cG,tyP p.cB) (bO.bQ (bO.cT ?_)) (fun _ hq=>?_)
 ·refine bO.upP d.bS.length (fun i=>∀ p∈(d.bS.getD i default).cG,tyP p.cB) (by omega) (fun i hi=>?_) (fun hp=>?_)
  ·simp (disch:=omega) only[wr,Int.ofNat_eq_natCast]
   refine bO.bR (bO.dN (by simp only[aB];omega) ?_)
   rw[Int.toNat_natCast]
   refine bO.b5 (fun _=>∀ p∈(d.bS.getD i default).cG,tyP p.cB) (bO.bQ (bO.bY (bW (by omega)) (bO.b7 ?_))) (fun _ h2=>by refine bO.ret (sE.r ?_);exact ⟨rfl,h2⟩)
   refine bO.cH (by decide) (aHW (by omega) (hm _ (c6 hi)) h) (fun v hv=>?_)
   refine bO.ite (fun e=>?_) (fun e=>?_)
   ·exact T0
   ·exact bO.ret (sE.r (hv (by simpa using e)))
  ·simp (disch:=omega) only[wr,Int.ofNat_eq_natCast]
   refine bO.bR (bO.dA (by simp) ?_)
   exact bO.ret (sE.l (sE.l (jJ (d:=default) hp)))
 ·refine bO.call (aDy (by omega) hd) ?_
  rintro _ rfl
  refine bO.call (oR hK (by rw[aU];omega)) (fun _ _=>?_)
  refine bO.eC (bO.bQ (bO.cT ?_)) (fun _=>bO.ite (fun _=>bO.ret (sE.l (fun q=>absurd q (by decide)))) (fun _=>bO.ret (sE.l (fun _=>hq))))
  refine bO.loop (fun t:Bool × Int=>0≤t.2∧t.2≤d.bS.length) (fun t=>(d.bS.length - t.2).toNat) ⟨by simp,by simp⟩ (by simp;omega) ?_
  rintro ⟨b,t⟩ ⟨g1,g2⟩
  dsimp only at g1 g2 ⊢
  simp (disch:=omega) only[wr,Int.ofNat_eq_natCast]
  refine bO.bR (bO.ite (fun e1=>?_) (fun e1=>?_))
  ·simp only[aB] at e1
   have hp:=hm _ (c6 (d:=default) (show t.toNat<d.bS.length by omega))
   refine bO.eC (bO.bQ (bO.bY (by rw[bW (by omega)];simp) (bO.b7 ?_))) (fun _=>?_)
   ·refine bO.c8 (fun _=>zJ hK (by omega)) (fun v hv=>?_)
    refine bO.c8 (fun eb=>oR hK (by rw[(hv eb).1];omega)) (fun _ _=>?_)
    exact T0
   ·refine bO.ret (sE.r ?_)
    exact ⟨⟨by dsimp only;omega,by dsimp only;omega⟩,by dsimp only;omega⟩
  ·exact T0
def Ini (x:eZ):Prop:=x.cB.bU=5→x.dM=0
theorem aHX {K:Nat} {x:eZ}:cQ (aMf K x) (fun v=>v=true→Ini x):=by
 refine cQ.of ?_
 unfold aMf
 refine bO.b5 (fun _=>True) (bO.bQ ?_) (fun _ _=>bO.ret (sE.l (fun e _=>beq_iff_eq.1 e)))
 refine bO.ite (fun e=>?_) (fun e=>?_)
 ·have e:=beq_iff_eq.1 e
  refine bO.bR (bO.ret (sE.l (sE.r (fun _ k=>?_))))
  omega
 refine bO.ite (fun e=>?_) (fun e=>?_)
 ·have e:=beq_iff_eq.1 e
  refine bO.bR (bO.ret (sE.l (sE.r (fun _ k=>?_))))
  omega
 refine bO.ite (fun e=>?_) (fun e=>?_)
 ·have e:=beq_iff_eq.1 e
  refine bO.bR (bO.ret (sE.l (sE.r (fun _ k=>?_))))
  omega
 ·exact bO.ret (sE.r trivial)
theorem aHY {K:Nat} {u:cK} {t:fS} (hK:100000<K) (h:Sm u):cQ (aMg K u t) (fun v=>v=true→tyF t):=by
 refine cQ.of ?_
 unfold aMg
 refine bO.call (aHV hK h) (fun v hv=>?_)
 refine bO.bR (bO.ret (sE.l ?_))
 intro e
 simp only[aL,beq_iff_eq,aC,aB] at e
 rcases e with (e | e) | e
 ·exact .inl (hv e)
 ·exact .inr (.inl e.1.1.1)
 ·exact .inr (.inr ⟨e.1.1,e.1.2,e.2⟩)
theorem aRx {K:Nat} {u:cK} {t:fS} (hK:100000<K) (h:Sm u):cQ (aOv K u t) (fun v=>v=true→tyV t):=by
 refine cQ.of ?_
 unfold aOv
 refine bO.ite (fun e=>?_) (fun e=>?_)
 ·refine bO.cH (by decide) (aHU hK h) (fun v hv=>?_)
  refine bO.c8 (fun _=>iV hK h) (fun w hw=>?_)
  refine bO.bY ?_ ?_
  ·by_cases q:v=true
   ·rw[hw q,bW (gE rfl (hv q))];simp
   ·simp only[Bool.not_eq_true] at q;rw[q];rfl
  ·refine bO.b7 (bO.bR (bO.ret (sE.l ?_)))
   exact fun _=>.inr (.inl (beq_iff_eq.1 e))
 ·refine bO.call (aHY hK h) (fun v hv=>?_)
  refine bO.bR (bO.ret (sE.l ?_))
  intro e
  simp only[aL,beq_iff_eq,aC,aB] at e
  rcases e with e | e
  ·exact .inl (hv e)
  ·exact .inr (.inr e.1.1)
end Go.Proofs.YtdbfbedholdjaaaGreat

namespace Go.Proofs.YtdbfbedholdjaaaGreat
open Go Go.Dl
variable [dO]
set_option maxRecDepth 100000
set_option maxHeartbeats 8000000
structure Sz8 (d:iR):Prop where
 m:d.bS.length≤6
 f:d.cL.length≤4
 v:d.cA.length≤8
 p:∀ m∈d.bS,m.cG.length≤3∧m.cA.length≤8
def Ms (o:List eZ) (m:hU):Prop:=(∀ p∈m.cG,tyP p.cB)∧∀ x∈m.cA,x∈o
theorem aRy {K:Nat} {u:cK} {d:iR} (hK:100000000<K) (hd:Sz8 d) (h:Sm u):cQ (aOq K u d) (fun v=>v=0→(∀ x∈d.cA,tyF x.cB∧Ini x)∧∀ m∈d.bS,(∀ p∈m.cG,tyP p.cB)∧∀ x∈m.cA,tyF x.cB):=by
 refine cQ.of ?_
 unfold aOq
 obtain ⟨d1,d2,d3,d4⟩:=hd
 refine bO.bY (cS (by omega)) (bO.b7 ?_)
 refine bO.b5 (fun o:List eZ=>o.length≤100∧(∀ x∈d.cA,x∈o)∧∀ m∈d.bS,Ms o m) (bO.bQ (bO.cT ?_)) ?_
 ·refine bO.loop (fun t:List eZ × Int=>0≤t.2∧t.2≤d.bS.length∧(t.1.length:Int)≤8+8 * t.2∧(∀ x∈d.cA,x∈t.1)∧∀ i:Nat,(i:Int)<t.2→Ms t.1 (d.bS.getD i default)) (fun t=>(d.bS.length - t.2).toNat) ⟨by simp,by simp,by dsimp only;omega,fun x hx=>hx,fun i hi=>by dsimp only at hi;omega⟩ (by simp;omega) ?_
  rintro ⟨o,t⟩ ⟨g1,g2,g3,g4,g5⟩
  dsimp only at g1 g2 g3 g4 g5 ⊢
  obtain ⟨n,rfl⟩:=aP g1
  simp (disch:=omega) only[wr,Int.ofNat_eq_natCast]
  refine bO.bR (bO.ite (fun e1=>?_) (fun e1=>?_))
  ·simp only[aB] at e1
   have hn:n<d.bS.length:=by omega
   have hp:=d4 _ (c6 (d:=default) hn)
   rw[Int.toNat_natCast]
   refine bO.b5 (fun v:List eZ=>(v.length:Int)≤16+8 * n∧(∀ x∈d.cA,x∈v)∧∀ i:Nat,(i:Int)<n+1→Ms v (d.bS.getD i default)) (bO.bQ (bO.bY (bW (by omega)) (bO.b7 ?_))) (fun v hv=>?_)
   ·refine bO.call (aHW (by omega) (by omega) h) (fun v hv=>?_)
    refine bO.ite (fun e2=>?_) (fun e2=>?_)
    ·exact T0
    have hv:=hv (by simpa using e2)
    refine bO.eC (bO.bQ (bO.cT ?_)) (fun _=>?_)
    ·refine bO.sG (d.bS.getD n default).cG.length (by omega) (fun i hi=>?_) ?_
     ·simp (disch:=omega) only[wr,Int.ofNat_eq_natCast]
      refine bO.bR (bO.dN (by simp only[aB];omega) ?_)
      refine bO.eC (bO.bQ (bO.bY (bW (by omega)) (bO.b7 ?_))) (fun _=>by refine bO.ret (sE.r ?_);rfl)
      exact T0
     ·simp (disch:=omega) only[wr,Int.ofNat_eq_natCast]
      refine bO.bR (bO.dA (by simp) ?_)
      exact T0
    ·refine bO.bR (bO.bY (cS ?_) (bO.b7 ?_))
     ·omega
     ·refine bO.ret (sE.r ?_)
      refine ⟨?_,fun x hx=>List.mem_append_left _ (g4 x hx),fun i hi=>?_⟩
      ·rw[aG];omega
      ·by_cases q:i=n
       ·subst q;exact ⟨hv,fun x hx=>List.mem_append_right _ hx⟩
       ·have g:=g5 i (by omega)
        exact ⟨g.1,fun x hx=>List.mem_append_left _ (g.2 x hx)⟩
   ·refine bO.ret (sE.r ?_)
    exact ⟨⟨by dsimp only;omega,by dsimp only;omega,by dsimp only;omega,hv.2.1,hv.2.2⟩,by dsimp only;omega⟩
  ·refine bO.ret (sE.l (sE.l ?_))
   simp only[aB] at e1
   exact ⟨by show o.length≤100;omega,g4,jJ (d:=default) (fun i hi=>g5 i (by omega))⟩
 rintro o ⟨ho,hin,hms⟩
 refine bO.b5 (fun _=>∀ x∈o,tyF x.cB) (bO.bQ (bO.cT ?_)) (fun _ hty=>?_)
 ·refine bO.upP o.length (fun i=>tyF (o.getD i default).cB) (by omega) (fun i hi=>?_) (fun hp=>?_)
  ·simp (disch:=omega) only[wr,Int.ofNat_eq_natCast]
   refine bO.bR (bO.dN (by simp only[aB];omega) ?_)
   rw[Int.toNat_natCast]
   refine bO.b5 (fun _=>tyF (o.getD i default).cB) (bO.bQ (bO.bY (bW (by omega)) (bO.b7 ?_))) (fun _ h2=>?_)
   ·refine bO.cH (by decide) (aHY (by omega) h) (fun v hv=>?_)
    refine bO.bY (by rw[bW (by omega)];simp) (bO.b7 (bO.bR (bO.ite (fun e2=>?_) (fun e2=>?_))))
    ·exact T0
    ·simp only[aL,not_or,aQ,Bool.not_eq_false] at e2
     refine bO.ret (sE.r ?_)
     exact hv e2.1
   ·refine bO.ret (sE.r ?_);exact ⟨rfl,h2⟩
  ·simp (disch:=omega) only[wr,Int.ofNat_eq_natCast]
   refine bO.bR (bO.dA (by simp) ?_)
   refine bO.ret (sE.l (sE.l ?_))
   exact jJ (d:=default) hp
 ·refine bO.b5 (fun _=>∀ x∈o,Ini x) (bO.bQ (bO.cT ?_)) (fun _ aY7=>?_)
  ·refine bO.upP o.length (fun i=>Ini (o.getD i default)) (by omega) (fun i hi=>?_) (fun hp=>?_)
   ·simp (disch:=omega) only[wr,Int.ofNat_eq_natCast]
    refine bO.bR (bO.dN (by simp only[aB];omega) ?_)
    rw[Int.toNat_natCast]
    refine bO.b5 (fun _=>Ini (o.getD i default)) (bO.bQ (bO.bY (bW (by omega)) (bO.b7 ?_))) (fun _ h2=>by refine bO.ret (sE.r ?_);exact ⟨rfl,h2⟩)
    refine bO.call aHX (fun v hv=>?_)
    refine bO.ite (fun e=>?_) (fun e=>?_)
    ·exact T0
    ·exact bO.ret (sE.r (hv (by simpa using e)))
   ·simp (disch:=omega) only[wr,Int.ofNat_eq_natCast]
    refine bO.bR (bO.dA (by simp) ?_)
    exact bO.ret (sE.l (sE.l (jJ (d:=default) hp)))
  ·refine bO.ret (sE.l ?_)
   exact fun _=>⟨fun x hx=>⟨hty x (hin x hx),aY7 x (hin x hx)⟩,fun m hm=>⟨(hms m hm).1,fun x hx=>hty x ((hms m hm).2 x hx)⟩⟩
theorem aRz {K:Nat} {u:cK} {d:Int} (hK:100000000<K) (hk:kd u d=2) (h:Sm u):cQ (aOs K u d) (fun _=>True):=by
 have hd:=gE hk (by decide)
 have uJ:=h.aA4 d
 have hul:=h.len
 refine cQ.of ?_
 unfold aOs
 refine bO.bY (bW hd) (bO.b7 (bO.bR (bO.ite (fun e=>?_) (fun e=>?_))))
 ·exact T0
 refine bO.eC (bO.bQ (bO.cT ?_)) (fun _=>?_)
 ·refine bO.sG (dc u d).bS.length (by omega) (fun i hi=>?_) ?_
  ·have hi':i<(u.bP.getD d.toNat default).bS.length:=hi
   simp (disch:=omega) only[wr,Int.ofNat_eq_natCast]
   refine bO.bR (bO.dN (by simp only[aB];omega) ?_)
   refine bO.eC (bO.bQ (bO.bY (bW (by omega)) (bO.b7 ?_))) (fun _=>by refine bO.ret (sE.r ?_);rfl)
   exact T0
  ·simp (disch:=omega) only[wr,Int.ofNat_eq_natCast]
   refine bO.bR (bO.dA (by simp) ?_)
   exact T0
 ·refine bO.call (mZ (by omega) h) ?_
  rintro _ rfl
  have rB:=mK u d
  refine bO.eC (bO.bQ (bO.cT ?_)) (fun _=>by exact T0)
  refine bO.loop (fun t:Int=>0≤t∧t≤(chain u d).length) (fun t=>((chain u d).length - t).toNat) ⟨by simp,by simp⟩ (by simp;omega) (fun t ⟨g1,g2⟩=>?_)
  obtain ⟨n,rfl⟩:=aP g1
  simp (disch:=omega) only[wr,Int.ofNat_eq_natCast]
  refine bO.bR (bO.ite (fun e1=>?_) (fun e1=>by exact T0))
  simp only[aC,aB] at e1
  have hn:n<(chain u d).length:=by omega
  rw[Int.toNat_natCast]
  have hmem:=c6 (d:=default) hn
  generalize hc:(chain u d).getD n default=c at hmem
  have hx:=lV hmem
  have hcm:=h.aA4 c
  refine bO.eC (bO.bQ (bO.bY (bW (by omega)) (bO.b7 (bO.bY (bW hx) (bO.b7 ?_))))) (fun _=>by refine bO.ret (sE.r ?_);exact ⟨⟨by omega,by omega⟩,by omega⟩)
  refine bO.call (aDy (by omega) hcm) ?_
  rintro _ rfl
  refine bO.eC (bO.bQ (bO.cT ?_)) (fun _=>by exact T0)
  refine bO.sG ((dc u c).bS.map fun m=>m.cD).length (by rw[aU];omega) (fun i hi=>?_) ?_
  ·rw[aU] at hi
   have hi':i<(u.bP.getD c.toNat default).bS.length:=hi
   simp (disch:=omega) only[wr,Int.ofNat_eq_natCast]
   refine bO.bR (bO.dN (by simp only[aB,aU];omega) ?_)
   refine bO.eC (bO.bQ (bO.bY (bW (by rw[aU];omega)) (bO.b7 ?_))) (fun _=>by refine bO.ret (sE.r ?_);rfl)
   rw[Int.toNat_natCast]
   have hnm:((dc u c).bS.map fun m=>m.cD).getD i default=((dc u c).bS.getD i default).cD:=by
    rw[List.getD,bG,aF hi,List.getD,aF hi];rfl
   rw[hnm]
   refine bO.jD (qX (by omega) (by assumption)) ?_
   have hf:(l9 u d ((dc u c).bS.getD i default).cD).2=true:=by
    refine aDz (c:=c) ?_ (aJJ (c6 (d:=default) hi) (beq_self_eq_true _))
    unfold line
    rw[aD (by omega)];exact hmem
   refine bO.call (rU (wJ hf).1) ?_
   rintro _ rfl
   exact T0
  ·refine bO.bR (bO.dA (by simp only[aB,Int.ofNat_eq_natCast];exact Int.lt_irrefl _) ?_)
   exact T0
def a33 (a b:hU):Prop:=a.cG.length=b.cG.length∧a.eU=b.eU∧∀ i:Nat,(i:Int)<a.cG.length→(a.cG.getD i default).cB=(b.cG.getD i default).cB
def aDA (u:cK) (d:Int) (m:hU):Prop :=
 (m.xD=true↔1<(chain u d).length∧(l9 u ((chain u d).getD 1 default) m.cD).2=true) ∧
 (1<(chain u d).length→(l9 u ((chain u d).getD 1 default) m.cD).2=true→a33 m (sX u (l9 u ((chain u d).getD 1 default) m.cD).1))
theorem aRA {K:Nat} {u:cK} {d:Int} (hK:100000000<K) (hd:0≤d∧d<u.bP.length) (hs:Sz8 (dc u d)) (h:Sm u):cQ (aOt K u d) (fun v=>v=false→∀ m∈(dc u d).bS,aDA u d m):=by
 have uJ:=h.aA4 d
 refine cQ.of ?_
 unfold aOt
 refine bO.bY (bW hd) (bO.b7 ?_)
 refine bO.call (mZ (by omega) h) ?_
 rintro _ rfl
 refine bO.b5 (fun _=>∀ m∈(dc u d).bS,aDA u d m) (bO.bQ (bO.cT ?_)) (fun _ hq=>by refine bO.ret (sE.l ?_);exact fun _=>hq)
 refine bO.upP (dc u d).bS.length (fun i=>aDA u d ((dc u d).bS.getD i default)) (by omega) (fun i hi=>?_) (fun hp=>?_)
 ·have hi':i<(u.bP.getD d.toNat default).bS.length:=hi
  simp (disch:=omega) only[wr,Int.ofNat_eq_natCast]
  refine bO.bR (bO.dN (by simp only[aB];omega) ?_)
  rw[Int.toNat_natCast]
  have hmp:=hs.p _ (c6 (d:=default) hi)
  have hlp:((dc u d).bS.getD i default).cG.length≤6004:=by omega
  generalize hm:(dc u d).bS.getD i default=m at hlp
  refine bO.b5 (fun _=>aDA u d m) (bO.bQ (bO.bY (bW (by omega)) (bO.b7 ?_))) (fun _ h2=>by refine bO.ret (sE.r ?_);exact ⟨rfl,h2⟩)
  refine bO.b5 (fun v:Bool × hU=>(v.1=true↔1<(chain u d).length∧(l9 u ((chain u d).getD 1 default) m.cD).2=true)∧(v.1=true→v.2=sX u (l9 u ((chain u d).getD 1 default) m.cD).1)) ?_ (fun v hv=>?_)
  ·refine bO.ite (fun e1=>?_) (fun e1=>?_)
   ·simp only[aB,Int.ofNat_eq_natCast] at e1
    refine bO.bY (bW (by omega)) (bO.b7 ?_)
    have h1:(1:Int).toNat=1:=rfl
    rw[h1,← hm]
    refine bO.jD (qX (by omega) (by assumption)) ?_
    rw[hm]
    refine bO.ite (fun e2=>?_) (fun e2=>?_)
    ·refine bO.call (rU (wJ e2).1) ?_
     rintro _ rfl
     refine bO.ret (sE.r ?_)
     exact ⟨⟨fun _=>⟨by omega,e2⟩,fun _=>rfl⟩,fun _=>rfl⟩
    ·refine bO.ret (sE.r ?_)
     exact ⟨⟨fun q=>(by cases q),fun q=>absurd q.2 e2⟩,fun q=>by cases q⟩
   ·simp only[aB,Int.ofNat_eq_natCast] at e1
    refine bO.ret (sE.r ?_)
    exact ⟨⟨fun q=>(by cases q),fun q=>absurd q.1 (by omega)⟩,fun q=>by cases q⟩
  ·obtain ⟨v1,v2⟩:=hv
   refine bO.bR ?_
   refine bO.c8 (fun _=>aHZ (by omega) (by omega)) (fun w hw=>?_)
   refine bO.bR (bO.ite (fun e1=>?_) (fun e1=>?_))
   ·exact T0
   ·refine bO.ret (sE.r ?_)
    simp only[aL,not_or,aC,not_and,aQ,Bool.not_eq_false,beq_iff_eq] at e1
    obtain ⟨e1,e2⟩:=e1
    refine ⟨by rw[e1];exact v1,fun q1 q2=>?_⟩
    have q:=v1.2 ⟨q1,q2⟩
    have e3:=e2 q
    rw[← v2 q]
    exact hw (by simp only[Bool.not_eq_true] at e3;simp [q,e1,e3.1]) e3.2
 ·simp (disch:=omega) only[wr,Int.ofNat_eq_natCast]
  refine bO.bR (bO.dA (by simp) ?_)
  refine bO.ret (sE.l (sE.l ?_))
  exact jJ (d:=default) hp
end Go.Proofs.YtdbfbedholdjaaaGreat

namespace Go.Proofs.YtdbfbedholdjaaaGreat
open Go Go.Dl
variable [dO]
set_option maxRecDepth 100000
set_option maxHeartbeats 8000000
theorem aRB {u:cK} {d x:Int} (h:x∈gJ u d):0≤x∧x<u.bP.length:=by
 have h1:∀ (l:List Bytes) (out:List Int),(∀ x∈out,0≤x∧x<u.bP.length)→∀ x∈l.foldl (iS u) out,0≤x∧x<u.bP.length:=by
  intro l
  induction l with
  | nil=>exact fun _ h=>h
  | cons s l ih =>
    intro out ho
    refine ih _ ?_
    unfold iS
    split
    ·rename_i e
     intro x hx
     rcases aZ.1 hx with hx | hx
     ·exact ho x hx
     ·rw[aJ.1 hx];exact gE e.1 (by decide)
    ·exact ho
 have h2:∀ (l:List Int) (out:List Int),(∀ x∈out,0≤x∧x<u.bP.length)→∀ x∈l.foldl (fun out c=>(dc u c).cL.foldl (iS u) out) out,0≤x∧x<u.bP.length:=by
  intro l
  induction l with
  | nil=>exact fun _ h=>h
  | cons c l ih=>exact fun out ho=>ih _ (h1 _ _ ho)
 exact h2 _ _ (fun x hx=>by cases hx) x h
theorem aRC {K:Nat} {u:cK} {d:Int} (hK:100000000<K) (h:Sm u):cQ (aPj K u d) (fun v=>v=true→∀ c∈gJ u d,∀ m∈(dc u c).bS,(l9 u d m.cD).2=true):=by
 have hul:=h.len
 have hfl:=qL u d
 refine cQ.of ?_
 unfold aPj
 refine bO.call (aDr (by omega) h) ?_
 rintro _ rfl
 refine bO.b5 (fun _=>∀ c∈gJ u d,∀ m∈(dc u c).bS,(l9 u d m.cD).2=true) (bO.bQ (bO.cT ?_)) (fun _ hq=>bO.ret (sE.l (fun _=>hq)))
 refine bO.upP (gJ u d).length (fun n=>∀ m∈(dc u ((gJ u d).getD n default)).bS,(l9 u d m.cD).2=true) (by omega) (fun n hn=>?_) (fun hp=>?_)
 ·simp (disch:=omega) only[wr,Int.ofNat_eq_natCast]
  refine bO.bR (bO.dN (by simp only[aB];omega) ?_)
  rw[Int.toNat_natCast]
  have hx:=aRB (c6 (d:=default) hn)
  generalize hc:(gJ u d).getD n default=c at hx
  have hcm:=h.aA4 c
  refine bO.b5 (fun _=>∀ m∈(dc u c).bS,(l9 u d m.cD).2=true) (bO.bQ (bO.bY (bW (by omega)) (bO.b7 (bO.bY (bW hx) (bO.b7 ?_))))) (fun _ h2=>by refine bO.ret (sE.r ?_);exact ⟨rfl,h2⟩)
  refine bO.b5 (fun _=>∀ m∈(dc u c).bS,(l9 u d m.cD).2=true) (bO.bQ (bO.cT ?_)) (fun _ h2=>bO.ret (sE.r h2))
  refine bO.upP (dc u c).bS.length (fun i=>(l9 u d ((dc u c).bS.getD i default).cD).2=true) (by omega) (fun i hi=>?_) (fun hp=>?_)
  ·have hi':i<(u.bP.getD c.toNat default).bS.length:=hi
   simp (disch:=omega) only[wr,Int.ofNat_eq_natCast]
   refine bO.bR (bO.dN (by simp only[aB];omega) ?_)
   refine bO.b5 (fun _=>(l9 u d ((dc u c).bS.getD i default).cD).2=true) (bO.bQ (bO.bY (bW (by omega)) (bO.b7 ?_))) (fun _ h2=>by refine bO.ret (sE.r ?_);exact ⟨rfl,h2⟩)
   rw[Int.toNat_natCast]
   refine bO.jD (qX (by omega) (by assumption)) ?_
   refine bO.bY (by rw[bW (by omega)];simp) (bO.b7 ?_)
   refine bO.c8 (fun e=>rU (wJ (by simpa using e)).1) (fun v hv=>?_)
   refine bO.c8 (fun e=>aHZ (by omega) ?_) (fun _ _=>?_)
   ·rw[hv e]
    exact (hU.bounds (h.m _ _)).1
   ·refine bO.ite (fun e=>?_) (fun e=>?_)
    ·exact T0
    ·simp only[aL,not_or,aQ,Bool.not_eq_false] at e
     exact bO.ret (sE.r e.1)
  ·simp (disch:=omega) only[wr,Int.ofNat_eq_natCast]
   refine bO.bR (bO.dA (by simp) ?_)
   exact bO.ret (sE.l (sE.l (jJ (d:=default) hp)))
 ·simp (disch:=omega) only[wr,Int.ofNat_eq_natCast]
  refine bO.bR (bO.dA (by simp) ?_)
  exact bO.ret (sE.l (sE.l (jJ (d:=default) hp)))
theorem aRD {K:Nat} {u:cK} {d k:Int} (hK:100000000<K) (hd:0≤d∧d<u.bP.length) (hk:0≤k∧k<(dc u d).cA.length) (h:Sm u):cQ (aOw K u d k) (fun _=>True):=by
 have hul:=h.len
 refine cQ.of ?_
 unfold aOw
 refine bO.eC (bO.bQ (bO.cT ?_)) (fun _=>by exact T0)
 refine bO.loop (fun t:Int=>0≤t∧t≤d+1) (fun t=>(d+1 - t).toNat) ⟨by omega,by omega⟩ (by omega) (fun t ⟨g1,g2⟩=>?_)
 have hv:=h.vars t
 simp (disch:=omega) only[wr,Int.ofNat_eq_natCast]
 refine bO.ite (fun e1=>?_) (fun e1=>by exact T0)
 simp only[aB] at e1
 refine bO.eC (bO.bQ (bO.bY (bW (by omega)) (bO.b7 ?_))) (fun _=>by refine bO.ret (sE.r ?_);exact ⟨⟨by omega,by omega⟩,by omega⟩)
 refine bO.eC (bO.bQ (bO.cT ?_)) (fun _=>by exact T0)
 refine bO.loop (fun i:Int=>0≤i∧i≤(dc u t).cA.length) (fun i=>((dc u t).cA.length - i).toNat) ⟨by omega,by omega⟩ (by omega) (fun i ⟨k1,k2⟩=>?_)
 simp (disch:=omega) only[wr,Int.ofNat_eq_natCast]
 refine bO.bR (bO.ite (fun e2=>?_) (fun e2=>by exact T0))
 simp only[aB,aC] at e2
 have hi:i<(dc u t).cA.length:=e2.1.1
 refine bO.eC (bO.bQ (bO.bY (bW ⟨k1,hi⟩) (bO.bY (by rw[bW (n:=(u.bP.getD t.toNat default).cA.length) ⟨k1,hi⟩];simp) (bO.bY (by rw[bW hd];simp) (bO.bY (by rw[bW (n:=(u.bP.getD d.toNat default).cA.length) hk];simp) (bO.b7 ?_)))))) (fun _=>by refine bO.ret (sE.r ?_);exact ⟨⟨by omega,by omega⟩,by omega⟩)
 exact T0
def aH0 (x:eZ):Prop:=tyV x.cB∧(x.kE≠0→x.cB.bU=1∨x.cB.bU=2)∧0≤x.kE∧x.kE≤2
theorem aRE {K:Nat} {u:cK} {d:Int} (hK:101000000<K) (hd:0≤d∧d<u.bP.length) (h:Sm u):cQ (aOF K u d) (fun v=>v=0→(∀ x∈(dc u d).cA,aH0 x)∧(∀ x∈(dc u d).cA,Ini x)∧Dst ((dc u d).cA.map fun x=>x.cD)):=by
 have hul:=h.len
 have hv:=h.vars d
 refine cQ.of ?_
 unfold aOF
 refine bO.bY (bW hd) (bO.b7 ?_)
 refine bO.b5 (fun _=>∀ x∈(dc u d).cA,aH0 x) (bO.bQ (bO.cT ?_)) (fun _ hq=>?_)
 ·refine bO.upP (dc u d).cA.length (fun i=>aH0 ((dc u d).cA.getD i default)) (by omega) (fun i hi=>?_) (fun hp=>?_)
  ·have hi':i<(u.bP.getD d.toNat default).cA.length:=hi
   simp (disch:=omega) only[wr,Int.ofNat_eq_natCast]
   refine bO.bR (bO.dN (by simp only[aB];omega) ?_)
   rw[Int.toNat_natCast]
   refine bO.b5 (fun _=>aH0 ((dc u d).cA.getD i default)) (bO.bQ (bO.bY (bW (by omega)) (bO.b7 ?_))) (fun _ h2=>by refine bO.ret (sE.r ?_);exact ⟨rfl,h2⟩)
   refine bO.call (aRx (by omega) h) (fun v hv=>?_)
   refine bO.bR (bO.ite (fun e2=>?_) (fun e2=>?_))
   ·exact T0
   ·simp only[aL,aC,not_or,not_and,aQ,Bool.not_eq_false,aB,bne_iff_ne,ne_eq,Decidable.not_not,Bool.not_eq_true] at e2
    obtain ⟨⟨⟨e3,e4⟩,e5⟩,e6⟩:=e2
    refine bO.ret (sE.r ?_)
    refine ⟨hv e3,fun a6l=>?_,?_,?_⟩
    ·by_cases q:((u.bP.getD d.toNat default).cA.getD i default).cB.bU=1
     ·exact .inl q
     ·exact .inr (e6 ⟨a6l,q⟩)
    ·show 0≤((u.bP.getD d.toNat default).cA.getD i default).kE
     omega
    ·show ((u.bP.getD d.toNat default).cA.getD i default).kE≤2
     omega
  ·simp (disch:=omega) only[wr,Int.ofNat_eq_natCast]
   refine bO.bR (bO.dA (by simp only[aB];exact Int.lt_irrefl _) ?_)
   refine bO.ret (sE.l (sE.l ?_))
   exact jJ (d:=default) hp
 ·refine bO.b5 (fun _=>∀ x∈(dc u d).cA,Ini x) (bO.bQ (bO.cT ?_)) (fun _ aY7=>?_)
  ·refine bO.upP (dc u d).cA.length (fun i=>Ini ((dc u d).cA.getD i default)) (by omega) (fun i hi=>?_) (fun hp=>?_)
   ·have hi':i<(u.bP.getD d.toNat default).cA.length:=hi
    simp (disch:=omega) only[wr,Int.ofNat_eq_natCast]
    refine bO.bR (bO.dN (by simp only[aB];omega) ?_)
    rw[Int.toNat_natCast]
    refine bO.b5 (fun _=>Ini ((dc u d).cA.getD i default)) (bO.bQ (bO.bY (bW (by omega)) (bO.b7 ?_))) (fun _ h2=>by refine bO.ret (sE.r ?_);exact ⟨rfl,h2⟩)
    refine bO.call aHX (fun v hv=>?_)
    refine bO.ite (fun e=>?_) (fun e=>?_)
    ·exact T0
    ·exact bO.ret (sE.r (hv (by simpa using e)))
   ·simp (disch:=omega) only[wr,Int.ofNat_eq_natCast]
    refine bO.bR (bO.dA (by simp only[aB];exact Int.lt_irrefl _) ?_)
    exact bO.ret (sE.l (sE.l (jJ (d:=default) hp)))
  ·refine bO.eC (bO.bQ (bO.cT ?_)) (fun _=>?_)
   ·refine bO.sG (dc u d).cA.length (by omega) (fun i hi=>?_) ?_
    ·have hi':i<(u.bP.getD d.toNat default).cA.length:=hi
     simp (disch:=omega) only[wr,Int.ofNat_eq_natCast]
     refine bO.bR (bO.dN (by simp only[aB];omega) ?_)
     refine bO.eC (bO.bQ (bO.bY (bW (by omega)) (bO.b7 (bO.bR ?_)))) (fun _=>by refine bO.ret (sE.r ?_);rfl)
     refine bO.c8 (fun _=>aRD (by omega) hd ⟨by omega,by omega⟩ h) (fun _ _=>?_)
     exact T0
    ·simp (disch:=omega) only[wr,Int.ofNat_eq_natCast]
     refine bO.bR (bO.dA (by simp only[aB];exact Int.lt_irrefl _) ?_)
     exact T0
   ·refine bO.bR ?_
    refine bO.call (zJ (by omega) (show (dc u d).cA.length≤_ by omega)) (fun v hv2=>?_)
    refine bO.call (oR (by omega) (by rw[hv2.1];show (dc u d).cA.length≤_;omega)) (fun v3 hv3=>?_)
    refine bO.ite (fun e=>?_) (fun e=>bO.bR ?_)
    ·exact T0
    ·refine bO.call (aHT (by omega) (h.body d) h) (fun _ _=>?_)
     refine bO.ret (sE.l ?_)
     have hds:=hv3 (by simpa using e)
     rw[hv2.2] at hds
     exact fun _=>⟨hq,aY7,hds⟩
theorem aRF {K:Nat} {u:cK} {d:Int} (hK:101000000<K) (hd:0≤d∧d<u.bP.length) (h:Sm u):cQ (aOH K u d) (fun v=>v=0→kd u (vC u (dc u d).gF)=3):=by
 have hul:=h.len
 refine cQ.of ?_
 unfold aOH
 refine bO.bY (bW hd) (bO.b7 (bO.bR ?_))
 refine bO.jD (iV (by omega) h) ?_
 refine bO.jD iU ?_
 refine bO.bR ?_
 refine bO.b5 (fun b:Bool=>b=false→kd u (vC u (dc u d).gF)=3) (bO.bQ (bO.cT ?_)) (fun b hb=>bO.ite (fun e=>bO.ret (sE.l (fun q=>absurd q (by decide)))) (fun e=>bO.ret (sE.l (fun _=>hb (by simpa using e)))))
 refine bO.loop (fun t:Bool × Int=>0≤t.2∧t.2≤d∧(t.1=false→kd u (vC u (dc u d).gF)=3)) (fun t=>(d - t.2).toNat) ⟨by dsimp only;omega,by dsimp only;omega,fun q=>?_⟩ (by dsimp only;omega) ?_
 ·simp only[Bool.or_eq_false_iff,bne_eq_false_iff_eq] at q
  exact q.1.1.1.1.1
 rintro ⟨b,t⟩ ⟨g1,g2,g3⟩
 dsimp only at g1 g2 g3 ⊢
 refine bO.ite (fun e1=>?_) (fun e1=>bO.ret (sE.l (sE.l g3)))
 simp only[aB] at e1
 refine bO.b5 (fun v:Bool=>v=false→kd u (vC u (dc u d).gF)=3) (bO.bQ (bO.bY (by rw[bW (by omega)];simp) (bO.bY (by rw[bW (by omega)];simp) (bO.b7 (bO.bR (bO.ret (sE.r ?_))))))) (fun v hv=>by rw[wr (by omega) (by omega)];exact bO.ret (sE.r ⟨⟨by dsimp only;omega,by dsimp only;omega,hv⟩,by dsimp only;omega⟩))
 intro q
 simp only[Bool.or_eq_false_iff] at q
 exact g3 q.1
structure Cls (u:cK) (d:Int):Prop where
 base:(dc u d).gF=[]∨(kd u (vC u (dc u d).gF)=2∧vC u (dc u d).gF<d)
 vars:∀ x∈(dc u d).cA,tyF x.cB
 over:∀ m∈(dc u d).bS,aDA u d m
 ini:∀ x∈(dc u d).cA,Ini x
 mt:∀ m∈(dc u d).bS,(∀ p∈m.cG,tyP p.cB)∧∀ x∈m.cA,tyF x.cB
 ans:∀ c∈gJ u d,∀ m∈(dc u c).bS,(l9 u d m.cD).2=true
theorem aRG {K:Nat} {u:cK} {d:Int} (hK:101000000<K) (hk:kd u d=2) (hs:Sz8 (dc u d)) (h:Sm u):cQ (aPk K u d) (fun v=>v=0→Cls u d):=by
 have hd:=gE hk (by decide)
 have hul:=h.len
 have uJ:=h.aA4 d
 refine cQ.of ?_
 unfold aPk
 refine bO.bY (bW hd) (bO.b7 (bO.bR ?_))
 refine bO.b5 (fun _=>(dc u d).gF=[]∨(kd u (vC u (dc u d).gF)=2∧vC u (dc u d).gF<d)) ?_ (fun _ hbase=>?_)
 ·refine bO.ite (fun e=>bO.bR ?_) (fun e=>?_)
  ·refine bO.jD (iV (by omega) (by assumption)) ?_
   refine bO.jD (iU) ?_
   refine bO.bY ?_ (bO.b7 (bO.bR (bO.ite (fun e2=>?_) (fun e2=>?_))))
   ·by_cases q:kd u (vC u (dc u d).gF)=2
    ·rw[bW (gE q (by decide))];simp
    ·have:(kd u (vC u (dc u d).gF) != 2)=true:=bne_iff_ne.2 q
     rw[this];simp
   ·exact T0
   ·simp only[aL,not_or,bne_iff_ne,ne_eq,Decidable.not_not,aB] at e2
    refine bO.ret (sE.r ?_)
    refine .inr ⟨e2.1.1,?_⟩
    show vC u (u.bP.getD d.toNat default).gF<d
    omega
  ·simp only[aQ,Bool.not_eq_false,beq_iff_eq] at e
   refine bO.ret (sE.r ?_)
   exact .inl e
 have hfl:=hs.f
 refine bO.eC (bO.bQ (bO.cT ?_)) (fun _=>?_)
 ·refine bO.sG (dc u d).cL.length (by omega) (fun i hi=>?_) ?_
  ·have hi':i<(u.bP.getD d.toNat default).cL.length:=hi
   simp (disch:=omega) only[wr,Int.ofNat_eq_natCast]
   refine bO.bR (bO.dN (by simp only[aB];omega) ?_)
   refine bO.eC (bO.bQ (bO.bY (bW (by omega)) (bO.b7 (bO.bR ?_)))) (fun _=>by refine bO.ret (sE.r ?_);rfl)
   refine bO.aJI rfl (iV (by omega) (by assumption)) ?_
   refine bO.cH (by decide) iU ?_
   rintro _ rfl
   exact T0
  ·simp (disch:=omega) only[wr,Int.ofNat_eq_natCast]
   refine bO.bR (bO.dA (by simp only[aB];exact Int.lt_irrefl _) ?_)
   exact T0
 refine bO.bR (bO.call (oR (by omega) (show (dc u d).cL.length≤_ by omega)) (fun _ _=>?_))
 refine bO.ite (fun e=>by exact T0) (fun e=>?_)
 refine bO.call (aRy (by omega) hs h) (fun v hvars=>?_)
 refine bO.ite (fun e=>?_) (fun e=>?_)
 ·refine bO.ret (sE.l ?_)
  intro q
  exact absurd q (by simpa using e)
 have hvars:=hvars (by simpa using e)
 refine bO.call (aBR (by omega) h) ?_
 rintro _ rfl
 have hfd:=aDB h d
 refine bO.call (zJ (by omega) (by omega)) (fun v hv=>?_)
 refine bO.call (oR (by omega) (by rw[hv.1];omega)) (fun b1 _=>?_)
 refine bO.c8 (fun _=>aDy (by omega) uJ) (fun v2 hv2=>?_)
 refine bO.c8 (fun e=>oR (by omega) (by rw[hv2 e,aU];exact aS uJ (by omega))) (fun b2 _=>?_)
 refine bO.eC (bO.bQ (bO.cT ?_)) (fun _=>?_)
 ·refine bO.loop (fun t:Bool × Int=>0≤t.2∧t.2≤(dc u d).bS.length) (fun t=>((dc u d).bS.length - t.2).toNat) ⟨by dsimp only;omega,by dsimp only;omega⟩ (by dsimp only;omega) ?_
  rintro ⟨b,t⟩ ⟨g1,g2⟩
  dsimp only at g1 g2 ⊢
  simp (disch:=omega) only[wr,Int.ofNat_eq_natCast]
  refine bO.bR (bO.ite (fun e1=>?_) (fun e1=>by exact T0))
  have e1:t<(dc u d).bS.length:=of_decide_eq_true e1
  refine bO.eC (bO.bQ ?_) (fun _=>by refine bO.ret (sE.r ?_);exact ⟨⟨by dsimp only;omega,by dsimp only;omega⟩,by dsimp only;omega⟩)
  refine bO.c8 (fun _=>aH1 (by omega) h) (fun v3 hv3=>?_)
  refine bO.c8 (fun e=>zJ (by omega) (hv3 e)) (fun v4 hv4=>?_)
  refine bO.c8 (fun e=>oR (by omega) (by rw[(hv4 e).1];exact hv3 e)) (fun _ _=>?_)
  exact T0
 refine bO.ite (fun e=>by exact T0) (fun e=>?_)
 refine bO.call (aRz (by omega) hk h) (fun _ _=>?_)
 refine bO.ite (fun e=>by exact T0) (fun e=>?_)
 refine bO.call (aRA (by omega) hd hs h) (fun v aRH=>?_)
 refine bO.ite (fun e=>by exact T0) (fun e=>?_)
 have aRH:=aRH (by simpa using e)
 refine bO.call (aRC (by omega) h) (fun v aY9=>?_)
 refine bO.ite (fun e=>by exact T0) (fun e=>?_)
 have aY9:=aY9 (by simpa using e)
 refine bO.eC (bO.bQ (bO.cT ?_)) (fun _=>by refine bO.ret (sE.l ?_);exact fun _=>⟨hbase,fun x hx=>(hvars.1 x hx).1,aRH,fun x hx=>(hvars.1 x hx).2,hvars.2,aY9⟩)
 refine bO.sG (dc u d).bS.length (by omega) (fun i hi=>?_) ?_
 ·have hi':i<(u.bP.getD d.toNat default).bS.length:=hi
  simp (disch:=omega) only[wr,Int.ofNat_eq_natCast]
  refine bO.bR (bO.dN (by simp only[aB];omega) ?_)
  refine bO.eC (bO.bQ (bO.bY (bW (by omega)) (bO.b7 (bO.bR (bO.ite (fun e=>?_) (fun e=>?_)))))) (fun _=>by refine bO.ret (sE.r ?_);rfl)
  ·refine bO.ret (sE.l (sE.l ?_));trivial
  ·refine bO.bY (bW (by omega)) (bO.b7 (bO.bR ?_))
   have hb:=hU.bounds (h.m d (i:Int).toNat)
   refine bO.cH (by decide) (aHT (by omega) hb.2.2 h) (fun v _=>?_)
   refine bO.ite (fun _=>bO.ret (sE.l (sE.r (sE.r ?_)))) (fun _=>bO.ret (sE.r ?_))
   ·rename_i e2
    intro q
    exact absurd q (by simpa using e2)
   ·trivial
 ·simp (disch:=omega) only[wr,Int.ofNat_eq_natCast]
  refine bO.bR (bO.dA (by simp only[aB];exact Int.lt_irrefl _) ?_)
  exact T0
end Go.Proofs.YtdbfbedholdjaaaGreat

namespace Go.Proofs.YtdbfbedholdjaaaGreat
open Go Go.Dl
variable [dO]
set_option maxRecDepth 100000
set_option maxHeartbeats 8000000
structure Ok8 (u:cK) (d:Int):Prop where
 kd:1≤kd u d∧kd u d≤4
 lim:d<12
 sz:Sz8 (dc u d)
 cls:Go.Proofs.YtdbfbedholdjaaaGreat.kd u d=2→Cls u d
 prg:Go.Proofs.YtdbfbedholdjaaaGreat.kd u d=3→∀ x∈(dc u d).cA,aH0 x
 a32:Go.Proofs.YtdbfbedholdjaaaGreat.kd u d=3→(∀ x∈(dc u d).cA,Ini x)∧Dst ((dc u d).cA.map fun x=>x.cD)
 fac:Go.Proofs.YtdbfbedholdjaaaGreat.kd u d=1→∀ m∈(dc u d).bS,∀ p∈m.cG,tyP p.cB
 tsk:Go.Proofs.YtdbfbedholdjaaaGreat.kd u d=4→Go.Proofs.YtdbfbedholdjaaaGreat.kd u (vC u (dc u d).gF)=3
theorem aZa {u:cK} {d:Int} (h:0≤d∧d<u.bP.length):0≤vC u (dc u d).cD∧vC u (dc u d).cD≤d:=by
 have h1:(dc u d)∈u.bP:=c6 (by omega)
 have h0:0≤vC u (dc u d).cD:=aJJ h1 (beq_self_eq_true _)
 refine ⟨h0,?_⟩
 unfold vC ix at h0 ⊢
 split at h0
 ·rename_i e
  rw[aE e]
  refine Classical.byContradiction fun hlt=>?_
  have hlt:d.toNat<u.bP.findIdx (fun x:iR=>x.cD == (dc u d).cD):=by omega
  have:=List.not_of_lt_findIdx hlt
  have hd:u.bP[d.toNat]=dc u d:=by
   rw[dc,List.getD,aF (by omega)];rfl
  rw[hd] at this
  simp at this
 ·omega
theorem aUy {K:Nat} {u:cK} {d:Int} (hK:101000000<K) (hd:0≤d∧d<u.bP.length) (h:Sm u):cQ (F77 K u d) (fun v=>v=0→Ok8 u d):=by
 have uJ:=h.aA4 d
 have hkd:kd u d=(dc u d).bU:=by unfold kd;rw[aD (by omega)]
 refine cQ.of ?_
 unfold F77
 refine bO.bY (by rw[bW hd];simp) (bO.bY (by rw[bW hd];simp) (bO.b7 (bO.bR (bO.ite (fun e=>by exact T0) (fun e=>?_)))))
 simp only[aL,not_or,aB,Int.ofNat_eq_natCast] at e
 obtain ⟨⟨_,e1⟩,e2⟩:=e
 refine bO.bY (bW hd) (bO.b7 ?_)
 refine bO.c8 (fun _=>aRu (by omega) uJ) (fun v hv=>?_)
 refine bO.ite (fun e=>by exact T0) (fun e=>bO.bR ?_)
 simp only[aL,not_or,aB,Bool.not_eq_true] at e
 obtain ⟨e3,e4⟩:=e
 have hsz:=hv (by simp;omega) e4
 have hs:Sz8 (dc u d):=⟨hsz.1,hsz.2.1,hsz.2.2.1,hsz.2.2.2⟩
 refine bO.jD (iV (by omega) (by assumption)) ?_
 refine bO.ite (fun e=>by exact T0) (fun e=>bO.bR ?_)
 simp only[aB] at e
 have hn:vC u (dc u d).cD=d:=by
  have h1:=(aZa hd).2
  have h2:¬ vC u (dc u d).cD<d:=e
  omega
 have hk:1≤kd u d∧kd u d≤4:=by
  rw[hkd]
  constructor
  ·show 1≤(u.bP.getD d.toNat default).bU;omega
  ·show (u.bP.getD d.toNat default).bU≤4;omega
 change bO (bT (bQ (if (((dc u d).bU:Int) == 1)=true then _ else if (((dc u d).bU:Int) == 2)=true then _ else if (((dc u d).bU:Int) == 3)=true then _ else _)) _) _
 refine bO.b5 (fun _=>kd u d≠2∧kd u d≠3∧kd u d≠1) (bO.bQ ?_) (fun _ hq=>?_)
 ·refine bO.ite (fun e=>?_) (fun e=>?_)
  ·have e:=beq_iff_eq.1 e
   rw[← hkd] at e
   refine bO.call (aRw (by omega) uJ (fun m hm=>by have:=(hs.p m hm).1;omega) h) (fun v hv=>?_)
   refine bO.ret (sE.l (sE.r ?_))
   exact fun q0=>⟨hk,by omega,hs,fun q=>by omega,fun q=>by omega,fun q=>by omega,fun _=>hv q0,fun q=>by omega⟩
  refine bO.ite (fun e'=>?_) (fun e'=>?_)
  ·have e:=beq_iff_eq.1 e'
   rw[← hkd] at e
   refine bO.call (aRG (by omega) e hs h) (fun v hv=>?_)
   refine bO.ret (sE.l (sE.r ?_))
   exact fun q=>⟨hk,by omega,hs,fun _=>hv q,fun q=>by omega,fun q=>by omega,fun q=>by omega,fun q=>by omega⟩
  refine bO.ite (fun e''=>?_) (fun e''=>?_)
  ·have e:=beq_iff_eq.1 e''
   rw[← hkd] at e
   refine bO.call (aRE (by omega) hd h) (fun v hv=>?_)
   refine bO.ret (sE.l (sE.r ?_))
   exact fun q=>⟨hk,by omega,hs,fun q=>by omega,fun _=>(hv q).1,fun _=>(hv q).2,fun q=>by omega,fun q=>by omega⟩
  ·simp only[beq_iff_eq] at e e' e''
   refine bO.ret (sE.r ?_)
   exact ⟨by rw[hkd];exact e',by rw[hkd];exact e'',by rw[hkd];exact e⟩
 ·refine bO.call (aRF (by omega) hd h) (fun v hv=>?_)
  refine bO.ret (sE.l ?_)
  exact fun q0=>⟨hk,by omega,hs,fun q=>absurd q hq.1,fun q=>absurd q hq.2.1,fun q=>absurd q hq.2.1,fun q=>absurd q hq.2.2,fun _=>hv q0⟩
def Wf (u:cK):Prop:=∀ d:Int,0≤d∧d<u.bP.length→Ok8 u d
theorem aUz {K:Nat} {u:cK} (hK:101000000<K) (h:Sm u):cQ (F34 K u) (fun v=>(v=[]→Wf u)∧v.length≤6004∧∀ w∈v,0≤w.fAt∧w.fAt<u.bP.length):=by
 have hul:=h.len
 refine cQ.of ?_
 unfold F34
 refine bO.b5 (fun v:List uV=>(v=[]→Wf u)∧v.length≤6004∧∀ w∈v,0≤w.fAt∧w.fAt<u.bP.length) (bO.bQ (bO.cT ?_)) (fun v hv=>by refine bO.ret (sE.l ?_);exact hv)
 refine bO.loop (fun t:List uV × Int=>0≤t.2∧t.2≤u.bP.length∧(t.1=[]→∀ d:Int,0≤d∧d<t.2→Ok8 u d)∧(t.1.length:Int)≤t.2∧∀ w∈t.1,0≤w.fAt∧w.fAt<u.bP.length) (fun t=>(u.bP.length - t.2).toNat) ⟨by simp,by simp,fun _ d hd=>by simp only at hd;omega,by simp,fun w hw=>by cases hw⟩ (by simp;omega) ?_
 rintro ⟨o,t⟩ ⟨g1,g2,g3,g4,g5⟩
 dsimp only at g1 g2 g3 g4 g5 ⊢
 simp (disch:=omega) only[wr,Int.ofNat_eq_natCast]
 refine bO.bR (bO.ite (fun e1=>?_) (fun e1=>?_))
 ·simp only[aB] at e1
  refine bO.b5 (fun o2:List uV=>(o2=[]→∀ d:Int,0≤d∧d<t+1→Ok8 u d)∧(o2.length:Int)≤t+1∧∀ w∈o2,0≤w.fAt∧w.fAt<u.bP.length) (bO.bQ ?_) (fun o2 ho=>?_)
  ·refine bO.call (aUy hK ⟨g1,e1⟩ h) (fun v hv=>?_)
   refine bO.ite (fun e2=>bO.bY (cS ?_) (bO.b7 ?_)) (fun e2=>?_)
   ·show (o.length+1) * 16≤_
    omega
   ·refine bO.ret (sE.r ?_)
    refine ⟨fun q=>?_,?_,?_⟩
    ·exact absurd q (by simp)
    ·rw[aG,List.length_singleton];omega
    ·intro w hw
     rcases aZ.1 hw with hw | hw
     ·exact g5 w hw
     ·rw[aJ.1 hw];exact ⟨g1,e1⟩
   ·have hv:=hv (by simpa using e2)
    refine bO.ret (sE.r ?_)
    refine ⟨fun q d hd=>?_,by omega,g5⟩
    by_cases hdt:d=t
    ·subst hdt;exact hv
    ·exact g3 q d (by omega)
  ·refine bO.ret (sE.r ?_)
   exact ⟨⟨by dsimp only;omega,by dsimp only;omega,ho.1,ho.2.1,ho.2.2⟩,by dsimp only;omega⟩
 ·simp only[aB] at e1
  refine bO.ret (sE.l (sE.l ?_))
  refine ⟨fun q d hd=>g3 q d (by omega),?_,g5⟩
  show o.length≤_
  omega
end Go.Proofs.YtdbfbedholdjaaaGreat
