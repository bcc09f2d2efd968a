/- No conditions. -/
import Derived.Test.YtdbfbedholdjaaaGreatHUA
import Derived.Test.YtdbfbedholdjaaaGreatHLs
set_option linter.unusedVariables false
set_option linter.unusedSimpArgs false
set_option linter.unusedSectionVars false
namespace Go.Proofs.YtdbfbedholdjaaaGreat
open Go Go.Dl
variable [dO]
set_option maxRecDepth 100000
set_option maxHeartbeats 8000000
theorem aZe {r:cF} (h:r.iQ≠0):mu r=0:=by unfold mu;rw[aD h]
theorem bO.oU {α:Type} {r:cF} {a b:Option α} {Q:α→Prop} (h1:r.iQ=0→0<mu r→bO a Q) (h2:mu r=0→bO b Q):bO (if ((r.iQ:Int) == 0)=true then a else b) Q :=
 bO.ite (fun e=>h1 (by simpa using e) (wZ (by simpa using e))) (fun e=>h2 (aZe (by simpa using e)))
theorem bO.aLx {A T U:Type} {m:Option (A ⊕ T)} {f:T→Option (A ⊕ U)} {p:A→Prop} {q:U→Prop} (I:T→Prop) (h:bO m (sE p I)) (hf:∀ t,I t→bO (f t) (sE p q)):bO (Go.Dl.bT m f) (sE p q):=by
 refine bO.bT (h.zG ?_)
 rintro (a | t) h
 ·exact h
 ·exact hf t h
abbrev PL (r:cF) (v:List cI × cF):Prop:=Rd v.2∧cI.gZ v.1+4 * mu v.2≤4 * mu r
abbrev PS (r:cF) (v:cI × cF):Prop:=Rd v.2∧1≤v.1.sz∧v.1.sz+4 * mu v.2≤4 * (mu r - 1)+4
abbrev PB (r:cF) (v:cI × cF):Prop:=Rd v.2∧1≤v.1.sz∧v.1.sz+4 * mu v.2≤4 * mu r+4
theorem aRY:∀ k:Nat,(∀ (r:cF) (d:Int) (ends:List Bytes),Rd r→ends.length≤10→5 * mu r+300001<k→cQ (y7 k r d ends) (PL r))∧(∀ (r:cF) (d:Int),Rd r→5 * mu r+300000<k→cQ (aMF k r d) (PS r)) ∧
 (∀ (r:cF) (d:Int),Rd r→5 * mu r+300002<k→cQ (aMH k r d) (PB r))∧(∀ (r:cF) (d:Int),Rd r→5 * mu r+300002<k→cQ (aMI k r d) (PB r)) ∧
 (∀ (r:cF) (d:Int) (s:Bytes),Rd r→5 * mu r+300000<k→cQ (aJt k r d s) (PL r))
 | 0=>⟨fun _ _ _ _ _ h=>by omega,fun _ _ _ h=>by omega,fun _ _ _ h=>by omega,fun _ _ _ h=>by omega,fun _ _ _ _ h=>by omega⟩
 | k+1=>by
   obtain ⟨ihL,ihS,ihB,ihC,ihR⟩:=aRY k
   refine ⟨fun r d ends h he hk=>?_,fun r d h hk=>?_,fun r d h hk=>?_,fun r d h hk=>?_,fun r d s h hk=>?_⟩
   ·have hm:=mA h
    refine cQ.of ?_
    unfold y7
    refine bO.aLx (fun q=>Rd q∧mu q≤mu r) ?_ ?_
    ·(repeat' (first | (with_reducible first | refine bO.bR ?_ | refine bO.bT ?_ | refine bO.bQ ?_ | refine bO.cT ?_) | with_reducible refine bO.dN (by decide) ?_ | with_reducible refine bO.dA (by decide) ?_ | (with_reducible refine bO.call (ihS _ _ (by assumption) (by omega)) ?_;rintro ⟨_,_⟩ ⟨_,_⟩;try dsimp only at *) | ((with_reducible first | refine bO.cH (by decide) (aBT (by omega) (by assumption)) ?_ | refine bO.call (c4 (by assumption)) ?_ | refine bO.call (cY (by assumption)) ?_ | refine bO.cH (by decide) (c4 (by assumption)) ?_ | refine bO.cH (by decide) (cY (by assumption)) ?_);rintro _ (⟨rfl,_⟩ | rfl)) | ((with_reducible first | refine bO.call (e9 (by assumption)) ?_ | refine bO.call (iM (by assumption) (by decide)) ?_);rintro _ h;(try dsimp only at h);obtain ⟨_,_⟩:=h;try dsimp only) | with_reducible refine bO.fZ (by decide) ?_ | with_reducible refine bO.c8 (fun _=>cY (by assumption)) (fun _ _=>?_) | with_reducible refine bO.c8 (fun _=>c4 (by assumption)) (fun _ _=>?_) | (with_reducible first | refine bO.oU (fun _ _=>?_) (fun _=>?_) | refine bO.ite (fun _=>?_) (fun _=>?_) | refine bO.b7 ?_) | with_reducible refine bO.bY (by (first | rfl | assumption | omega | (simp [cP,room,c5,e8] at *;omega))) ?_ | (with_reducible first | refine bO.ret ?_ | refine sE.l ?_ | refine sE.r ?_) | (with_reducible show bO _ _;dsimp only)))
     all_goals try (exact ⟨h,aM _⟩)
     all_goals
      refine bO.loop (fun t:Bool × Int=>0≤t.2∧t.2≤10) (fun t=>(10 - t.2).toNat) ⟨by simp,by simp⟩ (by simp;omega) ?_
      rintro ⟨g,t⟩ ⟨e1,e2⟩
      dsimp only at e1 e2 ⊢
      (simp (disch:=omega) only[wr,Int.ofNat_eq_natCast])
      (repeat' (first | (with_reducible first | refine bO.bR ?_ | refine bO.bT ?_ | refine bO.bQ ?_ | refine bO.cT ?_) | with_reducible refine bO.dN (by decide) ?_ | with_reducible refine bO.dA (by decide) ?_ | (with_reducible refine bO.call (ihS _ _ (by assumption) (by omega)) ?_;rintro ⟨_,_⟩ ⟨_,_⟩;try dsimp only at *) | ((with_reducible first | refine bO.cH (by decide) (aBT (by omega) (by assumption)) ?_ | refine bO.call (c4 (by assumption)) ?_ | refine bO.call (cY (by assumption)) ?_ | refine bO.cH (by decide) (c4 (by assumption)) ?_ | refine bO.cH (by decide) (cY (by assumption)) ?_);rintro _ (⟨rfl,_⟩ | rfl)) | ((with_reducible first | refine bO.call (e9 (by assumption)) ?_ | refine bO.call (iM (by assumption) (by decide)) ?_);rintro _ h;(try dsimp only at h);obtain ⟨_,_⟩:=h;try dsimp only) | with_reducible refine bO.fZ (by decide) ?_ | with_reducible refine bO.c8 (fun _=>cY (by assumption)) (fun _ _=>?_) | with_reducible refine bO.c8 (fun _=>c4 (by assumption)) (fun _ _=>?_) | (with_reducible first | refine bO.oU (fun _ _=>?_) (fun _=>?_) | refine bO.ite (fun _=>?_) (fun _=>?_) | refine bO.b7 ?_) | with_reducible refine bO.bY (by (first | rfl | assumption | omega | (simp [cP,room,c5,e8] at *;omega))) ?_ | (with_reducible first | refine bO.ret ?_ | refine sE.l ?_ | refine sE.r ?_) | (with_reducible show bO _ _;dsimp only)))
      all_goals try ((all_goals exact Tq);done)
      all_goals try (exact ⟨h,aM _⟩)
      all_goals try (rename_i x _ _ _ _ _ _;exact ⟨⟨by dsimp only;omega,by have:=of_decide_eq_true x;dsimp only;omega⟩,by have:=of_decide_eq_true x;dsimp only;omega⟩)
    ·rintro q0 ⟨h0,hm0⟩
     (repeat' (first | (with_reducible first | refine bO.bR ?_ | refine bO.bT ?_ | refine bO.bQ ?_ | refine bO.cT ?_) | with_reducible refine bO.dN (by decide) ?_ | with_reducible refine bO.dA (by decide) ?_ | (with_reducible refine bO.call (ihS _ _ (by assumption) (by omega)) ?_;rintro ⟨_,_⟩ ⟨_,_⟩;try dsimp only at *) | ((with_reducible first | refine bO.cH (by decide) (aBT (by omega) (by assumption)) ?_ | refine bO.call (c4 (by assumption)) ?_ | refine bO.call (cY (by assumption)) ?_ | refine bO.cH (by decide) (c4 (by assumption)) ?_ | refine bO.cH (by decide) (cY (by assumption)) ?_);rintro _ (⟨rfl,_⟩ | rfl)) | ((with_reducible first | refine bO.call (e9 (by assumption)) ?_ | refine bO.call (iM (by assumption) (by decide)) ?_);rintro _ h;(try dsimp only at h);obtain ⟨_,_⟩:=h;try dsimp only) | with_reducible refine bO.fZ (by decide) ?_ | with_reducible refine bO.c8 (fun _=>cY (by assumption)) (fun _ _=>?_) | with_reducible refine bO.c8 (fun _=>c4 (by assumption)) (fun _ _=>?_) | (with_reducible first | refine bO.oU (fun _ _=>?_) (fun _=>?_) | refine bO.ite (fun _=>?_) (fun _=>?_) | refine bO.b7 ?_) | with_reducible refine bO.bY (by (first | rfl | assumption | omega | (simp [cP,room,c5,e8] at *;omega))) ?_ | (with_reducible first | refine bO.ret ?_ | refine sE.l ?_ | refine sE.r ?_) | (with_reducible show bO _ _;dsimp only)))
     refine bO.loop (fun t:cF × List cI=>Rd t.1∧t.2.length≤cI.gZ t.2∧cI.gZ t.2+4 * mu t.1≤4 * mu q0) (fun t=>mu t.1) ⟨h0,by simp,by simp [cI.gZ]⟩ (by simp;omega) ?_
     rintro ⟨q,l⟩ ⟨g1,g2,g3⟩
     dsimp only at g1 g2 g3 ⊢
     (repeat' (first | (with_reducible first | refine bO.bR ?_ | refine bO.bT ?_ | refine bO.bQ ?_ | refine bO.cT ?_) | with_reducible refine bO.dN (by decide) ?_ | with_reducible refine bO.dA (by decide) ?_ | (with_reducible refine bO.call (ihS _ _ (by assumption) (by omega)) ?_;rintro ⟨_,_⟩ ⟨_,_⟩;try dsimp only at *) | ((with_reducible first | refine bO.cH (by decide) (aBT (by omega) (by assumption)) ?_ | refine bO.call (c4 (by assumption)) ?_ | refine bO.call (cY (by assumption)) ?_ | refine bO.cH (by decide) (c4 (by assumption)) ?_ | refine bO.cH (by decide) (cY (by assumption)) ?_);rintro _ (⟨rfl,_⟩ | rfl)) | ((with_reducible first | refine bO.call (e9 (by assumption)) ?_ | refine bO.call (iM (by assumption) (by decide)) ?_);rintro _ h;(try dsimp only at h);obtain ⟨_,_⟩:=h;try dsimp only) | with_reducible refine bO.fZ (by decide) ?_ | with_reducible refine bO.c8 (fun _=>cY (by assumption)) (fun _ _=>?_) | with_reducible refine bO.c8 (fun _=>c4 (by assumption)) (fun _ _=>?_) | (with_reducible first | refine bO.oU (fun _ _=>?_) (fun _=>?_) | refine bO.ite (fun _=>?_) (fun _=>?_) | refine bO.b7 ?_) | with_reducible refine bO.bY (by (first | rfl | assumption | omega | (simp [cP,room,c5,e8] at *;omega))) ?_ | (with_reducible first | refine bO.ret ?_ | refine sE.l ?_ | refine sE.r ?_) | (with_reducible show bO _ _;dsimp only)))
     all_goals try ((all_goals exact Tq);done)
   ·have hm:=mA h
    refine cQ.of ?_
    unfold aMF
    (repeat' (first | (with_reducible first | refine bO.bT ?_ | refine bO.bQ ?_) | with_reducible refine bO.dN (by decide) ?_ | with_reducible refine bO.dA (by decide) ?_ | ((with_reducible first | refine bO.call (ihC _ _ (by assumption) (by omega)) ?_ | refine bO.call (ihB _ _ (by assumption) (by omega)) ?_ | refine bO.call (aRX (by omega) (by assumption)) ?_ | refine bO.call (aH9 (by omega) (by assumption)) ?_ | refine bO.call (oT (by omega) (by assumption)) ?_ | refine bO.call (ihI _ _ _ (by assumption) (by omega)) ?_ | refine bO.call (ihE _ _ (by assumption) (by omega)) ?_ | refine bO.call (oS (by assumption)) ?_ | refine bO.call (fJ (by assumption)) ?_);rintro ⟨_,_⟩ ⟨_,_⟩;try dsimp only at *) | (with_reducible refine bO.call (ihL _ _ _ (by assumption) (by first | assumption | (simp;done)) (by omega)) ?_;rintro ⟨_,_⟩ ⟨_,_⟩;try dsimp only at *) | (with_reducible refine bO.cH (by decide) (uZ (by omega) (by assumption)) ?_;rintro _ (⟨rfl,_⟩ | rfl)) | (with_reducible refine bO.call (eF (by assumption)) ?_;rintro ⟨_,_⟩ h;dsimp only at h;rcases h with (⟨rfl,_,_⟩ | ⟨rfl,rfl⟩) <;> try dsimp only) | (with_reducible refine bO.call (eR (by assumption)) ?_;rintro _ h;(try dsimp only at h);obtain ⟨_,_⟩:=h;try dsimp only) | with_reducible refine bO.fZ (by decide) ?_ | with_reducible refine bO.c8 (fun _=>cY (by assumption)) (fun _ _=>?_) | with_reducible refine bO.c8 (fun _=>c4 (by assumption)) (fun _ _=>?_) | (with_reducible first | refine bO.oU (fun _ _=>?_) (fun _=>?_) | refine bO.ite (fun _=>?_) (fun _=>?_) | refine bO.ret ?_ | refine sE.l ?_ | refine sE.r ?_) | (with_reducible show bO _ _;dsimp only)))
    (all_goals exact Tq)
   ·have hm:=mA h
    refine cQ.of ?_
    unfold aMH
    (repeat' (first | (with_reducible first | refine bO.bT ?_ | refine bO.bQ ?_ | refine bO.cT ?_) | with_reducible refine bO.dN (by decide) ?_ | with_reducible refine bO.dA (by decide) ?_ | ((with_reducible first | refine bO.call (ihR _ _ _ (by assumption) (by omega)) ?_ | refine bO.call (oT (by omega) (by assumption)) ?_ | refine bO.call (ihE _ _ (by assumption) (by omega)) ?_);rintro ⟨_,_⟩ ⟨_,_⟩;try dsimp only at *) | (with_reducible refine bO.call (ihL _ _ _ (by assumption) (by first | assumption | (simp;done)) (by omega)) ?_;rintro ⟨_,_⟩ ⟨_,_⟩;try dsimp only at *) | ((with_reducible first | refine bO.call (cY (by assumption)) ?_ | refine bO.cH (by decide) (cY (by assumption)) ?_);rintro _ (⟨rfl,_⟩ | rfl)) | ((with_reducible first | refine bO.call (eR (by assumption)) ?_ | refine bO.call (e9 (by assumption)) ?_);rintro _ h;(try dsimp only at h);obtain ⟨_,_⟩:=h;try dsimp only) | with_reducible refine bO.fZ (by decide) ?_ | with_reducible refine bO.c8 (fun _=>cY (by assumption)) (fun _ _=>?_) | with_reducible refine bO.c8 (fun _=>c4 (by assumption)) (fun _ _=>?_) | (with_reducible first | refine bO.oU (fun _ _=>?_) (fun _=>?_) | refine bO.ite (fun _=>?_) (fun _=>?_) | refine bO.b7 ?_) | with_reducible refine bO.bY (by (first | rfl | assumption | omega | (simp [cP,room,c5,e8] at *;omega))) ?_ | (with_reducible first | refine bO.ret ?_ | refine sE.l ?_ | refine sE.r ?_) | (with_reducible show bO _ _;dsimp only)))
    refine bO.loop (fun t:cF × List cM × List (List cI) × List Bytes=>Rd t.1∧t.2.1.length≤cM.gZ t.2.1∧t.2.2.1.length≤cI.kH t.2.2.1∧t.2.2.2.length≤10∧cM.gZ t.2.1+cI.kH t.2.2.1+4 * mu t.1≤4 * mu r) (fun t=>mu t.1)
     ⟨h,by simp,by simp,by simp,by simp [cM.gZ,cI.kH]⟩ (by simp;omega) ?_
    rintro ⟨q,l,b,n⟩ ⟨g1,g2,g3,g4,g5⟩
    dsimp only at g1 g2 g3 g4 g5 ⊢
    (repeat' (first | (with_reducible first | refine bO.bT ?_ | refine bO.bQ ?_ | refine bO.cT ?_) | with_reducible refine bO.dN (by decide) ?_ | with_reducible refine bO.dA (by decide) ?_ | ((with_reducible first | refine bO.call (ihR _ _ _ (by assumption) (by omega)) ?_ | refine bO.call (oT (by omega) (by assumption)) ?_ | refine bO.call (ihE _ _ (by assumption) (by omega)) ?_);rintro ⟨_,_⟩ ⟨_,_⟩;try dsimp only at *) | (with_reducible refine bO.call (ihL _ _ _ (by assumption) (by first | assumption | (simp;done)) (by omega)) ?_;rintro ⟨_,_⟩ ⟨_,_⟩;try dsimp only at *) | ((with_reducible first | refine bO.call (cY (by assumption)) ?_ | refine bO.cH (by decide) (cY (by assumption)) ?_);rintro _ (⟨rfl,_⟩ | rfl)) | ((with_reducible first | refine bO.call (eR (by assumption)) ?_ | refine bO.call (e9 (by assumption)) ?_);rintro _ h;(try dsimp only at h);obtain ⟨_,_⟩:=h;try dsimp only) | with_reducible refine bO.fZ (by decide) ?_ | with_reducible refine bO.c8 (fun _=>cY (by assumption)) (fun _ _=>?_) | with_reducible refine bO.c8 (fun _=>c4 (by assumption)) (fun _ _=>?_) | (with_reducible first | refine bO.oU (fun _ _=>?_) (fun _=>?_) | refine bO.ite (fun _=>?_) (fun _=>?_) | refine bO.b7 ?_) | with_reducible refine bO.bY (by (first | rfl | assumption | omega | (simp [cP,room,c5,e8] at *;omega))) ?_ | (with_reducible first | refine bO.ret ?_ | refine sE.l ?_ | refine sE.r ?_) | (with_reducible show bO _ _;dsimp only)))
    (all_goals exact Tq)
   ·have hm:=mA h
    refine cQ.of ?_
    unfold aMI
    (repeat' (first | (with_reducible first | refine bO.bT ?_ | refine bO.bQ ?_ | refine bO.cT ?_) | with_reducible refine bO.dN (by decide) ?_ | with_reducible refine bO.dA (by decide) ?_ | ((with_reducible first | refine bO.call (ihR _ _ _ (by assumption) (by omega)) ?_ | refine bO.call (oT (by omega) (by assumption)) ?_ | refine bO.call (ihE _ _ (by assumption) (by omega)) ?_ | refine bO.call (oS (by assumption)) ?_);rintro ⟨_,_⟩ ⟨_,_⟩;try dsimp only at *) | (with_reducible refine bO.call (ihL _ _ _ (by assumption) (by first | assumption | (simp;done)) (by omega)) ?_;rintro ⟨_,_⟩ ⟨_,_⟩;try dsimp only at *) | ((with_reducible first | refine bO.call (c4 (by assumption)) ?_ | refine bO.call (cY (by assumption)) ?_ | refine bO.cH (by decide) (c4 (by assumption)) ?_ | refine bO.cH (by decide) (cY (by assumption)) ?_);rintro _ (⟨rfl,_⟩ | rfl)) | (with_reducible refine bO.call (eF (by assumption)) ?_;rintro ⟨_,_⟩ h;dsimp only at h;rcases h with (⟨rfl,_,_⟩ | ⟨rfl,rfl⟩) <;> try dsimp only) | ((with_reducible first | refine bO.call (eR (by assumption)) ?_ | refine bO.call (e9 (by assumption)) ?_);rintro _ h;(try dsimp only at h);obtain ⟨_,_⟩:=h;try dsimp only) | with_reducible refine bO.fZ (by decide) ?_ | with_reducible refine bO.c8 (fun _=>cY (by assumption)) (fun _ _=>?_) | with_reducible refine bO.c8 (fun _=>c4 (by assumption)) (fun _ _=>?_) | (with_reducible first | refine bO.oU (fun _ _=>?_) (fun _=>?_) | refine bO.ite (fun _=>?_) (fun _=>?_) | refine bO.b7 ?_) | with_reducible refine bO.bY (by (first | rfl | assumption | omega | (simp [cP,room,c5,e8] at *;omega))) ?_ | (with_reducible first | refine bO.ret ?_ | refine sE.l ?_ | refine sE.r ?_) | (with_reducible show bO _ _;dsimp only)))
    rename_i x r1 h1 h2 r2 h3 h4
    refine bO.loop (fun t:cF × List (List Int) × List (List cI)=>Rd t.1∧t.2.1.length≤oQ t.2.1∧t.2.2.length≤cI.kH t.2.2∧oQ t.2.1+cI.kH t.2.2+4 * mu t.1≤4 * mu r2) (fun t=>mu t.1)
     ⟨h3,by simp,by simp,by simp [oQ,cI.kH]⟩ (by simp;omega) ?_
    rintro ⟨q,l,b⟩ ⟨g1,g2,g3,g4⟩
    dsimp only at g1 g2 g3 g4 ⊢
    (repeat' (first | (with_reducible first | refine bO.bT ?_ | refine bO.bQ ?_ | refine bO.cT ?_) | with_reducible refine bO.dN (by decide) ?_ | with_reducible refine bO.dA (by decide) ?_ | ((with_reducible first | refine bO.call (ihR _ _ _ (by assumption) (by omega)) ?_ | refine bO.call (oT (by omega) (by assumption)) ?_ | refine bO.call (ihE _ _ (by assumption) (by omega)) ?_ | refine bO.call (oS (by assumption)) ?_);rintro ⟨_,_⟩ ⟨_,_⟩;try dsimp only at *) | (with_reducible refine bO.call (ihL _ _ _ (by assumption) (by first | assumption | (simp;done)) (by omega)) ?_;rintro ⟨_,_⟩ ⟨_,_⟩;try dsimp only at *) | ((with_reducible first | refine bO.call (c4 (by assumption)) ?_ | refine bO.call (cY (by assumption)) ?_ | refine bO.cH (by decide) (c4 (by assumption)) ?_ | refine bO.cH (by decide) (cY (by assumption)) ?_);rintro _ (⟨rfl,_⟩ | rfl)) | (with_reducible refine bO.call (eF (by assumption)) ?_;rintro ⟨_,_⟩ h;dsimp only at h;rcases h with (⟨rfl,_,_⟩ | ⟨rfl,rfl⟩) <;> try dsimp only) | ((with_reducible first | refine bO.call (eR (by assumption)) ?_ | refine bO.call (e9 (by assumption)) ?_);rintro _ h;(try dsimp only at h);obtain ⟨_,_⟩:=h;try dsimp only) | with_reducible refine bO.fZ (by decide) ?_ | with_reducible refine bO.c8 (fun _=>cY (by assumption)) (fun _ _=>?_) | with_reducible refine bO.c8 (fun _=>c4 (by assumption)) (fun _ _=>?_) | (with_reducible first | refine bO.oU (fun _ _=>?_) (fun _=>?_) | refine bO.ite (fun _=>?_) (fun _=>?_) | refine bO.b7 ?_) | with_reducible refine bO.bY (by (first | rfl | assumption | omega | (simp [cP,room,c5,e8] at *;omega))) ?_ | (with_reducible first | refine bO.ret ?_ | refine sE.l ?_ | refine sE.r ?_) | (with_reducible show bO _ _;dsimp only)))
    all_goals try ((all_goals exact Tq);done)
    all_goals
     rename_i f hf1 hf2
     refine bO.loop (fun t:cF × List Int=>Rd t.1∧t.2.length+mu t.1≤mu f) (fun t=>mu t.1) ⟨hf1,by simp⟩ (by simp;omega) ?_
     rintro ⟨q2,l2⟩ ⟨e1,e2⟩
     dsimp only at e1 e2 ⊢
     (repeat' (first | (with_reducible first | refine bO.bT ?_ | refine bO.bQ ?_ | refine bO.cT ?_) | with_reducible refine bO.dN (by decide) ?_ | with_reducible refine bO.dA (by decide) ?_ | ((with_reducible first | refine bO.call (ihR _ _ _ (by assumption) (by omega)) ?_ | refine bO.call (oT (by omega) (by assumption)) ?_ | refine bO.call (ihE _ _ (by assumption) (by omega)) ?_ | refine bO.call (oS (by assumption)) ?_);rintro ⟨_,_⟩ ⟨_,_⟩;try dsimp only at *) | (with_reducible refine bO.call (ihL _ _ _ (by assumption) (by first | assumption | (simp;done)) (by omega)) ?_;rintro ⟨_,_⟩ ⟨_,_⟩;try dsimp only at *) | ((with_reducible first | refine bO.call (c4 (by assumption)) ?_ | refine bO.call (cY (by assumption)) ?_ | refine bO.cH (by decide) (c4 (by assumption)) ?_ | refine bO.cH (by decide) (cY (by assumption)) ?_);rintro _ (⟨rfl,_⟩ | rfl)) | (with_reducible refine bO.call (eF (by assumption)) ?_;rintro ⟨_,_⟩ h;dsimp only at h;rcases h with (⟨rfl,_,_⟩ | ⟨rfl,rfl⟩) <;> try dsimp only) | ((with_reducible first | refine bO.call (eR (by assumption)) ?_ | refine bO.call (e9 (by assumption)) ?_);rintro _ h;(try dsimp only at h);obtain ⟨_,_⟩:=h;try dsimp only) | with_reducible refine bO.fZ (by decide) ?_ | with_reducible refine bO.c8 (fun _=>cY (by assumption)) (fun _ _=>?_) | with_reducible refine bO.c8 (fun _=>c4 (by assumption)) (fun _ _=>?_) | (with_reducible first | refine bO.oU (fun _ _=>?_) (fun _=>?_) | refine bO.ite (fun _=>?_) (fun _=>?_) | refine bO.b7 ?_) | with_reducible refine bO.bY (by (first | rfl | assumption | omega | (simp [cP,room,c5,e8] at *;omega))) ?_ | (with_reducible first | refine bO.ret ?_ | refine sE.l ?_ | refine sE.r ?_) | (with_reducible show bO _ _;dsimp only)))
     all_goals try ((all_goals exact Tq);done)
   ·have hm:=mA h
    refine cQ.of ?_
    unfold aJt
    (repeat' (first | with_reducible refine bO.dN (by decide) ?_ | with_reducible refine bO.dA (by decide) ?_ | (with_reducible refine bO.call (ihL _ _ _ (by assumption) (by first | assumption | (simp;done)) (by omega)) ?_;rintro ⟨_,_⟩ ⟨_,_⟩;try dsimp only at *) | (with_reducible refine bO.call (eF (by assumption)) ?_;rintro ⟨_,_⟩ h;dsimp only at h;rcases h with (⟨rfl,_,_⟩ | ⟨rfl,rfl⟩) <;> try dsimp only) | with_reducible refine bO.c8 (fun _=>cY (by assumption)) (fun _ _=>?_) | with_reducible refine bO.c8 (fun _=>c4 (by assumption)) (fun _ _=>?_) | (with_reducible first | refine bO.oU (fun _ _=>?_) (fun _=>?_) | refine bO.ite (fun _=>?_) (fun _=>?_) | refine bO.ret ?_ | refine sE.l ?_ | refine sE.r ?_) | (with_reducible show bO _ _;dsimp only)))
    (all_goals exact Tq)
theorem oV {K:Nat} {r:cF} {d:Int} {ends:List Bytes} (hK:400000<K) (h:Rd r) (he:ends.length≤10):cQ (y7 K r d ends) (PL r):=(aRY K).1 r d ends h he (by have:=mA h;omega)
end Go.Proofs.YtdbfbedholdjaaaGreat

namespace Go.Proofs.YtdbfbedholdjaaaGreat
open Go Go.Dl
variable [dO]
set_option maxRecDepth 100000
set_option maxHeartbeats 8000000
theorem w5 {K:Nat} {r:cF} {s:Bytes} (h:Rd r):cQ (fV K r s) (fun v=>Rd v.2∧mu v.2≤mu r) :=
 (eF h).zG fun v hv=>by
  rcases hv with ⟨_,h1,h2⟩ | ⟨_,h1⟩
  ·exact ⟨h1,by omega⟩
  ·rw[h1];exact ⟨h,aM _⟩
theorem aRZ {K:Nat} {r:cF} (hK:400000<K) (h:Rd r):cQ (aQq K r) (fun v=>Rd v.2∧v.1.sz+4 * mu v.2≤4 * mu r+1∧(mu v.2≠0→v.1.cD≠[])):=by
 have hm:=mA h
 refine cQ.of ?_
 unfold aQq
 refine bO.call (w5 h) ?_;rintro ⟨b1,r1⟩ ⟨h1,m1⟩;dsimp only at h1 m1 ⊢
 refine bO.call (w5 h1) ?_;rintro ⟨b2,r2⟩ ⟨h2,m2⟩;dsimp only at h2 m2 ⊢
 refine bO.call (aLw h2) ?_;rintro ⟨nm,r3⟩ ⟨⟨h3,m3⟩,n3⟩;dsimp only at h3 m3 n3 ⊢
 refine bO.call (w5 h3) ?_;rintro ⟨b4,r4⟩ ⟨h4,m4⟩;dsimp only at h4 m4 ⊢
 refine bO.aLx (fun u:cF × Bytes=>Rd u.1∧mu u.1≤mu r4) ?_ ?_
 ·(repeat' (first | (with_reducible first | refine bO.bT ?_ | refine bO.bQ ?_ | refine bO.cT ?_) | with_reducible refine bO.dN (by decide) ?_ | with_reducible refine bO.dA (by decide) ?_ | ((with_reducible first | refine bO.call (oV (by omega) (by assumption) (by simp)) ?_ | refine bO.call (nC (by omega) (by assumption)) ?_ | refine bO.call (nB (by omega) (by assumption)) ?_ | refine bO.call (nA (by omega) (by assumption)) ?_ | refine bO.call (fJ (by assumption)) ?_);rintro ⟨_,_⟩ ⟨_,_⟩;try dsimp only at *) | ((with_reducible first | refine bO.call (c4 (by assumption)) ?_ | refine bO.call (cY (by assumption)) ?_ | refine bO.cH (by decide) (c4 (by assumption)) ?_ | refine bO.cH (by decide) (cY (by assumption)) ?_);rintro _ (⟨rfl,_⟩ | rfl)) | (with_reducible refine bO.call (eF (by assumption)) ?_;rintro ⟨_,_⟩ h;dsimp only at h;rcases h with (⟨rfl,_,_⟩ | ⟨rfl,rfl⟩) <;> try dsimp only) | ((with_reducible first | refine bO.call (eR (by assumption)) ?_ | refine bO.call (e9 (by assumption)) ?_);rintro _ h;(try dsimp only at h);obtain ⟨_,_⟩:=h;try dsimp only) | with_reducible refine bO.fZ (by decide) ?_ | with_reducible refine bO.c8 (fun _=>cY (by assumption)) (fun _ _=>?_) | with_reducible refine bO.c8 (fun _=>c4 (by assumption)) (fun _ _=>?_) | (with_reducible first | refine bO.oU (fun _ _=>?_) (fun _=>?_) | refine bO.ite (fun _=>?_) (fun _=>?_) | refine bO.b7 ?_) | with_reducible refine bO.bY (by (first | rfl | assumption | omega | (simp [cP,room,c5,e8] at *;omega))) ?_ | (with_reducible first | refine bO.ret ?_ | refine sE.l ?_ | refine sE.r ?_) | (with_reducible show bO _ _;dsimp only)))
  (all_goals exact Tq)
 rintro ⟨r5,base⟩ ⟨h5,m5⟩
 dsimp only at h5 m5 ⊢
 refine bO.call (w5 h5) ?_;rintro ⟨b6,r6⟩ ⟨h6,m6⟩;dsimp only at h6 m6 ⊢
 refine bO.aLx (fun u:cF × List Bytes=>Rd u.1∧u.2.length+mu u.1≤mu r6) ?_ ?_
 ·(repeat' (first | (with_reducible first | refine bO.bT ?_ | refine bO.bQ ?_ | refine bO.cT ?_) | with_reducible refine bO.dN (by decide) ?_ | with_reducible refine bO.dA (by decide) ?_ | ((with_reducible first | refine bO.call (oV (by omega) (by assumption) (by simp)) ?_ | refine bO.call (nC (by omega) (by assumption)) ?_ | refine bO.call (nB (by omega) (by assumption)) ?_ | refine bO.call (nA (by omega) (by assumption)) ?_ | refine bO.call (fJ (by assumption)) ?_);rintro ⟨_,_⟩ ⟨_,_⟩;try dsimp only at *) | ((with_reducible first | refine bO.call (c4 (by assumption)) ?_ | refine bO.call (cY (by assumption)) ?_ | refine bO.cH (by decide) (c4 (by assumption)) ?_ | refine bO.cH (by decide) (cY (by assumption)) ?_);rintro _ (⟨rfl,_⟩ | rfl)) | (with_reducible refine bO.call (eF (by assumption)) ?_;rintro ⟨_,_⟩ h;dsimp only at h;rcases h with (⟨rfl,_,_⟩ | ⟨rfl,rfl⟩) <;> try dsimp only) | ((with_reducible first | refine bO.call (eR (by assumption)) ?_ | refine bO.call (e9 (by assumption)) ?_);rintro _ h;(try dsimp only at h);obtain ⟨_,_⟩:=h;try dsimp only) | with_reducible refine bO.fZ (by decide) ?_ | with_reducible refine bO.c8 (fun _=>cY (by assumption)) (fun _ _=>?_) | with_reducible refine bO.c8 (fun _=>c4 (by assumption)) (fun _ _=>?_) | (with_reducible first | refine bO.oU (fun _ _=>?_) (fun _=>?_) | refine bO.ite (fun _=>?_) (fun _=>?_) | refine bO.b7 ?_) | with_reducible refine bO.bY (by (first | rfl | assumption | omega | (simp [cP,room,c5,e8] at *;omega))) ?_ | (with_reducible first | refine bO.ret ?_ | refine sE.l ?_ | refine sE.r ?_) | (with_reducible show bO _ _;dsimp only)))
  ·refine bO.loop (fun t:cF × List Bytes=>Rd t.1∧t.2.length+mu t.1≤mu r6) (fun t=>mu t.1) ⟨h6,by simp⟩ (by simp;omega) ?_
   rintro ⟨q,l⟩ ⟨g1,g2⟩
   dsimp only at g1 g2 ⊢
   (repeat' (first | (with_reducible first | refine bO.bT ?_ | refine bO.bQ ?_ | refine bO.cT ?_) | with_reducible refine bO.dN (by decide) ?_ | with_reducible refine bO.dA (by decide) ?_ | ((with_reducible first | refine bO.call (oV (by omega) (by assumption) (by simp)) ?_ | refine bO.call (nC (by omega) (by assumption)) ?_ | refine bO.call (nB (by omega) (by assumption)) ?_ | refine bO.call (nA (by omega) (by assumption)) ?_ | refine bO.call (fJ (by assumption)) ?_);rintro ⟨_,_⟩ ⟨_,_⟩;try dsimp only at *) | ((with_reducible first | refine bO.call (c4 (by assumption)) ?_ | refine bO.call (cY (by assumption)) ?_ | refine bO.cH (by decide) (c4 (by assumption)) ?_ | refine bO.cH (by decide) (cY (by assumption)) ?_);rintro _ (⟨rfl,_⟩ | rfl)) | (with_reducible refine bO.call (eF (by assumption)) ?_;rintro ⟨_,_⟩ h;dsimp only at h;rcases h with (⟨rfl,_,_⟩ | ⟨rfl,rfl⟩) <;> try dsimp only) | ((with_reducible first | refine bO.call (eR (by assumption)) ?_ | refine bO.call (e9 (by assumption)) ?_);rintro _ h;(try dsimp only at h);obtain ⟨_,_⟩:=h;try dsimp only) | with_reducible refine bO.fZ (by decide) ?_ | with_reducible refine bO.c8 (fun _=>cY (by assumption)) (fun _ _=>?_) | with_reducible refine bO.c8 (fun _=>c4 (by assumption)) (fun _ _=>?_) | (with_reducible first | refine bO.oU (fun _ _=>?_) (fun _=>?_) | refine bO.ite (fun _=>?_) (fun _=>?_) | refine bO.b7 ?_) | with_reducible refine bO.bY (by (first | rfl | assumption | omega | (simp [cP,room,c5,e8] at *;omega))) ?_ | (with_reducible first | refine bO.ret ?_ | refine sE.l ?_ | refine sE.r ?_) | (with_reducible show bO _ _;dsimp only)))
   (all_goals exact Tq)
  ·exact ⟨h6,by simp⟩
 rintro ⟨r7,fs⟩ ⟨h7,m7⟩
 dsimp only at h7 m7 ⊢
 refine bO.call (eR h7) ?_;rintro r8 ⟨h8,m8⟩
 refine bO.call (nC (by omega) h8) ?_;rintro ⟨vs,r9⟩ ⟨h9,m9⟩;dsimp only at h9 m9 ⊢
 (repeat' (first | (with_reducible first | refine bO.bT ?_ | refine bO.bQ ?_ | refine bO.cT ?_) | with_reducible refine bO.dN (by decide) ?_ | with_reducible refine bO.dA (by decide) ?_ | ((with_reducible first | refine bO.call (oV (by omega) (by assumption) (by simp)) ?_ | refine bO.call (nC (by omega) (by assumption)) ?_ | refine bO.call (nB (by omega) (by assumption)) ?_ | refine bO.call (nA (by omega) (by assumption)) ?_ | refine bO.call (fJ (by assumption)) ?_);rintro ⟨_,_⟩ ⟨_,_⟩;try dsimp only at *) | ((with_reducible first | refine bO.call (c4 (by assumption)) ?_ | refine bO.call (cY (by assumption)) ?_ | refine bO.cH (by decide) (c4 (by assumption)) ?_ | refine bO.cH (by decide) (cY (by assumption)) ?_);rintro _ (⟨rfl,_⟩ | rfl)) | (with_reducible refine bO.call (eF (by assumption)) ?_;rintro ⟨_,_⟩ h;dsimp only at h;rcases h with (⟨rfl,_,_⟩ | ⟨rfl,rfl⟩) <;> try dsimp only) | ((with_reducible first | refine bO.call (eR (by assumption)) ?_ | refine bO.call (e9 (by assumption)) ?_);rintro _ h;(try dsimp only at h);obtain ⟨_,_⟩:=h;try dsimp only) | with_reducible refine bO.fZ (by decide) ?_ | with_reducible refine bO.c8 (fun _=>cY (by assumption)) (fun _ _=>?_) | with_reducible refine bO.c8 (fun _=>c4 (by assumption)) (fun _ _=>?_) | (with_reducible first | refine bO.oU (fun _ _=>?_) (fun _=>?_) | refine bO.ite (fun _=>?_) (fun _=>?_) | refine bO.b7 ?_) | with_reducible refine bO.bY (by (first | rfl | assumption | omega | (simp [cP,room,c5,e8] at *;omega))) ?_ | (with_reducible first | refine bO.ret ?_ | refine sE.l ?_ | refine sE.r ?_) | (with_reducible show bO _ _;dsimp only)))
 refine bO.loop (fun t:cF × List hU=>Rd t.1∧t.2.length≤xB t.2∧xB t.2+4 * mu t.1≤4 * mu r9) (fun t=>mu t.1) ⟨h9,by simp [xB],by simp [xB]⟩ (by simp;omega) ?_
 rintro ⟨q,l⟩ ⟨g1,g2,g3⟩
 dsimp only at g1 g2 g3 ⊢
 refine bO.cH (by decide) (cY g1) ?_
 rintro v (⟨e1,e2⟩ | e1) <;> subst e1
 ·refine bO.dN (by decide) ?_
  refine bO.bT (bO.bQ ?_)
  refine bO.call (e9 g1) ?_;rintro q1 ⟨k1,n1⟩
  refine bO.call (eR k1) ?_;rintro q2 ⟨k2,n2⟩
  refine bO.call (w5 k2) ?_;rintro ⟨c1,q3⟩ ⟨k3,n3⟩;dsimp only at k3 n3 ⊢
  refine bO.call (w5 k3) ?_;rintro ⟨c2,q4⟩ ⟨k4,n4⟩;dsimp only at k4 n4 ⊢
  refine bO.call (w5 k4) ?_;rintro ⟨c3,q5⟩ ⟨k5,n5⟩;dsimp only at k5 n5 ⊢
  (repeat' (first | (with_reducible first | refine bO.bT ?_ | refine bO.bQ ?_ | refine bO.cT ?_) | with_reducible refine bO.dN (by decide) ?_ | with_reducible refine bO.dA (by decide) ?_ | ((with_reducible first | refine bO.call (oV (by omega) (by assumption) (by simp)) ?_ | refine bO.call (nC (by omega) (by assumption)) ?_ | refine bO.call (nB (by omega) (by assumption)) ?_ | refine bO.call (nA (by omega) (by assumption)) ?_ | refine bO.call (fJ (by assumption)) ?_);rintro ⟨_,_⟩ ⟨_,_⟩;try dsimp only at *) | ((with_reducible first | refine bO.call (c4 (by assumption)) ?_ | refine bO.call (cY (by assumption)) ?_ | refine bO.cH (by decide) (c4 (by assumption)) ?_ | refine bO.cH (by decide) (cY (by assumption)) ?_);rintro _ (⟨rfl,_⟩ | rfl)) | (with_reducible refine bO.call (eF (by assumption)) ?_;rintro ⟨_,_⟩ h;dsimp only at h;rcases h with (⟨rfl,_,_⟩ | ⟨rfl,rfl⟩) <;> try dsimp only) | ((with_reducible first | refine bO.call (eR (by assumption)) ?_ | refine bO.call (e9 (by assumption)) ?_);rintro _ h;(try dsimp only at h);obtain ⟨_,_⟩:=h;try dsimp only) | with_reducible refine bO.fZ (by decide) ?_ | with_reducible refine bO.c8 (fun _=>cY (by assumption)) (fun _ _=>?_) | with_reducible refine bO.c8 (fun _=>c4 (by assumption)) (fun _ _=>?_) | (with_reducible first | refine bO.oU (fun _ _=>?_) (fun _=>?_) | refine bO.ite (fun _=>?_) (fun _=>?_) | refine bO.b7 ?_) | with_reducible refine bO.bY (by (first | rfl | assumption | omega | (simp [cP,room,c5,e8] at *;omega))) ?_ | (with_reducible first | refine bO.ret ?_ | refine sE.l ?_ | refine sE.r ?_) | (with_reducible show bO _ _;dsimp only)))
  (all_goals exact Tq)
 ·(repeat' (first | (with_reducible first | refine bO.bT ?_ | refine bO.bQ ?_ | refine bO.cT ?_) | with_reducible refine bO.dN (by decide) ?_ | with_reducible refine bO.dA (by decide) ?_ | ((with_reducible first | refine bO.call (oV (by omega) (by assumption) (by simp)) ?_ | refine bO.call (nC (by omega) (by assumption)) ?_ | refine bO.call (nB (by omega) (by assumption)) ?_ | refine bO.call (nA (by omega) (by assumption)) ?_ | refine bO.call (fJ (by assumption)) ?_);rintro ⟨_,_⟩ ⟨_,_⟩;try dsimp only at *) | ((with_reducible first | refine bO.call (c4 (by assumption)) ?_ | refine bO.call (cY (by assumption)) ?_ | refine bO.cH (by decide) (c4 (by assumption)) ?_ | refine bO.cH (by decide) (cY (by assumption)) ?_);rintro _ (⟨rfl,_⟩ | rfl)) | (with_reducible refine bO.call (eF (by assumption)) ?_;rintro ⟨_,_⟩ h;dsimp only at h;rcases h with (⟨rfl,_,_⟩ | ⟨rfl,rfl⟩) <;> try dsimp only) | ((with_reducible first | refine bO.call (eR (by assumption)) ?_ | refine bO.call (e9 (by assumption)) ?_);rintro _ h;(try dsimp only at h);obtain ⟨_,_⟩:=h;try dsimp only) | with_reducible refine bO.fZ (by decide) ?_ | with_reducible refine bO.c8 (fun _=>cY (by assumption)) (fun _ _=>?_) | with_reducible refine bO.c8 (fun _=>c4 (by assumption)) (fun _ _=>?_) | (with_reducible first | refine bO.oU (fun _ _=>?_) (fun _=>?_) | refine bO.ite (fun _=>?_) (fun _=>?_) | refine bO.b7 ?_) | with_reducible refine bO.bY (by (first | rfl | assumption | omega | (simp [cP,room,c5,e8] at *;omega))) ?_ | (with_reducible first | refine bO.ret ?_ | refine sE.l ?_ | refine sE.r ?_) | (with_reducible show bO _ _;dsimp only)))
  refine ⟨by assumption,by unfold iR.sz;dsimp only;simp only[cI.gZ];omega,fun e=>n3 (by dsimp only at e;omega)⟩
theorem iR.aDH (d:iR):1≤d.sz:=by unfold iR.sz;omega
theorem aUM {K:Nat} {r:cF} (hK:400000<K) (h:Rd r):cQ (F76 K r) (fun v=>Rd v.2∧v.1.sz+4 * mu v.2≤4 * (mu r - 1)+1∧(v.1.bU=2→mu v.2≠0→v.1.cD≠[])):=by
 have hm:=mA h
 refine cQ.of ?_
 unfold F76
 (repeat' (first | (with_reducible first | refine bO.bT ?_ | refine bO.bQ ?_) | with_reducible refine bO.dN (by decide) ?_ | with_reducible refine bO.dA (by decide) ?_ | ((with_reducible first | refine bO.call (aRZ (by omega) (by assumption)) ?_ | refine bO.call (oV (by omega) (by assumption) (by simp)) ?_ | refine bO.call (aRW (by omega) (by assumption)) ?_ | refine bO.call (nC (by omega) (by assumption)) ?_ | refine bO.call (qZ (by assumption)) ?_ | refine bO.call (fJ (by assumption)) ?_);rintro ⟨_,_⟩ ⟨_,_⟩;try dsimp only at *) | (with_reducible refine bO.call (eF (by assumption)) ?_;rintro ⟨_,_⟩ h;dsimp only at h;rcases h with (⟨rfl,_,_⟩ | ⟨rfl,rfl⟩) <;> try dsimp only) | ((with_reducible first | refine bO.call (eR (by assumption)) ?_ | refine bO.call (iM (by assumption) (by decide)) ?_);rintro _ h;(try dsimp only at h);obtain ⟨_,_⟩:=h;try dsimp only) | with_reducible refine bO.c8 (fun _=>cY (by assumption)) (fun _ _=>?_) | with_reducible refine bO.c8 (fun _=>c4 (by assumption)) (fun _ _=>?_) | (with_reducible first | refine bO.oU (fun _ _=>?_) (fun _=>?_) | refine bO.ite (fun _=>?_) (fun _=>?_) | refine bO.ret ?_ | refine sE.l ?_ | refine sE.r ?_) | (with_reducible show bO _ _;dsimp only)))
 ·rename_i r1 h2 h3 x r2 h4 h5
  exact ⟨h4,by dsimp only;omega,fun e=>by have:=h5.2;dsimp only at e;omega⟩
 ·rename_i r1 h2 h3 x r2 h4 h5
  exact ⟨h4,by dsimp only;have:=h5.1;omega,fun _ e=>h5.2 e⟩
 all_goals refine ⟨by assumption,?_,fun e=>by simp at e⟩
 all_goals (((try simp only[aG,List.length_cons,List.length_nil,cM.sz,cM.gZ,mR,cI.sz,cI.gZ,cI.kH,uD,pO,oQ,qY,hU.sz,xB,uY,iR.sz,dsz,rW]);(try dsimp only);omega))
theorem aUN {K:Nat} {a0:Bytes} (hK:400000<K):cQ (F72 K a0) (fun v=>Rd v.1):=by
 refine cQ.of ?_
 unfold F72
 refine bO.call (aRR (by omega)) (fun v hv=>?_)
 (repeat' (first | (with_reducible first | refine bO.ret ?_ | refine sE.l ?_ | refine sE.r ?_)))
 exact ⟨by simp,by simp,hv.1,hv.2⟩
theorem aUE {K:Nat} {a0:Bytes} (hK:400000<K):cQ (F33 K a0) (fun v=>v.2.2.1=0→dsz v.1.bP≤6000∧v.2.1.length=v.1.bP.length∧∀ d∈v.1.bP,d.bU=2→d.cD≠[]):=by
 refine cQ.of ?_
 unfold F33
 refine bO.call (aUN (by omega)) ?_
 rintro ⟨r,c,p⟩ h
 dsimp only at h ⊢
 have hm:=mA h
 refine bO.ite (fun e=>?_) (fun e=>?_)
 ·(repeat' (first | (with_reducible first | refine bO.bR ?_ | refine bO.bT ?_ | refine bO.bQ ?_ | refine bO.cT ?_) | with_reducible refine bO.dN (by decide) ?_ | with_reducible refine bO.dA (by decide) ?_ | ((with_reducible first | refine bO.call (cY (by assumption)) ?_ | refine bO.cH (by decide) (cY (by assumption)) ?_);rintro _ (⟨rfl,_⟩ | rfl)) | (with_reducible refine bO.call (e9 (by assumption)) ?_;rintro _ h;(try dsimp only at h);obtain ⟨_,_⟩:=h;try dsimp only) | with_reducible refine bO.fZ (by decide) ?_ | with_reducible refine bO.c8 (fun _=>cY (by assumption)) (fun _ _=>?_) | with_reducible refine bO.c8 (fun _=>c4 (by assumption)) (fun _ _=>?_) | (with_reducible first | refine bO.oU (fun _ _=>?_) (fun _=>?_) | refine bO.ite (fun _=>?_) (fun _=>?_) | refine bO.b7 ?_) | with_reducible refine bO.bY (by (first | rfl | assumption | omega | (simp [cP,room,c5,e8] at *;omega))) ?_ | (with_reducible first | refine bO.ret ?_ | refine sE.l ?_ | refine sE.r ?_) | (with_reducible show bO _ _;dsimp only)))
  intro h0
  have h0:c=0:=h0
  simp [h0] at e
 ·(repeat' (first | (with_reducible first | refine bO.bR ?_ | refine bO.bT ?_ | refine bO.bQ ?_ | refine bO.cT ?_) | with_reducible refine bO.dN (by decide) ?_ | with_reducible refine bO.dA (by decide) ?_ | ((with_reducible first | refine bO.call (cY (by assumption)) ?_ | refine bO.cH (by decide) (cY (by assumption)) ?_);rintro _ (⟨rfl,_⟩ | rfl)) | (with_reducible refine bO.call (e9 (by assumption)) ?_;rintro _ h;(try dsimp only at h);obtain ⟨_,_⟩:=h;try dsimp only) | with_reducible refine bO.fZ (by decide) ?_ | with_reducible refine bO.c8 (fun _=>cY (by assumption)) (fun _ _=>?_) | with_reducible refine bO.c8 (fun _=>c4 (by assumption)) (fun _ _=>?_) | (with_reducible first | refine bO.oU (fun _ _=>?_) (fun _=>?_) | refine bO.ite (fun _=>?_) (fun _=>?_) | refine bO.b7 ?_) | with_reducible refine bO.bY (by (first | rfl | assumption | omega | (simp [cP,room,c5,e8] at *;omega))) ?_ | (with_reducible first | refine bO.ret ?_ | refine sE.l ?_ | refine sE.r ?_) | (with_reducible show bO _ _;dsimp only)))
  refine bO.loop (fun t:cF × List iR × List Int=>Rd t.1∧t.2.1.length≤dsz t.2.1∧t.2.2.length=t.2.1.length∧dsz t.2.1+4 * mu t.1≤4 * mu r∧∀ d∈t.2.1,d.bU=2→mu t.1≠0→d.cD≠[]) (fun t=>mu t.1) ⟨h,by simp [dsz],by simp,by simp [dsz],by simp⟩ (by simp;omega) ?_
  rintro ⟨q,l,pls⟩ ⟨g1,g2,g3,g4,g9⟩
  dsimp only at g1 g2 g3 g4 g9 ⊢
  refine bO.bR (bO.ite (fun e=>?_) (fun e=>?_))
  ·simp only[aC,beq_iff_eq] at e
   have hp:=wZ e.2
   refine bO.bT (bO.bQ ?_)
   refine bO.cH (by decide) (cY g1) (fun v1 _=>?_)
   refine bO.c8 (fun _=>cY g1) (fun v2 _=>?_)
   refine bO.c8 (fun _=>cY g1) (fun v3 _=>?_)
   refine bO.c8 (fun _=>cY g1) (fun v4 _=>?_)
   refine bO.aLx (fun u:cF=>Rd u∧mu u≤mu q) ?_ ?_
   ·(repeat' (first | (with_reducible first | refine bO.bR ?_ | refine bO.bT ?_ | refine bO.bQ ?_ | refine bO.cT ?_) | with_reducible refine bO.dN (by decide) ?_ | with_reducible refine bO.dA (by decide) ?_ | ((with_reducible first | refine bO.call (cY (by assumption)) ?_ | refine bO.cH (by decide) (cY (by assumption)) ?_);rintro _ (⟨rfl,_⟩ | rfl)) | (with_reducible refine bO.call (e9 (by assumption)) ?_;rintro _ h;(try dsimp only at h);obtain ⟨_,_⟩:=h;try dsimp only) | with_reducible refine bO.fZ (by decide) ?_ | with_reducible refine bO.c8 (fun _=>cY (by assumption)) (fun _ _=>?_) | with_reducible refine bO.c8 (fun _=>c4 (by assumption)) (fun _ _=>?_) | (with_reducible first | refine bO.oU (fun _ _=>?_) (fun _=>?_) | refine bO.ite (fun _=>?_) (fun _=>?_) | refine bO.b7 ?_) | with_reducible refine bO.bY (by (first | rfl | assumption | omega | (simp [cP,room,c5,e8] at *;omega))) ?_ | (with_reducible first | refine bO.ret ?_ | refine sE.l ?_ | refine sE.r ?_) | (with_reducible show bO _ _;dsimp only)))
    ·exact ⟨by assumption,by assumption⟩
    ·exact ⟨g1,aM _⟩
   rintro q2 ⟨k2,n2⟩
   refine bO.call (aLv k2) ?_
   rintro ⟨pl,q3⟩ hq
   dsimp only at hq ⊢
   subst hq
   refine bO.bY (by (first | rfl | assumption | omega | (simp [cP,room,c5,e8] at *;omega))) (bO.b7 ?_)
   refine bO.call (aUM (by omega) k2) ?_
   rintro ⟨d,q4⟩ ⟨k4,n4,m4⟩
   have hd:=d.aDH
   dsimp only at k4 n4 m4 ⊢
   refine bO.bY (by (first | rfl | assumption | omega | (simp [cP,room,c5,e8] at *;omega))) (bO.b7 ?_)
   (repeat' (first | (with_reducible first | refine bO.bR ?_ | refine bO.bT ?_ | refine bO.bQ ?_ | refine bO.cT ?_) | with_reducible refine bO.dN (by decide) ?_ | with_reducible refine bO.dA (by decide) ?_ | ((with_reducible first | refine bO.call (cY (by assumption)) ?_ | refine bO.cH (by decide) (cY (by assumption)) ?_);rintro _ (⟨rfl,_⟩ | rfl)) | (with_reducible refine bO.call (e9 (by assumption)) ?_;rintro _ h;(try dsimp only at h);obtain ⟨_,_⟩:=h;try dsimp only) | with_reducible refine bO.fZ (by decide) ?_ | with_reducible refine bO.c8 (fun _=>cY (by assumption)) (fun _ _=>?_) | with_reducible refine bO.c8 (fun _=>c4 (by assumption)) (fun _ _=>?_) | (with_reducible first | refine bO.oU (fun _ _=>?_) (fun _=>?_) | refine bO.ite (fun _=>?_) (fun _=>?_) | refine bO.b7 ?_) | with_reducible refine bO.bY (by (first | rfl | assumption | omega | (simp [cP,room,c5,e8] at *;omega))) ?_ | (with_reducible first | refine bO.ret ?_ | refine sE.l ?_ | refine sE.r ?_) | (with_reducible show bO _ _;dsimp only)))
   have hm4:mu q4≤mu q:=by omega
   refine ⟨⟨k4,?_,?_,?_,fun x hx e e2=>?_⟩,?_⟩
   case refine_4 =>
    dsimp only at e2
    rcases aZ.1 hx with hx | hx
    ·exact g9 x hx e (by omega)
    ·rw[aJ.1 hx] at e ⊢;exact m4 e e2
   all_goals (try simp only[aG,List.length_cons,List.length_nil,rW,dsz]) <;> (try dsimp only) <;> omega
  ·(repeat' (first | (with_reducible first | refine bO.bR ?_ | refine bO.bT ?_ | refine bO.bQ ?_ | refine bO.cT ?_) | with_reducible refine bO.dN (by decide) ?_ | with_reducible refine bO.dA (by decide) ?_ | ((with_reducible first | refine bO.call (cY (by assumption)) ?_ | refine bO.cH (by decide) (cY (by assumption)) ?_);rintro _ (⟨rfl,_⟩ | rfl)) | (with_reducible refine bO.call (e9 (by assumption)) ?_;rintro _ h;(try dsimp only at h);obtain ⟨_,_⟩:=h;try dsimp only) | with_reducible refine bO.fZ (by decide) ?_ | with_reducible refine bO.c8 (fun _=>cY (by assumption)) (fun _ _=>?_) | with_reducible refine bO.c8 (fun _=>c4 (by assumption)) (fun _ _=>?_) | (with_reducible first | refine bO.oU (fun _ _=>?_) (fun _=>?_) | refine bO.ite (fun _=>?_) (fun _=>?_) | refine bO.b7 ?_) | with_reducible refine bO.bY (by (first | rfl | assumption | omega | (simp [cP,room,c5,e8] at *;omega))) ?_ | (with_reducible first | refine bO.ret ?_ | refine sE.l ?_ | refine sE.r ?_) | (with_reducible show bO _ _;dsimp only)))
   ·rename_i e2
    intro h0
    have h0:=h0
    dsimp only at h0
    simp [h0] at e2
   ·rename_i e2
    intro _
    dsimp only
    have hq:=wZ (r:=q) (by simpa using e2)
    exact ⟨by omega,g3,fun d hd e=>g9 d hd e (by omega)⟩
end Go.Proofs.YtdbfbedholdjaaaGreat
