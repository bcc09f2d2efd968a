/- No conditions. -/
import Derived.Test.YtdbfbedholdjaaaGreatUA
import Derived.Test.YtdbfbedholdjaaaGreatLs
set_option linter.unusedVariables false
set_option linter.unusedSimpArgs false
set_option linter.unusedSectionVars false
namespace Go.Proofs.YtdbfbedholdjaaaGreat
open Go Go.Dl
variable [eC]
set_option maxRecDepth 100000
set_option maxHeartbeats 8000000
theorem aVf {r:cB} (h:r.iN≠0):mu r=0:=by unfold mu;rw[aG h]
theorem bJ.rD {α:Type} {r:cB} {a b:Option α} {Q:α→Prop} (h1:r.iN=0→0<mu r→bJ a Q) (h2:mu r=0→bJ b Q):bJ (if ((r.iN:Int) == 0)=true then a else b) Q :=
 bJ.ite (fun e=>h1 (by simpa using e) (zB (by simpa using e))) (fun e=>h2 (aVf (by simpa using e)))
theorem bJ.aLl {A T U:Type} {m:Option (A ⊕ T)} {f:T→Option (A ⊕ U)} {p:A→Prop} {q:U→Prop} (I:T→Prop) (h:bJ m (sE p I)) (hf:∀ t,I t→bJ (f t) (sE p q)):bJ (Go.Dl.bM m f) (sE p q):=by
 refine bJ.bM (h.aAH ?_)
 rintro (a | t) h
 ·exact h
 ·exact hf t h
abbrev PL (r:cB) (v:List cJ × cB):Prop:=Rd v.2∧cJ.jF v.1+4 * mu v.2≤4 * mu r
abbrev PS (r:cB) (v:cJ × cB):Prop:=Rd v.2∧1≤v.1.sz∧v.1.sz+4 * mu v.2≤4 * (mu r - 1)+4
abbrev PB (r:cB) (v:cJ × cB):Prop:=Rd v.2∧1≤v.1.sz∧v.1.sz+4 * mu v.2≤4 * mu r+4
theorem aPY:∀ k:Nat,(∀ (r:cB) (d:Int) (ends:List Bytes),Rd r→ends.length≤10→5 * mu r+300001<k→dG (xR k r d ends) (PL r))∧(∀ (r:cB) (d:Int),Rd r→5 * mu r+300000<k→dG (aMj k r d) (PS r)) ∧
 (∀ (r:cB) (d:Int),Rd r→5 * mu r+300002<k→dG (aMk k r d) (PB r))∧(∀ (r:cB) (d:Int),Rd r→5 * mu r+300002<k→dG (aMl k r d) (PB r)) ∧
 (∀ (r:cB) (d:Int) (s:Bytes),Rd r→5 * mu r+300000<k→dG (aJi k r d s) (PL r))
 | 0=>⟨fun _ _ _ _ _ h=>by omega,fun _ _ _ h=>by omega,fun _ _ _ h=>by omega,fun _ _ _ h=>by omega,fun _ _ _ _ h=>by omega⟩
 | k+1=>by
   obtain ⟨ihL,ihS,ihB,ihC,ihR⟩:=aPY k
   refine ⟨fun r d ends h he hk=>?_,fun r d h hk=>?_,fun r d h hk=>?_,fun r d h hk=>?_,fun r d s h hk=>?_⟩
   ·have hm:=nP h
    refine dG.of ?_
    unfold xR
    refine bJ.aLl (fun q=>Rd q∧mu q≤mu r) ?_ ?_
    ·(repeat' (first | (with_reducible first | refine bJ.bO ?_ | refine bJ.bM ?_ | refine bJ.bL ?_ | refine bJ.dN ?_) | with_reducible refine bJ.eX (by decide) ?_ | with_reducible refine bJ.fC (by decide) ?_ | (with_reducible refine bJ.call (ihS _ _ (by assumption) (by omega)) ?_;rintro ⟨_,_⟩ ⟨_,_⟩;try dsimp only at *) | ((with_reducible first | refine bJ.dB (by decide) (aCJ (by omega) (by assumption)) ?_ | refine bJ.call (cZ (by assumption)) ?_ | refine bJ.call (cX (by assumption)) ?_ | refine bJ.dB (by decide) (cZ (by assumption)) ?_ | refine bJ.dB (by decide) (cX (by assumption)) ?_);rintro _ (⟨rfl,_⟩ | rfl)) | ((with_reducible first | refine bJ.call (e9 (by assumption)) ?_ | refine bJ.call (jW (by assumption) (by decide)) ?_);rintro _ h;(try dsimp only at h);obtain ⟨_,_⟩:=h;try dsimp only) | with_reducible refine bJ.gP (by decide) ?_ | with_reducible refine bJ.cF (fun _=>cX (by assumption)) (fun _ _=>?_) | with_reducible refine bJ.cF (fun _=>cZ (by assumption)) (fun _ _=>?_) | (with_reducible first | refine bJ.rD (fun _ _=>?_) (fun _=>?_) | refine bJ.ite (fun _=>?_) (fun _=>?_) | refine bJ.cC ?_) | with_reducible refine bJ.bW (by (first | rfl | assumption | omega | (simp [cS,room,c9,eY] at *;omega))) ?_ | (with_reducible first | refine bJ.ret ?_ | refine sE.l ?_ | refine sE.r ?_) | (with_reducible show bJ _ _;dsimp only)))
     all_goals try (exact ⟨h,aO _⟩)
     all_goals
      refine bJ.loop (fun t:Bool × Int=>0≤t.2∧t.2≤10) (fun t=>(10 - t.2).toNat) ⟨by simp,by simp⟩ (by simp;omega) ?_
      rintro ⟨g,t⟩ ⟨e1,e2⟩
      dsimp only at e1 e2 ⊢
      (simp (disch:=omega) only[wr,Int.ofNat_eq_natCast])
      (repeat' (first | (with_reducible first | refine bJ.bO ?_ | refine bJ.bM ?_ | refine bJ.bL ?_ | refine bJ.dN ?_) | with_reducible refine bJ.eX (by decide) ?_ | with_reducible refine bJ.fC (by decide) ?_ | (with_reducible refine bJ.call (ihS _ _ (by assumption) (by omega)) ?_;rintro ⟨_,_⟩ ⟨_,_⟩;try dsimp only at *) | ((with_reducible first | refine bJ.dB (by decide) (aCJ (by omega) (by assumption)) ?_ | refine bJ.call (cZ (by assumption)) ?_ | refine bJ.call (cX (by assumption)) ?_ | refine bJ.dB (by decide) (cZ (by assumption)) ?_ | refine bJ.dB (by decide) (cX (by assumption)) ?_);rintro _ (⟨rfl,_⟩ | rfl)) | ((with_reducible first | refine bJ.call (e9 (by assumption)) ?_ | refine bJ.call (jW (by assumption) (by decide)) ?_);rintro _ h;(try dsimp only at h);obtain ⟨_,_⟩:=h;try dsimp only) | with_reducible refine bJ.gP (by decide) ?_ | with_reducible refine bJ.cF (fun _=>cX (by assumption)) (fun _ _=>?_) | with_reducible refine bJ.cF (fun _=>cZ (by assumption)) (fun _ _=>?_) | (with_reducible first | refine bJ.rD (fun _ _=>?_) (fun _=>?_) | refine bJ.ite (fun _=>?_) (fun _=>?_) | refine bJ.cC ?_) | with_reducible refine bJ.bW (by (first | rfl | assumption | omega | (simp [cS,room,c9,eY] at *;omega))) ?_ | (with_reducible first | refine bJ.ret ?_ | refine sE.l ?_ | refine sE.r ?_) | (with_reducible show bJ _ _;dsimp only)))
      all_goals try ((all_goals exact Tq);done)
      all_goals try (exact ⟨h,aO _⟩)
      all_goals try (rename_i x _ _ _ _ _ _;exact ⟨⟨by dsimp only;omega,by have:=of_decide_eq_true x;dsimp only;omega⟩,by have:=of_decide_eq_true x;dsimp only;omega⟩)
    ·rintro q0 ⟨h0,hm0⟩
     (repeat' (first | (with_reducible first | refine bJ.bO ?_ | refine bJ.bM ?_ | refine bJ.bL ?_ | refine bJ.dN ?_) | with_reducible refine bJ.eX (by decide) ?_ | with_reducible refine bJ.fC (by decide) ?_ | (with_reducible refine bJ.call (ihS _ _ (by assumption) (by omega)) ?_;rintro ⟨_,_⟩ ⟨_,_⟩;try dsimp only at *) | ((with_reducible first | refine bJ.dB (by decide) (aCJ (by omega) (by assumption)) ?_ | refine bJ.call (cZ (by assumption)) ?_ | refine bJ.call (cX (by assumption)) ?_ | refine bJ.dB (by decide) (cZ (by assumption)) ?_ | refine bJ.dB (by decide) (cX (by assumption)) ?_);rintro _ (⟨rfl,_⟩ | rfl)) | ((with_reducible first | refine bJ.call (e9 (by assumption)) ?_ | refine bJ.call (jW (by assumption) (by decide)) ?_);rintro _ h;(try dsimp only at h);obtain ⟨_,_⟩:=h;try dsimp only) | with_reducible refine bJ.gP (by decide) ?_ | with_reducible refine bJ.cF (fun _=>cX (by assumption)) (fun _ _=>?_) | with_reducible refine bJ.cF (fun _=>cZ (by assumption)) (fun _ _=>?_) | (with_reducible first | refine bJ.rD (fun _ _=>?_) (fun _=>?_) | refine bJ.ite (fun _=>?_) (fun _=>?_) | refine bJ.cC ?_) | with_reducible refine bJ.bW (by (first | rfl | assumption | omega | (simp [cS,room,c9,eY] at *;omega))) ?_ | (with_reducible first | refine bJ.ret ?_ | refine sE.l ?_ | refine sE.r ?_) | (with_reducible show bJ _ _;dsimp only)))
     refine bJ.loop (fun t:cB × List cJ=>Rd t.1∧t.2.length≤cJ.jF t.2∧cJ.jF t.2+4 * mu t.1≤4 * mu q0) (fun t=>mu t.1) ⟨h0,by simp,by simp [cJ.jF]⟩ (by simp;omega) ?_
     rintro ⟨q,l⟩ ⟨g1,g2,g3⟩
     dsimp only at g1 g2 g3 ⊢
     (repeat' (first | (with_reducible first | refine bJ.bO ?_ | refine bJ.bM ?_ | refine bJ.bL ?_ | refine bJ.dN ?_) | with_reducible refine bJ.eX (by decide) ?_ | with_reducible refine bJ.fC (by decide) ?_ | (with_reducible refine bJ.call (ihS _ _ (by assumption) (by omega)) ?_;rintro ⟨_,_⟩ ⟨_,_⟩;try dsimp only at *) | ((with_reducible first | refine bJ.dB (by decide) (aCJ (by omega) (by assumption)) ?_ | refine bJ.call (cZ (by assumption)) ?_ | refine bJ.call (cX (by assumption)) ?_ | refine bJ.dB (by decide) (cZ (by assumption)) ?_ | refine bJ.dB (by decide) (cX (by assumption)) ?_);rintro _ (⟨rfl,_⟩ | rfl)) | ((with_reducible first | refine bJ.call (e9 (by assumption)) ?_ | refine bJ.call (jW (by assumption) (by decide)) ?_);rintro _ h;(try dsimp only at h);obtain ⟨_,_⟩:=h;try dsimp only) | with_reducible refine bJ.gP (by decide) ?_ | with_reducible refine bJ.cF (fun _=>cX (by assumption)) (fun _ _=>?_) | with_reducible refine bJ.cF (fun _=>cZ (by assumption)) (fun _ _=>?_) | (with_reducible first | refine bJ.rD (fun _ _=>?_) (fun _=>?_) | refine bJ.ite (fun _=>?_) (fun _=>?_) | refine bJ.cC ?_) | with_reducible refine bJ.bW (by (first | rfl | assumption | omega | (simp [cS,room,c9,eY] at *;omega))) ?_ | (with_reducible first | refine bJ.ret ?_ | refine sE.l ?_ | refine sE.r ?_) | (with_reducible show bJ _ _;dsimp only)))
     all_goals try ((all_goals exact Tq);done)
   ·have hm:=nP h
    refine dG.of ?_
    unfold aMj
    (repeat' (first | (with_reducible first | refine bJ.bM ?_ | refine bJ.bL ?_) | with_reducible refine bJ.eX (by decide) ?_ | with_reducible refine bJ.fC (by decide) ?_ | ((with_reducible first | refine bJ.call (ihC _ _ (by assumption) (by omega)) ?_ | refine bJ.call (ihB _ _ (by assumption) (by omega)) ?_ | refine bJ.call (aPX (by omega) (by assumption)) ?_ | refine bJ.call (aH2 (by omega) (by assumption)) ?_ | refine bJ.call (rC (by omega) (by assumption)) ?_ | refine bJ.call (ihI _ _ _ (by assumption) (by omega)) ?_ | refine bJ.call (ihE _ _ (by assumption) (by omega)) ?_ | refine bJ.call (rB (by assumption)) ?_ | refine bJ.call (fR (by assumption)) ?_);rintro ⟨_,_⟩ ⟨_,_⟩;try dsimp only at *) | (with_reducible refine bJ.call (ihL _ _ _ (by assumption) (by first | assumption | (simp;done)) (by omega)) ?_;rintro ⟨_,_⟩ ⟨_,_⟩;try dsimp only at *) | (with_reducible refine bJ.dB (by decide) (xJ (by omega) (by assumption)) ?_;rintro _ (⟨rfl,_⟩ | rfl)) | (with_reducible refine bJ.call (eH (by assumption)) ?_;rintro ⟨_,_⟩ h;dsimp only at h;rcases h with (⟨rfl,_,_⟩ | ⟨rfl,rfl⟩) <;> try dsimp only) | (with_reducible refine bJ.call (eT (by assumption)) ?_;rintro _ h;(try dsimp only at h);obtain ⟨_,_⟩:=h;try dsimp only) | with_reducible refine bJ.gP (by decide) ?_ | with_reducible refine bJ.cF (fun _=>cX (by assumption)) (fun _ _=>?_) | with_reducible refine bJ.cF (fun _=>cZ (by assumption)) (fun _ _=>?_) | (with_reducible first | refine bJ.rD (fun _ _=>?_) (fun _=>?_) | refine bJ.ite (fun _=>?_) (fun _=>?_) | refine bJ.ret ?_ | refine sE.l ?_ | refine sE.r ?_) | (with_reducible show bJ _ _;dsimp only)))
    (all_goals exact Tq)
   ·have hm:=nP h
    refine dG.of ?_
    unfold aMk
    (repeat' (first | (with_reducible first | refine bJ.bM ?_ | refine bJ.bL ?_ | refine bJ.dN ?_) | with_reducible refine bJ.eX (by decide) ?_ | with_reducible refine bJ.fC (by decide) ?_ | ((with_reducible first | refine bJ.call (ihR _ _ _ (by assumption) (by omega)) ?_ | refine bJ.call (rC (by omega) (by assumption)) ?_ | refine bJ.call (ihE _ _ (by assumption) (by omega)) ?_);rintro ⟨_,_⟩ ⟨_,_⟩;try dsimp only at *) | (with_reducible refine bJ.call (ihL _ _ _ (by assumption) (by first | assumption | (simp;done)) (by omega)) ?_;rintro ⟨_,_⟩ ⟨_,_⟩;try dsimp only at *) | ((with_reducible first | refine bJ.call (cX (by assumption)) ?_ | refine bJ.dB (by decide) (cX (by assumption)) ?_);rintro _ (⟨rfl,_⟩ | rfl)) | ((with_reducible first | refine bJ.call (eT (by assumption)) ?_ | refine bJ.call (e9 (by assumption)) ?_);rintro _ h;(try dsimp only at h);obtain ⟨_,_⟩:=h;try dsimp only) | with_reducible refine bJ.gP (by decide) ?_ | with_reducible refine bJ.cF (fun _=>cX (by assumption)) (fun _ _=>?_) | with_reducible refine bJ.cF (fun _=>cZ (by assumption)) (fun _ _=>?_) | (with_reducible first | refine bJ.rD (fun _ _=>?_) (fun _=>?_) | refine bJ.ite (fun _=>?_) (fun _=>?_) | refine bJ.cC ?_) | with_reducible refine bJ.bW (by (first | rfl | assumption | omega | (simp [cS,room,c9,eY] at *;omega))) ?_ | (with_reducible first | refine bJ.ret ?_ | refine sE.l ?_ | refine sE.r ?_) | (with_reducible show bJ _ _;dsimp only)))
    refine bJ.loop (fun t:cB × List cM × List (List cJ) × List Bytes=>Rd t.1∧t.2.1.length≤cM.jF t.2.1∧t.2.2.1.length≤cJ.lS t.2.2.1∧t.2.2.2.length≤10∧cM.jF t.2.1+cJ.lS t.2.2.1+4 * mu t.1≤4 * mu r) (fun t=>mu t.1)
     ⟨h,by simp,by simp,by simp,by simp [cM.jF,cJ.lS]⟩ (by simp;omega) ?_
    rintro ⟨q,l,b,n⟩ ⟨g1,g2,g3,g4,g5⟩
    dsimp only at g1 g2 g3 g4 g5 ⊢
    (repeat' (first | (with_reducible first | refine bJ.bM ?_ | refine bJ.bL ?_ | refine bJ.dN ?_) | with_reducible refine bJ.eX (by decide) ?_ | with_reducible refine bJ.fC (by decide) ?_ | ((with_reducible first | refine bJ.call (ihR _ _ _ (by assumption) (by omega)) ?_ | refine bJ.call (rC (by omega) (by assumption)) ?_ | refine bJ.call (ihE _ _ (by assumption) (by omega)) ?_);rintro ⟨_,_⟩ ⟨_,_⟩;try dsimp only at *) | (with_reducible refine bJ.call (ihL _ _ _ (by assumption) (by first | assumption | (simp;done)) (by omega)) ?_;rintro ⟨_,_⟩ ⟨_,_⟩;try dsimp only at *) | ((with_reducible first | refine bJ.call (cX (by assumption)) ?_ | refine bJ.dB (by decide) (cX (by assumption)) ?_);rintro _ (⟨rfl,_⟩ | rfl)) | ((with_reducible first | refine bJ.call (eT (by assumption)) ?_ | refine bJ.call (e9 (by assumption)) ?_);rintro _ h;(try dsimp only at h);obtain ⟨_,_⟩:=h;try dsimp only) | with_reducible refine bJ.gP (by decide) ?_ | with_reducible refine bJ.cF (fun _=>cX (by assumption)) (fun _ _=>?_) | with_reducible refine bJ.cF (fun _=>cZ (by assumption)) (fun _ _=>?_) | (with_reducible first | refine bJ.rD (fun _ _=>?_) (fun _=>?_) | refine bJ.ite (fun _=>?_) (fun _=>?_) | refine bJ.cC ?_) | with_reducible refine bJ.bW (by (first | rfl | assumption | omega | (simp [cS,room,c9,eY] at *;omega))) ?_ | (with_reducible first | refine bJ.ret ?_ | refine sE.l ?_ | refine sE.r ?_) | (with_reducible show bJ _ _;dsimp only)))
    (all_goals exact Tq)
   ·have hm:=nP h
    refine dG.of ?_
    unfold aMl
    (repeat' (first | (with_reducible first | refine bJ.bM ?_ | refine bJ.bL ?_ | refine bJ.dN ?_) | with_reducible refine bJ.eX (by decide) ?_ | with_reducible refine bJ.fC (by decide) ?_ | ((with_reducible first | refine bJ.call (ihR _ _ _ (by assumption) (by omega)) ?_ | refine bJ.call (rC (by omega) (by assumption)) ?_ | refine bJ.call (ihE _ _ (by assumption) (by omega)) ?_ | refine bJ.call (rB (by assumption)) ?_);rintro ⟨_,_⟩ ⟨_,_⟩;try dsimp only at *) | (with_reducible refine bJ.call (ihL _ _ _ (by assumption) (by first | assumption | (simp;done)) (by omega)) ?_;rintro ⟨_,_⟩ ⟨_,_⟩;try dsimp only at *) | ((with_reducible first | refine bJ.call (cZ (by assumption)) ?_ | refine bJ.call (cX (by assumption)) ?_ | refine bJ.dB (by decide) (cZ (by assumption)) ?_ | refine bJ.dB (by decide) (cX (by assumption)) ?_);rintro _ (⟨rfl,_⟩ | rfl)) | (with_reducible refine bJ.call (eH (by assumption)) ?_;rintro ⟨_,_⟩ h;dsimp only at h;rcases h with (⟨rfl,_,_⟩ | ⟨rfl,rfl⟩) <;> try dsimp only) | ((with_reducible first | refine bJ.call (eT (by assumption)) ?_ | refine bJ.call (e9 (by assumption)) ?_);rintro _ h;(try dsimp only at h);obtain ⟨_,_⟩:=h;try dsimp only) | with_reducible refine bJ.gP (by decide) ?_ | with_reducible refine bJ.cF (fun _=>cX (by assumption)) (fun _ _=>?_) | with_reducible refine bJ.cF (fun _=>cZ (by assumption)) (fun _ _=>?_) | (with_reducible first | refine bJ.rD (fun _ _=>?_) (fun _=>?_) | refine bJ.ite (fun _=>?_) (fun _=>?_) | refine bJ.cC ?_) | with_reducible refine bJ.bW (by (first | rfl | assumption | omega | (simp [cS,room,c9,eY] at *;omega))) ?_ | (with_reducible first | refine bJ.ret ?_ | refine sE.l ?_ | refine sE.r ?_) | (with_reducible show bJ _ _;dsimp only)))
    rename_i x r1 h1 h2 r2 h3 h4
    refine bJ.loop (fun t:cB × List (List Int) × List (List cJ)=>Rd t.1∧t.2.1.length≤qY t.2.1∧t.2.2.length≤cJ.lS t.2.2∧qY t.2.1+cJ.lS t.2.2+4 * mu t.1≤4 * mu r2) (fun t=>mu t.1)
     ⟨h3,by simp,by simp,by simp [qY,cJ.lS]⟩ (by simp;omega) ?_
    rintro ⟨q,l,b⟩ ⟨g1,g2,g3,g4⟩
    dsimp only at g1 g2 g3 g4 ⊢
    (repeat' (first | (with_reducible first | refine bJ.bM ?_ | refine bJ.bL ?_ | refine bJ.dN ?_) | with_reducible refine bJ.eX (by decide) ?_ | with_reducible refine bJ.fC (by decide) ?_ | ((with_reducible first | refine bJ.call (ihR _ _ _ (by assumption) (by omega)) ?_ | refine bJ.call (rC (by omega) (by assumption)) ?_ | refine bJ.call (ihE _ _ (by assumption) (by omega)) ?_ | refine bJ.call (rB (by assumption)) ?_);rintro ⟨_,_⟩ ⟨_,_⟩;try dsimp only at *) | (with_reducible refine bJ.call (ihL _ _ _ (by assumption) (by first | assumption | (simp;done)) (by omega)) ?_;rintro ⟨_,_⟩ ⟨_,_⟩;try dsimp only at *) | ((with_reducible first | refine bJ.call (cZ (by assumption)) ?_ | refine bJ.call (cX (by assumption)) ?_ | refine bJ.dB (by decide) (cZ (by assumption)) ?_ | refine bJ.dB (by decide) (cX (by assumption)) ?_);rintro _ (⟨rfl,_⟩ | rfl)) | (with_reducible refine bJ.call (eH (by assumption)) ?_;rintro ⟨_,_⟩ h;dsimp only at h;rcases h with (⟨rfl,_,_⟩ | ⟨rfl,rfl⟩) <;> try dsimp only) | ((with_reducible first | refine bJ.call (eT (by assumption)) ?_ | refine bJ.call (e9 (by assumption)) ?_);rintro _ h;(try dsimp only at h);obtain ⟨_,_⟩:=h;try dsimp only) | with_reducible refine bJ.gP (by decide) ?_ | with_reducible refine bJ.cF (fun _=>cX (by assumption)) (fun _ _=>?_) | with_reducible refine bJ.cF (fun _=>cZ (by assumption)) (fun _ _=>?_) | (with_reducible first | refine bJ.rD (fun _ _=>?_) (fun _=>?_) | refine bJ.ite (fun _=>?_) (fun _=>?_) | refine bJ.cC ?_) | with_reducible refine bJ.bW (by (first | rfl | assumption | omega | (simp [cS,room,c9,eY] at *;omega))) ?_ | (with_reducible first | refine bJ.ret ?_ | refine sE.l ?_ | refine sE.r ?_) | (with_reducible show bJ _ _;dsimp only)))
    all_goals try ((all_goals exact Tq);done)
    all_goals
     rename_i f hf1 hf2
     refine bJ.loop (fun t:cB × List Int=>Rd t.1∧t.2.length+mu t.1≤mu f) (fun t=>mu t.1) ⟨hf1,by simp⟩ (by simp;omega) ?_
     rintro ⟨q2,l2⟩ ⟨e1,e2⟩
     dsimp only at e1 e2 ⊢
     (repeat' (first | (with_reducible first | refine bJ.bM ?_ | refine bJ.bL ?_ | refine bJ.dN ?_) | with_reducible refine bJ.eX (by decide) ?_ | with_reducible refine bJ.fC (by decide) ?_ | ((with_reducible first | refine bJ.call (ihR _ _ _ (by assumption) (by omega)) ?_ | refine bJ.call (rC (by omega) (by assumption)) ?_ | refine bJ.call (ihE _ _ (by assumption) (by omega)) ?_ | refine bJ.call (rB (by assumption)) ?_);rintro ⟨_,_⟩ ⟨_,_⟩;try dsimp only at *) | (with_reducible refine bJ.call (ihL _ _ _ (by assumption) (by first | assumption | (simp;done)) (by omega)) ?_;rintro ⟨_,_⟩ ⟨_,_⟩;try dsimp only at *) | ((with_reducible first | refine bJ.call (cZ (by assumption)) ?_ | refine bJ.call (cX (by assumption)) ?_ | refine bJ.dB (by decide) (cZ (by assumption)) ?_ | refine bJ.dB (by decide) (cX (by assumption)) ?_);rintro _ (⟨rfl,_⟩ | rfl)) | (with_reducible refine bJ.call (eH (by assumption)) ?_;rintro ⟨_,_⟩ h;dsimp only at h;rcases h with (⟨rfl,_,_⟩ | ⟨rfl,rfl⟩) <;> try dsimp only) | ((with_reducible first | refine bJ.call (eT (by assumption)) ?_ | refine bJ.call (e9 (by assumption)) ?_);rintro _ h;(try dsimp only at h);obtain ⟨_,_⟩:=h;try dsimp only) | with_reducible refine bJ.gP (by decide) ?_ | with_reducible refine bJ.cF (fun _=>cX (by assumption)) (fun _ _=>?_) | with_reducible refine bJ.cF (fun _=>cZ (by assumption)) (fun _ _=>?_) | (with_reducible first | refine bJ.rD (fun _ _=>?_) (fun _=>?_) | refine bJ.ite (fun _=>?_) (fun _=>?_) | refine bJ.cC ?_) | with_reducible refine bJ.bW (by (first | rfl | assumption | omega | (simp [cS,room,c9,eY] at *;omega))) ?_ | (with_reducible first | refine bJ.ret ?_ | refine sE.l ?_ | refine sE.r ?_) | (with_reducible show bJ _ _;dsimp only)))
     all_goals try ((all_goals exact Tq);done)
   ·have hm:=nP h
    refine dG.of ?_
    unfold aJi
    (repeat' (first | with_reducible refine bJ.eX (by decide) ?_ | with_reducible refine bJ.fC (by decide) ?_ | (with_reducible refine bJ.call (ihL _ _ _ (by assumption) (by first | assumption | (simp;done)) (by omega)) ?_;rintro ⟨_,_⟩ ⟨_,_⟩;try dsimp only at *) | (with_reducible refine bJ.call (eH (by assumption)) ?_;rintro ⟨_,_⟩ h;dsimp only at h;rcases h with (⟨rfl,_,_⟩ | ⟨rfl,rfl⟩) <;> try dsimp only) | with_reducible refine bJ.cF (fun _=>cX (by assumption)) (fun _ _=>?_) | with_reducible refine bJ.cF (fun _=>cZ (by assumption)) (fun _ _=>?_) | (with_reducible first | refine bJ.rD (fun _ _=>?_) (fun _=>?_) | refine bJ.ite (fun _=>?_) (fun _=>?_) | refine bJ.ret ?_ | refine sE.l ?_ | refine sE.r ?_) | (with_reducible show bJ _ _;dsimp only)))
    (all_goals exact Tq)
theorem rE {K:Nat} {r:cB} {d:Int} {ends:List Bytes} (hK:400000<K) (h:Rd r) (he:ends.length≤10):dG (xR K r d ends) (PL r):=(aPY K).1 r d ends h he (by have:=nP h;omega)
end Go.Proofs.YtdbfbedholdjaaaGreat

namespace Go.Proofs.YtdbfbedholdjaaaGreat
open Go Go.Dl
variable [eC]
set_option maxRecDepth 100000
set_option maxHeartbeats 8000000
theorem zC {K:Nat} {r:cB} {s:Bytes} (h:Rd r):dG (gE K r s) (fun v=>Rd v.2∧mu v.2≤mu r) :=
 (eH h).aAH fun v hv=>by
  rcases hv with ⟨_,h1,h2⟩ | ⟨_,h1⟩
  ·exact ⟨h1,by omega⟩
  ·rw[h1];exact ⟨h,aO _⟩
theorem aPZ {K:Nat} {r:cB} (hK:400000<K) (h:Rd r):dG (aOY K r) (fun v=>Rd v.2∧v.1.sz+4 * mu v.2≤4 * mu r+1∧(mu v.2≠0→v.1.cG≠[])):=by
 have hm:=nP h
 refine dG.of ?_
 unfold aOY
 refine bJ.call (zC h) ?_;rintro ⟨b1,r1⟩ ⟨h1,m1⟩;dsimp only at h1 m1 ⊢
 refine bJ.call (zC h1) ?_;rintro ⟨b2,r2⟩ ⟨h2,m2⟩;dsimp only at h2 m2 ⊢
 refine bJ.call (aLk h2) ?_;rintro ⟨nm,r3⟩ ⟨⟨h3,m3⟩,n3⟩;dsimp only at h3 m3 n3 ⊢
 refine bJ.call (zC h3) ?_;rintro ⟨b4,r4⟩ ⟨h4,m4⟩;dsimp only at h4 m4 ⊢
 refine bJ.aLl (fun u:cB × Bytes=>Rd u.1∧mu u.1≤mu r4) ?_ ?_
 ·(repeat' (first | (with_reducible first | refine bJ.bM ?_ | refine bJ.bL ?_ | refine bJ.dN ?_) | with_reducible refine bJ.eX (by decide) ?_ | with_reducible refine bJ.fC (by decide) ?_ | ((with_reducible first | refine bJ.call (rE (by omega) (by assumption) (by simp)) ?_ | refine bJ.call (oP (by omega) (by assumption)) ?_ | refine bJ.call (oO (by omega) (by assumption)) ?_ | refine bJ.call (oN (by omega) (by assumption)) ?_ | refine bJ.call (fR (by assumption)) ?_);rintro ⟨_,_⟩ ⟨_,_⟩;try dsimp only at *) | ((with_reducible first | refine bJ.call (cZ (by assumption)) ?_ | refine bJ.call (cX (by assumption)) ?_ | refine bJ.dB (by decide) (cZ (by assumption)) ?_ | refine bJ.dB (by decide) (cX (by assumption)) ?_);rintro _ (⟨rfl,_⟩ | rfl)) | (with_reducible refine bJ.call (eH (by assumption)) ?_;rintro ⟨_,_⟩ h;dsimp only at h;rcases h with (⟨rfl,_,_⟩ | ⟨rfl,rfl⟩) <;> try dsimp only) | ((with_reducible first | refine bJ.call (eT (by assumption)) ?_ | refine bJ.call (e9 (by assumption)) ?_);rintro _ h;(try dsimp only at h);obtain ⟨_,_⟩:=h;try dsimp only) | with_reducible refine bJ.gP (by decide) ?_ | with_reducible refine bJ.cF (fun _=>cX (by assumption)) (fun _ _=>?_) | with_reducible refine bJ.cF (fun _=>cZ (by assumption)) (fun _ _=>?_) | (with_reducible first | refine bJ.rD (fun _ _=>?_) (fun _=>?_) | refine bJ.ite (fun _=>?_) (fun _=>?_) | refine bJ.cC ?_) | with_reducible refine bJ.bW (by (first | rfl | assumption | omega | (simp [cS,room,c9,eY] at *;omega))) ?_ | (with_reducible first | refine bJ.ret ?_ | refine sE.l ?_ | refine sE.r ?_) | (with_reducible show bJ _ _;dsimp only)))
  (all_goals exact Tq)
 rintro ⟨r5,base⟩ ⟨h5,m5⟩
 dsimp only at h5 m5 ⊢
 refine bJ.call (zC h5) ?_;rintro ⟨b6,r6⟩ ⟨h6,m6⟩;dsimp only at h6 m6 ⊢
 refine bJ.aLl (fun u:cB × List Bytes=>Rd u.1∧u.2.length+mu u.1≤mu r6) ?_ ?_
 ·(repeat' (first | (with_reducible first | refine bJ.bM ?_ | refine bJ.bL ?_ | refine bJ.dN ?_) | with_reducible refine bJ.eX (by decide) ?_ | with_reducible refine bJ.fC (by decide) ?_ | ((with_reducible first | refine bJ.call (rE (by omega) (by assumption) (by simp)) ?_ | refine bJ.call (oP (by omega) (by assumption)) ?_ | refine bJ.call (oO (by omega) (by assumption)) ?_ | refine bJ.call (oN (by omega) (by assumption)) ?_ | refine bJ.call (fR (by assumption)) ?_);rintro ⟨_,_⟩ ⟨_,_⟩;try dsimp only at *) | ((with_reducible first | refine bJ.call (cZ (by assumption)) ?_ | refine bJ.call (cX (by assumption)) ?_ | refine bJ.dB (by decide) (cZ (by assumption)) ?_ | refine bJ.dB (by decide) (cX (by assumption)) ?_);rintro _ (⟨rfl,_⟩ | rfl)) | (with_reducible refine bJ.call (eH (by assumption)) ?_;rintro ⟨_,_⟩ h;dsimp only at h;rcases h with (⟨rfl,_,_⟩ | ⟨rfl,rfl⟩) <;> try dsimp only) | ((with_reducible first | refine bJ.call (eT (by assumption)) ?_ | refine bJ.call (e9 (by assumption)) ?_);rintro _ h;(try dsimp only at h);obtain ⟨_,_⟩:=h;try dsimp only) | with_reducible refine bJ.gP (by decide) ?_ | with_reducible refine bJ.cF (fun _=>cX (by assumption)) (fun _ _=>?_) | with_reducible refine bJ.cF (fun _=>cZ (by assumption)) (fun _ _=>?_) | (with_reducible first | refine bJ.rD (fun _ _=>?_) (fun _=>?_) | refine bJ.ite (fun _=>?_) (fun _=>?_) | refine bJ.cC ?_) | with_reducible refine bJ.bW (by (first | rfl | assumption | omega | (simp [cS,room,c9,eY] at *;omega))) ?_ | (with_reducible first | refine bJ.ret ?_ | refine sE.l ?_ | refine sE.r ?_) | (with_reducible show bJ _ _;dsimp only)))
  ·refine bJ.loop (fun t:cB × List Bytes=>Rd t.1∧t.2.length+mu t.1≤mu r6) (fun t=>mu t.1) ⟨h6,by simp⟩ (by simp;omega) ?_
   rintro ⟨q,l⟩ ⟨g1,g2⟩
   dsimp only at g1 g2 ⊢
   (repeat' (first | (with_reducible first | refine bJ.bM ?_ | refine bJ.bL ?_ | refine bJ.dN ?_) | with_reducible refine bJ.eX (by decide) ?_ | with_reducible refine bJ.fC (by decide) ?_ | ((with_reducible first | refine bJ.call (rE (by omega) (by assumption) (by simp)) ?_ | refine bJ.call (oP (by omega) (by assumption)) ?_ | refine bJ.call (oO (by omega) (by assumption)) ?_ | refine bJ.call (oN (by omega) (by assumption)) ?_ | refine bJ.call (fR (by assumption)) ?_);rintro ⟨_,_⟩ ⟨_,_⟩;try dsimp only at *) | ((with_reducible first | refine bJ.call (cZ (by assumption)) ?_ | refine bJ.call (cX (by assumption)) ?_ | refine bJ.dB (by decide) (cZ (by assumption)) ?_ | refine bJ.dB (by decide) (cX (by assumption)) ?_);rintro _ (⟨rfl,_⟩ | rfl)) | (with_reducible refine bJ.call (eH (by assumption)) ?_;rintro ⟨_,_⟩ h;dsimp only at h;rcases h with (⟨rfl,_,_⟩ | ⟨rfl,rfl⟩) <;> try dsimp only) | ((with_reducible first | refine bJ.call (eT (by assumption)) ?_ | refine bJ.call (e9 (by assumption)) ?_);rintro _ h;(try dsimp only at h);obtain ⟨_,_⟩:=h;try dsimp only) | with_reducible refine bJ.gP (by decide) ?_ | with_reducible refine bJ.cF (fun _=>cX (by assumption)) (fun _ _=>?_) | with_reducible refine bJ.cF (fun _=>cZ (by assumption)) (fun _ _=>?_) | (with_reducible first | refine bJ.rD (fun _ _=>?_) (fun _=>?_) | refine bJ.ite (fun _=>?_) (fun _=>?_) | refine bJ.cC ?_) | with_reducible refine bJ.bW (by (first | rfl | assumption | omega | (simp [cS,room,c9,eY] at *;omega))) ?_ | (with_reducible first | refine bJ.ret ?_ | refine sE.l ?_ | refine sE.r ?_) | (with_reducible show bJ _ _;dsimp only)))
   (all_goals exact Tq)
  ·exact ⟨h6,by simp⟩
 rintro ⟨r7,fs⟩ ⟨h7,m7⟩
 dsimp only at h7 m7 ⊢
 refine bJ.call (eT h7) ?_;rintro r8 ⟨h8,m8⟩
 refine bJ.call (oP (by omega) h8) ?_;rintro ⟨vs,r9⟩ ⟨h9,m9⟩;dsimp only at h9 m9 ⊢
 (repeat' (first | (with_reducible first | refine bJ.bM ?_ | refine bJ.bL ?_ | refine bJ.dN ?_) | with_reducible refine bJ.eX (by decide) ?_ | with_reducible refine bJ.fC (by decide) ?_ | ((with_reducible first | refine bJ.call (rE (by omega) (by assumption) (by simp)) ?_ | refine bJ.call (oP (by omega) (by assumption)) ?_ | refine bJ.call (oO (by omega) (by assumption)) ?_ | refine bJ.call (oN (by omega) (by assumption)) ?_ | refine bJ.call (fR (by assumption)) ?_);rintro ⟨_,_⟩ ⟨_,_⟩;try dsimp only at *) | ((with_reducible first | refine bJ.call (cZ (by assumption)) ?_ | refine bJ.call (cX (by assumption)) ?_ | refine bJ.dB (by decide) (cZ (by assumption)) ?_ | refine bJ.dB (by decide) (cX (by assumption)) ?_);rintro _ (⟨rfl,_⟩ | rfl)) | (with_reducible refine bJ.call (eH (by assumption)) ?_;rintro ⟨_,_⟩ h;dsimp only at h;rcases h with (⟨rfl,_,_⟩ | ⟨rfl,rfl⟩) <;> try dsimp only) | ((with_reducible first | refine bJ.call (eT (by assumption)) ?_ | refine bJ.call (e9 (by assumption)) ?_);rintro _ h;(try dsimp only at h);obtain ⟨_,_⟩:=h;try dsimp only) | with_reducible refine bJ.gP (by decide) ?_ | with_reducible refine bJ.cF (fun _=>cX (by assumption)) (fun _ _=>?_) | with_reducible refine bJ.cF (fun _=>cZ (by assumption)) (fun _ _=>?_) | (with_reducible first | refine bJ.rD (fun _ _=>?_) (fun _=>?_) | refine bJ.ite (fun _=>?_) (fun _=>?_) | refine bJ.cC ?_) | with_reducible refine bJ.bW (by (first | rfl | assumption | omega | (simp [cS,room,c9,eY] at *;omega))) ?_ | (with_reducible first | refine bJ.ret ?_ | refine sE.l ?_ | refine sE.r ?_) | (with_reducible show bJ _ _;dsimp only)))
 refine bJ.loop (fun t:cB × List iI=>Rd t.1∧t.2.length≤zH t.2∧zH t.2+4 * mu t.1≤4 * mu r9) (fun t=>mu t.1) ⟨h9,by simp [zH],by simp [zH]⟩ (by simp;omega) ?_
 rintro ⟨q,l⟩ ⟨g1,g2,g3⟩
 dsimp only at g1 g2 g3 ⊢
 refine bJ.dB (by decide) (cX g1) ?_
 rintro v (⟨e1,e2⟩ | e1) <;> subst e1
 ·refine bJ.eX (by decide) ?_
  refine bJ.bM (bJ.bL ?_)
  refine bJ.call (e9 g1) ?_;rintro q1 ⟨k1,n1⟩
  refine bJ.call (eT k1) ?_;rintro q2 ⟨k2,n2⟩
  refine bJ.call (zC k2) ?_;rintro ⟨c1,q3⟩ ⟨k3,n3⟩;dsimp only at k3 n3 ⊢
  refine bJ.call (zC k3) ?_;rintro ⟨c2,q4⟩ ⟨k4,n4⟩;dsimp only at k4 n4 ⊢
  refine bJ.call (zC k4) ?_;rintro ⟨c3,q5⟩ ⟨k5,n5⟩;dsimp only at k5 n5 ⊢
  (repeat' (first | (with_reducible first | refine bJ.bM ?_ | refine bJ.bL ?_ | refine bJ.dN ?_) | with_reducible refine bJ.eX (by decide) ?_ | with_reducible refine bJ.fC (by decide) ?_ | ((with_reducible first | refine bJ.call (rE (by omega) (by assumption) (by simp)) ?_ | refine bJ.call (oP (by omega) (by assumption)) ?_ | refine bJ.call (oO (by omega) (by assumption)) ?_ | refine bJ.call (oN (by omega) (by assumption)) ?_ | refine bJ.call (fR (by assumption)) ?_);rintro ⟨_,_⟩ ⟨_,_⟩;try dsimp only at *) | ((with_reducible first | refine bJ.call (cZ (by assumption)) ?_ | refine bJ.call (cX (by assumption)) ?_ | refine bJ.dB (by decide) (cZ (by assumption)) ?_ | refine bJ.dB (by decide) (cX (by assumption)) ?_);rintro _ (⟨rfl,_⟩ | rfl)) | (with_reducible refine bJ.call (eH (by assumption)) ?_;rintro ⟨_,_⟩ h;dsimp only at h;rcases h with (⟨rfl,_,_⟩ | ⟨rfl,rfl⟩) <;> try dsimp only) | ((with_reducible first | refine bJ.call (eT (by assumption)) ?_ | refine bJ.call (e9 (by assumption)) ?_);rintro _ h;(try dsimp only at h);obtain ⟨_,_⟩:=h;try dsimp only) | with_reducible refine bJ.gP (by decide) ?_ | with_reducible refine bJ.cF (fun _=>cX (by assumption)) (fun _ _=>?_) | with_reducible refine bJ.cF (fun _=>cZ (by assumption)) (fun _ _=>?_) | (with_reducible first | refine bJ.rD (fun _ _=>?_) (fun _=>?_) | refine bJ.ite (fun _=>?_) (fun _=>?_) | refine bJ.cC ?_) | with_reducible refine bJ.bW (by (first | rfl | assumption | omega | (simp [cS,room,c9,eY] at *;omega))) ?_ | (with_reducible first | refine bJ.ret ?_ | refine sE.l ?_ | refine sE.r ?_) | (with_reducible show bJ _ _;dsimp only)))
  (all_goals exact Tq)
 ·(repeat' (first | (with_reducible first | refine bJ.bM ?_ | refine bJ.bL ?_ | refine bJ.dN ?_) | with_reducible refine bJ.eX (by decide) ?_ | with_reducible refine bJ.fC (by decide) ?_ | ((with_reducible first | refine bJ.call (rE (by omega) (by assumption) (by simp)) ?_ | refine bJ.call (oP (by omega) (by assumption)) ?_ | refine bJ.call (oO (by omega) (by assumption)) ?_ | refine bJ.call (oN (by omega) (by assumption)) ?_ | refine bJ.call (fR (by assumption)) ?_);rintro ⟨_,_⟩ ⟨_,_⟩;try dsimp only at *) | ((with_reducible first | refine bJ.call (cZ (by assumption)) ?_ | refine bJ.call (cX (by assumption)) ?_ | refine bJ.dB (by decide) (cZ (by assumption)) ?_ | refine bJ.dB (by decide) (cX (by assumption)) ?_);rintro _ (⟨rfl,_⟩ | rfl)) | (with_reducible refine bJ.call (eH (by assumption)) ?_;rintro ⟨_,_⟩ h;dsimp only at h;rcases h with (⟨rfl,_,_⟩ | ⟨rfl,rfl⟩) <;> try dsimp only) | ((with_reducible first | refine bJ.call (eT (by assumption)) ?_ | refine bJ.call (e9 (by assumption)) ?_);rintro _ h;(try dsimp only at h);obtain ⟨_,_⟩:=h;try dsimp only) | with_reducible refine bJ.gP (by decide) ?_ | with_reducible refine bJ.cF (fun _=>cX (by assumption)) (fun _ _=>?_) | with_reducible refine bJ.cF (fun _=>cZ (by assumption)) (fun _ _=>?_) | (with_reducible first | refine bJ.rD (fun _ _=>?_) (fun _=>?_) | refine bJ.ite (fun _=>?_) (fun _=>?_) | refine bJ.cC ?_) | with_reducible refine bJ.bW (by (first | rfl | assumption | omega | (simp [cS,room,c9,eY] at *;omega))) ?_ | (with_reducible first | refine bJ.ret ?_ | refine sE.l ?_ | refine sE.r ?_) | (with_reducible show bJ _ _;dsimp only)))
  refine ⟨by assumption,by unfold jX.sz;dsimp only;simp only[cJ.jF];omega,fun e=>n3 (by dsimp only at e;omega)⟩
theorem jX.aEj (d:jX):1≤d.sz:=by unfold jX.sz;omega
theorem aSx {K:Nat} {r:cB} (hK:400000<K) (h:Rd r):dG (F76 K r) (fun v=>Rd v.2∧v.1.sz+4 * mu v.2≤4 * (mu r - 1)+1∧(v.1.bP=2→mu v.2≠0→v.1.cG≠[])):=by
 have hm:=nP h
 refine dG.of ?_
 unfold F76
 (repeat' (first | (with_reducible first | refine bJ.bM ?_ | refine bJ.bL ?_) | with_reducible refine bJ.eX (by decide) ?_ | with_reducible refine bJ.fC (by decide) ?_ | ((with_reducible first | refine bJ.call (aPZ (by omega) (by assumption)) ?_ | refine bJ.call (rE (by omega) (by assumption) (by simp)) ?_ | refine bJ.call (aPW (by omega) (by assumption)) ?_ | refine bJ.call (oP (by omega) (by assumption)) ?_ | refine bJ.call (tU (by assumption)) ?_ | refine bJ.call (fR (by assumption)) ?_);rintro ⟨_,_⟩ ⟨_,_⟩;try dsimp only at *) | (with_reducible refine bJ.call (eH (by assumption)) ?_;rintro ⟨_,_⟩ h;dsimp only at h;rcases h with (⟨rfl,_,_⟩ | ⟨rfl,rfl⟩) <;> try dsimp only) | ((with_reducible first | refine bJ.call (eT (by assumption)) ?_ | refine bJ.call (jW (by assumption) (by decide)) ?_);rintro _ h;(try dsimp only at h);obtain ⟨_,_⟩:=h;try dsimp only) | with_reducible refine bJ.cF (fun _=>cX (by assumption)) (fun _ _=>?_) | with_reducible refine bJ.cF (fun _=>cZ (by assumption)) (fun _ _=>?_) | (with_reducible first | refine bJ.rD (fun _ _=>?_) (fun _=>?_) | refine bJ.ite (fun _=>?_) (fun _=>?_) | refine bJ.ret ?_ | refine sE.l ?_ | refine sE.r ?_) | (with_reducible show bJ _ _;dsimp only)))
 ·rename_i r1 h2 h3 x r2 h4 h5
  exact ⟨h4,by dsimp only;omega,fun e=>by have:=h5.2;dsimp only at e;omega⟩
 ·rename_i r1 h2 h3 x r2 h4 h5
  exact ⟨h4,by dsimp only;have:=h5.1;omega,fun _ e=>h5.2 e⟩
 all_goals refine ⟨by assumption,?_,fun e=>by simp at e⟩
 all_goals (((try simp only[aE,List.length_cons,List.length_nil,cM.sz,cM.jF,oF,cJ.sz,cJ.jF,cJ.lS,wZ,sH,qY,tT,iI.sz,zH,xI,jX.sz,dsz,uR]);(try dsimp only);omega))
theorem aSy {K:Nat} {a0:Bytes} (hK:400000<K):dG (F72 K a0) (fun v=>Rd v.1):=by
 refine dG.of ?_
 unfold F72
 refine bJ.call (aPN (by omega)) (fun v hv=>?_)
 (repeat' (first | (with_reducible first | refine bJ.ret ?_ | refine sE.l ?_ | refine sE.r ?_)))
 exact ⟨by simp,by simp,hv.1,hv.2⟩
theorem aSa {K:Nat} {a0:Bytes} (hK:400000<K):dG (F33 K a0) (fun v=>v.2.2.1=0→dsz v.1.bK≤6004∧v.2.1.length=v.1.bK.length∧∀ d∈v.1.bK,d.bP=2→d.cG≠[]):=by
 refine dG.of ?_
 unfold F33
 refine bJ.call (aSy (by omega)) ?_
 rintro ⟨r,c,p⟩ h
 dsimp only at h ⊢
 have hm:=nP h
 refine bJ.ite (fun e=>?_) (fun e=>?_)
 ·(repeat' (first | (with_reducible first | refine bJ.bO ?_ | refine bJ.bM ?_ | refine bJ.bL ?_ | refine bJ.dN ?_) | with_reducible refine bJ.eX (by decide) ?_ | with_reducible refine bJ.fC (by decide) ?_ | ((with_reducible first | refine bJ.call (cX (by assumption)) ?_ | refine bJ.dB (by decide) (cX (by assumption)) ?_);rintro _ (⟨rfl,_⟩ | rfl)) | (with_reducible refine bJ.call (e9 (by assumption)) ?_;rintro _ h;(try dsimp only at h);obtain ⟨_,_⟩:=h;try dsimp only) | with_reducible refine bJ.gP (by decide) ?_ | with_reducible refine bJ.cF (fun _=>cX (by assumption)) (fun _ _=>?_) | with_reducible refine bJ.cF (fun _=>cZ (by assumption)) (fun _ _=>?_) | (with_reducible first | refine bJ.rD (fun _ _=>?_) (fun _=>?_) | refine bJ.ite (fun _=>?_) (fun _=>?_) | refine bJ.cC ?_) | with_reducible refine bJ.bW (by (first | rfl | assumption | omega | (simp [cS,room,c9,eY] at *;omega))) ?_ | (with_reducible first | refine bJ.ret ?_ | refine sE.l ?_ | refine sE.r ?_) | (with_reducible show bJ _ _;dsimp only)))
  intro h0
  have h0:c=0:=h0
  simp [h0] at e
 ·(repeat' (first | (with_reducible first | refine bJ.bO ?_ | refine bJ.bM ?_ | refine bJ.bL ?_ | refine bJ.dN ?_) | with_reducible refine bJ.eX (by decide) ?_ | with_reducible refine bJ.fC (by decide) ?_ | ((with_reducible first | refine bJ.call (cX (by assumption)) ?_ | refine bJ.dB (by decide) (cX (by assumption)) ?_);rintro _ (⟨rfl,_⟩ | rfl)) | (with_reducible refine bJ.call (e9 (by assumption)) ?_;rintro _ h;(try dsimp only at h);obtain ⟨_,_⟩:=h;try dsimp only) | with_reducible refine bJ.gP (by decide) ?_ | with_reducible refine bJ.cF (fun _=>cX (by assumption)) (fun _ _=>?_) | with_reducible refine bJ.cF (fun _=>cZ (by assumption)) (fun _ _=>?_) | (with_reducible first | refine bJ.rD (fun _ _=>?_) (fun _=>?_) | refine bJ.ite (fun _=>?_) (fun _=>?_) | refine bJ.cC ?_) | with_reducible refine bJ.bW (by (first | rfl | assumption | omega | (simp [cS,room,c9,eY] at *;omega))) ?_ | (with_reducible first | refine bJ.ret ?_ | refine sE.l ?_ | refine sE.r ?_) | (with_reducible show bJ _ _;dsimp only)))
  refine bJ.loop (fun t:cB × List jX × List Int=>Rd t.1∧t.2.1.length≤dsz t.2.1∧t.2.2.length=t.2.1.length∧dsz t.2.1+4 * mu t.1≤4 * mu r∧∀ d∈t.2.1,d.bP=2→mu t.1≠0→d.cG≠[]) (fun t=>mu t.1) ⟨h,by simp [dsz],by simp,by simp [dsz],by simp⟩ (by simp;omega) ?_
  rintro ⟨q,l,pls⟩ ⟨g1,g2,g3,g4,g9⟩
  dsimp only at g1 g2 g3 g4 g9 ⊢
  refine bJ.bO (bJ.ite (fun e=>?_) (fun e=>?_))
  ·simp only[aC,beq_iff_eq] at e
   have hp:=zB e.2
   refine bJ.bM (bJ.bL ?_)
   refine bJ.dB (by decide) (cX g1) (fun v1 _=>?_)
   refine bJ.cF (fun _=>cX g1) (fun v2 _=>?_)
   refine bJ.cF (fun _=>cX g1) (fun v3 _=>?_)
   refine bJ.cF (fun _=>cX g1) (fun v4 _=>?_)
   refine bJ.aLl (fun u:cB=>Rd u∧mu u≤mu q) ?_ ?_
   ·(repeat' (first | (with_reducible first | refine bJ.bO ?_ | refine bJ.bM ?_ | refine bJ.bL ?_ | refine bJ.dN ?_) | with_reducible refine bJ.eX (by decide) ?_ | with_reducible refine bJ.fC (by decide) ?_ | ((with_reducible first | refine bJ.call (cX (by assumption)) ?_ | refine bJ.dB (by decide) (cX (by assumption)) ?_);rintro _ (⟨rfl,_⟩ | rfl)) | (with_reducible refine bJ.call (e9 (by assumption)) ?_;rintro _ h;(try dsimp only at h);obtain ⟨_,_⟩:=h;try dsimp only) | with_reducible refine bJ.gP (by decide) ?_ | with_reducible refine bJ.cF (fun _=>cX (by assumption)) (fun _ _=>?_) | with_reducible refine bJ.cF (fun _=>cZ (by assumption)) (fun _ _=>?_) | (with_reducible first | refine bJ.rD (fun _ _=>?_) (fun _=>?_) | refine bJ.ite (fun _=>?_) (fun _=>?_) | refine bJ.cC ?_) | with_reducible refine bJ.bW (by (first | rfl | assumption | omega | (simp [cS,room,c9,eY] at *;omega))) ?_ | (with_reducible first | refine bJ.ret ?_ | refine sE.l ?_ | refine sE.r ?_) | (with_reducible show bJ _ _;dsimp only)))
    ·exact ⟨by assumption,by assumption⟩
    ·exact ⟨g1,aO _⟩
   rintro q2 ⟨k2,n2⟩
   refine bJ.call (aLj k2) ?_
   rintro ⟨pl,q3⟩ hq
   dsimp only at hq ⊢
   subst hq
   refine bJ.bW (by (first | rfl | assumption | omega | (simp [cS,room,c9,eY] at *;omega))) (bJ.cC ?_)
   refine bJ.call (aSx (by omega) k2) ?_
   rintro ⟨d,q4⟩ ⟨k4,n4,m4⟩
   have hd:=d.aEj
   dsimp only at k4 n4 m4 ⊢
   refine bJ.bW (by (first | rfl | assumption | omega | (simp [cS,room,c9,eY] at *;omega))) (bJ.cC ?_)
   (repeat' (first | (with_reducible first | refine bJ.bO ?_ | refine bJ.bM ?_ | refine bJ.bL ?_ | refine bJ.dN ?_) | with_reducible refine bJ.eX (by decide) ?_ | with_reducible refine bJ.fC (by decide) ?_ | ((with_reducible first | refine bJ.call (cX (by assumption)) ?_ | refine bJ.dB (by decide) (cX (by assumption)) ?_);rintro _ (⟨rfl,_⟩ | rfl)) | (with_reducible refine bJ.call (e9 (by assumption)) ?_;rintro _ h;(try dsimp only at h);obtain ⟨_,_⟩:=h;try dsimp only) | with_reducible refine bJ.gP (by decide) ?_ | with_reducible refine bJ.cF (fun _=>cX (by assumption)) (fun _ _=>?_) | with_reducible refine bJ.cF (fun _=>cZ (by assumption)) (fun _ _=>?_) | (with_reducible first | refine bJ.rD (fun _ _=>?_) (fun _=>?_) | refine bJ.ite (fun _=>?_) (fun _=>?_) | refine bJ.cC ?_) | with_reducible refine bJ.bW (by (first | rfl | assumption | omega | (simp [cS,room,c9,eY] at *;omega))) ?_ | (with_reducible first | refine bJ.ret ?_ | refine sE.l ?_ | refine sE.r ?_) | (with_reducible show bJ _ _;dsimp only)))
   have hm4:mu q4≤mu q:=by omega
   refine ⟨⟨k4,?_,?_,?_,fun x hx e e2=>?_⟩,?_⟩
   case refine_4 =>
    dsimp only at e2
    rcases bG.1 hx with hx | hx
    ·exact g9 x hx e (by omega)
    ·rw[aQ.1 hx] at e ⊢;exact m4 e e2
   all_goals (try simp only[aE,List.length_cons,List.length_nil,uR,dsz]) <;> (try dsimp only) <;> omega
  ·(repeat' (first | (with_reducible first | refine bJ.bO ?_ | refine bJ.bM ?_ | refine bJ.bL ?_ | refine bJ.dN ?_) | with_reducible refine bJ.eX (by decide) ?_ | with_reducible refine bJ.fC (by decide) ?_ | ((with_reducible first | refine bJ.call (cX (by assumption)) ?_ | refine bJ.dB (by decide) (cX (by assumption)) ?_);rintro _ (⟨rfl,_⟩ | rfl)) | (with_reducible refine bJ.call (e9 (by assumption)) ?_;rintro _ h;(try dsimp only at h);obtain ⟨_,_⟩:=h;try dsimp only) | with_reducible refine bJ.gP (by decide) ?_ | with_reducible refine bJ.cF (fun _=>cX (by assumption)) (fun _ _=>?_) | with_reducible refine bJ.cF (fun _=>cZ (by assumption)) (fun _ _=>?_) | (with_reducible first | refine bJ.rD (fun _ _=>?_) (fun _=>?_) | refine bJ.ite (fun _=>?_) (fun _=>?_) | refine bJ.cC ?_) | with_reducible refine bJ.bW (by (first | rfl | assumption | omega | (simp [cS,room,c9,eY] at *;omega))) ?_ | (with_reducible first | refine bJ.ret ?_ | refine sE.l ?_ | refine sE.r ?_) | (with_reducible show bJ _ _;dsimp only)))
   ·rename_i e2
    intro h0
    have h0:=h0
    dsimp only at h0
    simp [h0] at e2
   ·rename_i e2
    intro _
    dsimp only
    exact ⟨by omega,g3,fun d hd e=>g9 d hd e (by have:=zB (r:=q) (by simpa using e2);omega)⟩
end Go.Proofs.YtdbfbedholdjaaaGreat
