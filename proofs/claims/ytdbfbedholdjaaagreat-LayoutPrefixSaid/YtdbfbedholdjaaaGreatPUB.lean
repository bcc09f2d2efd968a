/- No conditions. -/
import Derived.Test.YtdbfbedholdjaaaGreatPUA
import Derived.Test.YtdbfbedholdjaaaGreatPLs
set_option linter.unusedVariables false
set_option linter.unusedSimpArgs false
set_option linter.unusedSectionVars false
namespace Go.Proofs.YtdbfbedholdjaaaGreat
open Go Go.Dl
variable [dW]
set_option maxRecDepth 100000
set_option maxHeartbeats 8000000
theorem aVw {r:cB} (h:r.iL≠0):mu r=0:=by unfold mu;rw[aG h]
theorem bI.rH {α:Type} {r:cB} {a b:Option α} {Q:α→Prop} (h1:r.iL=0→0<mu r→bI a Q) (h2:mu r=0→bI b Q):bI (if ((r.iL:Int) == 0)=true then a else b) Q :=
 bI.ite (fun e=>h1 (by simpa using e) (zH (by simpa using e))) (fun e=>h2 (aVw (by simpa using e)))
theorem bI.aLz {A T U:Type} {m:Option (A ⊕ T)} {f:T→Option (A ⊕ U)} {p:A→Prop} {q:U→Prop} (I:T→Prop) (h:bI m (sE p I)) (hf:∀ t,I t→bI (f t) (sE p q)):bI (Go.Dl.bL m f) (sE p q):=by
 refine bI.bL (h.aAK ?_)
 rintro (a | t) h
 ·exact h
 ·exact hf t h
abbrev PL (r:cB) (v:List cJ × cB):Prop:=Rd v.2∧cJ.jC v.1+4 * mu v.2≤4 * mu r
abbrev PS (r:cB) (v:cJ × cB):Prop:=Rd v.2∧1≤v.1.sz∧v.1.sz+4 * mu v.2≤4 * (mu r - 1)+4
abbrev PB (r:cB) (v:cJ × cB):Prop:=Rd v.2∧1≤v.1.sz∧v.1.sz+4 * mu v.2≤4 * mu r+4
theorem aQg:∀ k:Nat,(∀ (r:cB) (d:Int) (ends:List Bytes),Rd r→ends.length≤10→5 * mu r+300001<k→dA (xV k r d ends) (PL r))∧(∀ (r:cB) (d:Int),Rd r→5 * mu r+300000<k→dA (aMy k r d) (PS r)) ∧
 (∀ (r:cB) (d:Int),Rd r→5 * mu r+300002<k→dA (aMz k r d) (PB r))∧(∀ (r:cB) (d:Int),Rd r→5 * mu r+300002<k→dA (aMA k r d) (PB r)) ∧
 (∀ (r:cB) (d:Int) (s:Bytes),Rd r→5 * mu r+300000<k→dA (aJq k r d s) (PL r))
 | 0=>⟨fun _ _ _ _ _ h=>by omega,fun _ _ _ h=>by omega,fun _ _ _ h=>by omega,fun _ _ _ h=>by omega,fun _ _ _ _ h=>by omega⟩
 | k+1=>by
   obtain ⟨ihL,ihS,ihB,ihC,ihR⟩:=aQg k
   refine ⟨fun r d ends h he hk=>?_,fun r d h hk=>?_,fun r d h hk=>?_,fun r d h hk=>?_,fun r d s h hk=>?_⟩
   ·have hm:=nJ h
    refine dA.of ?_
    unfold xV
    refine bI.aLz (fun q=>Rd q∧mu q≤mu r) ?_ ?_
    ·(repeat' (first | (with_reducible first | refine bI.bN ?_ | refine bI.bL ?_ | refine bI.bJ ?_ | refine bI.dK ?_) | with_reducible refine bI.eR (by decide) ?_ | with_reducible refine bI.eQ (by decide) ?_ | (with_reducible refine bI.call (ihS _ _ (by assumption) (by omega)) ?_;rintro ⟨_,_⟩ ⟨_,_⟩;try dsimp only at *) | ((with_reducible first | refine bI.cX (by decide) (aCS (by omega) (by assumption)) ?_ | refine bI.call (c7 (by assumption)) ?_ | refine bI.call (c5 (by assumption)) ?_ | refine bI.cX (by decide) (c7 (by assumption)) ?_ | refine bI.cX (by decide) (c5 (by assumption)) ?_);rintro _ (⟨rfl,_⟩ | rfl)) | ((with_reducible first | refine bI.call (e8 (by assumption)) ?_ | refine bI.call (jW (by assumption) (by decide)) ?_);rintro _ h;(try dsimp only at h);obtain ⟨_,_⟩:=h;try dsimp only) | with_reducible refine bI.gL (by decide) ?_ | with_reducible refine bI.cG (fun _=>c5 (by assumption)) (fun _ _=>?_) | with_reducible refine bI.cG (fun _=>c7 (by assumption)) (fun _ _=>?_) | (with_reducible first | refine bI.rH (fun _ _=>?_) (fun _=>?_) | refine bI.ite (fun _=>?_) (fun _=>?_) | refine bI.cD ?_) | with_reducible refine bI.bW (by (first | rfl | assumption | omega | (simp [cS,room,cW,eX] at *;omega))) ?_ | (with_reducible first | refine bI.ret ?_ | refine sE.l ?_ | refine sE.r ?_) | (with_reducible show bI _ _;dsimp only)))
     all_goals try (exact ⟨h,aQ _⟩)
     all_goals
      refine bI.loop (fun t:Bool × Int=>0≤t.2∧t.2≤10) (fun t=>(10 - t.2).toNat) ⟨by simp,by simp⟩ (by simp;omega) ?_
      rintro ⟨g,t⟩ ⟨e1,e2⟩
      dsimp only at e1 e2 ⊢
      (simp (disch:=omega) only[wr,Int.ofNat_eq_natCast])
      (repeat' (first | (with_reducible first | refine bI.bN ?_ | refine bI.bL ?_ | refine bI.bJ ?_ | refine bI.dK ?_) | with_reducible refine bI.eR (by decide) ?_ | with_reducible refine bI.eQ (by decide) ?_ | (with_reducible refine bI.call (ihS _ _ (by assumption) (by omega)) ?_;rintro ⟨_,_⟩ ⟨_,_⟩;try dsimp only at *) | ((with_reducible first | refine bI.cX (by decide) (aCS (by omega) (by assumption)) ?_ | refine bI.call (c7 (by assumption)) ?_ | refine bI.call (c5 (by assumption)) ?_ | refine bI.cX (by decide) (c7 (by assumption)) ?_ | refine bI.cX (by decide) (c5 (by assumption)) ?_);rintro _ (⟨rfl,_⟩ | rfl)) | ((with_reducible first | refine bI.call (e8 (by assumption)) ?_ | refine bI.call (jW (by assumption) (by decide)) ?_);rintro _ h;(try dsimp only at h);obtain ⟨_,_⟩:=h;try dsimp only) | with_reducible refine bI.gL (by decide) ?_ | with_reducible refine bI.cG (fun _=>c5 (by assumption)) (fun _ _=>?_) | with_reducible refine bI.cG (fun _=>c7 (by assumption)) (fun _ _=>?_) | (with_reducible first | refine bI.rH (fun _ _=>?_) (fun _=>?_) | refine bI.ite (fun _=>?_) (fun _=>?_) | refine bI.cD ?_) | with_reducible refine bI.bW (by (first | rfl | assumption | omega | (simp [cS,room,cW,eX] at *;omega))) ?_ | (with_reducible first | refine bI.ret ?_ | refine sE.l ?_ | refine sE.r ?_) | (with_reducible show bI _ _;dsimp only)))
      all_goals try ((all_goals exact Tq);done)
      all_goals try (exact ⟨h,aQ _⟩)
      all_goals try (rename_i x _ _ _ _ _ _;exact ⟨⟨by dsimp only;omega,by have:=of_decide_eq_true x;dsimp only;omega⟩,by have:=of_decide_eq_true x;dsimp only;omega⟩)
    ·rintro q0 ⟨h0,hm0⟩
     (repeat' (first | (with_reducible first | refine bI.bN ?_ | refine bI.bL ?_ | refine bI.bJ ?_ | refine bI.dK ?_) | with_reducible refine bI.eR (by decide) ?_ | with_reducible refine bI.eQ (by decide) ?_ | (with_reducible refine bI.call (ihS _ _ (by assumption) (by omega)) ?_;rintro ⟨_,_⟩ ⟨_,_⟩;try dsimp only at *) | ((with_reducible first | refine bI.cX (by decide) (aCS (by omega) (by assumption)) ?_ | refine bI.call (c7 (by assumption)) ?_ | refine bI.call (c5 (by assumption)) ?_ | refine bI.cX (by decide) (c7 (by assumption)) ?_ | refine bI.cX (by decide) (c5 (by assumption)) ?_);rintro _ (⟨rfl,_⟩ | rfl)) | ((with_reducible first | refine bI.call (e8 (by assumption)) ?_ | refine bI.call (jW (by assumption) (by decide)) ?_);rintro _ h;(try dsimp only at h);obtain ⟨_,_⟩:=h;try dsimp only) | with_reducible refine bI.gL (by decide) ?_ | with_reducible refine bI.cG (fun _=>c5 (by assumption)) (fun _ _=>?_) | with_reducible refine bI.cG (fun _=>c7 (by assumption)) (fun _ _=>?_) | (with_reducible first | refine bI.rH (fun _ _=>?_) (fun _=>?_) | refine bI.ite (fun _=>?_) (fun _=>?_) | refine bI.cD ?_) | with_reducible refine bI.bW (by (first | rfl | assumption | omega | (simp [cS,room,cW,eX] at *;omega))) ?_ | (with_reducible first | refine bI.ret ?_ | refine sE.l ?_ | refine sE.r ?_) | (with_reducible show bI _ _;dsimp only)))
     refine bI.loop (fun t:cB × List cJ=>Rd t.1∧t.2.length≤cJ.jC t.2∧cJ.jC t.2+4 * mu t.1≤4 * mu q0) (fun t=>mu t.1) ⟨h0,by simp,by simp [cJ.jC]⟩ (by simp;omega) ?_
     rintro ⟨q,l⟩ ⟨g1,g2,g3⟩
     dsimp only at g1 g2 g3 ⊢
     (repeat' (first | (with_reducible first | refine bI.bN ?_ | refine bI.bL ?_ | refine bI.bJ ?_ | refine bI.dK ?_) | with_reducible refine bI.eR (by decide) ?_ | with_reducible refine bI.eQ (by decide) ?_ | (with_reducible refine bI.call (ihS _ _ (by assumption) (by omega)) ?_;rintro ⟨_,_⟩ ⟨_,_⟩;try dsimp only at *) | ((with_reducible first | refine bI.cX (by decide) (aCS (by omega) (by assumption)) ?_ | refine bI.call (c7 (by assumption)) ?_ | refine bI.call (c5 (by assumption)) ?_ | refine bI.cX (by decide) (c7 (by assumption)) ?_ | refine bI.cX (by decide) (c5 (by assumption)) ?_);rintro _ (⟨rfl,_⟩ | rfl)) | ((with_reducible first | refine bI.call (e8 (by assumption)) ?_ | refine bI.call (jW (by assumption) (by decide)) ?_);rintro _ h;(try dsimp only at h);obtain ⟨_,_⟩:=h;try dsimp only) | with_reducible refine bI.gL (by decide) ?_ | with_reducible refine bI.cG (fun _=>c5 (by assumption)) (fun _ _=>?_) | with_reducible refine bI.cG (fun _=>c7 (by assumption)) (fun _ _=>?_) | (with_reducible first | refine bI.rH (fun _ _=>?_) (fun _=>?_) | refine bI.ite (fun _=>?_) (fun _=>?_) | refine bI.cD ?_) | with_reducible refine bI.bW (by (first | rfl | assumption | omega | (simp [cS,room,cW,eX] at *;omega))) ?_ | (with_reducible first | refine bI.ret ?_ | refine sE.l ?_ | refine sE.r ?_) | (with_reducible show bI _ _;dsimp only)))
     all_goals try ((all_goals exact Tq);done)
   ·have hm:=nJ h
    refine dA.of ?_
    unfold aMy
    (repeat' (first | (with_reducible first | refine bI.bL ?_ | refine bI.bJ ?_) | with_reducible refine bI.eR (by decide) ?_ | with_reducible refine bI.eQ (by decide) ?_ | ((with_reducible first | refine bI.call (ihC _ _ (by assumption) (by omega)) ?_ | refine bI.call (ihB _ _ (by assumption) (by omega)) ?_ | refine bI.call (aQf (by omega) (by assumption)) ?_ | refine bI.call (aIb (by omega) (by assumption)) ?_ | refine bI.call (rG (by omega) (by assumption)) ?_ | refine bI.call (ihI _ _ _ (by assumption) (by omega)) ?_ | refine bI.call (ihE _ _ (by assumption) (by omega)) ?_ | refine bI.call (rF (by assumption)) ?_ | refine bI.call (fO (by assumption)) ?_);rintro ⟨_,_⟩ ⟨_,_⟩;try dsimp only at *) | (with_reducible refine bI.call (ihL _ _ _ (by assumption) (by first | assumption | (simp;done)) (by omega)) ?_;rintro ⟨_,_⟩ ⟨_,_⟩;try dsimp only at *) | (with_reducible refine bI.cX (by decide) (xN (by omega) (by assumption)) ?_;rintro _ (⟨rfl,_⟩ | rfl)) | (with_reducible refine bI.call (eD (by assumption)) ?_;rintro ⟨_,_⟩ h;dsimp only at h;rcases h with (⟨rfl,_,_⟩ | ⟨rfl,rfl⟩) <;> try dsimp only) | (with_reducible refine bI.call (eP (by assumption)) ?_;rintro _ h;(try dsimp only at h);obtain ⟨_,_⟩:=h;try dsimp only) | with_reducible refine bI.gL (by decide) ?_ | with_reducible refine bI.cG (fun _=>c5 (by assumption)) (fun _ _=>?_) | with_reducible refine bI.cG (fun _=>c7 (by assumption)) (fun _ _=>?_) | (with_reducible first | refine bI.rH (fun _ _=>?_) (fun _=>?_) | refine bI.ite (fun _=>?_) (fun _=>?_) | refine bI.ret ?_ | refine sE.l ?_ | refine sE.r ?_) | (with_reducible show bI _ _;dsimp only)))
    (all_goals exact Tq)
   ·have hm:=nJ h
    refine dA.of ?_
    unfold aMz
    (repeat' (first | (with_reducible first | refine bI.bL ?_ | refine bI.bJ ?_ | refine bI.dK ?_) | with_reducible refine bI.eR (by decide) ?_ | with_reducible refine bI.eQ (by decide) ?_ | ((with_reducible first | refine bI.call (ihR _ _ _ (by assumption) (by omega)) ?_ | refine bI.call (rG (by omega) (by assumption)) ?_ | refine bI.call (ihE _ _ (by assumption) (by omega)) ?_);rintro ⟨_,_⟩ ⟨_,_⟩;try dsimp only at *) | (with_reducible refine bI.call (ihL _ _ _ (by assumption) (by first | assumption | (simp;done)) (by omega)) ?_;rintro ⟨_,_⟩ ⟨_,_⟩;try dsimp only at *) | ((with_reducible first | refine bI.call (c5 (by assumption)) ?_ | refine bI.cX (by decide) (c5 (by assumption)) ?_);rintro _ (⟨rfl,_⟩ | rfl)) | ((with_reducible first | refine bI.call (eP (by assumption)) ?_ | refine bI.call (e8 (by assumption)) ?_);rintro _ h;(try dsimp only at h);obtain ⟨_,_⟩:=h;try dsimp only) | with_reducible refine bI.gL (by decide) ?_ | with_reducible refine bI.cG (fun _=>c5 (by assumption)) (fun _ _=>?_) | with_reducible refine bI.cG (fun _=>c7 (by assumption)) (fun _ _=>?_) | (with_reducible first | refine bI.rH (fun _ _=>?_) (fun _=>?_) | refine bI.ite (fun _=>?_) (fun _=>?_) | refine bI.cD ?_) | with_reducible refine bI.bW (by (first | rfl | assumption | omega | (simp [cS,room,cW,eX] at *;omega))) ?_ | (with_reducible first | refine bI.ret ?_ | refine sE.l ?_ | refine sE.r ?_) | (with_reducible show bI _ _;dsimp only)))
    refine bI.loop (fun t:cB × List cL × List (List cJ) × List Bytes=>Rd t.1∧t.2.1.length≤cL.jC t.2.1∧t.2.2.1.length≤cJ.lQ t.2.2.1∧t.2.2.2.length≤10∧cL.jC t.2.1+cJ.lQ t.2.2.1+4 * mu t.1≤4 * mu r) (fun t=>mu t.1)
     ⟨h,by simp,by simp,by simp,by simp [cL.jC,cJ.lQ]⟩ (by simp;omega) ?_
    rintro ⟨q,l,b,n⟩ ⟨g1,g2,g3,g4,g5⟩
    dsimp only at g1 g2 g3 g4 g5 ⊢
    (repeat' (first | (with_reducible first | refine bI.bL ?_ | refine bI.bJ ?_ | refine bI.dK ?_) | with_reducible refine bI.eR (by decide) ?_ | with_reducible refine bI.eQ (by decide) ?_ | ((with_reducible first | refine bI.call (ihR _ _ _ (by assumption) (by omega)) ?_ | refine bI.call (rG (by omega) (by assumption)) ?_ | refine bI.call (ihE _ _ (by assumption) (by omega)) ?_);rintro ⟨_,_⟩ ⟨_,_⟩;try dsimp only at *) | (with_reducible refine bI.call (ihL _ _ _ (by assumption) (by first | assumption | (simp;done)) (by omega)) ?_;rintro ⟨_,_⟩ ⟨_,_⟩;try dsimp only at *) | ((with_reducible first | refine bI.call (c5 (by assumption)) ?_ | refine bI.cX (by decide) (c5 (by assumption)) ?_);rintro _ (⟨rfl,_⟩ | rfl)) | ((with_reducible first | refine bI.call (eP (by assumption)) ?_ | refine bI.call (e8 (by assumption)) ?_);rintro _ h;(try dsimp only at h);obtain ⟨_,_⟩:=h;try dsimp only) | with_reducible refine bI.gL (by decide) ?_ | with_reducible refine bI.cG (fun _=>c5 (by assumption)) (fun _ _=>?_) | with_reducible refine bI.cG (fun _=>c7 (by assumption)) (fun _ _=>?_) | (with_reducible first | refine bI.rH (fun _ _=>?_) (fun _=>?_) | refine bI.ite (fun _=>?_) (fun _=>?_) | refine bI.cD ?_) | with_reducible refine bI.bW (by (first | rfl | assumption | omega | (simp [cS,room,cW,eX] at *;omega))) ?_ | (with_reducible first | refine bI.ret ?_ | refine sE.l ?_ | refine sE.r ?_) | (with_reducible show bI _ _;dsimp only)))
    (all_goals exact Tq)
   ·have hm:=nJ h
    refine dA.of ?_
    unfold aMA
    (repeat' (first | (with_reducible first | refine bI.bL ?_ | refine bI.bJ ?_ | refine bI.dK ?_) | with_reducible refine bI.eR (by decide) ?_ | with_reducible refine bI.eQ (by decide) ?_ | ((with_reducible first | refine bI.call (ihR _ _ _ (by assumption) (by omega)) ?_ | refine bI.call (rG (by omega) (by assumption)) ?_ | refine bI.call (ihE _ _ (by assumption) (by omega)) ?_ | refine bI.call (rF (by assumption)) ?_);rintro ⟨_,_⟩ ⟨_,_⟩;try dsimp only at *) | (with_reducible refine bI.call (ihL _ _ _ (by assumption) (by first | assumption | (simp;done)) (by omega)) ?_;rintro ⟨_,_⟩ ⟨_,_⟩;try dsimp only at *) | ((with_reducible first | refine bI.call (c7 (by assumption)) ?_ | refine bI.call (c5 (by assumption)) ?_ | refine bI.cX (by decide) (c7 (by assumption)) ?_ | refine bI.cX (by decide) (c5 (by assumption)) ?_);rintro _ (⟨rfl,_⟩ | rfl)) | (with_reducible refine bI.call (eD (by assumption)) ?_;rintro ⟨_,_⟩ h;dsimp only at h;rcases h with (⟨rfl,_,_⟩ | ⟨rfl,rfl⟩) <;> try dsimp only) | ((with_reducible first | refine bI.call (eP (by assumption)) ?_ | refine bI.call (e8 (by assumption)) ?_);rintro _ h;(try dsimp only at h);obtain ⟨_,_⟩:=h;try dsimp only) | with_reducible refine bI.gL (by decide) ?_ | with_reducible refine bI.cG (fun _=>c5 (by assumption)) (fun _ _=>?_) | with_reducible refine bI.cG (fun _=>c7 (by assumption)) (fun _ _=>?_) | (with_reducible first | refine bI.rH (fun _ _=>?_) (fun _=>?_) | refine bI.ite (fun _=>?_) (fun _=>?_) | refine bI.cD ?_) | with_reducible refine bI.bW (by (first | rfl | assumption | omega | (simp [cS,room,cW,eX] at *;omega))) ?_ | (with_reducible first | refine bI.ret ?_ | refine sE.l ?_ | refine sE.r ?_) | (with_reducible show bI _ _;dsimp only)))
    rename_i x r1 h1 h2 r2 h3 h4
    refine bI.loop (fun t:cB × List (List Int) × List (List cJ)=>Rd t.1∧t.2.1.length≤rB t.2.1∧t.2.2.length≤cJ.lQ t.2.2∧rB t.2.1+cJ.lQ t.2.2+4 * mu t.1≤4 * mu r2) (fun t=>mu t.1)
     ⟨h3,by simp,by simp,by simp [rB,cJ.lQ]⟩ (by simp;omega) ?_
    rintro ⟨q,l,b⟩ ⟨g1,g2,g3,g4⟩
    dsimp only at g1 g2 g3 g4 ⊢
    (repeat' (first | (with_reducible first | refine bI.bL ?_ | refine bI.bJ ?_ | refine bI.dK ?_) | with_reducible refine bI.eR (by decide) ?_ | with_reducible refine bI.eQ (by decide) ?_ | ((with_reducible first | refine bI.call (ihR _ _ _ (by assumption) (by omega)) ?_ | refine bI.call (rG (by omega) (by assumption)) ?_ | refine bI.call (ihE _ _ (by assumption) (by omega)) ?_ | refine bI.call (rF (by assumption)) ?_);rintro ⟨_,_⟩ ⟨_,_⟩;try dsimp only at *) | (with_reducible refine bI.call (ihL _ _ _ (by assumption) (by first | assumption | (simp;done)) (by omega)) ?_;rintro ⟨_,_⟩ ⟨_,_⟩;try dsimp only at *) | ((with_reducible first | refine bI.call (c7 (by assumption)) ?_ | refine bI.call (c5 (by assumption)) ?_ | refine bI.cX (by decide) (c7 (by assumption)) ?_ | refine bI.cX (by decide) (c5 (by assumption)) ?_);rintro _ (⟨rfl,_⟩ | rfl)) | (with_reducible refine bI.call (eD (by assumption)) ?_;rintro ⟨_,_⟩ h;dsimp only at h;rcases h with (⟨rfl,_,_⟩ | ⟨rfl,rfl⟩) <;> try dsimp only) | ((with_reducible first | refine bI.call (eP (by assumption)) ?_ | refine bI.call (e8 (by assumption)) ?_);rintro _ h;(try dsimp only at h);obtain ⟨_,_⟩:=h;try dsimp only) | with_reducible refine bI.gL (by decide) ?_ | with_reducible refine bI.cG (fun _=>c5 (by assumption)) (fun _ _=>?_) | with_reducible refine bI.cG (fun _=>c7 (by assumption)) (fun _ _=>?_) | (with_reducible first | refine bI.rH (fun _ _=>?_) (fun _=>?_) | refine bI.ite (fun _=>?_) (fun _=>?_) | refine bI.cD ?_) | with_reducible refine bI.bW (by (first | rfl | assumption | omega | (simp [cS,room,cW,eX] at *;omega))) ?_ | (with_reducible first | refine bI.ret ?_ | refine sE.l ?_ | refine sE.r ?_) | (with_reducible show bI _ _;dsimp only)))
    all_goals try ((all_goals exact Tq);done)
    all_goals
     rename_i f hf1 hf2
     refine bI.loop (fun t:cB × List Int=>Rd t.1∧t.2.length+mu t.1≤mu f) (fun t=>mu t.1) ⟨hf1,by simp⟩ (by simp;omega) ?_
     rintro ⟨q2,l2⟩ ⟨e1,e2⟩
     dsimp only at e1 e2 ⊢
     (repeat' (first | (with_reducible first | refine bI.bL ?_ | refine bI.bJ ?_ | refine bI.dK ?_) | with_reducible refine bI.eR (by decide) ?_ | with_reducible refine bI.eQ (by decide) ?_ | ((with_reducible first | refine bI.call (ihR _ _ _ (by assumption) (by omega)) ?_ | refine bI.call (rG (by omega) (by assumption)) ?_ | refine bI.call (ihE _ _ (by assumption) (by omega)) ?_ | refine bI.call (rF (by assumption)) ?_);rintro ⟨_,_⟩ ⟨_,_⟩;try dsimp only at *) | (with_reducible refine bI.call (ihL _ _ _ (by assumption) (by first | assumption | (simp;done)) (by omega)) ?_;rintro ⟨_,_⟩ ⟨_,_⟩;try dsimp only at *) | ((with_reducible first | refine bI.call (c7 (by assumption)) ?_ | refine bI.call (c5 (by assumption)) ?_ | refine bI.cX (by decide) (c7 (by assumption)) ?_ | refine bI.cX (by decide) (c5 (by assumption)) ?_);rintro _ (⟨rfl,_⟩ | rfl)) | (with_reducible refine bI.call (eD (by assumption)) ?_;rintro ⟨_,_⟩ h;dsimp only at h;rcases h with (⟨rfl,_,_⟩ | ⟨rfl,rfl⟩) <;> try dsimp only) | ((with_reducible first | refine bI.call (eP (by assumption)) ?_ | refine bI.call (e8 (by assumption)) ?_);rintro _ h;(try dsimp only at h);obtain ⟨_,_⟩:=h;try dsimp only) | with_reducible refine bI.gL (by decide) ?_ | with_reducible refine bI.cG (fun _=>c5 (by assumption)) (fun _ _=>?_) | with_reducible refine bI.cG (fun _=>c7 (by assumption)) (fun _ _=>?_) | (with_reducible first | refine bI.rH (fun _ _=>?_) (fun _=>?_) | refine bI.ite (fun _=>?_) (fun _=>?_) | refine bI.cD ?_) | with_reducible refine bI.bW (by (first | rfl | assumption | omega | (simp [cS,room,cW,eX] at *;omega))) ?_ | (with_reducible first | refine bI.ret ?_ | refine sE.l ?_ | refine sE.r ?_) | (with_reducible show bI _ _;dsimp only)))
     all_goals try ((all_goals exact Tq);done)
   ·have hm:=nJ h
    refine dA.of ?_
    unfold aJq
    (repeat' (first | with_reducible refine bI.eR (by decide) ?_ | with_reducible refine bI.eQ (by decide) ?_ | (with_reducible refine bI.call (ihL _ _ _ (by assumption) (by first | assumption | (simp;done)) (by omega)) ?_;rintro ⟨_,_⟩ ⟨_,_⟩;try dsimp only at *) | (with_reducible refine bI.call (eD (by assumption)) ?_;rintro ⟨_,_⟩ h;dsimp only at h;rcases h with (⟨rfl,_,_⟩ | ⟨rfl,rfl⟩) <;> try dsimp only) | with_reducible refine bI.cG (fun _=>c5 (by assumption)) (fun _ _=>?_) | with_reducible refine bI.cG (fun _=>c7 (by assumption)) (fun _ _=>?_) | (with_reducible first | refine bI.rH (fun _ _=>?_) (fun _=>?_) | refine bI.ite (fun _=>?_) (fun _=>?_) | refine bI.ret ?_ | refine sE.l ?_ | refine sE.r ?_) | (with_reducible show bI _ _;dsimp only)))
    (all_goals exact Tq)
theorem rI {K:Nat} {r:cB} {d:Int} {ends:List Bytes} (hK:400000<K) (h:Rd r) (he:ends.length≤10):dA (xV K r d ends) (PL r):=(aQg K).1 r d ends h he (by have:=nJ h;omega)
end Go.Proofs.YtdbfbedholdjaaaGreat

namespace Go.Proofs.YtdbfbedholdjaaaGreat
open Go Go.Dl
variable [dW]
set_option maxRecDepth 100000
set_option maxHeartbeats 8000000
theorem zI {K:Nat} {r:cB} {s:Bytes} (h:Rd r):dA (fZ K r s) (fun v=>Rd v.2∧mu v.2≤mu r) :=
 (eD h).aAK fun v hv=>by
  rcases hv with ⟨_,h1,h2⟩ | ⟨_,h1⟩
  ·exact ⟨h1,by omega⟩
  ·rw[h1];exact ⟨h,aQ _⟩
theorem aQh {K:Nat} {r:cB} (hK:400000<K) (h:Rd r):dA (aPe K r) (fun v=>Rd v.2∧v.1.sz+4 * mu v.2≤4 * mu r+1∧(mu v.2≠0→v.1.cC≠[])):=by
 have hm:=nJ h
 refine dA.of ?_
 unfold aPe
 refine bI.call (zI h) ?_;rintro ⟨b1,r1⟩ ⟨h1,m1⟩;dsimp only at h1 m1 ⊢
 refine bI.call (zI h1) ?_;rintro ⟨b2,r2⟩ ⟨h2,m2⟩;dsimp only at h2 m2 ⊢
 refine bI.call (aLy h2) ?_;rintro ⟨nm,r3⟩ ⟨⟨h3,m3⟩,n3⟩;dsimp only at h3 m3 n3 ⊢
 refine bI.call (zI h3) ?_;rintro ⟨b4,r4⟩ ⟨h4,m4⟩;dsimp only at h4 m4 ⊢
 refine bI.aLz (fun u:cB × Bytes=>Rd u.1∧mu u.1≤mu r4) ?_ ?_
 ·(repeat' (first | (with_reducible first | refine bI.bL ?_ | refine bI.bJ ?_ | refine bI.dK ?_) | with_reducible refine bI.eR (by decide) ?_ | with_reducible refine bI.eQ (by decide) ?_ | ((with_reducible first | refine bI.call (rI (by omega) (by assumption) (by simp)) ?_ | refine bI.call (oP (by omega) (by assumption)) ?_ | refine bI.call (oO (by omega) (by assumption)) ?_ | refine bI.call (oN (by omega) (by assumption)) ?_ | refine bI.call (fO (by assumption)) ?_);rintro ⟨_,_⟩ ⟨_,_⟩;try dsimp only at *) | ((with_reducible first | refine bI.call (c7 (by assumption)) ?_ | refine bI.call (c5 (by assumption)) ?_ | refine bI.cX (by decide) (c7 (by assumption)) ?_ | refine bI.cX (by decide) (c5 (by assumption)) ?_);rintro _ (⟨rfl,_⟩ | rfl)) | (with_reducible refine bI.call (eD (by assumption)) ?_;rintro ⟨_,_⟩ h;dsimp only at h;rcases h with (⟨rfl,_,_⟩ | ⟨rfl,rfl⟩) <;> try dsimp only) | ((with_reducible first | refine bI.call (eP (by assumption)) ?_ | refine bI.call (e8 (by assumption)) ?_);rintro _ h;(try dsimp only at h);obtain ⟨_,_⟩:=h;try dsimp only) | with_reducible refine bI.gL (by decide) ?_ | with_reducible refine bI.cG (fun _=>c5 (by assumption)) (fun _ _=>?_) | with_reducible refine bI.cG (fun _=>c7 (by assumption)) (fun _ _=>?_) | (with_reducible first | refine bI.rH (fun _ _=>?_) (fun _=>?_) | refine bI.ite (fun _=>?_) (fun _=>?_) | refine bI.cD ?_) | with_reducible refine bI.bW (by (first | rfl | assumption | omega | (simp [cS,room,cW,eX] at *;omega))) ?_ | (with_reducible first | refine bI.ret ?_ | refine sE.l ?_ | refine sE.r ?_) | (with_reducible show bI _ _;dsimp only)))
  (all_goals exact Tq)
 rintro ⟨r5,base⟩ ⟨h5,m5⟩
 dsimp only at h5 m5 ⊢
 refine bI.call (zI h5) ?_;rintro ⟨b6,r6⟩ ⟨h6,m6⟩;dsimp only at h6 m6 ⊢
 refine bI.aLz (fun u:cB × List Bytes=>Rd u.1∧u.2.length+mu u.1≤mu r6) ?_ ?_
 ·(repeat' (first | (with_reducible first | refine bI.bL ?_ | refine bI.bJ ?_ | refine bI.dK ?_) | with_reducible refine bI.eR (by decide) ?_ | with_reducible refine bI.eQ (by decide) ?_ | ((with_reducible first | refine bI.call (rI (by omega) (by assumption) (by simp)) ?_ | refine bI.call (oP (by omega) (by assumption)) ?_ | refine bI.call (oO (by omega) (by assumption)) ?_ | refine bI.call (oN (by omega) (by assumption)) ?_ | refine bI.call (fO (by assumption)) ?_);rintro ⟨_,_⟩ ⟨_,_⟩;try dsimp only at *) | ((with_reducible first | refine bI.call (c7 (by assumption)) ?_ | refine bI.call (c5 (by assumption)) ?_ | refine bI.cX (by decide) (c7 (by assumption)) ?_ | refine bI.cX (by decide) (c5 (by assumption)) ?_);rintro _ (⟨rfl,_⟩ | rfl)) | (with_reducible refine bI.call (eD (by assumption)) ?_;rintro ⟨_,_⟩ h;dsimp only at h;rcases h with (⟨rfl,_,_⟩ | ⟨rfl,rfl⟩) <;> try dsimp only) | ((with_reducible first | refine bI.call (eP (by assumption)) ?_ | refine bI.call (e8 (by assumption)) ?_);rintro _ h;(try dsimp only at h);obtain ⟨_,_⟩:=h;try dsimp only) | with_reducible refine bI.gL (by decide) ?_ | with_reducible refine bI.cG (fun _=>c5 (by assumption)) (fun _ _=>?_) | with_reducible refine bI.cG (fun _=>c7 (by assumption)) (fun _ _=>?_) | (with_reducible first | refine bI.rH (fun _ _=>?_) (fun _=>?_) | refine bI.ite (fun _=>?_) (fun _=>?_) | refine bI.cD ?_) | with_reducible refine bI.bW (by (first | rfl | assumption | omega | (simp [cS,room,cW,eX] at *;omega))) ?_ | (with_reducible first | refine bI.ret ?_ | refine sE.l ?_ | refine sE.r ?_) | (with_reducible show bI _ _;dsimp only)))
  ·refine bI.loop (fun t:cB × List Bytes=>Rd t.1∧t.2.length+mu t.1≤mu r6) (fun t=>mu t.1) ⟨h6,by simp⟩ (by simp;omega) ?_
   rintro ⟨q,l⟩ ⟨g1,g2⟩
   dsimp only at g1 g2 ⊢
   (repeat' (first | (with_reducible first | refine bI.bL ?_ | refine bI.bJ ?_ | refine bI.dK ?_) | with_reducible refine bI.eR (by decide) ?_ | with_reducible refine bI.eQ (by decide) ?_ | ((with_reducible first | refine bI.call (rI (by omega) (by assumption) (by simp)) ?_ | refine bI.call (oP (by omega) (by assumption)) ?_ | refine bI.call (oO (by omega) (by assumption)) ?_ | refine bI.call (oN (by omega) (by assumption)) ?_ | refine bI.call (fO (by assumption)) ?_);rintro ⟨_,_⟩ ⟨_,_⟩;try dsimp only at *) | ((with_reducible first | refine bI.call (c7 (by assumption)) ?_ | refine bI.call (c5 (by assumption)) ?_ | refine bI.cX (by decide) (c7 (by assumption)) ?_ | refine bI.cX (by decide) (c5 (by assumption)) ?_);rintro _ (⟨rfl,_⟩ | rfl)) | (with_reducible refine bI.call (eD (by assumption)) ?_;rintro ⟨_,_⟩ h;dsimp only at h;rcases h with (⟨rfl,_,_⟩ | ⟨rfl,rfl⟩) <;> try dsimp only) | ((with_reducible first | refine bI.call (eP (by assumption)) ?_ | refine bI.call (e8 (by assumption)) ?_);rintro _ h;(try dsimp only at h);obtain ⟨_,_⟩:=h;try dsimp only) | with_reducible refine bI.gL (by decide) ?_ | with_reducible refine bI.cG (fun _=>c5 (by assumption)) (fun _ _=>?_) | with_reducible refine bI.cG (fun _=>c7 (by assumption)) (fun _ _=>?_) | (with_reducible first | refine bI.rH (fun _ _=>?_) (fun _=>?_) | refine bI.ite (fun _=>?_) (fun _=>?_) | refine bI.cD ?_) | with_reducible refine bI.bW (by (first | rfl | assumption | omega | (simp [cS,room,cW,eX] at *;omega))) ?_ | (with_reducible first | refine bI.ret ?_ | refine sE.l ?_ | refine sE.r ?_) | (with_reducible show bI _ _;dsimp only)))
   (all_goals exact Tq)
  ·exact ⟨h6,by simp⟩
 rintro ⟨r7,fs⟩ ⟨h7,m7⟩
 dsimp only at h7 m7 ⊢
 refine bI.call (eP h7) ?_;rintro r8 ⟨h8,m8⟩
 refine bI.call (oP (by omega) h8) ?_;rintro ⟨vs,r9⟩ ⟨h9,m9⟩;dsimp only at h9 m9 ⊢
 (repeat' (first | (with_reducible first | refine bI.bL ?_ | refine bI.bJ ?_ | refine bI.dK ?_) | with_reducible refine bI.eR (by decide) ?_ | with_reducible refine bI.eQ (by decide) ?_ | ((with_reducible first | refine bI.call (rI (by omega) (by assumption) (by simp)) ?_ | refine bI.call (oP (by omega) (by assumption)) ?_ | refine bI.call (oO (by omega) (by assumption)) ?_ | refine bI.call (oN (by omega) (by assumption)) ?_ | refine bI.call (fO (by assumption)) ?_);rintro ⟨_,_⟩ ⟨_,_⟩;try dsimp only at *) | ((with_reducible first | refine bI.call (c7 (by assumption)) ?_ | refine bI.call (c5 (by assumption)) ?_ | refine bI.cX (by decide) (c7 (by assumption)) ?_ | refine bI.cX (by decide) (c5 (by assumption)) ?_);rintro _ (⟨rfl,_⟩ | rfl)) | (with_reducible refine bI.call (eD (by assumption)) ?_;rintro ⟨_,_⟩ h;dsimp only at h;rcases h with (⟨rfl,_,_⟩ | ⟨rfl,rfl⟩) <;> try dsimp only) | ((with_reducible first | refine bI.call (eP (by assumption)) ?_ | refine bI.call (e8 (by assumption)) ?_);rintro _ h;(try dsimp only at h);obtain ⟨_,_⟩:=h;try dsimp only) | with_reducible refine bI.gL (by decide) ?_ | with_reducible refine bI.cG (fun _=>c5 (by assumption)) (fun _ _=>?_) | with_reducible refine bI.cG (fun _=>c7 (by assumption)) (fun _ _=>?_) | (with_reducible first | refine bI.rH (fun _ _=>?_) (fun _=>?_) | refine bI.ite (fun _=>?_) (fun _=>?_) | refine bI.cD ?_) | with_reducible refine bI.bW (by (first | rfl | assumption | omega | (simp [cS,room,cW,eX] at *;omega))) ?_ | (with_reducible first | refine bI.ret ?_ | refine sE.l ?_ | refine sE.r ?_) | (with_reducible show bI _ _;dsimp only)))
 refine bI.loop (fun t:cB × List hU=>Rd t.1∧t.2.length≤zM t.2∧zM t.2+4 * mu t.1≤4 * mu r9) (fun t=>mu t.1) ⟨h9,by simp [zM],by simp [zM]⟩ (by simp;omega) ?_
 rintro ⟨q,l⟩ ⟨g1,g2,g3⟩
 dsimp only at g1 g2 g3 ⊢
 refine bI.cX (by decide) (c5 g1) ?_
 rintro v (⟨e1,e2⟩ | e1) <;> subst e1
 ·refine bI.eR (by decide) ?_
  refine bI.bL (bI.bJ ?_)
  refine bI.call (e8 g1) ?_;rintro q1 ⟨k1,n1⟩
  refine bI.call (eP k1) ?_;rintro q2 ⟨k2,n2⟩
  refine bI.call (zI k2) ?_;rintro ⟨c1,q3⟩ ⟨k3,n3⟩;dsimp only at k3 n3 ⊢
  refine bI.call (zI k3) ?_;rintro ⟨c2,q4⟩ ⟨k4,n4⟩;dsimp only at k4 n4 ⊢
  refine bI.call (zI k4) ?_;rintro ⟨c3,q5⟩ ⟨k5,n5⟩;dsimp only at k5 n5 ⊢
  (repeat' (first | (with_reducible first | refine bI.bL ?_ | refine bI.bJ ?_ | refine bI.dK ?_) | with_reducible refine bI.eR (by decide) ?_ | with_reducible refine bI.eQ (by decide) ?_ | ((with_reducible first | refine bI.call (rI (by omega) (by assumption) (by simp)) ?_ | refine bI.call (oP (by omega) (by assumption)) ?_ | refine bI.call (oO (by omega) (by assumption)) ?_ | refine bI.call (oN (by omega) (by assumption)) ?_ | refine bI.call (fO (by assumption)) ?_);rintro ⟨_,_⟩ ⟨_,_⟩;try dsimp only at *) | ((with_reducible first | refine bI.call (c7 (by assumption)) ?_ | refine bI.call (c5 (by assumption)) ?_ | refine bI.cX (by decide) (c7 (by assumption)) ?_ | refine bI.cX (by decide) (c5 (by assumption)) ?_);rintro _ (⟨rfl,_⟩ | rfl)) | (with_reducible refine bI.call (eD (by assumption)) ?_;rintro ⟨_,_⟩ h;dsimp only at h;rcases h with (⟨rfl,_,_⟩ | ⟨rfl,rfl⟩) <;> try dsimp only) | ((with_reducible first | refine bI.call (eP (by assumption)) ?_ | refine bI.call (e8 (by assumption)) ?_);rintro _ h;(try dsimp only at h);obtain ⟨_,_⟩:=h;try dsimp only) | with_reducible refine bI.gL (by decide) ?_ | with_reducible refine bI.cG (fun _=>c5 (by assumption)) (fun _ _=>?_) | with_reducible refine bI.cG (fun _=>c7 (by assumption)) (fun _ _=>?_) | (with_reducible first | refine bI.rH (fun _ _=>?_) (fun _=>?_) | refine bI.ite (fun _=>?_) (fun _=>?_) | refine bI.cD ?_) | with_reducible refine bI.bW (by (first | rfl | assumption | omega | (simp [cS,room,cW,eX] at *;omega))) ?_ | (with_reducible first | refine bI.ret ?_ | refine sE.l ?_ | refine sE.r ?_) | (with_reducible show bI _ _;dsimp only)))
  (all_goals exact Tq)
 ·(repeat' (first | (with_reducible first | refine bI.bL ?_ | refine bI.bJ ?_ | refine bI.dK ?_) | with_reducible refine bI.eR (by decide) ?_ | with_reducible refine bI.eQ (by decide) ?_ | ((with_reducible first | refine bI.call (rI (by omega) (by assumption) (by simp)) ?_ | refine bI.call (oP (by omega) (by assumption)) ?_ | refine bI.call (oO (by omega) (by assumption)) ?_ | refine bI.call (oN (by omega) (by assumption)) ?_ | refine bI.call (fO (by assumption)) ?_);rintro ⟨_,_⟩ ⟨_,_⟩;try dsimp only at *) | ((with_reducible first | refine bI.call (c7 (by assumption)) ?_ | refine bI.call (c5 (by assumption)) ?_ | refine bI.cX (by decide) (c7 (by assumption)) ?_ | refine bI.cX (by decide) (c5 (by assumption)) ?_);rintro _ (⟨rfl,_⟩ | rfl)) | (with_reducible refine bI.call (eD (by assumption)) ?_;rintro ⟨_,_⟩ h;dsimp only at h;rcases h with (⟨rfl,_,_⟩ | ⟨rfl,rfl⟩) <;> try dsimp only) | ((with_reducible first | refine bI.call (eP (by assumption)) ?_ | refine bI.call (e8 (by assumption)) ?_);rintro _ h;(try dsimp only at h);obtain ⟨_,_⟩:=h;try dsimp only) | with_reducible refine bI.gL (by decide) ?_ | with_reducible refine bI.cG (fun _=>c5 (by assumption)) (fun _ _=>?_) | with_reducible refine bI.cG (fun _=>c7 (by assumption)) (fun _ _=>?_) | (with_reducible first | refine bI.rH (fun _ _=>?_) (fun _=>?_) | refine bI.ite (fun _=>?_) (fun _=>?_) | refine bI.cD ?_) | with_reducible refine bI.bW (by (first | rfl | assumption | omega | (simp [cS,room,cW,eX] at *;omega))) ?_ | (with_reducible first | refine bI.ret ?_ | refine sE.l ?_ | refine sE.r ?_) | (with_reducible show bI _ _;dsimp only)))
  refine ⟨by assumption,by unfold jG.sz;dsimp only;simp only[cJ.jC];omega,fun e=>n3 (by dsimp only at e;omega)⟩
theorem jG.aEq (d:jG):1≤d.sz:=by unfold jG.sz;omega
theorem aSM {K:Nat} {r:cB} (hK:400000<K) (h:Rd r):dA (F76 K r) (fun v=>Rd v.2∧v.1.sz+4 * mu v.2≤4 * (mu r - 1)+1∧(v.1.bP=2→mu v.2≠0→v.1.cC≠[])):=by
 have hm:=nJ h
 refine dA.of ?_
 unfold F76
 (repeat' (first | (with_reducible first | refine bI.bL ?_ | refine bI.bJ ?_) | with_reducible refine bI.eR (by decide) ?_ | with_reducible refine bI.eQ (by decide) ?_ | ((with_reducible first | refine bI.call (aQh (by omega) (by assumption)) ?_ | refine bI.call (rI (by omega) (by assumption) (by simp)) ?_ | refine bI.call (aQe (by omega) (by assumption)) ?_ | refine bI.call (oP (by omega) (by assumption)) ?_ | refine bI.call (tU (by assumption)) ?_ | refine bI.call (fO (by assumption)) ?_);rintro ⟨_,_⟩ ⟨_,_⟩;try dsimp only at *) | (with_reducible refine bI.call (eD (by assumption)) ?_;rintro ⟨_,_⟩ h;dsimp only at h;rcases h with (⟨rfl,_,_⟩ | ⟨rfl,rfl⟩) <;> try dsimp only) | ((with_reducible first | refine bI.call (eP (by assumption)) ?_ | refine bI.call (jW (by assumption) (by decide)) ?_);rintro _ h;(try dsimp only at h);obtain ⟨_,_⟩:=h;try dsimp only) | with_reducible refine bI.cG (fun _=>c5 (by assumption)) (fun _ _=>?_) | with_reducible refine bI.cG (fun _=>c7 (by assumption)) (fun _ _=>?_) | (with_reducible first | refine bI.rH (fun _ _=>?_) (fun _=>?_) | refine bI.ite (fun _=>?_) (fun _=>?_) | refine bI.ret ?_ | refine sE.l ?_ | refine sE.r ?_) | (with_reducible show bI _ _;dsimp only)))
 ·rename_i r1 h2 h3 x r2 h4 h5
  exact ⟨h4,by dsimp only;omega,fun e=>by have:=h5.2;dsimp only at e;omega⟩
 ·rename_i r1 h2 h3 x r2 h4 h5
  exact ⟨h4,by dsimp only;have:=h5.1;omega,fun _ e=>h5.2 e⟩
 all_goals refine ⟨by assumption,?_,fun e=>by simp at e⟩
 all_goals (((try simp only[aE,List.length_cons,List.length_nil,cL.sz,cL.jC,oD,cJ.sz,cJ.jC,cJ.lQ,w5,sJ,rB,tT,hU.sz,zM,xM,jG.sz,dsz,uS]);(try dsimp only);omega))
theorem aSN {K:Nat} {a0:Bytes} (hK:400000<K):dA (F72 K a0) (fun v=>Rd v.1):=by
 refine dA.of ?_
 unfold F72
 refine bI.call (aP7 (by omega)) (fun v hv=>?_)
 (repeat' (first | (with_reducible first | refine bI.ret ?_ | refine sE.l ?_ | refine sE.r ?_)))
 exact ⟨by simp,by simp,hv.1,hv.2⟩
theorem aSw {K:Nat} {a0:Bytes} (hK:400000<K):dA (F33 K a0) (fun v=>v.2.2.1=0→dsz v.1.bK≤6004∧v.2.1.length=v.1.bK.length∧∀ d∈v.1.bK,d.bP=2→d.cC≠[]):=by
 refine dA.of ?_
 unfold F33
 refine bI.call (aSN (by omega)) ?_
 rintro ⟨r,c,p⟩ h
 dsimp only at h ⊢
 have hm:=nJ h
 refine bI.ite (fun e=>?_) (fun e=>?_)
 ·(repeat' (first | (with_reducible first | refine bI.bN ?_ | refine bI.bL ?_ | refine bI.bJ ?_ | refine bI.dK ?_) | with_reducible refine bI.eR (by decide) ?_ | with_reducible refine bI.eQ (by decide) ?_ | ((with_reducible first | refine bI.call (c5 (by assumption)) ?_ | refine bI.cX (by decide) (c5 (by assumption)) ?_);rintro _ (⟨rfl,_⟩ | rfl)) | (with_reducible refine bI.call (e8 (by assumption)) ?_;rintro _ h;(try dsimp only at h);obtain ⟨_,_⟩:=h;try dsimp only) | with_reducible refine bI.gL (by decide) ?_ | with_reducible refine bI.cG (fun _=>c5 (by assumption)) (fun _ _=>?_) | with_reducible refine bI.cG (fun _=>c7 (by assumption)) (fun _ _=>?_) | (with_reducible first | refine bI.rH (fun _ _=>?_) (fun _=>?_) | refine bI.ite (fun _=>?_) (fun _=>?_) | refine bI.cD ?_) | with_reducible refine bI.bW (by (first | rfl | assumption | omega | (simp [cS,room,cW,eX] at *;omega))) ?_ | (with_reducible first | refine bI.ret ?_ | refine sE.l ?_ | refine sE.r ?_) | (with_reducible show bI _ _;dsimp only)))
  intro h0
  have h0:c=0:=h0
  simp [h0] at e
 ·(repeat' (first | (with_reducible first | refine bI.bN ?_ | refine bI.bL ?_ | refine bI.bJ ?_ | refine bI.dK ?_) | with_reducible refine bI.eR (by decide) ?_ | with_reducible refine bI.eQ (by decide) ?_ | ((with_reducible first | refine bI.call (c5 (by assumption)) ?_ | refine bI.cX (by decide) (c5 (by assumption)) ?_);rintro _ (⟨rfl,_⟩ | rfl)) | (with_reducible refine bI.call (e8 (by assumption)) ?_;rintro _ h;(try dsimp only at h);obtain ⟨_,_⟩:=h;try dsimp only) | with_reducible refine bI.gL (by decide) ?_ | with_reducible refine bI.cG (fun _=>c5 (by assumption)) (fun _ _=>?_) | with_reducible refine bI.cG (fun _=>c7 (by assumption)) (fun _ _=>?_) | (with_reducible first | refine bI.rH (fun _ _=>?_) (fun _=>?_) | refine bI.ite (fun _=>?_) (fun _=>?_) | refine bI.cD ?_) | with_reducible refine bI.bW (by (first | rfl | assumption | omega | (simp [cS,room,cW,eX] at *;omega))) ?_ | (with_reducible first | refine bI.ret ?_ | refine sE.l ?_ | refine sE.r ?_) | (with_reducible show bI _ _;dsimp only)))
  refine bI.loop (fun t:cB × List jG × List Int=>Rd t.1∧t.2.1.length≤dsz t.2.1∧t.2.2.length=t.2.1.length∧dsz t.2.1+4 * mu t.1≤4 * mu r∧∀ d∈t.2.1,d.bP=2→mu t.1≠0→d.cC≠[]) (fun t=>mu t.1) ⟨h,by simp [dsz],by simp,by simp [dsz],by simp⟩ (by simp;omega) ?_
  rintro ⟨q,l,pls⟩ ⟨g1,g2,g3,g4,g9⟩
  dsimp only at g1 g2 g3 g4 g9 ⊢
  refine bI.bN (bI.ite (fun e=>?_) (fun e=>?_))
  ·simp only[aC,beq_iff_eq] at e
   have hp:=zH e.2
   refine bI.bL (bI.bJ ?_)
   refine bI.cX (by decide) (c5 g1) (fun v1 _=>?_)
   refine bI.cG (fun _=>c5 g1) (fun v2 _=>?_)
   refine bI.cG (fun _=>c5 g1) (fun v3 _=>?_)
   refine bI.cG (fun _=>c5 g1) (fun v4 _=>?_)
   refine bI.aLz (fun u:cB=>Rd u∧mu u≤mu q) ?_ ?_
   ·(repeat' (first | (with_reducible first | refine bI.bN ?_ | refine bI.bL ?_ | refine bI.bJ ?_ | refine bI.dK ?_) | with_reducible refine bI.eR (by decide) ?_ | with_reducible refine bI.eQ (by decide) ?_ | ((with_reducible first | refine bI.call (c5 (by assumption)) ?_ | refine bI.cX (by decide) (c5 (by assumption)) ?_);rintro _ (⟨rfl,_⟩ | rfl)) | (with_reducible refine bI.call (e8 (by assumption)) ?_;rintro _ h;(try dsimp only at h);obtain ⟨_,_⟩:=h;try dsimp only) | with_reducible refine bI.gL (by decide) ?_ | with_reducible refine bI.cG (fun _=>c5 (by assumption)) (fun _ _=>?_) | with_reducible refine bI.cG (fun _=>c7 (by assumption)) (fun _ _=>?_) | (with_reducible first | refine bI.rH (fun _ _=>?_) (fun _=>?_) | refine bI.ite (fun _=>?_) (fun _=>?_) | refine bI.cD ?_) | with_reducible refine bI.bW (by (first | rfl | assumption | omega | (simp [cS,room,cW,eX] at *;omega))) ?_ | (with_reducible first | refine bI.ret ?_ | refine sE.l ?_ | refine sE.r ?_) | (with_reducible show bI _ _;dsimp only)))
    ·exact ⟨by assumption,by assumption⟩
    ·exact ⟨g1,aQ _⟩
   rintro q2 ⟨k2,n2⟩
   refine bI.call (aLx k2) ?_
   rintro ⟨pl,q3⟩ hq
   dsimp only at hq ⊢
   subst hq
   refine bI.bW (by (first | rfl | assumption | omega | (simp [cS,room,cW,eX] at *;omega))) (bI.cD ?_)
   refine bI.call (aSM (by omega) k2) ?_
   rintro ⟨d,q4⟩ ⟨k4,n4,m4⟩
   have hd:=d.aEq
   dsimp only at k4 n4 m4 ⊢
   refine bI.bW (by (first | rfl | assumption | omega | (simp [cS,room,cW,eX] at *;omega))) (bI.cD ?_)
   (repeat' (first | (with_reducible first | refine bI.bN ?_ | refine bI.bL ?_ | refine bI.bJ ?_ | refine bI.dK ?_) | with_reducible refine bI.eR (by decide) ?_ | with_reducible refine bI.eQ (by decide) ?_ | ((with_reducible first | refine bI.call (c5 (by assumption)) ?_ | refine bI.cX (by decide) (c5 (by assumption)) ?_);rintro _ (⟨rfl,_⟩ | rfl)) | (with_reducible refine bI.call (e8 (by assumption)) ?_;rintro _ h;(try dsimp only at h);obtain ⟨_,_⟩:=h;try dsimp only) | with_reducible refine bI.gL (by decide) ?_ | with_reducible refine bI.cG (fun _=>c5 (by assumption)) (fun _ _=>?_) | with_reducible refine bI.cG (fun _=>c7 (by assumption)) (fun _ _=>?_) | (with_reducible first | refine bI.rH (fun _ _=>?_) (fun _=>?_) | refine bI.ite (fun _=>?_) (fun _=>?_) | refine bI.cD ?_) | with_reducible refine bI.bW (by (first | rfl | assumption | omega | (simp [cS,room,cW,eX] at *;omega))) ?_ | (with_reducible first | refine bI.ret ?_ | refine sE.l ?_ | refine sE.r ?_) | (with_reducible show bI _ _;dsimp only)))
   have hm4:mu q4≤mu q:=by omega
   refine ⟨⟨k4,?_,?_,?_,fun x hx e e2=>?_⟩,?_⟩
   case refine_4 =>
    dsimp only at e2
    rcases aY.1 hx with hx | hx
    ·exact g9 x hx e (by omega)
    ·rw[aO.1 hx] at e ⊢;exact m4 e e2
   all_goals (try simp only[aE,List.length_cons,List.length_nil,uS,dsz]) <;> (try dsimp only) <;> omega
  ·(repeat' (first | (with_reducible first | refine bI.bN ?_ | refine bI.bL ?_ | refine bI.bJ ?_ | refine bI.dK ?_) | with_reducible refine bI.eR (by decide) ?_ | with_reducible refine bI.eQ (by decide) ?_ | ((with_reducible first | refine bI.call (c5 (by assumption)) ?_ | refine bI.cX (by decide) (c5 (by assumption)) ?_);rintro _ (⟨rfl,_⟩ | rfl)) | (with_reducible refine bI.call (e8 (by assumption)) ?_;rintro _ h;(try dsimp only at h);obtain ⟨_,_⟩:=h;try dsimp only) | with_reducible refine bI.gL (by decide) ?_ | with_reducible refine bI.cG (fun _=>c5 (by assumption)) (fun _ _=>?_) | with_reducible refine bI.cG (fun _=>c7 (by assumption)) (fun _ _=>?_) | (with_reducible first | refine bI.rH (fun _ _=>?_) (fun _=>?_) | refine bI.ite (fun _=>?_) (fun _=>?_) | refine bI.cD ?_) | with_reducible refine bI.bW (by (first | rfl | assumption | omega | (simp [cS,room,cW,eX] at *;omega))) ?_ | (with_reducible first | refine bI.ret ?_ | refine sE.l ?_ | refine sE.r ?_) | (with_reducible show bI _ _;dsimp only)))
   ·rename_i e2
    intro h0
    have h0:=h0
    dsimp only at h0
    simp [h0] at e2
   ·rename_i e2
    intro _
    dsimp only
    exact ⟨by omega,g3,fun d hd e=>g9 d hd e (by have:=zH (r:=q) (by simpa using e2);omega)⟩
end Go.Proofs.YtdbfbedholdjaaaGreat
