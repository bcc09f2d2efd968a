/- No conditions. -/
import Derived.Test.YtdbfbedholdjaaaGreatGUA
import Derived.Test.YtdbfbedholdjaaaGreatGLs
set_option linter.unusedVariables false
set_option linter.unusedSimpArgs false
set_option linter.unusedSectionVars false
namespace Go.Proofs.YtdbfbedholdjaaaGreat
open Go Go.Dl
variable [dK]
set_option maxRecDepth 100000
set_option maxHeartbeats 8000000
theorem aWS {r:cC} (h:r.iS≠0):mu r=0:=by unfold mu;rw[aF h]
theorem bL.oS {α:Type} {r:cC} {a b:Option α} {Q:α→Prop} (h1:r.iS=0→0<mu r→bL a Q) (h2:mu r=0→bL b Q):bL (if ((r.iS:Int) == 0)=true then a else b) Q :=
 bL.ite (fun e=>h1 (by simpa using e) (wG (by simpa using e))) (fun e=>h2 (aWS (by simpa using e)))
theorem bL.aKy {A T U:Type} {m:Option (A ⊕ T)} {f:T→Option (A ⊕ U)} {p:A→Prop} {q:U→Prop} (I:T→Prop) (h:bL m (sE p I)) (hf:∀ t,I t→bL (f t) (sE p q)):bL (Go.Dl.bP m f) (sE p q):=by
 refine bL.bP (h.yQ ?_)
 rintro (a | t) h
 ·exact h
 ·exact hf t h
abbrev PL (r:cC) (v:List cG × cC):Prop:=Rd v.2∧cG.hG v.1+4 * mu v.2≤4 * mu r
abbrev PS (r:cC) (v:cG × cC):Prop:=Rd v.2∧1≤v.1.sz∧v.1.sz+4 * mu v.2≤4 * (mu r - 1)+4
abbrev PB (r:cC) (v:cG × cC):Prop:=Rd v.2∧1≤v.1.sz∧v.1.sz+4 * mu v.2≤4 * mu r+4
theorem aQh:∀ k:Nat,(∀ (r:cC) (d:Int) (ends:List Bytes),Rd r→ends.length≤10→5 * mu r+300001<k→cR (yK k r d ends) (PL r))∧(∀ (r:cC) (d:Int),Rd r→5 * mu r+300000<k→cR (aLD k r d) (PS r)) ∧
 (∀ (r:cC) (d:Int),Rd r→5 * mu r+300002<k→cR (aLF k r d) (PB r))∧(∀ (r:cC) (d:Int),Rd r→5 * mu r+300002<k→cR (aLG k r d) (PB r)) ∧
 (∀ (r:cC) (d:Int) (s:Bytes),Rd r→5 * mu r+300000<k→cR (aIP k r d s) (PL r))
 | 0=>⟨fun _ _ _ _ _ h=>by omega,fun _ _ _ h=>by omega,fun _ _ _ h=>by omega,fun _ _ _ h=>by omega,fun _ _ _ _ h=>by omega⟩
 | k+1=>by
   obtain ⟨ihL,ihS,ihB,ihC,ihR⟩:=aQh k
   refine ⟨fun r d ends h he hk=>?_,fun r d h hk=>?_,fun r d h hk=>?_,fun r d h hk=>?_,fun r d s h hk=>?_⟩
   ·have hm:=l8 h
    refine cR.of ?_
    unfold yK
    refine bL.aKy (fun q=>Rd q∧mu q≤mu r) ?_ ?_
    ·(repeat' (first | (with_reducible first | refine bL.bO ?_ | refine bL.bP ?_ | refine bL.bN ?_ | refine bL.c7 ?_) | with_reducible refine bL.dV (by decide) ?_ | with_reducible refine bL.dN (by decide) ?_ | (with_reducible refine bL.call (ihS _ _ (by assumption) (by omega)) ?_;rintro ⟨_,_⟩ ⟨_,_⟩;try dsimp only at *) | ((with_reducible first | refine bL.cJ (by decide) (aBv (by omega) (by assumption)) ?_ | refine bL.call (cZ (by assumption)) ?_ | refine bL.call (cX (by assumption)) ?_ | refine bL.cJ (by decide) (cZ (by assumption)) ?_ | refine bL.cJ (by decide) (cX (by assumption)) ?_);rintro _ (⟨rfl,_⟩ | rfl)) | ((with_reducible first | refine bL.call (eU (by assumption)) ?_ | refine bL.call (iP (by assumption) (by decide)) ?_);rintro _ h;(try dsimp only at h);obtain ⟨_,_⟩:=h;try dsimp only) | with_reducible refine bL.fX (by decide) ?_ | with_reducible refine bL.dA (fun _=>cX (by assumption)) (fun _ _=>?_) | with_reducible refine bL.dA (fun _=>cZ (by assumption)) (fun _ _=>?_) | (with_reducible first | refine bL.oS (fun _ _=>?_) (fun _=>?_) | refine bL.ite (fun _=>?_) (fun _=>?_) | refine bL.bX ?_) | with_reducible refine bL.bW (by (first | rfl | assumption | omega | (simp [cY,room,c5,eW] at *;omega))) ?_ | (with_reducible first | refine bL.ret ?_ | refine sE.l ?_ | refine sE.r ?_) | (with_reducible show bL _ _;dsimp only)))
     all_goals try (exact ⟨h,aJ _⟩)
     all_goals
      refine bL.loop (fun t:Bool × Int=>0≤t.2∧t.2≤10) (fun t=>(10 - t.2).toNat) ⟨by simp,by simp⟩ (by simp;omega) ?_
      rintro ⟨g,t⟩ ⟨e1,e2⟩
      dsimp only at e1 e2 ⊢
      (simp (disch:=omega) only[wr,Int.ofNat_eq_natCast])
      (repeat' (first | (with_reducible first | refine bL.bO ?_ | refine bL.bP ?_ | refine bL.bN ?_ | refine bL.c7 ?_) | with_reducible refine bL.dV (by decide) ?_ | with_reducible refine bL.dN (by decide) ?_ | (with_reducible refine bL.call (ihS _ _ (by assumption) (by omega)) ?_;rintro ⟨_,_⟩ ⟨_,_⟩;try dsimp only at *) | ((with_reducible first | refine bL.cJ (by decide) (aBv (by omega) (by assumption)) ?_ | refine bL.call (cZ (by assumption)) ?_ | refine bL.call (cX (by assumption)) ?_ | refine bL.cJ (by decide) (cZ (by assumption)) ?_ | refine bL.cJ (by decide) (cX (by assumption)) ?_);rintro _ (⟨rfl,_⟩ | rfl)) | ((with_reducible first | refine bL.call (eU (by assumption)) ?_ | refine bL.call (iP (by assumption) (by decide)) ?_);rintro _ h;(try dsimp only at h);obtain ⟨_,_⟩:=h;try dsimp only) | with_reducible refine bL.fX (by decide) ?_ | with_reducible refine bL.dA (fun _=>cX (by assumption)) (fun _ _=>?_) | with_reducible refine bL.dA (fun _=>cZ (by assumption)) (fun _ _=>?_) | (with_reducible first | refine bL.oS (fun _ _=>?_) (fun _=>?_) | refine bL.ite (fun _=>?_) (fun _=>?_) | refine bL.bX ?_) | with_reducible refine bL.bW (by (first | rfl | assumption | omega | (simp [cY,room,c5,eW] at *;omega))) ?_ | (with_reducible first | refine bL.ret ?_ | refine sE.l ?_ | refine sE.r ?_) | (with_reducible show bL _ _;dsimp only)))
      all_goals try ((all_goals exact Tq);done)
      all_goals try (exact ⟨h,aJ _⟩)
      all_goals try (rename_i x _ _ _ _ _ _;exact ⟨⟨by dsimp only;omega,by have:=of_decide_eq_true x;dsimp only;omega⟩,by have:=of_decide_eq_true x;dsimp only;omega⟩)
    ·rintro q0 ⟨h0,hm0⟩
     (repeat' (first | (with_reducible first | refine bL.bO ?_ | refine bL.bP ?_ | refine bL.bN ?_ | refine bL.c7 ?_) | with_reducible refine bL.dV (by decide) ?_ | with_reducible refine bL.dN (by decide) ?_ | (with_reducible refine bL.call (ihS _ _ (by assumption) (by omega)) ?_;rintro ⟨_,_⟩ ⟨_,_⟩;try dsimp only at *) | ((with_reducible first | refine bL.cJ (by decide) (aBv (by omega) (by assumption)) ?_ | refine bL.call (cZ (by assumption)) ?_ | refine bL.call (cX (by assumption)) ?_ | refine bL.cJ (by decide) (cZ (by assumption)) ?_ | refine bL.cJ (by decide) (cX (by assumption)) ?_);rintro _ (⟨rfl,_⟩ | rfl)) | ((with_reducible first | refine bL.call (eU (by assumption)) ?_ | refine bL.call (iP (by assumption) (by decide)) ?_);rintro _ h;(try dsimp only at h);obtain ⟨_,_⟩:=h;try dsimp only) | with_reducible refine bL.fX (by decide) ?_ | with_reducible refine bL.dA (fun _=>cX (by assumption)) (fun _ _=>?_) | with_reducible refine bL.dA (fun _=>cZ (by assumption)) (fun _ _=>?_) | (with_reducible first | refine bL.oS (fun _ _=>?_) (fun _=>?_) | refine bL.ite (fun _=>?_) (fun _=>?_) | refine bL.bX ?_) | with_reducible refine bL.bW (by (first | rfl | assumption | omega | (simp [cY,room,c5,eW] at *;omega))) ?_ | (with_reducible first | refine bL.ret ?_ | refine sE.l ?_ | refine sE.r ?_) | (with_reducible show bL _ _;dsimp only)))
     refine bL.loop (fun t:cC × List cG=>Rd t.1∧t.2.length≤cG.hG t.2∧cG.hG t.2+4 * mu t.1≤4 * mu q0) (fun t=>mu t.1) ⟨h0,by simp,by simp [cG.hG]⟩ (by simp;omega) ?_
     rintro ⟨q,l⟩ ⟨g1,g2,g3⟩
     dsimp only at g1 g2 g3 ⊢
     (repeat' (first | (with_reducible first | refine bL.bO ?_ | refine bL.bP ?_ | refine bL.bN ?_ | refine bL.c7 ?_) | with_reducible refine bL.dV (by decide) ?_ | with_reducible refine bL.dN (by decide) ?_ | (with_reducible refine bL.call (ihS _ _ (by assumption) (by omega)) ?_;rintro ⟨_,_⟩ ⟨_,_⟩;try dsimp only at *) | ((with_reducible first | refine bL.cJ (by decide) (aBv (by omega) (by assumption)) ?_ | refine bL.call (cZ (by assumption)) ?_ | refine bL.call (cX (by assumption)) ?_ | refine bL.cJ (by decide) (cZ (by assumption)) ?_ | refine bL.cJ (by decide) (cX (by assumption)) ?_);rintro _ (⟨rfl,_⟩ | rfl)) | ((with_reducible first | refine bL.call (eU (by assumption)) ?_ | refine bL.call (iP (by assumption) (by decide)) ?_);rintro _ h;(try dsimp only at h);obtain ⟨_,_⟩:=h;try dsimp only) | with_reducible refine bL.fX (by decide) ?_ | with_reducible refine bL.dA (fun _=>cX (by assumption)) (fun _ _=>?_) | with_reducible refine bL.dA (fun _=>cZ (by assumption)) (fun _ _=>?_) | (with_reducible first | refine bL.oS (fun _ _=>?_) (fun _=>?_) | refine bL.ite (fun _=>?_) (fun _=>?_) | refine bL.bX ?_) | with_reducible refine bL.bW (by (first | rfl | assumption | omega | (simp [cY,room,c5,eW] at *;omega))) ?_ | (with_reducible first | refine bL.ret ?_ | refine sE.l ?_ | refine sE.r ?_) | (with_reducible show bL _ _;dsimp only)))
     all_goals try ((all_goals exact Tq);done)
   ·have hm:=l8 h
    refine cR.of ?_
    unfold aLD
    (repeat' (first | (with_reducible first | refine bL.bP ?_ | refine bL.bN ?_) | with_reducible refine bL.dV (by decide) ?_ | with_reducible refine bL.dN (by decide) ?_ | ((with_reducible first | refine bL.call (ihC _ _ (by assumption) (by omega)) ?_ | refine bL.call (ihB _ _ (by assumption) (by omega)) ?_ | refine bL.call (aQg (by omega) (by assumption)) ?_ | refine bL.call (aHr (by omega) (by assumption)) ?_ | refine bL.call (oR (by omega) (by assumption)) ?_ | refine bL.call (ihI _ _ _ (by assumption) (by omega)) ?_ | refine bL.call (ihE _ _ (by assumption) (by omega)) ?_ | refine bL.call (oQ (by assumption)) ?_ | refine bL.call (fG (by assumption)) ?_);rintro ⟨_,_⟩ ⟨_,_⟩;try dsimp only at *) | (with_reducible refine bL.call (ihL _ _ _ (by assumption) (by first | assumption | (simp;done)) (by omega)) ?_;rintro ⟨_,_⟩ ⟨_,_⟩;try dsimp only at *) | (with_reducible refine bL.cJ (by decide) (uN (by omega) (by assumption)) ?_;rintro _ (⟨rfl,_⟩ | rfl)) | (with_reducible refine bL.call (eA (by assumption)) ?_;rintro ⟨_,_⟩ h;dsimp only at h;rcases h with (⟨rfl,_,_⟩ | ⟨rfl,rfl⟩) <;> try dsimp only) | (with_reducible refine bL.call (eN (by assumption)) ?_;rintro _ h;(try dsimp only at h);obtain ⟨_,_⟩:=h;try dsimp only) | with_reducible refine bL.fX (by decide) ?_ | with_reducible refine bL.dA (fun _=>cX (by assumption)) (fun _ _=>?_) | with_reducible refine bL.dA (fun _=>cZ (by assumption)) (fun _ _=>?_) | (with_reducible first | refine bL.oS (fun _ _=>?_) (fun _=>?_) | refine bL.ite (fun _=>?_) (fun _=>?_) | refine bL.ret ?_ | refine sE.l ?_ | refine sE.r ?_) | (with_reducible show bL _ _;dsimp only)))
    (all_goals exact Tq)
   ·have hm:=l8 h
    refine cR.of ?_
    unfold aLF
    (repeat' (first | (with_reducible first | refine bL.bP ?_ | refine bL.bN ?_ | refine bL.c7 ?_) | with_reducible refine bL.dV (by decide) ?_ | with_reducible refine bL.dN (by decide) ?_ | ((with_reducible first | refine bL.call (ihR _ _ _ (by assumption) (by omega)) ?_ | refine bL.call (oR (by omega) (by assumption)) ?_ | refine bL.call (ihE _ _ (by assumption) (by omega)) ?_);rintro ⟨_,_⟩ ⟨_,_⟩;try dsimp only at *) | (with_reducible refine bL.call (ihL _ _ _ (by assumption) (by first | assumption | (simp;done)) (by omega)) ?_;rintro ⟨_,_⟩ ⟨_,_⟩;try dsimp only at *) | ((with_reducible first | refine bL.call (cX (by assumption)) ?_ | refine bL.cJ (by decide) (cX (by assumption)) ?_);rintro _ (⟨rfl,_⟩ | rfl)) | ((with_reducible first | refine bL.call (eN (by assumption)) ?_ | refine bL.call (eU (by assumption)) ?_);rintro _ h;(try dsimp only at h);obtain ⟨_,_⟩:=h;try dsimp only) | with_reducible refine bL.fX (by decide) ?_ | with_reducible refine bL.dA (fun _=>cX (by assumption)) (fun _ _=>?_) | with_reducible refine bL.dA (fun _=>cZ (by assumption)) (fun _ _=>?_) | (with_reducible first | refine bL.oS (fun _ _=>?_) (fun _=>?_) | refine bL.ite (fun _=>?_) (fun _=>?_) | refine bL.bX ?_) | with_reducible refine bL.bW (by (first | rfl | assumption | omega | (simp [cY,room,c5,eW] at *;omega))) ?_ | (with_reducible first | refine bL.ret ?_ | refine sE.l ?_ | refine sE.r ?_) | (with_reducible show bL _ _;dsimp only)))
    refine bL.loop (fun t:cC × List cI × List (List cG) × List Bytes=>Rd t.1∧t.2.1.length≤cI.hG t.2.1∧t.2.2.1.length≤cG.j9 t.2.2.1∧t.2.2.2.length≤10∧cI.hG t.2.1+cG.j9 t.2.2.1+4 * mu t.1≤4 * mu r) (fun t=>mu t.1)
     ⟨h,by simp,by simp,by simp,by simp [cI.hG,cG.j9]⟩ (by simp;omega) ?_
    rintro ⟨q,l,b,n⟩ ⟨g1,g2,g3,g4,g5⟩
    dsimp only at g1 g2 g3 g4 g5 ⊢
    (repeat' (first | (with_reducible first | refine bL.bP ?_ | refine bL.bN ?_ | refine bL.c7 ?_) | with_reducible refine bL.dV (by decide) ?_ | with_reducible refine bL.dN (by decide) ?_ | ((with_reducible first | refine bL.call (ihR _ _ _ (by assumption) (by omega)) ?_ | refine bL.call (oR (by omega) (by assumption)) ?_ | refine bL.call (ihE _ _ (by assumption) (by omega)) ?_);rintro ⟨_,_⟩ ⟨_,_⟩;try dsimp only at *) | (with_reducible refine bL.call (ihL _ _ _ (by assumption) (by first | assumption | (simp;done)) (by omega)) ?_;rintro ⟨_,_⟩ ⟨_,_⟩;try dsimp only at *) | ((with_reducible first | refine bL.call (cX (by assumption)) ?_ | refine bL.cJ (by decide) (cX (by assumption)) ?_);rintro _ (⟨rfl,_⟩ | rfl)) | ((with_reducible first | refine bL.call (eN (by assumption)) ?_ | refine bL.call (eU (by assumption)) ?_);rintro _ h;(try dsimp only at h);obtain ⟨_,_⟩:=h;try dsimp only) | with_reducible refine bL.fX (by decide) ?_ | with_reducible refine bL.dA (fun _=>cX (by assumption)) (fun _ _=>?_) | with_reducible refine bL.dA (fun _=>cZ (by assumption)) (fun _ _=>?_) | (with_reducible first | refine bL.oS (fun _ _=>?_) (fun _=>?_) | refine bL.ite (fun _=>?_) (fun _=>?_) | refine bL.bX ?_) | with_reducible refine bL.bW (by (first | rfl | assumption | omega | (simp [cY,room,c5,eW] at *;omega))) ?_ | (with_reducible first | refine bL.ret ?_ | refine sE.l ?_ | refine sE.r ?_) | (with_reducible show bL _ _;dsimp only)))
    (all_goals exact Tq)
   ·have hm:=l8 h
    refine cR.of ?_
    unfold aLG
    (repeat' (first | (with_reducible first | refine bL.bP ?_ | refine bL.bN ?_ | refine bL.c7 ?_) | with_reducible refine bL.dV (by decide) ?_ | with_reducible refine bL.dN (by decide) ?_ | ((with_reducible first | refine bL.call (ihR _ _ _ (by assumption) (by omega)) ?_ | refine bL.call (oR (by omega) (by assumption)) ?_ | refine bL.call (ihE _ _ (by assumption) (by omega)) ?_ | refine bL.call (oQ (by assumption)) ?_);rintro ⟨_,_⟩ ⟨_,_⟩;try dsimp only at *) | (with_reducible refine bL.call (ihL _ _ _ (by assumption) (by first | assumption | (simp;done)) (by omega)) ?_;rintro ⟨_,_⟩ ⟨_,_⟩;try dsimp only at *) | ((with_reducible first | refine bL.call (cZ (by assumption)) ?_ | refine bL.call (cX (by assumption)) ?_ | refine bL.cJ (by decide) (cZ (by assumption)) ?_ | refine bL.cJ (by decide) (cX (by assumption)) ?_);rintro _ (⟨rfl,_⟩ | rfl)) | (with_reducible refine bL.call (eA (by assumption)) ?_;rintro ⟨_,_⟩ h;dsimp only at h;rcases h with (⟨rfl,_,_⟩ | ⟨rfl,rfl⟩) <;> try dsimp only) | ((with_reducible first | refine bL.call (eN (by assumption)) ?_ | refine bL.call (eU (by assumption)) ?_);rintro _ h;(try dsimp only at h);obtain ⟨_,_⟩:=h;try dsimp only) | with_reducible refine bL.fX (by decide) ?_ | with_reducible refine bL.dA (fun _=>cX (by assumption)) (fun _ _=>?_) | with_reducible refine bL.dA (fun _=>cZ (by assumption)) (fun _ _=>?_) | (with_reducible first | refine bL.oS (fun _ _=>?_) (fun _=>?_) | refine bL.ite (fun _=>?_) (fun _=>?_) | refine bL.bX ?_) | with_reducible refine bL.bW (by (first | rfl | assumption | omega | (simp [cY,room,c5,eW] at *;omega))) ?_ | (with_reducible first | refine bL.ret ?_ | refine sE.l ?_ | refine sE.r ?_) | (with_reducible show bL _ _;dsimp only)))
    rename_i x r1 h1 h2 r2 h3 h4
    refine bL.loop (fun t:cC × List (List Int) × List (List cG)=>Rd t.1∧t.2.1.length≤oN t.2.1∧t.2.2.length≤cG.j9 t.2.2∧oN t.2.1+cG.j9 t.2.2+4 * mu t.1≤4 * mu r2) (fun t=>mu t.1)
     ⟨h3,by simp,by simp,by simp [oN,cG.j9]⟩ (by simp;omega) ?_
    rintro ⟨q,l,b⟩ ⟨g1,g2,g3,g4⟩
    dsimp only at g1 g2 g3 g4 ⊢
    (repeat' (first | (with_reducible first | refine bL.bP ?_ | refine bL.bN ?_ | refine bL.c7 ?_) | with_reducible refine bL.dV (by decide) ?_ | with_reducible refine bL.dN (by decide) ?_ | ((with_reducible first | refine bL.call (ihR _ _ _ (by assumption) (by omega)) ?_ | refine bL.call (oR (by omega) (by assumption)) ?_ | refine bL.call (ihE _ _ (by assumption) (by omega)) ?_ | refine bL.call (oQ (by assumption)) ?_);rintro ⟨_,_⟩ ⟨_,_⟩;try dsimp only at *) | (with_reducible refine bL.call (ihL _ _ _ (by assumption) (by first | assumption | (simp;done)) (by omega)) ?_;rintro ⟨_,_⟩ ⟨_,_⟩;try dsimp only at *) | ((with_reducible first | refine bL.call (cZ (by assumption)) ?_ | refine bL.call (cX (by assumption)) ?_ | refine bL.cJ (by decide) (cZ (by assumption)) ?_ | refine bL.cJ (by decide) (cX (by assumption)) ?_);rintro _ (⟨rfl,_⟩ | rfl)) | (with_reducible refine bL.call (eA (by assumption)) ?_;rintro ⟨_,_⟩ h;dsimp only at h;rcases h with (⟨rfl,_,_⟩ | ⟨rfl,rfl⟩) <;> try dsimp only) | ((with_reducible first | refine bL.call (eN (by assumption)) ?_ | refine bL.call (eU (by assumption)) ?_);rintro _ h;(try dsimp only at h);obtain ⟨_,_⟩:=h;try dsimp only) | with_reducible refine bL.fX (by decide) ?_ | with_reducible refine bL.dA (fun _=>cX (by assumption)) (fun _ _=>?_) | with_reducible refine bL.dA (fun _=>cZ (by assumption)) (fun _ _=>?_) | (with_reducible first | refine bL.oS (fun _ _=>?_) (fun _=>?_) | refine bL.ite (fun _=>?_) (fun _=>?_) | refine bL.bX ?_) | with_reducible refine bL.bW (by (first | rfl | assumption | omega | (simp [cY,room,c5,eW] at *;omega))) ?_ | (with_reducible first | refine bL.ret ?_ | refine sE.l ?_ | refine sE.r ?_) | (with_reducible show bL _ _;dsimp only)))
    all_goals try ((all_goals exact Tq);done)
    all_goals
     rename_i f hf1 hf2
     refine bL.loop (fun t:cC × List Int=>Rd t.1∧t.2.length+mu t.1≤mu f) (fun t=>mu t.1) ⟨hf1,by simp⟩ (by simp;omega) ?_
     rintro ⟨q2,l2⟩ ⟨e1,e2⟩
     dsimp only at e1 e2 ⊢
     (repeat' (first | (with_reducible first | refine bL.bP ?_ | refine bL.bN ?_ | refine bL.c7 ?_) | with_reducible refine bL.dV (by decide) ?_ | with_reducible refine bL.dN (by decide) ?_ | ((with_reducible first | refine bL.call (ihR _ _ _ (by assumption) (by omega)) ?_ | refine bL.call (oR (by omega) (by assumption)) ?_ | refine bL.call (ihE _ _ (by assumption) (by omega)) ?_ | refine bL.call (oQ (by assumption)) ?_);rintro ⟨_,_⟩ ⟨_,_⟩;try dsimp only at *) | (with_reducible refine bL.call (ihL _ _ _ (by assumption) (by first | assumption | (simp;done)) (by omega)) ?_;rintro ⟨_,_⟩ ⟨_,_⟩;try dsimp only at *) | ((with_reducible first | refine bL.call (cZ (by assumption)) ?_ | refine bL.call (cX (by assumption)) ?_ | refine bL.cJ (by decide) (cZ (by assumption)) ?_ | refine bL.cJ (by decide) (cX (by assumption)) ?_);rintro _ (⟨rfl,_⟩ | rfl)) | (with_reducible refine bL.call (eA (by assumption)) ?_;rintro ⟨_,_⟩ h;dsimp only at h;rcases h with (⟨rfl,_,_⟩ | ⟨rfl,rfl⟩) <;> try dsimp only) | ((with_reducible first | refine bL.call (eN (by assumption)) ?_ | refine bL.call (eU (by assumption)) ?_);rintro _ h;(try dsimp only at h);obtain ⟨_,_⟩:=h;try dsimp only) | with_reducible refine bL.fX (by decide) ?_ | with_reducible refine bL.dA (fun _=>cX (by assumption)) (fun _ _=>?_) | with_reducible refine bL.dA (fun _=>cZ (by assumption)) (fun _ _=>?_) | (with_reducible first | refine bL.oS (fun _ _=>?_) (fun _=>?_) | refine bL.ite (fun _=>?_) (fun _=>?_) | refine bL.bX ?_) | with_reducible refine bL.bW (by (first | rfl | assumption | omega | (simp [cY,room,c5,eW] at *;omega))) ?_ | (with_reducible first | refine bL.ret ?_ | refine sE.l ?_ | refine sE.r ?_) | (with_reducible show bL _ _;dsimp only)))
     all_goals try ((all_goals exact Tq);done)
   ·have hm:=l8 h
    refine cR.of ?_
    unfold aIP
    (repeat' (first | with_reducible refine bL.dV (by decide) ?_ | with_reducible refine bL.dN (by decide) ?_ | (with_reducible refine bL.call (ihL _ _ _ (by assumption) (by first | assumption | (simp;done)) (by omega)) ?_;rintro ⟨_,_⟩ ⟨_,_⟩;try dsimp only at *) | (with_reducible refine bL.call (eA (by assumption)) ?_;rintro ⟨_,_⟩ h;dsimp only at h;rcases h with (⟨rfl,_,_⟩ | ⟨rfl,rfl⟩) <;> try dsimp only) | with_reducible refine bL.dA (fun _=>cX (by assumption)) (fun _ _=>?_) | with_reducible refine bL.dA (fun _=>cZ (by assumption)) (fun _ _=>?_) | (with_reducible first | refine bL.oS (fun _ _=>?_) (fun _=>?_) | refine bL.ite (fun _=>?_) (fun _=>?_) | refine bL.ret ?_ | refine sE.l ?_ | refine sE.r ?_) | (with_reducible show bL _ _;dsimp only)))
    (all_goals exact Tq)
theorem oT {K:Nat} {r:cC} {d:Int} {ends:List Bytes} (hK:400000<K) (h:Rd r) (he:ends.length≤10):cR (yK K r d ends) (PL r):=(aQh K).1 r d ends h he (by have:=l8 h;omega)
end Go.Proofs.YtdbfbedholdjaaaGreat

namespace Go.Proofs.YtdbfbedholdjaaaGreat
open Go Go.Dl
variable [dK]
set_option maxRecDepth 100000
set_option maxHeartbeats 8000000
theorem wH {K:Nat} {r:cC} {s:Bytes} (h:Rd r):cR (fS K r s) (fun v=>Rd v.2∧mu v.2≤mu r) :=
 (eA h).yQ fun v hv=>by
  rcases hv with ⟨_,h1,h2⟩ | ⟨_,h1⟩
  ·exact ⟨h1,by omega⟩
  ·rw[h1];exact ⟨h,aJ _⟩
theorem aQi {K:Nat} {r:cC} (hK:400000<K) (h:Rd r):cR (aO6 K r) (fun v=>Rd v.2∧v.1.sz+4 * mu v.2≤4 * mu r+1∧(mu v.2≠0→v.1.cD≠[])):=by
 have hm:=l8 h
 refine cR.of ?_
 unfold aO6
 refine bL.call (wH h) ?_;rintro ⟨b1,r1⟩ ⟨h1,m1⟩;dsimp only at h1 m1 ⊢
 refine bL.call (wH h1) ?_;rintro ⟨b2,r2⟩ ⟨h2,m2⟩;dsimp only at h2 m2 ⊢
 refine bL.call (aKx h2) ?_;rintro ⟨nm,r3⟩ ⟨⟨h3,m3⟩,n3⟩;dsimp only at h3 m3 n3 ⊢
 refine bL.call (wH h3) ?_;rintro ⟨b4,r4⟩ ⟨h4,m4⟩;dsimp only at h4 m4 ⊢
 refine bL.aKy (fun u:cC × Bytes=>Rd u.1∧mu u.1≤mu r4) ?_ ?_
 ·(repeat' (first | (with_reducible first | refine bL.bP ?_ | refine bL.bN ?_ | refine bL.c7 ?_) | with_reducible refine bL.dV (by decide) ?_ | with_reducible refine bL.dN (by decide) ?_ | ((with_reducible first | refine bL.call (oT (by omega) (by assumption) (by simp)) ?_ | refine bL.call (mZ (by omega) (by assumption)) ?_ | refine bL.call (mY (by omega) (by assumption)) ?_ | refine bL.call (mX (by omega) (by assumption)) ?_ | refine bL.call (fG (by assumption)) ?_);rintro ⟨_,_⟩ ⟨_,_⟩;try dsimp only at *) | ((with_reducible first | refine bL.call (cZ (by assumption)) ?_ | refine bL.call (cX (by assumption)) ?_ | refine bL.cJ (by decide) (cZ (by assumption)) ?_ | refine bL.cJ (by decide) (cX (by assumption)) ?_);rintro _ (⟨rfl,_⟩ | rfl)) | (with_reducible refine bL.call (eA (by assumption)) ?_;rintro ⟨_,_⟩ h;dsimp only at h;rcases h with (⟨rfl,_,_⟩ | ⟨rfl,rfl⟩) <;> try dsimp only) | ((with_reducible first | refine bL.call (eN (by assumption)) ?_ | refine bL.call (eU (by assumption)) ?_);rintro _ h;(try dsimp only at h);obtain ⟨_,_⟩:=h;try dsimp only) | with_reducible refine bL.fX (by decide) ?_ | with_reducible refine bL.dA (fun _=>cX (by assumption)) (fun _ _=>?_) | with_reducible refine bL.dA (fun _=>cZ (by assumption)) (fun _ _=>?_) | (with_reducible first | refine bL.oS (fun _ _=>?_) (fun _=>?_) | refine bL.ite (fun _=>?_) (fun _=>?_) | refine bL.bX ?_) | with_reducible refine bL.bW (by (first | rfl | assumption | omega | (simp [cY,room,c5,eW] at *;omega))) ?_ | (with_reducible first | refine bL.ret ?_ | refine sE.l ?_ | refine sE.r ?_) | (with_reducible show bL _ _;dsimp only)))
  (all_goals exact Tq)
 rintro ⟨r5,base⟩ ⟨h5,m5⟩
 dsimp only at h5 m5 ⊢
 refine bL.call (wH h5) ?_;rintro ⟨b6,r6⟩ ⟨h6,m6⟩;dsimp only at h6 m6 ⊢
 refine bL.aKy (fun u:cC × List Bytes=>Rd u.1∧u.2.length+mu u.1≤mu r6) ?_ ?_
 ·(repeat' (first | (with_reducible first | refine bL.bP ?_ | refine bL.bN ?_ | refine bL.c7 ?_) | with_reducible refine bL.dV (by decide) ?_ | with_reducible refine bL.dN (by decide) ?_ | ((with_reducible first | refine bL.call (oT (by omega) (by assumption) (by simp)) ?_ | refine bL.call (mZ (by omega) (by assumption)) ?_ | refine bL.call (mY (by omega) (by assumption)) ?_ | refine bL.call (mX (by omega) (by assumption)) ?_ | refine bL.call (fG (by assumption)) ?_);rintro ⟨_,_⟩ ⟨_,_⟩;try dsimp only at *) | ((with_reducible first | refine bL.call (cZ (by assumption)) ?_ | refine bL.call (cX (by assumption)) ?_ | refine bL.cJ (by decide) (cZ (by assumption)) ?_ | refine bL.cJ (by decide) (cX (by assumption)) ?_);rintro _ (⟨rfl,_⟩ | rfl)) | (with_reducible refine bL.call (eA (by assumption)) ?_;rintro ⟨_,_⟩ h;dsimp only at h;rcases h with (⟨rfl,_,_⟩ | ⟨rfl,rfl⟩) <;> try dsimp only) | ((with_reducible first | refine bL.call (eN (by assumption)) ?_ | refine bL.call (eU (by assumption)) ?_);rintro _ h;(try dsimp only at h);obtain ⟨_,_⟩:=h;try dsimp only) | with_reducible refine bL.fX (by decide) ?_ | with_reducible refine bL.dA (fun _=>cX (by assumption)) (fun _ _=>?_) | with_reducible refine bL.dA (fun _=>cZ (by assumption)) (fun _ _=>?_) | (with_reducible first | refine bL.oS (fun _ _=>?_) (fun _=>?_) | refine bL.ite (fun _=>?_) (fun _=>?_) | refine bL.bX ?_) | with_reducible refine bL.bW (by (first | rfl | assumption | omega | (simp [cY,room,c5,eW] at *;omega))) ?_ | (with_reducible first | refine bL.ret ?_ | refine sE.l ?_ | refine sE.r ?_) | (with_reducible show bL _ _;dsimp only)))
  ·refine bL.loop (fun t:cC × List Bytes=>Rd t.1∧t.2.length+mu t.1≤mu r6) (fun t=>mu t.1) ⟨h6,by simp⟩ (by simp;omega) ?_
   rintro ⟨q,l⟩ ⟨g1,g2⟩
   dsimp only at g1 g2 ⊢
   (repeat' (first | (with_reducible first | refine bL.bP ?_ | refine bL.bN ?_ | refine bL.c7 ?_) | with_reducible refine bL.dV (by decide) ?_ | with_reducible refine bL.dN (by decide) ?_ | ((with_reducible first | refine bL.call (oT (by omega) (by assumption) (by simp)) ?_ | refine bL.call (mZ (by omega) (by assumption)) ?_ | refine bL.call (mY (by omega) (by assumption)) ?_ | refine bL.call (mX (by omega) (by assumption)) ?_ | refine bL.call (fG (by assumption)) ?_);rintro ⟨_,_⟩ ⟨_,_⟩;try dsimp only at *) | ((with_reducible first | refine bL.call (cZ (by assumption)) ?_ | refine bL.call (cX (by assumption)) ?_ | refine bL.cJ (by decide) (cZ (by assumption)) ?_ | refine bL.cJ (by decide) (cX (by assumption)) ?_);rintro _ (⟨rfl,_⟩ | rfl)) | (with_reducible refine bL.call (eA (by assumption)) ?_;rintro ⟨_,_⟩ h;dsimp only at h;rcases h with (⟨rfl,_,_⟩ | ⟨rfl,rfl⟩) <;> try dsimp only) | ((with_reducible first | refine bL.call (eN (by assumption)) ?_ | refine bL.call (eU (by assumption)) ?_);rintro _ h;(try dsimp only at h);obtain ⟨_,_⟩:=h;try dsimp only) | with_reducible refine bL.fX (by decide) ?_ | with_reducible refine bL.dA (fun _=>cX (by assumption)) (fun _ _=>?_) | with_reducible refine bL.dA (fun _=>cZ (by assumption)) (fun _ _=>?_) | (with_reducible first | refine bL.oS (fun _ _=>?_) (fun _=>?_) | refine bL.ite (fun _=>?_) (fun _=>?_) | refine bL.bX ?_) | with_reducible refine bL.bW (by (first | rfl | assumption | omega | (simp [cY,room,c5,eW] at *;omega))) ?_ | (with_reducible first | refine bL.ret ?_ | refine sE.l ?_ | refine sE.r ?_) | (with_reducible show bL _ _;dsimp only)))
   (all_goals exact Tq)
  ·exact ⟨h6,by simp⟩
 rintro ⟨r7,fs⟩ ⟨h7,m7⟩
 dsimp only at h7 m7 ⊢
 refine bL.call (eN h7) ?_;rintro r8 ⟨h8,m8⟩
 refine bL.call (mZ (by omega) h8) ?_;rintro ⟨vs,r9⟩ ⟨h9,m9⟩;dsimp only at h9 m9 ⊢
 (repeat' (first | (with_reducible first | refine bL.bP ?_ | refine bL.bN ?_ | refine bL.c7 ?_) | with_reducible refine bL.dV (by decide) ?_ | with_reducible refine bL.dN (by decide) ?_ | ((with_reducible first | refine bL.call (oT (by omega) (by assumption) (by simp)) ?_ | refine bL.call (mZ (by omega) (by assumption)) ?_ | refine bL.call (mY (by omega) (by assumption)) ?_ | refine bL.call (mX (by omega) (by assumption)) ?_ | refine bL.call (fG (by assumption)) ?_);rintro ⟨_,_⟩ ⟨_,_⟩;try dsimp only at *) | ((with_reducible first | refine bL.call (cZ (by assumption)) ?_ | refine bL.call (cX (by assumption)) ?_ | refine bL.cJ (by decide) (cZ (by assumption)) ?_ | refine bL.cJ (by decide) (cX (by assumption)) ?_);rintro _ (⟨rfl,_⟩ | rfl)) | (with_reducible refine bL.call (eA (by assumption)) ?_;rintro ⟨_,_⟩ h;dsimp only at h;rcases h with (⟨rfl,_,_⟩ | ⟨rfl,rfl⟩) <;> try dsimp only) | ((with_reducible first | refine bL.call (eN (by assumption)) ?_ | refine bL.call (eU (by assumption)) ?_);rintro _ h;(try dsimp only at h);obtain ⟨_,_⟩:=h;try dsimp only) | with_reducible refine bL.fX (by decide) ?_ | with_reducible refine bL.dA (fun _=>cX (by assumption)) (fun _ _=>?_) | with_reducible refine bL.dA (fun _=>cZ (by assumption)) (fun _ _=>?_) | (with_reducible first | refine bL.oS (fun _ _=>?_) (fun _=>?_) | refine bL.ite (fun _=>?_) (fun _=>?_) | refine bL.bX ?_) | with_reducible refine bL.bW (by (first | rfl | assumption | omega | (simp [cY,room,c5,eW] at *;omega))) ?_ | (with_reducible first | refine bL.ret ?_ | refine sE.l ?_ | refine sE.r ?_) | (with_reducible show bL _ _;dsimp only)))
 refine bL.loop (fun t:cC × List iT=>Rd t.1∧t.2.length≤wL t.2∧wL t.2+4 * mu t.1≤4 * mu r9) (fun t=>mu t.1) ⟨h9,by simp [wL],by simp [wL]⟩ (by simp;omega) ?_
 rintro ⟨q,l⟩ ⟨g1,g2,g3⟩
 dsimp only at g1 g2 g3 ⊢
 refine bL.cJ (by decide) (cX g1) ?_
 rintro v (⟨e1,e2⟩ | e1) <;> subst e1
 ·refine bL.dV (by decide) ?_
  refine bL.bP (bL.bN ?_)
  refine bL.call (eU g1) ?_;rintro q1 ⟨k1,n1⟩
  refine bL.call (eN k1) ?_;rintro q2 ⟨k2,n2⟩
  refine bL.call (wH k2) ?_;rintro ⟨c1,q3⟩ ⟨k3,n3⟩;dsimp only at k3 n3 ⊢
  refine bL.call (wH k3) ?_;rintro ⟨c2,q4⟩ ⟨k4,n4⟩;dsimp only at k4 n4 ⊢
  refine bL.call (wH k4) ?_;rintro ⟨c3,q5⟩ ⟨k5,n5⟩;dsimp only at k5 n5 ⊢
  (repeat' (first | (with_reducible first | refine bL.bP ?_ | refine bL.bN ?_ | refine bL.c7 ?_) | with_reducible refine bL.dV (by decide) ?_ | with_reducible refine bL.dN (by decide) ?_ | ((with_reducible first | refine bL.call (oT (by omega) (by assumption) (by simp)) ?_ | refine bL.call (mZ (by omega) (by assumption)) ?_ | refine bL.call (mY (by omega) (by assumption)) ?_ | refine bL.call (mX (by omega) (by assumption)) ?_ | refine bL.call (fG (by assumption)) ?_);rintro ⟨_,_⟩ ⟨_,_⟩;try dsimp only at *) | ((with_reducible first | refine bL.call (cZ (by assumption)) ?_ | refine bL.call (cX (by assumption)) ?_ | refine bL.cJ (by decide) (cZ (by assumption)) ?_ | refine bL.cJ (by decide) (cX (by assumption)) ?_);rintro _ (⟨rfl,_⟩ | rfl)) | (with_reducible refine bL.call (eA (by assumption)) ?_;rintro ⟨_,_⟩ h;dsimp only at h;rcases h with (⟨rfl,_,_⟩ | ⟨rfl,rfl⟩) <;> try dsimp only) | ((with_reducible first | refine bL.call (eN (by assumption)) ?_ | refine bL.call (eU (by assumption)) ?_);rintro _ h;(try dsimp only at h);obtain ⟨_,_⟩:=h;try dsimp only) | with_reducible refine bL.fX (by decide) ?_ | with_reducible refine bL.dA (fun _=>cX (by assumption)) (fun _ _=>?_) | with_reducible refine bL.dA (fun _=>cZ (by assumption)) (fun _ _=>?_) | (with_reducible first | refine bL.oS (fun _ _=>?_) (fun _=>?_) | refine bL.ite (fun _=>?_) (fun _=>?_) | refine bL.bX ?_) | with_reducible refine bL.bW (by (first | rfl | assumption | omega | (simp [cY,room,c5,eW] at *;omega))) ?_ | (with_reducible first | refine bL.ret ?_ | refine sE.l ?_ | refine sE.r ?_) | (with_reducible show bL _ _;dsimp only)))
  (all_goals exact Tq)
 ·(repeat' (first | (with_reducible first | refine bL.bP ?_ | refine bL.bN ?_ | refine bL.c7 ?_) | with_reducible refine bL.dV (by decide) ?_ | with_reducible refine bL.dN (by decide) ?_ | ((with_reducible first | refine bL.call (oT (by omega) (by assumption) (by simp)) ?_ | refine bL.call (mZ (by omega) (by assumption)) ?_ | refine bL.call (mY (by omega) (by assumption)) ?_ | refine bL.call (mX (by omega) (by assumption)) ?_ | refine bL.call (fG (by assumption)) ?_);rintro ⟨_,_⟩ ⟨_,_⟩;try dsimp only at *) | ((with_reducible first | refine bL.call (cZ (by assumption)) ?_ | refine bL.call (cX (by assumption)) ?_ | refine bL.cJ (by decide) (cZ (by assumption)) ?_ | refine bL.cJ (by decide) (cX (by assumption)) ?_);rintro _ (⟨rfl,_⟩ | rfl)) | (with_reducible refine bL.call (eA (by assumption)) ?_;rintro ⟨_,_⟩ h;dsimp only at h;rcases h with (⟨rfl,_,_⟩ | ⟨rfl,rfl⟩) <;> try dsimp only) | ((with_reducible first | refine bL.call (eN (by assumption)) ?_ | refine bL.call (eU (by assumption)) ?_);rintro _ h;(try dsimp only at h);obtain ⟨_,_⟩:=h;try dsimp only) | with_reducible refine bL.fX (by decide) ?_ | with_reducible refine bL.dA (fun _=>cX (by assumption)) (fun _ _=>?_) | with_reducible refine bL.dA (fun _=>cZ (by assumption)) (fun _ _=>?_) | (with_reducible first | refine bL.oS (fun _ _=>?_) (fun _=>?_) | refine bL.ite (fun _=>?_) (fun _=>?_) | refine bL.bX ?_) | with_reducible refine bL.bW (by (first | rfl | assumption | omega | (simp [cY,room,c5,eW] at *;omega))) ?_ | (with_reducible first | refine bL.ret ?_ | refine sE.l ?_ | refine sE.r ?_) | (with_reducible show bL _ _;dsimp only)))
  refine ⟨by assumption,by unfold gX.sz;dsimp only;simp only[cG.hG];omega,fun e=>n3 (by dsimp only at e;omega)⟩
theorem gX.aC6 (d:gX):1≤d.sz:=by unfold gX.sz;omega
theorem aS8 {K:Nat} {r:cC} (hK:400000<K) (h:Rd r):cR (F76 K r) (fun v=>Rd v.2∧v.1.sz+4 * mu v.2≤4 * (mu r - 1)+1∧(v.1.bR=2→mu v.2≠0→v.1.cD≠[])):=by
 have hm:=l8 h
 refine cR.of ?_
 unfold F76
 (repeat' (first | (with_reducible first | refine bL.bP ?_ | refine bL.bN ?_) | with_reducible refine bL.dV (by decide) ?_ | with_reducible refine bL.dN (by decide) ?_ | ((with_reducible first | refine bL.call (aQi (by omega) (by assumption)) ?_ | refine bL.call (oT (by omega) (by assumption) (by simp)) ?_ | refine bL.call (aQf (by omega) (by assumption)) ?_ | refine bL.call (mZ (by omega) (by assumption)) ?_ | refine bL.call (qO (by assumption)) ?_ | refine bL.call (fG (by assumption)) ?_);rintro ⟨_,_⟩ ⟨_,_⟩;try dsimp only at *) | (with_reducible refine bL.call (eA (by assumption)) ?_;rintro ⟨_,_⟩ h;dsimp only at h;rcases h with (⟨rfl,_,_⟩ | ⟨rfl,rfl⟩) <;> try dsimp only) | ((with_reducible first | refine bL.call (eN (by assumption)) ?_ | refine bL.call (iP (by assumption) (by decide)) ?_);rintro _ h;(try dsimp only at h);obtain ⟨_,_⟩:=h;try dsimp only) | with_reducible refine bL.dA (fun _=>cX (by assumption)) (fun _ _=>?_) | with_reducible refine bL.dA (fun _=>cZ (by assumption)) (fun _ _=>?_) | (with_reducible first | refine bL.oS (fun _ _=>?_) (fun _=>?_) | refine bL.ite (fun _=>?_) (fun _=>?_) | refine bL.ret ?_ | refine sE.l ?_ | refine sE.r ?_) | (with_reducible show bL _ _;dsimp only)))
 ·rename_i r1 h2 h3 x r2 h4 h5
  exact ⟨h4,by dsimp only;omega,fun e=>by have:=h5.2;dsimp only at e;omega⟩
 ·rename_i r1 h2 h3 x r2 h4 h5
  exact ⟨h4,by dsimp only;have:=h5.1;omega,fun _ e=>h5.2 e⟩
 all_goals refine ⟨by assumption,?_,fun e=>by simp at e⟩
 all_goals (((try simp only[aD,List.length_cons,List.length_nil,cI.sz,cI.hG,mO,cG.sz,cG.hG,cG.j9,tS,pK,oN,qN,iT.sz,wL,uM,gX.sz,yZ,pI]);(try dsimp only);omega))
theorem aS9 {K:Nat} {a0:Bytes} (hK:400000<K):cR (F72 K a0) (fun v=>Rd v.1):=by
 refine cR.of ?_
 unfold F72
 refine bL.call (aP8 (by omega)) (fun v hv=>?_)
 (repeat' (first | (with_reducible first | refine bL.ret ?_ | refine sE.l ?_ | refine sE.r ?_)))
 exact ⟨by simp,by simp,hv.1,hv.2⟩
theorem aSU {K:Nat} {a0:Bytes} (hK:400000<K):cR (F33 K a0) (fun v=>v.2.2.1=0→yZ v.1.bM≤6000∧v.2.1.length=v.1.bM.length∧∀ d∈v.1.bM,d.bR=2→d.cD≠[]):=by
 refine cR.of ?_
 unfold F33
 refine bL.call (aS9 (by omega)) ?_
 rintro ⟨r,c,p⟩ h
 dsimp only at h ⊢
 have hm:=l8 h
 refine bL.ite (fun e=>?_) (fun e=>?_)
 ·(repeat' (first | (with_reducible first | refine bL.bO ?_ | refine bL.bP ?_ | refine bL.bN ?_ | refine bL.c7 ?_) | with_reducible refine bL.dV (by decide) ?_ | with_reducible refine bL.dN (by decide) ?_ | ((with_reducible first | refine bL.call (cX (by assumption)) ?_ | refine bL.cJ (by decide) (cX (by assumption)) ?_);rintro _ (⟨rfl,_⟩ | rfl)) | (with_reducible refine bL.call (eU (by assumption)) ?_;rintro _ h;(try dsimp only at h);obtain ⟨_,_⟩:=h;try dsimp only) | with_reducible refine bL.fX (by decide) ?_ | with_reducible refine bL.dA (fun _=>cX (by assumption)) (fun _ _=>?_) | with_reducible refine bL.dA (fun _=>cZ (by assumption)) (fun _ _=>?_) | (with_reducible first | refine bL.oS (fun _ _=>?_) (fun _=>?_) | refine bL.ite (fun _=>?_) (fun _=>?_) | refine bL.bX ?_) | with_reducible refine bL.bW (by (first | rfl | assumption | omega | (simp [cY,room,c5,eW] at *;omega))) ?_ | (with_reducible first | refine bL.ret ?_ | refine sE.l ?_ | refine sE.r ?_) | (with_reducible show bL _ _;dsimp only)))
  intro h0
  have h0:c=0:=h0
  simp [h0] at e
 ·(repeat' (first | (with_reducible first | refine bL.bO ?_ | refine bL.bP ?_ | refine bL.bN ?_ | refine bL.c7 ?_) | with_reducible refine bL.dV (by decide) ?_ | with_reducible refine bL.dN (by decide) ?_ | ((with_reducible first | refine bL.call (cX (by assumption)) ?_ | refine bL.cJ (by decide) (cX (by assumption)) ?_);rintro _ (⟨rfl,_⟩ | rfl)) | (with_reducible refine bL.call (eU (by assumption)) ?_;rintro _ h;(try dsimp only at h);obtain ⟨_,_⟩:=h;try dsimp only) | with_reducible refine bL.fX (by decide) ?_ | with_reducible refine bL.dA (fun _=>cX (by assumption)) (fun _ _=>?_) | with_reducible refine bL.dA (fun _=>cZ (by assumption)) (fun _ _=>?_) | (with_reducible first | refine bL.oS (fun _ _=>?_) (fun _=>?_) | refine bL.ite (fun _=>?_) (fun _=>?_) | refine bL.bX ?_) | with_reducible refine bL.bW (by (first | rfl | assumption | omega | (simp [cY,room,c5,eW] at *;omega))) ?_ | (with_reducible first | refine bL.ret ?_ | refine sE.l ?_ | refine sE.r ?_) | (with_reducible show bL _ _;dsimp only)))
  refine bL.loop (fun t:cC × List gX × List Int=>Rd t.1∧t.2.1.length≤yZ t.2.1∧t.2.2.length=t.2.1.length∧yZ t.2.1+4 * mu t.1≤4 * mu r∧∀ d∈t.2.1,d.bR=2→mu t.1≠0→d.cD≠[]) (fun t=>mu t.1) ⟨h,by simp [yZ],by simp,by simp [yZ],by simp⟩ (by simp;omega) ?_
  rintro ⟨q,l,pls⟩ ⟨g1,g2,g3,g4,g9⟩
  dsimp only at g1 g2 g3 g4 g9 ⊢
  refine bL.bO (bL.ite (fun e=>?_) (fun e=>?_))
  ·simp only[aC,beq_iff_eq] at e
   have hp:=wG e.2
   refine bL.bP (bL.bN ?_)
   refine bL.cJ (by decide) (cX g1) (fun v1 _=>?_)
   refine bL.dA (fun _=>cX g1) (fun v2 _=>?_)
   refine bL.dA (fun _=>cX g1) (fun v3 _=>?_)
   refine bL.dA (fun _=>cX g1) (fun v4 _=>?_)
   refine bL.aKy (fun u:cC=>Rd u∧mu u≤mu q) ?_ ?_
   ·(repeat' (first | (with_reducible first | refine bL.bO ?_ | refine bL.bP ?_ | refine bL.bN ?_ | refine bL.c7 ?_) | with_reducible refine bL.dV (by decide) ?_ | with_reducible refine bL.dN (by decide) ?_ | ((with_reducible first | refine bL.call (cX (by assumption)) ?_ | refine bL.cJ (by decide) (cX (by assumption)) ?_);rintro _ (⟨rfl,_⟩ | rfl)) | (with_reducible refine bL.call (eU (by assumption)) ?_;rintro _ h;(try dsimp only at h);obtain ⟨_,_⟩:=h;try dsimp only) | with_reducible refine bL.fX (by decide) ?_ | with_reducible refine bL.dA (fun _=>cX (by assumption)) (fun _ _=>?_) | with_reducible refine bL.dA (fun _=>cZ (by assumption)) (fun _ _=>?_) | (with_reducible first | refine bL.oS (fun _ _=>?_) (fun _=>?_) | refine bL.ite (fun _=>?_) (fun _=>?_) | refine bL.bX ?_) | with_reducible refine bL.bW (by (first | rfl | assumption | omega | (simp [cY,room,c5,eW] at *;omega))) ?_ | (with_reducible first | refine bL.ret ?_ | refine sE.l ?_ | refine sE.r ?_) | (with_reducible show bL _ _;dsimp only)))
    ·exact ⟨by assumption,by assumption⟩
    ·exact ⟨g1,aJ _⟩
   rintro q2 ⟨k2,n2⟩
   refine bL.call (aKw k2) ?_
   rintro ⟨pl,q3⟩ hq
   dsimp only at hq ⊢
   subst hq
   refine bL.bW (by (first | rfl | assumption | omega | (simp [cY,room,c5,eW] at *;omega))) (bL.bX ?_)
   refine bL.call (aS8 (by omega) k2) ?_
   rintro ⟨d,q4⟩ ⟨k4,n4,m4⟩
   have hd:=d.aC6
   dsimp only at k4 n4 m4 ⊢
   refine bL.bW (by (first | rfl | assumption | omega | (simp [cY,room,c5,eW] at *;omega))) (bL.bX ?_)
   (repeat' (first | (with_reducible first | refine bL.bO ?_ | refine bL.bP ?_ | refine bL.bN ?_ | refine bL.c7 ?_) | with_reducible refine bL.dV (by decide) ?_ | with_reducible refine bL.dN (by decide) ?_ | ((with_reducible first | refine bL.call (cX (by assumption)) ?_ | refine bL.cJ (by decide) (cX (by assumption)) ?_);rintro _ (⟨rfl,_⟩ | rfl)) | (with_reducible refine bL.call (eU (by assumption)) ?_;rintro _ h;(try dsimp only at h);obtain ⟨_,_⟩:=h;try dsimp only) | with_reducible refine bL.fX (by decide) ?_ | with_reducible refine bL.dA (fun _=>cX (by assumption)) (fun _ _=>?_) | with_reducible refine bL.dA (fun _=>cZ (by assumption)) (fun _ _=>?_) | (with_reducible first | refine bL.oS (fun _ _=>?_) (fun _=>?_) | refine bL.ite (fun _=>?_) (fun _=>?_) | refine bL.bX ?_) | with_reducible refine bL.bW (by (first | rfl | assumption | omega | (simp [cY,room,c5,eW] at *;omega))) ?_ | (with_reducible first | refine bL.ret ?_ | refine sE.l ?_ | refine sE.r ?_) | (with_reducible show bL _ _;dsimp only)))
   have hm4:mu q4≤mu q:=by omega
   refine ⟨⟨k4,?_,?_,?_,fun x hx e e2=>?_⟩,?_⟩
   case refine_4 =>
    dsimp only at e2
    rcases aX.1 hx with hx | hx
    ·exact g9 x hx e (by omega)
    ·rw[aL.1 hx] at e ⊢;exact m4 e e2
   all_goals (try simp only[aD,List.length_cons,List.length_nil,pI,yZ]) <;> (try dsimp only) <;> omega
  ·(repeat' (first | (with_reducible first | refine bL.bO ?_ | refine bL.bP ?_ | refine bL.bN ?_ | refine bL.c7 ?_) | with_reducible refine bL.dV (by decide) ?_ | with_reducible refine bL.dN (by decide) ?_ | ((with_reducible first | refine bL.call (cX (by assumption)) ?_ | refine bL.cJ (by decide) (cX (by assumption)) ?_);rintro _ (⟨rfl,_⟩ | rfl)) | (with_reducible refine bL.call (eU (by assumption)) ?_;rintro _ h;(try dsimp only at h);obtain ⟨_,_⟩:=h;try dsimp only) | with_reducible refine bL.fX (by decide) ?_ | with_reducible refine bL.dA (fun _=>cX (by assumption)) (fun _ _=>?_) | with_reducible refine bL.dA (fun _=>cZ (by assumption)) (fun _ _=>?_) | (with_reducible first | refine bL.oS (fun _ _=>?_) (fun _=>?_) | refine bL.ite (fun _=>?_) (fun _=>?_) | refine bL.bX ?_) | with_reducible refine bL.bW (by (first | rfl | assumption | omega | (simp [cY,room,c5,eW] at *;omega))) ?_ | (with_reducible first | refine bL.ret ?_ | refine sE.l ?_ | refine sE.r ?_) | (with_reducible show bL _ _;dsimp only)))
   ·rename_i e2
    intro h0
    have h0:=h0
    dsimp only at h0
    simp [h0] at e2
   ·rename_i e2
    intro _
    dsimp only
    have hq:=wG (r:=q) (by simpa using e2)
    exact ⟨by omega,g3,fun d hd e=>g9 d hd e (by omega)⟩
end Go.Proofs.YtdbfbedholdjaaaGreat
