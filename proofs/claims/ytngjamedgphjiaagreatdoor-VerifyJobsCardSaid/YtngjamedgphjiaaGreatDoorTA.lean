/- A calculus of plain functions that answer: `Tot m Q` (m is something of which Q), rules by the shape of m. The checks of sizes and letters answer. The checks of classes, tables and things answer. The checks of tables and things answer. No conditions. -/
import Derived.Test.YtngjamedgphjiaaGreatDoorVf
set_option linter.unusedVariables false
set_option linter.unusedSimpArgs false
set_option linter.unusedSectionVars false
namespace Go.Proofs.YtngjamedgphjiaaGreatDoor
open Go Go.Dl
set_option maxRecDepth 100000
def Tot {α : Type} (m : Option α) (Q : α → Prop) : Prop := ∃ z, m = some z ∧ Q z
def sE {A T : Type} (p : A → Prop) (q : T → Prop) : A ⊕ T → Prop
  | .inl a => p a
  | .inr t => q t
def Ret {R : Type} (m : Option (R ⊕ R)) (Q : R → Prop) : Prop := ∃ v, fnS m = some v ∧ Q v
section
variable {A T U R X Y : Type}
theorem sE.l {p : A → Prop} {q : T → Prop} {a : A} (h : p a) : sE p q (.inl a) := h
theorem sE.r {p : A → Prop} {q : T → Prop} {t : T} (h : q t) : sE p q (.inr t) := h
theorem Tot.ret {α : Type} {Q : α → Prop} {z : α} (h : Q z) : Tot (some z) Q := ⟨z, rfl, h⟩
theorem Tot.weak {α : Type} {m : Option α} {Q Q' : α → Prop} (h : Tot m Q) (hq : ∀ z, Q z → Q' z) : Tot m Q' := by
  obtain ⟨z, h1, h2⟩ := h; exact ⟨z, h1, hq z h2⟩
theorem Ret.weak {m : Option (R ⊕ R)} {Q Q' : R → Prop} (h : Ret m Q) (hq : ∀ z, Q z → Q' z) : Ret m Q' := by
  obtain ⟨z, h1, h2⟩ := h; exact ⟨z, h1, hq z h2⟩
theorem Tot.letV {α : Type} {v : X} {f : X → Option α} {Q : α → Prop} (h : Tot (f v) Q) : Tot (letV v f) Q := h
theorem Tot.ite {α : Type} {c : Prop} [Decidable c] {a b : Option α} {Q : α → Prop} (h1 : c → Tot a Q) (h2 : ¬ c → Tot b Q) : Tot (if c then a else b) Q := by
  split
  · exact h1 ‹_›
  · exact h2 ‹_›
theorem Tot.iteT {α : Type} {c : Prop} [Decidable c] {a b : Option α} {Q : α → Prop} (h : c) (h1 : Tot a Q) : Tot (if c then a else b) Q := by rw [if_pos h]; exact h1
theorem Tot.iteF {α : Type} {c : Prop} [Decidable c] {a b : Option α} {Q : α → Prop} (h : ¬ c) (h1 : Tot b Q) : Tot (if c then a else b) Q := by rw [if_neg h]; exact h1
theorem Tot.chk0 {α : Type} {m : Option α} {Q : α → Prop} (h : Tot m Q) : Tot (chk [] m) Q := h
theorem Tot.chk {α : Type} {v : Bool} {vs : List Bool} {m : Option α} {Q : α → Prop} (hv : v = true) (h : Tot (chk vs m) Q) : Tot (chk (v :: vs) m) Q := by
  unfold Go.Dl.chk; rw [if_pos hv]; exact h
theorem Tot.bindS {m : Option (A ⊕ T)} {f : T → Option (A ⊕ U)} {p : A → Prop} {q : U → Prop} (h : Tot m (sE p (fun t => Tot (f t) (sE p q)))) : Tot (bindS m f) (sE p q) := by
  obtain ⟨z, rfl, h⟩ := h
  match z, h with
  | .inl a, h => exact ⟨_, rfl, h⟩
  | .inr t, h => exact h
theorem Tot.blockS {m : Option ((T ⊕ A) ⊕ T)} {p : A → Prop} {q : T → Prop} (h : Tot m (sE (sE q p) q)) : Tot (blockS m) (sE p q) := by
  obtain ⟨z, rfl, h⟩ := h
  match z, h with
  | .inl (.inl t), h => exact ⟨_, rfl, h⟩
  | .inl (.inr a), h => exact ⟨_, rfl, h⟩
  | .inr t, h => exact ⟨_, rfl, h⟩
theorem Tot.mapl {m : Option A} {p : A → Prop} {q : T → Prop} (h : Tot m p) : Tot (m.map (Sum.inl : A → A ⊕ T)) (sE p q) := by
  obtain ⟨z, rfl, h⟩ := h; exact ⟨_, rfl, h⟩
theorem Tot.bindF {m : Option (A ⊕ T)} {f : T → Option (A ⊕ U)} {p : A → Prop} {q : U → Prop} (h : Tot m (sE p (fun _ => True))) (hf : ∀ t, Tot (f t) (sE p q)) : Tot (Go.Dl.bindS m f) (sE p q) := by
  refine Tot.bindS (h.weak ?_)
  rintro (a | t) h
  · exact h
  · exact hf t
theorem Tot.call {α : Type} {m : Option (R ⊕ R)} {f : R → Option α} {Q : α → Prop} {P : R → Prop} (h : Ret m P) (hf : ∀ v, P v → Tot (f v) Q) : Tot ((fnS m).bind f) Q := by
  obtain ⟨v, h1, h2⟩ := h
  rw [h1]; exact hf v h2
theorem Tot.callC {α : Type} {b : Bool} {d : R} {m : Option (R ⊕ R)} {f : R → Option α} {Q : α → Prop} {P : R → Prop} (h : b = true → Ret m P) (hf : ∀ v, (b = true → P v) → Tot (f v) Q) : Tot ((condM b (fnS m) d).bind f) Q := by
  unfold condM
  by_cases hb : b = true
  · rw [if_pos hb]; exact Tot.call (h hb) (fun v hv => hf v fun _ => hv)
  · rw [if_neg hb]; exact hf d (fun h => absurd h hb)
theorem Ret.of {m : Option (R ⊕ R)} {Q : R → Prop} (h : Tot m (sE Q Q)) : Ret m Q := by
  obtain ⟨z, rfl, h⟩ := h
  match z, h with
  | .inl a, h => exact ⟨_, rfl, h⟩
  | .inr a, h => exact ⟨_, rfl, h⟩
theorem Tot.loopS {m1 : Option (A ⊕ Unit)} {m2 : Option A} {p : A → Prop} (h : Tot m1 (sE p (fun _ => Tot m2 p))) : Tot (loopS m1 m2) p := by
  obtain ⟨z, rfl, h⟩ := h
  match z, h with
  | .inl a, h => exact ⟨_, rfl, h⟩
  | .inr t, h => exact h
theorem Tot.loop {K : Nat} {f : T → Option (A ⊕ T)} {t0 : T} {p : A → Prop} (I : T → Prop) (μ : T → Nat) (h0 : I t0) (hK : μ t0 < K) (hs : ∀ t, I t → Tot (f t) (sE p (fun t' => I t' ∧ μ t' < μ t))) : Tot (iter K f t0) p := by
  induction K generalizing t0 with
  | zero => omega
  | succ K ih =>
    unfold iter
    obtain ⟨z, hz, h⟩ := hs t0 h0
    rw [hz]
    match z, h with
    | .inl a, h => exact ⟨_, rfl, h⟩
    | .inr t, h => exact ih h.1 (by have := h.2; omega)
theorem Tot.upP {K : Nat} {f : Int → Option (A ⊕ Int)} {p : A → Prop} (n : Nat) (P : Nat → Prop) (hK : n < K) (hs : ∀ i : Nat, i < n → Tot (f i) (sE p (fun t => t = (i : Int) + 1 ∧ P i))) (he : (∀ i, i < n → P i) → Tot (f n) (sE p (fun _ => False))) : Tot (iter K f 0) p := by
  refine Tot.loop (fun t => ∃ i : Nat, t = i ∧ i ≤ n ∧ ∀ j, j < i → P j) (fun t => n - t.toNat) ⟨0, rfl, by omega, by simp⟩ (by simpa using hK) ?_
  rintro t ⟨i, rfl, hi, hP⟩
  by_cases h : i = n
  · subst h
    refine (he hP).weak ?_
    rintro (a | t) h
    · exact h
    · exact h.elim
  · refine (hs i (by omega)).weak ?_
    rintro (a | t) h
    · exact h
    · obtain ⟨h1, h2⟩ := h
      subst h1
      refine ⟨⟨i + 1, by omega, by omega, fun j hj => ?_⟩, ?_⟩
      · by_cases h : j = i
        · subst h; exact h2
        · exact hP j (by omega)
      · omega
theorem Tot.up {K : Nat} {f : Int → Option (A ⊕ Int)} {p : A → Prop} (n : Nat) (hK : n < K) (hs : ∀ i : Nat, i < n → Tot (f i) (sE p (fun t => t = (i : Int) + 1 ∧ True))) (he : Tot (f n) (sE p (fun _ => False))) : Tot (iter K f 0) p :=
  Tot.upP n (fun _ => True) hK hs (fun _ => he)
theorem all_getD {l : List X} {d : X} {P : X → Prop} (h : ∀ i, i < l.length → P (l.getD i d)) : ∀ x ∈ l, P x := by
  intro x hx
  obtain ⟨i, hi, rfl⟩ := List.getElem_of_mem hx
  have := h i hi
  rwa [List.getD, List.getElem?_eq_getElem hi] at this
theorem getD_all {l : List X} {d : X} {P : X → Prop} (h : ∀ x ∈ l, P x) {i : Nat} (hi : i < l.length) : P (l.getD i d) := by
  rw [List.getD, List.getElem?_eq_getElem hi]; exact h _ (List.getElem_mem hi)
end
theorem imax_gt {p q n : Int} : imax p q > n ↔ p > n ∨ q > n := by unfold imax; split <;> omega
theorem F11_tot {K : Nat} {a0 : List Bytes} {a1 a2 : Int} (hK : 100 < K) (ha : a1 ≤ 60) : Ret (F11 K a0 a1 a2) (fun v => v = false → a0.length ≤ a1 ∧ ∀ x ∈ a0, x.length ≤ a2) := by
  refine Ret.of ?_
  unfold F11
  by_cases hl : (a0.length : Int) ≤ a1
  · (repeat' (first | (with_reducible first | refine Tot.letV ?_ | refine Tot.bindS ?_ | refine Tot.blockS ?_ | refine Tot.mapl ?_ | refine Tot.ite (fun _ => ?_) (fun _ => ?_) | refine Tot.chk0 ?_ | refine Tot.ret ?_ | refine sE.l ?_ | refine sE.r ?_) | with_reducible refine Tot.chk (by (first | assumption | trivial | omega | (simp [inb, room, bndOk, imax] at *; first | done | omega | (split at * <;> omega)))) ?_ | (refine (And.intro (a := IntKind.i64.wrap _ = _) (wrap64 (by omega) (by omega)) ?_))))
    refine Tot.upP a0.length (fun i => ((a0.getD i default).length : Int) ≤ a2) (by omega) (fun i hi => ?_) (fun hp => ?_)
    · (repeat' (first | (with_reducible first | refine Tot.letV ?_ | refine Tot.bindS ?_ | refine Tot.blockS ?_ | refine Tot.mapl ?_ | refine Tot.ite (fun _ => ?_) (fun _ => ?_) | refine Tot.chk0 ?_ | refine Tot.ret ?_ | refine sE.l ?_ | refine sE.r ?_) | with_reducible refine Tot.chk (by (first | assumption | trivial | omega | (simp [inb, room, bndOk, imax] at *; first | done | omega | (split at * <;> omega)))) ?_ | (refine (And.intro (a := IntKind.i64.wrap _ = _) (wrap64 (by omega) (by omega)) ?_))))
      (all_goals (try (first | trivial | (intro h; cases h; done) | (first | assumption | trivial | omega | (simp [inb, room, bndOk, imax] at *; first | done | omega | (split at * <;> omega))))))
    · (repeat' (first | (with_reducible first | refine Tot.letV ?_ | refine Tot.bindS ?_ | refine Tot.blockS ?_ | refine Tot.mapl ?_ | refine Tot.ite (fun _ => ?_) (fun _ => ?_) | refine Tot.chk0 ?_ | refine Tot.ret ?_ | refine sE.l ?_ | refine sE.r ?_) | with_reducible refine Tot.chk (by (first | assumption | trivial | omega | (simp [inb, room, bndOk, imax] at *; first | done | omega | (split at * <;> omega)))) ?_ | (refine (And.intro (a := IntKind.i64.wrap _ = _) (wrap64 (by omega) (by omega)) ?_))))
      (all_goals (try (first | trivial | (intro h; cases h; done) | (first | assumption | trivial | omega | (simp [inb, room, bndOk, imax] at *; first | done | omega | (split at * <;> omega))))))
      exact fun _ => ⟨hl, all_getD (P := fun x : Bytes => (x.length : Int) ≤ a2) hp⟩
  · (repeat' (first | (with_reducible first | refine Tot.letV ?_ | refine Tot.bindS ?_ | refine Tot.blockS ?_ | refine Tot.mapl ?_ | refine Tot.ite (fun _ => ?_) (fun _ => ?_) | refine Tot.chk0 ?_ | refine Tot.ret ?_ | refine sE.l ?_ | refine sE.r ?_) | with_reducible refine Tot.chk (by (first | assumption | trivial | omega | (simp [inb, room, bndOk, imax] at *; first | done | omega | (split at * <;> omega)))) ?_ | (refine (And.intro (a := IntKind.i64.wrap _ = _) (wrap64 (by omega) (by omega)) ?_))))
    refine Tot.up 0 (by omega) (fun i hi => by omega) ?_
    (repeat' (first | (with_reducible first | refine Tot.letV ?_ | refine Tot.bindS ?_ | refine Tot.blockS ?_ | refine Tot.mapl ?_ | refine Tot.ite (fun _ => ?_) (fun _ => ?_) | refine Tot.chk0 ?_ | refine Tot.ret ?_ | refine sE.l ?_ | refine sE.r ?_) | with_reducible refine Tot.chk (by (first | assumption | trivial | omega | (simp [inb, room, bndOk, imax] at *; first | done | omega | (split at * <;> omega)))) ?_ | (refine (And.intro (a := IntKind.i64.wrap _ = _) (wrap64 (by omega) (by omega)) ?_))))
    (all_goals (try (first | trivial | (intro h; cases h; done) | (first | assumption | trivial | omega | (simp [inb, room, bndOk, imax] at *; first | done | omega | (split at * <;> omega))))))
structure SmT (l : List Bytes) (n : Nat) : Prop where
  n : l.length ≤ n
  t : ∀ x ∈ l, x.length ≤ 60
structure SmD (d : S47) (m : Nat) : Prop where
  f : d.fFields.length ≤ 60
  i : d.fInit.length ≤ 60
  v : d.fVTable.length ≤ 60 + m
  t : d.fTables.length ≤ 60
  s : SmT d.fSigs (40 + m)
  l : ∀ t ∈ d.fTables, t.fSlots.length ≤ 40
structure SmC (c : S39) : Prop where
  p : c.fParams.length ≤ 60
  l : c.fLocals.length ≤ 60
  o : c.fOps.length ≤ 200
structure Sm (im : S29) (m : Nat) : Prop where
  faces : im.fFaces.length ≤ 40
  classes : im.fClasses.length ≤ 40
  codes : im.fCodes.length ≤ 40
  insts : im.fInsts.length ≤ 40 + 61 * m
  init : im.fInit.length ≤ 40 + m
  blocks : im.fBlocks.length ≤ 40
  ins : im.fIns.length ≤ 40
  outs : im.fOuts.length ≤ 40
  jobs : im.fJobs.length ≤ 40
  globals : im.fGlobals.length ≤ 60 + m
  face : ∀ l ∈ im.fFaces, SmT l 20
  cls : ∀ d ∈ im.fClasses, SmD d m
  code : ∀ c ∈ im.fCodes, SmC c
theorem F6_tot {K : Nat} {a0 : S29} (hK : 1000 < K) : Ret (F6 K a0) (fun v => v = false → Sm a0 0) := by
  refine Ret.of ?_
  unfold F6
  (repeat' (first | (with_reducible first | refine Tot.letV ?_ | refine Tot.bindS ?_ | refine Tot.blockS ?_ | refine Tot.mapl ?_ | refine Tot.ite (fun _ => ?_) (fun _ => ?_) | refine Tot.chk0 ?_ | refine Tot.ret ?_ | refine sE.l ?_ | refine sE.r ?_) | with_reducible refine Tot.chk (by (first | assumption | trivial | omega | (simp [inb, room, bndOk, imax] at *; first | done | omega | (split at * <;> omega)))) ?_ | (with_reducible first | refine Tot.callC (fun _ => F11_tot (by omega) (by omega)) (fun _ _ => ?_) | refine Tot.call (F11_tot (by omega) (by omega)) (fun _ _ => ?_)) | (refine (And.intro (a := IntKind.i64.wrap _ = _) (wrap64 (by omega) (by omega)) ?_))))
  · (all_goals (try (first | trivial | (intro h; cases h; done) | (first | assumption | trivial | omega | (simp [inb, room, bndOk, imax] at *; first | done | omega | (split at * <;> omega))))))
  · rename_i h0
    simp only [Bool.or_eq_true, decide_eq_true_eq, imax_gt, Int.ofNat_eq_natCast] at h0
    refine Tot.upP a0.fFaces.length (fun i => SmT (a0.fFaces.getD i default) 20) (by omega) (fun i hi => ?_) (fun hp1 => ?_)
    · (repeat' (first | (with_reducible first | refine Tot.letV ?_ | refine Tot.bindS ?_ | refine Tot.blockS ?_ | refine Tot.mapl ?_ | refine Tot.ite (fun _ => ?_) (fun _ => ?_) | refine Tot.chk0 ?_ | refine Tot.ret ?_ | refine sE.l ?_ | refine sE.r ?_) | with_reducible refine Tot.chk (by (first | assumption | trivial | omega | (simp [inb, room, bndOk, imax] at *; first | done | omega | (split at * <;> omega)))) ?_ | (with_reducible first | refine Tot.callC (fun _ => F11_tot (by omega) (by omega)) (fun _ _ => ?_) | refine Tot.call (F11_tot (by omega) (by omega)) (fun _ _ => ?_)) | (refine (And.intro (a := IntKind.i64.wrap _ = _) (wrap64 (by omega) (by omega)) ?_))))
      (all_goals (try (first | trivial | (intro h; cases h; done) | (first | assumption | trivial | omega | (simp [inb, room, bndOk, imax] at *; first | done | omega | (split at * <;> omega))))))
      rename_i v hv hc
      simp only [Bool.not_eq_true, Int.toNat_natCast] at hv hc
      obtain ⟨h1, h2⟩ := hv hc
      exact ⟨by omega, fun x hx => by have := h2 x hx; omega⟩
    · (repeat' (first | (with_reducible first | refine Tot.letV ?_ | refine Tot.bindS ?_ | refine Tot.blockS ?_ | refine Tot.mapl ?_ | refine Tot.ite (fun _ => ?_) (fun _ => ?_) | refine Tot.chk0 ?_ | refine Tot.ret ?_ | refine sE.l ?_ | refine sE.r ?_) | with_reducible refine Tot.chk (by (first | assumption | trivial | omega | (simp [inb, room, bndOk, imax] at *; first | done | omega | (split at * <;> omega)))) ?_ | (with_reducible first | refine Tot.callC (fun _ => F11_tot (by omega) (by omega)) (fun _ _ => ?_) | refine Tot.call (F11_tot (by omega) (by omega)) (fun _ _ => ?_)) | (refine (And.intro (a := IntKind.i64.wrap _ = _) (wrap64 (by omega) (by omega)) ?_))))
      (all_goals (try (first | trivial | (intro h; cases h; done) | (first | assumption | trivial | omega | (simp [inb, room, bndOk, imax] at *; first | done | omega | (split at * <;> omega))))))
      refine Tot.upP a0.fClasses.length (fun i => SmD (a0.fClasses.getD i default) 0) (by omega) (fun i hi => ?_) (fun hp2 => ?_)
      · (repeat' (first | (with_reducible first | refine Tot.letV ?_ | refine Tot.bindS ?_ | refine Tot.blockS ?_ | refine Tot.mapl ?_ | refine Tot.ite (fun _ => ?_) (fun _ => ?_) | refine Tot.chk0 ?_ | refine Tot.ret ?_ | refine sE.l ?_ | refine sE.r ?_) | with_reducible refine Tot.chk (by (first | assumption | trivial | omega | (simp [inb, room, bndOk, imax] at *; first | done | omega | (split at * <;> omega)))) ?_ | (with_reducible first | refine Tot.callC (fun _ => F11_tot (by omega) (by omega)) (fun _ _ => ?_) | refine Tot.call (F11_tot (by omega) (by omega)) (fun _ _ => ?_)) | (refine (And.intro (a := IntKind.i64.wrap _ = _) (wrap64 (by omega) (by omega)) ?_))))
        (all_goals (try (first | trivial | (intro h; cases h; done) | (first | assumption | trivial | omega | (simp [inb, room, bndOk, imax] at *; first | done | omega | (split at * <;> omega))))))
        rename_i v hv hc
        simp only [Int.toNat_natCast, Bool.not_eq_true', Bool.or_eq_false_iff, decide_eq_false_iff_not, Bool.not_eq_true, imax_gt, Int.ofNat_eq_natCast] at hv hc
        obtain ⟨⟨hc1, hc2⟩, hc3⟩ := hc
        obtain ⟨h1, h2⟩ := hv ⟨hc1, hc2⟩ hc3
        simp only [Int.toNat_natCast]
        refine Tot.upP (a0.fClasses.getD i default).fTables.length (fun j => ((a0.fClasses.getD i default).fTables.getD j default).fSlots.length ≤ 40) (by omega) (fun j hj => ?_) (fun hp3 => ?_)
        · (repeat' (first | (with_reducible first | refine Tot.letV ?_ | refine Tot.bindS ?_ | refine Tot.blockS ?_ | refine Tot.mapl ?_ | refine Tot.ite (fun _ => ?_) (fun _ => ?_) | refine Tot.chk0 ?_ | refine Tot.ret ?_ | refine sE.l ?_ | refine sE.r ?_) | with_reducible refine Tot.chk (by (first | assumption | trivial | omega | (simp [inb, room, bndOk, imax] at *; first | done | omega | (split at * <;> omega)))) ?_ | (with_reducible first | refine Tot.callC (fun _ => F11_tot (by omega) (by omega)) (fun _ _ => ?_) | refine Tot.call (F11_tot (by omega) (by omega)) (fun _ _ => ?_)) | (refine (And.intro (a := IntKind.i64.wrap _ = _) (wrap64 (by omega) (by omega)) ?_))))
          (all_goals (try (first | trivial | (intro h; cases h; done) | (first | assumption | trivial | omega | (simp [inb, room, bndOk, imax] at *; first | done | omega | (split at * <;> omega))))))
        · (repeat' (first | (with_reducible first | refine Tot.letV ?_ | refine Tot.bindS ?_ | refine Tot.blockS ?_ | refine Tot.mapl ?_ | refine Tot.ite (fun _ => ?_) (fun _ => ?_) | refine Tot.chk0 ?_ | refine Tot.ret ?_ | refine sE.l ?_ | refine sE.r ?_) | with_reducible refine Tot.chk (by (first | assumption | trivial | omega | (simp [inb, room, bndOk, imax] at *; first | done | omega | (split at * <;> omega)))) ?_ | (with_reducible first | refine Tot.callC (fun _ => F11_tot (by omega) (by omega)) (fun _ _ => ?_) | refine Tot.call (F11_tot (by omega) (by omega)) (fun _ _ => ?_)) | (refine (And.intro (a := IntKind.i64.wrap _ = _) (wrap64 (by omega) (by omega)) ?_))))
          (all_goals (try (first | trivial | (intro h; cases h; done) | (first | assumption | trivial | omega | (simp [inb, room, bndOk, imax] at *; first | done | omega | (split at * <;> omega))))))
          refine ⟨by omega, by omega, by omega, by omega, ⟨by omega, fun x hx => by have := h2 x hx; omega⟩, all_getD (P := fun t : S50 => t.fSlots.length ≤ 40) hp3⟩
      · (repeat' (first | (with_reducible first | refine Tot.letV ?_ | refine Tot.bindS ?_ | refine Tot.blockS ?_ | refine Tot.mapl ?_ | refine Tot.ite (fun _ => ?_) (fun _ => ?_) | refine Tot.chk0 ?_ | refine Tot.ret ?_ | refine sE.l ?_ | refine sE.r ?_) | with_reducible refine Tot.chk (by (first | assumption | trivial | omega | (simp [inb, room, bndOk, imax] at *; first | done | omega | (split at * <;> omega)))) ?_ | (with_reducible first | refine Tot.callC (fun _ => F11_tot (by omega) (by omega)) (fun _ _ => ?_) | refine Tot.call (F11_tot (by omega) (by omega)) (fun _ _ => ?_)) | (refine (And.intro (a := IntKind.i64.wrap _ = _) (wrap64 (by omega) (by omega)) ?_))))
        (all_goals (try (first | trivial | (intro h; cases h; done) | (first | assumption | trivial | omega | (simp [inb, room, bndOk, imax] at *; first | done | omega | (split at * <;> omega))))))
        refine Tot.upP a0.fCodes.length (fun i => SmC (a0.fCodes.getD i default)) (by omega) (fun i hi => ?_) (fun hp4 => ?_)
        · (repeat' (first | (with_reducible first | refine Tot.letV ?_ | refine Tot.bindS ?_ | refine Tot.blockS ?_ | refine Tot.mapl ?_ | refine Tot.ite (fun _ => ?_) (fun _ => ?_) | refine Tot.chk0 ?_ | refine Tot.ret ?_ | refine sE.l ?_ | refine sE.r ?_) | with_reducible refine Tot.chk (by (first | assumption | trivial | omega | (simp [inb, room, bndOk, imax] at *; first | done | omega | (split at * <;> omega)))) ?_ | (with_reducible first | refine Tot.callC (fun _ => F11_tot (by omega) (by omega)) (fun _ _ => ?_) | refine Tot.call (F11_tot (by omega) (by omega)) (fun _ _ => ?_)) | (refine (And.intro (a := IntKind.i64.wrap _ = _) (wrap64 (by omega) (by omega)) ?_))))
          (all_goals (try (first | trivial | (intro h; cases h; done) | (first | assumption | trivial | omega | (simp [inb, room, bndOk, imax] at *; first | done | omega | (split at * <;> omega))))))
          rename_i hc
          simp only [Int.toNat_natCast, Bool.or_eq_false_iff, decide_eq_false_iff_not, Bool.not_eq_true, imax_gt, Int.ofNat_eq_natCast] at hc
          exact ⟨by omega, by omega, by omega⟩
        · (repeat' (first | (with_reducible first | refine Tot.letV ?_ | refine Tot.bindS ?_ | refine Tot.blockS ?_ | refine Tot.mapl ?_ | refine Tot.ite (fun _ => ?_) (fun _ => ?_) | refine Tot.chk0 ?_ | refine Tot.ret ?_ | refine sE.l ?_ | refine sE.r ?_) | with_reducible refine Tot.chk (by (first | assumption | trivial | omega | (simp [inb, room, bndOk, imax] at *; first | done | omega | (split at * <;> omega)))) ?_ | (with_reducible first | refine Tot.callC (fun _ => F11_tot (by omega) (by omega)) (fun _ _ => ?_) | refine Tot.call (F11_tot (by omega) (by omega)) (fun _ _ => ?_)) | (refine (And.intro (a := IntKind.i64.wrap _ = _) (wrap64 (by omega) (by omega)) ?_))))
          (all_goals (try (first | trivial | (intro h; cases h; done) | (first | assumption | trivial | omega | (simp [inb, room, bndOk, imax] at *; first | done | omega | (split at * <;> omega))))))
          exact fun _ => ⟨by omega, by omega, by omega, by omega, by omega, by omega, by omega, by omega, by omega, by omega, all_getD (P := fun l => SmT l 20) hp1, all_getD (P := fun l => SmD l 0) hp2, all_getD (P := SmC) hp4⟩
end Go.Proofs.YtngjamedgphjiaaGreatDoor

namespace Go.Proofs.YtngjamedgphjiaaGreatDoor
open Go Go.Dl
set_option maxRecDepth 100000
set_option maxHeartbeats 1000000
theorem F96_tot {K : Nat} {a0 : Int} : Ret (F96 K a0) (fun _ => True) := by
  refine Ret.of ?_
  unfold F96
  (repeat' (first | (with_reducible first | refine Tot.bindF ?_ (fun _ => ?_) | refine Tot.blockS ?_ | refine Tot.ite (fun _ => ?_) (fun _ => ?_) | refine Tot.ret ?_ | refine sE.l ?_ | refine sE.r ?_)))
  (all_goals (try (first | trivial | (intro h; cases h; done) | (first | assumption | trivial | omega | (simp [inb, room, bndOk, imax] at *; first | done | omega | (split at * <;> omega))))))
theorem F97_tot {K : Nat} {a0 a1 a2 : Int} : Ret (F97 K a0 a1 a2) (fun _ => True) := by
  refine Ret.of ?_
  unfold F97
  (repeat' (first | (with_reducible first | refine Tot.letV ?_ | refine Tot.ret ?_ | refine sE.l ?_ | refine sE.r ?_)))
  (all_goals (try (first | trivial | (intro h; cases h; done) | (first | assumption | trivial | omega | (simp [inb, room, bndOk, imax] at *; first | done | omega | (split at * <;> omega))))))
theorem F83_tot {K : Nat} {a0 : S61} : Ret (F83 K a0) (fun _ => True) := by
  refine Ret.of ?_
  unfold F83
  (repeat' (first | (with_reducible first | refine Tot.bindF ?_ (fun _ => ?_) | refine Tot.letV ?_ | refine Tot.blockS ?_ | refine Tot.ite (fun _ => ?_) (fun _ => ?_) | refine Tot.ret ?_ | refine sE.l ?_ | refine sE.r ?_ | refine Tot.call F97_tot (fun _ _ => ?_) | refine Tot.callC (fun _ => F97_tot) (fun _ _ => ?_) | refine Tot.call F96_tot (fun _ _ => ?_))))
  (all_goals (try (first | trivial | (intro h; cases h; done) | (first | assumption | trivial | omega | (simp [inb, room, bndOk, imax] at *; first | done | omega | (split at * <;> omega))))))
theorem F59_tot {K : Nat} {a0 : Bytes} {a1 : Bool} (h : a0.length ≤ 1000) : Ret (F59 K a0 a1) (fun v => v.length ≤ a0.length + 2) := by
  refine Ret.of ?_
  unfold F59
  (repeat' (first | (with_reducible first | refine Tot.ite (fun _ => ?_) (fun _ => ?_) | refine Tot.chk0 ?_ | refine Tot.ret ?_ | refine sE.l ?_ | refine sE.r ?_) | with_reducible refine Tot.chk (by (first | assumption | trivial | omega | (simp [inb, room, bndOk, imax] at *; first | done | omega | (split at * <;> omega)))) ?_))
  (all_goals (try (first | trivial | (intro h; cases h; done) | (first | assumption | trivial | omega | (simp [inb, room, bndOk, imax] at *; first | done | omega | (split at * <;> omega))))))
  all_goals simp
theorem F87_tot {K : Nat} {a0 : S39} : Ret (F87 K a0) (fun _ => True) := by
  refine Ret.of ?_
  unfold F87
  (repeat' (first | (with_reducible first | refine Tot.letV ?_ | refine Tot.ret ?_ | refine sE.l ?_ | refine sE.r ?_) | (refine (And.intro (a := IntKind.i64.wrap _ = _) (wrap64 (by omega) (by omega)) ?_))))
  (all_goals (try (first | trivial | (intro h; cases h; done) | (first | assumption | trivial | omega | (simp [inb, room, bndOk, imax] at *; first | done | omega | (split at * <;> omega))))))
theorem F54_tot {K : Nat} {a0 : Bytes} (h : a0.length ≤ 1000) : Ret (F54 K a0 [105, 114]) (fun _ => True) := by
  refine ⟨Lib.trimS a0 [105, 114], ?_, trivial⟩
  unfold F54; rw [if_pos ⟨rfl, by omega⟩]; rfl
theorem F30_tot {K : Nat} {a0 : Bytes} (h : a0.length ≤ 1000) : Ret (F30 K a0) (fun _ => True) := by
  refine Ret.of ?_
  unfold F30
  (repeat' (first | (with_reducible first | refine Tot.ret ?_ | refine sE.l ?_ | refine sE.r ?_) | with_reducible refine Tot.callC (fun _ => F54_tot (by (first | assumption | trivial | omega | (simp [inb, room, bndOk, imax] at *; first | done | omega | (split at * <;> omega))))) (fun _ _ => ?_) | with_reducible refine Tot.call (F54_tot (by (first | assumption | trivial | omega | (simp [inb, room, bndOk, imax] at *; first | done | omega | (split at * <;> omega))))) (fun _ _ => ?_)))
  (all_goals (try (first | trivial | (intro h; cases h; done) | (first | assumption | trivial | omega | (simp [inb, room, bndOk, imax] at *; first | done | omega | (split at * <;> omega))))))
theorem F32_tot {K : Nat} {a0 : Bytes} {a1 : List Int} (hK : 1000 < K) (h : a0.length ≤ 900) (h1 : a1.length ≤ 900) : Ret (F32 K a0 a1) (fun _ => True) := by
  refine Ret.of ?_
  unfold F32
  (repeat' (first | (with_reducible first | refine Tot.bindF ?_ (fun _ => ?_) | refine Tot.letV ?_ | refine Tot.blockS ?_ | refine Tot.mapl ?_ | refine Tot.ite (fun _ => ?_) (fun _ => ?_) | refine Tot.chk0 ?_ | refine Tot.ret ?_ | refine sE.l ?_ | refine sE.r ?_) | with_reducible refine Tot.chk (by (first | assumption | trivial | omega | (simp [inb, room, bndOk, imax] at *; first | done | omega | (split at * <;> omega)))) ?_ | with_reducible refine Tot.callC (fun _ => F30_tot (by (first | assumption | trivial | omega | (simp [inb, room, bndOk, imax] at *; first | done | omega | (split at * <;> omega))))) (fun _ _ => ?_) | with_reducible refine Tot.call (F30_tot (by (first | assumption | trivial | omega | (simp [inb, room, bndOk, imax] at *; first | done | omega | (split at * <;> omega))))) (fun _ _ => ?_) | (refine (And.intro (a := IntKind.i64.wrap _ = _) (wrap64 (by omega) (by omega)) ?_))))
  · (all_goals (try (first | trivial | (intro h; cases h; done) | (first | assumption | trivial | omega | (simp [inb, room, bndOk, imax] at *; first | done | omega | (split at * <;> omega))))))
  · rename_i hq
    simp only [Bool.or_eq_true, bne_iff_ne, not_or, Decidable.not_not, Int.ofNat_eq_natCast] at hq
    refine Tot.up a1.length (by omega) (fun i hi => ?_) ?_
    · have h2 : inb (i : Int) a0.length = true := inb_nat (by omega)
      (repeat' (first | (with_reducible first | refine Tot.bindF ?_ (fun _ => ?_) | refine Tot.letV ?_ | refine Tot.blockS ?_ | refine Tot.mapl ?_ | refine Tot.ite (fun _ => ?_) (fun _ => ?_) | refine Tot.chk0 ?_ | refine Tot.ret ?_ | refine sE.l ?_ | refine sE.r ?_) | with_reducible refine Tot.chk (by (first | assumption | trivial | omega | (simp [inb, room, bndOk, imax] at *; first | done | omega | (split at * <;> omega)))) ?_ | with_reducible refine Tot.callC (fun _ => F30_tot (by (first | assumption | trivial | omega | (simp [inb, room, bndOk, imax] at *; first | done | omega | (split at * <;> omega))))) (fun _ _ => ?_) | with_reducible refine Tot.call (F30_tot (by (first | assumption | trivial | omega | (simp [inb, room, bndOk, imax] at *; first | done | omega | (split at * <;> omega))))) (fun _ _ => ?_) | (refine (And.intro (a := IntKind.i64.wrap _ = _) (wrap64 (by omega) (by omega)) ?_))))
      (all_goals (try (first | trivial | (intro h; cases h; done) | (first | assumption | trivial | omega | (simp [inb, room, bndOk, imax] at *; first | done | omega | (split at * <;> omega))))))
    · (repeat' (first | (with_reducible first | refine Tot.bindF ?_ (fun _ => ?_) | refine Tot.letV ?_ | refine Tot.blockS ?_ | refine Tot.mapl ?_ | refine Tot.ite (fun _ => ?_) (fun _ => ?_) | refine Tot.chk0 ?_ | refine Tot.ret ?_ | refine sE.l ?_ | refine sE.r ?_) | with_reducible refine Tot.chk (by (first | assumption | trivial | omega | (simp [inb, room, bndOk, imax] at *; first | done | omega | (split at * <;> omega)))) ?_ | with_reducible refine Tot.callC (fun _ => F30_tot (by (first | assumption | trivial | omega | (simp [inb, room, bndOk, imax] at *; first | done | omega | (split at * <;> omega))))) (fun _ _ => ?_) | with_reducible refine Tot.call (F30_tot (by (first | assumption | trivial | omega | (simp [inb, room, bndOk, imax] at *; first | done | omega | (split at * <;> omega))))) (fun _ _ => ?_) | (refine (And.intro (a := IntKind.i64.wrap _ = _) (wrap64 (by omega) (by omega)) ?_))))
      (all_goals (try (first | trivial | (intro h; cases h; done) | (first | assumption | trivial | omega | (simp [inb, room, bndOk, imax] at *; first | done | omega | (split at * <;> omega))))))
  · (all_goals (try (first | trivial | (intro h; cases h; done) | (first | assumption | trivial | omega | (simp [inb, room, bndOk, imax] at *; first | done | omega | (split at * <;> omega))))))
def ixF {X : Type} [Inhabited X] (K : Nat) (g : X → Option (Bool ⊕ Bool)) (a0 : List X) : Option (Int ⊕ Int) :=
  (bindS (blockS ((iter K (fun (u20 : Int) => (letV (decide ((u20 : Int) < (Int.ofNat a0.length))) (fun (x26 : Bool) => (if x26 = true then (bindS (blockS (chk [inb u20 a0.length] ((fnS (g (a0.getD (u20 : Int).toNat default))).bind (fun r29 => (if r29 = true then (some (.inl (Sum.inr (Sum.inr (u20))))) else (some (.inr ()))))))) (fun (u28 : Unit) => (some (.inr ((IntKind.i64.wrap (u20 + 1))))))) else (some (.inl (Sum.inl ()))))))) (0)).map .inl)) (fun (u15 : Unit) => (some (.inl ((-1))))))
def cfF {X : Type} [Inhabited X] (K : Nat) (g : X → Option (Bool ⊕ Bool)) (a0 : List X) : Option (Bool ⊕ Bool) :=
  ((fnS (ixF K g a0)).bind (fun r1 => (some (.inl ((decide ((r1 : Int) ≥ 0)))))))
theorem ixF_tot {X : Type} [Inhabited X] {K : Nat} {g : X → Option (Bool ⊕ Bool)} {l : List X} {P : X → Bool → Prop} (hK : 1000 < K) (hl : l.length ≤ 900) (h : ∀ x ∈ l, Ret (g x) (P x)) : Ret (ixF K g l) (fun v => (v = -1 ∧ ∀ x ∈ l, P x false) ∨ (0 ≤ v ∧ ∃ x ∈ l, P x true)) := by
  refine Ret.of ?_
  unfold ixF
  (repeat' (first | (with_reducible first | refine Tot.letV ?_ | refine Tot.bindS ?_ | refine Tot.blockS ?_ | refine Tot.mapl ?_ | refine Tot.ite (fun _ => ?_) (fun _ => ?_) | refine Tot.chk0 ?_ | refine Tot.ret ?_ | refine sE.l ?_ | refine sE.r ?_ | refine Tot.loopS ?_) | with_reducible refine Tot.chk (by (first | assumption | trivial | omega | (simp [inb, room, bndOk, imax] at *; first | done | omega | (split at * <;> omega)))) ?_ | with_reducible refine Tot.call (F32_tot (by omega) (by (first | assumption | trivial | omega | (simp [inb, room, bndOk, imax] at *; first | done | omega | (split at * <;> omega)))) (by (first | assumption | trivial | omega | (simp [inb, room, bndOk, imax] at *; first | done | omega | (split at * <;> omega))))) (fun _ _ => ?_) | with_reducible refine Tot.callC (fun _ => F30_tot (by (first | assumption | trivial | omega | (simp [inb, room, bndOk, imax] at *; first | done | omega | (split at * <;> omega))))) (fun _ _ => ?_) | with_reducible refine Tot.call (F30_tot (by (first | assumption | trivial | omega | (simp [inb, room, bndOk, imax] at *; first | done | omega | (split at * <;> omega))))) (fun _ _ => ?_) | with_reducible refine Tot.callC (fun _ => F54_tot (by (first | assumption | trivial | omega | (simp [inb, room, bndOk, imax] at *; first | done | omega | (split at * <;> omega))))) (fun _ _ => ?_) | with_reducible refine Tot.call (F54_tot (by (first | assumption | trivial | omega | (simp [inb, room, bndOk, imax] at *; first | done | omega | (split at * <;> omega))))) (fun _ _ => ?_) | (with_reducible first | refine Tot.callC (fun _ => F87_tot) (fun _ _ => ?_) | refine Tot.call F83_tot (fun _ _ => ?_) | refine Tot.call F97_tot (fun _ _ => ?_) | refine Tot.callC (fun _ => F97_tot) (fun _ _ => ?_) | refine Tot.call F96_tot (fun _ _ => ?_) | refine Tot.callC (fun _ => F11_tot (by omega) (by omega)) (fun _ _ => ?_) | refine Tot.call (F11_tot (by omega) (by omega)) (fun _ _ => ?_)) | (refine (And.intro (a := IntKind.i64.wrap _ = _) (wrap64 (by omega) (by omega)) ?_))))
  refine Tot.upP l.length (fun i => P (l.getD i default) false) (by omega) (fun i hi => ?_) (fun hp => ?_)
  · have hm : l.getD i default ∈ l := by rw [List.getD, List.getElem?_eq_getElem hi]; exact List.getElem_mem hi
    (repeat' (first | (with_reducible first | refine Tot.letV ?_ | refine Tot.bindS ?_ | refine Tot.blockS ?_ | refine Tot.mapl ?_ | refine Tot.ite (fun _ => ?_) (fun _ => ?_) | refine Tot.chk0 ?_ | refine Tot.ret ?_ | refine sE.l ?_ | refine sE.r ?_ | refine Tot.loopS ?_) | with_reducible refine Tot.chk (by (first | assumption | trivial | omega | (simp [inb, room, bndOk, imax] at *; first | done | omega | (split at * <;> omega)))) ?_ | with_reducible refine Tot.call (F32_tot (by omega) (by (first | assumption | trivial | omega | (simp [inb, room, bndOk, imax] at *; first | done | omega | (split at * <;> omega)))) (by (first | assumption | trivial | omega | (simp [inb, room, bndOk, imax] at *; first | done | omega | (split at * <;> omega))))) (fun _ _ => ?_) | with_reducible refine Tot.callC (fun _ => F30_tot (by (first | assumption | trivial | omega | (simp [inb, room, bndOk, imax] at *; first | done | omega | (split at * <;> omega))))) (fun _ _ => ?_) | with_reducible refine Tot.call (F30_tot (by (first | assumption | trivial | omega | (simp [inb, room, bndOk, imax] at *; first | done | omega | (split at * <;> omega))))) (fun _ _ => ?_) | with_reducible refine Tot.callC (fun _ => F54_tot (by (first | assumption | trivial | omega | (simp [inb, room, bndOk, imax] at *; first | done | omega | (split at * <;> omega))))) (fun _ _ => ?_) | with_reducible refine Tot.call (F54_tot (by (first | assumption | trivial | omega | (simp [inb, room, bndOk, imax] at *; first | done | omega | (split at * <;> omega))))) (fun _ _ => ?_) | (with_reducible first | refine Tot.callC (fun _ => F87_tot) (fun _ _ => ?_) | refine Tot.call F83_tot (fun _ _ => ?_) | refine Tot.call F97_tot (fun _ _ => ?_) | refine Tot.callC (fun _ => F97_tot) (fun _ _ => ?_) | refine Tot.call F96_tot (fun _ _ => ?_) | refine Tot.callC (fun _ => F11_tot (by omega) (by omega)) (fun _ _ => ?_) | refine Tot.call (F11_tot (by omega) (by omega)) (fun _ _ => ?_)) | (refine (And.intro (a := IntKind.i64.wrap _ = _) (wrap64 (by omega) (by omega)) ?_))))
    · simp only [Int.toNat_natCast]
      refine Tot.call (h _ hm) (fun v hv => ?_)
      cases v
      · rw [if_neg (by simp)]
        (repeat' (first | (with_reducible first | refine Tot.letV ?_ | refine Tot.bindS ?_ | refine Tot.blockS ?_ | refine Tot.mapl ?_ | refine Tot.ite (fun _ => ?_) (fun _ => ?_) | refine Tot.chk0 ?_ | refine Tot.ret ?_ | refine sE.l ?_ | refine sE.r ?_ | refine Tot.loopS ?_) | with_reducible refine Tot.chk (by (first | assumption | trivial | omega | (simp [inb, room, bndOk, imax] at *; first | done | omega | (split at * <;> omega)))) ?_ | with_reducible refine Tot.call (F32_tot (by omega) (by (first | assumption | trivial | omega | (simp [inb, room, bndOk, imax] at *; first | done | omega | (split at * <;> omega)))) (by (first | assumption | trivial | omega | (simp [inb, room, bndOk, imax] at *; first | done | omega | (split at * <;> omega))))) (fun _ _ => ?_) | with_reducible refine Tot.callC (fun _ => F30_tot (by (first | assumption | trivial | omega | (simp [inb, room, bndOk, imax] at *; first | done | omega | (split at * <;> omega))))) (fun _ _ => ?_) | with_reducible refine Tot.call (F30_tot (by (first | assumption | trivial | omega | (simp [inb, room, bndOk, imax] at *; first | done | omega | (split at * <;> omega))))) (fun _ _ => ?_) | with_reducible refine Tot.callC (fun _ => F54_tot (by (first | assumption | trivial | omega | (simp [inb, room, bndOk, imax] at *; first | done | omega | (split at * <;> omega))))) (fun _ _ => ?_) | with_reducible refine Tot.call (F54_tot (by (first | assumption | trivial | omega | (simp [inb, room, bndOk, imax] at *; first | done | omega | (split at * <;> omega))))) (fun _ _ => ?_) | (with_reducible first | refine Tot.callC (fun _ => F87_tot) (fun _ _ => ?_) | refine Tot.call F83_tot (fun _ _ => ?_) | refine Tot.call F97_tot (fun _ _ => ?_) | refine Tot.callC (fun _ => F97_tot) (fun _ _ => ?_) | refine Tot.call F96_tot (fun _ _ => ?_) | refine Tot.callC (fun _ => F11_tot (by omega) (by omega)) (fun _ _ => ?_) | refine Tot.call (F11_tot (by omega) (by omega)) (fun _ _ => ?_)) | (refine (And.intro (a := IntKind.i64.wrap _ = _) (wrap64 (by omega) (by omega)) ?_))))
        exact hv
      · rw [if_pos rfl]
        (repeat' (first | (with_reducible first | refine Tot.letV ?_ | refine Tot.bindS ?_ | refine Tot.blockS ?_ | refine Tot.mapl ?_ | refine Tot.ite (fun _ => ?_) (fun _ => ?_) | refine Tot.chk0 ?_ | refine Tot.ret ?_ | refine sE.l ?_ | refine sE.r ?_ | refine Tot.loopS ?_) | with_reducible refine Tot.chk (by (first | assumption | trivial | omega | (simp [inb, room, bndOk, imax] at *; first | done | omega | (split at * <;> omega)))) ?_ | with_reducible refine Tot.call (F32_tot (by omega) (by (first | assumption | trivial | omega | (simp [inb, room, bndOk, imax] at *; first | done | omega | (split at * <;> omega)))) (by (first | assumption | trivial | omega | (simp [inb, room, bndOk, imax] at *; first | done | omega | (split at * <;> omega))))) (fun _ _ => ?_) | with_reducible refine Tot.callC (fun _ => F30_tot (by (first | assumption | trivial | omega | (simp [inb, room, bndOk, imax] at *; first | done | omega | (split at * <;> omega))))) (fun _ _ => ?_) | with_reducible refine Tot.call (F30_tot (by (first | assumption | trivial | omega | (simp [inb, room, bndOk, imax] at *; first | done | omega | (split at * <;> omega))))) (fun _ _ => ?_) | with_reducible refine Tot.callC (fun _ => F54_tot (by (first | assumption | trivial | omega | (simp [inb, room, bndOk, imax] at *; first | done | omega | (split at * <;> omega))))) (fun _ _ => ?_) | with_reducible refine Tot.call (F54_tot (by (first | assumption | trivial | omega | (simp [inb, room, bndOk, imax] at *; first | done | omega | (split at * <;> omega))))) (fun _ _ => ?_) | (with_reducible first | refine Tot.callC (fun _ => F87_tot) (fun _ _ => ?_) | refine Tot.call F83_tot (fun _ _ => ?_) | refine Tot.call F97_tot (fun _ _ => ?_) | refine Tot.callC (fun _ => F97_tot) (fun _ _ => ?_) | refine Tot.call F96_tot (fun _ _ => ?_) | refine Tot.callC (fun _ => F11_tot (by omega) (by omega)) (fun _ _ => ?_) | refine Tot.call (F11_tot (by omega) (by omega)) (fun _ _ => ?_)) | (refine (And.intro (a := IntKind.i64.wrap _ = _) (wrap64 (by omega) (by omega)) ?_))))
        exact Or.inr ⟨by omega, _, hm, hv⟩
    · (all_goals (try (first | trivial | (intro h; cases h; done) | (first | assumption | trivial | omega | (simp [inb, room, bndOk, imax] at *; first | done | omega | (split at * <;> omega))))))
  · (repeat' (first | (with_reducible first | refine Tot.letV ?_ | refine Tot.bindS ?_ | refine Tot.blockS ?_ | refine Tot.mapl ?_ | refine Tot.ite (fun _ => ?_) (fun _ => ?_) | refine Tot.chk0 ?_ | refine Tot.ret ?_ | refine sE.l ?_ | refine sE.r ?_ | refine Tot.loopS ?_) | with_reducible refine Tot.chk (by (first | assumption | trivial | omega | (simp [inb, room, bndOk, imax] at *; first | done | omega | (split at * <;> omega)))) ?_ | with_reducible refine Tot.call (F32_tot (by omega) (by (first | assumption | trivial | omega | (simp [inb, room, bndOk, imax] at *; first | done | omega | (split at * <;> omega)))) (by (first | assumption | trivial | omega | (simp [inb, room, bndOk, imax] at *; first | done | omega | (split at * <;> omega))))) (fun _ _ => ?_) | with_reducible refine Tot.callC (fun _ => F30_tot (by (first | assumption | trivial | omega | (simp [inb, room, bndOk, imax] at *; first | done | omega | (split at * <;> omega))))) (fun _ _ => ?_) | with_reducible refine Tot.call (F30_tot (by (first | assumption | trivial | omega | (simp [inb, room, bndOk, imax] at *; first | done | omega | (split at * <;> omega))))) (fun _ _ => ?_) | with_reducible refine Tot.callC (fun _ => F54_tot (by (first | assumption | trivial | omega | (simp [inb, room, bndOk, imax] at *; first | done | omega | (split at * <;> omega))))) (fun _ _ => ?_) | with_reducible refine Tot.call (F54_tot (by (first | assumption | trivial | omega | (simp [inb, room, bndOk, imax] at *; first | done | omega | (split at * <;> omega))))) (fun _ _ => ?_) | (with_reducible first | refine Tot.callC (fun _ => F87_tot) (fun _ _ => ?_) | refine Tot.call F83_tot (fun _ _ => ?_) | refine Tot.call F97_tot (fun _ _ => ?_) | refine Tot.callC (fun _ => F97_tot) (fun _ _ => ?_) | refine Tot.call F96_tot (fun _ _ => ?_) | refine Tot.callC (fun _ => F11_tot (by omega) (by omega)) (fun _ _ => ?_) | refine Tot.call (F11_tot (by omega) (by omega)) (fun _ _ => ?_)) | (refine (And.intro (a := IntKind.i64.wrap _ = _) (wrap64 (by omega) (by omega)) ?_))))
    (all_goals (try (first | trivial | (intro h; cases h; done) | (first | assumption | trivial | omega | (simp [inb, room, bndOk, imax] at *; first | done | omega | (split at * <;> omega))))))
    exact Or.inl ⟨rfl, all_getD (P := fun x => P x false) hp⟩
theorem cfF_tot {X : Type} [Inhabited X] {K : Nat} {g : X → Option (Bool ⊕ Bool)} {l : List X} {P : X → Bool → Prop} (hK : 1000 < K) (hl : l.length ≤ 900) (h : ∀ x ∈ l, Ret (g x) (P x)) : Ret (cfF K g l) (fun v => (v = false ∧ ∀ x ∈ l, P x false) ∨ (v = true ∧ ∃ x ∈ l, P x true)) := by
  refine Ret.of ?_
  unfold cfF
  refine Tot.call (ixF_tot hK hl h) (fun v hv => ?_)
  (repeat' (first | (with_reducible first | refine Tot.letV ?_ | refine Tot.bindS ?_ | refine Tot.blockS ?_ | refine Tot.mapl ?_ | refine Tot.ite (fun _ => ?_) (fun _ => ?_) | refine Tot.chk0 ?_ | refine Tot.ret ?_ | refine sE.l ?_ | refine sE.r ?_ | refine Tot.loopS ?_) | with_reducible refine Tot.chk (by (first | assumption | trivial | omega | (simp [inb, room, bndOk, imax] at *; first | done | omega | (split at * <;> omega)))) ?_ | with_reducible refine Tot.call (F32_tot (by omega) (by (first | assumption | trivial | omega | (simp [inb, room, bndOk, imax] at *; first | done | omega | (split at * <;> omega)))) (by (first | assumption | trivial | omega | (simp [inb, room, bndOk, imax] at *; first | done | omega | (split at * <;> omega))))) (fun _ _ => ?_) | with_reducible refine Tot.callC (fun _ => F30_tot (by (first | assumption | trivial | omega | (simp [inb, room, bndOk, imax] at *; first | done | omega | (split at * <;> omega))))) (fun _ _ => ?_) | with_reducible refine Tot.call (F30_tot (by (first | assumption | trivial | omega | (simp [inb, room, bndOk, imax] at *; first | done | omega | (split at * <;> omega))))) (fun _ _ => ?_) | with_reducible refine Tot.callC (fun _ => F54_tot (by (first | assumption | trivial | omega | (simp [inb, room, bndOk, imax] at *; first | done | omega | (split at * <;> omega))))) (fun _ _ => ?_) | with_reducible refine Tot.call (F54_tot (by (first | assumption | trivial | omega | (simp [inb, room, bndOk, imax] at *; first | done | omega | (split at * <;> omega))))) (fun _ _ => ?_) | (with_reducible first | refine Tot.callC (fun _ => F87_tot) (fun _ _ => ?_) | refine Tot.call F83_tot (fun _ _ => ?_) | refine Tot.call F97_tot (fun _ _ => ?_) | refine Tot.callC (fun _ => F97_tot) (fun _ _ => ?_) | refine Tot.call F96_tot (fun _ _ => ?_) | refine Tot.callC (fun _ => F11_tot (by omega) (by omega)) (fun _ _ => ?_) | refine Tot.call (F11_tot (by omega) (by omega)) (fun _ _ => ?_)) | (refine (And.intro (a := IntKind.i64.wrap _ = _) (wrap64 (by omega) (by omega)) ?_))))
  rcases hv with ⟨h1, h2⟩ | ⟨h1, h2⟩
  · exact Or.inl ⟨by rw [h1]; rfl, h2⟩
  · exact Or.inr ⟨by simpa using h1, h2⟩
theorem cfF_any {X : Type} [Inhabited X] {K : Nat} {g : X → Option (Bool ⊕ Bool)} {l : List X} (hK : 1000 < K) (hl : l.length ≤ 900) (h : ∀ x ∈ l, Ret (g x) (fun _ => True)) : Ret (cfF K g l) (fun _ => True) :=
  (cfF_tot hK hl h).weak fun _ _ => trivial
theorem F23_tot {K : Nat} {a0 : S39} : Ret (F23 K a0) (fun _ => True) := by
  refine Ret.of ?_
  unfold F23
  (repeat' (first | (with_reducible first | refine Tot.letV ?_ | refine Tot.ret ?_ | refine sE.l ?_ | refine sE.r ?_)))
  (all_goals (try (first | trivial | (intro h; cases h; done) | (first | assumption | trivial | omega | (simp [inb, room, bndOk, imax] at *; first | done | omega | (split at * <;> omega))))))
theorem F24_tot {K : Nat} {a0 : List Bytes} : Ret (F24 K a0) (fun _ => True) := by
  refine Ret.of ?_
  unfold F24
  (repeat' (first | (with_reducible first | refine Tot.letV ?_ | refine Tot.ret ?_ | refine sE.l ?_ | refine sE.r ?_)))
  (all_goals (try (first | trivial | (intro h; cases h; done) | (first | assumption | trivial | omega | (simp [inb, room, bndOk, imax] at *; first | done | omega | (split at * <;> omega))))))
theorem F25_tot {K : Nat} {a0 : S47} : Ret (F25 K a0) (fun _ => True) := by
  refine Ret.of ?_
  unfold F25
  (repeat' (first | (with_reducible first | refine Tot.letV ?_ | refine Tot.ret ?_ | refine sE.l ?_ | refine sE.r ?_)))
  (all_goals (try (first | trivial | (intro h; cases h; done) | (first | assumption | trivial | omega | (simp [inb, room, bndOk, imax] at *; first | done | omega | (split at * <;> omega))))))
theorem F29_tot {K : Nat} {a0 : S39} (h : SmC a0) : Ret (F29 K a0) (fun _ => True) := by
  obtain ⟨h1, h2, h3⟩ := h
  refine Ret.of ?_
  unfold F29
  (repeat' (first | (with_reducible first | refine Tot.letV ?_ | refine Tot.ret ?_ | refine sE.l ?_ | refine sE.r ?_) | with_reducible refine Tot.callC (fun _ => F30_tot (by (first | assumption | trivial | omega | (simp [inb, room, bndOk, imax] at *; first | done | omega | (split at * <;> omega))))) (fun _ _ => ?_) | with_reducible refine Tot.call (F30_tot (by (first | assumption | trivial | omega | (simp [inb, room, bndOk, imax] at *; first | done | omega | (split at * <;> omega))))) (fun _ _ => ?_)))
  (all_goals (try (first | trivial | (intro h; cases h; done) | (first | assumption | trivial | omega | (simp [inb, room, bndOk, imax] at *; first | done | omega | (split at * <;> omega))))))
theorem F31_tot {K : Nat} {a0 : S47} {m : Nat} (hK : 1000 < K) (h : SmD a0 m) : Ret (F31 K a0) (fun _ => True) := by
  have h1 := h.f
  have h2 := h.i
  refine Ret.of ?_
  unfold F31
  (repeat' (first | (with_reducible first | refine Tot.ret ?_ | refine sE.l ?_ | refine sE.r ?_) | with_reducible refine Tot.call (F32_tot (by omega) (by (first | assumption | trivial | omega | (simp [inb, room, bndOk, imax] at *; first | done | omega | (split at * <;> omega)))) (by (first | assumption | trivial | omega | (simp [inb, room, bndOk, imax] at *; first | done | omega | (split at * <;> omega))))) (fun _ _ => ?_)))
  (all_goals (try (first | trivial | (intro h; cases h; done) | (first | assumption | trivial | omega | (simp [inb, room, bndOk, imax] at *; first | done | omega | (split at * <;> omega))))))
theorem F26f23_tot {K : Nat} {l : List S39} (hK : 1000 < K) (hl : l.length ≤ 900) : Ret (F26f23 K l) (fun _ => True) := cfF_any (g := F23 K) hK hl fun _ _ => F23_tot
theorem F27f24_tot {K : Nat} {l : List (List Bytes)} (hK : 1000 < K) (hl : l.length ≤ 900) : Ret (F27f24 K l) (fun _ => True) := cfF_any (g := F24 K) hK hl fun _ _ => F24_tot
theorem F28f25_tot {K : Nat} {l : List S47} (hK : 1000 < K) (hl : l.length ≤ 900) : Ret (F28f25 K l) (fun _ => True) := cfF_any (g := F25 K) hK hl fun _ _ => F25_tot
theorem F26f29_tot {K : Nat} {l : List S39} (hK : 1000 < K) (hl : l.length ≤ 900) (h : ∀ x ∈ l, SmC x) : Ret (F26f29 K l) (fun _ => True) := cfF_any (g := F29 K) hK hl fun x hx => F29_tot (h x hx)
theorem F28f31_tot {K : Nat} {l : List S47} {m : Nat} (hK : 1000 < K) (hl : l.length ≤ 900) (h : ∀ x ∈ l, SmD x m) : Ret (F28f31 K l) (fun _ => True) := cfF_any (g := F31 K) hK hl fun x hx => F31_tot hK (h x hx)
theorem F15_tot {K : Nat} {a0 : S29} {m : Nat} (hK : 1000 < K) (h : Sm a0 m) : Ret (F15 K a0) (fun _ => True) := by
  have h1 := h.codes
  have h2 := h.faces
  have h3 := h.classes
  refine Ret.of ?_
  unfold F15
  (repeat' (first | (with_reducible first | refine Tot.letV ?_ | refine Tot.ite (fun _ => ?_) (fun _ => ?_) | refine Tot.ret ?_ | refine sE.l ?_ | refine sE.r ?_)))
  · (all_goals (try (first | trivial | (intro h; cases h; done) | (first | assumption | trivial | omega | (simp [inb, room, bndOk, imax] at *; first | done | omega | (split at * <;> omega))))))
  · refine Tot.call (F26f23_tot hK (by omega)) (fun _ _ => ?_)
    refine Tot.callC (fun _ => F27f24_tot hK (by omega)) (fun _ _ => ?_)
    refine Tot.callC (fun _ => F28f25_tot hK (by omega)) (fun _ _ => ?_)
    (repeat' (first | (with_reducible first | refine Tot.letV ?_ | refine Tot.ite (fun _ => ?_) (fun _ => ?_) | refine Tot.ret ?_ | refine sE.l ?_ | refine sE.r ?_)))
    (all_goals (try (first | trivial | (intro h; cases h; done) | (first | assumption | trivial | omega | (simp [inb, room, bndOk, imax] at *; first | done | omega | (split at * <;> omega))))))
theorem F16_tot {K : Nat} {a0 : S29} {m : Nat} (hK : 1000 < K) (hm : m ≤ 1) (h : Sm a0 m) : Ret (F16 K a0) (fun _ => True) := by
  have h1 := h.codes
  have h2 := h.globals
  have h3 := h.classes
  have h4 := h.init
  refine Ret.of ?_
  unfold F16
  refine Tot.call (F32_tot hK (by omega) (by omega)) (fun _ _ => ?_)
  refine Tot.callC (fun _ => F26f29_tot hK (by omega) h.code) (fun _ _ => ?_)
  refine Tot.callC (fun _ => F28f31_tot hK (by omega) h.cls) (fun _ _ => ?_)
  (repeat' (first | (with_reducible first | refine Tot.ret ?_ | refine sE.l ?_ | refine sE.r ?_) | with_reducible refine Tot.call (F32_tot (by omega) (by (first | assumption | trivial | omega | (simp [inb, room, bndOk, imax] at *; first | done | omega | (split at * <;> omega)))) (by (first | assumption | trivial | omega | (simp [inb, room, bndOk, imax] at *; first | done | omega | (split at * <;> omega))))) (fun _ _ => ?_)))
  (all_goals (try (first | trivial | (intro h; cases h; done) | (first | assumption | trivial | omega | (simp [inb, room, bndOk, imax] at *; first | done | omega | (split at * <;> omega))))))
end Go.Proofs.YtngjamedgphjiaaGreatDoor

namespace Go.Proofs.YtngjamedgphjiaaGreatDoor
open Go Go.Dl
set_option maxRecDepth 100000
set_option maxHeartbeats 1000000
theorem F80_tot {K : Nat} {a0 a1 : Bytes} (h : a0.length ≤ 900) : Ret (F80 K a0 a1) (fun v => v.1.length ≤ a0.length) := by
  refine ⟨Lib.cut a0 a1, ?_, ?_⟩
  · unfold F80; rw [if_pos (by omega)]; rfl
  · show (Lib.cut a0 a1).1.length ≤ a0.length
    unfold Lib.cut
    split
    · simp; omega
    · simp
theorem F56_tot {K : Nat} {a0 : Bytes} (h : a0.length ≤ 900) : Ret (F56 K a0) (fun v => v.1.length ≤ a0.length) := by
  refine Ret.of ?_
  unfold F56
  refine Tot.call (F80_tot h) (fun v hv => ?_)
  (repeat' (first | (with_reducible first | refine Tot.letV ?_ | refine Tot.ite (fun _ => ?_) (fun _ => ?_) | refine Tot.ret ?_ | refine sE.l ?_ | refine sE.r ?_) | with_reducible refine Tot.callC (fun _ => F54_tot (by (first | assumption | omega | (simp [inb, room, imax] at *; try omega)))) (fun _ _ => ?_) | with_reducible refine Tot.call (F54_tot (by (first | assumption | omega | (simp [inb, room, imax] at *; try omega)))) (fun _ _ => ?_)))
  (all_goals (try (first | trivial | (intro h; cases h; done) | (first | assumption | omega | (simp [inb, room, imax] at *; try omega)))))
  all_goals simp
theorem F34_tot {K : Nat} {a0 : Bytes} (h : a0.length ≤ 900) : Ret (F34 K a0) (fun _ => True) := by
  refine Ret.of ?_
  unfold F34
  (repeat' (first | (with_reducible first | refine Tot.ret ?_ | refine sE.l ?_ | refine sE.r ?_) | with_reducible refine Tot.call (F56_tot (by (first | assumption | omega | (simp [inb, room, imax] at *; try omega)))) (fun _ _ => ?_)))
  (all_goals (try (first | trivial | (intro h; cases h; done) | (first | assumption | omega | (simp [inb, room, imax] at *; try omega)))))
theorem F33f34_tot {K : Nat} {l : List Bytes} {n : Nat} (hK : 1000 < K) (h : SmT l n) (hn : n ≤ 900) : Ret (F33f34 K l) (fun _ => True) := cfF_any (g := F34 K) hK (by have := h.n; omega) fun x hx => F34_tot (by have := h.t x hx; omega)
theorem F37_tot {K : Nat} {l : List Bytes} {n : Nat} (hK : 1000 < K) (h : SmT l n) (hn : n ≤ 900) : Ret (F37 K l) (fun _ => True) := by
  refine Ret.of ?_
  unfold F37
  refine Tot.call (F33f34_tot hK h hn) (fun v hv => ?_)
  (repeat' (first | (with_reducible first | refine Tot.ret ?_ | refine sE.l ?_ | refine sE.r ?_)))
  (all_goals (try (first | trivial | (intro h; cases h; done) | (first | assumption | omega | (simp [inb, room, imax] at *; try omega)))))
theorem F27f37_tot {K : Nat} {l : List (List Bytes)} {n : Nat} (hK : 1000 < K) (hl : l.length ≤ 900) (h : ∀ x ∈ l, SmT x n) (hn : n ≤ 900) : Ret (F27f37 K l) (fun _ => True) := cfF_any (g := F37 K) hK hl fun x hx => F37_tot hK (h x hx) hn
theorem F36_tot {K : Nat} {a0 a1 : List Bytes} (hK : 1000 < K) (h : a0.length ≤ 900) : Ret (F36 K a0 a1) (fun _ => True) := by
  refine Ret.of ?_
  unfold F36
  (repeat' (first | (with_reducible first | refine Tot.letV ?_ | refine Tot.bindS ?_ | refine Tot.blockS ?_ | refine Tot.mapl ?_ | refine Tot.ite (fun _ => ?_) (fun _ => ?_) | refine Tot.chk0 ?_ | refine Tot.ret ?_ | refine sE.l ?_ | refine sE.r ?_) | with_reducible refine Tot.chk (by (first | assumption | omega | (simp [inb, room, imax] at *; try omega))) ?_ | (refine (And.intro (a := IntKind.i64.wrap _ = _) (wrap64 (by omega) (by omega)) ?_))))
  · (all_goals (try (first | trivial | (intro h; cases h; done) | (first | assumption | omega | (simp [inb, room, imax] at *; try omega)))))
  · rename_i hq
    simp only [bne_iff_ne, Decidable.not_not, Int.ofNat_eq_natCast] at hq
    refine Tot.up a0.length (by omega) (fun i hi => ?_) ?_
    · have h2 : inb (i : Int) a1.length = true := inb_nat (by omega)
      (repeat' (first | (with_reducible first | refine Tot.letV ?_ | refine Tot.bindS ?_ | refine Tot.blockS ?_ | refine Tot.mapl ?_ | refine Tot.ite (fun _ => ?_) (fun _ => ?_) | refine Tot.chk0 ?_ | refine Tot.ret ?_ | refine sE.l ?_ | refine sE.r ?_) | with_reducible refine Tot.chk (by (first | assumption | omega | (simp [inb, room, imax] at *; try omega))) ?_ | (refine (And.intro (a := IntKind.i64.wrap _ = _) (wrap64 (by omega) (by omega)) ?_))))
      (all_goals (try (first | trivial | (intro h; cases h; done) | (first | assumption | omega | (simp [inb, room, imax] at *; try omega)))))
    · (repeat' (first | (with_reducible first | refine Tot.letV ?_ | refine Tot.bindS ?_ | refine Tot.blockS ?_ | refine Tot.mapl ?_ | refine Tot.ite (fun _ => ?_) (fun _ => ?_) | refine Tot.chk0 ?_ | refine Tot.ret ?_ | refine sE.l ?_ | refine sE.r ?_) | with_reducible refine Tot.chk (by (first | assumption | omega | (simp [inb, room, imax] at *; try omega))) ?_ | (refine (And.intro (a := IntKind.i64.wrap _ = _) (wrap64 (by omega) (by omega)) ?_))))
      (all_goals (try (first | trivial | (intro h; cases h; done) | (first | assumption | omega | (simp [inb, room, imax] at *; try omega)))))
theorem F35_tot {K : Nat} {a0 a1 : Bytes} : Ret (F35 K a0 a1) (fun _ => True) := ⟨_, rfl, trivial⟩
def Ahead (im : S29) : Prop := ∀ i, i < im.fClasses.length → -1 ≤ (im.fClasses.getD i default).fBase ∧ (im.fClasses.getD i default).fBase < i
theorem F17_tot {K : Nat} {a0 : S29} {m : Nat} (hK : 1000 < K) (hm : m ≤ 1) (h : Sm a0 m) : Ret (F17 K a0) (fun v => v = true → Ahead a0) := by
  have h1 := h.classes
  have h2 := h.faces
  refine Ret.of ?_
  unfold F17
  (repeat' (first | (with_reducible first | refine Tot.letV ?_ | refine Tot.bindS ?_ | refine Tot.blockS ?_ | refine Tot.mapl ?_ | refine Tot.ite (fun _ => ?_) (fun _ => ?_) | refine Tot.chk0 ?_ | refine Tot.ret ?_ | refine sE.l ?_ | refine sE.r ?_) | with_reducible refine Tot.chk (by (first | assumption | omega | (simp [inb, room, imax] at *; try omega))) ?_ | (refine (And.intro (a := IntKind.i64.wrap _ = _) (wrap64 (by omega) (by omega)) ?_))))
  refine Tot.upP a0.fClasses.length (fun i => -1 ≤ (a0.fClasses.getD i default).fBase ∧ (a0.fClasses.getD i default).fBase < i) (by omega) (fun i hi => ?_) (fun hp => ?_)
  · have hd := getD_all (d := default) h.cls hi
    (refine Tot.letV ?_; refine Tot.iteT (by simp only [Int.ofNat_eq_natCast, decide_eq_true_eq]; omega) ?_; simp only [Int.toNat_natCast]; (repeat' (first | (with_reducible first | refine Tot.letV ?_ | refine Tot.bindS ?_ | refine Tot.blockS ?_ | refine Tot.mapl ?_ | refine Tot.ite (fun _ => ?_) (fun _ => ?_) | refine Tot.chk0 ?_ | refine Tot.ret ?_ | refine sE.l ?_ | refine sE.r ?_) | with_reducible refine Tot.chk (by (first | assumption | omega | (simp [inb, room, imax] at *; try omega))) ?_ | (refine (And.intro (a := IntKind.i64.wrap _ = _) (wrap64 (by omega) (by omega)) ?_)))))
    refine Tot.callC (fun _ => F33f34_tot hK hd.s (by omega)) (fun v hv => ?_)
    refine Tot.ite (fun _ => ?_) (fun hc => ?_)
    · (repeat' (first | (with_reducible first | refine Tot.letV ?_ | refine Tot.bindS ?_ | refine Tot.blockS ?_ | refine Tot.mapl ?_ | refine Tot.ite (fun _ => ?_) (fun _ => ?_) | refine Tot.chk0 ?_ | refine Tot.ret ?_ | refine sE.l ?_ | refine sE.r ?_) | with_reducible refine Tot.chk (by (first | assumption | omega | (simp [inb, room, imax] at *; try omega))) ?_ | (refine (And.intro (a := IntKind.i64.wrap _ = _) (wrap64 (by omega) (by omega)) ?_))))
      (all_goals (try (first | trivial | (intro h; cases h; done) | (first | assumption | omega | (simp [inb, room, imax] at *; try omega)))))
    · simp only [Bool.or_eq_false_iff, decide_eq_false_iff_not, Bool.not_eq_true, bne_eq_false_iff_eq, Int.ofNat_eq_natCast] at hc
      obtain ⟨⟨⟨hc1, hc2⟩, hc3⟩, hc4⟩ := hc
      refine Tot.letV ?_
      refine Tot.ite (fun _ => ?_) (fun hb => ?_)
      · (repeat' (first | (with_reducible first | refine Tot.letV ?_ | refine Tot.bindS ?_ | refine Tot.blockS ?_ | refine Tot.mapl ?_ | refine Tot.ite (fun _ => ?_) (fun _ => ?_) | refine Tot.chk0 ?_ | refine Tot.ret ?_ | refine sE.l ?_ | refine sE.r ?_) | with_reducible refine Tot.chk (by (first | assumption | omega | (simp [inb, room, imax] at *; try omega))) ?_ | (refine (And.intro (a := IntKind.i64.wrap _ = _) (wrap64 (by omega) (by omega)) ?_))))
        exact ⟨by omega, by omega⟩
      · simp only [decide_eq_true_eq] at hb
        have hb2 : inb (a0.fClasses.getD i default).fBase a0.fClasses.length = true := by simp only [inb, Bool.and_eq_true, decide_eq_true_eq]; omega
        have hd2 := getD_all (d := default) h.cls (i := (a0.fClasses.getD i default).fBase.toNat) (by omega)
        refine Tot.chk hb2 (Tot.chk0 (Tot.letV (Tot.letV ?_)))
        refine Tot.callC (fun _ => F35_tot) (fun v2 _ => ?_)
        refine Tot.chk ?_ (Tot.chk0 (Tot.letV ?_))
        · cases v2 <;> simp [bndOk]
          omega
        refine Tot.callC (fun _ => F36_tot hK (by have := hd2.s.n; omega)) (fun v3 _ => ?_)
        (repeat' (first | (with_reducible first | refine Tot.letV ?_ | refine Tot.bindS ?_ | refine Tot.blockS ?_ | refine Tot.mapl ?_ | refine Tot.ite (fun _ => ?_) (fun _ => ?_) | refine Tot.chk0 ?_ | refine Tot.ret ?_ | refine sE.l ?_ | refine sE.r ?_) | with_reducible refine Tot.chk (by (first | assumption | omega | (simp [inb, room, imax] at *; try omega))) ?_ | (refine (And.intro (a := IntKind.i64.wrap _ = _) (wrap64 (by omega) (by omega)) ?_))))
        · (all_goals (try (first | trivial | (intro h; cases h; done) | (first | assumption | omega | (simp [inb, room, imax] at *; try omega)))))
        · exact ⟨by omega, by omega⟩
  · (refine Tot.letV ?_; refine Tot.iteF (by simp) ?_; (repeat' (first | (with_reducible first | refine Tot.letV ?_ | refine Tot.bindS ?_ | refine Tot.blockS ?_ | refine Tot.mapl ?_ | refine Tot.ite (fun _ => ?_) (fun _ => ?_) | refine Tot.chk0 ?_ | refine Tot.ret ?_ | refine sE.l ?_ | refine sE.r ?_) | with_reducible refine Tot.chk (by (first | assumption | omega | (simp [inb, room, imax] at *; try omega))) ?_ | (refine (And.intro (a := IntKind.i64.wrap _ = _) (wrap64 (by omega) (by omega)) ?_)))))
    refine Tot.call (F27f37_tot hK (by omega) h.face (by omega)) (fun v hv => ?_)
    (repeat' (first | (with_reducible first | refine Tot.letV ?_ | refine Tot.bindS ?_ | refine Tot.blockS ?_ | refine Tot.mapl ?_ | refine Tot.ite (fun _ => ?_) (fun _ => ?_) | refine Tot.chk0 ?_ | refine Tot.ret ?_ | refine sE.l ?_ | refine sE.r ?_) | with_reducible refine Tot.chk (by (first | assumption | omega | (simp [inb, room, imax] at *; try omega))) ?_ | (refine (And.intro (a := IntKind.i64.wrap _ = _) (wrap64 (by omega) (by omega)) ?_))))
    exact fun _ => hp
theorem F58_tot {K : Nat} {a0 : S29} {a1 a2 : Int} (hK : 1000 < K) (h : Ahead a0) (hl : a0.fClasses.length ≤ 900) (h1 : a1 < a0.fClasses.length) : Ret (F58 K a0 a1 a2) (fun _ => True) := by
  refine Ret.of ?_
  unfold F58
  refine Tot.bindS (Tot.blockS (Tot.mapl ?_))
  refine Tot.loop (fun t => t < a0.fClasses.length) (fun t => (t + 1).toNat) h1 (by omega) (fun t ht => ?_)
  refine Tot.letV (Tot.ite (fun hc => ?_) (fun _ => ?_))
  · simp only [Bool.and_eq_true, decide_eq_true_eq] at hc
    obtain ⟨n, rfl⟩ : ∃ n : Nat, t = n := ⟨t.toNat, by omega⟩
    have h2 := h n (by omega)
    (repeat' (first | (with_reducible first | refine Tot.letV ?_ | refine Tot.bindS ?_ | refine Tot.blockS ?_ | refine Tot.mapl ?_ | refine Tot.ite (fun _ => ?_) (fun _ => ?_) | refine Tot.chk0 ?_ | refine Tot.ret ?_ | refine sE.l ?_ | refine sE.r ?_) | with_reducible refine Tot.chk (by (first | assumption | omega | (simp [inb, room, imax] at *; try omega))) ?_))
    simp only [Int.toNat_natCast]
    omega
  · (repeat' (first | (with_reducible first | refine Tot.letV ?_ | refine Tot.bindS ?_ | refine Tot.blockS ?_ | refine Tot.mapl ?_ | refine Tot.ite (fun _ => ?_) (fun _ => ?_) | refine Tot.chk0 ?_ | refine Tot.ret ?_ | refine sE.l ?_ | refine sE.r ?_) | with_reducible refine Tot.chk (by (first | assumption | omega | (simp [inb, room, imax] at *; try omega))) ?_))
    (all_goals (try (first | trivial | (intro h; cases h; done) | (first | assumption | omega | (simp [inb, room, imax] at *; try omega)))))
theorem F38_tot {K : Nat} {a0 : S29} {a1 : Int} {a2 : List Int} {a3 : List Bytes} {m : Nat} (hK : 1000 < K) (h : Ahead a0) (hs : Sm a0 m) (h1 : a1 < a0.fClasses.length) (h2 : a2.length ≤ 900) : Ret (F38 K a0 a1 a2 a3) (fun _ => True) := by
  have hl := hs.classes
  refine Ret.of ?_
  unfold F38
  refine Tot.letV (Tot.ite (fun _ => ?_) (fun hq => ?_))
  · (repeat' (first | (with_reducible first | refine Tot.letV ?_ | refine Tot.bindS ?_ | refine Tot.blockS ?_ | refine Tot.mapl ?_ | refine Tot.ite (fun _ => ?_) (fun _ => ?_) | refine Tot.chk0 ?_ | refine Tot.ret ?_ | refine sE.l ?_ | refine sE.r ?_) | with_reducible refine Tot.chk (by (first | assumption | omega | (simp [inb, room, imax] at *; try omega))) ?_ | (refine (And.intro (a := IntKind.i64.wrap _ = _) (wrap64 (by omega) (by omega)) ?_))))
    (all_goals (try (first | trivial | (intro h; cases h; done) | (first | assumption | omega | (simp [inb, room, imax] at *; try omega)))))
  · simp only [bne_iff_ne, Decidable.not_not, Int.ofNat_eq_natCast, ne_eq] at hq
    refine Tot.bindS (Tot.blockS (Tot.mapl ?_))
    refine Tot.up a2.length (by omega) (fun i hi => ?_) ?_
    · have h3 : inb (i : Int) a3.length = true := inb_nat (by omega)
      have h4 : inb (i : Int) a2.length = true := inb_nat hi
      refine Tot.letV (Tot.iteT (by simp only [Int.ofNat_eq_natCast, decide_eq_true_eq]; omega) ?_)
      simp only [Int.toNat_natCast]
      refine Tot.bindS (Tot.blockS (Tot.chk h4 (Tot.chk0 (Tot.letV (Tot.ite (fun _ => ?_) (fun hq1 => ?_))))))
      · (repeat' (first | (with_reducible first | refine Tot.letV ?_ | refine Tot.bindS ?_ | refine Tot.blockS ?_ | refine Tot.mapl ?_ | refine Tot.ite (fun _ => ?_) (fun _ => ?_) | refine Tot.chk0 ?_ | refine Tot.ret ?_ | refine sE.l ?_ | refine sE.r ?_) | with_reducible refine Tot.chk (by (first | assumption | omega | (simp [inb, room, imax] at *; try omega))) ?_ | (refine (And.intro (a := IntKind.i64.wrap _ = _) (wrap64 (by omega) (by omega)) ?_))))
        (all_goals (try (first | trivial | (intro h; cases h; done) | (first | assumption | omega | (simp [inb, room, imax] at *; try omega)))))
      refine Tot.letV (Tot.ite (fun _ => ?_) (fun hq2 => ?_))
      · (repeat' (first | (with_reducible first | refine Tot.letV ?_ | refine Tot.bindS ?_ | refine Tot.blockS ?_ | refine Tot.mapl ?_ | refine Tot.ite (fun _ => ?_) (fun _ => ?_) | refine Tot.chk0 ?_ | refine Tot.ret ?_ | refine sE.l ?_ | refine sE.r ?_) | with_reducible refine Tot.chk (by (first | assumption | omega | (simp [inb, room, imax] at *; try omega))) ?_ | (refine (And.intro (a := IntKind.i64.wrap _ = _) (wrap64 (by omega) (by omega)) ?_))))
        (all_goals (try (first | trivial | (intro h; cases h; done) | (first | assumption | omega | (simp [inb, room, imax] at *; try omega)))))
      simp only [Bool.or_eq_true, decide_eq_true_eq, not_or, Int.ofNat_eq_natCast] at hq2
      have hc := getD_all (d := default) hs.code (i := (a2.getD i default).toNat) (by omega)
      refine Tot.chk (by simp only [inb, Bool.and_eq_true, decide_eq_true_eq]; omega) (Tot.chk0 (Tot.letV ?_))
      refine Tot.callC (fun hx => F58_tot hK h (by omega) h1) (fun v hv => ?_)
      refine Tot.chk (by rw [h3, Bool.or_true]) (Tot.chk0 ?_)
      refine Tot.callC (fun hx => F59_tot (by have := hc.p; omega)) (fun v2 _ => ?_)
      (repeat' (first | (with_reducible first | refine Tot.letV ?_ | refine Tot.bindS ?_ | refine Tot.blockS ?_ | refine Tot.mapl ?_ | refine Tot.ite (fun _ => ?_) (fun _ => ?_) | refine Tot.chk0 ?_ | refine Tot.ret ?_ | refine sE.l ?_ | refine sE.r ?_) | with_reducible refine Tot.chk (by (first | assumption | omega | (simp [inb, room, imax] at *; try omega))) ?_ | (refine (And.intro (a := IntKind.i64.wrap _ = _) (wrap64 (by omega) (by omega)) ?_))))
      (all_goals (try (first | trivial | (intro h; cases h; done) | (first | assumption | omega | (simp [inb, room, imax] at *; try omega)))))
    · (refine Tot.letV ?_; refine Tot.iteF (by simp) ?_; (repeat' (first | (with_reducible first | refine Tot.letV ?_ | refine Tot.bindS ?_ | refine Tot.blockS ?_ | refine Tot.mapl ?_ | refine Tot.ite (fun _ => ?_) (fun _ => ?_) | refine Tot.chk0 ?_ | refine Tot.ret ?_ | refine sE.l ?_ | refine sE.r ?_) | with_reducible refine Tot.chk (by (first | assumption | omega | (simp [inb, room, imax] at *; try omega))) ?_ | (refine (And.intro (a := IntKind.i64.wrap _ = _) (wrap64 (by omega) (by omega)) ?_)))))
      (all_goals (try (first | trivial | (intro h; cases h; done) | (first | assumption | omega | (simp [inb, room, imax] at *; try omega)))))
end Go.Proofs.YtngjamedgphjiaaGreatDoor

namespace Go.Proofs.YtngjamedgphjiaaGreatDoor
open Go Go.Dl
set_option maxRecDepth 100000
set_option maxHeartbeats 1000000
theorem F18_tot {K : Nat} {a0 : S29} {m : Nat} (hK : 1000 < K) (hm : m ≤ 1) (h : Ahead a0) (hs : Sm a0 m) : Ret (F18 K a0) (fun _ => True) := by
  have hl := hs.classes
  refine Ret.of ?_
  unfold F18
  refine Tot.bindS (Tot.blockS (Tot.mapl ?_))
  refine Tot.up a0.fClasses.length (by omega) (fun i hi => ?_) ?_
  · have hd := getD_all (d := default) hs.cls hi
    have h4 : inb (i : Int) a0.fClasses.length = true := inb_nat hi
    refine Tot.letV (Tot.iteT (by simp only [Int.ofNat_eq_natCast, decide_eq_true_eq]; omega) ?_)
    simp only [Int.toNat_natCast]
    refine Tot.bindS (Tot.blockS (Tot.chk h4 (Tot.chk0 (Tot.letV (Tot.letV ?_)))))
    refine Tot.call (F38_tot hK h hs (by omega) (by have := hd.v; omega)) (fun v _ => ?_)
    refine Tot.ite (fun _ => ?_) (fun _ => ?_)
    · (repeat' (first | (with_reducible first | refine Tot.letV ?_ | refine Tot.bindS ?_ | refine Tot.blockS ?_ | refine Tot.mapl ?_ | refine Tot.ite (fun _ => ?_) (fun _ => ?_) | refine Tot.chk0 ?_ | refine Tot.ret ?_ | refine sE.l ?_ | refine sE.r ?_) | with_reducible refine Tot.chk (by (first | assumption | omega | (simp [inb, room, imax] at *; try omega))) ?_ | (refine (And.intro (a := IntKind.i64.wrap _ = _) (wrap64 (by omega) (by omega)) ?_))))
      (all_goals (try (first | trivial | (intro h; cases h; done))))
    · refine Tot.letV (Tot.letV ?_)
      have ht := hd.t
      have htl := hd.l
      refine Tot.bindS (Tot.blockS (Tot.mapl ?_))
      generalize (a0.fClasses.getD i default).fTables = ts at ht htl ⊢
      refine Tot.loop (fun t : Int × Int => -1 ≤ t.1 ∧ 0 ≤ t.2) (fun t => ts.length - t.2.toNat) ⟨by simp, by simp⟩ (by simp; omega) (fun t hI => ?_)
      obtain ⟨t1, t2⟩ := t
      obtain ⟨hI1, hI2⟩ := hI
      simp only at hI1 hI2 ⊢
      refine Tot.ite (fun hc => ?_) (fun _ => ?_)
      · simp only [Int.ofNat_eq_natCast, decide_eq_true_eq] at hc
        obtain ⟨j, rfl⟩ : ∃ n : Nat, t2 = n := ⟨t2.toNat, by omega⟩
        have hj : j < ts.length := by omega
        have h5 : inb (j : Int) ts.length = true := inb_nat hj
        have h6 := getD_all (d := default) htl hj
        simp only [Int.toNat_natCast]
        refine Tot.bindS (Tot.blockS (Tot.chk h5 (Tot.chk0 ?_)))
        refine Tot.chk ?_ (Tot.chk0 (Tot.letV ?_))
        · rw [Bool.or_eq_true]
          simp only [Bool.not_not, inb, Bool.and_eq_true, Bool.or_eq_true, decide_eq_true_eq, Int.ofNat_eq_natCast]
          omega
        refine Tot.callC (fun hx => F38_tot hK h hs (by omega) (by omega)) (fun v _ => ?_)
        refine Tot.ite (fun _ => ?_) (fun hc2 => ?_)
        · (repeat' (first | (with_reducible first | refine Tot.letV ?_ | refine Tot.bindS ?_ | refine Tot.blockS ?_ | refine Tot.mapl ?_ | refine Tot.ite (fun _ => ?_) (fun _ => ?_) | refine Tot.chk0 ?_ | refine Tot.ret ?_ | refine sE.l ?_ | refine sE.r ?_) | with_reducible refine Tot.chk (by (first | assumption | omega | (simp [inb, room, imax] at *; try omega))) ?_ | (refine (And.intro (a := IntKind.i64.wrap _ = _) (wrap64 (by omega) (by omega)) ?_))))
          (all_goals (try (first | trivial | (intro h; cases h; done))))
        · simp only [Bool.or_eq_true, decide_eq_true_eq, not_or, Int.ofNat_eq_natCast] at hc2
          (repeat' (first | (with_reducible first | refine Tot.letV ?_ | refine Tot.bindS ?_ | refine Tot.blockS ?_ | refine Tot.mapl ?_ | refine Tot.ite (fun _ => ?_) (fun _ => ?_) | refine Tot.chk0 ?_ | refine Tot.ret ?_ | refine sE.l ?_ | refine sE.r ?_) | with_reducible refine Tot.chk (by (first | assumption | omega | (simp [inb, room, imax] at *; try omega))) ?_ | (refine (And.intro (a := IntKind.i64.wrap _ = _) (wrap64 (by omega) (by omega)) ?_))))
          refine ⟨⟨by omega, ?_⟩, ?_⟩
          · rw [wrap64 (by omega) (by omega)]; omega
          · rw [wrap64 (by omega) (by omega)]; omega
      · (repeat' (first | (with_reducible first | refine Tot.letV ?_ | refine Tot.bindS ?_ | refine Tot.blockS ?_ | refine Tot.mapl ?_ | refine Tot.ite (fun _ => ?_) (fun _ => ?_) | refine Tot.chk0 ?_ | refine Tot.ret ?_ | refine sE.l ?_ | refine sE.r ?_) | with_reducible refine Tot.chk (by (first | assumption | omega | (simp [inb, room, imax] at *; try omega))) ?_ | (refine (And.intro (a := IntKind.i64.wrap _ = _) (wrap64 (by omega) (by omega)) ?_))))
        (all_goals (try (first | trivial | (intro h; cases h; done))))
  · (refine Tot.letV ?_; refine Tot.iteF (by simp) ?_; (repeat' (first | (with_reducible first | refine Tot.letV ?_ | refine Tot.bindS ?_ | refine Tot.blockS ?_ | refine Tot.mapl ?_ | refine Tot.ite (fun _ => ?_) (fun _ => ?_) | refine Tot.chk0 ?_ | refine Tot.ret ?_ | refine sE.l ?_ | refine sE.r ?_) | with_reducible refine Tot.chk (by (first | assumption | omega | (simp [inb, room, imax] at *; try omega))) ?_ | (refine (And.intro (a := IntKind.i64.wrap _ = _) (wrap64 (by omega) (by omega)) ?_)))))
    (all_goals (try (first | trivial | (intro h; cases h; done))))
theorem F81_tot {K : Nat} {a0 : List Int} {a1 : Int} (hK : 1000 < K) (h : a0.length ≤ 900) : Ret (F81 K a0 a1) (fun _ => True) := by
  refine Ret.of ?_
  unfold F81
  refine Tot.bindS (Tot.blockS (Tot.mapl ?_))
  refine Tot.up a0.length (by omega) (fun i hi => ?_) ?_
  · (refine Tot.letV ?_; refine Tot.iteT (by simp only [Int.ofNat_eq_natCast, decide_eq_true_eq]; omega) ?_; simp only [Int.toNat_natCast]; (repeat' (first | (with_reducible first | refine Tot.letV ?_ | refine Tot.bindS ?_ | refine Tot.blockS ?_ | refine Tot.mapl ?_ | refine Tot.ite (fun _ => ?_) (fun _ => ?_) | refine Tot.chk0 ?_ | refine Tot.ret ?_ | refine sE.l ?_ | refine sE.r ?_) | with_reducible refine Tot.chk (by (first | assumption | omega | (simp [inb, room, imax] at *; try omega))) ?_ | (refine (And.intro (a := IntKind.i64.wrap _ = _) (wrap64 (by omega) (by omega)) ?_)))))
    (all_goals (try (first | trivial | (intro h; cases h; done))))
  · (refine Tot.letV ?_; refine Tot.iteF (by simp) ?_; (repeat' (first | (with_reducible first | refine Tot.letV ?_ | refine Tot.bindS ?_ | refine Tot.blockS ?_ | refine Tot.mapl ?_ | refine Tot.ite (fun _ => ?_) (fun _ => ?_) | refine Tot.chk0 ?_ | refine Tot.ret ?_ | refine sE.l ?_ | refine sE.r ?_) | with_reducible refine Tot.chk (by (first | assumption | omega | (simp [inb, room, imax] at *; try omega))) ?_ | (refine (And.intro (a := IntKind.i64.wrap _ = _) (wrap64 (by omega) (by omega)) ?_)))))
    (all_goals (try (first | trivial | (intro h; cases h; done))))
theorem F60_tot {K : Nat} {a0 : List Int} {a1 : Int} (hK : 1000 < K) (h : a0.length ≤ 900) : Ret (F60 K a0 a1) (fun _ => True) := by
  refine Ret.of ?_
  unfold F60
  refine Tot.call (F81_tot hK h) (fun v _ => ?_)
  (repeat' (first | (with_reducible first | refine Tot.ret ?_ | refine sE.l ?_ | refine sE.r ?_)))
  (all_goals (try (first | trivial | (intro h; cases h; done))))
theorem F62_tot {K : Nat} {a0 : S50} (hK : 1000 < K) (h : a0.fSlots.length ≤ 900) : Ret (F62 K a0) (fun _ => True) := by
  refine Ret.of ?_
  unfold F62
  refine Tot.call (F60_tot hK h) (fun v _ => ?_)
  (repeat' (first | (with_reducible first | refine Tot.ret ?_ | refine sE.l ?_ | refine sE.r ?_)))
  (all_goals (try (first | trivial | (intro h; cases h; done))))
theorem F61f62_tot {K : Nat} {l : List S50} (hK : 1000 < K) (hl : l.length ≤ 900) (h : ∀ t ∈ l, t.fSlots.length ≤ 40) : Ret (F61f62 K l) (fun _ => True) := cfF_any (g := F62 K) hK hl fun x hx => F62_tot hK (by have := h x hx; omega)
theorem F40_tot {K : Nat} {a0 : S29} {a1 : Int} {m : Nat} (hK : 1000 < K) (hm : m ≤ 1) (h : Sm a0 m) : Ret (F40 K a0 a1) (fun v => (a1 < 0 ∨ a1 ≥ a0.fClasses.length) → v = true) := by
  refine Ret.of ?_
  unfold F40
  refine Tot.letV (Tot.ite (fun _ => ?_) (fun hc => ?_))
  · (repeat' (first | (with_reducible first | refine Tot.letV ?_ | refine Tot.ite (fun _ => ?_) (fun _ => ?_) | refine Tot.chk0 ?_ | refine Tot.ret ?_ | refine sE.l ?_ | refine sE.r ?_) | with_reducible refine Tot.chk (by (first | assumption | omega | (simp [inb, room, imax] at *; try omega))) ?_))
    (all_goals (try (first | trivial | (intro h; cases h; done))))
    all_goals simp
  · simp only [Bool.or_eq_true, decide_eq_true_eq, not_or, Int.ofNat_eq_natCast] at hc
    have hd := getD_all (d := default) h.cls (i := a1.toNat) (by omega)
    refine Tot.chk (by simp only [inb, Bool.and_eq_true, decide_eq_true_eq]; omega) (Tot.chk0 (Tot.letV ?_))
    refine Tot.call (F60_tot hK (by have := hd.v; omega)) (fun v _ => ?_)
    refine Tot.callC (fun _ => F61f62_tot hK (by have := hd.t; omega) hd.l) (fun v _ => ?_)
    (repeat' (first | (with_reducible first | refine Tot.letV ?_ | refine Tot.ite (fun _ => ?_) (fun _ => ?_) | refine Tot.chk0 ?_ | refine Tot.ret ?_ | refine sE.l ?_ | refine sE.r ?_) | with_reducible refine Tot.chk (by (first | assumption | omega | (simp [inb, room, imax] at *; try omega))) ?_))
    exact fun h => by omega
theorem F39_tot {K : Nat} {a0 : S29} {a1 : Int} {m : Nat} (hK : 1000 < K) (hm : m ≤ 1) (h : Sm a0 m) : Ret (F39 K a1 a0) (fun v => (a1 < 0 ∨ a1 ≥ a0.fClasses.length) → v = true) := by
  refine Ret.of ?_
  unfold F39
  refine Tot.call (F40_tot hK hm h) (fun v hv => ?_)
  (repeat' (first | (with_reducible first | refine Tot.ret ?_ | refine sE.l ?_ | refine sE.r ?_)))
  exact hv
theorem F41_tot {K : Nat} {a0 : Int} : Ret (F41 K a0) (fun _ => True) := by
  refine Ret.of ?_
  unfold F41
  (repeat' (first | (with_reducible first | refine Tot.letV ?_ | refine Tot.ret ?_ | refine sE.l ?_ | refine sE.r ?_)))
  (all_goals (try (first | trivial | (intro h; cases h; done))))
theorem F42_tot {K : Nat} {a0 : S78} {a1 : S29} : Ret (F42 K a0 a1) (fun _ => True) := by
  refine Ret.of ?_
  unfold F42
  refine Tot.chk ?_ (Tot.chk0 (Tot.letV ?_))
  · rw [Bool.or_eq_true]
    simp only [Bool.not_not, inb, Bool.and_eq_true, Bool.or_eq_true, decide_eq_true_eq, Int.ofNat_eq_natCast]
    omega
  (repeat' (first | (with_reducible first | refine Tot.letV ?_ | refine Tot.chk0 ?_ | refine Tot.ret ?_ | refine sE.l ?_ | refine sE.r ?_) | with_reducible refine Tot.chk (by (first | assumption | omega | (simp [inb, room, imax] at *; try omega))) ?_))
  (all_goals (try (first | trivial | (intro h; cases h; done))))
theorem F43f39_tot {K : Nat} {l : List Int} {a0 : S29} {m : Nat} (hK : 1000 < K) (hm : m ≤ 1) (hl : l.length ≤ 900) (h : Sm a0 m) : Ret (F43f39 K l a0) (fun v => (v = false ∧ ∀ x ∈ l, ¬ (x < 0 ∨ x ≥ a0.fClasses.length)) ∨ v = true) :=
  (cfF_tot (g := fun x => F39 K x a0) hK hl fun x hx => F39_tot hK hm h).weak fun v hv => by
    rcases hv with ⟨h1, h2⟩ | ⟨h1, h2⟩
    · exact Or.inl ⟨h1, fun x hx hq => by cases h2 x hx hq⟩
    · exact Or.inr h1
theorem F43f41_tot {K : Nat} {l : List Int} (hK : 1000 < K) (hl : l.length ≤ 900) : Ret (F43f41 K l) (fun _ => True) := cfF_any (g := F41 K) hK hl fun _ _ => F41_tot
theorem F44f42_tot {K : Nat} {l : List S78} {a0 : S29} (hK : 1000 < K) (hl : l.length ≤ 900) : Ret (F44f42 K l a0) (fun _ => True) := cfF_any (g := fun x => F42 K x a0) hK hl fun _ _ => F42_tot
theorem F44f45_tot {K : Nat} {l : List S78} {a0 : S78} (hK : 1000 < K) (hl : l.length ≤ 900) : Ret (F44f45 K l a0) (fun _ => True) := cfF_any (g := fun x => F45 K x a0) hK hl fun _ _ => ⟨_, rfl, trivial⟩
theorem F46f47_tot {K : Nat} {l : List S42} {a0 : S42} (hK : 1000 < K) (hl : l.length ≤ 900) : Ret (F46f47 K l a0) (fun v => (v = false ∧ ∀ x ∈ l, x.fCode ≠ a0.fCode) ∨ (v = true ∧ ∃ x ∈ l, x.fCode = a0.fCode)) :=
  (cfF_tot (g := fun x => F47 K x a0) (P := fun x v => v = (x.fCode == a0.fCode)) hK hl fun _ _ => ⟨_, rfl, rfl⟩).weak fun v hv => by
    rcases hv with ⟨h1, h2⟩ | ⟨h1, x, h2, h3⟩
    · exact Or.inl ⟨h1, fun x hx hq => by have := h2 x hx; simp [hq] at this⟩
    · exact Or.inr ⟨h1, x, h2, by simpa using h3.symm⟩
def JobOk (a0 : S29) (j : S42) : Prop := 0 ≤ j.fCode ∧ j.fCode < a0.fCodes.length ∧ (a0.fCodes.getD j.fCode.toNat default).fClass = -1 ∧ 1 ≤ j.fEvery ∧ j.fEvery ≤ 100 ∧ 0 ≤ j.fFirst ∧ j.fFirst ≤ 9
theorem F19_tot {K : Nat} {a0 : S29} {m : Nat} (hK : 1000 < K) (hm : m ≤ 1) (h : Sm a0 m) : Ret (F19 K a0) (fun v => v = true → (∀ x ∈ a0.fInsts, ¬ (x < 0 ∨ x ≥ a0.fClasses.length)) ∧ (∀ j ∈ a0.fJobs, JobOk a0 j)) := by
  have h1 := h.insts
  have h2 := h.blocks
  have h3 := h.ins
  have h4 := h.outs
  have h5 := h.jobs
  refine Ret.of ?_
  unfold F19
  refine Tot.call (F43f39_tot hK hm (by omega) h) (fun v1 hv1 => ?_)
  refine Tot.callC (fun _ => F43f41_tot hK (by omega)) (fun v2 _ => ?_)
  refine Tot.callC (fun _ => F44f42_tot hK (by omega)) (fun v3 _ => ?_)
  refine Tot.callC (fun _ => F44f42_tot hK (by omega)) (fun v4 _ => ?_)
  refine Tot.ite (fun _ => ?_) (fun hc => ?_)
  · (repeat' (first | (with_reducible first | refine Tot.letV ?_ | refine Tot.bindS ?_ | refine Tot.blockS ?_ | refine Tot.mapl ?_ | refine Tot.ite (fun _ => ?_) (fun _ => ?_) | refine Tot.chk0 ?_ | refine Tot.ret ?_ | refine sE.l ?_ | refine sE.r ?_) | with_reducible refine Tot.chk (by (first | assumption | omega | (simp [inb, room, imax] at *; try omega))) ?_ | (refine (And.intro (a := IntKind.i64.wrap _ = _) (wrap64 (by omega) (by omega)) ?_))))
    (all_goals (try (first | trivial | (intro h; cases h; done))))
  have hi : ∀ x ∈ a0.fInsts, ¬ (x < 0 ∨ x ≥ a0.fClasses.length) := by
    rcases hv1 with ⟨_, h⟩ | rfl
    · exact h
    · simp at hc
  refine Tot.bindS (Tot.blockS (Tot.mapl ?_))
  refine Tot.up a0.fOuts.length (by omega) (fun i hi => ?_) ?_
  · refine Tot.letV (Tot.iteT (by simp only [Int.ofNat_eq_natCast, decide_eq_true_eq]; omega) ?_)
    simp only [Int.toNat_natCast]
    refine Tot.bindS (Tot.blockS (Tot.chk (inb_nat hi) (Tot.chk0 (Tot.chk (by simp [bndOk]; omega) (Tot.chk0 (Tot.letV ?_))))))
    refine Tot.call (F44f45_tot hK (by simp; omega)) (fun v _ => ?_)
    (repeat' (first | (with_reducible first | refine Tot.letV ?_ | refine Tot.bindS ?_ | refine Tot.blockS ?_ | refine Tot.mapl ?_ | refine Tot.ite (fun _ => ?_) (fun _ => ?_) | refine Tot.chk0 ?_ | refine Tot.ret ?_ | refine sE.l ?_ | refine sE.r ?_) | with_reducible refine Tot.chk (by (first | assumption | omega | (simp [inb, room, imax] at *; try omega))) ?_ | (refine (And.intro (a := IntKind.i64.wrap _ = _) (wrap64 (by omega) (by omega)) ?_))))
    (all_goals (try (first | trivial | (intro h; cases h; done))))
  · (refine Tot.letV ?_; refine Tot.iteF (by simp) ?_; (repeat' (first | (with_reducible first | refine Tot.letV ?_ | refine Tot.bindS ?_ | refine Tot.blockS ?_ | refine Tot.mapl ?_ | refine Tot.ite (fun _ => ?_) (fun _ => ?_) | refine Tot.chk0 ?_ | refine Tot.ret ?_ | refine sE.l ?_ | refine sE.r ?_) | with_reducible refine Tot.chk (by (first | assumption | omega | (simp [inb, room, imax] at *; try omega))) ?_ | (refine (And.intro (a := IntKind.i64.wrap _ = _) (wrap64 (by omega) (by omega)) ?_)))))
    (all_goals (try (first | trivial | (intro h; cases h; done))))
    refine Tot.upP a0.fJobs.length (fun i => JobOk a0 (a0.fJobs.getD i default)) (by omega) (fun i hi => ?_) (fun hp => ?_)
    · refine Tot.letV (Tot.iteT (by simp only [Int.ofNat_eq_natCast, decide_eq_true_eq]; omega) ?_)
      simp only [Int.toNat_natCast]
      refine Tot.bindS (Tot.blockS (Tot.chk (inb_nat hi) (Tot.chk0 (Tot.chk ?_ (Tot.chk0 (Tot.letV ?_))))))
      · rw [Bool.or_eq_true]
        simp only [Bool.not_not, inb, Bool.and_eq_true, Bool.or_eq_true, decide_eq_true_eq, Int.ofNat_eq_natCast]
        omega
      refine Tot.ite (fun _ => ?_) (fun hc => ?_)
      · (repeat' (first | (with_reducible first | refine Tot.letV ?_ | refine Tot.bindS ?_ | refine Tot.blockS ?_ | refine Tot.mapl ?_ | refine Tot.ite (fun _ => ?_) (fun _ => ?_) | refine Tot.chk0 ?_ | refine Tot.ret ?_ | refine sE.l ?_ | refine sE.r ?_) | with_reducible refine Tot.chk (by (first | assumption | omega | (simp [inb, room, imax] at *; try omega))) ?_ | (refine (And.intro (a := IntKind.i64.wrap _ = _) (wrap64 (by omega) (by omega)) ?_))))
        (all_goals (try (first | trivial | (intro h; cases h; done))))
      simp only [Bool.or_eq_true, decide_eq_true_eq, not_or, Int.ofNat_eq_natCast, bne_iff_ne, Decidable.not_not, ne_eq] at hc
      refine Tot.chk (by simp [bndOk]; omega) (Tot.chk0 (Tot.letV ?_))
      refine Tot.call (F46f47_tot hK (by simp; omega)) (fun v _ => ?_)
      (repeat' (first | (with_reducible first | refine Tot.letV ?_ | refine Tot.bindS ?_ | refine Tot.blockS ?_ | refine Tot.mapl ?_ | refine Tot.ite (fun _ => ?_) (fun _ => ?_) | refine Tot.chk0 ?_ | refine Tot.ret ?_ | refine sE.l ?_ | refine sE.r ?_) | with_reducible refine Tot.chk (by (first | assumption | omega | (simp [inb, room, imax] at *; try omega))) ?_ | (refine (And.intro (a := IntKind.i64.wrap _ = _) (wrap64 (by omega) (by omega)) ?_))))
      · (all_goals (try (first | trivial | (intro h; cases h; done))))
      · exact ⟨by omega, by omega, by omega, by omega, by omega, by omega, by omega⟩
    · (refine Tot.letV ?_; refine Tot.iteF (by simp) ?_; (repeat' (first | (with_reducible first | refine Tot.letV ?_ | refine Tot.bindS ?_ | refine Tot.blockS ?_ | refine Tot.mapl ?_ | refine Tot.ite (fun _ => ?_) (fun _ => ?_) | refine Tot.chk0 ?_ | refine Tot.ret ?_ | refine sE.l ?_ | refine sE.r ?_) | with_reducible refine Tot.chk (by (first | assumption | omega | (simp [inb, room, imax] at *; try omega))) ?_ | (refine (And.intro (a := IntKind.i64.wrap _ = _) (wrap64 (by omega) (by omega)) ?_)))))
      exact fun _ => ⟨hi, all_getD hp⟩
end Go.Proofs.YtngjamedgphjiaaGreatDoor
