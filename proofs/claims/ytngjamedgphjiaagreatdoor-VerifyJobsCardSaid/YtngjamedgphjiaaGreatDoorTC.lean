/- What a code may call: answers. The walk over the calls answers. Why and Image answer. No conditions. -/
import Derived.Test.YtngjamedgphjiaaGreatDoorTB
set_option linter.unusedVariables false
set_option linter.unusedSimpArgs false
set_option linter.unusedSectionVars false
namespace Go.Proofs.YtngjamedgphjiaaGreatDoor
open Go Go.Dl
set_option maxRecDepth 100000
set_option maxHeartbeats 2000000
theorem F118_tot {K : Nat} {l : List Int} {n : Int} (h : l.length ≤ 1000) : Ret (F118 K l n) (fun v => v.length ≤ 1) := by
  refine Ret.of ?_
  unfold F118
  refine Tot.letV (Tot.ite (fun _ => ?_) (fun hc => ?_))
  · (repeat' (first | (with_reducible first | refine Tot.letV ?_ | refine Tot.iteT (by assumption) ?_ | refine Tot.iteF (by assumption) ?_ | refine Tot.ite (fun _ => ?_) (fun _ => ?_) | refine Tot.chk0 ?_ | refine Tot.ret ?_ | refine sE.l ?_ | refine sE.r ?_)))
    simp
  simp only [Bool.or_eq_true, decide_eq_true_eq, not_or, Int.ofNat_eq_natCast] at hc
  rw [wrap64 (by omega) (by omega)]
  refine Tot.chk (by simp only [bndOk, Bool.and_eq_true, decide_eq_true_eq]; omega) (Tot.chk0 ?_)
  (repeat' (first | (with_reducible first | refine Tot.letV ?_ | refine Tot.iteT (by assumption) ?_ | refine Tot.iteF (by assumption) ?_ | refine Tot.ite (fun _ => ?_) (fun _ => ?_) | refine Tot.chk0 ?_ | refine Tot.ret ?_ | refine sE.l ?_ | refine sE.r ?_)))
  simp only [List.length_take, List.length_drop]
  omega
theorem F117_tot {K : Nat} {a0 : S29} {c : Int} {m : Nat} (hK : 1000 < K) (h : Sm a0 m) : Ret (F117 K a0 c) (fun v => v.length ≤ 40 ∧ ∀ x ∈ v, 0 ≤ x ∧ x < a0.fClasses.length) := by
  have hl := h.classes
  refine Ret.of ?_
  unfold F117
  refine Tot.letV (Tot.ite (fun _ => ?_) (fun hc => ?_))
  · (repeat' (first | (with_reducible first | refine Tot.letV ?_ | refine Tot.bindS ?_ | refine Tot.blockS ?_ | refine Tot.iteT (by assumption) ?_ | refine Tot.iteF (by assumption) ?_ | refine Tot.ite (fun _ => ?_) (fun _ => ?_) | refine Tot.chk0 ?_ | refine Tot.ret ?_ | refine sE.l ?_ | refine sE.r ?_)))
    simp
  refine Tot.bindS (Tot.blockS (Tot.mapl ?_))
  refine Tot.loop (fun t : List Int × Int => 0 ≤ t.2 ∧ t.2 ≤ a0.fClasses.length ∧ (t.1.length : Int) ≤ t.2 ∧ ∀ x ∈ t.1, 0 ≤ x ∧ x < a0.fClasses.length) (fun t => a0.fClasses.length - t.2.toNat) (by simp) (by simp; omega) (fun t hI => ?_)
  obtain ⟨l, i⟩ := t
  obtain ⟨hI1, hI2, hI3, hI4⟩ := hI
  simp only at hI1 hI2 hI3 hI4 ⊢
  refine Tot.letV (Tot.ite (fun hc => ?_) (fun hc => ?_))
  · simp only [Int.ofNat_eq_natCast, decide_eq_true_eq] at hc
    have hw : IntKind.i64.wrap (i + 1) = i + 1 := wrap64 (by omega) (by omega)
    have hw2 : IntKind.i64.wrap (Int.ofNat a0.fClasses.length + 1) = (a0.fClasses.length : Int) + 1 := wrap64 (by simp; omega) (by simp; omega)
    rw [hw, hw2]
    refine Tot.bindS (Tot.blockS (Tot.letV (Tot.bindS (Tot.blockS (Tot.mapl ?_)))))
    refine Tot.loop (fun t : Int × Int => 0 ≤ t.2) (fun t => a0.fClasses.length + 1 - t.2.toNat) (by simp) (by simp; omega) (fun t hJ => ?_)
    obtain ⟨at', k⟩ := t
    simp only at hJ ⊢
    refine Tot.ite (fun hk => ?_) (fun _ => ?_)
    · simp only [decide_eq_true_eq] at hk
      have hw3 : IntKind.i64.wrap (k + 1) = k + 1 := wrap64 (by omega) (by omega)
      rw [hw3]
      refine Tot.bindS (Tot.blockS (Tot.ite (fun _ => ?_) (fun _ => ?_)))
      · refine Tot.chk (by simp only [room, decide_eq_true_eq, List.length_cons, List.length_nil]; omega) (Tot.chk0 ?_)
        (repeat' (first | (with_reducible first | refine Tot.letV ?_ | refine Tot.bindS ?_ | refine Tot.blockS ?_ | refine Tot.iteT (by assumption) ?_ | refine Tot.iteF (by assumption) ?_ | refine Tot.ite (fun _ => ?_) (fun _ => ?_) | refine Tot.chk0 ?_ | refine Tot.ret ?_ | refine sE.l ?_ | refine sE.r ?_)))
        refine ⟨⟨by omega, by omega, by simp; omega, fun x hx => ?_⟩, by omega⟩
        rcases List.mem_append.1 hx with hx | hx
        · exact hI4 x hx
        · obtain rfl : x = i := by simpa using hx
          omega
      · refine Tot.letV (Tot.ite (fun _ => ?_) (fun hq => ?_))
        · (repeat' (first | (with_reducible first | refine Tot.letV ?_ | refine Tot.bindS ?_ | refine Tot.blockS ?_ | refine Tot.iteT (by assumption) ?_ | refine Tot.iteF (by assumption) ?_ | refine Tot.ite (fun _ => ?_) (fun _ => ?_) | refine Tot.chk0 ?_ | refine Tot.ret ?_ | refine sE.l ?_ | refine sE.r ?_)))
          exact ⟨⟨by omega, by omega, by show (l.length : Int) ≤ i + 1; omega, hI4⟩, by omega⟩
        · simp only [Bool.or_eq_true, decide_eq_true_eq, not_or, Int.ofNat_eq_natCast] at hq
          refine Tot.chk (by simp only [inb, Bool.and_eq_true, decide_eq_true_eq]; omega) (Tot.chk0 ?_)
          (repeat' (first | (with_reducible first | refine Tot.letV ?_ | refine Tot.bindS ?_ | refine Tot.blockS ?_ | refine Tot.iteT (by assumption) ?_ | refine Tot.iteF (by assumption) ?_ | refine Tot.ite (fun _ => ?_) (fun _ => ?_) | refine Tot.chk0 ?_ | refine Tot.ret ?_ | refine sE.l ?_ | refine sE.r ?_)))
          exact ⟨by omega, by omega⟩
    · (repeat' (first | (with_reducible first | refine Tot.letV ?_ | refine Tot.bindS ?_ | refine Tot.blockS ?_ | refine Tot.iteT (by assumption) ?_ | refine Tot.iteF (by assumption) ?_ | refine Tot.ite (fun _ => ?_) (fun _ => ?_) | refine Tot.chk0 ?_ | refine Tot.ret ?_ | refine sE.l ?_ | refine sE.r ?_)))
      exact ⟨⟨by omega, by omega, by show (l.length : Int) ≤ i + 1; omega, hI4⟩, by omega⟩
  · (repeat' (first | (with_reducible first | refine Tot.letV ?_ | refine Tot.bindS ?_ | refine Tot.blockS ?_ | refine Tot.iteT (by assumption) ?_ | refine Tot.iteF (by assumption) ?_ | refine Tot.ite (fun _ => ?_) (fun _ => ?_) | refine Tot.chk0 ?_ | refine Tot.ret ?_ | refine sE.l ?_ | refine sE.r ?_)))
    exact ⟨by omega, hI4⟩
theorem Tot.gather {A : Type} {K : Nat} {f : List Int × Int → Option (A ⊕ (List Int × Int))} {p : A → Prop} (n w : Nat) (l0 : List Int) (hn : n < K)
    (hs : ∀ (l : List Int) (i : Nat), i < n → l.length ≤ l0.length + i * w → Tot (f (l, (i : Int))) (sE p (fun t => t.1.length ≤ l.length + w ∧ t.2 = (i : Int) + 1)))
    (he : ∀ l : List Int, l.length ≤ l0.length + n * w → Tot (f (l, (n : Int))) (sE p (fun _ => False))) : Tot (iter K f (l0, 0)) p := by
  refine Tot.loop (fun t : List Int × Int => ∃ i : Nat, t.2 = i ∧ i ≤ n ∧ t.1.length ≤ l0.length + i * w) (fun t => n - t.2.toNat) ⟨0, rfl, by omega, by simp⟩ (by simpa using hn) ?_
  rintro ⟨l, t⟩ ⟨i, rfl, hi, hl⟩
  by_cases h : i = n
  · subst h
    refine (he l hl).weak ?_
    rintro (a | t) h
    · exact h
    · exact h.elim
  · refine (hs l i (by omega) hl).weak ?_
    rintro (a | ⟨l', t⟩) h
    · exact h
    · obtain ⟨h1, h2⟩ := h
      simp only at h1 h2
      have hl : l.length ≤ l0.length + i * w := hl
      subst h2
      refine ⟨⟨i + 1, by simp, by omega, ?_⟩, by simp; omega⟩
      simp only
      rw [Nat.add_mul]
      omega
theorem F102_tot {K : Nat} {a0 : S29} {c : S39} {o : S61} {m : Nat} (hK : 10000 < K) (hm : m ≤ 1) (h : Sm a0 m) : Ret (F102 K a0 c o) (fun v => v.length ≤ 2400) := by
  have hl := h.classes
  refine Ret.of ?_
  unfold F102
  (repeat' (first | (with_reducible first | refine Tot.letV ?_ | refine Tot.bindS ?_ | refine Tot.blockS ?_ | refine Tot.iteT (by assumption) ?_ | refine Tot.iteF (by assumption) ?_ | refine Tot.ite (fun _ => ?_) (fun _ => ?_) | refine Tot.chk0 ?_ | refine Tot.ret ?_ | refine sE.l ?_ | refine sE.r ?_)))
  · simp
  all_goals (try (simp; done))
  · refine Tot.call (F117_tot (by omega) h) (fun v hv => ?_)
    obtain ⟨hv1, hv2⟩ := hv
    refine Tot.bindS (Tot.blockS (Tot.mapl ?_))
    refine Tot.gather v.length 1 [] (by omega) (fun l i hi hll => ?_) (fun l hll => ?_)
    · have hx := getD_all (d := default) hv2 hi
      refine Tot.letV (Tot.iteT (by simp only [Int.ofNat_eq_natCast, decide_eq_true_eq]; omega) ?_)
      simp only [Int.toNat_natCast]
      have hd := getD_all (d := default) h.cls (i := (v.getD i default).toNat) (by omega)
      refine Tot.bindS (Tot.blockS (Tot.chk (inb_nat hi) (Tot.chk0 (Tot.chk (by simp only [inb, Bool.and_eq_true, decide_eq_true_eq]; omega) (Tot.chk0 (Tot.letV ?_))))))
      refine Tot.call (F118_tot (by have := hd.v; omega)) (fun v2 hv3 => ?_)
      simp at hll
      refine Tot.chk (by simp only [room, decide_eq_true_eq]; omega) (Tot.chk0 ?_)
      (repeat' (first | (with_reducible first | refine Tot.letV ?_ | refine Tot.bindS ?_ | refine Tot.blockS ?_ | refine Tot.iteT (by assumption) ?_ | refine Tot.iteF (by assumption) ?_ | refine Tot.ite (fun _ => ?_) (fun _ => ?_) | refine Tot.chk0 ?_ | refine Tot.ret ?_ | refine sE.l ?_ | refine sE.r ?_)))
      exact ⟨by simp; omega, wrap64 (by omega) (by omega)⟩
    · refine Tot.letV (Tot.iteF (by simp) ?_)
      (repeat' (first | (with_reducible first | refine Tot.letV ?_ | refine Tot.bindS ?_ | refine Tot.blockS ?_ | refine Tot.iteT (by assumption) ?_ | refine Tot.iteF (by assumption) ?_ | refine Tot.ite (fun _ => ?_) (fun _ => ?_) | refine Tot.chk0 ?_ | refine Tot.ret ?_ | refine sE.l ?_ | refine sE.r ?_)))
      simp at hll
      show l.length ≤ 2400
      omega
  · refine Tot.call (F117_tot (by omega) h) (fun v hv => ?_)
    obtain ⟨hv1, hv2⟩ := hv
    refine Tot.bindS (Tot.blockS (Tot.mapl ?_))
    refine Tot.gather v.length 1 [] (by omega) (fun l i hi hll => ?_) (fun l hll => ?_)
    · have hx := getD_all (d := default) hv2 hi
      refine Tot.letV (Tot.iteT (by simp only [Int.ofNat_eq_natCast, decide_eq_true_eq]; omega) ?_)
      simp only [Int.toNat_natCast]
      have hd := getD_all (d := default) h.cls (i := (v.getD i default).toNat) (by omega)
      refine Tot.bindS (Tot.blockS (Tot.chk (inb_nat hi) (Tot.chk0 (Tot.chk (by simp only [inb, Bool.and_eq_true, decide_eq_true_eq]; omega) (Tot.chk0 (Tot.letV ?_))))))
      refine Tot.call (F118_tot (by have := hd.v; omega)) (fun v2 hv3 => ?_)
      simp at hll
      refine Tot.chk (by simp only [room, decide_eq_true_eq]; omega) (Tot.chk0 ?_)
      (repeat' (first | (with_reducible first | refine Tot.letV ?_ | refine Tot.bindS ?_ | refine Tot.blockS ?_ | refine Tot.iteT (by assumption) ?_ | refine Tot.iteF (by assumption) ?_ | refine Tot.ite (fun _ => ?_) (fun _ => ?_) | refine Tot.chk0 ?_ | refine Tot.ret ?_ | refine sE.l ?_ | refine sE.r ?_)))
      exact ⟨by simp; omega, wrap64 (by omega) (by omega)⟩
    · refine Tot.letV (Tot.iteF (by simp) ?_)
      (repeat' (first | (with_reducible first | refine Tot.letV ?_ | refine Tot.bindS ?_ | refine Tot.blockS ?_ | refine Tot.iteT (by assumption) ?_ | refine Tot.iteF (by assumption) ?_ | refine Tot.ite (fun _ => ?_) (fun _ => ?_) | refine Tot.chk0 ?_ | refine Tot.ret ?_ | refine sE.l ?_ | refine sE.r ?_)))
      simp at hll
      show l.length ≤ 2400
      omega
  · refine Tot.mapl ?_
    refine Tot.gather a0.fClasses.length 60 [] (by omega) (fun l i hi hll => ?_) (fun l hll => ?_)
    · refine Tot.letV (Tot.iteT (by simp only [Int.ofNat_eq_natCast, decide_eq_true_eq]; omega) ?_)
      simp only [Int.toNat_natCast]
      have hd := getD_all (d := default) h.cls hi
      have ht := hd.t
      have htl := hd.l
      simp only [List.length_nil] at hll
      refine Tot.bindS (Tot.blockS (Tot.chk (inb_nat hi) (Tot.chk0 (Tot.letV (Tot.letV (Tot.bindS (Tot.blockS (Tot.mapl ?_))))))))
      generalize (a0.fClasses.getD i default).fTables = ts at ht htl ⊢
      refine Tot.gather ts.length 1 l (by omega) (fun l2 j hj hl2 => ?_) (fun l2 hl2 => ?_)
      · refine Tot.iteT (by simp only [Int.ofNat_eq_natCast, decide_eq_true_eq]; omega) ?_
        simp only [Int.toNat_natCast]
        have hq := getD_all (d := default) htl hj
        refine Tot.bindS (Tot.blockS (Tot.chk (inb_nat hj) (Tot.chk0 (Tot.letV (Tot.ite (fun _ => ?_) (fun _ => ?_))))))
        · refine Tot.letV ?_
          refine Tot.call (F118_tot (by omega)) (fun v2 hv3 => ?_)
          refine Tot.chk (by simp only [room, decide_eq_true_eq]; omega) (Tot.chk0 ?_)
          (repeat' (first | (with_reducible first | refine Tot.letV ?_ | refine Tot.bindS ?_ | refine Tot.blockS ?_ | refine Tot.iteT (by assumption) ?_ | refine Tot.iteF (by assumption) ?_ | refine Tot.ite (fun _ => ?_) (fun _ => ?_) | refine Tot.chk0 ?_ | refine Tot.ret ?_ | refine sE.l ?_ | refine sE.r ?_)))
          exact ⟨by simp; omega, wrap64 (by omega) (by omega)⟩
        · (repeat' (first | (with_reducible first | refine Tot.letV ?_ | refine Tot.bindS ?_ | refine Tot.blockS ?_ | refine Tot.iteT (by assumption) ?_ | refine Tot.iteF (by assumption) ?_ | refine Tot.ite (fun _ => ?_) (fun _ => ?_) | refine Tot.chk0 ?_ | refine Tot.ret ?_ | refine sE.l ?_ | refine sE.r ?_)))
          exact ⟨by simp, wrap64 (by omega) (by omega)⟩
      · refine Tot.iteF (by simp) ?_
        (repeat' (first | (with_reducible first | refine Tot.letV ?_ | refine Tot.bindS ?_ | refine Tot.blockS ?_ | refine Tot.iteT (by assumption) ?_ | refine Tot.iteF (by assumption) ?_ | refine Tot.ite (fun _ => ?_) (fun _ => ?_) | refine Tot.chk0 ?_ | refine Tot.ret ?_ | refine sE.l ?_ | refine sE.r ?_)))
        exact ⟨by show l2.length ≤ l.length + 60; omega, wrap64 (by omega) (by omega)⟩
    · refine Tot.letV (Tot.iteF (by simp) ?_)
      (repeat' (first | (with_reducible first | refine Tot.letV ?_ | refine Tot.bindS ?_ | refine Tot.blockS ?_ | refine Tot.iteT (by assumption) ?_ | refine Tot.iteF (by assumption) ?_ | refine Tot.ite (fun _ => ?_) (fun _ => ?_) | refine Tot.chk0 ?_ | refine Tot.ret ?_ | refine sE.l ?_ | refine sE.r ?_)))
      simp only [List.length_nil] at hll
      show l.length ≤ 2400
      omega
theorem F104_val {K : Nat} {a0 : S29} {x : Int} : Ret (F104 K x a0) (fun v => v = true ↔ ¬ (0 ≤ x ∧ x < a0.fCodes.length)) := by
  refine ⟨_, rfl, ?_⟩
  simp only [Bool.or_eq_true, decide_eq_true_eq, Int.ofNat_eq_natCast]
  omega
theorem Tot.upQ {A : Type} {K : Nat} {f : Int → Option (A ⊕ Int)} {p : A → Prop} (n : Nat) (P : Nat → Prop) (hK : n < K) (hs : ∀ i : Nat, i < n → (∀ j, j < i → P j) → Tot (f i) (sE p (fun t => t = (i : Int) + 1 ∧ P i))) (he : (∀ i, i < n → P i) → Tot (f n) (sE p (fun _ => False))) : Tot (iter K f 0) p := by
  refine Tot.loop (fun t => ∃ i : Nat, t = i ∧ i ≤ n ∧ ∀ j, j < i → P j) (fun t => n - t.toNat) ⟨0, rfl, by omega, by simp⟩ (by simpa using hK) ?_
  rintro t ⟨i, rfl, hi, hP⟩
  by_cases h : i = n
  · subst h
    refine (he hP).weak ?_
    rintro (a | t) h
    · exact h
    · exact h.elim
  · refine (hs i (by omega) hP).weak ?_
    rintro (a | t) h
    · exact h
    · obtain ⟨h1, h2⟩ := h
      subst h1
      refine ⟨⟨i + 1, by omega, by omega, fun j hj => ?_⟩, ?_⟩
      · by_cases h : j = i
        · subst h; exact h2
        · exact hP j (by omega)
      · omega
def InC (a0 : S29) (x : Int) : Prop := 0 ≤ x ∧ x < a0.fCodes.length
theorem F63f104_tot {K : Nat} {l : List Int} {a0 : S29} (hK : l.length < K) (hl : l.length ≤ 1000000) : Ret (F63f104 K l a0) (fun v => (v = -1 ∧ ∀ x ∈ l, InC a0 x) ∨ (0 ≤ v ∧ v < l.length ∧ ∀ j : Nat, (j : Int) < v → InC a0 (l.getD j default))) := by
  refine Ret.of ?_
  unfold F63f104
  refine Tot.bindS (Tot.blockS (Tot.mapl ?_))
  refine Tot.upQ l.length (fun i => InC a0 (l.getD i default)) hK (fun i hi hq => ?_) (fun hp => ?_)
  · refine Tot.letV (Tot.iteT (by simp only [Int.ofNat_eq_natCast, decide_eq_true_eq]; omega) ?_)
    simp only [Int.toNat_natCast]
    refine Tot.bindS (Tot.blockS (Tot.chk (inb_nat hi) (Tot.chk0 ?_)))
    refine Tot.call F104_val (fun v hv => ?_)
    refine Tot.ite (fun hc => ?_) (fun hc => ?_)
    · (repeat' (first | (with_reducible first | refine Tot.letV ?_ | refine Tot.bindS ?_ | refine Tot.blockS ?_ | refine Tot.iteT (by assumption) ?_ | refine Tot.iteF (by assumption) ?_ | refine Tot.ite (fun _ => ?_) (fun _ => ?_) | refine Tot.chk0 ?_ | refine Tot.ret ?_ | refine sE.l ?_ | refine sE.r ?_)))
      exact Or.inr ⟨by omega, by omega, fun j hj => hq j (by omega)⟩
    · (repeat' (first | (with_reducible first | refine Tot.letV ?_ | refine Tot.bindS ?_ | refine Tot.blockS ?_ | refine Tot.iteT (by assumption) ?_ | refine Tot.iteF (by assumption) ?_ | refine Tot.ite (fun _ => ?_) (fun _ => ?_) | refine Tot.chk0 ?_ | refine Tot.ret ?_ | refine sE.l ?_ | refine sE.r ?_)))
      exact ⟨wrap64 (by omega) (by omega), Classical.not_not.1 (fun h => hc (hv.2 h))⟩
  · refine Tot.letV (Tot.iteF (by simp) ?_)
    (repeat' (first | (with_reducible first | refine Tot.letV ?_ | refine Tot.bindS ?_ | refine Tot.blockS ?_ | refine Tot.iteT (by assumption) ?_ | refine Tot.iteF (by assumption) ?_ | refine Tot.ite (fun _ => ?_) (fun _ => ?_) | refine Tot.chk0 ?_ | refine Tot.ret ?_ | refine sE.l ?_ | refine sE.r ?_)))
    exact Or.inl ⟨rfl, all_getD hp⟩
theorem F103_tot {K : Nat} {l : List Int} {a0 : S29} (hK : l.length < K) (hl : l.length ≤ 1000000) : Ret (F103f104w K l a0) (fun v => v.length ≤ l.length ∧ ∀ x ∈ v, InC a0 x) := by
  refine Ret.of ?_
  unfold F103f104w
  refine Tot.callC (fun _ => F63f104_tot hK hl) (fun v hv => ?_)
  have hv := hv rfl
  refine Tot.ite (fun hc => ?_) (fun hc => ?_)
  · (repeat' (first | (with_reducible first | refine Tot.letV ?_ | refine Tot.bindS ?_ | refine Tot.blockS ?_ | refine Tot.iteT (by assumption) ?_ | refine Tot.iteF (by assumption) ?_ | refine Tot.ite (fun _ => ?_) (fun _ => ?_) | refine Tot.chk0 ?_ | refine Tot.ret ?_ | refine sE.l ?_ | refine sE.r ?_)))
    have hc : v = -1 := by simpa using hc
    rcases hv with ⟨_, h⟩ | ⟨h, _⟩
    · exact ⟨Nat.le_refl _, h⟩
    · omega
  have hc : v ≠ -1 := by simpa using hc
  rcases hv with ⟨h, _⟩ | ⟨h1, h2, h3⟩
  · exact absurd h hc
  rw [wrap64 (x := v + 1) (by omega) (by omega)]
  refine Tot.bindS (Tot.blockS (Tot.mapl ?_))
  refine Tot.loop (fun t : List Int × Int × Int => t.1.length = l.length ∧ 0 ≤ t.2.1 ∧ t.2.1 < t.2.2 ∧ t.2.2 ≤ l.length ∧ ∀ j : Nat, (j : Int) < t.2.1 → InC a0 (t.1.getD j default)) (fun t => l.length - t.2.2.toNat) ⟨rfl, h1, by simp; omega, by simp; omega, h3⟩ (by simp; omega) (fun t hI => ?_)
  obtain ⟨x, i, j⟩ := t
  obtain ⟨hI1, hI2, hI3, hI4, hI5⟩ := hI
  simp only at hI1 hI2 hI3 hI4 hI5 ⊢
  refine Tot.letV (Tot.ite (fun hj => ?_) (fun hj => ?_))
  · simp only [decide_eq_true_eq, Int.ofNat_eq_natCast] at hj
    have hw : IntKind.i64.wrap (j + 1) = j + 1 := wrap64 (by omega) (by omega)
    have hw2 : IntKind.i64.wrap (i + 1) = i + 1 := wrap64 (by omega) (by omega)
    rw [hw]
    refine Tot.bindS (Tot.blockS (Tot.chk (by simp only [inb, Bool.and_eq_true, decide_eq_true_eq]; omega) (Tot.chk0 ?_)))
    refine Tot.call F104_val (fun v2 hv2 => ?_)
    refine Tot.ite (fun hb => ?_) (fun hb => ?_)
    · refine Tot.chk (by simp only [inb, Bool.and_eq_true, decide_eq_true_eq]; omega) (Tot.chk0 ?_)
      rw [hw2]
      (repeat' (first | (with_reducible first | refine Tot.letV ?_ | refine Tot.bindS ?_ | refine Tot.blockS ?_ | refine Tot.iteT (by assumption) ?_ | refine Tot.iteF (by assumption) ?_ | refine Tot.ite (fun _ => ?_) (fun _ => ?_) | refine Tot.chk0 ?_ | refine Tot.ret ?_ | refine sE.l ?_ | refine sE.r ?_)))
      refine ⟨⟨by simpa using hI1, by show 0 ≤ i + 1; omega, by show i + 1 < j + 1; omega, by show j + 1 ≤ (l.length : Int); omega, fun q hq => ?_⟩, by show l.length - (j + 1).toNat < l.length - j.toNat; omega⟩
      have hq : (q : Int) < i + 1 := hq
      show InC a0 ((x.set i.toNat (x.getD j.toNat default)).getD q default)
      by_cases he : q = i.toNat
      · subst he
        rw [List.getD, List.getElem?_set_self (by omega)]
        exact Classical.not_not.1 (fun h => by
          have := hv2.2 h
          subst this
          simp at hb)
      · rw [List.getD, List.getElem?_set_ne (by omega)]
        exact hI5 q (by omega)
    · (repeat' (first | (with_reducible first | refine Tot.letV ?_ | refine Tot.bindS ?_ | refine Tot.blockS ?_ | refine Tot.iteT (by assumption) ?_ | refine Tot.iteF (by assumption) ?_ | refine Tot.ite (fun _ => ?_) (fun _ => ?_) | refine Tot.chk0 ?_ | refine Tot.ret ?_ | refine sE.l ?_ | refine sE.r ?_)))
      exact ⟨⟨hI1, hI2, by show i < j + 1; omega, by show j + 1 ≤ (l.length : Int); omega, hI5⟩, by show l.length - (j + 1).toNat < l.length - j.toNat; omega⟩
  · (repeat' (first | (with_reducible first | refine Tot.letV ?_ | refine Tot.bindS ?_ | refine Tot.blockS ?_ | refine Tot.iteT (by assumption) ?_ | refine Tot.iteF (by assumption) ?_ | refine Tot.ite (fun _ => ?_) (fun _ => ?_) | refine Tot.chk0 ?_ | refine Tot.ret ?_ | refine sE.l ?_ | refine sE.r ?_)))
    refine Tot.chk (by simp only [bndOk, Bool.and_eq_true, decide_eq_true_eq, Int.ofNat_eq_natCast]; omega) (Tot.chk0 (Tot.chk (by simp only [bndOk, Bool.and_eq_true, decide_eq_true_eq, clearL_length]; omega) (Tot.chk0 ?_)))
    (repeat' (first | (with_reducible first | refine Tot.letV ?_ | refine Tot.bindS ?_ | refine Tot.blockS ?_ | refine Tot.iteT (by assumption) ?_ | refine Tot.iteF (by assumption) ?_ | refine Tot.ite (fun _ => ?_) (fun _ => ?_) | refine Tot.chk0 ?_ | refine Tot.ret ?_ | refine sE.l ?_ | refine sE.r ?_)))
    rw [clearL_take _ _ _ _ (Nat.le_refl _)]
    refine ⟨by simp; omega, fun y hy => ?_⟩
    obtain ⟨q, hq, rfl⟩ := List.getElem_of_mem hy
    simp only [List.length_take] at hq
    have := hI5 q (by omega)
    rw [List.getElem_take]
    rwa [List.getD, List.getElem?_eq_getElem (by omega)] at this
end Go.Proofs.YtngjamedgphjiaaGreatDoor

namespace Go.Proofs.YtngjamedgphjiaaGreatDoor
open Go Go.Dl
set_option maxRecDepth 100000
set_option maxHeartbeats 2000000
theorem F106_tot {K : Nat} {l : List Int} {P : Int → Prop} (hK : l.length < K) (hl : l.length ≤ 1000000) (h : ∀ x ∈ l, P x) : Ret (F106w K l) (fun v => v.length ≤ l.length ∧ ∀ x ∈ v, P x) := by
  refine Ret.of ?_
  unfold F106w
  refine Tot.ite (fun _ => ?_) (fun hc => ?_)
  · (repeat' (first | (with_reducible first | refine Tot.letV ?_ | refine Tot.bindS ?_ | refine Tot.blockS ?_ | refine Tot.iteT (by assumption) ?_ | refine Tot.iteF (by assumption) ?_ | refine Tot.ite (fun _ => ?_) (fun _ => ?_) | refine Tot.chk0 ?_ | refine Tot.ret ?_ | refine sE.l ?_ | refine sE.r ?_)))
    exact ⟨Nat.le_refl _, h⟩
  simp only [decide_eq_true_eq, Int.ofNat_eq_natCast] at hc
  refine Tot.bindS (Tot.blockS (Tot.mapl ?_))
  refine Tot.loop (fun t : Int => 1 ≤ t ∧ t ≤ l.length) (fun t => l.length - t.toNat) (by omega) (by simp; omega) (fun k hI => ?_)
  refine Tot.letV (Tot.ite (fun hk => ?_) (fun hk => ?_))
  · simp only [decide_eq_true_eq, Int.ofNat_eq_natCast] at hk
    have hw : IntKind.i64.wrap (k + 1) = k + 1 := wrap64 (by omega) (by omega)
    have hw2 : IntKind.i64.wrap (k - 1) = k - 1 := wrap64 (by omega) (by omega)
    rw [hw, hw2]
    refine Tot.bindS (Tot.blockS (Tot.chk (by simp only [inb, Bool.and_eq_true, decide_eq_true_eq]; omega) (Tot.chk (by simp only [inb, Bool.and_eq_true, decide_eq_true_eq]; omega) (Tot.chk0 (Tot.letV (Tot.ite (fun _ => ?_) (fun _ => ?_)))))))
    · refine Tot.chk (by simp only [bndOk, Bool.and_eq_true, decide_eq_true_eq, Int.ofNat_eq_natCast]; omega) (Tot.chk0 (Tot.bindS (Tot.blockS (Tot.mapl ?_))))
      simp only [Int.ofNat_eq_natCast, Int.toNat_natCast]
      refine Tot.loop (fun t : List Int × Int × Int => t.1.length = l.length ∧ (∀ x ∈ t.1, P x) ∧ 0 ≤ t.2.1 ∧ t.2.1 < k + t.2.2 ∧ 1 ≤ t.2.2 ∧ t.2.2 ≤ l.length - k) (fun t => l.length - t.2.2.toNat) ⟨rfl, h, by show 0 ≤ k; omega, by show k < k + 1; omega, by show (1 : Int) ≤ 1; omega, by show (1 : Int) ≤ _; omega⟩ (by simp; omega) (fun t hJ => ?_)
      obtain ⟨x, i, j⟩ := t
      obtain ⟨hJ1, hJ2, hJ3, hJ4, hJ5, hJ6⟩ := hJ
      simp only at hJ1 hJ2 hJ3 hJ4 hJ5 hJ6 ⊢
      have hn : ((l.length - k.toNat : Nat) : Int) = l.length - k := by omega
      refine Tot.letV (Tot.ite (fun hj => ?_) (fun hj => ?_))
      · simp only [decide_eq_true_eq, hn] at hj
        have hw3 : IntKind.i64.wrap (j + 1) = j + 1 := wrap64 (by omega) (by omega)
        have hw4 : IntKind.i64.wrap (j - 1) = j - 1 := wrap64 (by omega) (by omega)
        have hw5 : IntKind.i64.wrap (i + 1) = i + 1 := wrap64 (by omega) (by omega)
        rw [hw3, hw4, hw5]
        refine Tot.bindS (Tot.blockS (Tot.chk (by simp only [inb, Bool.and_eq_true, decide_eq_true_eq]; omega) (Tot.chk (by simp only [inb, Bool.and_eq_true, decide_eq_true_eq]; omega) (Tot.chk0 (Tot.letV (Tot.ite (fun _ => ?_) (fun _ => ?_)))))))
        · refine Tot.chk (by simp only [inb, Bool.and_eq_true, decide_eq_true_eq]; omega) (Tot.chk (by simp only [inb, Bool.and_eq_true, decide_eq_true_eq]; omega) (Tot.chk0 ?_))
          (repeat' (first | (with_reducible first | refine Tot.letV ?_ | refine Tot.bindS ?_ | refine Tot.blockS ?_ | refine Tot.iteT (by assumption) ?_ | refine Tot.iteF (by assumption) ?_ | refine Tot.ite (fun _ => ?_) (fun _ => ?_) | refine Tot.chk0 ?_ | refine Tot.ret ?_ | refine sE.l ?_ | refine sE.r ?_)))
          refine ⟨⟨by simpa using hJ1, fun y hy => ?_, by show 0 ≤ i + 1; omega, by show i + 1 < k + (j + 1); omega, by show 1 ≤ j + 1; omega, by show j + 1 ≤ (l.length : Int) - k; omega⟩, by show l.length - (j + 1).toNat < l.length - j.toNat; omega⟩
          rcases List.mem_or_eq_of_mem_set hy with hy | rfl
          · exact hJ2 y hy
          · exact getD_all (d := default) hJ2 (by omega)
        · (repeat' (first | (with_reducible first | refine Tot.letV ?_ | refine Tot.bindS ?_ | refine Tot.blockS ?_ | refine Tot.iteT (by assumption) ?_ | refine Tot.iteF (by assumption) ?_ | refine Tot.ite (fun _ => ?_) (fun _ => ?_) | refine Tot.chk0 ?_ | refine Tot.ret ?_ | refine sE.l ?_ | refine sE.r ?_)))
          exact ⟨⟨hJ1, hJ2, hJ3, by show i < k + (j + 1); omega, by show 1 ≤ j + 1; omega, by show j + 1 ≤ (l.length : Int) - k; omega⟩, by show l.length - (j + 1).toNat < l.length - j.toNat; omega⟩
      · simp only [decide_eq_true_eq, hn] at hj
        (repeat' (first | (with_reducible first | refine Tot.letV ?_ | refine Tot.bindS ?_ | refine Tot.blockS ?_ | refine Tot.iteT (by assumption) ?_ | refine Tot.iteF (by assumption) ?_ | refine Tot.ite (fun _ => ?_) (fun _ => ?_) | refine Tot.chk0 ?_ | refine Tot.ret ?_ | refine sE.l ?_ | refine sE.r ?_)))
        refine Tot.chk (by simp only [bndOk, Bool.and_eq_true, decide_eq_true_eq, Int.ofNat_eq_natCast]; omega) (Tot.chk0 (Tot.chk (by simp only [bndOk, Bool.and_eq_true, decide_eq_true_eq, clearL_length]; omega) (Tot.chk0 ?_)))
        (repeat' (first | (with_reducible first | refine Tot.letV ?_ | refine Tot.bindS ?_ | refine Tot.blockS ?_ | refine Tot.iteT (by assumption) ?_ | refine Tot.iteF (by assumption) ?_ | refine Tot.ite (fun _ => ?_) (fun _ => ?_) | refine Tot.chk0 ?_ | refine Tot.ret ?_ | refine sE.l ?_ | refine sE.r ?_)))
        rw [clearL_take _ _ _ _ (Nat.le_refl _)]
        exact ⟨by simp; omega, fun y hy => hJ2 y (List.mem_of_mem_take hy)⟩
    · (repeat' (first | (with_reducible first | refine Tot.letV ?_ | refine Tot.bindS ?_ | refine Tot.blockS ?_ | refine Tot.iteT (by assumption) ?_ | refine Tot.iteF (by assumption) ?_ | refine Tot.ite (fun _ => ?_) (fun _ => ?_) | refine Tot.chk0 ?_ | refine Tot.ret ?_ | refine sE.l ?_ | refine sE.r ?_)))
      exact ⟨by omega, by omega⟩
  · (repeat' (first | (with_reducible first | refine Tot.letV ?_ | refine Tot.bindS ?_ | refine Tot.blockS ?_ | refine Tot.iteT (by assumption) ?_ | refine Tot.iteF (by assumption) ?_ | refine Tot.ite (fun _ => ?_) (fun _ => ?_) | refine Tot.chk0 ?_ | refine Tot.ret ?_ | refine sE.l ?_ | refine sE.r ?_)))
    exact ⟨Nat.le_refl _, h⟩
theorem F105_tot {K : Nat} {l : List Int} (hl : l.length ≤ 1000000) : Ret (F105 K l) (fun v => v.length = l.length ∧ ∀ x ∈ v, x ∈ l) := by
  refine ⟨l.mergeSort fun x y => decide (x ≤ y), ?_, ?_, fun x hx => ?_⟩
  · unfold F105; rw [if_pos (by omega)]; rfl
  · exact List.length_mergeSort l
  · exact List.mem_mergeSort.1 hx
theorem F86_tot {K : Nat} {a0 : S29} {n : Int} {m : Nat} (hK : 1000000 < K) (hm : m ≤ 1) (h : Sm a0 m) : Ret (F86 K a0 n) (fun v => v.length ≤ 1000000 ∧ ∀ x ∈ v, InC a0 x) := by
  refine Ret.of ?_
  unfold F86
  refine Tot.letV (Tot.ite (fun _ => ?_) (fun hc => ?_))
  · (repeat' (first | (with_reducible first | refine Tot.letV ?_ | refine Tot.bindS ?_ | refine Tot.blockS ?_ | refine Tot.iteT (by assumption) ?_ | refine Tot.iteF (by assumption) ?_ | refine Tot.ite (fun _ => ?_) (fun _ => ?_) | refine Tot.chk0 ?_ | refine Tot.ret ?_ | refine sE.l ?_ | refine sE.r ?_)))
    simp
  simp only [Bool.or_eq_true, decide_eq_true_eq, not_or, Int.ofNat_eq_natCast] at hc
  have hx := getD_all (d := default) h.code (i := n.toNat) (by omega)
  have ho := hx.o
  have hin : inb n a0.fCodes.length = true := by simp only [inb, Bool.and_eq_true, decide_eq_true_eq]; omega
  refine Tot.chk hin (Tot.chk0 (Tot.letV (Tot.letV (Tot.bindS (Tot.blockS (Tot.mapl ?_))))))
  refine Tot.gather (a0.fCodes.getD n.toNat default).fOps.length 2400 [] (by omega) (fun l i hi hll => ?_) (fun l hll => ?_)
  · refine Tot.iteT (by simp only [Int.ofNat_eq_natCast, decide_eq_true_eq]; omega) ?_
    refine Tot.bindS (Tot.blockS (Tot.chk (inb_nat hi) (Tot.chk0 (Tot.chk hin (Tot.chk0 ?_)))))
    refine Tot.call (F102_tot (by omega) hm h) (fun v hv => ?_)
    simp only [List.length_nil] at hll
    refine Tot.chk (by simp only [room, decide_eq_true_eq]; omega) (Tot.chk0 ?_)
    (repeat' (first | (with_reducible first | refine Tot.letV ?_ | refine Tot.bindS ?_ | refine Tot.blockS ?_ | refine Tot.iteT (by assumption) ?_ | refine Tot.iteF (by assumption) ?_ | refine Tot.ite (fun _ => ?_) (fun _ => ?_) | refine Tot.chk0 ?_ | refine Tot.ret ?_ | refine sE.l ?_ | refine sE.r ?_)))
    exact ⟨by simp; omega, wrap64 (by omega) (by omega)⟩
  · refine Tot.iteF (by simp) ?_
    (repeat' (first | (with_reducible first | refine Tot.letV ?_ | refine Tot.bindS ?_ | refine Tot.blockS ?_ | refine Tot.iteT (by assumption) ?_ | refine Tot.iteF (by assumption) ?_ | refine Tot.ite (fun _ => ?_) (fun _ => ?_) | refine Tot.chk0 ?_ | refine Tot.ret ?_ | refine sE.l ?_ | refine sE.r ?_)))
    simp only [List.length_nil] at hll
    dsimp only
    refine Tot.call (F103_tot (by omega) (by omega)) (fun v hv => ?_)
    refine Tot.call (F105_tot (by omega)) (fun v2 hv2 => ?_)
    refine Tot.chk (by simp [hv2.1]) (Tot.chk0 ?_)
    refine Tot.call (F106_tot (P := InC a0) (by omega) (by omega) (fun x hx => hv.2 x (hv2.2 x hx))) (fun v3 hv3 => ?_)
    (repeat' (first | (with_reducible first | refine Tot.letV ?_ | refine Tot.bindS ?_ | refine Tot.blockS ?_ | refine Tot.iteT (by assumption) ?_ | refine Tot.iteF (by assumption) ?_ | refine Tot.ite (fun _ => ?_) (fun _ => ?_) | refine Tot.chk0 ?_ | refine Tot.ret ?_ | refine sE.l ?_ | refine sE.r ?_)))
    exact ⟨by omega, hv3.2⟩
def un (s : S113) (n : Nat) : Nat := (List.range n).countP fun (i : Nat) => !((s.funder (i : Int)).getD default)
theorem countP_lt {q q' : Nat → Bool} : ∀ {l : List Nat}, (∀ i ∈ l, q' i = true → q i = true) → (∃ i ∈ l, q i = true ∧ q' i = false) → l.countP q' < l.countP q
  | [], _, h => by obtain ⟨i, hi, _⟩ := h; cases hi
  | a :: l, h1, h2 => by
    have hle : l.countP q' ≤ l.countP q := List.countP_mono_left fun i hi => h1 i (List.mem_cons_of_mem _ hi)
    simp only [List.countP_cons]
    obtain ⟨i, hi, hq, hq'⟩ := h2
    rcases List.mem_cons.1 hi with rfl | hi
    · rw [hq, hq']; simp; omega
    · have := countP_lt (l := l) (fun i hi => h1 i (List.mem_cons_of_mem _ hi)) ⟨i, hi, hq, hq'⟩
      have h3 := h1 a (List.mem_cons_self)
      cases h4 : q' a
      · cases q a <;> simp <;> omega
      · rw [h3 h4]; simp; omega
theorem mput_getD {m : Mp Bool} {i j : Int} {v : Bool} : ((mput m i v) j).getD default = if j = i then v else (m j).getD default := by
  by_cases h : j = i
  · subst h; rw [mput_same]; simp
  · rw [mput_ne _ _ h, if_neg h]
theorem F68_tot {a0 : S29} {m : Nat} (hm : m ≤ 1) (h : Sm a0 m) : ∀ (L K : Nat) (s : S113) (c : Int), s.fim = a0 → InC a0 c → un s a0.fCodes.length ≤ L → 1000001 + L < K → Ret (F68 K s c) (fun v => v.2.fim = a0 ∧ ∀ i, (v.2.funder i).getD default = (s.funder i).getD default) := by
  intro L
  induction L with
  | zero =>
    intro K s c hs hc hu hK
    obtain ⟨K, rfl⟩ : ∃ q, K = q + 1 := ⟨K - 1, by omega⟩
    refine Ret.of ?_
    rw [F68]
    refine Tot.ite (fun _ => ?_) (fun hq => ?_)
    · (repeat' (first | (with_reducible first | refine Tot.letV ?_ | refine Tot.bindS ?_ | refine Tot.blockS ?_ | refine Tot.iteT (by assumption) ?_ | refine Tot.iteF (by assumption) ?_ | refine Tot.ite (fun _ => ?_) (fun _ => ?_) | refine Tot.chk0 ?_ | refine Tot.ret ?_ | refine sE.l ?_ | refine sE.r ?_)))
      exact ⟨hs, fun _ => rfl⟩
    exfalso
    have : 0 < un s a0.fCodes.length := by
      unfold un
      rw [List.countP_pos_iff]
      refine ⟨c.toNat, by have := hc.1; have := hc.2; simp; omega, ?_⟩
      rw [Int.toNat_of_nonneg hc.1]
      simpa using hq
    omega
  | succ L ih =>
    intro K s c hs hc hu hK
    obtain ⟨K, rfl⟩ : ∃ q, K = q + 1 := ⟨K - 1, by omega⟩
    refine Ret.of ?_
    rw [F68]
    refine Tot.ite (fun _ => ?_) (fun hq => ?_)
    · (repeat' (first | (with_reducible first | refine Tot.letV ?_ | refine Tot.bindS ?_ | refine Tot.blockS ?_ | refine Tot.iteT (by assumption) ?_ | refine Tot.iteF (by assumption) ?_ | refine Tot.ite (fun _ => ?_) (fun _ => ?_) | refine Tot.chk0 ?_ | refine Tot.ret ?_ | refine sE.l ?_ | refine sE.r ?_)))
      exact ⟨hs, fun _ => rfl⟩
    refine Tot.ite (fun _ => ?_) (fun hq2 => ?_)
    · (repeat' (first | (with_reducible first | refine Tot.letV ?_ | refine Tot.bindS ?_ | refine Tot.blockS ?_ | refine Tot.iteT (by assumption) ?_ | refine Tot.iteF (by assumption) ?_ | refine Tot.ite (fun _ => ?_) (fun _ => ?_) | refine Tot.chk0 ?_ | refine Tot.ret ?_ | refine sE.l ?_ | refine sE.r ?_)))
      exact ⟨hs, fun _ => rfl⟩
    have hq : (s.funder c).getD default = false := by simpa using hq
    refine Tot.call (F86_tot (by omega) hm (hs ▸ h)) (fun v hv => ?_)
    refine Tot.bindS (Tot.blockS (Tot.mapl ?_))
    have hlt : ∀ t : S113, (∀ i, (t.funder i).getD default = (mput s.funder c true i).getD default) → un t a0.fCodes.length ≤ L := by
      intro t ht
      have : un t a0.fCodes.length < un s a0.fCodes.length := by
        unfold un
        refine countP_lt (fun i _ hi => ?_) ⟨c.toNat, by have := hc.1; have := hc.2; simp; omega, ?_, ?_⟩
        · rw [ht, mput_getD] at hi
          split at hi
          · simp at hi
          · exact hi
        · rw [Int.toNat_of_nonneg hc.1, hq]; rfl
        · rw [ht, mput_getD, Int.toNat_of_nonneg hc.1]; simp
      omega
    refine Tot.loop (fun t : S113 × Int × Int × Bool × Int => t.1.fim = a0 ∧ (∀ i, (t.1.funder i).getD default = (mput s.funder c true i).getD default) ∧ 0 ≤ t.2.2.2.2 ∧ t.2.2.2.2 ≤ v.length) (fun t => v.length - t.2.2.2.2.toNat) ⟨hs, fun _ => rfl, by simp, by simp⟩ (by have := hv.1; simp; omega) (fun t hI => ?_)
    obtain ⟨t, x1, x2, x3, i⟩ := t
    obtain ⟨hI1, hI2, hI3, hI4⟩ := hI
    simp only at hI1 hI2 hI3 hI4 ⊢
    have hvl := hv.1
    refine Tot.letV (Tot.ite (fun hi => ?_) (fun hi => ?_))
    · simp only [decide_eq_true_eq, Int.ofNat_eq_natCast] at hi
      have hx := getD_all (d := default) hv.2 (i := i.toNat) (by omega)
      rw [hs] at hx
      refine Tot.bindS (Tot.blockS (Tot.chk (by simp only [inb, Bool.and_eq_true, decide_eq_true_eq]; omega) (Tot.chk0 ?_)))
      refine Tot.call (ih K ⟨t.fim, t.fknown, t.funder⟩ _ hI1 hx (hlt _ hI2) (by omega)) (fun v2 hv2 => ?_)
      (repeat' (first | (with_reducible first | refine Tot.letV ?_ | refine Tot.bindS ?_ | refine Tot.blockS ?_ | refine Tot.iteT (by assumption) ?_ | refine Tot.iteF (by assumption) ?_ | refine Tot.ite (fun _ => ?_) (fun _ => ?_) | refine Tot.chk0 ?_ | refine Tot.ret ?_ | refine sE.l ?_ | refine sE.r ?_)))
      refine ⟨⟨hv2.1, fun j => (hv2.2 j).trans (hI2 j), ?_, ?_⟩, ?_⟩
      · show 0 ≤ IntKind.i64.wrap (i + 1)
        rw [wrap64 (by omega) (by omega)]; omega
      · show IntKind.i64.wrap (i + 1) ≤ _
        rw [wrap64 (by omega) (by omega)]; omega
      · show v.length - (IntKind.i64.wrap (i + 1)).toNat < v.length - i.toNat
        rw [wrap64 (by omega) (by omega)]; omega
    · (repeat' (first | (with_reducible first | refine Tot.letV ?_ | refine Tot.bindS ?_ | refine Tot.blockS ?_ | refine Tot.iteT (by assumption) ?_ | refine Tot.iteF (by assumption) ?_ | refine Tot.ite (fun _ => ?_) (fun _ => ?_) | refine Tot.chk0 ?_ | refine Tot.ret ?_ | refine sE.l ?_ | refine sE.r ?_)))
      refine Tot.chk (by have := hc.1; have := hc.2; show inb c t.fim.fCodes.length = true; rw [hI1]; simp only [inb, Bool.and_eq_true, decide_eq_true_eq]; omega) (Tot.chk0 ?_)
      refine Tot.callC (fun _ => F87_tot) (fun v3 _ => ?_)
      (repeat' (first | (with_reducible first | refine Tot.letV ?_ | refine Tot.bindS ?_ | refine Tot.blockS ?_ | refine Tot.iteT (by assumption) ?_ | refine Tot.iteF (by assumption) ?_ | refine Tot.ite (fun _ => ?_) (fun _ => ?_) | refine Tot.chk0 ?_ | refine Tot.ret ?_ | refine sE.l ?_ | refine sE.r ?_)))
      refine ⟨hI1, fun j => ?_⟩
      show ((mput t.funder c false) j).getD default = _
      rw [mput_getD]
      split
      · rename_i hj
        rw [hj, hq]
      · rename_i hj
        rw [hI2, mput_getD, if_neg hj]
end Go.Proofs.YtngjamedgphjiaaGreatDoor

namespace Go.Proofs.YtngjamedgphjiaaGreatDoor
open Go Go.Dl
set_option maxRecDepth 100000
set_option maxHeartbeats 2000000
theorem un_le (s : S113) (n : Nat) : un s n ≤ n := by
  unfold un
  refine Nat.le_trans List.countP_le_length ?_
  simp
theorem F49_tot {K : Nat} {a0 : S29} {m : Nat} (hK : 2000000 < K) (hm : m ≤ 1) (h : Sm a0 m) : Ret (F49 K a0) (fun _ => True) := by
  have hl := h.codes
  refine Ret.of ?_
  unfold F49
  refine Tot.bindS (Tot.blockS (Tot.mapl ?_))
  refine Tot.loop (fun u40 => (⟨u40.1, u40.2.1, u40.2.2.1, u40.2.2.2.1, u40.2.2.2.2.1, u40.2.2.2.2.2.1, u40.2.2.2.2.2.2.1, u40.2.2.2.2.2.2.2.1, u40.2.2.2.2.2.2.2.2.1, u40.2.2.2.2.2.2.2.2.2.1, u40.2.2.2.2.2.2.2.2.2.2.1, u40.2.2.2.2.2.2.2.2.2.2.2.1⟩ : S29) = a0 ∧ 0 ≤ u40.2.2.2.2.2.2.2.2.2.2.2.2.2.2.2.2 ∧ u40.2.2.2.2.2.2.2.2.2.2.2.2.2.2.2.2 ≤ a0.fCodes.length) (fun u40 => a0.fCodes.length - u40.2.2.2.2.2.2.2.2.2.2.2.2.2.2.2.2.toNat) ⟨rfl, by simp, by simp⟩ (by simp; omega) (fun t hI => ?_)
  obtain ⟨x1, x2, x3, x4, x5, x6, x7, x8, x9, x10, x11, x12, kn, und, d, w, i⟩ := t
  obtain ⟨hI1, hI2, hI3⟩ := hI
  simp only at hI1 hI2 hI3 ⊢
  rw [hI1]
  refine Tot.letV (Tot.ite (fun hi => ?_) (fun hi => ?_))
  · simp only [decide_eq_true_eq, Int.ofNat_eq_natCast] at hi
    have hw : IntKind.i64.wrap (i + 1) = i + 1 := wrap64 (by omega) (by omega)
    rw [hw]
    refine Tot.bindS (Tot.blockS (Tot.chk (by simp only [inb, Bool.and_eq_true, decide_eq_true_eq]; omega) (Tot.chk0 (Tot.letV (Tot.ite (fun _ => ?_) (fun _ => ?_))))))
    · (repeat' (first | (with_reducible first | refine Tot.letV ?_ | refine Tot.bindS ?_ | refine Tot.blockS ?_ | refine Tot.iteT (by assumption) ?_ | refine Tot.iteF (by assumption) ?_ | refine Tot.ite (fun _ => ?_) (fun _ => ?_) | refine Tot.chk0 ?_ | refine Tot.ret ?_ | refine sE.l ?_ | refine sE.r ?_)))
      exact ⟨⟨rfl, by show 0 ≤ i + 1; omega, by show i + 1 ≤ _; omega⟩, by show a0.fCodes.length - (i + 1).toNat < a0.fCodes.length - i.toNat; omega⟩
    · refine Tot.call (F68_tot hm h a0.fCodes.length K ⟨a0, kn, und⟩ i rfl ⟨hI2, hi⟩ (un_le _ _) (by omega)) (fun v hv => ?_)
      (repeat' (first | (with_reducible first | refine Tot.letV ?_ | refine Tot.bindS ?_ | refine Tot.blockS ?_ | refine Tot.iteT (by assumption) ?_ | refine Tot.iteF (by assumption) ?_ | refine Tot.ite (fun _ => ?_) (fun _ => ?_) | refine Tot.chk0 ?_ | refine Tot.ret ?_ | refine sE.l ?_ | refine sE.r ?_)))
      · (all_goals (try (first | trivial | (intro h; cases h; done))))
      · exact ⟨⟨hv.1, by show 0 ≤ i + 1; omega, by show i + 1 ≤ _; omega⟩, by show a0.fCodes.length - (i + 1).toNat < a0.fCodes.length - i.toNat; omega⟩
  · (repeat' (first | (with_reducible first | refine Tot.letV ?_ | refine Tot.bindS ?_ | refine Tot.blockS ?_ | refine Tot.iteT (by assumption) ?_ | refine Tot.iteF (by assumption) ?_ | refine Tot.ite (fun _ => ?_) (fun _ => ?_) | refine Tot.chk0 ?_ | refine Tot.ret ?_ | refine sE.l ?_ | refine sE.r ?_)))
    (all_goals (try (first | trivial | (intro h; cases h; done))))
theorem F21_tot {K : Nat} {a0 : S29} {m : Nat} (hK : 2000000 < K) (hm : m ≤ 1) (h : Sm a0 m) : Ret (F21 K a0) (fun _ => True) := by
  refine Ret.of ?_
  unfold F21
  refine Tot.call (F49_tot hK hm h) (fun v _ => ?_)
  (repeat' (first | (with_reducible first | refine Tot.letV ?_ | refine Tot.ret ?_ | refine sE.l ?_ | refine sE.r ?_)))
  (all_goals (try (first | trivial | (intro h; cases h; done))))
theorem F10_val {K : Nat} {im : S29} {b1 b2 b3 b4 b5 b6 b7 : Bool} (h1 : fnS (F15 K im) = some b1) (h2 : b1 = true → fnS (F16 K im) = some b2) (h3 : b1 = true → b2 = true → fnS (F17 K im) = some b3) (h4 : b1 = true → b2 = true → b3 = true → fnS (F18 K im) = some b4)
    (h5 : b1 = true → b2 = true → b3 = true → b4 = true → fnS (F19 K im) = some b5) (h6 : b1 = true → b2 = true → b3 = true → b4 = true → b5 = true → fnS (F20 K im) = some b6) (h7 : b1 = true → b2 = true → b3 = true → b4 = true → b5 = true → b6 = true → fnS (F21 K im) = some b7) :
    F10 K im = some (.inl (if b1 = false then [115, 105, 122, 101, 115] else if b2 = false then [108, 101, 116, 116, 101, 114, 115] else if b3 = false then [99, 108, 97, 115, 115, 101, 115] else if b4 = false then [116, 97, 98, 108, 101, 115] else if b5 = false then [116, 104, 105, 110, 103, 115] else if b6 = false then [99, 111, 100, 101, 115] else if b7 = false then [98, 111, 117, 110, 100, 115] else [])) := by
  unfold F10
  rw [h1]
  cases b1
  · rfl
  rw [h2 rfl]
  cases b2
  · rfl
  rw [h3 rfl rfl]
  cases b3
  · rfl
  rw [h4 rfl rfl rfl]
  cases b4
  · rfl
  rw [h5 rfl rfl rfl rfl]
  cases b5
  · rfl
  rw [h6 rfl rfl rfl rfl rfl]
  cases b6
  · rfl
  rw [h7 rfl rfl rfl rfl rfl rfl]
  cases b7 <;> rfl
structure Yes (K : Nat) (im : S29) : Prop where
  y1 : fnS (F15 K im) = some true
  y2 : fnS (F16 K im) = some true
  y3 : fnS (F17 K im) = some true
  y4 : fnS (F18 K im) = some true
  y5 : fnS (F19 K im) = some true
  y6 : fnS (F20 K im) = some true
  y7 : fnS (F21 K im) = some true
theorem F10_tot {K : Nat} {im : S29} {m : Nat} (hK : 2000000 < K) (hm : m ≤ 1) (h : Sm im m) : Ret (F10 K im) (fun v => v = [] → Yes K im) := by
  obtain ⟨b1, h1, _⟩ := F15_tot (K := K) (by omega) h
  obtain ⟨b2, h2, _⟩ := F16_tot (K := K) (by omega) hm h
  obtain ⟨b3, h3, ha⟩ := F17_tot (K := K) (by omega) hm h
  obtain ⟨b5, h5, _⟩ := F19_tot (K := K) (by omega) hm h
  obtain ⟨b6, h6, _⟩ := F20_tot (K := K) (by omega) hm h
  obtain ⟨b7, h7, _⟩ := F21_tot (K := K) (by omega) hm h
  have h4 : ∃ b4, b3 = true → fnS (F18 K im) = some b4 := by
    cases b3
    · exact ⟨true, fun h => by cases h⟩
    · obtain ⟨b4, h4, _⟩ := F18_tot (K := K) (by omega) hm (ha rfl) h
      exact ⟨b4, fun _ => h4⟩
  obtain ⟨b4, h4⟩ := h4
  refine ⟨_, by rw [F10_val h1 (fun _ => h2) (fun _ _ => h3) (fun _ _ => h4) (fun _ _ _ _ => h5) (fun _ _ _ _ _ => h6) (fun _ _ _ _ _ _ => h7)]; rfl, fun hv => ?_⟩
  cases b1
  · simp at hv
  cases b2
  · simp at hv
  cases b3
  · simp at hv
  cases b4
  · simp at hv
  cases b5
  · simp at hv
  cases b6
  · simp at hv
  cases b7
  · simp at hv
  exact ⟨h1, h2, h3, h4 rfl, h5, h6, h7⟩
end Go.Proofs.YtngjamedgphjiaaGreatDoor
