/- Operands and expressions, by both. Expressions, by both: the same, or the same is wrong. No conditions. -/
import Derived.Test.YtphnfaabcnciiaaGreatDoorEPb
set_option linter.unusedVariables false
set_option linter.unusedSimpArgs false
set_option linter.unusedSectionVars false
namespace Go.Proofs.YtphnfaabcnciiaaGreatDoor.ex
open Go Go.Dl
set_option maxHeartbeats 8000000
variable {T : List S41} {e : Int} {i : Nat} {k a : Int} {K K' : Nat}
def Q40 (T : List S41) (e : Int) (n : Nat) : Prop := ∀ (K K' i : Nat) (d : Int), T.length - i ≤ n → i ≤ T.length → 1 ≤ d → d ≤ 7 → (6 < d → starts T i = false) → 202 + 4 * n ≤ K + 4 → 202 + 4 * n ≤ K' + 4 → 150 ≤ K → 150 ≤ K' →
  ∃ x y, fnS (F40 (K + 1) (P T e i) d) = some x ∧ fnS (F46 (K' + 1) (R T e i) d) = some y ∧ Rs T e i x y ∧ (starts T i = false → ∃ j k a, x.2 = PE T e j k a)
theorem not_starts {w : Bytes} (hw : w ∈ startsL) (h : hasL T i [w] = true) : starts T i = true := by
  unfold starts
  have : hasL T i startsL = true := by
    rw [← any_has, List.any_eq_true]
    exact ⟨w, hw, h⟩
  rw [this, Bool.or_true]
theorem not_startsK {q : Int} (hq : q = 1 ∨ q = 3) (h : hasK T i q = true) : starts T i = true := by
  unfold starts
  rcases hq with rfl | rfl <;> rw [h] <;> simp
theorem opd_x (hT : T.length ≤ 100000) {n : Nat} (h19 : ∀ m, m < n → Q19 T e m) : Q40 T e n := by
  intro K K' i d hn hi hd hd7 h7 hK hK' hK2 hK2'
  have hKb : 100 < K := by omega
  rw [F40, F46]
  simp only [p31, condM_t, Option.bind_some, p69 (q := 3) (by decide), r78]
  have d6 : starts T i = true → d ≤ 6 := fun h => by
    by_cases g : 6 < d
    · rw [h7 g] at h; cases h
    · omega
  cases h3 : hasK T i 3
  rotate_left
  · have l := hasK_lt h3
    have hs := not_startsK (.inr rfl) h3
    simp only [if_true, p70' hT, r80 hT, h3, Option.bind_some]
    exact ⟨_, _, rfl, rfl, .ok _ _ (by omega) (by omega), fun g => by rw [hs] at g; cases g⟩
  simp only [Bool.false_eq_true, if_false]
  cases hTRUE : hasL T i [[84, 82, 85, 69]]
  rotate_left
  · have l := hasL_lt hTRUE
    have hs := not_starts (by decide) hTRUE
    simp only [p39T hT hKb hTRUE, r45T hT hTRUE, Option.bind_some, if_true]
    exact ⟨_, _, rfl, rfl, .ok _ _ (by omega) (by omega), fun g => by rw [hs] at g; cases g⟩
  simp only [p39F hT hKb hTRUE, r45F hT hTRUE, Option.bind_some, Bool.false_eq_true, if_false]
  cases hFALSE : hasL T i [[70, 65, 76, 83, 69]]
  rotate_left
  · have l := hasL_lt hFALSE
    have hs := not_starts (by decide) hFALSE
    simp only [p39T hT hKb hFALSE, r45T hT hFALSE, Option.bind_some, if_true]
    exact ⟨_, _, rfl, rfl, .ok _ _ (by omega) (by omega), fun g => by rw [hs] at g; cases g⟩
  simp only [p39F hT hKb hFALSE, r45F hT hFALSE, Option.bind_some, Bool.false_eq_true, if_false]
  cases hNULL : hasL T i [[78, 85, 76, 76]]
  rotate_left
  · have l := hasL_lt hNULL
    have hs := not_starts (by decide) hNULL
    simp only [p39T hT hKb hNULL, r45T hT hNULL, Option.bind_some, if_true]
    exact ⟨_, _, rfl, rfl, .ok _ _ (by omega) (by omega), fun g => by rw [hs] at g; cases g⟩
  simp only [p39F hT hKb hNULL, r45F hT hNULL, Option.bind_some, Bool.false_eq_true, if_false]
  cases hREF : hasL T i [[82, 69, 70]]
  rotate_left
  · have l := hasL_lt hREF
    have hs := not_starts (by decide) hREF
    simp only [p39T hT hKb hREF, r45T hT hREF, Option.bind_some, if_true]
    obtain ⟨x, y, b1, b2, b3⟩ := brack_x (e := e) (i := i + 1) hT (K := K) (by omega) (K' := K')
    simp only [b1, b2, Option.bind_some]
    cases b3 with
    | er j k a v w hk => exact ⟨_, _, rfl, rfl, .er j k a _ _ hk, fun g => by rw [hs] at g; cases g⟩
    | ok j v hj hl => exact ⟨_, _, rfl, rfl, .ok j _ (by omega) hl, fun g => by rw [hs] at g; cases g⟩
  simp only [p39F hT hKb hREF, r45F hT hREF, Option.bind_some, Bool.false_eq_true, if_false]
  cases hDONE : hasL T i [[68, 79, 78, 69]]
  rotate_left
  · have l := hasL_lt hDONE
    have hs := not_starts (by decide) hDONE
    simp only [p39T hT hKb hDONE, r45T hT hDONE, Option.bind_some, if_true]
    obtain ⟨x, y, b1, b2, b3⟩ := brack_x (e := e) (i := i + 1) hT (K := K) (by omega) (K' := K')
    simp only [b1, b2, Option.bind_some]
    cases b3 with
    | er j k a v w hk => exact ⟨_, _, rfl, rfl, .er j k a _ _ hk, fun g => by rw [hs] at g; cases g⟩
    | ok j v hj hl => exact ⟨_, _, rfl, rfl, .ok j _ (by omega) hl, fun g => by rw [hs] at g; cases g⟩
  simp only [p39F hT hKb hDONE, r45F hT hDONE, Option.bind_some, Bool.false_eq_true, if_false]
  cases hCOUNT : hasL T i [[67, 79, 85, 78, 84]]
  rotate_left
  · have l := hasL_lt hCOUNT
    have hs := not_starts (by decide) hCOUNT
    simp only [p39T hT hKb hCOUNT, r45T hT hCOUNT, Option.bind_some, if_true]
    obtain ⟨x, y, b1, b2, b3⟩ := brack_x (e := e) (i := i + 1) hT (K := K) (by omega) (K' := K')
    simp only [b1, b2, Option.bind_some]
    cases b3 with
    | er j k a v w hk => exact ⟨_, _, rfl, rfl, .er j k a _ _ hk, fun g => by rw [hs] at g; cases g⟩
    | ok j v hj hl => exact ⟨_, _, rfl, rfl, .ok j _ (by omega) hl, fun g => by rw [hs] at g; cases g⟩
  simp only [p39F hT hKb hCOUNT, r45F hT hCOUNT, Option.bind_some, Bool.false_eq_true, if_false]
  cases hAS : hasL T i [[65, 83]]
  rotate_left
  · have l := hasL_lt hAS
    have hs := not_starts (by decide) hAS
    have hd6 := d6 hs
    simp only [p39T hT hKb hAS, r45T hT hAS, Option.bind_some, if_true, p72' hT, r82 hT]
    obtain ⟨q, rfl⟩ : ∃ z, K = z + 1 := ⟨K - 1, by omega⟩
    cases h2 : hasK T (i + 1) 1
    · simp only [Bool.false_eq_true, if_false, Option.bind_some, r83e (k := 3) (by decide)]
      obtain ⟨z, hz⟩ : ∃ z, K' = z + 2 := ⟨K' - 2, by omega⟩
      obtain ⟨y, hy⟩ : ∃ y, q = y + 2 := ⟨q - 2, by omega⟩
      rw [F73]
      rw [hz, hy]
      simp only [p93e (show 100 < y + 2 by omega), p19e, r23e (k := 3) (by decide) (show 100 < z by omega), r83e (k := 3) (by decide), Option.bind_some, fnS_l]
      exact ⟨_, _, rfl, rfl, .er _ 3 _ _ _ (by decide), fun g => by rw [hs] at g; cases g⟩
    · have l2 := hasK_lt h2
      simp only [if_true, Option.bind_some]
      rw [F73]
      simp only [p93 hT (show 100 < q by omega), r83 hT]
      cases h4 : hasL T (i + 1 + 1) [[40]]
      · obtain ⟨z, hz⟩ : ∃ z, K' = z + 2 := ⟨K' - 2, by omega⟩
        obtain ⟨y, hy⟩ : ∃ y, q = y + 2 := ⟨q - 2, by omega⟩
        rw [hz, hy]
        simp only [Bool.false_eq_true, if_false, Option.bind_some, p93e (show 100 < y + 2 by omega), p19e, r23e (k := 3) (by decide) (show 100 < z by omega), r83e (k := 3) (by decide), fnS_l]
        exact ⟨_, _, rfl, rfl, .er _ 3 _ _ _ (by decide), fun g => by rw [hs] at g; cases g⟩
      · have l4 := hasL_lt h4
        obtain ⟨v, p2, p3, w, r2, r3, w1, w2, w3, w4, w5⟩ := within_x hT (h19 (n - 3) (by omega)) q K' (i + 1 + 1 + 1) d [41] (by omega) (by omega) hd hd6 (by omega) (by omega)
        simp only [if_true, Option.bind_some, w1, w2, w3, w4, fnS_l]
        cases w5 with
        | er j k a v w hk => exact ⟨_, _, rfl, rfl, .er j k a _ _ hk, fun g => by rw [hs] at g; cases g⟩
        | ok j v hj hl => exact ⟨_, _, rfl, rfl, .ok j _ (by omega) hl, fun g => by rw [hs] at g; cases g⟩
  simp only [p39F hT hKb hAS, r45F hT hAS, Option.bind_some, Bool.false_eq_true, if_false, p29 (l := [[40]]) (by decide) hKb]
  cases hLP : hasL T i [[40]]
  rotate_left
  · have l := hasL_lt hLP
    have hs := not_starts (by decide) hLP
    have hd6 := d6 hs
    obtain ⟨q, rfl⟩ : ∃ z, K = z + 1 := ⟨K - 1, by omega⟩
    obtain ⟨v, p2, p3, w, r2, r3, w1, w2, w3, w4, w5⟩ := within_x hT (h19 (n - 1) (by omega)) q K' (i + 1) d [41] (by omega) (by omega) hd hd6 (by omega) (by omega)
    rw [F73]
    simp only [if_true, Option.bind_some, r45T hT hLP, p93T hT (show 100 < q by omega) hLP, w1, w2, w3, w4, fnS_l]
    cases w5 with
    | er j k a v w hk => exact ⟨_, _, rfl, rfl, .er j k a _ _ hk, fun g => by rw [hs] at g; cases g⟩
    | ok j v hj hl =>
      cases v
      exact ⟨_, _, rfl, rfl, .ok j _ (by omega) hl, fun g => by rw [hs] at g; cases g⟩
  have hts : hasL T i [[84, 72, 73, 83], [83, 85, 80, 69, 82]] = (hasL T i [[84, 72, 73, 83]] || hasL T i [[83, 85, 80, 69, 82]]) := hasL_cons _ _
  simp only [r45F hT hLP, Option.bind_some, Bool.false_eq_true, if_false, p29 (l := [[84, 72, 73, 83], [83, 85, 80, 69, 82]]) (by decide) hKb, hts]
  cases hTH : hasL T i [[84, 72, 73, 83]]
  rotate_left
  · have l := hasL_lt hTH
    have hs := not_starts (by decide) hTH
    have hd6 := d6 hs
    obtain ⟨q, rfl⟩ : ∃ z, K = z + 2 := ⟨K - 2, by omega⟩
    obtain ⟨q', rfl⟩ : ∃ z, K' = z + 1 := ⟨K' - 1, by omega⟩
    obtain ⟨x, y, c1, c2, c3⟩ := called_x hT (h19 (n - 1) (by omega)) q q' (i + 1) d ⟨13, 1, [], [], []⟩ ⟨0, 1, [], [], []⟩ rfl rfl rfl (by omega) (by omega) hd hd6 (by omega) (by omega)
    rw [F74]
    simp only [Bool.true_or, if_true, r45T hT hTH, p39T hT (show 100 < q + 1 by omega) hTH, Option.bind_some, Bool.not_true, Bool.false_eq_true, if_false, bindS_r, c1, c2, fnS_l]
    cases c3 with
    | er j k a v w hk => exact ⟨_, _, rfl, rfl, .er j k a _ _ hk, fun g => by rw [hs] at g; cases g⟩
    | ok j v hj hl => exact ⟨_, _, rfl, rfl, .ok j _ (by omega) hl, fun g => by rw [hs] at g; cases g⟩
  simp only [r45F hT hTH, Option.bind_some, Bool.false_eq_true, if_false, Bool.false_or]
  cases hSU : hasL T i [[83, 85, 80, 69, 82]]
  rotate_left
  · have l := hasL_lt hSU
    have hs := not_starts (by decide) hSU
    have hd6 := d6 hs
    obtain ⟨q, rfl⟩ : ∃ z, K = z + 2 := ⟨K - 2, by omega⟩
    obtain ⟨q', rfl⟩ : ∃ z, K' = z + 1 := ⟨K' - 1, by omega⟩
    obtain ⟨x, y, c1, c2, c3⟩ := called_x hT (h19 (n - 1) (by omega)) q q' (i + 1) d ⟨13, 2, [], [], []⟩ ⟨0, 2, [], [], []⟩ rfl rfl rfl (by omega) (by omega) hd hd6 (by omega) (by omega)
    rw [F74]
    simp only [if_true, r45T hT hSU, p39F hT (show 100 < q + 1 by omega) hTH, p93T hT (show 100 < q + 1 by omega) hSU, Option.bind_some, Bool.not_false, bindS_r, c1, c2, fnS_l]
    cases c3 with
    | er j k a v w hk => exact ⟨_, _, rfl, rfl, .er j k a _ _ hk, fun g => by rw [hs] at g; cases g⟩
    | ok j v hj hl => exact ⟨_, _, rfl, rfl, .ok j _ (by omega) hl, fun g => by rw [hs] at g; cases g⟩
  simp only [r45F hT hSU, Option.bind_some, Bool.false_eq_true, if_false, blockS_r, bindS_r, p72' hT, r78 (q := 1), r82 hT, condM_t]
  cases hW : hasK T i 1
  · simp only [Bool.false_eq_true, if_false, Option.bind_some, p29e, r24, condM_t, bindS_r, blockS_r]
    exact ⟨_, _, rfl, rfl, .er i 3 _ _ _ (by decide), fun _ => ⟨_, _, _, rfl⟩⟩
  have l := hasK_lt hW
  have hs := not_startsK (.inl rfl) hW
  have hd6 := d6 hs
  simp only [if_true, Option.bind_some, p29 (l := [[91]]) (by decide) hKb, r79 (w := [46])]
  cases hLB : hasL T (i + 1) [[91]]
  · simp only [Bool.false_eq_true, if_false, Option.bind_some, p29 (l := [[46]]) (by decide) hKb]
    cases hDT : hasL T (i + 1) [[46]]
    · simp only [Bool.false_eq_true, if_false, Option.bind_some, r45F hT hLB, blockS_r, bindS_r]
      exact ⟨_, _, rfl, rfl, .ok _ _ (by omega) (by omega), fun g => by rw [hs] at g; cases g⟩
    · obtain ⟨q, rfl⟩ : ∃ z, K = z + 1 := ⟨K - 1, by omega⟩
      obtain ⟨q', rfl⟩ : ∃ z, K' = z + 1 := ⟨K' - 1, by omega⟩
      obtain ⟨x, y, c1, c2, c3⟩ := called_x hT (h19 (n - 1) (by omega)) q q' (i + 1) d ⟨13, 0, (tok T e i).fText, [], []⟩ ⟨5, 0, (tok T e i).fText, [], []⟩ rfl rfl rfl (by omega) (by omega) hd hd6 (by omega) (by omega)
      simp only [if_true, Option.bind_some, c1, c2]
      cases c3 with
      | er j k a v w hk => exact ⟨_, _, rfl, rfl, .er j k a _ _ hk, fun g => by rw [hs] at g; cases g⟩
      | ok j v hj hl => exact ⟨_, _, rfl, rfl, .ok j _ (by omega) hl, fun g => by rw [hs] at g; cases g⟩
  · have l2 := hasL_lt hLB
    have hDT : hasL T (i + 1) [[46]] = false := by
      cases hq : hasL T (i + 1) [[46]]
      · rfl
      · unfold hasL at hq hLB
        simp only [Bool.and_eq_true, decide_eq_true_eq, List.mem_singleton] at hq hLB
        rw [hq.2] at hLB
        exact absurd hLB.2 (by decide)
    obtain ⟨q, rfl⟩ : ∃ z, K = z + 1 := ⟨K - 1, by omega⟩
    obtain ⟨v, p2, p3, w, r2, r3, w1, w2, w3, w4, w5⟩ := within_x hT (h19 (n - 2) (by omega)) q K' (i + 1 + 1) d [93] (by omega) (by omega) hd hd6 (by omega) (by omega)
    rw [F73]
    simp only [hDT, if_true, Bool.false_eq_true, if_false, Option.bind_some, r45T hT hLB, p93T hT (show 100 < q by omega) hLB, w1, w2, w3, w4, fnS_l]
    cases w5 with
    | er j k a v w hk => exact ⟨_, _, rfl, rfl, .er j k a _ _ hk, fun g => by rw [hs] at g; cases g⟩
    | ok j v hj hl => exact ⟨_, _, rfl, rfl, .ok j _ (by omega) hl, fun g => by rw [hs] at g; cases g⟩
end Go.Proofs.YtphnfaabcnciiaaGreatDoor.ex

set_option linter.unusedVariables false
set_option linter.unusedSimpArgs false
set_option linter.unusedSectionVars false
namespace Go.Proofs.YtphnfaabcnciiaaGreatDoor.ex
open Go Go.Dl
set_option maxHeartbeats 8000000
variable {T : List S41} {e : Int} {i : Nat} {k a : Int} {K K' : Nat}
theorem nest_if {A : Type} {d : Int} (h : 6 < d → starts T i = false) : (if (starts T i || false) = true then ((fnS (F38 K (P T e i) d)).bind (fun r5 => (some (.inr (r5))))) else (some (.inr (P T e i))) : Option (A ⊕ S65)) = some (.inr (P T e i)) := by
  cases hs : starts T i
  · rfl
  · have hd : ¬ 6 < d := fun g => by rw [h g] at hs; cases hs
    have h38 : fnS (F38 K (P T e i) d) = some (P T e i) := by
      unfold F38
      rw [if_neg (by simp; omega)]; rfl
    rw [h38]; rfl
theorem nest_ifr {A : Type} {d : Int} (h : 6 < d → starts T i = false) : (if (decide (d > 6) && (decide (d > 6) && starts T i)) = true then ((fnS (F24 K (R T e i) 4)).bind (fun r4 => (some (.inr (r4))))) else (some (.inr (R T e i))) : Option (A ⊕ S71)) = some (.inr (R T e i)) := by
  rw [if_neg]
  by_cases hd : 6 < d
  · rw [h hd]; simp
  · have : decide (d > 6) = false := by simp; omega
    rw [this]; simp
theorem signs_starts : (hasL T i signs || ((hasK T i 1 || hasK T i 3) || hasL T i opensL)) = starts T i := starts_eq
theorem expr_x (hT : T.length ≤ 100000) {n : Nat} (h40 : Q40 T e n) (h40' : ∀ m, m < n → Q40 T e m) : Q19 T e n := by
  intro K K' i d hn hi hd hd7 hK hK'
  obtain ⟨q, rfl⟩ : ∃ z, K = z + 2 := ⟨K - 2, by omega⟩
  obtain ⟨q', rfl⟩ : ∃ z, K' = z + 2 := ⟨K' - 2, by omega⟩
  have hKb : 100 < q + 1 := by omega
  have hKb' : 100 < q' + 1 := by omega
  rw [F19, F23]
  have hp : ∀ {β : Type} (f : Bool → Bool → Option β), (∀ a b, f a b = f (a || b) false) → ((condM true (fnS (F29 (q + 1) (P T e i) ([[45], [78, 79, 84]] : List Bytes))) default).bind fun r1 => (condM (!r1) (fnS (F37 (q + 1) (P T e i))) default).bind fun r2 => f r1 r2) = f (starts T i) false := by
    intro β f hf
    rw [condM_t, p29 (l := signs) (by decide) hKb, Option.bind_some]
    rw [← signs_starts (T := T) (i := i)]
    cases hg : hasL T i signs
    · simp only [Bool.not_false, condM_t, p37 hKb, Option.bind_some, Bool.false_or]
      rw [hf]; simp
    · simp only [Bool.not_true, condM_f, Option.bind_some, Bool.true_or]
      rw [hf]; simp
  have hr : (condM (decide (d > 6)) (fnS (F44 (q' + 1) (R T e i))) default) = some (decide (d > 6) && starts T i) := by
    rw [r44 hKb']
    cases decide (d > 6) <;> rfl
  rw [hr, Option.bind_some]
  rw [hp _ (fun a b => by simp)]
  by_cases hdeep : 6 < d ∧ starts T i = true
  · -- too deep
    have h38 : fnS (F38 (q + 1) (P T e i) d) = some (PE T e i 4 (tok T e i).fAt) := by
      unfold F38
      rw [if_pos (by simp; omega), p20]; rfl
    have hx : decide (d > 6) = true := by simp; omega
    simp only [hdeep.2, hx, Bool.or_false, Bool.and_self, if_true, h38, r24, Option.bind_some, bindS_r]
    obtain ⟨z, rfl⟩ : ∃ z, q = z + 1 := ⟨q - 1, by omega⟩
    simp only [p39e, r45e (k := 4) (by decide), Option.bind_some, Bool.false_eq_true, if_false, blockS_r, bindS_r, p40e, r46e (k := 4) (by decide), condM_t, p31e, p41, p29e, Bool.not_false, if_true, r47e (k := 4) (by decide) (show 100 < q' + 1 by omega)]
    exact ⟨_, _, rfl, rfl, .er i 4 _ _ _ (by decide), fun _ => ⟨_, _, _, rfl⟩⟩
  have h6 : 6 < d → starts T i = false := fun g => by simpa [g] using hdeep
  rw [nest_if h6, nest_ifr h6, bindS_r, bindS_r]
  have d6 : starts T i = true → d ≤ 6 := fun h => by
    by_cases g : 6 < d
    · rw [h6 g] at h; cases h
    · omega
  cases hM : hasL T i [[45]]
  rotate_left
  · have l := hasL_lt hM
    have hd6 := d6 (not_starts (by decide) hM)
    obtain ⟨x, y, c1, c2, c3, _⟩ := h40' (n - 1) (by omega) q q' (i + 1) d (by omega) (by omega) hd hd7 (fun g => by omega) (by omega) (by omega) (by omega) (by omega)
    rw [p39T hT hKb hM, r45T hT hM, Option.bind_some, Option.bind_some]
    simp only [if_true, c1, c2, Option.bind_some, blockS_lr, bindS_l]
    cases c3 with
    | er j k a v w hk => exact ⟨_, _, rfl, rfl, .er j k a _ _ hk, fun g => by omega⟩
    | ok j v hj hl => exact ⟨_, _, rfl, rfl, .ok j _ (by omega) hl, fun g => by omega⟩
  rw [p39F hT hKb hM, r45F hT hM, Option.bind_some, Option.bind_some]
  simp only [Bool.false_eq_true, if_false]
  cases hN : hasL T i [[78, 79, 84]]
  rotate_left
  · have l := hasL_lt hN
    have hd6 := d6 (not_starts (by decide) hN)
    obtain ⟨x, y, c1, c2, c3, _⟩ := h40' (n - 1) (by omega) q q' (i + 1) d (by omega) (by omega) hd hd7 (fun g => by omega) (by omega) (by omega) (by omega) (by omega)
    rw [p39T hT hKb hN, r45T hT hN, Option.bind_some, Option.bind_some]
    simp only [if_true, c1, c2, Option.bind_some, blockS_lr, bindS_l]
    cases c3 with
    | er j k a v w hk => exact ⟨_, _, rfl, rfl, .er j k a _ _ hk, fun g => by omega⟩
    | ok j v hj hl => exact ⟨_, _, rfl, rfl, .ok j _ (by omega) hl, fun g => by omega⟩
  rw [p39F hT hKb hN, r45F hT hN, Option.bind_some, Option.bind_some]
  simp only [Bool.false_eq_true, if_false, blockS_r, bindS_r]
  obtain ⟨⟨v, pp⟩, ⟨w, rr⟩, c1, c2, c3, c4⟩ := h40 q q' i d hn hi hd hd7 h6 (by omega) (by omega) (by omega) (by omega)
  rw [c1, c2, Option.bind_some, Option.bind_some]
  cases c3 with
  | er j k a v w hk =>
    dsimp only
    rw [r47e hk (show 100 < q' + 1 by omega), Option.bind_some]
    simp only [condM_t, p31e, p41, p29e, Option.bind_some, Bool.not_false, if_true]
    exact ⟨_, _, rfl, rfl, .er j k a _ _ hk, fun _ => ⟨_, _, _, rfl⟩⟩
  | ok j v hj hl =>
    have hd6 : d ≤ 6 := by
      by_cases g : 6 < d
      · obtain ⟨_, _, _, h⟩ := c4 (h6 g)
        unfold P PE at h
        simp at h
      · omega
    dsimp only
    rw [r47 hT (show 100 < q' + 1 by omega), Option.bind_some]
    simp only [condM_t, p31, p41, p29 (l := opsL) (by decide) hKb, Option.bind_some]
    cases ho : hasL T j opsL
    · have h0 := opN_zero.2 ho
      rw [h0]
      simp only [Bool.not_false, if_true]
      exact ⟨_, _, rfl, rfl, .ok j _ hj hl, fun g => by omega⟩
    · have lo := hasL_lt ho
      have h0 : opN T j ≠ 0 := fun g => by rw [opN_zero.1 g] at ho; cases ho
      have hbe : (((opN T j : Nat) : Int) == 0) = false := by simpa using h0
      simp only [Bool.not_true, Bool.false_eq_true, if_false, idx_exact hKb opsL (by decide), Option.bind_some, hbe, if_neg h0]
      have ht : (tok T e j).fText = (T.getD j default).fText := by unfold tok; rw [if_pos lo]
      have hop := opN_text ho
      rw [ht, ← hop]
      have ho14 : opN T j ≤ 14 := by
        unfold opN
        have : ∀ (f : Bytes → Bool) (l : List Bytes), first f l ≤ l.length := by
          intro f l
          induction l with
          | nil => exact Nat.le_refl _
          | cons w l ih =>
            unfold first
            split
            · simp
            · split
              · simp
              · rename_i z hz; rw [hz] at ih; simp; omega
        exact this _ opsL
      have ew : IntKind.i64.wrap ((((opN T j : Nat) : Int) - 1) + 1) = ((opN T j : Nat) : Int) := by rw [wrap64 (by omega) (by omega)]; omega
      have ej : (⟨(P T e j).ftokens, IntKind.i64.wrap ((P T e j).fi + 1), (P T e j).fend, (P T e j).ferr⟩ : S65) = P T e (j + 1) := by
        show (⟨T, IntKind.i64.wrap ((j : Int) + 1), e, []⟩ : S65) = _
        rw [wrap64 (by omega) (by omega)]; rfl
      obtain ⟨x, y, d1, d2, d3, _⟩ := h40' (n - 1) (by omega) q q' (j + 1) d (by omega) (by omega) hd hd7 (fun g => by omega) (by omega) (by omega) (by omega) (by omega)
      rw [ej, ew, d1, d2, Option.bind_some, Option.bind_some]
      cases d3 with
      | er j k a v w hk => exact ⟨_, _, rfl, rfl, .er j k a _ _ hk, fun g => by omega⟩
      | ok j v hj hl => exact ⟨_, _, rfl, rfl, .ok j _ (by omega) hl, fun g => by omega⟩
theorem all_x (hT : T.length ≤ 100000) : ∀ n, Q19 T e n ∧ Q40 T e n := by
  intro n
  induction n using Nat.strongRecOn with
  | ind n ih =>
    have h40 : Q40 T e n := opd_x hT fun m hm => (ih m hm).1
    exact ⟨expr_x hT h40 fun m hm => (ih m hm).2, h40⟩
end Go.Proofs.YtphnfaabcnciiaaGreatDoor.ex
