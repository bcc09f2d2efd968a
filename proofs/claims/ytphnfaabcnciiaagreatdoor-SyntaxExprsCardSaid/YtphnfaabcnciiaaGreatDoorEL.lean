/- The law on expressions. No conditions. -/
import Derived.Test.YtphnfaabcnciiaaGreatDoorEPc
import Derived.Test.YtphnfaabcnciiaaGreatDoorLX
import Derived.Test.YtphnfaabcnciiaaGreatDoorLW
import Derived.Test.YtphnfaabcnciiaaGreatDoorLP
import Derived.Test.YtphnfaabcnciiaaGreatDoorXs
set_option linter.unusedVariables false
set_option linter.unusedSimpArgs false
set_option linter.unusedSectionVars false
namespace Go.Proofs.YtphnfaabcnciiaaGreatDoor
open Go Go.Proofs Go.Dl
set_option maxRecDepth 100000
theorem allF_le (s : Bytes) (h : s.length ≤ 6000) : lx.allF s = match lx.lexL s 0 [] with
    | .inl t => (t, [])
    | .inr (c, a) => ([], [(c, (a : Int))]) := by
  unfold lx.allF
  rw [if_neg (by omega)]; rfl
theorem lex_cases (s : Bytes) (hs : s.length ≤ 6000) : (∃ ts : List S41, ts.length ≤ 1500 ∧ lx.allF s = (ts, [])) ∨ ∃ c a : Int, lx.allF s = ([], [(c, a)]) ∧ (c = 1 ∨ c = 2 ∨ c = 5) := by
  have hp := lx.places s s 0 [] rfl (by omega) (Nat.le_refl _) (by simp)
  rw [allF_le s hs]
  cases h : lx.lexL s 0 [] with
  | inl ts =>
    rw [h] at hp
    exact .inl ⟨ts, hp.1, rfl⟩
  | inr r =>
    obtain ⟨c, a⟩ := r
    rw [h] at hp
    exact .inr ⟨c, a, rfl, hp.1⟩
theorem F10_eq (K : Nat) (e : Err) : fnS (F10 K e) = some (e.headD (0, 0)) := rfl
theorem both (K : Nat) (hK : 200000 < K) (s : Bytes) (hs : s.length ≤ 6000) : ∃ v f, fnS (F8 K s) = some (v, f) ∧ fnS (F9 K s) = some (v, f.headD (0, 0)) := by
  rcases lex_cases s hs with ⟨ts, hl, ha⟩ | ⟨c, a, ha, hc⟩
  · have h18 : fnS (F18 K s) = some (ex.P ts s.length 0) := by
      unfold F18
      rw [all_eqA K s hK, ha]; rfl
    have h22 : fnS (F22 K s) = some (ex.R ts s.length 0, 0, 0) := by
      unfold F22
      rw [refall_eq K s (by omega) hK]
      unfold refF
      rw [ha]; rfl
    unfold F8 F9
    rw [h18, h22, Option.bind_some, Option.bind_some]
    dsimp only
    rw [if_neg (by simp)]
    obtain ⟨⟨v, pp⟩, ⟨w, rr⟩, c1, c2, c3, _⟩ := (ex.all_x (T := ts) (e := s.length) (by omega) ts.length).1 K K 0 1 (by omega) (by omega) (by omega) (by omega) (by omega) (by omega)
    rw [c1, c2, Option.bind_some, Option.bind_some]
    cases c3 with
    | er j k a v w hk =>
      refine ⟨⟨0, 0, [], [], []⟩, [(k, a)], ?_, ?_⟩
      · simp only [letV]
        by_cases hj : j < ts.length
        · rw [if_pos (by show decide ((j : Int) < (Int.ofNat ts.length)) = true; simp; omega)]
          rfl
        · rw [if_neg (by show ¬ decide ((j : Int) < (Int.ofNat ts.length)) = true; simp; omega)]
          rfl
      · have hz : ((k == 0) : Bool) = false := by simpa using hk
        show fnS (letV ((k == 0) && _) _) = _
        simp only [letV, hz, Bool.false_and, Bool.false_eq_true, if_false, bindS_r]
        rw [if_pos (by show (k != 0) = true; simpa using hk)]
        rfl
    | ok j v hj hl =>
      by_cases hj : j < ts.length
      · have hd : decide ((j : Int) < (Int.ofNat ts.length)) = true := by simp; omega
        refine ⟨⟨0, 0, [], [], []⟩, [(3, (ex.tok ts s.length j).fAt)], ?_, ?_⟩
        · show fnS (letV (decide ((j : Int) < (Int.ofNat ts.length))) _) = _
          simp only [letV, hd, if_true, ex.p20, Option.bind_some, bindS_r, condM_t, ex.p21e]
          rfl
        · show fnS (letV (((0 : Int) == 0) && decide ((j : Int) < (Int.ofNat ts.length))) _) = _
          simp only [letV, hd, beq_self_eq_true, Bool.and_self, if_true, ex.r24, Option.bind_some, bindS_r]
          rfl
      · have hd : decide ((j : Int) < (Int.ofNat ts.length)) = false := by simp; omega
        refine ⟨v, [], ?_, ?_⟩
        · show fnS (letV (decide ((j : Int) < (Int.ofNat ts.length))) _) = _
          simp only [letV, hd, Bool.false_eq_true, if_false, bindS_r, condM_t, ex.p21, Option.bind_some]
          rfl
        · show fnS (letV (((0 : Int) == 0) && decide ((j : Int) < (Int.ofNat ts.length))) _) = _
          simp only [letV, hd, Bool.and_false, Bool.false_eq_true, if_false, bindS_r]
          rfl
  · have h18 : fnS (F18 K s) = some ⟨[], 0, Int.ofNat s.length, [(c, a), (c, a)]⟩ := by
      unfold F18
      rw [all_eqA K s hK, ha, Option.bind_some]
      have : fnS (F36 K [(c, a)]) = some [(c, a), (c, a)] := by
        show fnS (if c = 1 ∨ c = 2 ∨ c = 5 then some (.inl [(c, a), (c, a)]) else none : Option (Err ⊕ Err)) = _
        rw [if_pos hc]; rfl
      rw [this]; rfl
    have h22 : fnS (F22 K s) = some (⟨[], 0, Int.ofNat s.length, 0, 0⟩, c, a) := by
      unfold F22
      rw [refall_eq K s (by omega) hK]
      unfold refF
      rw [ha]; rfl
    obtain ⟨k, rfl⟩ : ∃ k, K = k + 4 := ⟨K - 4, by omega⟩
    have h19 : ∃ v, fnS (F19 (k + 4) (⟨[], 0, Int.ofNat s.length, [(c, a), (c, a)]⟩ : S65) 1) = some (v, ⟨[], 0, Int.ofNat s.length, [(c, a), (c, a)]⟩) := ⟨_, rfl⟩
    obtain ⟨v, h19⟩ := h19
    refine ⟨⟨0, 0, [], [], []⟩, [(c, a), (c, a)], ?_, ?_⟩
    · unfold F8
      rw [h18, Option.bind_some, h19, Option.bind_some]
      rfl
    · unfold F9
      rw [h22, Option.bind_some]
      rw [if_pos (by show (c != 0) = true; rcases hc with rfl | rfl | rfl <;> rfl)]
      rfl
theorem exprs_law (K : Nat) (hK : 200000 < K) (hA : fnS (F7 K) = some true) (s : Bytes) : fnS (F3 K s) = some true := by
  unfold F3
  simp only [letV]
  by_cases h : s.length > 500
  · rw [if_pos (by simp; omega), hA]; rfl
  · obtain ⟨v, f, h1, h2⟩ := both K hK s (by omega)
    rw [if_neg (by simp; omega), h1, h2, Option.bind_some, Option.bind_some, F10_eq, Option.bind_some]
    have e3 : fnS (F11e K v v) = some true := by unfold F11e; rw [if_pos rfl]; rfl
    rw [e3, Option.bind_some]
    simp only [beq_self_eq_true, Bool.and_self, Bool.true_and, condM_t, hA]
    rfl
end Go.Proofs.YtphnfaabcnciiaaGreatDoor
