/- The document's own lexer: its parts. The document's own lexer: a token, a comment. The document's own lexer is the plain one; the statement on tokens. The document's own lexer is the plain one; the statement on tokens. All tokens by the document's own lexer; the statement on tokens. No conditions. -/
import Derived.Test.YtphnfaabcnciiaaGreatDoorLW
import Derived.Test.YtphnfaabcnciiaaGreatDoorLP
import Derived.Test.YtphnfaabcnciiaaGreatDoorXl
set_option linter.unusedVariables false
set_option linter.unusedSimpArgs false
set_option linter.unusedSectionVars false
namespace Go.Proofs.YtphnfaabcnciiaaGreatDoor
open Go Go.Proofs Go.Dl
set_option maxRecDepth 100000
theorem rfirst_eq (K : Nat) (b : UInt8) : fnS (F100 K b) = some (lx.isLetter b) := by
  have := byte_all (p := fun b => decide (fnS (F100 K b) = some (lx.isLetter b))) (by kernel_rfl) b
  simpa using this
theorem rdigit_eq (K : Nat) (b : UInt8) : fnS (F103 K b) = some (lx.isDigit b) := by
  have := byte_all (p := fun b => decide (fnS (F103 K b) = some (lx.isDigit b))) (by kernel_rfl) b
  simpa using this
theorem rmore_eq (K : Nat) (b : UInt8) : fnS (F101 K b) = some (lx.isInner b) := by
  have := byte_all (p := fun b => decide (fnS (F101 K b) = some (lx.isInner b))) (by kernel_rfl) b
  simpa using this
theorem occ_short (x : Bytes) : ∀ l : Bytes, l.length < x.length → lx.occ x l = false
  | [], h => by
    rw [lx.occ, beq_eq_false_iff_ne]
    rintro rfl
    simp at h
  | b :: r, h => by
    rw [lx.occ, occ_short x r (by simp at h; omega), Bool.or_false, beq_eq_false_iff_ne]
    intro e
    have := congrArg List.length e
    simp at this h
    omega
theorem in_eq (K : Nat) (c x : Bytes) (hc : c.length ≤ 1000) (hx : x.length ≤ 100000) (hK : 1001 < K) : fnS (F117 K c x) = some (lx.occ x c) := by
  unfold F117
  simp only [letV]
  refine iter_ctx (C := fun o => fnS (bindS (blockS (o.map .inl)) _) = some _) (fun t : Int => c.length + 1 - t.toNat)
    (fun t (a : Unit ⊕ Bool) => a = bif lx.occ x (c.drop t.toNat) then .inr true else .inl ()) (fun t => 0 ≤ t ∧ t.toNat ≤ c.length) ⟨by simp, by simp⟩ (by simp; omega) ?_ ?_
  · rintro i ⟨g1, g2⟩
    obtain ⟨n, rfl⟩ : ∃ n : Nat, i = (n : Int) := ⟨i.toNat, by omega⟩
    simp only [Int.toNat_natCast] at g2 ⊢
    have ew : IntKind.i64.wrap ((n : Int) + (Int.ofNat x.length)) = ((n + x.length : Nat) : Int) := by rw [wrap64 (by simp; omega) (by simp; omega)]; simp
    rw [ew]
    by_cases hn : n + x.length ≤ c.length
    · have et : ((c.drop n).take (((n + x.length : Nat) : Int).toNat - n)) = (c.drop n).take x.length := by
        rw [Int.toNat_natCast, Nat.add_sub_cancel_left]
      rw [if_pos (c := decide _ = true) (by simp; omega), chk_t (vs := []) (by simp [bndOk]; omega), chk_nil]
      by_cases he : (c.drop n).take x.length = x
      · right
        rw [if_pos (beq_iff_eq.2 (et.trans he))]
        refine ⟨.inr true, rfl, ?_⟩
        have : lx.occ x (c.drop n) = true := by
          cases hd : c.drop n with
          | nil =>
            rw [hd] at he
            rw [lx.occ, ← he]; simp
          | cons b r =>
            rw [hd] at he
            rw [lx.occ, beq_iff_eq.2 he, Bool.true_or]
        rw [this]; rfl
      · left
        rw [if_neg (fun e => he (et.symm.trans (beq_iff_eq.1 e)))]
        have hlt : n < c.length := by
          rcases Nat.lt_or_ge n c.length with h | h
          · exact h
          · exfalso
            have : x = [] := List.eq_nil_of_length_eq_zero (by omega)
            subst this
            simp at he
        refine ⟨((n + 1 : Nat) : Int), ?_, ⟨by omega, by simp; omega⟩, by simp; omega, fun a ha => ?_⟩
        · rw [blockS_r, bindS_r, wrap64 (by omega) (by omega)]; rfl
        · rw [Int.toNat_natCast] at ha
          rw [drop_getDT c 0 n hlt] at he
          rw [drop_getDT c 0 n hlt, lx.occ, beq_eq_false_iff_ne.2 he, Bool.false_or]
          exact ha
    · right
      rw [if_neg (c := decide _ = true) (by simp; omega)]
      refine ⟨.inl (), rfl, ?_⟩
      rw [occ_short x (c.drop n) (by simp; omega)]; rfl
  · rintro a rfl
    rw [Int.toNat_zero, List.drop_zero]
    cases lx.occ x c <;> rfl
theorem letters_eq (K : Nat) (s : Bytes) (hs : s.length ≤ 1000000) (hK : s.length < K) : fnS (F116 K s) = some (lx.lettersB s) := by
  unfold F116
  simp only [letV]
  refine iter_ctx (C := fun o => fnS (bindS (blockS (o.map .inl)) _) = some _) (fun t : Int => s.length - t.toNat)
    (fun t (a : Unit ⊕ Bool) => a = bif lx.lettersB (s.drop t.toNat) then .inl () else .inr false) (fun t => 0 ≤ t ∧ t.toNat ≤ s.length) ⟨by simp, by simp⟩ (by simp; omega) ?_ ?_
  · rintro i ⟨g1, g2⟩
    obtain ⟨n, rfl⟩ : ∃ n : Nat, i = (n : Int) := ⟨i.toNat, by omega⟩
    simp only [Int.toNat_natCast] at g2 ⊢
    by_cases hn : n < s.length
    · rw [if_pos (c := decide _ = true) (by simp; omega), chk_t (vs := []) (inb_nat hn), chk_nil, rmore_eq, Option.bind_some, drop_getDT s 0 n hn]
      by_cases hb : lx.isInner (s.getD n 0) = true
      · left
        rw [if_neg (by rw [hb]; simp)]
        refine ⟨((n + 1 : Nat) : Int), ?_, ⟨by omega, by simp; omega⟩, by simp; omega, fun a ha => ?_⟩
        · rw [blockS_r, bindS_r, wrap64 (by omega) (by omega)]; rfl
        · rw [Int.toNat_natCast] at ha
          unfold lx.lettersB at ha ⊢
          rw [List.all_cons, hb, Bool.true_and]
          exact ha
      · right
        rw [if_pos (by rw [Bool.eq_false_iff.2 hb]; rfl)]
        refine ⟨.inr false, rfl, ?_⟩
        unfold lx.lettersB
        rw [List.all_cons, Bool.eq_false_iff.2 hb]; rfl
    · right
      rw [if_neg (c := decide _ = true) (by simp; omega), List.drop_eq_nil_of_le (by omega)]
      exact ⟨.inl (), rfl, rfl⟩
  · rintro a rfl
    rw [Int.toNat_zero, List.drop_zero]
    cases lx.lettersB s <;> rfl
def keysC : Bytes := lx.sepd lx.keysL
theorem keysC_len : keysC.length = 386 := by kernel_rfl
theorem F10_form (K : Nat) (s : Bytes) : F102 K s = ((condM (!(s == ([] : Bytes))) (fnS (F116 K s)) default).bind (fun r1 => (if ((s == ([] : Bytes)) || (!r1)) = true then (some (.inl (false))) else (chk [room (([32] : Bytes).length + s.length), room ((([32] : Bytes) ++ s).length + ([32] : Bytes).length)] (F117 K keysC ((([32] : Bytes) ++ s) ++ ([32] : Bytes))))))) := by
  kernel_rfl
theorem refkey_eq (K : Nat) (s : Bytes) (hs : s.length ≤ 90000) (hK : 90000 < K) : fnS (F102 K s) = some (lx.isKey s) := by
  rw [F10_form, ← lx.refKey_eq]
  unfold lx.refKeyF
  by_cases h0 : s = []
  · subst h0
    rfl
  · have c0 : (s == ([] : Bytes)) = false := beq_eq_false_iff_ne.2 h0
    rw [if_neg h0, c0, Bool.not_false, condM_t, letters_eq K s (by omega) (by omega), Option.bind_some, Bool.false_or]
    by_cases h1 : lx.lettersB s = true
    · rw [if_neg (by simp [h1]), if_neg (by simp [h1]), chk_t (room_le (by simp; omega)), chk_t (vs := []) (room_le (by simp; omega)), chk_nil]
      have e : ((([32] : Bytes) ++ s) ++ ([32] : Bytes)) = lx.pat s := by simp [lx.pat]
      rw [e]
      exact in_eq K keysC (lx.pat s) (by rw [keysC_len]; omega) (by simp [lx.pat]; omega) (by omega)
    · have h1 : lx.lettersB s = false := by simpa using h1
      rw [if_pos (by simp [h1]), if_pos h1]; rfl
end Go.Proofs.YtphnfaabcnciiaaGreatDoor

set_option linter.unusedVariables false
set_option linter.unusedSimpArgs false
set_option linter.unusedSectionVars false
namespace Go.Proofs.YtphnfaabcnciiaaGreatDoor
open Go Go.Proofs Go.Dl
set_option maxRecDepth 100000
theorem occ_two (b c : UInt8) : lx.occ [32, b, c, 32] ([32, 58, 61, 32, 63, 61, 32, 46, 46, 32, 60, 62, 32, 60, 61, 32, 62, 61, 32] : Bytes) = decide ((c = 61 ∧ (b = 58 ∨ b = 63 ∨ b = 60 ∨ b = 62)) ∨ (b = 46 ∧ c = 46) ∨ (b = 60 ∧ c = 62)) := by
  rw [Bool.eq_iff_iff]
  simp [lx.occ]
  constructor
  · rintro (⟨rfl, rfl⟩ | ⟨rfl, rfl⟩ | ⟨rfl, rfl⟩ | ⟨rfl, rfl⟩ | ⟨rfl, rfl⟩ | ⟨rfl, rfl⟩) <;> decide
  · rintro (⟨rfl, rfl | rfl | rfl | rfl⟩ | ⟨rfl, rfl⟩ | ⟨rfl, rfl⟩) <;> decide
theorem occ_one (b : UInt8) : lx.occ [b] ([43, 45, 42, 47, 61, 60, 62, 40, 41, 91, 93, 44, 59, 58, 46] : Bytes) = decide (b ∈ ([43, 45, 42, 47, 61, 60, 62, 40, 41, 91, 93, 44, 59, 58, 46] : Bytes)) := by
  have := byte_all (p := fun b => lx.occ [b] ([43, 45, 42, 47, 61, 60, 62, 40, 41, 91, 93, 44, 59, 58, 46] : Bytes) == decide (b ∈ ([43, 45, 42, 47, 61, 60, 62, 40, 41, 91, 93, 44, 59, 58, 46] : Bytes))) (by kernel_rfl) b
  simpa using this
theorem take_at (s : Bytes) (a n : Nat) : (s.drop ((a : Nat) : Int).toNat).take ((((a + n : Nat)) : Int).toNat - ((a : Nat) : Int).toNat) = (s.drop a).take n := by
  rw [Int.toNat_natCast, Int.toNat_natCast, Nat.add_sub_cancel_left]
theorem sign_eq (K : Nat) (s : Bytes) (a : Nat) (ha : a < s.length) (hl : s.length ≤ 500000) (hK : 1001 < K) : fnS (F104 K s (a : Int)) = some ((lx.sgn (s.getD a 0) (s.getD (a + 1) 0) : Nat) : Int) := by
  unfold F104
  have e1 : IntKind.i64.wrap ((a : Int) + 1) = ((a + 1 : Nat) : Int) := by rw [wrap64 (by omega) (by omega)]; simp
  have e2 : IntKind.i64.wrap ((a : Int) + 2) = ((a + 2 : Nat) : Int) := by rw [wrap64 (by omega) (by omega)]; simp
  have hb : (s.drop a).take 1 = [s.getD a 0] := by rw [drop_getDT s 0 a ha]; rfl
  rw [e1, e2, take_at s a 2, take_at s a 1, hb]
  dsimp +instances only [letV]
  by_cases h : a + 1 < s.length
  · have h2 : (s.drop a).take 2 = [s.getD a 0, s.getD (a + 1) 0] := by rw [drop_getDT s 0 a ha, drop_getDT s 0 (a + 1) h]; rfl
    have hd : decide (((a + 1 : Nat) : Int) < (Int.ofNat s.length)) = true := by simp; omega
    rw [hd, h2]
    rw [chk_t (by simp [bndOk]; omega), chk_t (by rfl), chk_t (vs := []) (by rfl), chk_nil, condM_t]
    have e : ((([32] : Bytes) ++ [s.getD a 0, s.getD (a + 1) 0]) ++ ([32] : Bytes)) = [32, s.getD a 0, s.getD (a + 1) 0, 32] := rfl
    rw [e, in_eq K _ _ (by simp) (by simp) hK, Option.bind_some, occ_two]
    generalize s.getD a 0 = b
    generalize s.getD (a + 1) 0 = c
    by_cases h2 : (c = 61 ∧ (b = 58 ∨ b = 63 ∨ b = 60 ∨ b = 62)) ∨ (b = 46 ∧ c = 46) ∨ (b = 60 ∧ c = 62)
    · rw [if_pos (by rw [decide_eq_true h2]; rfl)]
      unfold lx.sgn
      rw [if_pos h2]; rfl
    · rw [if_neg (by rw [decide_eq_false h2]; simp), chk_t (vs := []) (by simp [bndOk]; omega), chk_nil, in_eq K _ _ (by simp) (by simp) hK, Option.bind_some, occ_one]
      unfold lx.sgn
      rw [if_neg h2]
      by_cases h3 : b ∈ ([43, 45, 42, 47, 61, 60, 62, 40, 41, 91, 93, 44, 59, 58, 46] : Bytes)
      · rw [if_pos (by rw [decide_eq_true h3]), if_pos h3]; rfl
      · rw [if_neg (by rw [decide_eq_false h3]; simp), if_neg h3]; rfl
  · have hd : decide (((a + 1 : Nat) : Int) < (Int.ofNat s.length)) = false := by simp; omega
    have hc : s.getD (a + 1) 0 = 0 := by simp [List.getD, List.getElem?_eq_none (show s.length ≤ a + 1 by omega)]
    rw [hd, chk_t (by rfl), chk_t (by rfl), chk_t (vs := []) (by rfl), chk_nil, hc]
    generalize s.getD a 0 = b
    have ec : ∀ (m : Option Bool) (d : Bool), condM false m d = some d := fun _ _ => rfl
    rw [ec, Option.bind_some, if_neg (by simp), chk_t (vs := []) (by simp [bndOk]; omega), chk_nil, in_eq K _ _ (by simp) (by simp) hK, Option.bind_some, occ_one]
    unfold lx.sgn
    rw [if_neg (c := (((0 : UInt8) = 61 ∧ _) ∨ _)) (by simp)]
    by_cases h3 : b ∈ ([43, 45, 42, 47, 61, 60, 62, 40, 41, 91, 93, 44, 59, 58, 46] : Bytes)
    · rw [if_pos (by rw [decide_eq_true h3]), if_pos h3]; rfl
    · rw [if_neg (by rw [decide_eq_false h3]; simp), if_neg h3]; rfl
theorem rcomment_eq (K : Nat) (s : Bytes) (a : Nat) (ha : a + 2 ≤ s.length) (hl : s.length ≤ 500000) (hK : s.length < K) :
    fnS (F76 K s (a : Int)) = some (match lx.comE (s.drop (a + 2)) with | some n => ((a + 2 + n : Nat) : Int) | none => -1) := by
  unfold F76
  have e2 : IntKind.i64.wrap ((a : Int) + 2) = ((a + 2 : Nat) : Int) := by rw [wrap64 (by omega) (by omega)]; simp
  rw [e2]
  simp only [letV]
  refine iter_ctx (C := fun o => fnS (bindS (blockS (o.map .inl)) _) = some _) (fun t : Int => s.length - t.toNat)
    (fun t (r : Unit ⊕ Int) => r = match lx.comE (s.drop t.toNat) with | some n => .inr ((t.toNat + n : Nat) : Int) | none => .inl ()) (fun t => 0 ≤ t ∧ t.toNat ≤ s.length) ⟨by omega, by simp; omega⟩ (by simp; omega) ?_ ?_
  · rintro i ⟨g1, g2⟩
    obtain ⟨x, hxe⟩ : ∃ x, x = s.getD i.toNat 0 := ⟨_, rfl⟩
    obtain ⟨y, hye⟩ : ∃ y, y = s.getD (IntKind.i64.wrap (i + 1)).toNat 0 := ⟨_, rfl⟩
    rw [← hxe, ← hye]
    obtain ⟨n, rfl⟩ : ∃ n : Nat, i = (n : Int) := ⟨i.toNat, by omega⟩
    simp only [Int.toNat_natCast] at g2 hxe ⊢
    have ew : IntKind.i64.wrap ((n : Int) + 1) = ((n + 1 : Nat) : Int) := by rw [wrap64 (by omega) (by omega)]; simp
    rw [ew, Int.toNat_natCast] at hye
    rw [ew]
    by_cases hn : n + 1 < s.length
    · have hh : (s.drop (n + 1)).headD 0 = y := by rw [drop_getDT s 0 (n + 1) hn, ← hye]; rfl
      rw [if_pos (c := decide _ = true) (by simp; omega), chk_t (inb_nat (by omega)), chk_t (vs := []) (by rw [inb_nat hn]; simp), chk_nil, drop_getDT s 0 n (by omega), ← hxe, lx.comE, hh]
      have cx : ((Int.ofNat x.toNat : Int) == 42) = decide (x = 42) := byte_is x 42
      have cy : ((Int.ofNat y.toNat : Int) == 41) = decide (y = 41) := byte_is y 41
      by_cases hxy : x = 42 ∧ y = 41
      · right
        rw [if_pos (by rw [cx, cy, decide_eq_true hxy.1, decide_eq_true hxy.2]; rfl), if_pos hxy]
        refine ⟨_, rfl, ?_⟩
        have e2 : IntKind.i64.wrap ((n : Int) + 2) = ((n + 2 : Nat) : Int) := by rw [wrap64 (by omega) (by omega)]; simp
        rw [e2]
      · left
        rw [if_neg (by rw [cx, cy, Bool.and_eq_true, decide_eq_true_eq, decide_eq_true_eq]; exact hxy), if_neg hxy]
        refine ⟨((n + 1 : Nat) : Int), ?_, ⟨by omega, by simp; omega⟩, by simp; omega, fun r hr => ?_⟩
        · rw [blockS_r, bindS_r]
        · rw [Int.toNat_natCast] at hr
          rw [hr]
          cases lx.comE (s.drop (n + 1)) with
          | none => rfl
          | some m => show Sum.inr (((n + 1 + m : Nat)) : Int) = Sum.inr (((n + (m + 1) : Nat)) : Int); congr 1; omega
    · right
      rw [if_neg (c := decide _ = true) (by simp; omega)]
      refine ⟨.inl (), rfl, ?_⟩
      by_cases h : n < s.length
      · rw [drop_getDT s 0 n h, List.drop_eq_nil_of_le (by omega), lx.comE, if_neg (by simp)]; rfl
      · rw [List.drop_eq_nil_of_le (by omega)]; rfl
  · rintro r rfl
    rw [Int.toNat_natCast]
    cases lx.comE (s.drop (a + 2)) <;> rfl
end Go.Proofs.YtphnfaabcnciiaaGreatDoor

set_option linter.unusedVariables false
set_option linter.unusedSimpArgs false
set_option linter.unusedSectionVars false
namespace Go.Proofs.YtphnfaabcnciiaaGreatDoor
open Go Go.Proofs Go.Dl
set_option maxRecDepth 100000
def OneP (s : Bytes) (a : Nat) (r : S41 × Int × Int) : lx.Res → Prop
  | .tok q x n => r = (⟨q, x, n, (a : Int)⟩, ((a + x.length : Nat) : Int), 0)
  | .err c => r.2.2 = c ∧ c ≠ 0
  | .skip _ => False
theorem tw_all {p : UInt8 → Bool} : ∀ l : Bytes, ∀ x ∈ l.takeWhile p, p x = true
  | [], x, h => by cases h
  | b :: r, x, h => by
    rw [List.takeWhile_cons] at h
    split at h
    · rename_i hb
      rcases List.mem_cons.1 h with rfl | h
      · exact hb
      · exact tw_all r x h
    · cases h
theorem valR_lt : ∀ (l : Bytes) (n j : Nat), (∀ c ∈ l, lx.isDigit c = true) → n < 10 ^ (min j 6) → lx.valR n j l < 1000000
  | [], n, j, _, h => by
    have : (10 : Nat) ^ (min j 6) ≤ 10 ^ 6 := Nat.pow_le_pow_right (by decide) (by omega)
    rw [lx.valR]; omega
  | c :: t, n, j, hd, h => by
    obtain ⟨h1, h2⟩ := lx.digit_iff (hd c (List.mem_cons_self ..))
    rw [lx.valR]
    refine valR_lt t _ (j + 1) (fun x hx => hd x (List.mem_cons_of_mem _ hx)) ?_
    by_cases hj : j < 6
    · rw [if_pos hj, show min (j + 1) 6 = j + 1 by omega, Nat.pow_succ]
      rw [show min j 6 = j by omega] at h
      omega
    · rw [if_neg hj, show min (j + 1) 6 = 6 by omega]
      rw [show min j 6 = 6 by omega] at h
      exact h
theorem step_at (s : Bytes) (a : Nat) (ha : a < s.length) : lx.step (s.drop a) = lx.stepB (s.getD a 0) (s.getD (a + 1) 0) (s.drop a) := by
  have hd := drop_getDT s 0 a ha
  unfold lx.step
  have h1 : (s.drop a).headD 0 = s.getD a 0 := by rw [hd]; rfl
  have h2 : (s.drop a).tail.headD 0 = s.getD (a + 1) 0 := by
    rw [hd, List.tail_cons]
    by_cases h : a + 1 < s.length
    · rw [drop_getDT s 0 (a + 1) h]; rfl
    · rw [List.drop_eq_nil_of_le (by omega)]; simp [List.getD, List.getElem?_eq_none (show s.length ≤ a + 1 by omega)]
  rw [h1, h2]
theorem word_loop (K : Nat) (s : Bytes) (a : Nat) (ha : a ≤ s.length) (hl : s.length ≤ 80000) (hK : 90000 < K) {B : Type} :
    iter K (fun (u128 : Int) => (chk [!(decide ((u128 : Int) < (Int.ofNat s.length))) || inb u128 s.length] ((condM (decide ((u128 : Int) < (Int.ofNat s.length))) (fnS (F101 K (s.getD (u128 : Int).toNat 0))) default).bind (fun r134 => (if (decide ((u128 : Int) < (Int.ofNat s.length)) && r134) = true then (bindS (blockS (some (.inr ((IntKind.i64.wrap (u128 + 1)))))) (fun (u135 : Int) => (some (.inr (u135))))) else (some (.inl (Sum.inl (u128))))))) : Option ((Int ⊕ B) ⊕ Int))) (a : Int)
      = some (.inl ((a + ((s.drop a).takeWhile lx.isInner).length : Nat) : Int)) := by
  refine iter_ctx (C := fun o => o = some _) (fun t : Int => s.length - t.toNat)
    (fun t (r : Int ⊕ B) => r = .inl ((t.toNat + ((s.drop t.toNat).takeWhile lx.isInner).length : Nat) : Int)) (fun t => 0 ≤ t ∧ t.toNat ≤ s.length) (K := K) (t := (a : Int)) ⟨by omega, by simp; omega⟩ (by simp; omega) ?_ ?_
  · rintro i ⟨g1, g2⟩
    obtain ⟨x, hxe⟩ : ∃ x, x = s.getD i.toNat 0 := ⟨_, rfl⟩
    rw [← hxe]
    obtain ⟨n, rfl⟩ : ∃ n : Nat, i = (n : Int) := ⟨i.toNat, by omega⟩
    simp only [Int.toNat_natCast] at g2 hxe ⊢
    have e29 := rmore_eq K x
    by_cases hn : n < s.length
    · have hd : decide ((n : Int) < (Int.ofNat s.length)) = true := by simp; omega
      rw [hd, chk_t (vs := []) (by rw [inb_nat hn]; rfl), chk_nil, condM_t, e29, Option.bind_some, drop_getDT s 0 n hn, ← hxe, List.takeWhile_cons]
      cases hx : lx.isInner x with
      | true =>
        left
        rw [if_pos rfl, if_pos (c := (true && true) = true) rfl]
        refine ⟨((n + 1 : Nat) : Int), ?_, ⟨by omega, by simp; omega⟩, by simp; omega, fun r hr => ?_⟩
        · rw [wrap64 (by omega) (by omega)]; rfl
        · rw [hr, Int.toNat_natCast, List.length_cons]
          congr 1; omega
      | false =>
        right
        rw [if_neg (by simp), if_neg (by simp)]
        exact ⟨_, rfl, rfl⟩
    · right
      have hd : decide ((n : Int) < (Int.ofNat s.length)) = false := by simp; omega
      have ec : ∀ (m : Option Bool) (d : Bool), condM false m d = some d := fun _ _ => rfl
      rw [hd, chk_t (vs := []) (by rfl), chk_nil, ec, Option.bind_some, if_neg (by simp), List.drop_eq_nil_of_le (by omega)]
      exact ⟨_, rfl, rfl⟩
  · rintro r rfl
    rw [Int.toNat_natCast]
theorem one_word (K : Nat) (s : Bytes) (a : Nat) (ha : a < s.length) (hl : s.length ≤ 80000) (hK : 90000 < K) (hb : lx.isLetter (s.getD a 0) = true) :
    ∃ r, fnS (F77 K s (a : Int)) = some r ∧ OneP s a r (lx.step (s.drop a)) := by
  rw [step_at s a ha, lx.stepB_letter _ _ _ hb]
  unfold F77
  simp only [letV]
  have e28 := rfirst_eq K (s.getD a 0)
  rw [hb] at e28
  rw [chk_t (vs := []) (inb_nat ha), chk_nil, Int.toNat_natCast, e28, Option.bind_some, if_pos rfl, word_loop K s a (by omega) hl hK]
  have hT := (lx.takeWhile_take (p := lx.isInner) (s.drop a))
  unfold lx.wordR
  generalize (s.drop a).takeWhile lx.isInner = T at *
  obtain ⟨hT1, hT2⟩ := hT
  simp only [List.length_drop] at hT2
  show ∃ r, fnS (bindS (blockS (chk [bndOk s.length (a : Int) ((a + T.length : Nat) : Int)] _)) _) = some r ∧ _
  rw [chk_t (vs := []) (by simp [bndOk]; omega), chk_nil]
  have et : (s.drop a).take ((((a + T.length : Nat)) : Int).toNat - a) = T := by
    rw [Int.toNat_natCast, Nat.add_sub_cancel_left, ← hT1]
  have ew : IntKind.i64.wrap ((((a + T.length : Nat)) : Int) - (a : Int)) = (T.length : Int) := by rw [wrap64 (by omega) (by omega)]; omega
  rw [et, ew, refkey_eq K T (by omega) hK, Option.bind_some]
  dsimp +instances only
  have k12 : lx.isKey T = true → T.length ≤ 13 := by
    intro h
    have : lx.keysL.all (fun k => decide (k.length ≤ 13)) = true := by kernel_rfl
    have := List.all_eq_true.1 this T (by simpa [lx.isKey] using h)
    simpa using this
  have kreal : (T = [82, 69, 65, 76] ∨ T = [76, 82, 69, 65, 76]) → lx.isKey T = true := by
    rintro (rfl | rfl) <;> kernel_rfl
  by_cases hr : T = [82, 69, 65, 76] ∨ T = [76, 82, 69, 65, 76]
  · rw [if_pos hr, kreal hr, if_pos rfl]
    refine ⟨(⟨2, T, 0, (a : Int)⟩, ((a + T.length : Nat) : Int), 2), ?_, rfl, by decide⟩
    rw [bindS_r, if_pos (by simpa using hr)]; rfl
  · rw [if_neg hr]
    have hrf : (T == ([82, 69, 65, 76] : Bytes) || T == ([76, 82, 69, 65, 76] : Bytes)) = false := by
      rw [Bool.or_eq_false_iff, beq_eq_false_iff_ne, beq_eq_false_iff_ne]
      exact ⟨fun e => hr (.inl e), fun e => hr (.inr e)⟩
    cases hk : lx.isKey T with
    | true =>
      rw [if_pos rfl, if_pos rfl]
      refine ⟨(⟨2, T, 0, (a : Int)⟩, ((a + T.length : Nat) : Int), 0), ?_, rfl⟩
      rw [bindS_r, if_neg (by rw [hrf]; simp)]; rfl
    | false =>
      rw [if_neg (c := false = true) (by simp), if_neg (c := false = true) (by simp)]
      by_cases h12 : 12 < T.length
      · rw [if_pos h12, if_pos (by rw [decide_eq_true_eq]; omega)]
        exact ⟨_, rfl, rfl, by decide⟩
      · rw [if_neg h12, if_neg (by rw [decide_eq_true_eq]; omega)]
        refine ⟨(⟨1, T, 0, (a : Int)⟩, ((a + T.length : Nat) : Int), 0), ?_, rfl⟩
        rw [bindS_r, if_neg (by rw [hrf]; simp)]; rfl
theorem num_loop (K : Nat) (s : Bytes) (a : Nat) (ha : a ≤ s.length) (hl : s.length ≤ 80000) (hK : 90000 < K) {B : Type} :
    iter K (fun (u192 : Int × Int) => (chk [!(decide ((u192.2 : Int) < (Int.ofNat s.length))) || inb u192.2 s.length] ((condM (decide ((u192.2 : Int) < (Int.ofNat s.length))) (fnS (F103 K (s.getD (u192.2 : Int).toNat 0))) default).bind (fun r206 => (if (decide ((u192.2 : Int) < (Int.ofNat s.length)) && r206) = true then (bindS (blockS (bindS (if decide (((IntKind.i64.wrap (u192.2 - (a : Int))) : Int) < 6) = true then (chk [inb u192.2 s.length] (some (.inr ((IntKind.i64.wrap ((IntKind.i64.wrap (u192.1 * 10)) + (IntKind.i64.wrap (IntKind.u8.wrap ((Int.ofNat (s.getD (u192.2 : Int).toNat 0).toNat) - 48))))))))) else (some (.inr (u192.1)))) (fun (u214 : Int) => (some (.inr (u214, (IntKind.i64.wrap (u192.2 + 1)))))))) (fun (u211 : Int × Int) => (some (.inr (u211.1, u211.2))))) else (some (.inl (Sum.inl (u192.1, u192.2))))))) : Option (((Int × Int) ⊕ B) ⊕ (Int × Int)))) (0, (a : Int))
      = some (.inl (((lx.valR 0 0 ((s.drop a).takeWhile lx.isDigit) : Nat) : Int), ((a + ((s.drop a).takeWhile lx.isDigit).length : Nat) : Int))) := by
  refine iter_ctx (C := fun o => o = some _) (fun t : Int × Int => s.length - t.2.toNat)
    (fun t (r : (Int × Int) ⊕ B) => r = .inl (((lx.valR t.1.toNat (t.2.toNat - a) ((s.drop t.2.toNat).takeWhile lx.isDigit) : Nat) : Int), ((t.2.toNat + ((s.drop t.2.toNat).takeWhile lx.isDigit).length : Nat) : Int)))
    (fun t => 0 ≤ t.1 ∧ (a : Int) ≤ t.2 ∧ t.2.toNat ≤ s.length ∧ t.1.toNat < 10 ^ (min (t.2.toNat - a) 6)) (K := K) (t := ((0 : Int), (a : Int))) ⟨by simp, by simp, by simp; omega, by simp⟩ (by simp; omega) ?_ ?_
  · rintro ⟨v, i⟩ ⟨g0, g1, g2, g3⟩
    dsimp +instances only at g0 g1 g2 g3 ⊢
    obtain ⟨x, hxe⟩ : ∃ x, x = s.getD i.toNat 0 := ⟨_, rfl⟩
    rw [← hxe]
    obtain ⟨n, rfl⟩ : ∃ n : Nat, i = (n : Int) := ⟨i.toNat, by omega⟩
    obtain ⟨m, rfl⟩ : ∃ m : Nat, v = (m : Int) := ⟨v.toNat, by omega⟩
    simp only [Int.toNat_natCast] at g2 g3 hxe ⊢
    have e30 := rdigit_eq K x
    have hm6 : m < 1000000 := by
      have : (10 : Nat) ^ (min (n - a) 6) ≤ 10 ^ 6 := Nat.pow_le_pow_right (by decide) (by omega)
      omega
    by_cases hn : n < s.length
    · have hd : decide ((n : Int) < (Int.ofNat s.length)) = true := by simp; omega
      rw [hd, chk_t (vs := []) (by rw [inb_nat hn]; rfl), chk_nil, condM_t, e30, Option.bind_some, drop_getDT s 0 n hn, ← hxe, List.takeWhile_cons]
      cases hx : lx.isDigit x with
      | true =>
        left
        obtain ⟨d1, d2⟩ := lx.digit_iff hx
        rw [if_pos rfl, if_pos (c := (true && true) = true) rfl]
        have ew : IntKind.i64.wrap ((n : Int) - (a : Int)) = ((n - a : Nat) : Int) := by rw [wrap64 (by omega) (by omega)]; omega
        have eb : IntKind.u8.wrap ((Int.ofNat x.toNat) - 48) = ((x.toNat - 48 : Nat) : Int) := by
          show ((Int.ofNat x.toNat) - 48) % 256 = _
          simp only [Int.ofNat_eq_natCast]
          omega
        have eb2 : IntKind.i64.wrap (IntKind.u8.wrap ((Int.ofNat x.toNat) - 48)) = ((x.toNat - 48 : Nat) : Int) := by rw [eb, wrap64 (by omega) (by omega)]
        have en : IntKind.i64.wrap ((IntKind.i64.wrap ((m : Int) * 10)) + ((x.toNat - 48 : Nat) : Int)) = ((m * 10 + (x.toNat - 48) : Nat) : Int) := by
          rw [wrap64 (x := (m : Int) * 10) (by omega) (by omega), wrap64 (by omega) (by omega)]; omega
        have e1 : IntKind.i64.wrap ((n : Int) + 1) = ((n + 1 : Nat) : Int) := by rw [wrap64 (by omega) (by omega)]; simp
        refine ⟨(((if n - a < 6 then m * 10 + (x.toNat - 48) else m : Nat) : Int), ((n + 1 : Nat) : Int)), ?_, ⟨by dsimp only; omega, by dsimp only; omega, by dsimp only; omega, ?_⟩, by dsimp only; omega, fun r hr => ?_⟩
        · by_cases h6 : n - a < 6
          · rw [if_pos h6, if_pos (by rw [ew, decide_eq_true_eq]; omega), chk_t (vs := []) (inb_nat hn), chk_nil, eb2, en, e1]; rfl
          · rw [if_neg h6, if_neg (by rw [ew, decide_eq_true_eq]; omega), e1]; rfl
        · dsimp only
          rw [Int.toNat_natCast, Int.toNat_natCast]
          by_cases h6 : n - a < 6
          · rw [if_pos h6, show min (n + 1 - a) 6 = (n - a) + 1 by omega, Nat.pow_succ]
            rw [show min (n - a) 6 = n - a by omega] at g3
            omega
          · rw [if_neg h6, show min (n + 1 - a) 6 = 6 by omega]
            exact hm6
        · rw [hr]
          dsimp only
          rw [Int.toNat_natCast, Int.toNat_natCast, lx.valR, List.length_cons, show n + 1 - a = n - a + 1 by omega, show n + 1 + ((s.drop (n + 1)).takeWhile lx.isDigit).length = n + (((s.drop (n + 1)).takeWhile lx.isDigit).length + 1) by omega]
      | false =>
        right
        rw [if_neg (c := false = true) (by simp), if_neg (c := (true && false) = true) (by simp)]
        exact ⟨_, rfl, rfl⟩
    · right
      have hd : decide ((n : Int) < (Int.ofNat s.length)) = false := by simp; omega
      have ec : ∀ (m : Option Bool) (d : Bool), condM false m d = some d := fun _ _ => rfl
      rw [hd, chk_t (vs := []) (by rfl), chk_nil, ec, Option.bind_some, if_neg (by simp), List.drop_eq_nil_of_le (by omega)]
      exact ⟨_, rfl, rfl⟩
  · rintro r rfl
    dsimp only
    rw [Int.toNat_natCast, Nat.sub_self]; rfl
end Go.Proofs.YtphnfaabcnciiaaGreatDoor

set_option linter.unusedVariables false
set_option linter.unusedSimpArgs false
set_option linter.unusedSectionVars false
namespace Go.Proofs.YtphnfaabcnciiaaGreatDoor
open Go Go.Proofs Go.Dl
set_option maxRecDepth 100000
theorem one_num (K : Nat) (s : Bytes) (a : Nat) (ha : a < s.length) (hl : s.length ≤ 80000) (hK : 90000 < K) (hb : lx.isDigit (s.getD a 0) = true) :
    ∃ r, fnS (F77 K s (a : Int)) = some r ∧ OneP s a r (lx.step (s.drop a)) := by
  have hlet : lx.isLetter (s.getD a 0) = false := by
    cases h : lx.isLetter (s.getD a 0) with
    | false => rfl
    | true =>
      have := lx.letter_no_digit h
      rw [hb] at this; cases this
  have hne : (s.drop a).takeWhile lx.isDigit ≠ [] := by
    rw [drop_getDT s 0 a ha, List.takeWhile_cons, if_pos hb]; simp
  have hall := tw_all (p := lx.isDigit) (s.drop a)
  rw [step_at s a ha, lx.stepB_digit _ _ _ hb, lx.numR_val _ hne hall]
  unfold F77
  simp only [letV]
  have e28 := rfirst_eq K (s.getD a 0)
  rw [hlet] at e28
  have e30 := rdigit_eq K (s.getD a 0)
  rw [hb] at e30
  rw [chk_t (vs := []) (inb_nat ha), chk_nil, Int.toNat_natCast, e28, Option.bind_some, if_neg (c := false = true) (by simp), chk_t (vs := []) (inb_nat ha), chk_nil, e30, Option.bind_some, if_pos rfl, num_loop K s a (by omega) hl hK]
  have hT := (lx.takeWhile_take (p := lx.isDigit) (s.drop a))
  generalize (s.drop a).takeWhile lx.isDigit = T at *
  obtain ⟨hT1, hT2⟩ := hT
  simp only [List.length_drop] at hT2
  have hv := valR_lt T 0 0 hall (by simp)
  generalize lx.valR 0 0 T = v at *
  show ∃ r, fnS (bindS (blockS (chk [bndOk s.length (a : Int) ((a + T.length : Nat) : Int)] _)) _) = some r ∧ _
  rw [chk_t (vs := []) (by simp [bndOk]; omega), chk_nil]
  have et : (s.drop a).take ((((a + T.length : Nat)) : Int).toNat - a) = T := by
    rw [Int.toNat_natCast, Nat.add_sub_cancel_left, ← hT1]
  have ew : IntKind.i64.wrap ((((a + T.length : Nat)) : Int) - (a : Int)) = (T.length : Int) := by rw [wrap64 (by omega) (by omega)]; omega
  dsimp +instances only
  rw [et, ew]
  by_cases h : 5 < T.length ∨ 32768 < v
  · rw [if_pos h, if_pos (by simp; omega)]
    exact ⟨_, rfl, rfl, by decide⟩
  · rw [if_neg h, if_neg (by simp; omega)]
    exact ⟨_, rfl, rfl⟩
theorem one_sign (K : Nat) (s : Bytes) (a : Nat) (ha : a < s.length) (hl : s.length ≤ 80000) (hK : 90000 < K) (h0 : ¬(s.getD a 0 = 32 ∨ s.getD a 0 = 9 ∨ s.getD a 0 = 10 ∨ s.getD a 0 = 13)) (h1 : ¬(s.getD a 0 = 40 ∧ s.getD (a + 1) 0 = 42))
    (hlet : lx.isLetter (s.getD a 0) = false) (hdig : lx.isDigit (s.getD a 0) = false) :
    ∃ r, fnS (F77 K s (a : Int)) = some r ∧ OneP s a r (lx.step (s.drop a)) := by
  rw [step_at s a ha, lx.stepB_sgn _ _ _ h0 h1 hlet hdig]
  unfold F77
  simp only [letV]
  have e28 := rfirst_eq K (s.getD a 0)
  rw [hlet] at e28
  have e30 := rdigit_eq K (s.getD a 0)
  rw [hdig] at e30
  rw [chk_t (vs := []) (inb_nat ha), chk_nil, Int.toNat_natCast, e28, Option.bind_some, if_neg (c := false = true) (by simp), chk_t (vs := []) (inb_nat ha), chk_nil, e30, Option.bind_some, if_neg (c := false = true) (by simp)]
  have es := sign_eq K s a ha (by omega) (by omega)
  have hb1 : (s.drop a).take 1 = [s.getD a 0] := by rw [drop_getDT s 0 a ha]; rfl
  have h2 : lx.sgn (s.getD a 0) (s.getD (a + 1) 0) = 2 → a + 2 ≤ s.length ∧ (s.drop a).take 2 = [s.getD a 0, s.getD (a + 1) 0] := by
    intro h
    by_cases hh : a + 1 < s.length
    · exact ⟨by omega, by rw [drop_getDT s 0 a ha, drop_getDT s 0 (a + 1) hh]; rfl⟩
    · have hc : s.getD (a + 1) 0 = 0 := by simp [List.getD, List.getElem?_eq_none (show s.length ≤ a + 1 by omega)]
      rw [hc] at h
      unfold lx.sgn at h
      rw [if_neg (c := (((0 : UInt8) = 61 ∧ _) ∨ _)) (by simp)] at h
      split at h <;> cases h
  have h3 : lx.sgn (s.getD a 0) (s.getD (a + 1) 0) = 0 ∨ lx.sgn (s.getD a 0) (s.getD (a + 1) 0) = 1 ∨ lx.sgn (s.getD a 0) (s.getD (a + 1) 0) = 2 := by
    unfold lx.sgn
    split
    · exact .inr (.inr rfl)
    · split
      · exact .inr (.inl rfl)
      · exact .inl rfl
  show ∃ r, fnS ((fnS (F104 K s (a : Int))).bind _) = some r ∧ _
  rw [es, Option.bind_some]
  unfold lx.sgnR
  generalize lx.sgn (s.getD a 0) (s.getD (a + 1) 0) = g at *
  have ew : IntKind.i64.wrap ((a : Int) + (g : Int)) = ((a + g : Nat) : Int) := by rw [wrap64 (by omega) (by omega)]; omega
  have et : (s.drop a).take ((IntKind.i64.wrap ((a : Int) + (g : Int))).toNat - a) = (s.drop a).take g := by
    rw [ew, Int.toNat_natCast, Nat.add_sub_cancel_left]
  have hg : g ≤ 2 ∧ a + g ≤ s.length := by
    rcases h3 with rfl | rfl | rfl
    · omega
    · omega
    · exact ⟨by omega, (h2 rfl).1⟩
  rw [et, chk_t (vs := []) (by rw [ew]; simp [bndOk]; omega), chk_nil, ew]
  rcases h3 with rfl | rfl | rfl
  · exact ⟨_, rfl, rfl, by decide⟩
  · refine ⟨(⟨4, [s.getD a 0], 0, (a : Int)⟩, ((a + 1 : Nat) : Int), 0), ?_, rfl⟩
    rw [hb1]; rfl
  · refine ⟨(⟨4, [s.getD a 0, s.getD (a + 1) 0], 0, (a : Int)⟩, ((a + 2 : Nat) : Int), 0), ?_, rfl⟩
    rw [(h2 rfl).2]; rfl
theorem one_eq (K : Nat) (s : Bytes) (a : Nat) (ha : a < s.length) (hl : s.length ≤ 80000) (hK : 90000 < K) (h0 : ¬(s.getD a 0 = 32 ∨ s.getD a 0 = 9 ∨ s.getD a 0 = 10 ∨ s.getD a 0 = 13)) (h1 : ¬(s.getD a 0 = 40 ∧ s.getD (a + 1) 0 = 42)) :
    ∃ r, fnS (F77 K s (a : Int)) = some r ∧ OneP s a r (lx.step (s.drop a)) := by
  by_cases hb : lx.isLetter (s.getD a 0) = true
  · exact one_word K s a ha hl hK hb
  by_cases hd : lx.isDigit (s.getD a 0) = true
  · exact one_num K s a ha hl hK hd
  · exact one_sign K s a ha hl hK h0 h1 (by simpa using hb) (by simpa using hd)
end Go.Proofs.YtphnfaabcnciiaaGreatDoor

set_option linter.unusedVariables false
set_option linter.unusedSimpArgs false
set_option linter.unusedSectionVars false
namespace Go.Proofs.YtphnfaabcnciiaaGreatDoor
open Go Go.Proofs Go.Dl
set_option maxRecDepth 100000
def refF (s : Bytes) : List S41 × Int × Int := match lx.allF s with
  | (ts, []) => (ts, 0, 0)
  | (_, (c, p) :: _) => ([], c, p)
theorem refall_eq (K : Nat) (s : Bytes) (hl : s.length ≤ 80000) (hK : 200000 < K) : fnS (F43 K s) = some (refF s) := by
  unfold F43 refF lx.allF
  simp only [letV]
  by_cases h0 : 6000 < s.length
  · rw [if_pos (by simp; omega), if_pos h0]; rfl
  · rw [if_neg (by simp; omega), if_neg h0]
    refine iter_ctx (C := fun o => fnS (bindS (blockS (o.map .inl)) _) = some _) (fun t : List S41 × Int => s.length - t.2.toNat)
      (fun t (r : List S41 ⊕ (List S41 × Int × Int)) => match lx.lexL (s.drop t.2.toNat) t.2.toNat t.1 with
        | .inl tk => r = .inl tk
        | .inr (c, b) => r = .inr ([], c, (b : Int)))
      (fun t => 0 ≤ t.2 ∧ t.2.toNat ≤ s.length) (K := K) (t := (([] : List S41), (0 : Int))) (by simp) (by simp; omega) ?_ ?_
    · rintro ⟨tk, i⟩ ⟨g1, g2⟩
      dsimp +instances only at g1 g2 ⊢
      obtain ⟨b, hb⟩ : ∃ b, b = s.getD i.toNat 0 := ⟨_, rfl⟩
      obtain ⟨c, hc⟩ : ∃ c, c = s.getD (IntKind.i64.wrap (i + 1)).toNat 0 := ⟨_, rfl⟩
      rw [← hb, ← hc]
      obtain ⟨n, rfl⟩ : ∃ n : Nat, i = (n : Int) := ⟨i.toNat, by omega⟩
      have e1 : IntKind.i64.wrap ((n : Int) + 1) = ((n + 1 : Nat) : Int) := by rw [wrap64 (by omega) (by omega)]; simp
      rw [e1] at hc
      simp only [Int.toNat_natCast] at g2 hb hc ⊢
      by_cases hn : n < s.length
      · have hin : inb (n : Int) s.length = true := inb_nat hn
        have hne : s.drop n ≠ [] := by
          intro e
          have := congrArg List.length e
          simp at this; omega
        have hf := lx.fits hne
        have c32 : ((Int.ofNat b.toNat : Int) == 32) = decide (b = 32) := byte_is b 32
        have c9 : ((Int.ofNat b.toNat : Int) == 9) = decide (b = 9) := byte_is b 9
        have c10 : ((Int.ofNat b.toNat : Int) == 10) = decide (b = 10) := byte_is b 10
        have c13 : ((Int.ofNat b.toNat : Int) == 13) = decide (b = 13) := byte_is b 13
        have c40 : ((Int.ofNat b.toNat : Int) == 40) = decide (b = 40) := byte_is b 40
        have c42 : ((Int.ofNat c.toNat : Int) == 42) = decide (c = 42) := byte_is c 42
        rw [if_pos (c := decide _ = true) (by simp; omega), hin, chk_t rfl, chk_t (by simp), chk_t (by simp), chk_t (vs := []) (by simp), chk_nil]
        by_cases hbl : b = 32 ∨ b = 9 ∨ b = 10 ∨ b = 13
        · left
          have hst : lx.step (s.drop n) = .skip 1 := by
            rw [step_at s n hn, ← hb]
            unfold lx.stepB
            rw [if_pos hbl]
          rw [if_pos (by rw [c32, c9, c10, c13]; simp; exact (by rcases hbl with h | h | h | h <;> simp [h]))]
          rw [lx.lexL_skip hne hst]
          refine ⟨(tk, ((n + 1 : Nat) : Int)), ?_, ⟨by dsimp only; omega, by dsimp only; omega⟩, by dsimp only; omega, fun r hr => ?_⟩
          · rw [e1]; rfl
          · simp only [Int.toNat_natCast] at hr
            rw [List.drop_drop]
            exact hr
        · rw [if_neg (by rw [c32, c9, c10, c13]; simp; exact ⟨⟨⟨fun e => hbl (.inl e), fun e => hbl (.inr (.inl e))⟩, fun e => hbl (.inr (.inr (.inl e)))⟩, fun e => hbl (.inr (.inr (.inr e)))⟩)]
          rw [e1]
          have hg : (!((decide (b = 40) && decide (((n + 1 : Nat) : Int) < (Int.ofNat s.length)))) || inb ((n + 1 : Nat) : Int) s.length) = true := by
            by_cases hh : n + 1 < s.length
            · rw [inb_nat hh, Bool.or_true]
            · have : decide (((n + 1 : Nat) : Int) < (Int.ofNat s.length)) = false := by simp; omega
              rw [this]; simp
          rw [c40, chk_t rfl, chk_t (vs := []) hg, chk_nil, c42]
          by_cases hcm : b = 40 ∧ c = 42
          · have hh : n + 1 < s.length := by
              rcases Nat.lt_or_ge (n + 1) s.length with h | h
              · exact h
              · exfalso
                have : c = 0 := by rw [hc]; simp [List.getD, List.getElem?_eq_none h]
                rw [this] at hcm
                exact absurd hcm.2 (by decide)
            have hdl : decide (((n + 1 : Nat) : Int) < (Int.ofNat s.length)) = true := by simp; omega
            have hst : lx.step (s.drop n) = match lx.comE (s.drop (n + 2)) with | some k => .skip (k + 2) | none => .err 1 := by
              rw [step_at s n hn, ← hb, ← hc]
              unfold lx.stepB
              rw [if_neg hbl, if_pos hcm.1, if_pos hcm.2]
              unfold lx.comR
              rw [List.drop_drop]
              cases lx.comE (s.drop (n + 2)) <;> rfl
            rw [if_pos (by rw [decide_eq_true hcm.1, decide_eq_true hcm.2, hdl]; rfl), rcomment_eq K s n (by omega) (by omega) (by omega), Option.bind_some]
            cases hce : lx.comE (s.drop (n + 2)) with
            | none =>
              right
              rw [hce] at hst
              rw [lx.lexL_err hne hst]
              exact ⟨_, rfl, rfl⟩
            | some k =>
              left
              rw [hce] at hst
              rw [hst] at hf
              obtain ⟨f1, f2⟩ := hf
              simp only [List.length_drop] at f2
              rw [lx.lexL_skip hne hst]
              dsimp +instances only
              rw [if_neg (by rw [decide_eq_true_eq]; exact fun h => absurd (Int.natCast_nonneg (n + 2 + k)) (Int.not_le.2 h))]
              refine ⟨(tk, ((n + 2 + k : Nat) : Int)), rfl, ⟨by dsimp only; omega, by dsimp only; omega⟩, by dsimp only; omega, fun r hr => ?_⟩
              simp only [Int.toNat_natCast] at hr
              rw [List.drop_drop, show n + (k + 2) = n + 2 + k by omega]
              exact hr
          · rw [if_neg (by rw [Bool.and_eq_true, Bool.and_eq_true, decide_eq_true_eq, decide_eq_true_eq]; exact fun e => hcm ⟨e.1.1, of_decide_eq_true e.2⟩)]
            obtain ⟨r, hr1, hr2⟩ := one_eq K s n hn hl (by omega) (by rw [← hb]; exact hbl) (by rw [← hb, ← hc]; exact hcm)
            rw [hr1, Option.bind_some]
            cases hst : lx.step (s.drop n) with
            | skip k => rw [hst] at hr2; exact absurd hr2 (fun h => h)
            | err e =>
              right
              rw [hst] at hr2
              obtain ⟨q1, q2⟩ := hr2
              rw [lx.lexL_err hne hst, q1]
              rw [if_pos (by simpa using q2)]
              exact ⟨_, rfl, rfl⟩
            | tok q x k =>
              rw [hst] at hr2 hf
              obtain ⟨f1, _, f3, _⟩ := hf
              simp only [List.length_drop] at f3
              have f4 : 1 ≤ x.length := by cases x with | nil => exact absurd rfl f1 | cons b r => simp
              have hr2 : r = (⟨q, x, k, (n : Int)⟩, ((n + x.length : Nat) : Int), 0) := hr2
              subst hr2
              rw [lx.lexL_tok hne hst]
              dsimp +instances only
              rw [if_neg (c := ((0 : Int) != 0) = true) (by simp)]
              by_cases h15 : 1500 ≤ tk.length
              · right
                rw [if_pos (by rw [decide_eq_true_eq, Int.ofNat_eq_natCast]; omega), if_pos h15]
                exact ⟨_, rfl, rfl⟩
              · left
                rw [if_neg (by rw [decide_eq_true_eq, Int.ofNat_eq_natCast]; omega), if_neg h15, chk_t (vs := []) (room_le (by simp; omega)), chk_nil]
                refine ⟨(tk ++ [⟨q, x, k, (n : Int)⟩], ((n + x.length : Nat) : Int)), rfl, ⟨by dsimp only; omega, by dsimp only; omega⟩, by dsimp only; omega, fun r hr => ?_⟩
                simp only [Int.toNat_natCast] at hr
                rw [List.drop_drop]
                exact hr
      · right
        rw [if_neg (c := decide _ = true) (by simp; omega), List.drop_eq_nil_of_le (by omega), lx.lexL_nil]
        exact ⟨_, rfl, rfl⟩
    · intro r hr
      have hr' : match lx.lexL s 0 [] with
        | .inl tk => r = .inl tk
        | .inr (c, b) => r = .inr ([], c, (b : Int)) := hr
      have hfold : lx.lexA (s.length + 1) s 0 [] = lx.lexL s 0 [] := rfl
      rw [hfold]
      cases hx : lx.lexL s 0 [] with
      | inl tk => rw [hx] at hr'; subst hr'; rfl
      | inr p =>
        obtain ⟨c, b⟩ := p
        rw [hx] at hr'
        subst hr'; rfl
end Go.Proofs.YtphnfaabcnciiaaGreatDoor
