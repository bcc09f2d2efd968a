/- The parser and the document's reader, step by step. The parser's and the reader's smaller parts: what begins an expression, operators, names in brackets. Operators and names in brackets, in the parser and in the document's reader. No conditions. -/
import Derived.Test.YtphnfaabcnciiaaGreatDoorGb
import Derived.Test.YtphnfaabcnciiaaGreatDoorXr
import Derived.Test.YtphnfaabcnciiaaGreatDoorLW
set_option linter.unusedVariables false
set_option linter.unusedSimpArgs false
set_option linter.unusedSectionVars false
namespace Go.Proofs.YtphnfaabcnciiaaGreatDoor.ex
open Go Go.Dl
theorem has_eq (K : Nat) (l : List Bytes) (x : Bytes) (hl : l.length ≤ 100) (hK : 100 < K) : fnS (F60 K l x) = some (decide (x ∈ l)) := by
  obtain ⟨i, h1, h2⟩ := index_eq K l x (by omega) (by omega)
  unfold F60
  rw [h1]
  show some (decide (i ≥ 0)) = _
  rw [decide_eq_decide.2 h2]
variable (T : List S41) (e : Int)
def tok (i : Nat) : S41 := if i < T.length then T.getD i default else ⟨0, [], 0, e⟩
def P (i : Nat) : S65 := ⟨T, i, e, []⟩
def PE (i : Nat) (k a : Int) : S65 := ⟨T, i, e, [(k, a)]⟩
def R (i : Nat) : S71 := ⟨T, i, e, 0, 0⟩
def RE (k a : Int) : S71 := ⟨T, T.length, e, k, a⟩
def hasK (i : Nat) (k : Int) : Bool := decide (i < T.length) && ((T.getD i default).fKind == k)
def hasL (i : Nat) (l : List Bytes) : Bool := (decide (i < T.length) && (((T.getD i default).fKind == 2) || ((T.getD i default).fKind == 4))) && decide ((T.getD i default).fText ∈ l)
variable {T e} {i : Nat} {k a : Int} {K : Nat}
theorem hasK_lt (h : hasK T i k = true) : i < T.length := by
  unfold hasK at h
  rw [Bool.and_eq_true] at h
  exact of_decide_eq_true h.1
theorem hasL_lt {l : List Bytes} (h : hasL T i l = true) : i < T.length := by
  unfold hasL at h
  rw [Bool.and_eq_true, Bool.and_eq_true] at h
  exact of_decide_eq_true h.1.1
theorem tokS (f : List (Int × Int)) : fnS (F31 K ⟨T, (i : Int), e, f⟩) = some (tok T e i) := by
  unfold F31 letV tok
  dsimp only
  by_cases h : i < T.length
  · rw [if_neg (by simp; omega), chk_t (inb_nat h), chk_nil, if_pos h]; rfl
  · rw [if_pos (by simp; omega), if_neg h]; rfl
theorem p31 : fnS (F31 K (P T e i)) = some (tok T e i) := tokS _
theorem p31e : fnS (F31 K (PE T e i k a)) = some (tok T e i) := tokS _
theorem p21 : fnS (F21 K (P T e i)) = some true := rfl
theorem p21e : fnS (F21 K (PE T e i k a)) = some false := rfl
theorem p69 {q : Int} (hq : q ≠ 0) : fnS (F69 K (P T e i) q) = some (hasK T i q) := by
  unfold F69
  simp only [p21, condM_t, p31, Option.bind_some, fnS_l, Bool.true_and]
  congr 1
  unfold tok hasK
  by_cases h : i < T.length
  · rw [if_pos h, decide_eq_true h, Bool.true_and]
  · rw [if_neg h, decide_eq_false h, Bool.false_and]
    simp; exact fun h => hq h.symm
theorem p69e {q : Int} : fnS (F69 K (PE T e i k a) q) = some false := by
  unfold F69
  simp only [p21e, condM_f, Option.bind_some, fnS_l, Bool.false_and]
theorem p29 {l : List Bytes} (hl : l.length ≤ 100) (hK : 100 < K) : fnS (F29 K (P T e i) l) = some (hasL T i l) := by
  unfold F29 letV
  simp only [p31, p21, Option.bind_some, Bool.true_and, has_eq K l _ hl hK]
  unfold tok hasL
  by_cases h : i < T.length
  · rw [if_pos h, decide_eq_true h, Bool.true_and]
    cases (((T.getD i default).fKind == 2) || ((T.getD i default).fKind == 4)) <;> rfl
  · rw [if_neg h, decide_eq_false h]; rfl
theorem p29e {l : List Bytes} : fnS (F29 K (PE T e i k a) l) = some false := by
  unfold F29 letV
  simp only [p31e, p21e, Option.bind_some, Bool.false_and]
  rfl
theorem p39 {w : Bytes} (hT : T.length ≤ 100000) (hK : 100 < K) : fnS (F39 K (P T e i) w) = some (if hasL T i [w] = true then (true, P T e (i + 1)) else (false, P T e i)) := by
  unfold F39
  simp only [p29 (l := [w]) (by simp) hK, condM_t, Option.bind_some]
  cases h : hasL T i [w]
  · rfl
  · have := hasL_lt h
    simp only [Bool.not_true, Bool.false_eq_true, if_false, if_true, fnS_l]
    have e1 : IntKind.i64.wrap ((P T e i).fi + 1) = ((i + 1 : Nat) : Int) := by
      show IntKind.i64.wrap ((i : Int) + 1) = _
      rw [wrap64 (by omega) (by omega)]; omega
    rw [e1]; rfl
theorem p39e {w : Bytes} : fnS (F39 K (PE T e i k a) w) = some (false, PE T e i k a) := by
  unfold F39
  simp only [p29e, condM_t, Option.bind_some]
  rfl
theorem p20 {q : Int} : fnS (F20 K (P T e i) q) = some (PE T e i q (tok T e i).fAt) := by
  unfold F20
  have h0 : (!errS (P T e i).ferr) = true := rfl
  rw [if_pos h0]
  simp only [p31, condM_t, Option.bind_some]
  rfl
theorem p20e {q : Int} : fnS (F20 K (PE T e i k a) q) = some (PE T e i k a) := rfl
theorem p72 : fnS (F72 K (P T e i)) = some (if hasK T i 1 = true then ((tok T e i).fText, ⟨T, IntKind.i64.wrap ((i : Int) + 1), e, []⟩) else ([], PE T e i 3 (tok T e i).fAt)) := by
  unfold F72
  simp only [p31, condM_t, p69 (q := 1) (by decide), Option.bind_some]
  cases h : hasK T i 1
  · simp only [Bool.not_false, if_true, p20, Option.bind_some, Bool.false_eq_true, if_false]; rfl
  · simp only [Bool.not_true, Bool.false_eq_true, if_false, if_true]; rfl
theorem p72e : fnS (F72 K (PE T e i k a)) = some ([], PE T e i k a) := by
  unfold F72
  simp only [p31e, condM_t, p69e, Option.bind_some, Bool.not_false, if_true, p20e]
  rfl
theorem p70 : fnS (F70 K (P T e i)) = some (if hasK T i 3 = true then ((tok T e i).fN, ⟨T, IntKind.i64.wrap ((i : Int) + 1), e, []⟩) else (0, PE T e i 3 (tok T e i).fAt)) := by
  unfold F70
  simp only [p31, condM_t, p69 (q := 3) (by decide), Option.bind_some]
  cases h : hasK T i 3
  · simp only [Bool.not_false, if_true, p20, Option.bind_some, Bool.false_eq_true, if_false]; rfl
  · simp only [Bool.not_true, Bool.false_eq_true, if_false, if_true]; rfl
theorem r48 : fnS (F48 K (R T e i)) = some (tok T e i).fAt := by
  unfold F48 letV tok
  show fnS (if decide ((i : Int) < Int.ofNat T.length) = true then _ else _) = _
  by_cases h : i < T.length
  · have h1 : inb (R T e i).fat (R T e i).ft.length = true := inb_nat h
    rw [if_pos (by simp; omega), h1, chk_t rfl, chk_nil, if_pos h]; rfl
  · rw [if_neg (by simp; omega), if_neg h]; rfl
theorem r24 {q : Int} : fnS (F24 K (R T e i) q) = some (RE T e q (tok T e i).fAt) := by
  unfold F24
  have h0 : ((R T e i).fcode == 0) = true := rfl
  rw [if_pos h0]
  simp only [r48, condM_t, Option.bind_some]
  rfl
theorem r24e {q : Int} (hk : k ≠ 0) : fnS (F24 K (RE T e k a) q) = some (RE T e k a) := by
  unfold F24
  rw [if_neg (by show ¬ ((k == 0) = true); simpa using hk)]
  rfl
theorem r79 {w : Bytes} : fnS (F79 K (R T e i) w) = some (hasL T i [w]) := by
  unfold F79 letV hasL
  show fnS (if (((0 : Int) != 0) || decide ((i : Int) ≥ Int.ofNat T.length)) = true then _ else _) = _
  by_cases h : i < T.length
  · have h1 : inb (R T e i).fat (R T e i).ft.length = true := inb_nat h
    rw [if_neg (by simp; omega), h1, chk_t rfl, chk_nil, decide_eq_true h, Bool.true_and]
    simp only [R, Int.toNat_natCast, fnS_l, List.mem_singleton]
    congr 1
    rw [Bool.and_comm]
    congr 1
    rw [Bool.eq_iff_iff]; simp
  · rw [if_pos (by simp; omega), decide_eq_false h]; rfl
theorem r79e {w : Bytes} (hk : k ≠ 0) : fnS (F79 K (RE T e k a) w) = some false := by
  unfold F79 letV
  have h0 : ((RE T e k a).fcode != 0 || decide ((RE T e k a).fat ≥ Int.ofNat (RE T e k a).ft.length)) = true := by show (k != 0 || _) = true; simp [hk]
  rw [h0]
  rfl
theorem r78 {q : Int} : fnS (F78 K (R T e i) q) = some (hasK T i q) := by
  unfold F78 letV hasK
  show fnS (chk [!(((0 : Int) == 0) && decide ((i : Int) < Int.ofNat T.length)) || inb (i : Int) T.length] (some (.inl ((((0 : Int) == 0) && decide ((i : Int) < Int.ofNat T.length)) && ((T.getD (i : Int).toNat default).fKind == q))))) = _
  by_cases h : i < T.length
  · rw [chk_t (by rw [inb_nat h]; simp), chk_nil, decide_eq_true h]
    have : decide ((i : Int) < Int.ofNat T.length) = true := by simp; omega
    rw [this]; rfl
  · have : decide ((i : Int) < Int.ofNat T.length) = false := by simp; omega
    rw [this, chk_t (by simp), chk_nil, decide_eq_false h]; rfl
theorem r78e {q : Int} (hk : k ≠ 0) : fnS (F78 K (RE T e k a) q) = some false := by
  unfold F78 letV
  have h0 : ((RE T e k a).fcode == 0) = false := by show (k == 0) = false; simpa using hk
  rw [h0]; rfl
theorem r45 {w : Bytes} (hT : T.length ≤ 100000) : fnS (F45 K (R T e i) w) = some (if hasL T i [w] = true then (true, R T e (i + 1)) else (false, R T e i)) := by
  unfold F45
  simp only [r79, condM_t, Option.bind_some]
  cases h : hasL T i [w]
  · rfl
  · have := hasL_lt h
    simp only [if_true, fnS_l]
    have e1 : IntKind.i64.wrap ((R T e i).fat + 1) = ((i + 1 : Nat) : Int) := by
      show IntKind.i64.wrap ((i : Int) + 1) = _
      rw [wrap64 (by omega) (by omega)]; omega
    rw [e1]; rfl
theorem r45e {w : Bytes} (hk : k ≠ 0) : fnS (F45 K (RE T e k a) w) = some (false, RE T e k a) := by
  unfold F45
  simp only [r79e hk, condM_t, Option.bind_some]
  rfl
theorem r83 {w : Bytes} (hT : T.length ≤ 100000) : fnS (F83 K (R T e i) w) = some (if hasL T i [w] = true then R T e (i + 1) else RE T e 3 (tok T e i).fAt) := by
  unfold F83
  simp only [r45 hT, Option.bind_some]
  cases h : hasL T i [w]
  · simp only [Bool.false_eq_true, if_false, Bool.not_false, if_true, r24, Option.bind_some]; rfl
  · simp only [if_true, Bool.not_true, Bool.false_eq_true, if_false]; rfl
theorem r83e {w : Bytes} (hk : k ≠ 0) : fnS (F83 K (RE T e k a) w) = some (RE T e k a) := by
  unfold F83
  simp only [r45e hk, Option.bind_some, Bool.not_false, if_true, r24e hk]
  rfl
theorem r82 (hT : T.length ≤ 100000) : fnS (F82 K (R T e i)) = some (if hasK T i 1 = true then ((tok T e i).fText, R T e (i + 1)) else ([], RE T e 3 (tok T e i).fAt)) := by
  unfold F82 letV
  simp only [r78, condM_t, Option.bind_some]
  cases h : hasK T i 1
  · simp only [Bool.not_false, if_true, r24, Option.bind_some, Bool.false_eq_true, if_false]; rfl
  · have hl := hasK_lt h
    simp only [Bool.not_true, Bool.false_eq_true, if_false, if_true]
    have e0 : IntKind.i64.wrap ((R T e i).fat + 1) = ((i + 1 : Nat) : Int) := by
      show IntKind.i64.wrap ((i : Int) + 1) = _
      rw [wrap64 (by omega) (by omega)]; omega
    have e1 : IntKind.i64.wrap (((i + 1 : Nat) : Int) - 1) = (i : Int) := by rw [wrap64 (by omega) (by omega)]; omega
    rw [e0, e1, chk_t (by exact inb_nat hl), chk_nil]
    unfold tok
    rw [if_pos hl]; rfl
theorem r82e (hk : k ≠ 0) : fnS (F82 K (RE T e k a)) = some ([], RE T e k a) := by
  unfold F82
  simp only [r78e hk, condM_t, Option.bind_some, Bool.not_false, if_true, r24e hk]
  rfl
theorem r80 (hT : T.length ≤ 100000) : fnS (F80 K (R T e i)) = some (if hasK T i 3 = true then ((tok T e i).fN, R T e (i + 1)) else (0, RE T e 3 (tok T e i).fAt)) := by
  unfold F80 letV
  simp only [r78, condM_t, Option.bind_some]
  cases h : hasK T i 3
  · simp only [Bool.not_false, if_true, r24, Option.bind_some, Bool.false_eq_true, if_false]; rfl
  · have hl := hasK_lt h
    simp only [Bool.not_true, Bool.false_eq_true, if_false, if_true]
    have e0 : IntKind.i64.wrap ((R T e i).fat + 1) = ((i + 1 : Nat) : Int) := by
      show IntKind.i64.wrap ((i : Int) + 1) = _
      rw [wrap64 (by omega) (by omega)]; omega
    have e1 : IntKind.i64.wrap (((i + 1 : Nat) : Int) - 1) = (i : Int) := by rw [wrap64 (by omega) (by omega)]; omega
    rw [e0, e1, chk_t (by exact inb_nat hl), chk_nil]
    unfold tok
    rw [if_pos hl]; rfl
end Go.Proofs.YtphnfaabcnciiaaGreatDoor.ex

set_option linter.unusedVariables false
set_option linter.unusedSimpArgs false
set_option linter.unusedSectionVars false
namespace Go.Proofs.YtphnfaabcnciiaaGreatDoor.ex
open Go Go.Dl
abbrev signs : List Bytes := [[45], [78, 79, 84]]
abbrev opensL : List Bytes := [[84, 82, 85, 69], [70, 65, 76, 83, 69], [78, 85, 76, 76], [84, 72, 73, 83], [83, 85, 80, 69, 82], [82, 69, 70], [68, 79, 78, 69], [67, 79, 85, 78, 84], [65, 83], [40]]
abbrev startsL : List Bytes := [[45], [78, 79, 84], [84, 82, 85, 69], [70, 65, 76, 83, 69], [78, 85, 76, 76], [84, 72, 73, 83], [83, 85, 80, 69, 82], [82, 69, 70], [68, 79, 78, 69], [67, 79, 85, 78, 84], [65, 83], [40]]
abbrev opsL : List Bytes := [[43], [45], [42], [47], [77, 79, 68], [61], [60, 62], [60], [60, 61], [62], [62, 61], [65, 78, 68], [79, 82], [88, 79, 82]]
variable {T : List S41} {e : Int} {i : Nat} {k a : Int} {K : Nat}
def starts (T : List S41) (i : Nat) : Bool := (hasK T i 1 || hasK T i 3) || hasL T i startsL
theorem hasL_or (l m : List Bytes) : hasL T i (l ++ m) = (hasL T i l || hasL T i m) := by
  unfold hasL
  cases (decide (i < T.length) && (((T.getD i default).fKind == 2) || ((T.getD i default).fKind == 4)))
  · rfl
  · rw [Bool.true_and, Bool.true_and, Bool.true_and, Bool.eq_iff_iff]; simp
theorem hasL_cons (w : Bytes) (l : List Bytes) : hasL T i (w :: l) = (hasL T i [w] || hasL T i l) := hasL_or [w] l
theorem hasL_nil : hasL T i [] = false := by unfold hasL; simp
theorem p37 (hK : 100 < K) : fnS (F37 K (P T e i)) = some ((hasK T i 1 || hasK T i 3) || hasL T i opensL) := by
  unfold F37
  simp only [p69 (q := 1) (by decide), Option.bind_some]
  cases hasK T i 1
  · simp only [Bool.not_false, condM_t, p69 (q := 3) (by decide), Option.bind_some, Bool.false_or]
    cases hasK T i 3
    · simp only [Bool.not_false, condM_t, p29 (l := opensL) (by decide) hK, Option.bind_some, Bool.false_or]; rfl
    · rfl
  · rfl
theorem p37e : fnS (F37 K (PE T e i k a)) = some false := by
  unfold F37
  simp only [p69e, Option.bind_some, Bool.not_false, condM_t, p29e, Bool.or_self]
  rfl
theorem loop_any (l : List Bytes) (hl : l.length ≤ 100) (f : Bytes → Bool) (B : Int → Option ((Unit ⊕ (Unit ⊕ Bool)) ⊕ Unit)) (hB : ∀ n : Nat, n < l.length → B (n : Int) = if f (l.getD n default) = true then some (.inl (.inr (.inr true))) else some (.inr ())) :
    ∀ (K n : Nat), n ≤ l.length → l.length - n < K → iter K (fun (u : Int) => (if decide ((u : Int) < (Int.ofNat l.length)) = true then (bindS (blockS (B u)) (fun (_ : Unit) => (some (.inr ((IntKind.i64.wrap (u + 1))))))) else (some (.inl (Sum.inl ()))) : Option ((Unit ⊕ Bool) ⊕ Int))) (n : Int) =
      some (if (l.drop n).any f = true then .inr true else .inl ())
  | 0, n, hn, hk => absurd hk (by omega)
  | K + 1, n, hn, hk => by
    unfold iter
    dsimp only
    by_cases h : n < l.length
    · rw [if_pos (by simp; omega), hB n h, drop_getDT l default n h, List.any_cons]
      cases hf : f (l.getD n default)
      · simp only [Bool.false_eq_true, if_false, blockS_r, bindS_r, Bool.false_or]
        rw [wrap64 (by omega) (by omega), show ((n : Int) + 1) = ((n + 1 : Nat) : Int) by omega]
        exact loop_any l hl f B hB K (n + 1) (by omega) (by omega)
      · simp only [if_true, blockS_lr, bindS_l, Bool.true_or]
    · rw [if_neg (by simp; omega), List.drop_eq_nil_of_le (by omega)]
      rfl
theorem any_has (l : List Bytes) : l.any (fun w => hasL T i [w]) = hasL T i l := by
  induction l with
  | nil => rw [hasL_nil]; rfl
  | cons w l ih => rw [List.any_cons, ih]; exact (hasL_or [w] l).symm
theorem r44 (hK : 100 < K) : fnS (F44 K (R T e i)) = some (starts T i) := by
  unfold F44 starts
  simp only [r78, Option.bind_some, letV]
  cases h1 : hasK T i 1
  · simp only [Bool.not_false, condM_t, Option.bind_some, Bool.false_or]
    cases h3 : hasK T i 3
    · simp only [Bool.false_eq_true, if_false, Bool.false_or]
      have := loop_any startsL (by decide) (fun w => hasL T i [w]) (fun u => chk [inb u startsL.length] ((fnS (F79 K (R T e i) (startsL.getD u.toNat default))).bind fun r45 => if r45 = true then some (.inl (Sum.inr (Sum.inr true))) else some (.inr ())))
        (fun n hn => by rw [inb_nat hn, chk_t rfl, chk_nil, r79, Option.bind_some, Int.toNat_natCast]) K 0 (by omega) (by simp; omega)
      rw [List.drop_zero, any_has] at this
      rw [show ((0 : Nat) : Int) = 0 from rfl] at this
      rw [this]
      cases hasL T i startsL <;> rfl
    · rfl
  · rfl
end Go.Proofs.YtphnfaabcnciiaaGreatDoor.ex

set_option linter.unusedVariables false
set_option linter.unusedSimpArgs false
set_option linter.unusedSectionVars false
namespace Go.Proofs.YtphnfaabcnciiaaGreatDoor.ex
open Go Go.Dl
variable {T : List S41} {e : Int} {i : Nat} {k a : Int} {K : Nat}
def first (f : Bytes → Bool) : List Bytes → Nat
  | [] => 0
  | w :: l => if f w = true then 1 else match first f l with
    | 0 => 0
    | n + 1 => n + 2
theorem first_any (f : Bytes → Bool) (l : List Bytes) : (first f l = 0) ↔ l.any f = false := by
  induction l with
  | nil => exact ⟨fun _ => rfl, fun _ => rfl⟩
  | cons w l ih =>
    unfold first
    rw [List.any_cons]
    cases h : f w
    · simp only [Bool.false_eq_true, if_false, Bool.false_or]
      rw [← ih]
      cases first f l <;> simp
    · simp
theorem first_congr {f g : Bytes → Bool} {l : List Bytes} (h : ∀ w ∈ l, f w = g w) : first f l = first g l := by
  induction l with
  | nil => rfl
  | cons w l ih =>
    unfold first
    rw [h w (List.mem_cons_self ..), ih fun x hx => h x (List.mem_cons_of_mem _ hx)]
theorem loop_idx (l : List Bytes) (hl : l.length ≤ 100) (f : Bytes → Bool) (B : Int → Option ((Unit ⊕ (Unit ⊕ Int)) ⊕ Unit)) (hB : ∀ n : Nat, n < l.length → B (n : Int) = if f (l.getD n default) = true then some (.inl (.inr (.inr (n : Int)))) else some (.inr ())) :
    ∀ (K n : Nat), n ≤ l.length → l.length - n < K → iter K (fun (u : Int) => (if decide ((u : Int) < (Int.ofNat l.length)) = true then (bindS (blockS (B u)) (fun (_ : Unit) => (some (.inr ((IntKind.i64.wrap (u + 1))))))) else (some (.inl (Sum.inl ()))) : Option ((Unit ⊕ Int) ⊕ Int))) (n : Int) =
      some (match first f (l.drop n) with
        | 0 => .inl ()
        | m + 1 => .inr ((n + m : Nat) : Int))
  | 0, n, hn, hk => absurd hk (by omega)
  | K + 1, n, hn, hk => by
    unfold iter
    dsimp only
    by_cases h : n < l.length
    · rw [if_pos (by simp; omega), hB n h, drop_getDT l default n h]
      unfold first
      cases hf : f (l.getD n default)
      · simp only [Bool.false_eq_true, if_false, blockS_r, bindS_r]
        rw [wrap64 (by omega) (by omega), show ((n : Int) + 1) = ((n + 1 : Nat) : Int) by omega]
        rw [loop_idx l hl f B hB K (n + 1) (by omega) (by omega)]
        cases first f (l.drop (n + 1)) with
        | zero => rfl
        | succ m => simp only []; congr 3; omega
      · simp only [if_true, blockS_lr, bindS_l, Nat.add_zero]
    · rw [if_neg (by simp; omega), List.drop_eq_nil_of_le (by omega)]
      rfl
theorem idx_exact (hK : 100 < K) (l : List Bytes) (hl : l.length ≤ 100) (x : Bytes) : fnS (F42 K l x) = some (((first (fun w => x == w) l : Nat) : Int) - 1) := by
  unfold F42
  simp only [letV]
  have := loop_idx l hl (fun w => x == w) (fun u => chk [inb u l.length] (if (x == (l.getD (u : Int).toNat default)) = true then (some (.inl (Sum.inr (Sum.inr u)))) else (some (.inr ()))))
    (fun n hn => by rw [inb_nat hn, chk_t rfl, chk_nil, Int.toNat_natCast]) K 0 (by omega) (by omega)
  rw [List.drop_zero, show ((0 : Nat) : Int) = 0 from rfl] at this
  rw [this]
  cases first (fun w => x == w) l with
  | zero => rfl
  | succ m => simp [fnS, bindS, blockS] <;> omega
def opN (T : List S41) (i : Nat) : Nat := first (fun w => hasL T i [w]) opsL
theorem opN_zero : opN T i = 0 ↔ hasL T i opsL = false := by
  unfold opN
  rw [first_any, any_has]
theorem opN_text (h : hasL T i opsL = true) : opN T i = first (fun w => (T.getD i default).fText == w) opsL := by
  unfold opN
  refine first_congr fun w _ => ?_
  unfold hasL at h ⊢
  rw [Bool.and_eq_true] at h
  rw [h.1, Bool.true_and, Bool.eq_iff_iff]
  simp
theorem loop_op (hT : T.length ≤ 100000) (l : List Bytes) (hl : l.length ≤ 100) : ∀ (q n : Nat), 1 ≤ n → n ≤ (([] : Bytes) :: l).length → (([] : Bytes) :: l).length - n < q →
    iter q (fun (u30 : S71 × Int) => (if decide ((u30.2 : Int) < (Int.ofNat (([] : Bytes) :: l).length)) = true then (bindS (blockS (chk [inb u30.2 (([] : Bytes) :: l).length] ((fnS (F45 K u30.1 ((([] : Bytes) :: l).getD ((u30.2 : Int).toNat) default))).bind (fun r43 => (if r43.1 = true then (some (.inl (Sum.inr (Sum.inr (u30.2, r43.2))))) else (some (.inr (r43.2)))))))) (fun (u41 : S71) => (some (.inr (u41, (IntKind.i64.wrap (u30.2 + 1))))))) else (some (.inl (Sum.inl (u30.1)))) : Option ((S71 ⊕ (Int × S71)) ⊕ (S71 × Int)))) (R T e i, (n : Int)) =
      some (match first (fun w => hasL T i [w]) (l.drop (n - 1)) with
        | 0 => .inl (R T e i)
        | m + 1 => .inr (((n + m : Nat) : Int), R T e (i + 1)))
  | 0, n, _, hn, hk => absurd hk (by omega)
  | q + 1, n, h1, hn, hk => by
    unfold iter
    dsimp only
    by_cases h : n < (([] : Bytes) :: l).length
    · obtain ⟨m, rfl⟩ : ∃ m, n = m + 1 := ⟨n - 1, by omega⟩
      have hm : m < l.length := by simpa using h
      have hg : (([] : Bytes) :: l).getD (m + 1) default = l.getD m default := by simp [List.getD]
      rw [if_pos (by simp; omega), chk_t (inb_nat h), chk_nil, Int.toNat_natCast, hg, r45 hT, Option.bind_some, show m + 1 - 1 = m by omega, drop_getDT l default m hm]
      unfold first
      cases hf : hasL T i [l.getD m default]
      · simp only [Bool.false_eq_true, if_false, blockS_r, bindS_r]
        rw [wrap64 (by simp at hn; omega) (by simp at hn; omega), show (((m + 1 : Nat) : Int) + 1) = ((m + 1 + 1 : Nat) : Int) by omega]
        rw [loop_op hT l hl q (m + 1 + 1) (by omega) (by simp; omega) (by simp at hk ⊢; omega), show m + 1 + 1 - 1 = m + 1 by omega]
        cases first (fun w => hasL T i [w]) (l.drop (m + 1)) with
        | zero => rfl
        | succ z => simp only []; congr 4; omega
      · simp only [if_true, blockS_lr, bindS_l, Nat.add_zero]
    · rw [if_neg (by simp at h ⊢; omega), List.drop_eq_nil_of_le (by simp at h; omega)]
      rfl
theorem r47 (hT : T.length ≤ 100000) (hK : 100 < K) : fnS (F47 K (R T e i)) = some (((opN T i : Nat) : Int), if opN T i = 0 then R T e i else R T e (i + 1)) := by
  unfold F47 opN
  simp only [letV]
  have := loop_op (K := K) (e := e) (i := i) hT opsL (by decide) K 1 (by omega) (by simp) (by simp; omega)
  rw [show ((1 : Nat) : Int) = 1 from rfl] at this
  rw [this]
  rw [show (1 - 1 : Nat) = 0 from rfl, List.drop_zero]
  cases first (fun w => hasL T i [w]) opsL with
  | zero => rfl
  | succ m => simp [fnS, bindS, blockS] <;> omega
theorem r47e (hk : k ≠ 0) (hK : 100 < K) : fnS (F47 K (RE T e k a)) = some (0, RE T e k a) := by
  unfold F47
  simp only [letV]
  have : ∀ (q n : Nat), 1 ≤ n → n ≤ 15 → 15 - n < q →
    iter q (fun (u30 : S71 × Int) => (if decide ((u30.2 : Int) < (Int.ofNat (([] : Bytes) :: opsL).length)) = true then (bindS (blockS (chk [inb u30.2 (([] : Bytes) :: opsL).length] ((fnS (F45 K u30.1 ((([] : Bytes) :: opsL).getD ((u30.2 : Int).toNat) default))).bind (fun r43 => (if r43.1 = true then (some (.inl (Sum.inr (Sum.inr (u30.2, r43.2))))) else (some (.inr (r43.2)))))))) (fun (u41 : S71) => (some (.inr (u41, (IntKind.i64.wrap (u30.2 + 1))))))) else (some (.inl (Sum.inl (u30.1)))) : Option ((S71 ⊕ (Int × S71)) ⊕ (S71 × Int)))) (RE T e k a, (n : Int)) = some (.inl (RE T e k a)) := by
    intro q
    induction q with
    | zero => intro n _ _ h; omega
    | succ q ih =>
      intro n h1 h2 h3
      unfold iter
      dsimp only
      by_cases h : n < 15
      · rw [if_pos (by simp; omega), chk_t (inb_nat (n := (([] : Bytes) :: opsL).length) (by simp; omega)), chk_nil, r45e hk, Option.bind_some]
        simp only [Bool.false_eq_true, if_false, blockS_r, bindS_r]
        rw [wrap64 (by omega) (by omega), show ((n : Int) + 1) = ((n + 1 : Nat) : Int) by omega]
        exact ih (n + 1) (by omega) (by omega) (by omega)
      · rw [if_neg (by simp; omega)]
  have h1 := this K 1 (by omega) (by omega) (by omega)
  rw [show ((1 : Nat) : Int) = 1 from rfl] at h1
  rw [h1]; rfl
theorem p41 : fnS (F41 K) = some opsL := rfl
theorem wantS {w : Bytes} {p q : S65} {b : Bool} (h : fnS (F39 K p w) = some (b, q)) (hq : b = false → ∃ x, fnS (F20 K q 3) = some x) (hK : 2 ≤ K) : fnS (F93 K p [w]) = if b = true then some q else fnS (F20 K q 3) := by
  obtain ⟨j, rfl⟩ : ∃ j, K = (j + 1) + 1 := ⟨K - 2, by omega⟩
  unfold F93
  simp only [letV]
  unfold iter
  dsimp only
  rw [if_pos (by simp)]
  rw [chk_t (by rfl), chk_nil]
  have e0 : ([w] : List Bytes).getD (0 : Int).toNat default = w := rfl
  rw [e0, h, Option.bind_some]
  unfold iter
  cases b
  · obtain ⟨x, hx⟩ := hq rfl
    simp only [Bool.not_false, if_true, hx, Option.bind_some, blockS_r, bindS_r, Bool.false_eq_true, if_false]
    rfl
  · simp only [Bool.not_true, Bool.false_eq_true, if_false, blockS_r, bindS_r, if_true]
    rfl
theorem p93 {w : Bytes} (hT : T.length ≤ 100000) (hK : 100 < K) : fnS (F93 K (P T e i) [w]) = some (if hasL T i [w] = true then P T e (i + 1) else PE T e i 3 (tok T e i).fAt) := by
  have h := p39 (e := e) (i := i) (w := w) hT hK
  cases hb : hasL T i [w]
  · rw [hb] at h
    rw [wantS (b := false) (q := P T e i) (by simpa using h) (fun _ => ⟨_, p20⟩) (by omega), p20]
    simp
  · rw [hb] at h
    rw [wantS (b := true) (q := P T e (i + 1)) (by simpa using h) (fun h => by cases h) (by omega)]
    simp
theorem p93e {w : Bytes} (hK : 100 < K) : fnS (F93 K (PE T e i k a) [w]) = some (PE T e i k a) := by
  rw [wantS (b := false) p39e (fun _ => ⟨_, p20e⟩) (by omega), p20e]
  simp
end Go.Proofs.YtphnfaabcnciiaaGreatDoor.ex
