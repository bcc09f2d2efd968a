/- The parser of expressions, step by step. What expressions look like, how deep they are, and how their tokens are looked at. The parser of expressions: what each function does at a place where nothing is wrong. Tokens and depths of expressions, by shape. No conditions. -/
import Derived.Test.YtidjangjfekfjaaGreatDoorGb
import Derived.Test.YtidjangjfekfjaaGreatDoorLW
import Derived.Test.YtidjangjfekfjaaGreatDoorPP
import Derived.Test.YtidjangjfekfjaaGreatDoorLP
set_option linter.unusedVariables false
set_option linter.unusedSimpArgs false
set_option linter.unusedSectionVars false
namespace Go.Proofs.YtidjangjfekfjaaGreatDoor.ex
open Go Go.Dl
set_option maxHeartbeats 4000000
theorem has_eq (K : Nat) (l : List Bytes) (x : Bytes) (hl : l.length ≤ 100) (hK : 100 < K) : fnS (F50 K l x) = some (decide (x ∈ l)) := by
  obtain ⟨i, h1, h2⟩ := index_eq K l x (by omega) (by omega)
  unfold F50
  rw [h1]
  show some (decide (i ≥ 0)) = _
  rw [decide_eq_decide.2 h2]
variable (T : List S69) (e : Int)
def tok (i : Nat) : S69 := if i < T.length then T.getD i default else ⟨0, [], 0, e⟩
def P (i : Nat) : S56 := ⟨T, i, e, []⟩
def PE (i : Nat) (k a : Int) : S56 := ⟨T, i, e, [(k, a)]⟩
def hasK (i : Nat) (k : Int) : Bool := decide (i < T.length) && ((T.getD i default).fKind == k)
def hasL (i : Nat) (l : List Bytes) : Bool := (decide (i < T.length) && (((T.getD i default).fKind == 2) || ((T.getD i default).fKind == 4))) && decide ((T.getD i default).fText ∈ l)
variable {T e} {i : Nat} {k a : Int} {K : Nat}
theorem hasK_lt (h : hasK T i k = true) : i < T.length := by
  unfold hasK at h
  rw [Bool.and_eq_true] at h
  exact of_decide_eq_true h.1
theorem hasL_lt {l : List Bytes} (h : hasL T i l = true) : i < T.length := by
  unfold hasL at h
  rw [Bool.and_eq_true, Bool.and_eq_true] at h
  exact of_decide_eq_true h.1.1
theorem tokS (f : List (Int × Int)) : fnS (F24 K ⟨T, (i : Int), e, f⟩) = some (tok T e i) := by
  unfold F24 letV tok
  dsimp only
  by_cases h : i < T.length
  · rw [if_neg (by simp; omega), chk_t (inb_nat h), chk_nil, if_pos h]; rfl
  · rw [if_pos (by simp; omega), if_neg h]; rfl
theorem p31 : fnS (F24 K (P T e i)) = some (tok T e i) := tokS _
theorem p31e : fnS (F24 K (PE T e i k a)) = some (tok T e i) := tokS _
theorem p21 : fnS (F17 K (P T e i)) = some true := rfl
theorem p21e : fnS (F17 K (PE T e i k a)) = some false := rfl
theorem p69 {q : Int} (hq : q ≠ 0) : fnS (F66 K (P T e i) q) = some (hasK T i q) := by
  unfold F66
  simp only [p21, condM_t, p31, Option.bind_some, fnS_l, Bool.true_and]
  congr 1
  unfold tok hasK
  by_cases h : i < T.length
  · rw [if_pos h, decide_eq_true h, Bool.true_and]
  · rw [if_neg h, decide_eq_false h, Bool.false_and]
    simp; exact fun h => hq h.symm
theorem p69e {q : Int} : fnS (F66 K (PE T e i k a) q) = some false := by
  unfold F66
  simp only [p21e, condM_f, Option.bind_some, fnS_l, Bool.false_and]
theorem p29 {l : List Bytes} (hl : l.length ≤ 100) (hK : 100 < K) : fnS (F22 K (P T e i) l) = some (hasL T i l) := by
  unfold F22 letV
  simp only [p31, p21, Option.bind_some, Bool.true_and, has_eq K l _ hl hK]
  unfold tok hasL
  by_cases h : i < T.length
  · rw [if_pos h, decide_eq_true h, Bool.true_and]
    cases (((T.getD i default).fKind == 2) || ((T.getD i default).fKind == 4)) <;> rfl
  · rw [if_neg h, decide_eq_false h]; rfl
theorem p29e {l : List Bytes} : fnS (F22 K (PE T e i k a) l) = some false := by
  unfold F22 letV
  simp only [p31e, p21e, Option.bind_some, Bool.false_and]
  rfl
theorem p39 {w : Bytes} (hT : T.length ≤ 100000) (hK : 100 < K) : fnS (F37 K (P T e i) w) = some (if hasL T i [w] = true then (true, P T e (i + 1)) else (false, P T e i)) := by
  unfold F37
  simp only [p29 (l := [w]) (by simp) hK, condM_t, Option.bind_some]
  cases h : hasL T i [w]
  · rfl
  · have := hasL_lt h
    simp only [Bool.not_true, Bool.false_eq_true, if_false, if_true, fnS_l]
    have e1 : IntKind.i64.wrap ((P T e i).fi + 1) = ((i + 1 : Nat) : Int) := by
      show IntKind.i64.wrap ((i : Int) + 1) = _
      rw [wrap64 (by omega) (by omega)]; omega
    rw [e1]; rfl
theorem p39e {w : Bytes} : fnS (F37 K (PE T e i k a) w) = some (false, PE T e i k a) := by
  unfold F37
  simp only [p29e, condM_t, Option.bind_some]
  rfl
theorem p20 {q : Int} : fnS (F16 K (P T e i) q) = some (PE T e i q (tok T e i).fAt) := by
  unfold F16
  have h0 : (!errS (P T e i).ferr) = true := rfl
  rw [if_pos h0]
  simp only [p31, condM_t, Option.bind_some]
  rfl
theorem p20e {q : Int} : fnS (F16 K (PE T e i k a) q) = some (PE T e i k a) := rfl
theorem p72 : fnS (F69 K (P T e i)) = some (if hasK T i 1 = true then ((tok T e i).fText, ⟨T, IntKind.i64.wrap ((i : Int) + 1), e, []⟩) else ([], PE T e i 3 (tok T e i).fAt)) := by
  unfold F69
  simp only [p31, condM_t, p69 (q := 1) (by decide), Option.bind_some]
  cases h : hasK T i 1
  · simp only [Bool.not_false, if_true, p20, Option.bind_some, Bool.false_eq_true, if_false]; rfl
  · simp only [Bool.not_true, Bool.false_eq_true, if_false, if_true]; rfl
theorem p72e : fnS (F69 K (PE T e i k a)) = some ([], PE T e i k a) := by
  unfold F69
  simp only [p31e, condM_t, p69e, Option.bind_some, Bool.not_false, if_true, p20e]
  rfl
theorem p70 : fnS (F67 K (P T e i)) = some (if hasK T i 3 = true then ((tok T e i).fN, ⟨T, IntKind.i64.wrap ((i : Int) + 1), e, []⟩) else (0, PE T e i 3 (tok T e i).fAt)) := by
  unfold F67
  simp only [p31, condM_t, p69 (q := 3) (by decide), Option.bind_some]
  cases h : hasK T i 3
  · simp only [Bool.not_false, if_true, p20, Option.bind_some, Bool.false_eq_true, if_false]; rfl
  · simp only [Bool.not_true, Bool.false_eq_true, if_false, if_true]; rfl
abbrev signs : List Bytes := [[45], [78, 79, 84]]
abbrev opensL : List Bytes := [[84, 82, 85, 69], [70, 65, 76, 83, 69], [78, 85, 76, 76], [84, 72, 73, 83], [83, 85, 80, 69, 82], [82, 69, 70], [68, 79, 78, 69], [67, 79, 85, 78, 84], [65, 83], [40]]
abbrev startsL : List Bytes := [[45], [78, 79, 84], [84, 82, 85, 69], [70, 65, 76, 83, 69], [78, 85, 76, 76], [84, 72, 73, 83], [83, 85, 80, 69, 82], [82, 69, 70], [68, 79, 78, 69], [67, 79, 85, 78, 84], [65, 83], [40]]
abbrev opsL : List Bytes := [[43], [45], [42], [47], [77, 79, 68], [61], [60, 62], [60], [60, 61], [62], [62, 61], [65, 78, 68], [79, 82], [88, 79, 82]]
def starts (T : List S69) (i : Nat) : Bool := (hasK T i 1 || hasK T i 3) || hasL T i startsL
theorem hasL_or (l m : List Bytes) : hasL T i (l ++ m) = (hasL T i l || hasL T i m) := by
  unfold hasL
  cases (decide (i < T.length) && (((T.getD i default).fKind == 2) || ((T.getD i default).fKind == 4)))
  · rfl
  · rw [Bool.true_and, Bool.true_and, Bool.true_and, Bool.eq_iff_iff]; simp
theorem hasL_cons (w : Bytes) (l : List Bytes) : hasL T i (w :: l) = (hasL T i [w] || hasL T i l) := hasL_or [w] l
theorem hasL_nil : hasL T i [] = false := by unfold hasL; simp
theorem p37 (hK : 100 < K) : fnS (F35 K (P T e i)) = some ((hasK T i 1 || hasK T i 3) || hasL T i opensL) := by
  unfold F35
  simp only [p69 (q := 1) (by decide), Option.bind_some]
  cases hasK T i 1
  · simp only [Bool.not_false, condM_t, p69 (q := 3) (by decide), Option.bind_some, Bool.false_or]
    cases hasK T i 3
    · simp only [Bool.not_false, condM_t, p29 (l := opensL) (by decide) hK, Option.bind_some, Bool.false_or]; rfl
    · rfl
  · rfl
theorem p37e : fnS (F35 K (PE T e i k a)) = some false := by
  unfold F35
  simp only [p69e, Option.bind_some, Bool.not_false, condM_t, p29e, Bool.or_self]
  rfl
theorem any_has (l : List Bytes) : l.any (fun w => hasL T i [w]) = hasL T i l := by
  induction l with
  | nil => rw [hasL_nil]; rfl
  | cons w l ih => rw [List.any_cons, ih]; exact (hasL_or [w] l).symm
def first (f : Bytes → Bool) : List Bytes → Nat
  | [] => 0
  | w :: l => if f w = true then 1 else match first f l with
    | 0 => 0
    | n + 1 => n + 2
theorem first_any (f : Bytes → Bool) (l : List Bytes) : (first f l = 0) ↔ l.any f = false := by
  induction l with
  | nil => exact ⟨fun _ => rfl, fun _ => rfl⟩
  | cons w l ih =>
    unfold first
    rw [List.any_cons]
    cases h : f w
    · simp only [Bool.false_eq_true, if_false, Bool.false_or]
      rw [← ih]
      cases first f l <;> simp
    · simp
theorem first_congr {f g : Bytes → Bool} {l : List Bytes} (h : ∀ w ∈ l, f w = g w) : first f l = first g l := by
  induction l with
  | nil => rfl
  | cons w l ih =>
    unfold first
    rw [h w (List.mem_cons_self ..), ih fun x hx => h x (List.mem_cons_of_mem _ hx)]
theorem loop_idx (l : List Bytes) (hl : l.length ≤ 100) (f : Bytes → Bool) (B : Int → Option ((Unit ⊕ (Unit ⊕ Int)) ⊕ Unit)) (hB : ∀ n : Nat, n < l.length → B (n : Int) = if f (l.getD n default) = true then some (.inl (.inr (.inr (n : Int)))) else some (.inr ())) :
    ∀ (K n : Nat), n ≤ l.length → l.length - n < K → iter K (fun (u : Int) => (if decide ((u : Int) < (Int.ofNat l.length)) = true then (bindS (blockS (B u)) (fun (_ : Unit) => (some (.inr ((IntKind.i64.wrap (u + 1))))))) else (some (.inl (Sum.inl ()))) : Option ((Unit ⊕ Int) ⊕ Int))) (n : Int) =
      some (match first f (l.drop n) with
        | 0 => .inl ()
        | m + 1 => .inr ((n + m : Nat) : Int))
  | 0, n, hn, hk => absurd hk (by omega)
  | K + 1, n, hn, hk => by
    unfold iter
    dsimp only
    by_cases h : n < l.length
    · rw [if_pos (by simp; omega), hB n h, drop_getDT l default n h]
      unfold first
      cases hf : f (l.getD n default)
      · simp only [Bool.false_eq_true, if_false, blockS_r, bindS_r]
        rw [wrap64 (by omega) (by omega), show ((n : Int) + 1) = ((n + 1 : Nat) : Int) by omega]
        rw [loop_idx l hl f B hB K (n + 1) (by omega) (by omega)]
        cases first f (l.drop (n + 1)) with
        | zero => rfl
        | succ m => simp only []; congr 3; omega
      · simp only [if_true, blockS_lr, bindS_l, Nat.add_zero]
    · rw [if_neg (by simp; omega), List.drop_eq_nil_of_le (by omega)]
      rfl
theorem idx_exact (hK : 100 < K) (l : List Bytes) (hl : l.length ≤ 100) (x : Bytes) : fnS (F40 K l x) = some (((first (fun w => x == w) l : Nat) : Int) - 1) := by
  unfold F40
  simp only [letV]
  have := loop_idx l hl (fun w => x == w) (fun u => chk [inb u l.length] (if (x == (l.getD (u : Int).toNat default)) = true then (some (.inl (Sum.inr (Sum.inr u)))) else (some (.inr ()))))
    (fun n hn => by rw [inb_nat hn, chk_t rfl, chk_nil, Int.toNat_natCast]) K 0 (by omega) (by omega)
  rw [List.drop_zero, show ((0 : Nat) : Int) = 0 from rfl] at this
  rw [this]
  cases first (fun w => x == w) l with
  | zero => rfl
  | succ m => simp [fnS, bindS, blockS] <;> omega
def opN (T : List S69) (i : Nat) : Nat := first (fun w => hasL T i [w]) opsL
theorem opN_zero : opN T i = 0 ↔ hasL T i opsL = false := by
  unfold opN
  rw [first_any, any_has]
theorem opN_text (h : hasL T i opsL = true) : opN T i = first (fun w => (T.getD i default).fText == w) opsL := by
  unfold opN
  refine first_congr fun w _ => ?_
  unfold hasL at h ⊢
  rw [Bool.and_eq_true] at h
  rw [h.1, Bool.true_and, Bool.eq_iff_iff]
  simp
theorem p41 : fnS (F39 K) = some opsL := rfl
theorem wantS {w : Bytes} {p q : S56} {b : Bool} (h : fnS (F37 K p w) = some (b, q)) (hq : b = false → ∃ x, fnS (F16 K q 3) = some x) (hK : 2 ≤ K) : fnS (F79 K p [w]) = if b = true then some q else fnS (F16 K q 3) := by
  obtain ⟨j, rfl⟩ : ∃ j, K = (j + 1) + 1 := ⟨K - 2, by omega⟩
  unfold F79
  simp only [letV]
  unfold iter
  dsimp only
  rw [if_pos (by simp)]
  rw [chk_t (by rfl), chk_nil]
  have e0 : ([w] : List Bytes).getD (0 : Int).toNat default = w := rfl
  rw [e0, h, Option.bind_some]
  unfold iter
  cases b
  · obtain ⟨x, hx⟩ := hq rfl
    simp only [Bool.not_false, if_true, hx, Option.bind_some, blockS_r, bindS_r, Bool.false_eq_true, if_false]
    rfl
  · simp only [Bool.not_true, Bool.false_eq_true, if_false, blockS_r, bindS_r, if_true]
    rfl
theorem p93 {w : Bytes} (hT : T.length ≤ 100000) (hK : 100 < K) : fnS (F79 K (P T e i) [w]) = some (if hasL T i [w] = true then P T e (i + 1) else PE T e i 3 (tok T e i).fAt) := by
  have h := p39 (e := e) (i := i) (w := w) hT hK
  cases hb : hasL T i [w]
  · rw [hb] at h
    rw [wantS (b := false) (q := P T e i) (by simpa using h) (fun _ => ⟨_, p20⟩) (by omega), p20]
    simp
  · rw [hb] at h
    rw [wantS (b := true) (q := P T e (i + 1)) (by simpa using h) (fun h => by cases h) (by omega)]
    simp
theorem p93e {w : Bytes} (hK : 100 < K) : fnS (F79 K (PE T e i k a) [w]) = some (PE T e i k a) := by
  rw [wantS (b := false) p39e (fun _ => ⟨_, p20e⟩) (by omega), p20e]
  simp
theorem p72' (hT : T.length ≤ 100000) : fnS (F69 K (P T e i)) = some (if hasK T i 1 = true then ((tok T e i).fText, P T e (i + 1)) else ([], PE T e i 3 (tok T e i).fAt)) := by
  rw [p72]
  cases h : hasK T i 1
  · rfl
  · have := hasK_lt h
    rw [wrap64 (by omega) (by omega)]; rfl
theorem p70' (hT : T.length ≤ 100000) : fnS (F67 K (P T e i)) = some (if hasK T i 3 = true then ((tok T e i).fN, P T e (i + 1)) else (0, PE T e i 3 (tok T e i).fAt)) := by
  rw [p70]
  cases h : hasK T i 3
  · rfl
  · have := hasK_lt h
    rw [wrap64 (by omega) (by omega)]; rfl
theorem p40e {d : Int} : fnS (F38 (K + 1) (PE T e i k a) d) = some (⟨5, 0, (tok T e i).fText, [], []⟩, PE T e i k a) := by
  rw [F38]
  simp only [p31e, p69e, p39e, p29e, p72e, condM_t, Option.bind_some, Bool.false_eq_true, if_false, bindS_r, blockS_r]
  rfl
theorem p19e {d : Int} : fnS (F15 (K + 2) (PE T e i k a) d) = some (⟨5, 0, (tok T e i).fText, [], []⟩, PE T e i k a) := by
  rw [F15]
  simp only [p29e, p37e, condM_t, Option.bind_some, Bool.not_false, Bool.or_self, Bool.false_eq_true, if_false, bindS_r, p39e, blockS_r, p40e, p31e, p41, if_true]
  rfl
theorem p39T {w : Bytes} (hT : T.length ≤ 100000) (hK : 100 < K) (h : hasL T i [w] = true) : fnS (F37 K (P T e i) w) = some (true, P T e (i + 1)) := by rw [p39 hT hK, if_pos h]
theorem p39F {w : Bytes} (hT : T.length ≤ 100000) (hK : 100 < K) (h : hasL T i [w] = false) : fnS (F37 K (P T e i) w) = some (false, P T e i) := by rw [p39 hT hK, if_neg (by rw [h]; simp)]
theorem p93T {w : Bytes} (hT : T.length ≤ 100000) (hK : 100 < K) (h : hasL T i [w] = true) : fnS (F79 K (P T e i) [w]) = some (P T e (i + 1)) := by rw [p93 hT hK, if_pos h]
theorem p93F {w : Bytes} (hT : T.length ≤ 100000) (hK : 100 < K) (h : hasL T i [w] = false) : fnS (F79 K (P T e i) [w]) = some (PE T e i 3 (tok T e i).fAt) := by rw [p93 hT hK, if_neg (by rw [h]; simp)]
def body75 (K : Nat) (d : Int) (u86 : S56 × (List S25) × Bool) : Option (((S56 × (List S25)) ⊕ (S25 × S56)) ⊕ (S56 × (List S25) × Bool)) := ((condM u86.2.2 (fnS (F17 K u86.1)) default).bind (fun r107 => (if (u86.2.2 && r107) = true then (bindS (blockS (letV ((decide (((Int.ofNat u86.2.1.length) : Int) ≥ 3)) && (decide ((d : Int) < 6))) (fun (x117 : Bool) => ((condM x117 (fnS (F22 K u86.1 ([[45], [78, 79, 84]] : List Bytes))) default).bind (fun r118 => ((condM ((!r118) && x117) (fnS (F35 K u86.1)) default).bind (fun r119 => (bindS (if (x117 && (r118 || r119)) = true then ((fnS (F16 K u86.1 5)).bind (fun r122 => (some (.inr (r122))))) else (some (.inr (u86.1)))) (fun (u121 : S56) => ((fnS (F15 K u121 (IntKind.i64.wrap (d + 1)))).bind (fun r123 => (chk [room ((u86.2.1.length + ([r123.1].length)) * 72)] (some (.inr (r123.2, (u86.2.1 ++ [r123.1])))))))))))))))) (fun (u116 : S56 × (List S25)) => ((fnS (F37 K u116.1 ([44] : Bytes))).bind (fun r125 => (some (.inr (r125.2, u116.2, r125.1))))))) else (some (.inl (Sum.inl (u86.1, u86.2.1)))))))
theorem F75_eq (K : Nat) (a0 : S56) (a1 : S25) (d : Int) : F72 (K + 1) a0 a1 d = ((fnS (F79 K a0 ([[46]] : List Bytes))).bind (fun r1 => ((fnS (F69 K r1)).bind (fun r2 => ((fnS (F79 K r2.2 ([[40]] : List Bytes))).bind (fun r3 => ((fnS (F37 K r3 ([41] : Bytes))).bind (fun r4 => (if r4.1 = true then (some (.inl ((⟨a1.fKind, a1.fN, a1.fName, r2.1, []⟩ : S25), r4.2))) else (bindS (blockS ((iter K (body75 K d) (r4.2, [], true)).map .inl)) (fun (u65 : S56 × (List S25)) => ((fnS (F79 K u65.1 ([[41]] : List Bytes))).bind (fun r126 => (some (.inl ((⟨a1.fKind, a1.fN, a1.fName, r2.1, u65.2⟩ : S25), r126)))))))))))))))) := by
  rw [F72]; rfl
theorem body75_e {d : Int} {l : List S25} {b : Bool} : body75 K d (PE T e i k a, l, b) = some (.inl (.inl (PE T e i k a, l))) := by
  unfold body75
  cases b
  · rfl
  · simp only [condM_t, p21e, Option.bind_some, Bool.and_false, Bool.false_eq_true, if_false]
theorem body75_f {d : Int} {l : List S25} {p : S56} : body75 K d (p, l, false) = some (.inl (.inl (p, l))) := rfl
theorem starts_eq : (hasL T i signs || ((hasK T i 1 || hasK T i 3) || hasL T i opensL)) = starts T i := by
  unfold starts
  have : hasL T i startsL = (hasL T i signs || hasL T i opensL) := hasL_or signs opensL
  rw [this]
  cases hasL T i signs <;> cases (hasK T i 1 || hasK T i 3) <;> rfl
theorem body75_ok (hK : 100 < K) {d : Int} {l : List S25} {v : S25} {p' p'' : S56} {b : Bool} (hx : ¬ ((3 ≤ l.length ∧ d < 6) ∧ starts T i = true)) (hd : 1 ≤ d ∧ d ≤ 7) (hl : l.length ≤ 100000)
    (h : fnS (F15 K (P T e i) (d + 1)) = some (v, p')) (h2 : fnS (F37 K p' [44]) = some (b, p'')) : body75 K d (P T e i, l, true) = some (.inr (p'', l ++ [v], b)) := by
  unfold body75
  simp only [condM_t, p21, Option.bind_some, Bool.and_self, if_true, letV]
  generalize hxx : ((decide (((Int.ofNat l.length) : Int) ≥ 3)) && (decide ((d : Int) < 6))) = x
  have hx' : ¬ (x = true ∧ starts T i = true) := by
    rintro ⟨g1, g2⟩
    refine hx ⟨?_, g2⟩
    rw [← hxx] at g1
    simp at g1
    omega
  rw [wrap64 (by omega) (by omega)]
  cases x
  · simp only [condM_f, Option.bind_some, Bool.and_false, Bool.false_and, Bool.false_eq_true, if_false, bindS_r, h]
    rw [chk_t (room_le (by simp; omega)), chk_nil]
    simp only [blockS_r, bindS_r, h2, Option.bind_some]
  · have hs := starts_eq (T := T) (i := i)
    have h0 : starts T i = false := by simpa using hx'
    rw [h0, Bool.or_eq_false_iff] at hs
    simp only [condM_t, p29 (l := signs) (by decide) hK, Option.bind_some, hs.1, Bool.not_false, Bool.and_self, p37 hK, hs.2, Bool.or_self, Bool.and_false, Bool.false_eq_true, if_false, bindS_r, h]
    rw [chk_t (room_le (by simp; omega)), chk_nil]
    simp only [blockS_r, bindS_r, h2, Option.bind_some]
theorem body75_full (hK : 102 < K) {d : Int} {l : List S25} (hx : (3 ≤ l.length ∧ d < 6) ∧ starts T i = true) (hd : 1 ≤ d ∧ d ≤ 7) (hl : l.length ≤ 100000) :
    body75 K d (P T e i, l, true) = some (.inr (PE T e i 5 (tok T e i).fAt, l ++ [⟨5, 0, (tok T e i).fText, [], []⟩], false)) := by
  unfold body75
  simp only [condM_t, p21, Option.bind_some, Bool.and_self, if_true, letV]
  have hxx : ((decide (((Int.ofNat l.length) : Int) ≥ 3)) && (decide ((d : Int) < 6))) = true := by simp; omega
  rw [hxx]
  obtain ⟨q, rfl⟩ : ∃ q, K = q + 2 := ⟨K - 2, by omega⟩
  have hs := starts_eq (T := T) (i := i)
  rw [hx.2] at hs
  simp only [condM_t, p29 (l := signs) (by decide) (show 100 < q + 2 by omega), Option.bind_some, Bool.and_true, Bool.true_and]
  have hc : ((condM (!hasL T i signs) (fnS (F35 (q + 2) (P T e i))) default)) = some (if hasL T i signs = true then false else ((hasK T i 1 || hasK T i 3) || hasL T i opensL)) := by
    cases hasL T i signs
    · rw [p37 (by omega)]; rfl
    · rfl
  rw [hc, Option.bind_some]
  have hor : (hasL T i signs || (if hasL T i signs = true then false else ((hasK T i 1 || hasK T i 3) || hasL T i opensL))) = true := by
    cases hg : hasL T i signs
    · rw [hg] at hs; simpa using hs
    · rfl
  rw [hor, if_pos rfl, p20]
  simp only [Option.bind_some, bindS_r, p19e]
  rw [chk_t (room_le (by simp; omega)), chk_nil]
  simp only [blockS_r, bindS_r, p39e, Option.bind_some]
def tail75 (K : Nat) (d n : Int) (nm s : Bytes) (p : S56) : Option ((S25 × S56) ⊕ (S25 × S56)) := (fnS (F37 K p ([41] : Bytes))).bind fun r4 => if r4.1 = true then some (.inl ((⟨13, n, nm, s, []⟩ : S25), r4.2)) else bindS (blockS ((iter K (body75 K d) (r4.2, [], true)).map .inl)) fun (u65 : S56 × (List S25)) => (fnS (F79 K u65.1 ([[41]] : List Bytes))).bind fun r126 => some (.inl ((⟨13, n, nm, s, u65.2⟩ : S25), r126))
theorem not_starts {w : Bytes} (hw : w ∈ startsL) (h : hasL T i [w] = true) : starts T i = true := by
  unfold starts
  have : hasL T i startsL = true := by
    rw [← any_has, List.any_eq_true]
    exact ⟨w, hw, h⟩
  rw [this, Bool.or_true]
theorem not_startsK {q : Int} (hq : q = 1 ∨ q = 3) (h : hasK T i q = true) : starts T i = true := by
  unfold starts
  rcases hq with rfl | rfl <;> rw [h] <;> simp
end Go.Proofs.YtidjangjfekfjaaGreatDoor.ex

set_option linter.unusedVariables false
set_option linter.unusedSimpArgs false
set_option linter.unusedSectionVars false
namespace Go.Proofs.YtidjangjfekfjaaGreatDoor.ex
open Go Go.Dl
set_option maxRecDepth 100000
abbrev Wd (w : Bytes) : Prop := lx.Is 1 w 0
inductive Sx : S25 → Prop
  | num (n : Nat) : n ≤ 32768 → Sx ⟨1, n, [], [], []⟩
  | lit (k : Int) : k = 2 ∨ k = 3 ∨ k = 4 → Sx ⟨k, 0, [], [], []⟩
  | name (w : Bytes) : Wd w → Sx ⟨5, 0, w, [], []⟩
  | index (w : Bytes) (a : S25) : Wd w → Sx a → Sx ⟨6, 0, w, [], [a]⟩
  | sign (k : Int) (a : S25) : k = 7 ∨ k = 8 → Sx a → Sx ⟨k, 0, [], [], [a]⟩
  | bin (n : Nat) (a b : S25) : 1 ≤ n → n ≤ 14 → Sx a → Sx b → Sx ⟨9, n, [], [], [a, b]⟩
  | of (k : Int) (w : Bytes) : k = 10 ∨ k = 11 ∨ k = 12 → Wd w → Sx ⟨k, 0, w, [], []⟩
  | cast (w : Bytes) (a : S25) : Wd w → Sx a → Sx ⟨14, 0, w, [], [a]⟩
  | call (w wh : Bytes) (ag : List S25) : Wd w → Wd wh → (∀ a, a ∈ ag → Sx a) → ag.length ≤ 3 → Sx ⟨13, 0, w, wh, ag⟩
  | own (n : Int) (wh : Bytes) (ag : List S25) : n = 1 ∨ n = 2 → Wd wh → (∀ a, a ∈ ag → Sx a) → ag.length ≤ 3 → Sx ⟨13, n, [], wh, ag⟩
def np (k : Int) : Bool := k == 7 || k == 8 || k == 9
def opd (p : Int × Nat) : Nat := if np p.1 = true then p.2 + 1 else p.2
def mx : List Nat → Nat
  | [] => 0
  | x :: r => max x (mx r)
def ndK (k : Int) (l : List (Int × Nat)) : Nat := if np k = true then max 1 (mx (l.map opd)) else 1 + mx (l.map (·.2))
mutual
def nd : S25 → Nat
  | ⟨k, _, _, _, ag⟩ => ndK k (ndL ag)
def ndL : List S25 → List (Int × Nat)
  | [] => []
  | x :: r => (x.fKind, nd x) :: ndL r
end
theorem ndL_map : ∀ l : List S25, ndL l = l.map fun x => (x.fKind, nd x)
  | [] => by rw [ndL]; rfl
  | x :: r => by rw [ndL, ndL_map r]; rfl
theorem nd_eq (k n : Int) (w s : Bytes) (l : List S25) : nd ⟨k, n, w, s, l⟩ = ndK k (l.map fun x => (x.fKind, nd x)) := by rw [nd, ndL_map]
theorem nd_pos (x : S25) : 1 ≤ nd x := by
  obtain ⟨k, n, w, s, l⟩ := x
  rw [nd_eq]; unfold ndK; split <;> omega
def opN' (x : S25) : Nat := opd (x.fKind, nd x)
def opT (x : S25) : List Bytes := if np x.fKind = true then [[40]] ++ pr.tkE x ++ [[41]] else pr.tkE x
theorem np_iff (k : Int) : np k = true ↔ k = 7 ∨ k = 8 ∨ k = 9 := by unfold np; simp [or_assoc]
theorem opdT_eq (l : List S25) (i : Nat) (h : i < l.length) : pr.opdT (l.map fun x => (x.fKind, pr.tkE x)) i = opT (l.getD i default) := by
  unfold pr.opdT opT
  rw [List.getElem?_map, List.getElem?_eq_getElem h]
  have : l.getD i default = l[i] := by simp [List.getD, List.getElem?_eq_getElem h]
  rw [this]
  dsimp only [Option.map]
  by_cases hk : l[i].fKind = 7 ∨ l[i].fKind = 8 ∨ l[i].fKind = 9
  · rw [if_pos hk, if_pos ((np_iff _).2 hk)]
  · rw [if_neg hk, if_neg (fun h => hk ((np_iff _).1 h))]
theorem is_uniq {k k' n n' : Int} {w : Bytes} (h : lx.Is k w n) (h' : lx.Is k' w n') : k = k' ∧ n = n' := by
  have a := lx.step_is h (c := 32) (.inl rfl) []
  have b := lx.step_is h' (c := 32) (.inl rfl) []
  rw [a] at b
  injection b with b1 _ b3
  exact ⟨b1, b3⟩
def Kw (w : Bytes) : Prop := ∃ q : Int, (q = 2 ∨ q = 4) ∧ lx.Is q w 0
def kwb (w : Bytes) : Bool := match lx.step w with
  | .tok k x n => (k == 2 || k == 4) && (x == w && n == 0) && !(w == [])
  | _ => false
theorem kw {w : Bytes} (h : kwb w = true) : Kw w := by
  unfold kwb at h
  split at h
  · rename_i k x n hs
    simp only [Bool.and_eq_true, Bool.or_eq_true, beq_iff_eq, Bool.not_eq_true', beq_eq_false_iff_ne] at h
    obtain ⟨⟨h1, rfl, rfl⟩, h3⟩ := h
    exact ⟨k, h1, x, h3, hs⟩
  · cases h
def Tw (T : List S69) (i : Nat) (w : Bytes) : Prop := i < T.length ∧ (T.getD i default).fText = w ∧ lx.Is (T.getD i default).fKind w (T.getD i default).fN
def At (T : List S69) (i : Nat) : List Bytes → Prop
  | [] => True
  | w :: l => Tw T i w ∧ At T (i + 1) l
variable {T : List S69} {e : Int} {i : Nat} {w : Bytes}
theorem At.app : ∀ {a b : List Bytes} {i : Nat}, At T i (a ++ b) ↔ At T i a ∧ At T (i + a.length) b
  | [], b, i => by simp [At]
  | x :: a, b, i => by
    simp only [List.cons_append, At, At.app (a := a), List.length_cons, and_assoc]
    rw [show i + 1 + a.length = i + (a.length + 1) by omega]
theorem At.one : At T i [w] ↔ Tw T i w := by simp [At]
theorem Tw.tok (h : Tw T i w) : tok T e i = T.getD i default := by unfold ex.tok; rw [if_pos h.1]
theorem Tw.text (h : Tw T i w) : (ex.tok T e i).fText = w := by rw [h.tok]; exact h.2.1
theorem Tw.hasK (h : Tw T i w) {q n : Int} (hq : lx.Is q w n) (z : Int) : hasK T i z = (q == z) := by
  unfold ex.hasK
  rw [decide_eq_true h.1, Bool.true_and, (is_uniq h.2.2 hq).1]
theorem Tw.num (h : Tw T i w) {q n : Int} (hq : lx.Is q w n) : (ex.tok T e i).fN = n := by rw [h.tok]; exact (is_uniq h.2.2 hq).2
theorem Tw.hasL (h : Tw T i w) (hk : Kw w) (l : List Bytes) : ex.hasL T i l = decide (w ∈ l) := by
  obtain ⟨q, hq, hi⟩ := hk
  unfold ex.hasL
  rw [decide_eq_true h.1, Bool.true_and, (is_uniq h.2.2 hi).1, h.2.1]
  rcases hq with rfl | rfl <;> simp
theorem Tw.noL (h : Tw T i w) {q n : Int} (hi : lx.Is q w n) (hq : q = 1 ∨ q = 3) (l : List Bytes) : ex.hasL T i l = false := by
  unfold ex.hasL
  rw [decide_eq_true h.1, Bool.true_and, (is_uniq h.2.2 hi).1]
  rcases hq with rfl | rfl <;> simp
theorem Tw.kwK (h : Tw T i w) (hk : Kw w) {z : Int} (hz : z = 1 ∨ z = 3) : ex.hasK T i z = false := by
  obtain ⟨q, hq, hi⟩ := hk
  rw [h.hasK hi]
  rcases hq with rfl | rfl <;> rcases hz with rfl | rfl <;> rfl
theorem hasL_end {l : List Bytes} (h : T.length ≤ i) : hasL T i l = false := by
  unfold ex.hasL
  rw [decide_eq_false (by omega)]; rfl
theorem hasL_sub {l m : List Bytes} (h : hasL T i m = false) (hs : ∀ x ∈ l, x ∈ m) : hasL T i l = false := by
  unfold ex.hasL at h ⊢
  rw [Bool.and_eq_false_iff] at h ⊢
  rcases h with h | h
  · exact .inl h
  · exact .inr (by simp at h ⊢; exact fun g => h (hs _ g))
theorem valR_app : ∀ (a : Bytes) (c : UInt8) (n j : Nat), j + a.length < 6 → lx.valR n j (a ++ [c]) = lx.valR n j a * 10 + (c.toNat - 48)
  | [], c, n, j, h => by rw [List.nil_append, lx.valR, lx.valR, lx.valR, if_pos (by simpa using h)]
  | b :: a, c, n, j, h => by
    rw [List.cons_append, lx.valR, lx.valR, valR_app a c _ _ (by simp at h; omega)]
theorem dec_val : ∀ (k n : Nat), n < 10 ^ k → k ≤ 5 → (Lib.decDigits n).length ≤ 5 → (∀ c ∈ Lib.decDigits n, lx.isDigit c = true) ∧ lx.valR 0 0 (Lib.decDigits n) = n
  | 0, n, h, hk, hl => by
    obtain rfl : n = 0 := by simpa using h
    rw [Lib.decDigits_one (by omega)]
    refine ⟨fun c hc => ?_, rfl⟩
    rw [List.mem_singleton.1 hc]; rfl
  | k + 1, n, h, hk, hl => by
    have dig : ∀ d : Nat, d < 10 → (UInt8.ofNat (48 + d)).toNat = 48 + d := by
      intro d hd
      rw [UInt8.toNat_ofNat']
      omega
    by_cases hn : n < 10
    · rw [Lib.decDigits_one hn]
      refine ⟨fun c hc => ?_, ?_⟩
      · rw [List.mem_singleton.1 hc]
        unfold lx.isDigit
        rw [dig n hn]; simp; omega
      · rw [lx.valR, lx.valR, dig n hn]; simp
    · have e : Lib.decDigits n = Lib.decDigits (n / 10) ++ [UInt8.ofNat (48 + n % 10)] := by rw [Lib.decDigits, dif_neg hn]
      rw [e] at hl
      simp only [List.length_append, List.length_cons, List.length_nil] at hl
      obtain ⟨h1, h2⟩ := dec_val k (n / 10) (by rw [Nat.pow_succ] at h; omega) (by omega) (by omega)
      have hm : n % 10 < 10 := Nat.mod_lt _ (by decide)
      rw [e]
      refine ⟨fun c hc => ?_, ?_⟩
      · rcases List.mem_append.1 hc with hc | hc
        · exact h1 c hc
        · rw [List.mem_singleton.1 hc]
          unfold lx.isDigit
          rw [dig _ hm]; simp; omega
      · rw [valR_app _ _ _ _ (by omega), h2, dig _ hm]; omega
theorem nDig_le : ∀ (k n : Nat), n < 10 ^ (k + 1) → Lib.nDigits n ≤ k + 1
  | 0, n, h => by rw [Lib.nDigits_small (by simpa using h)]; omega
  | k + 1, n, h => by
    by_cases hn : n < 10
    · rw [Lib.nDigits_small hn]; omega
    · rw [Lib.nDigits_big hn]
      have := nDig_le k (n / 10) (by rw [Nat.pow_succ] at h; omega)
      omega
theorem dec_len5 {n : Nat} (h : n ≤ 32768) : (Lib.decDigits n).length ≤ 5 := by
  rw [Lib.decDigits_length]
  exact nDig_le 4 n (by omega)
theorem dec_ne (n : Nat) : Lib.decDigits n ≠ [] := by
  intro h
  have := Lib.nDigits_pos n
  rw [← Lib.decDigits_length, h] at this
  simp at this
theorem dec_is {n : Nat} (h : n ≤ 32768) : lx.Is 3 (Lib.decDigits n) n := by
  obtain ⟨h1, h2⟩ := dec_val 5 n (by omega) (by omega) (dec_len5 h)
  refine ⟨_, dec_ne n, ?_⟩
  have htw : (Lib.decDigits n).takeWhile lx.isDigit = Lib.decDigits n := by
    have : ∀ l : Bytes, (∀ c ∈ l, lx.isDigit c = true) → l.takeWhile lx.isDigit = l := by
      intro l
      induction l with
      | nil => intro _; rfl
      | cons b r ih => intro g; rw [List.takeWhile_cons, if_pos (g b (List.mem_cons_self ..)), ih fun c hc => g c (List.mem_cons_of_mem _ hc)]
    exact this _ h1
  have hd : lx.isDigit ((Lib.decDigits n).headD 0) = true := by
    cases hc : Lib.decDigits n with
    | nil => exact absurd hc (dec_ne n)
    | cons b r => exact h1 b (by rw [hc]; exact List.mem_cons_self ..)
  unfold lx.step
  rw [lx.stepB_digit _ _ _ hd, lx.numR_val _ (by rw [htw]; exact dec_ne n) (by rw [htw]; exact h1), htw, h2, if_neg]
  have := dec_len5 h
  omega
theorem is3_val {w : Bytes} {n : Int} (h : lx.Is 3 w n) : ∃ m : Nat, n = m ∧ m ≤ 32768 := by
  have a := lx.step_is h (c := 32) (.inl rfl) []
  generalize w ++ 32 :: [] = l at a
  unfold lx.step at a
  by_cases hb : l.headD 0 = 32 ∨ l.headD 0 = 9 ∨ l.headD 0 = 10 ∨ l.headD 0 = 13
  · unfold lx.stepB at a; rw [if_pos hb] at a; cases a
  by_cases hc : l.headD 0 = 40 ∧ l.tail.headD 0 = 42
  · unfold lx.stepB at a
    rw [if_neg hb, if_pos hc.1, if_pos hc.2] at a
    unfold lx.comR at a
    split at a <;> cases a
  cases h1 : lx.isLetter (l.headD 0)
  rotate_left
  · rw [lx.stepB_letter _ _ _ h1] at a
    unfold lx.wordR at a
    dsimp only at a
    split at a
    · cases a
    · split at a
      · cases a
      · split at a <;> cases a
  cases h2 : lx.isDigit (l.headD 0)
  · rw [lx.stepB_sgn _ _ _ hb hc h1 h2] at a
    unfold lx.sgnR at a
    split at a
    · cases a
    · split at a <;> cases a
  rw [lx.stepB_digit _ _ _ h2] at a
  have hl : l.takeWhile lx.isDigit ≠ [] := by
    cases l with
    | nil => rw [show ([] : Bytes).headD 0 = 0 from rfl] at h2; exact absurd h2 (by decide)
    | cons b r => rw [List.takeWhile_cons, if_pos (show lx.isDigit b = true from h2)]; simp
  rw [lx.numR_val l hl (lx.takeWhile_all l)] at a
  split at a
  · cases a
  · rename_i hv
    injection a with _ _ a3
    exact ⟨_, a3.symm, by omega⟩
theorem is1_zero {w : Bytes} {n : Int} (h : lx.Is 1 w n) : n = 0 := by
  have a := lx.step_is h (c := 32) (.inl rfl) []
  generalize w ++ 32 :: [] = l at a
  unfold lx.step at a
  by_cases hb : l.headD 0 = 32 ∨ l.headD 0 = 9 ∨ l.headD 0 = 10 ∨ l.headD 0 = 13
  · unfold lx.stepB at a; rw [if_pos hb] at a; cases a
  by_cases hc : l.headD 0 = 40 ∧ l.tail.headD 0 = 42
  · unfold lx.stepB at a
    rw [if_neg hb, if_pos hc.1, if_pos hc.2] at a
    unfold lx.comR at a
    split at a <;> cases a
  cases h1 : lx.isLetter (l.headD 0)
  rotate_left
  · rw [lx.stepB_letter _ _ _ h1] at a
    unfold lx.wordR at a
    dsimp only at a
    split at a
    · cases a
    · split at a
      · cases a
      · split at a <;> cases a
        rfl
  cases h2 : lx.isDigit (l.headD 0)
  · rw [lx.stepB_sgn _ _ _ hb hc h1 h2] at a
    unfold lx.sgnR at a
    split at a
    · cases a
    · split at a <;> cases a
  rw [lx.stepB_digit _ _ _ h2] at a
  unfold lx.numR at a
  dsimp only at a
  split at a
  · split at a <;> cases a
  · cases a
end Go.Proofs.YtidjangjfekfjaaGreatDoor.ex

set_option linter.unusedVariables false
set_option linter.unusedSimpArgs false
set_option linter.unusedSectionVars false
namespace Go.Proofs.YtidjangjfekfjaaGreatDoor.ex
open Go Go.Dl
set_option maxHeartbeats 8000000
variable {T : List S69} {e : Int} {i : Nat} {k a : Int} {K : Nat}
theorem s71 (hT : T.length ≤ 100000) (hK : 101 < K) : fnS (F68 K (P T e i)) = some (if hasL T i [[40]] = true then if hasK T (i + 1) 1 = true then if hasL T (i + 1 + 1) [[41]] = true then ((tok T e (i + 1)).fText, P T e (i + 1 + 1 + 1)) else ((tok T e (i + 1)).fText, PE T e (i + 1 + 1) 3 (tok T e (i + 1 + 1)).fAt) else ([], PE T e (i + 1) 3 (tok T e (i + 1)).fAt) else ([], PE T e i 3 (tok T e i).fAt)) := by
  unfold F68
  rw [p93 hT (by omega)]
  cases h1 : hasL T i [[40]]
  · simp only [Option.bind_some, Bool.false_eq_true, if_false, p72e, p93e (show 100 < K by omega)]; rfl
  · simp only [Option.bind_some, if_true, p72' hT]
    cases h2 : hasK T (i + 1) 1
    · simp only [Option.bind_some, Bool.false_eq_true, if_false, p93e (show 100 < K by omega)]; rfl
    · simp only [Option.bind_some, if_true, p93 hT (show 100 < K by omega)]
      cases h3 : hasL T (i + 1 + 1) [[41]]
      · simp only [Option.bind_some, Bool.false_eq_true, if_false]; rfl
      · simp only [Option.bind_some, if_true]; rfl
theorem s73 (hT : T.length ≤ 100000) (hK : 100 < K) (d : Int) (l r : Bytes) (h : hasL T i [l] = true) : fnS (F70 (K + 1) (P T e i) d l r) = (fnS (F15 K (P T e (i + 1)) (IntKind.i64.wrap (d + 1)))).bind fun x => (fnS (F79 K x.2 [r])).map fun p => (x.1, p) := by
  rw [F70, p93T hT hK h, Option.bind_some]
  cases fnS (F15 K (P T e (i + 1)) (IntKind.i64.wrap (d + 1))) with
  | none => rfl
  | some x => simp only [Option.bind_some]; cases fnS (F79 K x.2 [r]) <;> rfl
theorem s73e (hK : 100 < K) (d : Int) (l r : Bytes) : ∃ v, fnS (F70 (K + 3) (PE T e i k a) d l r) = some (v, PE T e i k a) := by
  rw [F70, p93e (by omega), Option.bind_some, p19e, Option.bind_some, p93e (by omega)]
  exact ⟨_, rfl⟩
theorem s73f (hT : T.length ≤ 100000) (hK : 100 < K) (d : Int) (l r : Bytes) (h : hasL T i [l] = false) : ∃ v, fnS (F70 (K + 3) (P T e i) d l r) = some (v, PE T e i 3 (tok T e i).fAt) := by
  rw [F70, p93F hT (by omega) h, Option.bind_some, p19e, Option.bind_some, p93e (by omega)]
  exact ⟨_, rfl⟩
theorem tail_e {d n : Int} {nm s : Bytes} (hK : 100 < K) : ∃ v, fnS (tail75 K d n nm s (PE T e i k a)) = some (v, PE T e i k a) := by
  obtain ⟨q, hq⟩ : ∃ z, K = z + 1 := ⟨K - 1, by omega⟩
  have i1 : iter K (body75 K d) (PE T e i k a, [], true) = some (.inl (PE T e i k a, [])) := by
    have : ∀ z, iter (z + 1) (body75 K d) (PE T e i k a, [], true) = some (.inl (PE T e i k a, [])) := fun z => by unfold iter; rw [body75_e]
    have h := this q
    rwa [← hq] at h
  unfold tail75
  rw [p39e, Option.bind_some]
  simp only [Bool.false_eq_true, if_false]
  rw [i1]
  simp only [Option.map_some, blockS_ll, bindS_r]
  rw [p93e hK]
  exact ⟨_, rfl⟩
theorem s75 (hT : T.length ≤ 100000) (hK : 100 < K) (e0 : S25) (d : Int) (hk : e0.fKind = 13) (h1 : hasL T i [[46]] = true) (h2 : hasK T (i + 1) 1 = true) (h3 : hasL T (i + 1 + 1) [[40]] = true) :
    fnS (F72 (K + 1) (P T e i) e0 d) = fnS (tail75 K d e0.fN e0.fName (tok T e (i + 1)).fText (P T e (i + 1 + 1 + 1))) := by
  rw [F75_eq, hk, p93T hT hK h1, Option.bind_some, p72' hT, h2, Option.bind_some]
  simp only [if_true]
  rw [p93T hT hK h3, Option.bind_some]
  rfl
theorem s75f (hT : T.length ≤ 100000) (hK : 100 < K) (e0 : S25) (d : Int) (hk : e0.fKind = 13) (h : hasL T i [[46]] = false ∨ hasK T (i + 1) 1 = false ∨ hasL T (i + 1 + 1) [[40]] = false) :
    ∃ v j a, fnS (F72 (K + 1) (P T e i) e0 d) = some (v, PE T e j 3 a) := by
  rw [F75_eq, hk]
  show ∃ v j a, fnS ((fnS (F79 K (P T e i) ([[46]] : List Bytes))).bind fun r1 => (fnS (F69 K r1)).bind fun r2 => (fnS (F79 K r2.2 ([[40]] : List Bytes))).bind fun r3 => tail75 K d e0.fN e0.fName r2.1 r3) = some (v, PE T e j 3 a)
  rw [p93 hT hK]
  cases h1 : hasL T i [[46]]
  · simp only [Option.bind_some, Bool.false_eq_true, if_false, p72e, p93e hK]
    obtain ⟨v, hv⟩ := tail_e (T := T) (e := e) (i := i) (k := 3) (a := (tok T e i).fAt) (d := d) (n := e0.fN) (nm := e0.fName) (s := []) hK
    exact ⟨_, _, _, hv⟩
  simp only [Option.bind_some, if_true, p72' hT]
  cases h2 : hasK T (i + 1) 1
  · simp only [Option.bind_some, Bool.false_eq_true, if_false, p93e hK]
    obtain ⟨v, hv⟩ := tail_e (T := T) (e := e) (i := i + 1) (k := 3) (a := (tok T e (i + 1)).fAt) (d := d) (n := e0.fN) (nm := e0.fName) (s := []) hK
    exact ⟨_, _, _, hv⟩
  simp only [Option.bind_some, if_true, p93 hT hK]
  cases h3 : hasL T (i + 1 + 1) [[40]]
  · simp only [Option.bind_some, Bool.false_eq_true, if_false]
    obtain ⟨v, hv⟩ := tail_e (T := T) (e := e) (i := i + 1 + 1) (k := 3) (a := (tok T e (i + 1 + 1)).fAt) (d := d) (n := e0.fN) (nm := e0.fName) (s := (tok T e (i + 1)).fText) hK
    exact ⟨_, _, _, hv⟩
  · rw [h1, h2, h3] at h
    rcases h with h | h | h <;> cases h
theorem s74 (hT : T.length ≤ 100000) (hK : 100 < K) (d : Int) (h : hasL T i [[84, 72, 73, 83], [83, 85, 80, 69, 82]] = true) : fnS (F71 (K + 1) (P T e i) d) = fnS (F72 K (P T e (i + 1)) ⟨13, if hasL T i [[84, 72, 73, 83]] = true then 1 else 2, [], [], []⟩ d) := by
  rw [hasL_cons] at h
  rw [F71]
  cases h1 : hasL T i [[84, 72, 73, 83]]
  · rw [h1, Bool.false_or] at h
    rw [p39F hT hK h1, Option.bind_some]
    simp only [Bool.not_false, if_true, p93T hT hK h, Option.bind_some, bindS_r, Bool.false_eq_true, if_false]
    cases fnS (F72 K (P T e (i + 1)) ⟨13, 2, [], [], []⟩ d) <;> rfl
  · rw [p39T hT hK h1, Option.bind_some]
    simp only [Bool.not_true, Bool.false_eq_true, if_false, bindS_r, if_true]
    cases fnS (F72 K (P T e (i + 1)) ⟨13, 1, [], [], []⟩ d) <;> rfl
abbrev Re := Option (S25 × S56)
def o40 (K : Nat) (T : List S69) (e : Int) (i : Nat) (d : Int) : Re :=
  if hasK T i 3 = true then some (⟨1, (tok T e i).fN, [], [], []⟩, P T e (i + 1))
  else if hasL T i [[84, 82, 85, 69]] = true then some (⟨2, 0, [], [], []⟩, P T e (i + 1))
  else if hasL T i [[70, 65, 76, 83, 69]] = true then some (⟨3, 0, [], [], []⟩, P T e (i + 1))
  else if hasL T i [[78, 85, 76, 76]] = true then some (⟨4, 0, [], [], []⟩, P T e (i + 1))
  else if hasL T i [[82, 69, 70]] = true then (fnS (F68 K (P T e (i + 1)))).map fun r => (⟨10, 0, r.1, [], []⟩, r.2)
  else if hasL T i [[68, 79, 78, 69]] = true then (fnS (F68 K (P T e (i + 1)))).map fun r => (⟨11, 0, r.1, [], []⟩, r.2)
  else if hasL T i [[67, 79, 85, 78, 84]] = true then (fnS (F68 K (P T e (i + 1)))).map fun r => (⟨12, 0, r.1, [], []⟩, r.2)
  else if hasL T i [[65, 83]] = true then
    if hasK T (i + 1) 1 = true then (fnS (F70 K (P T e (i + 1 + 1)) d [40] [41])).map fun q => (⟨14, 0, (tok T e (i + 1)).fText, [], [q.1]⟩, q.2)
    else (fnS (F70 K (PE T e (i + 1) 3 (tok T e (i + 1)).fAt) d [40] [41])).map fun q => (⟨14, 0, [], [], [q.1]⟩, q.2)
  else if hasL T i [[40]] = true then fnS (F70 K (P T e i) d [40] [41])
  else if hasL T i [[84, 72, 73, 83], [83, 85, 80, 69, 82]] = true then fnS (F71 K (P T e i) d)
  else if hasK T i 1 = true then
    if hasL T (i + 1) [[91]] = true then (fnS (F70 K (P T e (i + 1)) d [91] [93])).map fun q => (⟨6, 0, (tok T e i).fText, [], [q.1]⟩, q.2)
    else if hasL T (i + 1) [[46]] = true then fnS (F72 K (P T e (i + 1)) ⟨13, 0, (tok T e i).fText, [], []⟩ d)
    else some (⟨5, 0, (tok T e i).fText, [], []⟩, P T e (i + 1))
  else some (⟨5, 0, (tok T e i).fText, [], []⟩, PE T e i 3 (tok T e i).fAt)
theorem s40 (hT : T.length ≤ 100000) (hK : 100 < K) (d : Int) : fnS (F38 (K + 1) (P T e i) d) = o40 K T e i d := by
  rw [F38]
  unfold o40
  simp only [p31, condM_t, Option.bind_some, p69 (q := 3) (by decide)]
  cases h3 : hasK T i 3
  rotate_left
  · simp only [if_true, p70' hT, h3, Option.bind_some]; rfl
  simp only [Bool.false_eq_true, if_false]
  cases h1 : hasL T i [[84, 82, 85, 69]]
  rotate_left
  · simp only [p39T hT hK h1, Option.bind_some, if_true]; rfl
  simp only [p39F hT hK h1, Option.bind_some, Bool.false_eq_true, if_false]
  cases h1 : hasL T i [[70, 65, 76, 83, 69]]
  rotate_left
  · simp only [p39T hT hK h1, Option.bind_some, if_true]; rfl
  simp only [p39F hT hK h1, Option.bind_some, Bool.false_eq_true, if_false]
  cases h1 : hasL T i [[78, 85, 76, 76]]
  rotate_left
  · simp only [p39T hT hK h1, Option.bind_some, if_true]; rfl
  simp only [p39F hT hK h1, Option.bind_some, Bool.false_eq_true, if_false]
  cases h1 : hasL T i [[82, 69, 70]]
  rotate_left
  · simp only [p39T hT hK h1, Option.bind_some, if_true]; cases fnS (F68 K (P T e (i + 1))) <;> rfl
  simp only [p39F hT hK h1, Option.bind_some, Bool.false_eq_true, if_false]
  cases h1 : hasL T i [[68, 79, 78, 69]]
  rotate_left
  · simp only [p39T hT hK h1, Option.bind_some, if_true]; cases fnS (F68 K (P T e (i + 1))) <;> rfl
  simp only [p39F hT hK h1, Option.bind_some, Bool.false_eq_true, if_false]
  cases h1 : hasL T i [[67, 79, 85, 78, 84]]
  rotate_left
  · simp only [p39T hT hK h1, Option.bind_some, if_true]; cases fnS (F68 K (P T e (i + 1))) <;> rfl
  simp only [p39F hT hK h1, Option.bind_some, Bool.false_eq_true, if_false]
  cases h1 : hasL T i [[65, 83]]
  rotate_left
  · simp only [p39T hT hK h1, Option.bind_some, if_true, p72' hT]
    cases h2 : hasK T (i + 1) 1
    · simp only [Bool.false_eq_true, if_false, Option.bind_some]
      cases fnS (F70 K (PE T e (i + 1) 3 (tok T e (i + 1)).fAt) d [40] [41]) <;> rfl
    · simp only [if_true, Option.bind_some]
      cases fnS (F70 K (P T e (i + 1 + 1)) d [40] [41]) <;> rfl
  simp only [p39F hT hK h1, Option.bind_some, Bool.false_eq_true, if_false, p29 (l := [[40]]) (by decide) hK]
  cases h1 : hasL T i [[40]]
  rotate_left
  · simp only [if_true]; cases fnS (F70 K (P T e i) d [40] [41]) <;> rfl
  simp only [Bool.false_eq_true, if_false, p29 (l := [[84, 72, 73, 83], [83, 85, 80, 69, 82]]) (by decide) hK, Option.bind_some]
  cases h1 : hasL T i [[84, 72, 73, 83], [83, 85, 80, 69, 82]]
  rotate_left
  · simp only [if_true]; cases fnS (F71 K (P T e i) d) <;> rfl
  simp only [Bool.false_eq_true, if_false, blockS_r, bindS_r, p72' hT]
  cases hW : hasK T i 1
  · simp only [Bool.false_eq_true, if_false, Option.bind_some, p29e]
    rfl
  simp only [if_true, Option.bind_some, p29 (l := [[91]]) (by decide) hK]
  cases h1 : hasL T (i + 1) [[91]]
  rotate_left
  · simp only [if_true]; cases fnS (F70 K (P T e (i + 1)) d [91] [93]) <;> rfl
  simp only [Bool.false_eq_true, if_false, Option.bind_some, p29 (l := [[46]]) (by decide) hK]
  cases h1 : hasL T (i + 1) [[46]]
  rotate_left
  · simp only [if_true]; cases fnS (F72 K (P T e (i + 1)) ⟨13, 0, (tok T e i).fText, [], []⟩ d) <;> rfl
  rfl
def t19 (K : Nat) (T : List S69) (e : Int) (d : Int) (v : S25) (j : Nat) : Re :=
  if hasL T j opsL = true then (fnS (F38 K (P T e (j + 1)) d)).map fun q => (⟨9, ((opN T j : Nat) : Int), [], [], [v, q.1]⟩, q.2) else some (v, P T e j)
def u19 (K : Nat) (d : Int) (r15 : S25 × S56) : Option ((S25 × S56) ⊕ (S25 × S56)) := ((condM true (fnS (F24 K r15.2)) default).bind (fun r16 => ((fnS (F39 K)).bind (fun r17 => ((condM true (fnS (F22 K r15.2 r17)) default).bind (fun r18 => (if (!r18) = true then (some (.inl (r15.1, r15.2))) else ((fnS (F39 K)).bind (fun r19 => ((condM true (fnS (F40 K r19 r16.fText)) default).bind (fun r20 => ((fnS (F38 K (⟨r15.2.ftokens, (IntKind.i64.wrap (r15.2.fi + 1)), r15.2.fend, r15.2.ferr⟩ : S56) d)).bind (fun r21 => (some (.inl ((⟨9, (IntKind.i64.wrap (r20 + 1)), ([] : Bytes), ([] : Bytes), [r15.1, r21.1]⟩ : S25), r21.2))))))))))))))))
theorem opN_le : opN T i ≤ 14 := by
  unfold opN
  have : ∀ (f : Bytes → Bool) (l : List Bytes), first f l ≤ l.length := by
    intro f l
    induction l with
    | nil => exact Nat.le_refl _
    | cons w l ih =>
      unfold first
      split
      · simp
      · split
        · simp
        · rename_i z hz; rw [hz] at ih; simp; omega
  exact this _ opsL
theorem u19_eq (hT : T.length ≤ 100000) (hK : 100 < K) (d : Int) (v : S25) : fnS (u19 K d (v, P T e i)) = t19 K T e d v i := by
  unfold u19 t19
  simp only [p31, p41, condM_t, p29 (l := opsL) (by decide) hK, Option.bind_some]
  cases ho : hasL T i opsL
  · rfl
  · have lo := hasL_lt ho
    have h0 : opN T i ≠ 0 := fun g => by rw [opN_zero.1 g] at ho; cases ho
    have ht : (tok T e i).fText = (T.getD i default).fText := by unfold tok; rw [if_pos lo]
    have ho14 := opN_le (T := T) (i := i)
    have ew : IntKind.i64.wrap ((((opN T i : Nat) : Int) - 1) + 1) = ((opN T i : Nat) : Int) := by rw [wrap64 (by omega) (by omega)]; omega
    have ej : (⟨(P T e i).ftokens, IntKind.i64.wrap ((P T e i).fi + 1), (P T e i).fend, (P T e i).ferr⟩ : S56) = P T e (i + 1) := by
      show (⟨T, IntKind.i64.wrap ((i : Int) + 1), e, []⟩ : S56) = _
      rw [wrap64 (by omega) (by omega)]; rfl
    simp only [Bool.not_true, Bool.false_eq_true, if_false, idx_exact hK opsL (by decide), Option.bind_some, if_true, ht, ← opN_text ho, ew, ej]
    cases fnS (F38 K (P T e (i + 1)) d) <;> rfl
theorem u19_e (hK : 100 < K) (d : Int) (v : S25) : fnS (u19 K d (v, PE T e i k a)) = some (v, PE T e i k a) := by
  unfold u19
  simp only [p31e, p41, condM_t, p29e, Option.bind_some, Bool.not_false, if_true]
  rfl
def o19 (K : Nat) (T : List S69) (e : Int) (i : Nat) (d : Int) : Re :=
  if 6 < d ∧ starts T i = true then some (⟨5, 0, (tok T e i).fText, [], []⟩, PE T e i 4 (tok T e i).fAt)
  else if hasL T i [[45]] = true then (fnS (F38 K (P T e (i + 1)) d)).map fun r => (⟨7, 0, [], [], [r.1]⟩, r.2)
  else if hasL T i [[78, 79, 84]] = true then (fnS (F38 K (P T e (i + 1)) d)).map fun r => (⟨8, 0, [], [], [r.1]⟩, r.2)
  else (fnS (F38 K (P T e i) d)).bind fun r => fnS (u19 K d r)
theorem s19 (hT : T.length ≤ 100000) (hK : 100 < K) (d : Int) : fnS (F15 (K + 2) (P T e i) d) = o19 (K + 1) T e i d := by
  have hKb : 100 < K + 1 := by omega
  rw [F15]
  unfold o19
  have hp : ∀ {β : Type} (f : Bool → Bool → Option β), (∀ a b, f a b = f (a || b) false) → ((condM true (fnS (F22 (K + 1) (P T e i) ([[45], [78, 79, 84]] : List Bytes))) default).bind fun r1 => (condM (!r1) (fnS (F35 (K + 1) (P T e i))) default).bind fun r2 => f r1 r2) = f (starts T i) false := by
    intro β f hf
    rw [condM_t, p29 (l := signs) (by decide) hKb, Option.bind_some]
    rw [← starts_eq (T := T) (i := i)]
    cases hg : hasL T i signs
    · simp only [Bool.not_false, condM_t, p37 hKb, Option.bind_some, Bool.false_or]
      rw [hf]; simp
    · simp only [Bool.not_true, condM_f, Option.bind_some, Bool.true_or]
      rw [hf]; simp
  rw [hp _ (fun a b => by simp)]
  by_cases hdeep : 6 < d ∧ starts T i = true
  · rw [if_pos hdeep]
    have h38 : fnS (F36 (K + 1) (P T e i) d) = some (PE T e i 4 (tok T e i).fAt) := by
      unfold F36
      rw [if_pos (by simp; omega), p20]; rfl
    simp only [hdeep.2, Bool.or_false, if_true, h38, Option.bind_some, bindS_r]
    obtain ⟨z, rfl⟩ : ∃ z, K = z + 1 := ⟨K - 1, by omega⟩
    simp only [p39e, Option.bind_some, Bool.false_eq_true, if_false, blockS_r, bindS_r, p40e, condM_t, p31e, p41, p29e, Bool.not_false, if_true]
    rfl
  rw [if_neg hdeep]
  have h6 : 6 < d → starts T i = false := fun g => by simpa [g] using hdeep
  have hn : (if (starts T i || false) = true then ((fnS (F36 (K + 1) (P T e i) d)).bind (fun r5 => (some (.inr (r5))))) else (some (.inr (P T e i))) : Option ((S25 × S56) ⊕ S56)) = some (.inr (P T e i)) := by
    cases hs : starts T i
    · rfl
    · have hd : ¬ 6 < d := fun g => by rw [h6 g] at hs; cases hs
      have h38 : fnS (F36 (K + 1) (P T e i) d) = some (P T e i) := by
        unfold F36
        rw [if_neg (by simp; omega)]; rfl
      rw [h38]; rfl
  rw [hn, bindS_r]
  cases hM : hasL T i [[45]]
  rotate_left
  · rw [p39T hT hKb hM, Option.bind_some]
    simp only [if_true]
    cases fnS (F38 (K + 1) (P T e (i + 1)) d) <;> rfl
  rw [p39F hT hKb hM, Option.bind_some]
  simp only [Bool.false_eq_true, if_false]
  cases hN : hasL T i [[78, 79, 84]]
  rotate_left
  · rw [p39T hT hKb hN, Option.bind_some]
    simp only [if_true]
    cases fnS (F38 (K + 1) (P T e (i + 1)) d) <;> rfl
  rw [p39F hT hKb hN, Option.bind_some]
  simp only [Bool.false_eq_true, if_false, blockS_r, bindS_r]
  cases fnS (F38 (K + 1) (P T e i) d) <;> rfl
end Go.Proofs.YtidjangjfekfjaaGreatDoor.ex

set_option linter.unusedVariables false
set_option linter.unusedSimpArgs false
set_option linter.unusedSectionVars false
namespace Go.Proofs.YtidjangjfekfjaaGreatDoor.ex
open Go Go.Dl
set_option maxRecDepth 100000
def argT : List S25 → List Bytes
  | [] => []
  | x :: r => pr.tkE x ++ r.flatMap fun y => [44] :: pr.tkE y
theorem gat_com : ∀ (l : List S25) (n : Nat), 1 ≤ n → pr.gat (fun i p => pr.com i ++ p.2) n (l.map fun x => (x.fKind, pr.tkE x)) = l.flatMap fun y => [44] :: pr.tkE y
  | [], n, h => rfl
  | x :: r, n, h => by
    rw [List.map_cons, pr.gat, gat_com r (n + 1) (by omega), List.flatMap_cons]
    unfold pr.com
    rw [if_pos (by omega)]; rfl
theorem listT_eq (l : List S25) : pr.listT (l.map fun x => (x.fKind, pr.tkE x)) = argT l := by
  cases l with
  | nil => rfl
  | cons x r =>
    unfold pr.listT argT
    rw [List.map_cons, pr.gat, gat_com r 1 (by omega)]
    rfl
theorem tk_num (n : Nat) : pr.tkE ⟨1, n, [], [], []⟩ = [Lib.decDigits n] := by
  rw [pr.tkE_eq]
  unfold pr.exprT numT
  rw [if_pos rfl, if_neg (by dsimp only; omega)]; rfl
theorem tk_name (w : Bytes) : pr.tkE ⟨5, 0, w, [], []⟩ = [w] := by rw [pr.tkE_eq]; rfl
theorem tk_lit {k : Int} (h : k = 2 ∨ k = 3 ∨ k = 4) : pr.tkE ⟨k, 0, [], [], []⟩ = [if k = 2 then [84, 82, 85, 69] else if k = 3 then [70, 65, 76, 83, 69] else [78, 85, 76, 76]] := by
  rw [pr.tkE_eq]
  rcases h with rfl | rfl | rfl <;> rfl
theorem tk_index (w : Bytes) (a : S25) : pr.tkE ⟨6, 0, w, [], [a]⟩ = [w, [91]] ++ pr.tkE a ++ [[93]] := by rw [pr.tkE_eq]; rfl
theorem tk_as (w : Bytes) (a : S25) : pr.tkE ⟨14, 0, w, [], [a]⟩ = [[65, 83], w, [40]] ++ pr.tkE a ++ [[41]] := by rw [pr.tkE_eq]; rfl
theorem tk_of {k : Int} (w : Bytes) (h : k = 10 ∨ k = 11 ∨ k = 12) : pr.tkE ⟨k, 0, w, [], []⟩ = [if k = 10 then [82, 69, 70] else if k = 11 then [68, 79, 78, 69] else [67, 79, 85, 78, 84], [40], w, [41]] := by
  rw [pr.tkE_eq]
  rcases h with rfl | rfl | rfl <;> rfl
theorem tk_sign {k : Int} (a : S25) (h : k = 7 ∨ k = 8) : pr.tkE ⟨k, 0, [], [], [a]⟩ = [if k = 7 then [45] else [78, 79, 84]] ++ opT a := by
  rw [pr.tkE_eq]
  unfold pr.exprT
  have := opdT_eq [a] 0 (by simp)
  rcases h with rfl | rfl
  · show [[45]] ++ pr.opdT (List.map (fun x => (x.fKind, pr.tkE x)) [a]) 0 = _
    rw [this]; rfl
  · show [[78, 79, 84]] ++ pr.opdT (List.map (fun x => (x.fKind, pr.tkE x)) [a]) 0 = _
    rw [this]; rfl
theorem tk_bin (n : Nat) (a b : S25) : pr.tkE ⟨9, n, [], [], [a, b]⟩ = opT a ++ [pr.named n pr.ops] ++ opT b := by
  rw [pr.tkE_eq]
  unfold pr.exprT
  show pr.opdT (List.map (fun x => (x.fKind, pr.tkE x)) [a, b]) 0 ++ [pr.named n pr.ops] ++ pr.opdT (List.map (fun x => (x.fKind, pr.tkE x)) [a, b]) 1 = _
  rw [opdT_eq [a, b] 0 (by simp), opdT_eq [a, b] 1 (by simp)]; rfl
theorem tk_call (w wh : Bytes) (ag : List S25) : pr.tkE ⟨13, 0, w, wh, ag⟩ = [w, [46], wh, [40]] ++ argT ag ++ [[41]] := by
  rw [pr.tkE_eq, ← listT_eq]; rfl
theorem tk_own {n : Int} (wh : Bytes) (ag : List S25) (h : n = 1 ∨ n = 2) : pr.tkE ⟨13, n, [], wh, ag⟩ = [if n = 1 then [84, 72, 73, 83] else [83, 85, 80, 69, 82], [46], wh, [40]] ++ argT ag ++ [[41]] := by
  rw [pr.tkE_eq, ← listT_eq]
  rcases h with rfl | rfl <;> rfl
theorem nd_one {k n : Int} {w s : Bytes} (h : np k = false) : nd ⟨k, n, w, s, []⟩ = 1 := by
  rw [nd_eq]; unfold ndK; rw [if_neg (by rw [h]; simp)]; rfl
theorem nd_arg {k n : Int} {w s : Bytes} {a : S25} (h : np k = false) : nd ⟨k, n, w, s, [a]⟩ = 1 + nd a := by
  rw [nd_eq]; unfold ndK; rw [if_neg (by rw [h]; simp)]; simp [mx]
theorem nd_sign {k n : Int} {w s : Bytes} {a : S25} (h : np k = true) : nd ⟨k, n, w, s, [a]⟩ = opN' a := by
  rw [nd_eq]; unfold ndK; rw [if_pos h]
  have : 1 ≤ opN' a := by
    unfold opN' opd
    have := nd_pos a
    split <;> dsimp only <;> omega
  simp only [List.map_cons, List.map_nil, mx]
  show max 1 (max (opN' a) 0) = _
  omega
theorem nd_bin {n : Int} {w s : Bytes} {a b : S25} : nd ⟨9, n, w, s, [a, b]⟩ = max (opN' a) (opN' b) := by
  rw [nd_eq]; unfold ndK; rw [if_pos (by rfl)]
  have : 1 ≤ opN' a := by
    unfold opN' opd
    have := nd_pos a
    split <;> dsimp only <;> omega
  simp only [List.map_cons, List.map_nil, mx]
  show max 1 (max (opN' a) (max (opN' b) 0)) = _
  omega
theorem nd_call {n : Int} {w s : Bytes} {ag : List S25} {m : Nat} : nd ⟨13, n, w, s, ag⟩ ≤ m ↔ 1 ≤ m ∧ ∀ x ∈ ag, nd x + 1 ≤ m := by
  rw [nd_eq]; unfold ndK; rw [if_neg (by decide)]
  have : ∀ l : List S25, (mx ((l.map fun x => (x.fKind, nd x)).map (·.2)) + 1 ≤ m ↔ 1 ≤ m ∧ ∀ x ∈ l, nd x + 1 ≤ m) := by
    intro l
    induction l with
    | nil => simp [mx]
    | cons y r ih =>
      simp only [List.map_cons, mx, List.mem_cons, forall_eq_or_imp]
      constructor
      · intro h
        have := ih.1 (by omega)
        exact ⟨this.1, by omega, this.2⟩
      · rintro ⟨h1, h2, h3⟩
        have := ih.2 ⟨h1, h3⟩
        omega
  rw [Nat.add_comm]
  exact this ag
theorem opN_p {x : S25} (h : np x.fKind = false) : opN' x = nd x := by unfold opN' opd; rw [if_neg (by rw [h]; simp)]
theorem opN_n {x : S25} (h : np x.fKind = true) : opN' x = nd x + 1 := by unfold opN' opd; rw [if_pos h]
theorem opT_p {x : S25} (h : np x.fKind = false) : opT x = pr.tkE x := by unfold opT; rw [if_neg (by rw [h]; simp)]
theorem opT_n {x : S25} (h : np x.fKind = true) : opT x = [[40]] ++ pr.tkE x ++ [[41]] := by unfold opT; rw [if_pos h]
theorem opT_le (x : S25) : (opT x).length ≤ (pr.tkE x).length + 2 := by unfold opT; split <;> simp
theorem opN_le' (x : S25) : opN' x ≤ nd x + 1 := by unfold opN' opd; split <;> dsimp only <;> omega
end Go.Proofs.YtidjangjfekfjaaGreatDoor.ex
