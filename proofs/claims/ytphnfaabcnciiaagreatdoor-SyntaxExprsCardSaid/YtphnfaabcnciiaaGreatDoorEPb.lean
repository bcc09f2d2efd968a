/- Expressions and operands where something is wrong already; names in brackets. Operands: the parser's and the reader's, side by side. Calls in expressions: the arguments, by both. Calls in expressions, by both. No conditions. -/
import Derived.Test.YtphnfaabcnciiaaGreatDoorEPa
set_option linter.unusedVariables false
set_option linter.unusedSimpArgs false
set_option linter.unusedSectionVars false
namespace Go.Proofs.YtphnfaabcnciiaaGreatDoor.ex
open Go Go.Dl
set_option maxHeartbeats 4000000
variable {T : List S41} {e : Int} {i : Nat} {k a : Int} {K : Nat}
theorem p72' (hT : T.length ≤ 100000) : fnS (F72 K (P T e i)) = some (if hasK T i 1 = true then ((tok T e i).fText, P T e (i + 1)) else ([], PE T e i 3 (tok T e i).fAt)) := by
  rw [p72]
  cases h : hasK T i 1
  · rfl
  · have := hasK_lt h
    rw [wrap64 (by omega) (by omega)]; rfl
theorem p70' (hT : T.length ≤ 100000) : fnS (F70 K (P T e i)) = some (if hasK T i 3 = true then ((tok T e i).fN, P T e (i + 1)) else (0, PE T e i 3 (tok T e i).fAt)) := by
  rw [p70]
  cases h : hasK T i 3
  · rfl
  · have := hasK_lt h
    rw [wrap64 (by omega) (by omega)]; rfl
theorem p40e {d : Int} : fnS (F40 (K + 1) (PE T e i k a) d) = some (⟨5, 0, (tok T e i).fText, [], []⟩, PE T e i k a) := by
  rw [F40]
  simp only [p31e, p69e, p39e, p29e, p72e, condM_t, Option.bind_some, Bool.false_eq_true, if_false, bindS_r, blockS_r]
  rfl
theorem p19e {d : Int} : fnS (F19 (K + 2) (PE T e i k a) d) = some (⟨5, 0, (tok T e i).fText, [], []⟩, PE T e i k a) := by
  rw [F19]
  simp only [p29e, p37e, condM_t, Option.bind_some, Bool.not_false, Bool.or_self, Bool.false_eq_true, if_false, bindS_r, p39e, blockS_r, p40e, p31e, p41, if_true]
  rfl
theorem r46e {d : Int} (hk : k ≠ 0) : fnS (F46 (K + 1) (RE T e k a) d) = some (⟨0, 0, [], [], []⟩, RE T e k a) := by
  rw [F46]
  simp only [r78e hk, r45e hk, r24e hk, condM_t, Option.bind_some, Bool.false_eq_true, if_false, bindS_r, blockS_r]
  rfl
theorem r44e (hk : k ≠ 0) (hK : 100 < K) : fnS (F44 K (RE T e k a)) = some false := by
  unfold F44
  simp only [r78e hk, Option.bind_some, letV, Bool.not_false, condM_t, Bool.or_self, Bool.false_eq_true, if_false]
  have := loop_any startsL (by decide) (fun _ => false) (fun u => chk [inb u startsL.length] ((fnS (F79 K (RE T e k a) (startsL.getD u.toNat default))).bind fun r45 => if r45 = true then some (.inl (Sum.inr (Sum.inr true))) else some (.inr ())))
    (fun n hn => by rw [inb_nat hn, chk_t rfl, chk_nil, r79e hk, Option.bind_some]) K 0 (by omega) (by simp; omega)
  rw [show ((0 : Nat) : Int) = 0 from rfl] at this
  rw [this]
  rfl
theorem r23e {d : Int} (hk : k ≠ 0) (hK : 100 < K) : fnS (F23 (K + 2) (RE T e k a) d) = some (⟨0, 0, [], [], []⟩, RE T e k a) := by
  rw [F23]
  have h : (condM (decide (d > 6)) (fnS (F44 (K + 1) (RE T e k a))) default) = some false := by
    rw [r44e hk (by omega)]
    cases decide (d > 6) <;> rfl
  simp only [h, Option.bind_some, Bool.and_false, Bool.false_eq_true, if_false, bindS_r, r45e hk, r46e hk, r47e hk (show 100 < K + 1 by omega)]
  rfl
inductive Rs (T : List S41) (e : Int) {α : Type} (i : Nat) : α × S65 → α × S71 → Prop
  | ok (j : Nat) (v : α) : i < j → j ≤ T.length → Rs T e i (v, P T e j) (v, R T e j)
  | er (j : Nat) (k a : Int) (v w : α) : k ≠ 0 → Rs T e i (v, PE T e j k a) (w, RE T e k a)
theorem brack_x (hT : T.length ≤ 100000) (hK : 101 < K) {K' : Nat} : ∃ x y, fnS (F71 K (P T e i)) = some x ∧ fnS (F81 K' (R T e i)) = some y ∧ Rs T e i x y := by
  unfold F71 F81
  rw [p93 hT (by omega), r83 hT]
  cases h1 : hasL T i [[40]]
  · simp only [Option.bind_some, Bool.false_eq_true, if_false, p72e, r82e (k := 3) (by decide), r83e (k := 3) (by decide), p93e (show 100 < K by omega)]
    exact ⟨_, _, rfl, rfl, .er _ _ _ _ _ (by decide)⟩
  · have l1 := hasL_lt h1
    simp only [Option.bind_some, if_true, p72' hT, r82 hT]
    cases h2 : hasK T (i + 1) 1
    · simp only [Option.bind_some, Bool.false_eq_true, if_false, r83e (k := 3) (by decide), p93e (show 100 < K by omega)]
      exact ⟨_, _, rfl, rfl, .er _ _ _ _ _ (by decide)⟩
    · have l2 := hasK_lt h2
      simp only [Option.bind_some, if_true, p93 hT (show 100 < K by omega), r83 hT]
      cases h3 : hasL T (i + 1 + 1) [[41]]
      · simp only [Option.bind_some, Bool.false_eq_true, if_false]
        exact ⟨_, _, rfl, rfl, .er _ _ _ _ _ (by decide)⟩
      · have l3 := hasL_lt h3
        simp only [Option.bind_some, if_true]
        exact ⟨_, _, rfl, rfl, .ok _ _ (by omega) (by omega)⟩
end Go.Proofs.YtphnfaabcnciiaaGreatDoor.ex

set_option linter.unusedVariables false
set_option linter.unusedSimpArgs false
set_option linter.unusedSectionVars false
namespace Go.Proofs.YtphnfaabcnciiaaGreatDoor.ex
open Go Go.Dl
set_option maxHeartbeats 4000000
variable {T : List S41} {e : Int} {i : Nat} {k a : Int} {K K' : Nat}
theorem p39T {w : Bytes} (hT : T.length ≤ 100000) (hK : 100 < K) (h : hasL T i [w] = true) : fnS (F39 K (P T e i) w) = some (true, P T e (i + 1)) := by rw [p39 hT hK, if_pos h]
theorem p39F {w : Bytes} (hT : T.length ≤ 100000) (hK : 100 < K) (h : hasL T i [w] = false) : fnS (F39 K (P T e i) w) = some (false, P T e i) := by rw [p39 hT hK, if_neg (by rw [h]; simp)]
theorem r45T {w : Bytes} (hT : T.length ≤ 100000) (h : hasL T i [w] = true) : fnS (F45 K (R T e i) w) = some (true, R T e (i + 1)) := by rw [r45 hT, if_pos h]
theorem r45F {w : Bytes} (hT : T.length ≤ 100000) (h : hasL T i [w] = false) : fnS (F45 K (R T e i) w) = some (false, R T e i) := by rw [r45 hT, if_neg (by rw [h]; simp)]
theorem p93T {w : Bytes} (hT : T.length ≤ 100000) (hK : 100 < K) (h : hasL T i [w] = true) : fnS (F93 K (P T e i) [w]) = some (P T e (i + 1)) := by rw [p93 hT hK, if_pos h]
def Q19 (T : List S41) (e : Int) (n : Nat) : Prop := ∀ (K K' i : Nat) (d : Int), T.length - i ≤ n → i ≤ T.length → 1 ≤ d → d ≤ 7 → 200 + 4 * n ≤ K → 200 + 4 * n ≤ K' →
  ∃ x y, fnS (F19 K (P T e i) d) = some x ∧ fnS (F23 K' (R T e i) d) = some y ∧ Rs T e i x y ∧ (6 < d → ∃ j k a, x.2 = PE T e j k a)
theorem within_x (hT : T.length ≤ 100000) {n : Nat} (h19 : Q19 T e n) (K K' i : Nat) (d : Int) (rw' : Bytes) (hn : T.length - i ≤ n) (hi : i ≤ T.length) (hd : 1 ≤ d) (hd6 : d ≤ 6) (hK : 200 + 4 * n ≤ K) (hK' : 200 + 4 * n ≤ K') :
    ∃ v p2 p3 w r2 r3, fnS (F19 K (P T e i) (IntKind.i64.wrap (d + 1))) = some (v, p2) ∧ fnS (F93 K p2 [rw']) = some p3 ∧ fnS (F23 K' (R T e i) (IntKind.i64.wrap (d + 1))) = some (w, r2) ∧ fnS (F83 K' r2 rw') = some r3 ∧ Rs T e i (v, p3) (w, r3) := by
  rw [wrap64 (by omega) (by omega)]
  obtain ⟨⟨v, p2⟩, ⟨w, r2⟩, h1, h2, h3, _⟩ := h19 K K' i (d + 1) hn hi (by omega) (by omega) hK hK'
  cases h3 with
  | er j k a v w hk => exact ⟨_, _, _, _, _, _, h1, p93e (by omega), h2, r83e hk, .er _ _ _ _ _ hk⟩
  | ok j v hj hl =>
    refine ⟨_, _, _, _, _, _, h1, p93 hT (by omega), h2, r83 hT, ?_⟩
    cases hr : hasL T j [rw']
    · exact .er _ _ _ _ _ (by decide)
    · have := hasL_lt hr
      exact .ok _ _ (by omega) (by omega)
theorem Rs.weak {α : Type} {i0 : Nat} {x : α × S65} {y : α × S71} (h : Rs T e i x y) (hi : i0 ≤ i) : Rs T e i0 x y := by
  cases h with
  | ok j v hj hl => exact .ok j v (by omega) hl
  | er j k a v w hk => exact .er j k a v w hk
end Go.Proofs.YtphnfaabcnciiaaGreatDoor.ex

set_option linter.unusedVariables false
set_option linter.unusedSimpArgs false
set_option linter.unusedSectionVars false
namespace Go.Proofs.YtphnfaabcnciiaaGreatDoor.ex
open Go Go.Dl
set_option maxHeartbeats 4000000
variable {T : List S41} {e : Int} {i : Nat} {k a : Int} {K K' : Nat}
def body75 (K : Nat) (d : Int) (u86 : S65 × (List S25) × Bool) : Option (((S65 × (List S25)) ⊕ (S25 × S65)) ⊕ (S65 × (List S25) × Bool)) := ((condM u86.2.2 (fnS (F21 K u86.1)) default).bind (fun r107 => (if (u86.2.2 && r107) = true then (bindS (blockS (letV ((decide (((Int.ofNat u86.2.1.length) : Int) ≥ 3)) && (decide ((d : Int) < 6))) (fun (x117 : Bool) => ((condM x117 (fnS (F29 K u86.1 ([[45], [78, 79, 84]] : List Bytes))) default).bind (fun r118 => ((condM ((!r118) && x117) (fnS (F37 K u86.1)) default).bind (fun r119 => (bindS (if (x117 && (r118 || r119)) = true then ((fnS (F20 K u86.1 5)).bind (fun r122 => (some (.inr (r122))))) else (some (.inr (u86.1)))) (fun (u121 : S65) => ((fnS (F19 K u121 (IntKind.i64.wrap (d + 1)))).bind (fun r123 => (chk [room ((u86.2.1.length + ([r123.1].length)) * 72)] (some (.inr (r123.2, (u86.2.1 ++ [r123.1])))))))))))))))) (fun (u116 : S65 × (List S25)) => ((fnS (F39 K u116.1 ([44] : Bytes))).bind (fun r125 => (some (.inr (r125.2, u116.2, r125.1))))))) else (some (.inl (Sum.inl (u86.1, u86.2.1)))))))
def body84 (K : Nat) (d : Int) (u78 : S71 × (List S25)) : Option (((S71 × (List S25)) ⊕ (S25 × S71)) ⊕ (S71 × (List S25))) := (if ((u78.1.fcode : Int) == 0) = true then (bindS (blockS ((condM true (fnS (F44 K u78.1)) default).bind (fun r106 => (bindS (if r106 = true then ((fnS (F105 K u78.1 (Int.ofNat u78.2.length) 3)).bind (fun r109 => (some (.inr (r109))))) else (some (.inr (u78.1)))) (fun (u108 : S71) => ((fnS (F23 K u108 (IntKind.i64.wrap (d + 1)))).bind (fun r110 => (chk [room ((u78.2.length + ([r110.1].length)) * 72)] ((fnS (F45 K r110.2 ([44] : Bytes))).bind (fun r112 => (if (!r112.1) = true then ((fnS (F83 K r112.2 ([41] : Bytes))).bind (fun r113 => (some (.inl (Sum.inr (Sum.inl (r113, (u78.2 ++ [r110.1])))))))) else (some (.inr (r112.2, (u78.2 ++ [r110.1]))))))))))))))) (fun (u105 : S71 × (List S25)) => (some (.inr (u105.1, u105.2))))) else (some (.inl (Sum.inl (u78.1, u78.2)))))
theorem F75_eq (K : Nat) (a0 : S65) (a1 : S25) (d : Int) : F75 (K + 1) a0 a1 d = ((fnS (F93 K a0 ([[46]] : List Bytes))).bind (fun r1 => ((fnS (F72 K r1)).bind (fun r2 => ((fnS (F93 K r2.2 ([[40]] : List Bytes))).bind (fun r3 => ((fnS (F39 K r3 ([41] : Bytes))).bind (fun r4 => (if r4.1 = true then (some (.inl ((⟨a1.fKind, a1.fN, a1.fName, r2.1, []⟩ : S25), r4.2))) else (bindS (blockS ((iter K (body75 K d) (r4.2, [], true)).map .inl)) (fun (u65 : S65 × (List S25)) => ((fnS (F93 K u65.1 ([[41]] : List Bytes))).bind (fun r126 => (some (.inl ((⟨a1.fKind, a1.fN, a1.fName, r2.1, u65.2⟩ : S25), r126)))))))))))))))) := by
  rw [F75]; rfl
theorem F84_eq (K : Nat) (a0 : S71) (a1 : S25) (d : Int) : F84 (K + 1) a0 a1 d = ((fnS (F83 K a0 ([46] : Bytes))).bind (fun r1 => ((fnS (F82 K r1)).bind (fun r2 => ((fnS (F83 K r2.2 ([40] : Bytes))).bind (fun r3 => ((fnS (F45 K r3 ([41] : Bytes))).bind (fun r4 => (if r4.1 = true then (some (.inl ((⟨13, a1.fN, a1.fName, r2.1, []⟩ : S25), r4.2))) else (bindS (blockS ((iter K (body84 K d) (r4.2, [])).map .inl)) (fun (u59 : S71 × (List S25)) => (some (.inl ((⟨13, a1.fN, a1.fName, r2.1, u59.2⟩ : S25), u59.1))))))))))))))  := by
  rw [F84]; rfl
theorem body75_e {d : Int} {l : List S25} {b : Bool} : body75 K d (PE T e i k a, l, b) = some (.inl (.inl (PE T e i k a, l))) := by
  unfold body75
  cases b
  · rfl
  · simp only [condM_t, p21e, Option.bind_some, Bool.and_false, Bool.false_eq_true, if_false]
theorem body75_f {d : Int} {l : List S25} {p : S65} : body75 K d (p, l, false) = some (.inl (.inl (p, l))) := rfl
theorem body84_e {d : Int} {l : List S25} (hk : k ≠ 0) : body84 K d (RE T e k a, l) = some (.inl (.inl (RE T e k a, l))) := by
  unfold body84
  rw [if_neg (by show ¬ ((k == 0) = true); simpa using hk)]
theorem starts_eq : (hasL T i signs || ((hasK T i 1 || hasK T i 3) || hasL T i opensL)) = starts T i := by
  unfold starts
  have : hasL T i startsL = (hasL T i signs || hasL T i opensL) := hasL_or signs opensL
  rw [this]
  cases hasL T i signs <;> cases (hasK T i 1 || hasK T i 3) <;> rfl
theorem body75_ok (hK : 100 < K) {d : Int} {l : List S25} {v : S25} {p' p'' : S65} {b : Bool} (hx : ¬ ((3 ≤ l.length ∧ d < 6) ∧ starts T i = true)) (hd : 1 ≤ d ∧ d ≤ 7) (hl : l.length ≤ 100000)
    (h : fnS (F19 K (P T e i) (d + 1)) = some (v, p')) (h2 : fnS (F39 K p' [44]) = some (b, p'')) : body75 K d (P T e i, l, true) = some (.inr (p'', l ++ [v], b)) := by
  unfold body75
  simp only [condM_t, p21, Option.bind_some, Bool.and_self, if_true, letV]
  generalize hxx : ((decide (((Int.ofNat l.length) : Int) ≥ 3)) && (decide ((d : Int) < 6))) = x
  have hx' : ¬ (x = true ∧ starts T i = true) := by
    rintro ⟨g1, g2⟩
    refine hx ⟨?_, g2⟩
    rw [← hxx] at g1
    simp at g1
    omega
  rw [wrap64 (by omega) (by omega)]
  cases x
  · simp only [condM_f, Option.bind_some, Bool.and_false, Bool.false_and, Bool.false_eq_true, if_false, bindS_r, h]
    rw [chk_t (room_le (by simp; omega)), chk_nil]
    simp only [blockS_r, bindS_r, h2, Option.bind_some]
  · have hs := starts_eq (T := T) (i := i)
    have h0 : starts T i = false := by simpa using hx'
    rw [h0, Bool.or_eq_false_iff] at hs
    simp only [condM_t, p29 (l := signs) (by decide) hK, Option.bind_some, hs.1, Bool.not_false, Bool.and_self, p37 hK, hs.2, Bool.or_self, Bool.and_false, Bool.false_eq_true, if_false, bindS_r, h]
    rw [chk_t (room_le (by simp; omega)), chk_nil]
    simp only [blockS_r, bindS_r, h2, Option.bind_some]
theorem body75_full (hK : 102 < K) {d : Int} {l : List S25} (hx : (3 ≤ l.length ∧ d < 6) ∧ starts T i = true) (hd : 1 ≤ d ∧ d ≤ 7) (hl : l.length ≤ 100000) :
    body75 K d (P T e i, l, true) = some (.inr (PE T e i 5 (tok T e i).fAt, l ++ [⟨5, 0, (tok T e i).fText, [], []⟩], false)) := by
  unfold body75
  simp only [condM_t, p21, Option.bind_some, Bool.and_self, if_true, letV]
  have hxx : ((decide (((Int.ofNat l.length) : Int) ≥ 3)) && (decide ((d : Int) < 6))) = true := by simp; omega
  rw [hxx]
  obtain ⟨q, rfl⟩ : ∃ q, K = q + 2 := ⟨K - 2, by omega⟩
  have hs := starts_eq (T := T) (i := i)
  rw [hx.2] at hs
  simp only [condM_t, p29 (l := signs) (by decide) (show 100 < q + 2 by omega), Option.bind_some, Bool.and_true, Bool.true_and]
  have hc : ((condM (!hasL T i signs) (fnS (F37 (q + 2) (P T e i))) default)) = some (if hasL T i signs = true then false else ((hasK T i 1 || hasK T i 3) || hasL T i opensL)) := by
    cases hasL T i signs
    · rw [p37 (by omega)]; rfl
    · rfl
  rw [hc, Option.bind_some]
  have hor : (hasL T i signs || (if hasL T i signs = true then false else ((hasK T i 1 || hasK T i 3) || hasL T i opensL))) = true := by
    cases hg : hasL T i signs
    · rw [hg] at hs; simpa using hs
    · rfl
  rw [hor, if_pos rfl, p20]
  simp only [Option.bind_some, bindS_r, p19e]
  rw [chk_t (room_le (by simp; omega)), chk_nil]
  simp only [blockS_r, bindS_r, p39e, Option.bind_some]
theorem few_if {A : Type} {l : List S25} (hx : ¬ (3 ≤ l.length ∧ starts T i = true)) : (if starts T i = true then ((fnS (F105 K (R T e i) (Int.ofNat l.length) 3)).bind (fun r109 => (some (.inr (r109))))) else (some (.inr (R T e i))) : Option (A ⊕ S71)) = some (.inr (R T e i)) := by
  cases hs : starts T i
  · rfl
  · have h105 : fnS (F105 K (R T e i) (Int.ofNat l.length) 3) = some (R T e i) := by
      unfold F105
      rw [if_neg (by have : ¬ 3 ≤ l.length := fun g => hx ⟨g, hs⟩; simp; omega)]; rfl
    rw [h105]; rfl
theorem body84_ok (hK : 100 < K) {d : Int} {l : List S25} {w : S25} {r' r'' : S71} {b : Bool} (hx : ¬ (3 ≤ l.length ∧ starts T i = true)) (hd : 1 ≤ d ∧ d ≤ 7) (hl : l.length ≤ 100000)
    (h : fnS (F23 K (R T e i) (d + 1)) = some (w, r')) (h2 : fnS (F45 K r' [44]) = some (b, r'')) {r3 : S71} (h3 : fnS (F83 K r'' [41]) = some r3) :
    body84 K d (R T e i, l) = if b = true then some (.inr (r'', l ++ [w])) else some (.inl (.inl (r3, l ++ [w]))) := by
  unfold body84
  rw [if_pos (show ((R T e i).fcode == 0) = true from rfl)]
  simp only [condM_t, r44 hK, Option.bind_some]
  rw [few_if hx, bindS_r]
  rw [wrap64 (by omega) (by omega), h, Option.bind_some, chk_t (room_le (by simp; omega)), chk_nil, h2, Option.bind_some]
  cases b
  · simp only [Bool.not_false, if_true, h3, Option.bind_some, blockS_lr, bindS_l, Bool.false_eq_true, if_false]
  · simp only [Bool.not_true, Bool.false_eq_true, if_false, blockS_r, bindS_r, if_true]
theorem body84_full (hK : 102 < K) {d : Int} {l : List S25} (hx : 3 ≤ l.length ∧ starts T i = true) (hd : 1 ≤ d ∧ d ≤ 7) (hl : l.length ≤ 100000) :
    body84 K d (R T e i, l) = some (.inl (.inl (RE T e 5 (tok T e i).fAt, l ++ [⟨0, 0, [], [], []⟩]))) := by
  unfold body84
  rw [if_pos (show ((R T e i).fcode == 0) = true from rfl)]
  have h105 : fnS (F105 K (R T e i) (Int.ofNat l.length) 3) = some (RE T e 5 (tok T e i).fAt) := by
    unfold F105
    rw [if_pos (by simp; omega), r24]; rfl
  simp only [condM_t, r44 (show 100 < K by omega), hx.2, Option.bind_some, if_true, h105, bindS_r]
  obtain ⟨q, rfl⟩ : ∃ q, K = q + 2 := ⟨K - 2, by omega⟩
  rw [r23e (by decide) (by omega), Option.bind_some, chk_t (room_le (by simp; omega)), chk_nil, r45e (by decide), Option.bind_some]
  simp only [Bool.not_false, if_true, r83e (k := 5) (by decide), Option.bind_some, blockS_lr, bindS_l]
end Go.Proofs.YtphnfaabcnciiaaGreatDoor.ex

set_option linter.unusedVariables false
set_option linter.unusedSimpArgs false
set_option linter.unusedSectionVars false
namespace Go.Proofs.YtphnfaabcnciiaaGreatDoor.ex
open Go Go.Dl
set_option maxHeartbeats 4000000
variable {T : List S41} {e : Int} {i : Nat} {k a : Int} {K K' : Nat}
theorem loop_x (hT : T.length ≤ 100000) {n0 : Nat} (h19 : Q19 T e n0) (K K' : Nat) (d : Int) (hd : 1 ≤ d) (hd6 : d ≤ 6) (hK : 200 + 4 * n0 ≤ K) (hK' : 200 + 4 * n0 ≤ K') :
    ∀ (n i : Nat) (l : List S25) (q q' : Nat), T.length - i ≤ n → n ≤ n0 → i ≤ T.length → (d = 6 → l = []) → l.length ≤ i → n + 2 < q → n + 2 < q' →
      ∃ l1 l2 p1 p2 r2, iter q (body75 K d) (P T e i, l, true) = some (.inl (p1, l1)) ∧ fnS (F93 K p1 [[41]]) = some p2 ∧ iter q' (body84 K' d) (R T e i, l) = some (.inl (r2, l2)) ∧ Rs T e i (l1, p2) (l2, r2)
  | n, i, l, 0, _, _, _, _, _, _, hq, _ => absurd hq (by omega)
  | n, i, l, _, 0, _, _, _, _, _, _, hq => absurd hq (by omega)
  | n, i, l, q + 1, q' + 1, hn, hn0, hi, h6, hl, hq, hq' => by
    obtain ⟨q, rfl⟩ : ∃ z, q = z + 1 := ⟨q - 1, by omega⟩
    by_cases hfull : 3 ≤ l.length ∧ starts T i = true
    · have hd5 : d < 6 := by
        by_cases h : d = 6
        · have := h6 h; rw [this] at hfull; simp at hfull
        · omega
      have e1 := body75_full (T := T) (e := e) (i := i) (K := K) (d := d) (l := l) (by omega) ⟨⟨hfull.1, hd5⟩, hfull.2⟩ ⟨hd, by omega⟩ (by omega)
      have e2 := body84_full (T := T) (e := e) (i := i) (K := K') (d := d) (l := l) (by omega) hfull ⟨hd, by omega⟩ (by omega)
      refine ⟨l ++ [⟨5, 0, (tok T e i).fText, [], []⟩], l ++ [⟨0, 0, [], [], []⟩], _, _, _, ?_, p93e (i := i) (k := 5) (a := (tok T e i).fAt) (by omega), ?_, .er i 5 _ _ _ (by decide)⟩
      · unfold iter; rw [e1]; dsimp only; unfold iter; rw [body75_e]
      · unfold iter; rw [e2]
    · have hp : ¬ ((3 ≤ l.length ∧ d < 6) ∧ starts T i = true) := fun g => hfull ⟨g.1.1, g.2⟩
      obtain ⟨⟨v, p'⟩, ⟨w, r'⟩, f1, f2, f3, f4⟩ := h19 K K' i (d + 1) (by omega) hi (by omega) (by omega) hK hK'
      cases f3 with
      | er j k a v w hk =>
        have e1 := body75_ok (T := T) (e := e) (i := i) (K := K) (by omega) hp ⟨hd, by omega⟩ (by omega) f1 p39e
        have e2 := body84_ok (T := T) (e := e) (i := i) (K := K') (by omega) hfull ⟨hd, by omega⟩ (by omega) f2 (r45e hk) (r83e hk)
        refine ⟨l ++ [v], l ++ [w], _, _, _, ?_, p93e (i := j) (k := k) (a := a) (by omega), ?_, .er j k a _ _ hk⟩
        · unfold iter; rw [e1]; dsimp only; unfold iter; rw [body75_e]
        · unfold iter; rw [e2]; simp only [Bool.false_eq_true, if_false]
      | ok j v hj hl' =>
        have hd5 : d ≤ 5 := by
          by_cases h : d = 6
          · obtain ⟨_, _, _, h⟩ := f4 (by omega)
            unfold P PE at h
            simp at h
          · omega
        cases hc : hasL T j [[44]]
        · have e1 := body75_ok (T := T) (e := e) (i := i) (K := K) (by omega) hp ⟨hd, by omega⟩ (by omega) f1 (p39F hT (by omega) hc)
          have e2 := body84_ok (T := T) (e := e) (i := i) (K := K') (by omega) hfull ⟨hd, by omega⟩ (by omega) f2 (r45F hT hc) (r83 hT)
          refine ⟨l ++ [v], l ++ [v], P T e j, _, if hasL T j [[41]] = true then R T e (j + 1) else RE T e 3 (tok T e j).fAt, ?_, p93 hT (by omega), ?_, ?_⟩
          · unfold iter; rw [e1]; dsimp only; unfold iter; rw [body75_f]
          · unfold iter; rw [e2]; simp only [Bool.false_eq_true, if_false]
          · cases hr : hasL T j [[41]]
            · simp only [Bool.false_eq_true, if_false]
              exact .er _ _ _ _ _ (by decide)
            · have := hasL_lt hr
              simp only [if_true]
              exact .ok _ _ (by omega) (by omega)
        · have hj2 := hasL_lt hc
          have e1 := body75_ok (T := T) (e := e) (i := i) (K := K) (by omega) hp ⟨hd, by omega⟩ (by omega) f1 (p39T hT (by omega) hc)
          have e2 := body84_ok (T := T) (e := e) (i := i) (K := K') (by omega) hfull ⟨hd, by omega⟩ (by omega) f2 (r45T hT hc) (r83 hT)
          obtain ⟨l1, l2, p1, p2, r2, z1, z2, z3, z4⟩ := loop_x hT h19 K K' d hd hd6 hK hK' (n - 1) (j + 1) (l ++ [v]) (q + 1) q' (by omega) (by omega) (by omega) (fun h => by omega) (by simp; omega) (by omega) (by omega)
          refine ⟨l1, l2, p1, p2, r2, ?_, z2, ?_, z4.weak (by omega)⟩
          · conv => lhs; unfold iter
            rw [e1]; exact z1
          · unfold iter; rw [e2]; simp only [if_true]; exact z3
  termination_by n _ _ _ _ => n
def tail75 (K : Nat) (d n : Int) (nm s : Bytes) (p : S65) : Option ((S25 × S65) ⊕ (S25 × S65)) := (fnS (F39 K p ([41] : Bytes))).bind fun r4 => if r4.1 = true then some (.inl ((⟨13, n, nm, s, []⟩ : S25), r4.2)) else bindS (blockS ((iter K (body75 K d) (r4.2, [], true)).map .inl)) fun (u65 : S65 × (List S25)) => (fnS (F93 K u65.1 ([[41]] : List Bytes))).bind fun r126 => some (.inl ((⟨13, n, nm, s, u65.2⟩ : S25), r126))
def tail84 (K : Nat) (d n : Int) (nm s : Bytes) (p : S71) : Option ((S25 × S71) ⊕ (S25 × S71)) := (fnS (F45 K p ([41] : Bytes))).bind fun r4 => if r4.1 = true then some (.inl ((⟨13, n, nm, s, []⟩ : S25), r4.2)) else bindS (blockS ((iter K (body84 K d) (r4.2, [])).map .inl)) fun (u59 : S71 × (List S25)) => some (.inl ((⟨13, n, nm, s, u59.2⟩ : S25), u59.1))
theorem tail_bad {d n : Int} {nm s s' : Bytes} {j i0 : Nat} (hK : 200 ≤ K) (hK' : 200 ≤ K') (hk : k ≠ 0) : ∃ x y, fnS (tail75 K d n nm s (PE T e j k a)) = some x ∧ fnS (tail84 K' d n nm s' (RE T e k a)) = some y ∧ Rs T e i0 x y := by
  obtain ⟨q, hq⟩ : ∃ z, K = z + 1 := ⟨K - 1, by omega⟩
  obtain ⟨q', hq'⟩ : ∃ z, K' = z + 1 := ⟨K' - 1, by omega⟩
  have i1 : iter K (body75 K d) (PE T e j k a, [], true) = some (.inl (PE T e j k a, [])) := by
    have : ∀ z, iter (z + 1) (body75 K d) (PE T e j k a, [], true) = some (.inl (PE T e j k a, [])) := fun z => by unfold iter; rw [body75_e]
    have h := this q
    rwa [← hq] at h
  have i2 : iter K' (body84 K' d) (RE T e k a, []) = some (.inl (RE T e k a, [])) := by
    have : ∀ z, iter (z + 1) (body84 K' d) (RE T e k a, []) = some (.inl (RE T e k a, [])) := fun z => by unfold iter; rw [body84_e hk]
    have h := this q'
    rwa [← hq'] at h
  unfold tail75 tail84
  rw [p39e, r45e hk, Option.bind_some, Option.bind_some]
  simp only [Bool.false_eq_true, if_false]
  rw [i1, i2]
  simp only [Option.map_some, blockS_ll, bindS_r]
  rw [p93e (by omega)]
  exact ⟨_, _, rfl, rfl, .er j k a _ _ hk⟩
theorem called_x (hT : T.length ≤ 100000) {n0 : Nat} (h19 : Q19 T e n0) (K K' i : Nat) (d : Int) (e0 e1 : S25) (hk : e0.fKind = 13) (hN : e0.fN = e1.fN) (hM : e0.fName = e1.fName) (hn : T.length - i ≤ n0) (hi : i ≤ T.length) (hd : 1 ≤ d) (hd6 : d ≤ 6) (hK : 200 + 4 * n0 ≤ K) (hK' : 200 + 4 * n0 ≤ K') :
    ∃ x y, fnS (F75 (K + 1) (P T e i) e0 d) = some x ∧ fnS (F84 (K' + 1) (R T e i) e1 d) = some y ∧ Rs T e i x y := by
  rw [F75_eq, F84_eq, hk, hN, hM]
  show ∃ x y, fnS ((fnS (F93 K (P T e i) ([[46]] : List Bytes))).bind fun r1 => (fnS (F72 K r1)).bind fun r2 => (fnS (F93 K r2.2 ([[40]] : List Bytes))).bind fun r3 => tail75 K d e1.fN e1.fName r2.1 r3) = some x ∧
    fnS ((fnS (F83 K' (R T e i) ([46] : Bytes))).bind fun r1 => (fnS (F82 K' r1)).bind fun r2 => (fnS (F83 K' r2.2 ([40] : Bytes))).bind fun r3 => tail84 K' d e1.fN e1.fName r2.1 r3) = some y ∧ Rs T e i x y
  rw [p93 hT (by omega), r83 hT]
  cases h1 : hasL T i [[46]]
  · simp only [Option.bind_some, Bool.false_eq_true, if_false, p72e, r82e (k := 3) (by decide), p93e (show 100 < K by omega), r83e (k := 3) (by decide)]
    exact tail_bad (by omega) (by omega) (by decide)
  have l1 := hasL_lt h1
  simp only [Option.bind_some, if_true, p72' hT, r82 hT]
  cases h2 : hasK T (i + 1) 1
  · simp only [Option.bind_some, Bool.false_eq_true, if_false, p93e (show 100 < K by omega), r83e (k := 3) (by decide)]
    exact tail_bad (by omega) (by omega) (by decide)
  have l2 := hasK_lt h2
  simp only [Option.bind_some, if_true, p93 hT (show 100 < K by omega), r83 hT]
  cases h3 : hasL T (i + 1 + 1) [[40]]
  · simp only [Option.bind_some, Bool.false_eq_true, if_false]
    exact tail_bad (by omega) (by omega) (by decide)
  have l3 := hasL_lt h3
  simp only [Option.bind_some, if_true]
  unfold tail75 tail84
  cases h4 : hasL T (i + 1 + 1 + 1) [[41]]
  · rw [p39F hT (by omega) h4, r45F hT h4, Option.bind_some, Option.bind_some]
    simp only [Bool.false_eq_true, if_false]
    obtain ⟨m1, m2, p1, p2, r2, z1, z2, z3, z4⟩ := loop_x hT h19 K K' d hd hd6 hK hK' (n0 - 3) (i + 1 + 1 + 1) [] K K' (by omega) (by omega) (by omega) (fun _ => rfl) (by simp) (by omega) (by omega)
    rw [z1, z3]
    simp only [Option.map_some, blockS_ll, bindS_r]
    rw [z2]
    cases z4 with
    | er j k a v w hk => exact ⟨_, _, rfl, rfl, .er j k a _ _ hk⟩
    | ok j v hj hl => exact ⟨_, _, rfl, rfl, .ok j _ (by omega) hl⟩
  · have l4 := hasL_lt h4
    rw [p39T hT (by omega) h4, r45T hT h4, Option.bind_some, Option.bind_some]
    simp only [if_true]
    exact ⟨_, _, rfl, rfl, .ok _ _ (by omega) (by omega)⟩
end Go.Proofs.YtphnfaabcnciiaaGreatDoor.ex
