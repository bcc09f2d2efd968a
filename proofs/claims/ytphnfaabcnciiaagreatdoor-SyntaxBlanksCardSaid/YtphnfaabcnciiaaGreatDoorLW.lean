/- The printed functions of the lexer, in the words of the plain one. The next token, and all: the printed functions in the words of the plain lexer. All tokens of a text. All tokens of a text, with fuel enough. No conditions. -/
import Derived.Test.YtphnfaabcnciiaaGreatDoorLa
import Derived.Test.YtphnfaabcnciiaaGreatDoorLP
import Derived.Test.YtphnfaabcnciiaaGreatDoorLCw
set_option linter.unusedVariables false
set_option linter.unusedSimpArgs false
set_option linter.unusedSectionVars false
namespace Go.Proofs.YtphnfaabcnciiaaGreatDoor
open Go Go.Proofs Go.Dl
set_option maxRecDepth 100000

theorem byte_all {p : UInt8 → Bool} (h : (List.range 256).all (fun n => p (UInt8.ofNat n)) = true) (c : UInt8) : p c = true := by
  have := List.all_eq_true.1 h c.toNat (List.mem_range.2 c.toNat_lt)
  simpa using this

theorem drop_getDT {α : Type} (l : List α) (d : α) (n : Nat) (h : n < l.length) : l.drop n = l.getD n d :: l.drop (n + 1) := by
  rw [List.drop_eq_getElem_cons h]
  simp [List.getD, List.getElem?_eq_getElem h]

theorem iter_post {A T : Type} {f : T → Option (A ⊕ T)} (μ : T → Nat) (Q : T → A → Prop) (Inv : T → Prop)
    (h : ∀ t, Inv t → (∃ t', f t = some (.inr t') ∧ Inv t' ∧ μ t' < μ t ∧ ∀ a, Q t' a → Q t a) ∨ ∃ a, f t = some (.inl a) ∧ Q t a) : ∀ (K : Nat) (t : T), Inv t → μ t < K → ∃ a, iter K f t = some a ∧ Q t a
  | 0, t, _, hk => absurd hk (by omega)
  | K + 1, t, hi, hk => by
    unfold iter
    rcases h t hi with ⟨t', h1, h2, h3, h4⟩ | ⟨a, h1, h2⟩
    · rw [h1]
      simp only
      obtain ⟨a, h5, h6⟩ := iter_post μ Q Inv h K t' h2 (by omega)
      exact ⟨a, h5, h4 a h6⟩
    · rw [h1]; exact ⟨a, rfl, h2⟩

theorem iter_ctx {A T : Type} {f : T → Option (A ⊕ T)} {C : Option A → Prop} (μ : T → Nat) (Q : T → A → Prop) (Inv : T → Prop) {K : Nat} {t : T} (hi : Inv t) (hk : μ t < K)
    (h : ∀ t, Inv t → (∃ t', f t = some (.inr t') ∧ Inv t' ∧ μ t' < μ t ∧ ∀ a, Q t' a → Q t a) ∨ ∃ a, f t = some (.inl a) ∧ Q t a) (hC : ∀ a, Q t a → C (some a)) : C (iter K f t) := by
  obtain ⟨a, h1, h2⟩ := iter_post μ Q Inv h K t hi hk
  rw [h1]; exact hC a h2

theorem letter_eq (K : Nat) (b : UInt8) : fnS (F56 K b) = some (lx.isLetter b) := by
  have := byte_all (p := fun b => decide (fnS (F56 K b) = some (lx.isLetter b))) (by kernel_rfl) b
  simpa using this
theorem digit_eq (K : Nat) (b : UInt8) : fnS (F58 K b) = some (lx.isDigit b) := by
  have := byte_all (p := fun b => decide (fnS (F58 K b) = some (lx.isDigit b))) (by kernel_rfl) b
  simpa using this
theorem inner_eq (K : Nat) (b : UInt8) : fnS (F90 K b) = some (lx.isInner b) := by
  have := byte_all (p := fun b => decide (fnS (F90 K b) = some (lx.isInner b))) (by kernel_rfl) b
  simpa using this

theorem peek_eq (K : Nat) (src : Bytes) (a n : Nat) (tk : List S41) (h : a + n ≤ 1000000) : fnS (F53 K (⟨src, (a : Int), tk⟩ : S81) (n : Int)) = some (src.getD (a + n) 0, ⟨src, (a : Int), tk⟩) := by
  unfold F53
  have e : IntKind.i64.wrap ((a : Int) + (n : Int)) = ((a + n : Nat) : Int) := by rw [wrap64 (by omega) (by omega)]; simp
  simp only [letV]
  rw [e]
  by_cases hh : src.length ≤ a + n
  · rw [if_pos (by simp; omega)]
    have : src.getD (a + n) 0 = 0 := by simp [List.getD, List.getElem?_eq_none hh]
    rw [this]
    rfl
  · rw [if_neg (by simp; omega), chk_t (vs := []) (inb_nat (by omega)), chk_nil]
    rfl

/-- What a run of bytes does; for any test of bytes. -/
theorem run_gen (K : Nat) (src : Bytes) (a : Nat) (tk : List S41) (p : UInt8 → Bool) (hp : p 0 = false) (g : Nat → UInt8 → Option (Bool ⊕ Bool)) (hg : ∀ K b, fnS (g K b) = some (p b)) (ha : a ≤ src.length) (hl : src.length ≤ 500000) (hK : src.length + 1 < K) :
    iter K (fun (u18 : Bytes × Int × (List S41) × Int) => ((fnS (F53 K (⟨u18.1, u18.2.1, u18.2.2.1⟩ : S81) u18.2.2.2)).bind (fun r23 => ((fnS (g K r23.1)).bind (fun r24 => (if r24 = true then (bindS (blockS (some (.inr ((IntKind.i64.wrap (u18.2.2.2 + 1)))) : Option ((Int ⊕ ((Bytes × Int × (List S41) × Int) ⊕ (Bytes × S81))) ⊕ Int))) (fun (u25 : Int) => (some (.inr (r23.2.fsrc, r23.2.fat, r23.2.ftokens, u25))))) else (some (.inl (Sum.inl (r23.2.fsrc, r23.2.fat, r23.2.ftokens, u18.2.2.2)))))))))) (src, (a : Int), tk, 0) =
      some (Sum.inl (src, (a : Int), tk, (((src.drop a).takeWhile p).length : Int))) := by
  have := iter_run (f := fun (u18 : Bytes × Int × (List S41) × Int) => ((fnS (F53 K (⟨u18.1, u18.2.1, u18.2.2.1⟩ : S81) u18.2.2.2)).bind (fun r23 => ((fnS (g K r23.1)).bind (fun r24 => (if r24 = true then (bindS (blockS (some (.inr ((IntKind.i64.wrap (u18.2.2.2 + 1)))) : Option ((Int ⊕ ((Bytes × Int × (List S41) × Int) ⊕ (Bytes × S81))) ⊕ Int))) (fun (u25 : Int) => (some (.inr (r23.2.fsrc, r23.2.fat, r23.2.ftokens, u25))))) else (some (.inl (Sum.inl (r23.2.fsrc, r23.2.fat, r23.2.ftokens, u18.2.2.2))))))))))
    (fun t => src.length + 1 - (a + t.2.2.2.toNat)) (fun t => (Sum.inl (src, (a : Int), tk, (t.2.2.2.toNat : Int) + (((src.drop (a + t.2.2.2.toNat)).takeWhile p).length : Int)) : (Bytes × Int × (List S41) × Int) ⊕ (Bytes × S81)))
    (fun t => t.1 = src ∧ t.2.1 = (a : Int) ∧ t.2.2.1 = tk ∧ 0 ≤ t.2.2.2 ∧ a + t.2.2.2.toNat ≤ src.length) ?_ K (src, (a : Int), tk, 0) (by simp; omega) (by simp; omega)
  · rw [this]
    simp
  · rintro ⟨s', a', t', i⟩ ⟨g1, g2, g3, g4, g5⟩
    dsimp only at g1 g2 g3 g4 g5
    subst g1; subst g2; subst g3
    obtain ⟨n, rfl⟩ : ∃ n : Nat, i = (n : Int) := ⟨i.toNat, by omega⟩
    simp only [Int.toNat_natCast] at g5 ⊢
    rw [peek_eq K s' a n t' (by omega), Option.bind_some]
    dsimp only
    rw [hg, Option.bind_some]
    by_cases hn : a + n < s'.length
    · have hd := drop_getDT s' 0 (a + n) hn
      cases hb : p (s'.getD (a + n) 0) with
      | true =>
        left
        rw [if_pos rfl, blockS_r, bindS_r, wrap64 (by omega) (by omega)]
        refine ⟨_, rfl, ⟨rfl, rfl, rfl, by dsimp only; omega, by dsimp only; omega⟩, by dsimp only; omega, ?_⟩
        dsimp only
        have e1 : ((n : Int) + 1).toNat = n + 1 := by omega
        rw [e1, hd, List.takeWhile_cons, hb, if_pos rfl, show a + (n + 1) = a + n + 1 by omega]
        simp
        omega
      | false =>
        right
        rw [if_neg (by simp), hd, List.takeWhile_cons, hb, if_neg (by simp)]
        simp
    · right
      have h0 : s'.getD (a + n) 0 = 0 := by simp [List.getD, List.getElem?_eq_none (show s'.length ≤ a + n by omega)]
      rw [h0, hp, if_neg (by simp), List.drop_eq_nil_of_le (by omega)]
      simp

theorem run_inner (K : Nat) (src : Bytes) (a : Nat) (tk : List S41) (ha : a ≤ src.length) (hl : src.length ≤ 500000) (hK : src.length + 1 < K) :
    fnS (F89f90 K (⟨src, (a : Int), tk⟩ : S81)) = some ((src.drop a).takeWhile lx.isInner, ⟨src, (a : Int), tk⟩) := by
  unfold F89f90
  have h := run_gen K src a tk lx.isInner (by decide) F90 inner_eq ha hl hK
  have ht := (lx.takeWhile_take (p := lx.isInner) (src.drop a))
  have hlen := ht.2
  simp only [List.length_drop] at hlen
  dsimp only
  rw [h]
  show fnS (bindS (some (Sum.inr (src, (a : Int), tk, (((src.drop a).takeWhile lx.isInner).length : Int)))) _) = _
  rw [bindS_r]
  dsimp only
  have e : IntKind.i64.wrap ((a : Int) + (((src.drop a).takeWhile lx.isInner).length : Int)) = ((a + ((src.drop a).takeWhile lx.isInner).length : Nat) : Int) := by rw [wrap64 (by omega) (by omega)]; simp
  rw [e, chk_t (vs := []) (by simp [bndOk]; omega), chk_nil]
  simp only [letV, fnS, Int.toNat_natCast]
  rw [show a + ((src.drop a).takeWhile lx.isInner).length - a = ((src.drop a).takeWhile lx.isInner).length by omega, ← ht.1]

theorem run_digit (K : Nat) (src : Bytes) (a : Nat) (tk : List S41) (ha : a ≤ src.length) (hl : src.length ≤ 500000) (hK : src.length + 1 < K) :
    fnS (F89f58 K (⟨src, (a : Int), tk⟩ : S81)) = some ((src.drop a).takeWhile lx.isDigit, ⟨src, (a : Int), tk⟩) := by
  unfold F89f58
  have h := run_gen K src a tk lx.isDigit (by decide) F58 digit_eq ha hl hK
  have ht := (lx.takeWhile_take (p := lx.isDigit) (src.drop a))
  have hlen := ht.2
  simp only [List.length_drop] at hlen
  dsimp only
  rw [h]
  show fnS (bindS (some (Sum.inr (src, (a : Int), tk, (((src.drop a).takeWhile lx.isDigit).length : Int)))) _) = _
  rw [bindS_r]
  dsimp only
  have e : IntKind.i64.wrap ((a : Int) + (((src.drop a).takeWhile lx.isDigit).length : Int)) = ((a + ((src.drop a).takeWhile lx.isDigit).length : Nat) : Int) := by rw [wrap64 (by omega) (by omega)]; simp
  rw [e, chk_t (vs := []) (by simp [bndOk]; omega), chk_nil]
  simp only [letV, fnS, Int.toNat_natCast]
  rw [show a + ((src.drop a).takeWhile lx.isDigit).length - a = ((src.drop a).takeWhile lx.isDigit).length by omega, ← ht.1]

end Go.Proofs.YtphnfaabcnciiaaGreatDoor

set_option linter.unusedVariables false
set_option linter.unusedSimpArgs false
set_option linter.unusedSectionVars false
namespace Go.Proofs.YtphnfaabcnciiaaGreatDoor
open Go Go.Proofs Go.Dl
set_option maxRecDepth 100000

def tokF (src : Bytes) (a : Nat) (tk : List S41) (k : Int) (x : Bytes) (n : Int) : Err × S81 :=
  if 1500 ≤ tk.length then ([(5, (a : Int))], ⟨src, (a : Int), tk⟩) else ([], ⟨src, ((a + x.length : Nat) : Int), tk ++ [⟨k, x, n, (a : Int)⟩]⟩)
def outR (src : Bytes) (a : Nat) (tk : List S41) : lx.Res → Err × S81
  | .skip n => ([], ⟨src, ((a + n : Nat) : Int), tk⟩)
  | .err c => ([(c, (a : Int))], ⟨src, (a : Int), tk⟩)
  | .tok k x n => tokF src a tk k x n

theorem token_eq (K : Nat) (src : Bytes) (a : Nat) (tk : List S41) (k : Int) (x : Bytes) (n : Int) (ha : a ≤ 1000000) (hx : x.length ≤ 1000000) : fnS (F55 K (⟨src, (a : Int), tk⟩ : S81) k x n) = some (tokF src a tk k x n) := by
  unfold F55 tokF
  simp only [letV]
  by_cases h : 1500 ≤ tk.length
  · rw [if_pos (by simp; omega), if_pos h]; rfl
  · have e : IntKind.i64.wrap ((a : Int) + Int.ofNat x.length) = ((a + x.length : Nat) : Int) := by rw [wrap64 (by simp; omega) (by simp; omega)]; simp
    rw [if_neg (by simp; omega), if_neg h, chk_t (vs := []) (room_le (by simp; omega)), chk_nil, e]; rfl

theorem index_eq (K : Nat) (l : List Bytes) (x : Bytes) (hl : l.length ≤ 1000000) (hK : l.length < K) : ∃ i, fnS (F42 K l x) = some i ∧ (0 ≤ i ↔ x ∈ l) := by
  unfold F42
  simp only [letV]
  refine iter_ctx (C := fun o => ∃ i, fnS (bindS (blockS (o.map .inl)) _) = some i ∧ (0 ≤ i ↔ x ∈ l)) (fun t : Int => l.length - t.toNat)
    (fun t (a : Unit ⊕ Int) => (∃ i, a = .inr i ∧ 0 ≤ i ∧ x ∈ l.drop t.toNat) ∨ (a = .inl () ∧ x ∉ l.drop t.toNat)) (fun t => 0 ≤ t ∧ t.toNat ≤ l.length) (by simp) (by simpa using hK) ?_ ?_
  · rintro i ⟨g1, g2⟩
    obtain ⟨y, hy⟩ : ∃ y, y = l.getD i.toNat default := ⟨_, rfl⟩
    rw [← hy]
    obtain ⟨n, rfl⟩ : ∃ n : Nat, i = (n : Int) := ⟨i.toNat, by omega⟩
    simp only [Int.toNat_natCast] at g2 hy ⊢
    by_cases hn : n < l.length
    · have hd := drop_getDT l default n hn
      rw [if_pos (c := decide _ = true) (by simp; omega), chk_t (vs := []) (inb_nat hn), chk_nil, hd, ← hy]
      by_cases hx : x = y
      · right
        rw [if_pos (by simpa using hx)]
        exact ⟨_, rfl, .inl ⟨_, rfl, by omega, by rw [hx]; exact List.mem_cons_self ..⟩⟩
      · left
        rw [if_neg (by simpa using hx)]
        refine ⟨((n + 1 : Nat) : Int), ?_, ⟨by omega, by simp; omega⟩, by simp; omega, ?_⟩
        · rw [blockS_r, bindS_r, wrap64 (by omega) (by omega)]; rfl
        · intro a ha
          simp only [Int.toNat_natCast] at ha
          rcases ha with ⟨j, h1, h2, h3⟩ | ⟨h1, h2⟩
          · exact .inl ⟨j, h1, h2, List.mem_cons_of_mem _ h3⟩
          · exact .inr ⟨h1, fun h => (List.mem_cons.1 h).elim hx h2⟩
    · right
      rw [if_neg (c := decide _ = true) (by simp; omega), List.drop_eq_nil_of_le (by omega)]
      exact ⟨_, rfl, .inr ⟨rfl, by simp⟩⟩
  · rintro a (⟨i, rfl, h1, h2⟩ | ⟨rfl, h2⟩)
    · exact ⟨i, rfl, fun _ => h2, fun _ => h1⟩
    · exact ⟨-1, rfl, fun h => absurd h (by decide), fun h => absurd h h2⟩

theorem keys_ascii : lx.keysB.length < 4294967281 ∧ lx.keysB.all (fun b => decide (b.toNat < 128)) = true := ⟨of_decide_eq_true (by kernel_rfl), by kernel_rfl⟩
theorem keys_len : lx.keysL.length ≤ 1000 := by
  have : decide (lx.keysL.length ≤ 1000) = true := by kernel_rfl
  simpa using this

theorem keys_eq (K : Nat) : fnS (F107 K) = some lx.keysL := by
  unfold F107
  have e : fnS (F122 K lx.keysB) = some (Lib.fields lx.keysB) := by
    unfold F122
    rw [if_pos keys_ascii]; rfl
  show fnS ((fnS (F122 K lx.keysB)).bind _) = _
  rw [e]; rfl

theorem iskey_eq (K : Nat) (x : Bytes) (hK : 1001 < K) : fnS (F91 K x) = some (lx.isKey x) := by
  unfold F91 F60
  have hl := keys_len
  rw [keys_eq, Option.bind_some]
  obtain ⟨i, h1, h2⟩ := index_eq K lx.keysL x (by omega) (by omega)
  rw [h1, Option.bind_some]
  show some (decide (i ≥ 0)) = _
  congr 1
  unfold lx.isKey
  rw [Bool.eq_iff_iff, decide_eq_true_eq, decide_eq_true_eq]
  exact h2

theorem word_eq (K : Nat) (src : Bytes) (a : Nat) (tk : List S41) (ha : a ≤ src.length) (hl : src.length ≤ 500000) (hK : src.length + 1001 < K) :
    fnS (F57 K (⟨src, (a : Int), tk⟩ : S81)) = some (outR src a tk (lx.wordR (src.drop a))) := by
  unfold F57 lx.wordR
  rw [run_inner K src a tk ha hl (by omega), Option.bind_some]
  have ht := (lx.takeWhile_take (p := lx.isInner) (src.drop a)).2
  simp only [List.length_drop] at ht
  generalize (src.drop a).takeWhile lx.isInner = s at *
  simp only [letV]
  by_cases h1 : s = [82, 69, 65, 76] ∨ s = [76, 82, 69, 65, 76]
  · rw [if_pos (by simpa using h1), if_pos h1]; rfl
  · rw [if_neg (by simpa using h1), if_neg h1, iskey_eq K s (by omega), Option.bind_some]
    by_cases h2 : lx.isKey s = true
    · rw [if_pos h2, if_pos h2, token_eq K src a tk 2 s 0 (by omega) (by omega)]; rfl
    · rw [if_neg h2, if_neg h2]
      by_cases h3 : 12 < s.length
      · rw [if_pos (by simp; omega), if_pos h3]; rfl
      · rw [if_neg (by simp; omega), if_neg h3, blockS_r, bindS_r, token_eq K src a tk 1 s 0 (by omega) (by omega)]; rfl

theorem number_eq (K : Nat) (src : Bytes) (a : Nat) (tk : List S41) (ha : a ≤ src.length) (hl : src.length ≤ 500000) (hK : src.length + 1001 < K) :
    fnS (F59 K (⟨src, (a : Int), tk⟩ : S81)) = some (outR src a tk (lx.numR (src.drop a))) := by
  unfold F59 lx.numR
  rw [run_digit K src a tk ha hl (by omega), Option.bind_some]
  have ht := (lx.takeWhile_take (p := lx.isDigit) (src.drop a)).2
  simp only [List.length_drop] at ht
  generalize (src.drop a).takeWhile lx.isDigit = s at *
  have e34 : fnS (F92 K s) = some (match Lib.atoiAll s with | .ok n => (n, false) | .range => (Lib.atoiSat s, true) | _ => (0, true)) := by
    unfold F92
    rw [if_pos (by omega)]; rfl
  dsimp only
  rw [e34, Option.bind_some]
  simp only [letV]
  cases ha2 : Lib.atoiAll s with
  | range => rfl
  | ok n =>
    dsimp +instances only
    by_cases h : 5 < s.length ∨ 32768 < n
    · rw [if_pos (c := (_ || _) = true) (by simp; omega), if_pos h]; rfl
    · rw [if_neg (c := (_ || _) = true) (by simp; omega), if_neg h, token_eq K src a tk 3 s n (by omega) (by omega)]; rfl
  | _ => rfl

theorem comment_eq (K : Nat) (src : Bytes) (a : Nat) (tk : List S41) (ha : a + 2 ≤ src.length) (hl : src.length ≤ 500000) :
    fnS (F54 K (⟨src, (a : Int), tk⟩ : S81)) = some (outR src a tk (lx.comR (src.drop a))) := by
  unfold F54 lx.comR
  have e : IntKind.i64.wrap ((a : Int) + 2) = ((a + 2 : Nat) : Int) := by rw [wrap64 (by omega) (by omega)]; simp
  dsimp only
  rw [e, chk_t (vs := []) (by simp [bndOk]; omega), chk_nil]
  simp only [letV, Int.toNat_natCast, condM_t]
  have ed : (src.drop (a + 2)).take ((Int.ofNat src.length : Int).toNat - (a + 2)) = (src.drop a).drop 2 := by
    rw [List.drop_drop, List.take_of_length_le (by simp)]
  rw [ed]
  have e31 : fnS (F88 K ((src.drop a).drop 2) ([42, 41] : Bytes)) = some (Lib.index ((src.drop a).drop 2) [42, 41]) := by
    unfold F88
    rw [if_pos (by simp; omega)]; rfl
  rw [e31, Option.bind_some, lx.comE_index]
  cases hc : lx.comE ((src.drop a).drop 2) with
  | none => rfl
  | some n =>
    have h1 := lx.comE_le _ _ hc
    have h2 := lx.comE_index.comE_ge _ _ hc
    simp only [List.length_drop] at h1
    dsimp only
    have e2 : IntKind.i64.wrap ((n : Int) - 2 + 4) = ((n + 2 : Nat) : Int) := by rw [wrap64 (by omega) (by omega)]; omega
    have e3 : IntKind.i64.wrap ((a : Int) + ((n + 2 : Nat) : Int)) = ((a + (n + 2) : Nat) : Int) := by rw [wrap64 (by omega) (by omega)]; omega
    rw [if_neg (by simp; omega), e2, e3]
    rfl

/-- A byte held against a number. -/
theorem byte_is (b k : UInt8) : ((Int.ofNat b.toNat : Int) == Int.ofNat k.toNat) = decide (b = k) := by
  rw [Bool.eq_iff_iff, beq_iff_eq, decide_eq_true_eq]
  constructor
  · intro h; exact UInt8.toNat_inj.1 (Int.ofNat.inj h)
  · rintro rfl; rfl

theorem next_eq (K : Nat) (src : Bytes) (a : Nat) (tk : List S41) (ha : a < src.length) (hl : src.length ≤ 500000) (hK : src.length + 1001 < K) :
    fnS (F28 K (⟨src, (a : Int), tk⟩ : S81)) = some (outR src a tk (lx.step (src.drop a))) := by
  have p0 : fnS (F53 K (⟨src, (a : Int), tk⟩ : S81) 0) = some (src.getD a 0, ⟨src, (a : Int), tk⟩) := peek_eq K src a 0 tk (by omega)
  have p1 : fnS (F53 K (⟨src, (a : Int), tk⟩ : S81) 1) = some (src.getD (a + 1) 0, ⟨src, (a : Int), tk⟩) := peek_eq K src a 1 tk (by omega)
  have hd := drop_getDT src 0 a ha
  have hst : lx.step (src.drop a) = lx.stepB (src.getD a 0) (src.getD (a + 1) 0) (src.drop a) := by
    unfold lx.step
    have h1 : (src.drop a).headD 0 = src.getD a 0 := by rw [hd]; rfl
    have h2 : (src.drop a).tail.headD 0 = src.getD (a + 1) 0 := by
      rw [hd, List.tail_cons]
      by_cases h : a + 1 < src.length
      · rw [drop_getDT src 0 (a + 1) h]; rfl
      · rw [List.drop_eq_nil_of_le (by omega)]; simp [List.getD, List.getElem?_eq_none (show src.length ≤ a + 1 by omega)]
    rw [h1, h2]
  have hc2 : src.getD (a + 1) 0 ≠ 0 → a + 2 ≤ src.length := by
    intro h
    by_cases hh : a + 1 < src.length
    · omega
    · exact absurd (by simp [List.getD, List.getElem?_eq_none (show src.length ≤ a + 1 by omega)]) h
  have h2 : ∀ c, src.getD (a + 1) 0 = c → c ≠ 0 → (src.drop a).take 2 = [src.getD a 0, c] := by
    intro c h h0
    have := hc2 (by rw [h]; exact h0)
    rw [hd, drop_getDT src 0 (a + 1) (by omega), h]; rfl
  rw [hst]
  unfold F28
  rw [p0, Option.bind_some, p1, Option.bind_some]
  dsimp +instances only [letV]
  clear p0 p1 hst
  have hlt := letter_eq K (src.getD a 0)
  have hdg := digit_eq K (src.getD a 0)
  have hw := word_eq K src a tk (by omega) hl hK
  have hn := number_eq K src a tk (by omega) hl hK
  have hcm := fun h => comment_eq K src a tk h hl
  generalize src.getD a 0 = b at *
  generalize src.getD (a + 1) 0 = c at *
  have htk : ∀ x : Bytes, x.length ≤ 2 → fnS (F55 K (⟨src, (a : Int), tk⟩ : S81) 4 x 0) = some (tokF src a tk 4 x 0) := fun x hx => token_eq K src a tk 4 x 0 (by omega) (by omega)
  have e1 : IntKind.i64.wrap ((a : Int) + 1) = ((a + 1 : Nat) : Int) := by rw [wrap64 (by omega) (by omega)]; simp
  have e2 : IntKind.i64.wrap ((a : Int) + 2) = ((a + 2 : Nat) : Int) := by rw [wrap64 (by omega) (by omega)]; simp
  have hs2 : ∀ d, c = d → d ≠ 0 → (bndOk src.length (a : Int) (IntKind.i64.wrap ((a : Int) + 2)) = true) ∧
      ((src.drop (a : Int).toNat).take ((IntKind.i64.wrap ((a : Int) + 2)).toNat - (a : Int).toNat) = [b, d]) := by
    intro d hcd hd0
    subst hcd
    have := hc2 hd0
    refine ⟨by rw [e2]; simp [bndOk]; omega, ?_⟩
    rw [e2]
    simp only [Int.toNat_natCast]
    rw [show a + 2 - a = 2 by omega]
    exact h2 c rfl hd0
  unfold lx.stepB
  by_cases h0 : b = 32 ∨ b = 9 ∨ b = 10 ∨ b = 13
  · rw [if_pos h0, e1]
    rcases h0 with rfl | rfl | rfl | rfl <;> rfl
  rw [if_neg h0]
  by_cases h40 : b = 40
  · rw [if_pos h40]
    subst h40
    by_cases hc : c = 42
    · rw [if_pos hc]
      subst hc
      rw [hcm (hc2 (by decide))]
      generalize outR src a tk (lx.comR (src.drop a)) = o
      obtain ⟨o1, o2⟩ := o
      rfl
    · rw [if_neg hc]
      have hcc : ((Int.ofNat c.toNat : Int) == 42) = false := (byte_is c 42).trans (decide_eq_false hc)
      rw [hcc, htk [40] (by simp)]
      show _ = some (tokF src a tk 4 [40] 0)
      generalize tokF src a tk 4 [40] 0 = o
      obtain ⟨o1, o2⟩ := o
      rfl
  rw [if_neg h40]
  have done : ∀ x : Bytes, ∀ f : (Err × S81) → Option ((Err × S81) ⊕ (Err × S81)), (∀ o, f o = some (.inl o)) → fnS (f (tokF src a tk 4 x 0)) = some (outR src a tk (.tok 4 x 0)) := by
    intro x f h
    rw [h]; rfl
  by_cases h3 : b = 58 ∨ b = 63 ∨ b = 62
  · rw [if_pos h3]
    by_cases hc : c = 61
    · rw [if_pos hc]
      obtain ⟨q1, q2⟩ := hs2 61 hc (by decide)
      subst hc
      have hx := htk [b, 61] (by simp)
      have hch : ∀ {α : Type} (m : Option α), chk [bndOk src.length (a : Int) (IntKind.i64.wrap ((a : Int) + 2))] m = m := fun m => by rw [chk_t (vs := []) q1, chk_nil]
      rw [q2, hx, hch, hch]
      show _ = some (tokF src a tk 4 [b, 61] 0)
      generalize tokF src a tk 4 [b, 61] 0 = o
      obtain ⟨o1, o2⟩ := o
      rcases h3 with rfl | rfl | rfl <;> rfl
    · rw [if_neg hc]
      have hcc : ((Int.ofNat c.toNat : Int) == 61) = false := (byte_is c 61).trans (decide_eq_false hc)
      by_cases h63 : b = 63
      · rw [if_pos h63]
        subst h63
        rw [hcc]; rfl
      · rw [if_neg h63, hcc, htk [b] (by simp)]
        show _ = some (tokF src a tk 4 [b] 0)
        generalize tokF src a tk 4 [b] 0 = o
        obtain ⟨o1, o2⟩ := o
        rcases h3 with rfl | h3 | rfl
        · rfl
        · exact absurd h3 h63
        · rfl
  rw [if_neg h3]
  by_cases h60 : b = 60
  · rw [if_pos h60]
    subst h60
    by_cases hc : c = 61 ∨ c = 62
    · rw [if_pos hc]
      have hc0 : c ≠ 0 := by rcases hc with rfl | rfl <;> decide
      obtain ⟨q1, q2⟩ := hs2 c rfl hc0
      have hx := htk [60, c] (by simp)
      have hch : ∀ {α : Type} (m : Option α), chk [bndOk src.length (a : Int) (IntKind.i64.wrap ((a : Int) + 2))] m = m := fun m => by rw [chk_t (vs := []) q1, chk_nil]
      rw [q2, hx, hch, hch]
      show _ = some (tokF src a tk 4 [60, c] 0)
      generalize tokF src a tk 4 [60, c] 0 = o
      obtain ⟨o1, o2⟩ := o
      rcases hc with rfl | rfl <;> rfl
    · rw [if_neg hc]
      have hc1 : ((Int.ofNat c.toNat : Int) == 61) = false := (byte_is c 61).trans (decide_eq_false fun h => hc (.inl h))
      have hc2' : ((Int.ofNat c.toNat : Int) == 62) = false := (byte_is c 62).trans (decide_eq_false fun h => hc (.inr h))
      rw [hc1, hc2', htk [60] (by simp)]
      show _ = some (tokF src a tk 4 [60] 0)
      generalize tokF src a tk 4 [60] 0 = o
      obtain ⟨o1, o2⟩ := o
      rfl
  rw [if_neg h60]
  by_cases h46 : b = 46
  · rw [if_pos h46]
    subst h46
    by_cases hc : c = 46
    · rw [if_pos hc]
      subst hc
      rw [htk [46, 46] (by simp)]
      show _ = some (tokF src a tk 4 [46, 46] 0)
      generalize tokF src a tk 4 [46, 46] 0 = o
      obtain ⟨o1, o2⟩ := o
      rfl
    · rw [if_neg hc]
      have hcc : ((Int.ofNat c.toNat : Int) == 46) = false := (byte_is c 46).trans (decide_eq_false hc)
      rw [hcc, htk [46] (by simp)]
      show _ = some (tokF src a tk 4 [46] 0)
      generalize tokF src a tk 4 [46] 0 = o
      obtain ⟨o1, o2⟩ := o
      rfl
  rw [if_neg h46]
  by_cases hp : b ∈ lx.plains
  · rw [if_pos hp, htk [b] (by simp)]
    show _ = some (tokF src a tk 4 [b] 0)
    generalize tokF src a tk 4 [b] 0 = o
    obtain ⟨o1, o2⟩ := o
    unfold lx.plains at hp
    simp only [List.mem_cons, List.not_mem_nil, or_false] at hp
    rcases hp with rfl | rfl | rfl | rfl | rfl | rfl | rfl | rfl | rfl | rfl <;> rfl
  rw [if_neg hp]
  -- no sign
  unfold lx.plains at hp
  simp only [List.mem_cons, List.not_mem_nil, or_false, not_or] at hp h0 h3
  have no : ∀ k : UInt8, b ≠ k → ((Int.ofNat b.toNat : Int) == Int.ofNat k.toNat) = false := fun k h => (byte_is b k).trans (decide_eq_false h)
  have n32 : ((Int.ofNat b.toNat : Int) == 32) = false := no 32 h0.1
  have n9 : ((Int.ofNat b.toNat : Int) == 9) = false := no 9 h0.2.1
  have n10 : ((Int.ofNat b.toNat : Int) == 10) = false := no 10 h0.2.2.1
  have n13 : ((Int.ofNat b.toNat : Int) == 13) = false := no 13 h0.2.2.2
  have n40 : ((Int.ofNat b.toNat : Int) == 40) = false := no 40 h40
  have n58 : ((Int.ofNat b.toNat : Int) == 58) = false := no 58 h3.1
  have n63 : ((Int.ofNat b.toNat : Int) == 63) = false := no 63 h3.2.1
  have n62 : ((Int.ofNat b.toNat : Int) == 62) = false := no 62 h3.2.2
  have n60 : ((Int.ofNat b.toNat : Int) == 60) = false := no 60 h60
  have n46 : ((Int.ofNat b.toNat : Int) == 46) = false := no 46 h46
  have n43 : ((Int.ofNat b.toNat : Int) == 43) = false := no 43 hp.1
  have n45 : ((Int.ofNat b.toNat : Int) == 45) = false := no 45 hp.2.1
  have n42 : ((Int.ofNat b.toNat : Int) == 42) = false := no 42 hp.2.2.1
  have n47 : ((Int.ofNat b.toNat : Int) == 47) = false := no 47 hp.2.2.2.1
  have n61 : ((Int.ofNat b.toNat : Int) == 61) = false := no 61 hp.2.2.2.2.1
  have n41 : ((Int.ofNat b.toNat : Int) == 41) = false := no 41 hp.2.2.2.2.2.1
  have n91 : ((Int.ofNat b.toNat : Int) == 91) = false := no 91 hp.2.2.2.2.2.2.1
  have n93 : ((Int.ofNat b.toNat : Int) == 93) = false := no 93 hp.2.2.2.2.2.2.2.1
  have n44 : ((Int.ofNat b.toNat : Int) == 44) = false := no 44 hp.2.2.2.2.2.2.2.2.1
  have n59 : ((Int.ofNat b.toNat : Int) == 59) = false := no 59 hp.2.2.2.2.2.2.2.2.2
  rw [n32, n9, n10, n13, n40, n58, n63, n62, n60, n46, n43, n45, n42, n47, n61, n41, n91, n93, n44, n59, hlt, hdg]
  cases lx.isLetter b with
  | true =>
    rw [if_pos (c := true = true) rfl, hw]
    show _ = some (outR src a tk (lx.wordR (src.drop a)))
    generalize outR src a tk (lx.wordR (src.drop a)) = o
    obtain ⟨o1, o2⟩ := o
    rfl
  | false =>
    rw [if_neg (c := false = true) (by simp)]
    cases lx.isDigit b with
    | true =>
      rw [if_pos (c := true = true) rfl, hn]
      show _ = some (outR src a tk (lx.numR (src.drop a)))
      generalize outR src a tk (lx.numR (src.drop a)) = o
      obtain ⟨o1, o2⟩ := o
      rfl
    | false =>
      rw [if_neg (c := false = true) (by simp)]
      rfl

end Go.Proofs.YtphnfaabcnciiaaGreatDoor

set_option linter.unusedVariables false
set_option linter.unusedSimpArgs false
set_option linter.unusedSectionVars false
namespace Go.Proofs.YtphnfaabcnciiaaGreatDoor
open Go Go.Proofs Go.Dl
set_option maxRecDepth 100000

theorem all_eq (K : Nat) (s : Bytes) (hl : s.length ≤ 100000) (hK : 200000 < K) : fnS (F12 K s) = some (lx.allF s) := by
  unfold F12 lx.allF
  simp only [letV]
  by_cases h0 : 6000 < s.length
  · rw [if_pos (by simp; omega), if_pos h0]; rfl
  · rw [if_neg (by simp; omega), if_neg h0]
    refine iter_ctx (C := fun o => fnS (bindS (blockS (o.map .inl)) _) = some _) (fun t : Bytes × Int × List S41 => s.length - t.2.1.toNat)
      (fun t (a : (Bytes × Int × List S41) ⊕ ((List S41) × Err)) => match lx.lexL (s.drop t.2.1.toNat) t.2.1.toNat t.2.2 with
        | .inl tk => ∃ x y, a = .inl (x, y, tk)
        | .inr (c, b) => a = .inr ([], [(c, (b : Int))]))
      (fun t => t.1 = s ∧ 0 ≤ t.2.1 ∧ t.2.1.toNat ≤ s.length) (by simp) (by simp; omega) ?_ ?_
    · rintro ⟨s', i, tk⟩ ⟨g1, g2, g3⟩
      dsimp +instances only at g1 g2 g3 ⊢
      subst g1
      obtain ⟨n, rfl⟩ : ∃ n : Nat, i = (n : Int) := ⟨i.toNat, by omega⟩
      simp only [Int.toNat_natCast] at g3 ⊢
      by_cases hn : n < s'.length
      · rw [if_pos (c := decide _ = true) (by simp; omega), next_eq K s' n tk hn (by omega) (by omega), Option.bind_some]
        have hne : s'.drop n ≠ [] := by
          intro e
          have := congrArg List.length e
          simp at this; omega
        have hf := lx.fits hne
        cases hst : lx.step (s'.drop n) with
        | err c =>
          right
          rw [lx.lexL_err hne hst]
          refine ⟨_, ?_, rfl⟩
          rfl
        | skip k =>
          left
          rw [hst] at hf
          obtain ⟨h1, h2⟩ := hf
          simp only [List.length_drop] at h2
          rw [lx.lexL_skip hne hst]
          refine ⟨(s', ((n + k : Nat) : Int), tk), rfl, ⟨rfl, by dsimp only; omega, by dsimp only; omega⟩, by dsimp only; omega, fun a ha => ?_⟩
          simp only [Int.toNat_natCast] at ha
          rw [List.drop_drop]
          exact ha
        | tok q x k =>
          rw [hst] at hf
          obtain ⟨h1, _, h3, _⟩ := hf
          simp only [List.length_drop] at h3
          have h4 : 1 ≤ x.length := by cases x with | nil => exact absurd rfl h1 | cons b r => simp
          rw [lx.lexL_tok hne hst]
          by_cases h15 : 1500 ≤ tk.length
          · right
            rw [if_pos h15]
            have e : outR s' n tk (.tok q x k) = ([(5, (n : Int))], ⟨s', (n : Int), tk⟩) := by
              show tokF _ _ _ _ _ _ = _
              unfold tokF
              rw [if_pos h15]
            rw [e]
            exact ⟨_, rfl, rfl⟩
          · left
            rw [if_neg h15]
            have e : outR s' n tk (.tok q x k) = ([], ⟨s', ((n + x.length : Nat) : Int), tk ++ [⟨q, x, k, (n : Int)⟩]⟩) := by
              show tokF _ _ _ _ _ _ = _
              unfold tokF
              rw [if_neg h15]
            rw [e]
            refine ⟨(s', ((n + x.length : Nat) : Int), tk ++ [⟨q, x, k, (n : Int)⟩]), rfl, ⟨rfl, by dsimp only; omega, by dsimp only; omega⟩, by dsimp only; omega, fun a ha => ?_⟩
            simp only [Int.toNat_natCast] at ha
            rw [List.drop_drop]
            exact ha
      · right
        rw [if_neg (c := decide _ = true) (by simp; omega), List.drop_eq_nil_of_le (by omega), lx.lexL_nil]
        exact ⟨_, rfl, _, _, rfl⟩
    · intro a ha
      have ha' : match lx.lexL s 0 [] with
        | .inl tk => ∃ x y, a = .inl (x, y, tk)
        | .inr (c, b) => a = .inr ([], [(c, (b : Int))]) := ha
      have hfold : lx.lexA (s.length + 1) s 0 [] = lx.lexL s 0 [] := rfl
      rw [hfold]
      cases hx : lx.lexL s 0 [] with
      | inl tk =>
        rw [hx] at ha'
        obtain ⟨x, y, rfl⟩ := ha'
        rfl
      | inr r =>
        obtain ⟨c, b⟩ := r
        rw [hx] at ha'
        subst ha'
        rfl

end Go.Proofs.YtphnfaabcnciiaaGreatDoor

set_option linter.unusedVariables false
set_option linter.unusedSimpArgs false
set_option linter.unusedSectionVars false
namespace Go.Proofs.YtphnfaabcnciiaaGreatDoor
open Go Go.Proofs Go.Dl
theorem all_eqA (K : Nat) (s : Bytes) (hK : 200000 < K) : fnS (F12 K s) = some (lx.allF s) := by
  by_cases h : s.length ≤ 100000
  · exact all_eq K s h hK
  · unfold F12 lx.allF
    simp only [letV]
    rw [if_pos (by simp; omega), if_pos (by omega)]; rfl
end Go.Proofs.YtphnfaabcnciiaaGreatDoor
