/- Tokens: the plain lexer. Tokens: where they stand; two texts with a blank between: plain. Tokens that are written with blanks, or comments, between: plain. No conditions. -/
import Derived.Test.YtphnfaabcnciiaaGreatDoorTyA
import Derived.Lib.AtoiAllCases
import Derived.Lib.IndexMore
import Derived.Lib.FieldsLaws
import Derived.KernelRfl
set_option linter.unusedVariables false
set_option linter.unusedSimpArgs false
set_option linter.unusedSectionVars false
namespace Go.Proofs.YtphnfaabcnciiaaGreatDoor.lx
open Go Go.Dl

abbrev Bs := List UInt8

def isLetter (b : UInt8) : Bool := (decide (97 ≤ b.toNat) && decide (b.toNat ≤ 122)) || (decide (65 ≤ b.toNat) && decide (b.toNat ≤ 90))
def isDigit (b : UInt8) : Bool := decide (48 ≤ b.toNat) && decide (b.toNat ≤ 57)
def isInner (b : UInt8) : Bool := isLetter b || isDigit b || decide (b.toNat = 95)

def keysB : Bs := [73, 78, 84, 69, 82, 70, 65, 67, 69, 32, 69, 78, 68, 95, 73, 78, 84, 69, 82, 70, 65, 67, 69, 32, 67, 76, 65, 83, 83, 32, 69, 78, 68, 95, 67, 76, 65, 83, 83, 32, 80, 82, 79, 71, 82, 65, 77, 32, 69, 78, 68, 95, 80, 82, 79, 71, 82, 65, 77, 32, 77, 69, 84, 72, 79, 68, 32, 69, 78, 68, 95, 77, 69, 84, 72, 79, 68, 32, 84, 65, 83, 75, 32, 73, 78, 84, 69, 82, 86, 65, 76, 32, 80, 82, 73, 79, 82, 73, 84, 89, 32, 69, 88, 84, 69, 78, 68, 83, 32, 73, 77, 80, 76, 69, 77, 69, 78, 84, 83, 32, 65, 66, 83, 84, 82, 65, 67, 84, 32, 70, 73, 78, 65, 76, 32, 79, 86, 69, 82, 82, 73, 68, 69, 32, 86, 65, 82, 32, 65, 84, 32, 73, 78, 32, 79, 85, 84, 32, 73, 78, 84, 32, 66, 79, 79, 76, 32, 82, 69, 65, 76, 32, 76, 82, 69, 65, 76, 32, 65, 82, 82, 65, 89, 32, 79, 70, 32, 82, 69, 70, 95, 84, 79, 32, 82, 69, 70, 32, 84, 79, 78, 32, 84, 79, 70, 32, 84, 80, 32, 67, 84, 85, 32, 67, 84, 68, 32, 82, 95, 84, 82, 73, 71, 32, 70, 95, 84, 82, 73, 71, 32, 84, 82, 85, 69, 32, 70, 65, 76, 83, 69, 32, 78, 85, 76, 76, 32, 84, 72, 73, 83, 32, 83, 85, 80, 69, 82, 32, 65, 83, 32, 78, 79, 84, 32, 65, 78, 68, 32, 79, 82, 32, 88, 79, 82, 32, 77, 79, 68, 32, 73, 70, 32, 84, 72, 69, 78, 32, 69, 76, 83, 73, 70, 32, 69, 76, 83, 69, 32, 69, 78, 68, 95, 73, 70, 32, 67, 65, 83, 69, 32, 69, 78, 68, 95, 67, 65, 83, 69, 32, 87, 72, 73, 76, 69, 32, 68, 79, 32, 69, 78, 68, 95, 87, 72, 73, 76, 69, 32, 70, 79, 82, 32, 84, 79, 32, 66, 89, 32, 69, 78, 68, 95, 70, 79, 82, 32, 82, 69, 84, 85, 82, 78, 32, 69, 88, 73, 84, 32, 83, 84, 69, 80, 32, 68, 79, 78, 69, 32, 67, 79, 85, 78, 84]
def keysL : List Bs := Lib.fields keysB
def isKey (s : Bs) : Bool := decide (s ∈ keysL)

/-- What stands at the head of a text. -/
inductive Res where
  | skip (n : Nat)
  | err (c : Int)
  | tok (k : Int) (t : Bs) (n : Int)

def wordR (l : Bs) : Res :=
  let s := l.takeWhile isInner
  if s = [82, 69, 65, 76] ∨ s = [76, 82, 69, 65, 76] then .err 2
  else if isKey s = true then .tok 2 s 0
  else if 12 < s.length then .err 1
  else .tok 1 s 0

def numR (l : Bs) : Res :=
  let s := l.takeWhile isDigit
  match Lib.atoiAll s with
  | .ok n => if 5 < s.length ∨ 32768 < n then .err 1 else .tok 3 s n
  | _ => .err 1

/-- The place behind the end of a comment. -/
def comE : Bs → Option Nat
  | [] => none
  | a :: r => if a = 42 ∧ r.headD 0 = 41 then some 2 else (comE r).map (· + 1)

def comR (l : Bs) : Res := match comE (l.drop 2) with
  | some n => .skip (n + 2)
  | none => .err 1

def plains : List UInt8 := [43, 45, 42, 47, 61, 41, 91, 93, 44, 59]

def stepB (b c : UInt8) (l : Bs) : Res :=
  if b = 32 ∨ b = 9 ∨ b = 10 ∨ b = 13 then .skip 1
  else if b = 40 then (if c = 42 then comR l else .tok 4 [40] 0)
  else if b = 58 ∨ b = 63 ∨ b = 62 then (if c = 61 then .tok 4 [b, 61] 0 else if b = 63 then .err 1 else .tok 4 [b] 0)
  else if b = 60 then (if c = 61 ∨ c = 62 then .tok 4 [60, c] 0 else .tok 4 [60] 0)
  else if b = 46 then (if c = 46 then .tok 4 [46, 46] 0 else .tok 4 [46] 0)
  else if b ∈ plains then .tok 4 [b] 0
  else if isLetter b = true then wordR l
  else if isDigit b = true then numR l
  else .err 1

def step (l : Bs) : Res := stepB (l.headD 0) (l.tail.headD 0) l

abbrev Tok := S41
def lexA : Nat → Bs → Nat → List Tok → (List Tok) ⊕ (Int × Nat)
  | 0, _, _, t => .inl t
  | k + 1, l, at', t => if l = [] then .inl t else match step l with
    | .skip n => lexA k (l.drop n) (at' + n) t
    | .err c => .inr (c, at')
    | .tok q x n => if 1500 ≤ t.length then .inr (5, at') else lexA k (l.drop x.length) (at' + x.length) (t ++ [⟨q, x, n, at'⟩])

def allF (s : Bs) : List Tok × Err :=
  if 6000 < s.length then ([], [(5, 6000)]) else match lexA (s.length + 1) s 0 [] with
    | .inl t => (t, [])
    | .inr (c, a) => ([], [(c, (a : Int))])

/-- What a step takes is there, and is something. -/
def Fits (l : Bs) : Res → Prop
  | .skip n => 1 ≤ n ∧ n ≤ l.length
  | .err _ => True
  | .tok k t n => t ≠ [] ∧ t = l.take t.length ∧ t.length ≤ l.length ∧ 1 ≤ k ∧ k ≤ 4 ∧ ((k == 2) = isKey t)

theorem takeWhile_take {p : UInt8 → Bool} : ∀ l : Bs, l.takeWhile p = l.take (l.takeWhile p).length ∧ (l.takeWhile p).length ≤ l.length
  | [] => ⟨rfl, Nat.le_refl _⟩
  | b :: r => by
    have ih := takeWhile_take (p := p) r
    rw [List.takeWhile_cons]
    split
    · exact ⟨by rw [List.length_cons, List.take_succ_cons, ← ih.1], by simp only [List.length_cons]; omega⟩
    · exact ⟨rfl, Nat.zero_le _⟩

theorem comE_index : ∀ l : Bs, Lib.index l [42, 41] = match comE l with | some n => (n : Int) - 2 | none => -1
  | [] => by simp [Lib.index, comE]
  | a :: r => by
    have ih := comE_index r
    unfold Lib.index comE
    by_cases h : a = 42 ∧ r.headD 0 = 41
    · rw [if_pos h]
      obtain ⟨rfl, h2⟩ := h
      cases r with
      | nil => simp at h2
      | cons c t =>
        simp only [List.headD_cons] at h2
        subst h2
        simp
    · rw [if_neg h, if_neg ?_]
      · rw [ih]
        have h2 : ∀ n, comE r = some n → 2 ≤ n := comE_ge r
        cases hc : comE r with
        | none => simp
        | some n =>
          have := h2 n hc
          simp only [Option.map_some]
          rw [if_neg (by simp; omega)]
          show (n : Int) - 2 + 1 = ((n + 1 : Nat) : Int) - 2
          omega
      · intro e
        apply h
        cases r with
        | nil => simp at e
        | cons c t =>
          simp at e
          exact ⟨e.1.symm, e.2.symm⟩
where
  comE_ge : ∀ (r : Bs) (n : Nat), comE r = some n → 2 ≤ n
    | [], n, h => by cases h
    | a :: r, n, h => by
      unfold comE at h
      split at h
      · cases h; exact Nat.le_refl _
      · cases hc : comE r with
        | none => rw [hc] at h; cases h
        | some m =>
          rw [hc] at h
          have := comE_ge r m hc
          simp only [Option.map_some, Option.some.injEq] at h
          omega

theorem comE_le : ∀ (r : Bs) (n : Nat), comE r = some n → n ≤ r.length
  | [], n, h => by cases h
  | a :: r, n, h => by
    unfold comE at h
    split at h
    · rename_i hc
      cases h
      cases r with
      | nil => simp at hc
      | cons b t => simp
    · cases hc : comE r with
      | none => rw [hc] at h; cases h
      | some m =>
        rw [hc] at h
        have := comE_le r m hc
        simp only [Option.map_some, Option.some.injEq] at h
        simp only [List.length_cons]
        omega

theorem letter_inner {b : UInt8} (h : isLetter b = true) : isInner b = true := by simp [isInner, h]

/-- What a step takes is there, and is something. -/
theorem fits {l : Bs} (hl : l ≠ []) : Fits l (step l) := by
  cases l with
  | nil => exact absurd rfl hl
  | cons b r =>
    have hword : isLetter b = true → Fits (b :: r) (wordR (b :: r)) := by
      intro hb
      have ht := takeWhile_take (p := isInner) (b :: r)
      have hne : (b :: r).takeWhile isInner ≠ [] := by
        rw [List.takeWhile_cons, if_pos (letter_inner hb)]; simp
      unfold wordR
      dsimp only
      split
      · trivial
      · split
        · rename_i hk
          exact ⟨hne, ht.1, ht.2, by omega, by omega, by rw [hk]; rfl⟩
        · rename_i hk
          split
          · trivial
          · refine ⟨hne, ht.1, ht.2, by omega, by omega, ?_⟩
            cases hh : isKey ((b :: r).takeWhile isInner) with
            | true => exact absurd hh hk
            | false => rfl
    have nokey : ∀ t : Bs, (t.headD 0).toNat < 65 ∨ 90 < (t.headD 0).toNat → isKey t = false := by
      intro t h
      unfold isKey
      rw [decide_eq_false_iff_not]
      intro hm
      have hall : ∀ x ∈ keysL, 65 ≤ (x.headD 0).toNat ∧ (x.headD 0).toNat ≤ 90 := by
        have : keysL.all (fun x => decide (65 ≤ (x.headD 0).toNat ∧ (x.headD 0).toNat ≤ 90)) = true := by kernel_rfl
        intro x hx
        have := List.all_eq_true.1 this x hx
        simpa using this
      have := hall t hm
      omega
    have hnum : isDigit b = true → Fits (b :: r) (numR (b :: r)) := by
      intro hb
      have ht := takeWhile_take (p := isDigit) (b :: r)
      have hcons : (b :: r).takeWhile isDigit = b :: r.takeWhile isDigit := by rw [List.takeWhile_cons, if_pos hb]
      unfold numR
      dsimp only
      cases Lib.atoiAll ((b :: r).takeWhile isDigit) with
      | range => trivial
      | ok n =>
        dsimp only
        split
        · trivial
        · refine ⟨by rw [hcons]; simp, ht.1, ht.2, by omega, by omega, ?_⟩
          rw [nokey _ (by rw [hcons]; simp [isDigit] at hb ⊢; omega)]
          rfl
      | _ => trivial
    have one : ∀ q : Bs, (q = [b] ∨ (∃ c, q = [b, c] ∧ r.head? = some c)) → (b.toNat < 65 ∨ 90 < b.toNat) → Fits (b :: r) (.tok 4 q 0) := by
      intro q hq hb
      rcases hq with rfl | ⟨c, rfl, hc⟩
      · exact ⟨by simp, by simp, by simp, by omega, by omega, by rw [nokey _ (by simpa using hb)]; rfl⟩
      · cases r with
        | nil => cases hc
        | cons d t =>
          simp only [List.head?_cons, Option.some.injEq] at hc
          subst hc
          exact ⟨by simp, by simp, by simp, by omega, by omega, by rw [nokey _ (by simpa using hb)]; rfl⟩
    have hd : ∀ c, c ≠ 0 → r.headD 0 = c → r.head? = some c := by
      intro c hc h
      cases r with
      | nil => simp at h; exact absurd h.symm hc
      | cons d t => simpa using h
    have hst : step (b :: r) = stepB b (r.headD 0) (b :: r) := rfl
    rw [hst]
    unfold stepB
    by_cases h0 : b = 32 ∨ b = 9 ∨ b = 10 ∨ b = 13
    · rw [if_pos h0]; exact ⟨by omega, by simp⟩
    rw [if_neg h0]
    by_cases h40 : b = 40
    · rw [if_pos h40]
      subst h40
      by_cases hc : r.headD 0 = 42
      · rw [if_pos hc]
        unfold comR
        cases hc : comE ((40 :: r).drop 2) with
        | none => trivial
        | some n =>
          have := comE_le _ _ hc
          have h2 := comE_index.comE_ge _ _ hc
          simp only [List.length_drop] at this
          exact ⟨by omega, by omega⟩
      · rw [if_neg hc]; exact one _ (.inl rfl) (by decide)
    rw [if_neg h40]
    by_cases h3 : b = 58 ∨ b = 63 ∨ b = 62
    · rw [if_pos h3]
      have hb : b.toNat < 65 ∨ 90 < b.toNat := by rcases h3 with rfl | rfl | rfl <;> decide
      by_cases h61 : r.headD 0 = 61
      · rw [if_pos h61]; exact one _ (.inr ⟨61, rfl, hd _ (by decide) h61⟩) hb
      · rw [if_neg h61]
        by_cases h63 : b = 63
        · rw [if_pos h63]; trivial
        · rw [if_neg h63]; exact one _ (.inl rfl) hb
    rw [if_neg h3]
    by_cases h60 : b = 60
    · rw [if_pos h60]
      subst h60
      by_cases hc : r.headD 0 = 61 ∨ r.headD 0 = 62
      · rw [if_pos hc]; exact one _ (.inr ⟨_, rfl, hd _ (by rcases hc with h | h <;> rw [h] <;> decide) rfl⟩) (by decide)
      · rw [if_neg hc]; exact one _ (.inl rfl) (by decide)
    rw [if_neg h60]
    by_cases h46 : b = 46
    · rw [if_pos h46]
      subst h46
      by_cases hc : r.headD 0 = 46
      · rw [if_pos hc]; exact one _ (.inr ⟨46, rfl, hd _ (by decide) hc⟩) (by decide)
      · rw [if_neg hc]; exact one _ (.inl rfl) (by decide)
    rw [if_neg h46]
    by_cases hp : b ∈ plains
    · rw [if_pos hp]
      refine one _ (.inl rfl) ?_
      have : plains.all (fun b => decide (b.toNat < 65 ∨ 90 < b.toNat)) = true := by decide
      have := List.all_eq_true.1 this b hp
      simpa using this
    rw [if_neg hp]
    by_cases hlt : isLetter b = true
    · rw [if_pos hlt]; exact hword hlt
    rw [if_neg hlt]
    by_cases hdg : isDigit b = true
    · rw [if_pos hdg]; exact hnum hdg
    rw [if_neg hdg]
    trivial

/-! The whole text. -/

theorem lexA_fuel : ∀ (k k' : Nat) (l : Bs) (a : Nat) (t : List Tok), l.length < k → l.length < k' → lexA k l a t = lexA k' l a t
  | 0, _, _, _, _, h, _ => absurd h (by omega)
  | _ + 1, 0, _, _, _, _, h => absurd h (by omega)
  | k + 1, k' + 1, l, a, t, h, h' => by
    unfold lexA
    by_cases hl : l = []
    · rw [if_pos hl, if_pos hl]
    · rw [if_neg hl, if_neg hl]
      have hf := fits hl
      cases hs : step l with
      | err c => rfl
      | skip n =>
        rw [hs] at hf
        obtain ⟨h1, h2⟩ := hf
        exact lexA_fuel k k' _ _ _ (by simp; omega) (by simp; omega)
      | tok q x n =>
        rw [hs] at hf
        obtain ⟨h1, _, h3, _⟩ := hf
        have h4 : 1 ≤ x.length := by cases x with | nil => exact absurd rfl h1 | cons b r => simp
        dsimp only
        split
        · rfl
        · exact lexA_fuel k k' _ _ _ (by simp; omega) (by simp; omega)

/-- The tokens of a text that stands at a place, behind others. -/
def lexL (l : Bs) (a : Nat) (t : List Tok) : (List Tok) ⊕ (Int × Nat) := lexA (l.length + 1) l a t

theorem lexL_nil (a : Nat) (t : List Tok) : lexL [] a t = .inl t := rfl
theorem lexL_skip {l : Bs} {n : Nat} (hl : l ≠ []) (h : step l = .skip n) (a : Nat) (t : List Tok) : lexL l a t = lexL (l.drop n) (a + n) t := by
  have hf := fits hl
  rw [h] at hf
  unfold lexL
  rw [lexA, if_neg hl, h]
  exact lexA_fuel _ _ _ _ _ (by simp; have := hf.1; have := hf.2; omega) (by simp)
theorem lexL_err {l : Bs} {c : Int} (hl : l ≠ []) (h : step l = .err c) (a : Nat) (t : List Tok) : lexL l a t = .inr (c, a) := by
  unfold lexL
  rw [lexA, if_neg hl, h]
theorem lexL_tok {l x : Bs} {q n : Int} (hl : l ≠ []) (h : step l = .tok q x n) (a : Nat) (t : List Tok) :
    lexL l a t = if 1500 ≤ t.length then .inr (5, a) else lexL (l.drop x.length) (a + x.length) (t ++ [⟨q, x, n, a⟩]) := by
  have hf := fits hl
  rw [h] at hf
  obtain ⟨h1, _, h3, _⟩ := hf
  have h4 : 1 ≤ x.length := by cases x with | nil => exact absurd rfl h1 | cons b r => simp
  unfold lexL
  rw [lexA, if_neg hl, h]
  dsimp only
  split
  · rfl
  · exact lexA_fuel _ _ _ _ _ (by simp; omega) (by simp)

/-- One that goes along a text: a rule for what holds of its tokens. -/
theorem lexL_rec (Q : Bs → Nat → List Tok → (List Tok) ⊕ (Int × Nat) → Prop)
    (h0 : ∀ a t, Q [] a t (.inl t))
    (hs : ∀ l n a t r, l ≠ [] → step l = .skip n → Q (l.drop n) (a + n) t r → Q l a t r)
    (he : ∀ l c a t, l ≠ [] → step l = .err c → Q l a t (.inr (c, a)))
    (hf : ∀ l q x n a t, l ≠ [] → step l = .tok q x n → 1500 ≤ t.length → Q l a t (.inr (5, a)))
    (ht : ∀ l q x n a t r, l ≠ [] → step l = .tok q x n → t.length < 1500 → Q (l.drop x.length) (a + x.length) (t ++ [⟨q, x, n, a⟩]) r → Q l a t r) :
    ∀ (l : Bs) (a : Nat) (t : List Tok), Q l a t (lexL l a t) := by
  intro l
  induction hn : l.length using Nat.strongRecOn generalizing l with
  | ind k ih =>
    intro a t
    by_cases hl : l = []
    · subst hl; rw [lexL_nil]; exact h0 a t
    · have hfit := fits hl
      cases hst : step l with
      | err c => rw [lexL_err hl hst]; exact he l c a t hl hst
      | skip n =>
        rw [hst] at hfit
        rw [lexL_skip hl hst]
        exact hs l n a t _ hl hst (ih _ (by rw [← hn]; simp; have := hfit.1; have := hfit.2; omega) _ rfl _ _)
      | tok q x n =>
        rw [hst] at hfit
        obtain ⟨h1, _, h3, _⟩ := hfit
        have h4 : 1 ≤ x.length := by cases x with | nil => exact absurd rfl h1 | cons b r => simp
        rw [lexL_tok hl hst]
        by_cases hc : 1500 ≤ t.length
        · rw [if_pos hc]; exact hf l q x n a t hl hst hc
        · rw [if_neg hc]
          exact ht l q x n a t _ hl hst (by omega) (ih _ (by rw [← hn]; simp; omega) _ rfl _ _)

end Go.Proofs.YtphnfaabcnciiaaGreatDoor.lx

set_option linter.unusedVariables false
set_option linter.unusedSimpArgs false
set_option linter.unusedSectionVars false
namespace Go.Proofs.YtphnfaabcnciiaaGreatDoor.lx
open Go Go.Dl

/-! Where tokens stand. -/

structure GoodT (s : Bs) (x : Tok) (a : Nat) : Prop where
  at' : x.fAt = (a : Int)
  ne : x.fText ≠ []
  fit : a + x.fText.length ≤ s.length
  text : (s.drop a).take x.fText.length = x.fText
  k1 : 1 ≤ x.fKind
  k4 : x.fKind ≤ 4
  key : (x.fKind == 2) = isKey x.fText

def GoodL (s : Bs) : Nat → List Tok → Nat → Prop
  | e, [], e' => e ≤ e'
  | e, x :: r, e' => ∃ a : Nat, e ≤ a ∧ GoodT s x a ∧ GoodL s (a + x.fText.length) r e'

theorem GoodL.snoc {s : Bs} {y : Tok} {a : Nat} (hy : GoodT s y a) : ∀ {t : List Tok} {e e1 : Nat}, GoodL s e t e1 → e1 ≤ a → GoodL s e (t ++ [y]) (a + y.fText.length)
  | [], e, e1, h, ha => ⟨a, Nat.le_trans h ha, hy, Nat.le_refl _⟩
  | x :: r, e, e1, ⟨b, h1, h2, h3⟩, ha => ⟨b, h1, h2, GoodL.snoc hy h3 ha⟩

theorem GoodL.weak {s : Bs} : ∀ {t : List Tok} {e e1 e2 : Nat}, GoodL s e t e1 → e1 ≤ e2 → GoodL s e t e2
  | [], e, e1, e2, h, ha => Nat.le_trans h ha
  | x :: r, e, e1, e2, ⟨b, h1, h2, h3⟩, ha => ⟨b, h1, h2, GoodL.weak h3 ha⟩

theorem step_err {l : Bs} {c : Int} (h : step l = .err c) : c = 1 ∨ c = 2 := by
  have hw : ∀ l : Bs, wordR l = .err c → c = 1 ∨ c = 2 := by
    intro l h
    unfold wordR at h
    dsimp only at h
    split at h
    · cases h; exact .inr rfl
    · split at h
      · cases h
      · split at h
        · cases h; exact .inl rfl
        · cases h
  have hn : ∀ l : Bs, numR l = .err c → c = 1 ∨ c = 2 := by
    intro l h
    unfold numR at h
    dsimp only at h
    split at h
    · split at h
      · cases h; exact .inl rfl
      · cases h
    · cases h; exact .inl rfl
  have hc : ∀ l : Bs, comR l = .err c → c = 1 ∨ c = 2 := by
    intro l h
    unfold comR at h
    split at h
    · cases h
    · cases h; exact .inl rfl
  unfold step at h
  generalize l.headD 0 = b at h
  generalize l.tail.headD 0 = d at h
  unfold stepB at h
  repeat' split at h
  all_goals first
    | (cases h; done)
    | (cases h; exact .inl rfl)
    | exact hw _ h
    | exact hn _ h
    | exact hc _ h

theorem places (s : Bs) : ∀ (l : Bs) (a : Nat) (t : List Tok), l = s.drop a → a ≤ s.length → GoodL s 0 t a → t.length ≤ 1500 →
    (match lexL l a t with
    | .inl t' => t'.length ≤ 1500 ∧ ∃ e, GoodL s 0 t' e
    | .inr (c, a') => (c = 1 ∨ c = 2 ∨ c = 5) ∧ a' < s.length) := by
  refine lexL_rec (fun l a t r => l = s.drop a → a ≤ s.length → GoodL s 0 t a → t.length ≤ 1500 → match r with
    | .inl t' => t'.length ≤ 1500 ∧ ∃ e, GoodL s 0 t' e
    | .inr (c, a') => (c = 1 ∨ c = 2 ∨ c = 5) ∧ a' < s.length) ?_ ?_ ?_ ?_ ?_
  · intro a t _ _ hg hl
    exact ⟨hl, a, hg⟩
  · intro l n a t r hl hst ih he ha hg ht
    have hf := fits hl
    rw [hst] at hf
    have hlen : l.length = s.length - a := by rw [he]; simp
    refine ih (by rw [he, List.drop_drop]) (by have := hf.2; omega) (hg.weak (by omega)) ht
  · intro l c a t hl hst he ha hg ht
    have hlen : l.length = s.length - a := by rw [he]; simp
    have : 1 ≤ l.length := by cases l with | nil => exact absurd rfl hl | cons b r => simp
    refine ⟨?_, by omega⟩
    rcases step_err hst with h | h
    · exact .inl h
    · exact .inr (.inl h)
  · intro l q x n a t hl hst _ he ha hg ht
    have hlen : l.length = s.length - a := by rw [he]; simp
    have : 1 ≤ l.length := by cases l with | nil => exact absurd rfl hl | cons b r => simp
    exact ⟨.inr (.inr rfl), by omega⟩
  · intro l q x n a t r hl hst h15 ih he ha hg ht
    have hf := fits hl
    rw [hst] at hf
    obtain ⟨h1, h2, h3, h4, h5, h6⟩ := hf
    have hlen : l.length = s.length - a := by rw [he]; simp
    have hl1 : 1 ≤ l.length := by cases l with | nil => exact absurd rfl hl | cons b r => simp
    have hy : GoodT s ⟨q, x, n, a⟩ a := ⟨rfl, h1, by dsimp only; omega, by dsimp only; rw [← he]; exact h2.symm, h4, h5, h6⟩
    refine ih (by rw [he, List.drop_drop]) (by omega) (GoodL.snoc hy hg (Nat.le_refl _)) (by simp; omega)

/-! Two texts, with a blank between. -/

end Go.Proofs.YtphnfaabcnciiaaGreatDoor.lx

set_option linter.unusedVariables false
set_option linter.unusedSimpArgs false
set_option linter.unusedSectionVars false
namespace Go.Proofs.YtphnfaabcnciiaaGreatDoor.lx
open Go Go.Dl

def blanks : List Bs := [[32], [32, 40, 42, 32, 59, 32, 42, 41, 10]]

/-- A token that is one: some text has it at its head. -/
def Is (k : Int) (x : Bs) (n : Int) : Prop := ∃ l, l ≠ [] ∧ step l = .tok k x n

/-- What a blank begins with. -/
def Sep (c : UInt8) : Prop := c = 32 ∨ c = 9 ∨ c = 10 ∨ c = 13 ∨ c = 40

theorem takeWhile_all {p : UInt8 → Bool} : ∀ l : Bs, ∀ x ∈ l.takeWhile p, p x = true
  | [], x, h => by cases h
  | b :: r, x, h => by
    rw [List.takeWhile_cons] at h
    split at h
    · rename_i hb
      rcases List.mem_cons.1 h with rfl | h
      · exact hb
      · exact takeWhile_all r x h
    · cases h

theorem takeWhile_own {p : UInt8 → Bool} {c : UInt8} (hc : p c = false) : ∀ (x u : Bs), (∀ y ∈ x, p y = true) → (x ++ c :: u).takeWhile p = x
  | [], u, _ => by simp [List.takeWhile_cons, hc]
  | b :: r, u, h => by
    rw [List.cons_append, List.takeWhile_cons, if_pos (h b (List.mem_cons_self ..)), takeWhile_own hc r u (fun y hy => h y (List.mem_cons_of_mem _ hy))]

theorem sep_no {c : UInt8} (h : Sep c) : isInner c = false ∧ isDigit c = false ∧ c ≠ 42 ∧ c ≠ 61 ∧ c ≠ 62 ∧ c ≠ 46 := by
  rcases h with rfl | rfl | rfl | rfl | rfl <;> exact ⟨by decide, by decide, by decide, by decide, by decide, by decide⟩

theorem step_is {k : Int} {x : Bs} {n : Int} (h : Is k x n) {c : UInt8} (hc : Sep c) (u : Bs) : step (x ++ c :: u) = .tok k x n := by
  obtain ⟨l, hl, hst⟩ := h
  obtain ⟨q1, q2, q3, q4, q5, q6⟩ := sep_no hc
  cases l with
  | nil => exact absurd rfl hl
  | cons b r =>
    have e1 : step (b :: r) = stepB b (r.headD 0) (b :: r) := rfl
    rw [e1] at hst
    generalize hd : r.headD 0 = d at hst
    have hone : ∀ b : UInt8, step ([b] ++ c :: u) = stepB b c (b :: c :: u) := fun _ => rfl
    have htwo : ∀ b d : UInt8, step ([b, d] ++ c :: u) = stepB b d (b :: d :: c :: u) := fun _ _ => rfl
    unfold stepB at hst
    by_cases h0 : b = 32 ∨ b = 9 ∨ b = 10 ∨ b = 13
    · rw [if_pos h0] at hst; cases hst
    rw [if_neg h0] at hst
    by_cases h40 : b = 40
    · rw [if_pos h40] at hst
      subst h40
      by_cases hd42 : d = 42
      · rw [if_pos hd42] at hst
        unfold comR at hst
        split at hst <;> cases hst
      · rw [if_neg hd42] at hst
        cases hst
        rw [hone]; unfold stepB
        rw [if_neg h0, if_pos rfl, if_neg q3]
    rw [if_neg h40] at hst
    by_cases h3 : b = 58 ∨ b = 63 ∨ b = 62
    · rw [if_pos h3] at hst
      by_cases h61 : d = 61
      · rw [if_pos h61] at hst
        cases hst
        rw [htwo]; unfold stepB
        rw [if_neg h0, if_neg h40, if_pos h3, if_pos rfl]
      · rw [if_neg h61] at hst
        by_cases h63 : b = 63
        · rw [if_pos h63] at hst; cases hst
        · rw [if_neg h63] at hst
          cases hst
          rw [hone]; unfold stepB
          rw [if_neg h0, if_neg h40, if_pos h3, if_neg q4, if_neg h63]
    rw [if_neg h3] at hst
    by_cases h60 : b = 60
    · rw [if_pos h60] at hst
      subst h60
      by_cases hd2 : d = 61 ∨ d = 62
      · rw [if_pos hd2] at hst
        cases hst
        rw [htwo]; unfold stepB
        rw [if_neg h0, if_neg h40, if_neg h3, if_pos rfl, if_pos hd2]
      · rw [if_neg hd2] at hst
        cases hst
        rw [hone]; unfold stepB
        rw [if_neg h0, if_neg h40, if_neg h3, if_pos rfl, if_neg (fun e => e.elim q4 q5)]
    rw [if_neg h60] at hst
    by_cases h46 : b = 46
    · rw [if_pos h46] at hst
      subst h46
      by_cases hd46 : d = 46
      · rw [if_pos hd46] at hst
        cases hst
        rw [htwo]; unfold stepB
        rw [if_neg h0, if_neg h40, if_neg h3, if_neg h60, if_pos rfl, if_pos rfl]
      · rw [if_neg hd46] at hst
        cases hst
        rw [hone]; unfold stepB
        rw [if_neg h0, if_neg h40, if_neg h3, if_neg h60, if_pos rfl, if_neg q6]
    rw [if_neg h46] at hst
    by_cases hp : b ∈ plains
    · rw [if_pos hp] at hst
      cases hst
      rw [hone]; unfold stepB
      rw [if_neg h0, if_neg h40, if_neg h3, if_neg h60, if_neg h46, if_pos hp]
    rw [if_neg hp] at hst
    by_cases hlt : isLetter b = true
    · rw [if_pos hlt] at hst
      -- a word
      have hall := takeWhile_all (p := isInner) (b :: r)
      have hcons : (b :: r).takeWhile isInner = b :: r.takeWhile isInner := by rw [List.takeWhile_cons, if_pos (letter_inner hlt)]
      have hx : x = (b :: r).takeWhile isInner := by
        unfold wordR at hst
        dsimp only at hst
        split at hst
        · cases hst
        · split at hst
          · cases hst; rfl
          · split at hst <;> cases hst
            rfl
      have hxc : x = b :: r.takeWhile isInner := hx.trans hcons
      have hst2 : step (x ++ c :: u) = wordR (x ++ c :: u) := by
        rw [hxc]
        show stepB b ((r.takeWhile isInner ++ c :: u).headD 0) (b :: (r.takeWhile isInner ++ c :: u)) = wordR (b :: (r.takeWhile isInner ++ c :: u))
        unfold stepB
        rw [if_neg h0, if_neg h40, if_neg h3, if_neg h60, if_neg h46, if_neg hp, if_pos hlt]
      rw [hst2, ← hst]
      unfold wordR
      rw [takeWhile_own q1 x u (fun y hy => by rw [hx] at hy; exact hall y hy), ← hx]
    rw [if_neg hlt] at hst
    by_cases hdg : isDigit b = true
    · rw [if_pos hdg] at hst
      have hall := takeWhile_all (p := isDigit) (b :: r)
      have hcons : (b :: r).takeWhile isDigit = b :: r.takeWhile isDigit := by rw [List.takeWhile_cons, if_pos hdg]
      have hx : x = (b :: r).takeWhile isDigit := by
        unfold numR at hst
        dsimp only at hst
        split at hst
        · split at hst
          · cases hst
          · cases hst; rfl
        · cases hst
      have hxc : x = b :: r.takeWhile isDigit := hx.trans hcons
      have hst2 : step (x ++ c :: u) = numR (x ++ c :: u) := by
        rw [hxc]
        show stepB b ((r.takeWhile isDigit ++ c :: u).headD 0) (b :: (r.takeWhile isDigit ++ c :: u)) = numR (b :: (r.takeWhile isDigit ++ c :: u))
        unfold stepB
        rw [if_neg h0, if_neg h40, if_neg h3, if_neg h60, if_neg h46, if_neg hp, if_neg hlt, if_pos hdg]
      rw [hst2, ← hst]
      unfold numR
      rw [takeWhile_own q2 x u (fun y hy => by rw [hx] at hy; exact hall y hy), ← hx]
    rw [if_neg hdg] at hst
    cases hst

/-- Blanks are gone over. -/
theorem lex_blank {bl : Bs} (hb : bl ∈ blanks) (u : Bs) (a : Nat) (t : List Tok) : lexL (bl ++ u) a t = lexL u (a + bl.length) t := by
  have one : ∀ (b : UInt8) (v : Bs) (a : Nat), (b = 32 ∨ b = 9 ∨ b = 10 ∨ b = 13) → lexL (b :: v) a t = lexL v (a + 1) t := by
    intro b v a h
    have hst : step (b :: v) = .skip 1 := by
      show stepB b (v.headD 0) (b :: v) = _
      unfold stepB
      rw [if_pos h]
    rw [lexL_skip (by simp) hst]; rfl
  have com : ∀ (w v : Bs) (a n : Nat), comE (w ++ v) = some n → n = w.length → lexL (40 :: 42 :: (w ++ v)) a t = lexL v (a + (n + 2)) t := by
    intro w v a n h hn
    have hst : step (40 :: 42 :: (w ++ v)) = .skip (n + 2) := by
      show stepB 40 42 (40 :: 42 :: (w ++ v)) = _
      unfold stepB comR
      rw [if_neg (by decide), if_pos rfl, if_pos rfl]
      show (match comE (w ++ v) with | some n => Res.skip (n + 2) | none => Res.err 1) = _
      rw [h]
    rw [lexL_skip (by simp) hst]
    subst hn
    congr 1
    show (w ++ v).drop w.length = v
    simp
  unfold blanks at hb
  simp only [List.mem_cons, List.not_mem_nil, or_false] at hb
  rcases hb with rfl | rfl
  · exact one 32 u a (by decide)
  · show lexL (32 :: 40 :: 42 :: ([32, 59, 32, 42, 41] ++ 10 :: u)) a t = _
    rw [one 32 _ a (by decide), com [32, 59, 32, 42, 41] (10 :: u) (a + 1) 5 rfl rfl, one 10 _ _ (by decide)]; rfl

theorem blank_sep {bl : Bs} (hb : bl ∈ blanks) : ∃ c v, bl = c :: v ∧ Sep c := by
  unfold blanks at hb
  simp only [List.mem_cons, List.not_mem_nil, or_false] at hb
  rcases hb with rfl | rfl <;> exact ⟨_, _, rfl, by first | exact .inl rfl | exact .inr (.inl rfl) | exact .inr (.inr (.inl rfl)) | exact .inr (.inr (.inr (.inl rfl))) | exact .inr (.inr (.inr (.inr rfl)))⟩

/-- Tokens, each with a blank behind. -/
def glue : List (Tok × Bs) → Bs
  | [] => []
  | (x, bl) :: r => x.fText ++ (bl ++ glue r)

def Same (x y : Tok) : Prop := x.fKind = y.fKind ∧ x.fText = y.fText ∧ x.fN = y.fN
inductive SameL : List Tok → List Tok → Prop
  | nil : SameL [] []
  | cons {x y : Tok} {a b : List Tok} : Same x y → SameL a b → SameL (x :: a) (y :: b)

theorem lex_glue : ∀ (l : List (Tok × Bs)) (a : Nat) (t : List Tok), (∀ p ∈ l, Is p.1.fKind p.1.fText p.1.fN ∧ p.2 ∈ blanks) → t.length + l.length ≤ 1500 →
    ∃ m, lexL (glue l) a t = .inl (t ++ m) ∧ SameL m (l.map (·.1))
  | [], a, t, _, _ => ⟨[], by rw [glue, lexL_nil]; simp, .nil⟩
  | (x, bl) :: r, a, t, h, hl => by
    obtain ⟨hi, hb⟩ := h (x, bl) (List.mem_cons_self ..)
    dsimp only at hi hb
    obtain ⟨c, v, hbl, hs⟩ := blank_sep hb
    have hne : x.fText ≠ [] := by
      obtain ⟨l0, h1, h2⟩ := hi
      have := fits h1
      rw [h2] at this
      exact this.1
    have hst : step (x.fText ++ (bl ++ glue r)) = .tok x.fKind x.fText x.fN := by
      rw [hbl]
      exact step_is hi hs (v ++ glue r)
    simp only [List.length_cons] at hl
    rw [glue, lexL_tok (by simp [hne]) hst, if_neg (by omega)]
    have hd : (x.fText ++ (bl ++ glue r)).drop x.fText.length = bl ++ glue r := by simp
    rw [hd, lex_blank hb]
    obtain ⟨m, hm, hsm⟩ := lex_glue r (a + x.fText.length + bl.length) (t ++ [⟨x.fKind, x.fText, x.fN, (a : Int)⟩]) (fun p hp => h p (List.mem_cons_of_mem _ hp)) (by simp; omega)
    exact ⟨⟨x.fKind, x.fText, x.fN, (a : Int)⟩ :: m, by rw [hm]; simp, .cons ⟨rfl, rfl, rfl⟩ hsm⟩

/-- The tokens of a text are tokens. -/
theorem tokens_are : ∀ (l : Bs) (a : Nat) (t : List Tok), (∀ x ∈ t, Is x.fKind x.fText x.fN) → ∀ t', lexL l a t = .inl t' → ∀ x ∈ t', Is x.fKind x.fText x.fN := by
  refine lexL_rec (fun l a t r => (∀ x ∈ t, Is x.fKind x.fText x.fN) → ∀ t', r = .inl t' → ∀ x ∈ t', Is x.fKind x.fText x.fN) ?_ ?_ ?_ ?_ ?_
  · intro a t h t' e
    cases e
    exact h
  · intro l n a t r _ _ ih h t' e
    exact ih h t' e
  · intro l c a t _ _ h t' e; cases e
  · intro l q x n a t _ _ _ h t' e; cases e
  · intro l q x n a t r hl hst _ ih h t' e
    refine ih (fun y hy => ?_) t' e
    rcases List.mem_append.1 hy with hy | hy
    · exact h y hy
    · rw [List.mem_singleton] at hy
      subst hy
      exact ⟨l, hl, hst⟩

end Go.Proofs.YtphnfaabcnciiaaGreatDoor.lx
