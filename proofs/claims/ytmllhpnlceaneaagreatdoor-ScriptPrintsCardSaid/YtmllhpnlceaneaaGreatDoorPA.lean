/- What rounds come to, by a measure; the words of the printed functions at values. The digits of bytes, as plain functions on lists of bytes: what is written is read again. Texts parted at a byte, and lines: plain functions, and that the library's own words say the same. Decimal numbers as texts: what is written is read. No conditions. -/
import Derived.Test.YtmllhpnlceaneaaGreatDoorDC
import Derived.IntWalk
import Derived.KernelRfl
import Derived.Lib.Split
import Derived.Lib.SplitLaws
import Derived.Lib.AtoiTie
import Derived.Lib.AtoiAllCases
import Derived.Lib.ItoaMem
set_option linter.unusedVariables false
set_option linter.unusedSimpArgs false
namespace Go.Dl

theorem DFun.none [WInv] {P : Program} {f : FuncId} {R : Type} {args : List D} {xs : List Obj} {m : Option R} {res : R → D} {out : R → List Obj} (h : m = Option.none) : DFun P f args xs m res out := fun S β w vs hc hv r hr => by rw [h] at hr; cases hr

theorem iter_run {A T : Type} {f : T → Option (A ⊕ T)} (μ : T → Nat) (G : T → A) (Inv : T → Prop)
    (h : ∀ t, Inv t → (∃ t', f t = some (.inr t') ∧ Inv t' ∧ μ t' < μ t ∧ G t' = G t) ∨ f t = some (.inl (G t))) : ∀ (K : Nat) (t : T), Inv t → μ t < K → iter K f t = some (G t)
  | 0, t, _, hk => absurd hk (by omega)
  | K + 1, t, hi, hk => by
    unfold iter
    rcases h t hi with ⟨t', h1, h2, h3, h4⟩ | h1
    · rw [h1]
      simp only
      rw [iter_run μ G Inv h K t' h2 (by omega), h4]
    · rw [h1]

theorem chk_ok {α : Type} {m : Option α} : ∀ {vs : List Bool}, vs.all (fun b => b) = true → chk vs m = m
  | [], _ => rfl
  | v :: vs, h => by
    simp only [List.all_cons, Bool.and_eq_true] at h
    unfold chk
    rw [if_pos h.1, chk_ok h.2]

theorem chk_nil {α : Type} {m : Option α} : chk [] m = m := rfl
theorem chk_t {α : Type} {v : Bool} {vs : List Bool} {m : Option α} (h : v = true) : chk (v :: vs) m = chk vs m := by show (if v = true then chk vs m else none) = _; rw [if_pos h]
theorem bindS_r {A T U : Type} {t : T} {f : T → Option (A ⊕ U)} : bindS (some (.inr t)) f = f t := rfl
theorem bindS_l {A T U : Type} {a : A} {f : T → Option (A ⊕ U)} : bindS (some (.inl a)) f = some (.inl a) := rfl
theorem blockS_ll {A T : Type} {t : T} : blockS (some (.inl (.inl t)) : Option ((T ⊕ A) ⊕ T)) = some (.inr t) := rfl
theorem blockS_lr {A T : Type} {a : A} : blockS (some (.inl (.inr a)) : Option ((T ⊕ A) ⊕ T)) = some (.inl a) := rfl
theorem blockS_r {A T : Type} {t : T} : blockS (some (.inr t) : Option ((T ⊕ A) ⊕ T)) = some (.inr t) := rfl
theorem fnS_l {R : Type} {r : R} : fnS (some (.inl r) : Option (R ⊕ R)) = some r := rfl
theorem fnS_r {R : Type} {r : R} : fnS (some (.inr r) : Option (R ⊕ R)) = some r := rfl
theorem condM_t {R : Type} {m : Option R} {r : R} : condM true m r = m := rfl
theorem condM_f {R : Type} {m : Option R} {r : R} : condM false m r = some r := rfl

theorem inb_nat {i n : Nat} (h : i < n) : inb (i : Int) n = true := by simp [inb]; omega
theorem room_le {n : Nat} (h : n ≤ 140737488355328) : room n = true := by simp [room, h]
theorem wrap64 {x : Int} (h1 : -9223372036854775808 ≤ x) (h2 : x ≤ 9223372036854775807) : IntKind.i64.wrap x = x := by
  rw [IntKind.wrap_i64]; omega
theorem wrap8 {x : Int} (h1 : 0 ≤ x) (h2 : x < 256) : IntKind.u8.wrap x = x := by
  show x % 256 = x
  omega
end Go.Dl

set_option linter.unusedVariables false
set_option linter.unusedSimpArgs false
namespace Go.Proofs.YtmllhpnlceaneaaGreatDoor.sh

/-- A digit of base 16. -/
def dg (n : Nat) : UInt8 := UInt8.ofNat (if n < 10 then 48 + n else 87 + n)
/-- Which digit is it? -1: none. -/
def ud (c : UInt8) : Int := if 48 ≤ c.toNat ∧ c.toNat ≤ 57 then c.toNat - 48 else if 97 ≤ c.toNat ∧ c.toNat ≤ 102 then c.toNat - 87 else -1

def hexL : List UInt8 → List UInt8
  | [] => []
  | b :: r => dg (b.toNat / 16) :: dg (b.toNat % 16) :: hexL r
def hexF (l : List UInt8) : List UInt8 := if l = [] then [45] else hexL l

def readL : List UInt8 → Option (List UInt8)
  | [] => some []
  | [_] => none
  | a :: b :: r => if ud a < 0 ∨ ud b < 0 then none else (readL r).map fun t => UInt8.ofNat (16 * ud a + ud b).toNat :: t
def bytesF (l : List UInt8) : List UInt8 × Bool :=
  if l = [45] then ([], true) else if l = [] ∨ l.length % 2 ≠ 0 then ([], false) else match readL l with
    | some t => (t, true)
    | none => ([], false)

theorem dg_toNat {n : Nat} (h : n < 16) : (dg n).toNat = if n < 10 then 48 + n else 87 + n := by
  unfold dg
  split <;> simp only [UInt8.toNat_ofNat', Nat.reducePow] <;> omega
theorem ud_dg {n : Nat} (h : n < 16) : ud (dg n) = n := by
  unfold ud
  rw [dg_toNat h]
  by_cases h10 : n < 10
  · simp only [h10, if_true]
    rw [if_pos (by omega)]
    omega
  · simp only [h10, if_false]
    rw [if_neg (by omega), if_pos (by omega)]
    omega

theorem read_hex : ∀ l : List UInt8, readL (hexL l) = some l
  | [] => rfl
  | b :: r => by
    have hb : b.toNat < 256 := b.toNat_lt
    show (if ud (dg (b.toNat / 16)) < 0 ∨ ud (dg (b.toNat % 16)) < 0 then none else (readL (hexL r)).map fun t => UInt8.ofNat (16 * ud (dg (b.toNat / 16)) + ud (dg (b.toNat % 16))).toNat :: t) = _
    rw [ud_dg (by omega), ud_dg (by omega), if_neg (by omega), read_hex r]
    have e : (16 * ((b.toNat / 16 : Nat) : Int) + ((b.toNat % 16 : Nat) : Int)).toNat = b.toNat := by omega
    rw [e]
    simp

theorem hexL_len : ∀ l : List UInt8, (hexL l).length = 2 * l.length
  | [] => rfl
  | b :: r => by
    show (hexL r).length + 1 + 1 = 2 * (r.length + 1)
    rw [hexL_len r]
    omega

theorem bytes_hex (l : List UInt8) : bytesF (hexF l) = (l, true) := by
  unfold hexF
  by_cases h : l = []
  · rw [if_pos h, h]; rfl
  · rw [if_neg h]
    unfold bytesF
    have hl := hexL_len l
    have hp : 0 < l.length := List.length_pos_iff.2 h
    rw [if_neg (fun e => by rw [e] at hl; simp at hl; omega), if_neg (fun e => by
      rcases e with e | e
      · rw [e] at hl; simp at hl; omega
      · omega), read_hex]

end Go.Proofs.YtmllhpnlceaneaaGreatDoor.sh

set_option linter.unusedVariables false
set_option linter.unusedSimpArgs false
namespace Go.Proofs.YtmllhpnlceaneaaGreatDoor.sp

/-- A text parted at each c. -/
def splitC (c : UInt8) : List UInt8 → List (List UInt8)
  | [] => [[]]
  | b :: r => if b = c then [] :: splitC c r else (b :: (splitC c r).headD []) :: (splitC c r).tail

theorem splitC_ne (c : UInt8) : ∀ s, splitC c s ≠ []
  | [] => by simp [splitC]
  | b :: r => by unfold splitC; split <;> simp

theorem splitC_hd (c : UInt8) (s : List UInt8) : splitC c s = (splitC c s).headD [] :: (splitC c s).tail := by
  cases h : splitC c s with
  | nil => exact absurd h (splitC_ne c s)
  | cons a t => rfl

theorem index_hit (c : UInt8) (r : List UInt8) : Lib.index (c :: r) [c] = 0 := by simp [Lib.index]
theorem index_miss (b c : UInt8) (r : List UInt8) (h : b ≠ c) : Lib.index (b :: r) [c] = if Lib.index r [c] == -1 then -1 else Lib.index r [c] + 1 := by
  have : ¬ c = b := fun e => h e.symm
  simp [Lib.index, this]
theorem index_nat (s sub : List UInt8) (h : ¬ (Lib.index s sub == -1) = true) : ∃ i : Nat, Lib.index s sub = i := by
  have h1 := Lib.index_ge s sub
  have h2 : Lib.index s sub ≠ -1 := by simpa using h
  exact ⟨(Lib.index s sub).toNat, by omega⟩

theorem splitK_eq (c : UInt8) : ∀ s, Lib.splitK [c] 0 (s.count c) s = splitC c s
  | [] => rfl
  | b :: r => by
    have ih := splitK_eq c r
    by_cases h : b = c
    · subst h
      rw [List.count_cons_self]
      unfold Lib.splitK
      rw [index_hit, if_neg (by decide)]
      simp only [splitC, if_true]
      have : (b :: r).drop ((0 : Int).toNat + [b].length) = r := by simp
      rw [this, ih]
      simp
    · rw [List.count_cons_of_ne h]
      simp only [splitC, h, if_false]
      cases hk : r.count c with
      | zero =>
        rw [hk] at ih
        simp only [Lib.splitK] at ih ⊢
        rw [← ih]; rfl
      | succ k =>
        rw [hk] at ih
        unfold Lib.splitK at ih ⊢
        rw [index_miss b c r h]
        by_cases hi : (Lib.index r [c] == -1) = true
        · rw [if_pos hi] at ih
          rw [if_pos hi, if_pos (by decide), ← ih]; rfl
        · rw [if_neg hi] at ih
          obtain ⟨i, hi'⟩ := index_nat r [c] hi
          have hne : ¬ ((Lib.index r [c] + 1 == -1) = true) := by simp; omega
          rw [if_neg hi, if_neg hne, ← ih, hi']
          have e1 : ((i : Int) + 1).toNat = i + 1 := by omega
          have e2 : ((i : Int)).toNat = i := by omega
          simp [e1, e2, Nat.add_right_comm i 1]

/-- The pieces of a text, some bytes of the first one at hand. -/
def splitW (c : UInt8) : List UInt8 → List UInt8 → List (List UInt8)
  | cur, [] => [cur]
  | cur, b :: r => if b = c then cur :: splitW c [] r else splitW c (cur ++ [b]) r

theorem splitW_eq (c : UInt8) : ∀ (s cur : List UInt8), splitW c cur s = (cur ++ (splitC c s).headD []) :: (splitC c s).tail
  | [], cur => by simp [splitW, splitC]
  | b :: r, cur => by
    unfold splitW splitC
    split
    · rw [splitW_eq c r []]
      simp only [List.nil_append, List.headD_cons, List.tail_cons, List.append_nil]
      rw [← splitC_hd]
    · rw [splitW_eq c r (cur ++ [b])]
      simp

theorem splitW_nil (c : UInt8) (s : List UInt8) : splitW c [] s = splitC c s := by
  rw [splitW_eq, List.nil_append, ← splitC_hd]

/-- Lines: what stands behind the last end is none if there is nothing. -/
def linesL (s : List UInt8) : List (List UInt8) :=
  if (splitC 10 s).getLast? = some [] then (splitC 10 s).dropLast else splitC 10 s

theorem linesL_nil : linesL [] = [] := by simp [linesL, splitC]

theorem cut_nil (c : UInt8) : Lib.cut [] [c] = ([], [], false) := by simp [Lib.cut, Lib.index]
theorem cut_hit (c : UInt8) (r : List UInt8) : Lib.cut (c :: r) [c] = ([], r, true) := by
  unfold Lib.cut
  rw [index_hit]
  simp
theorem cut_miss (b c : UInt8) (r : List UInt8) (h : b ≠ c) : Lib.cut (b :: r) [c] = (b :: (Lib.cut r [c]).1, (Lib.cut r [c]).2.1, (Lib.cut r [c]).2.2) := by
  unfold Lib.cut
  rw [index_miss b c r h]
  by_cases hi : (Lib.index r [c] == -1) = true
  · have e : Lib.index r [c] = -1 := by simpa using hi
    rw [if_pos hi, e]
    simp
  · obtain ⟨i, hi'⟩ := index_nat r [c] hi
    rw [if_neg hi, hi']
    have e1 : ((i : Int) + 1).toNat = i + 1 := by omega
    have e2 : ((i : Int)).toNat = i := by omega
    rw [if_pos (by omega), if_pos (by omega)]
    simp [e1, e2, Nat.add_right_comm i 1]

/-- What is behind the first end is shorter. -/
theorem cut_len (c : UInt8) : ∀ s, s ≠ [] → (Lib.cut s [c]).2.1.length < s.length
  | [], h => absurd rfl h
  | b :: r, _ => by
    by_cases h : b = c
    · subst h; rw [cut_hit]; simp
    · rw [cut_miss b c r h]
      cases r with
      | nil => rw [cut_nil]; simp
      | cons a t =>
        have := cut_len c (a :: t) (by simp)
        simp only [List.length_cons] at this ⊢
        omega

theorem splitC_cut (c : UInt8) : ∀ s, splitC c s = if (Lib.cut s [c]).2.2 = true then (Lib.cut s [c]).1 :: splitC c (Lib.cut s [c]).2.1 else [(Lib.cut s [c]).1]
  | [] => by rw [cut_nil]; simp [splitC]
  | b :: r => by
    by_cases h : b = c
    · subst h; rw [cut_hit]; simp [splitC]
    · rw [cut_miss b c r h]
      have ih := splitC_cut c r
      simp only [splitC, h, if_false]
      by_cases hb : (Lib.cut r [c]).2.2 = true
      · rw [if_pos hb] at ih
        rw [if_pos hb, ih]; rfl
      · rw [if_neg hb] at ih
        rw [if_neg hb, ih]; rfl

theorem cut_none (c : UInt8) : ∀ s, (Lib.cut s [c]).2.2 = false → Lib.cut s [c] = (s, [], false)
  | [], _ => cut_nil c
  | b :: r, hh => by
    by_cases h : b = c
    · subst h; rw [cut_hit] at hh; cases hh
    · rw [cut_miss b c r h] at hh ⊢
      have := cut_none c r hh
      rw [this]

theorem linesL_cut (s : List UInt8) (h : s ≠ []) : linesL s = (Lib.cut s [10]).1 :: linesL (Lib.cut s [10]).2.1 := by
  have hs := splitC_cut 10 s
  cases hb : (Lib.cut s [10]).2.2 with
  | true =>
    rw [if_pos hb] at hs
    unfold linesL
    rw [hs]
    have hne := splitC_ne 10 (Lib.cut s [10]).2.1
    rw [List.getLast?_cons_of_ne_nil hne]
    split
    · rw [List.dropLast_cons_of_ne_nil hne]
    · rfl
  | false =>
    have hc := cut_none 10 s hb
    rw [if_neg (by rw [hb]; simp)] at hs
    rw [hc] at hs ⊢
    simp only [linesL_nil]
    unfold linesL
    rw [hs]
    simp [h]

end Go.Proofs.YtmllhpnlceaneaaGreatDoor.sp

set_option linter.unusedVariables false
set_option linter.unusedSimpArgs false
namespace Go.Proofs.YtmllhpnlceaneaaGreatDoor.sp
open Go.Lib

theorem decFrom_append : ∀ (l m : List UInt8) (acc : Nat), decFrom acc (l ++ m) = (decFrom acc l).bind fun a => decFrom a m
  | [], m, acc => rfl
  | b :: r, m, acc => by
    simp only [List.cons_append, decFrom]
    cases digitVal b with
    | none => rfl
    | some d => exact decFrom_append r m _

theorem digit_byte {d : Nat} (h : d < 10) : digitVal (UInt8.ofNat (48 + d)) = some d := by
  unfold digitVal
  have e : (UInt8.ofNat (48 + d)).toNat = 48 + d := by
    rw [UInt8.toNat_ofNat']; exact Nat.mod_eq_of_lt (by omega)
  rw [e, if_pos (by omega)]
  congr 1; omega

theorem byte_digit {b : UInt8} {d : Nat} (h : digitVal b = some d) : d < 10 ∧ UInt8.ofNat (48 + d) = b := by
  obtain ⟨h1, h2, h3⟩ := digitVal_eq h
  refine ⟨by omega, ?_⟩
  have : 48 + d = b.toNat := by omega
  rw [this]
  simp

theorem decDigits_small {u : Nat} (h : u < 10) : decDigits u = [UInt8.ofNat (48 + u)] := by rw [decDigits, dif_pos h]
theorem decDigits_big {u : Nat} (h : ¬ u < 10) : decDigits u = decDigits (u / 10) ++ [UInt8.ofNat (48 + u % 10)] := by rw [decDigits, dif_neg h]

theorem decDigits_ne (u : Nat) : decDigits u ≠ [] := by
  by_cases h : u < 10
  · rw [decDigits_small h]; simp
  · rw [decDigits_big h]; simp

/-- What is written is read. -/
theorem dec_read (u : Nat) : decFrom 0 (decDigits u) = some u := by
  induction u using Nat.strongRecOn with
  | ind u ih =>
    by_cases h : u < 10
    · rw [decDigits_small h]
      simp only [decFrom, digit_byte h]
      simp
    · rw [decDigits_big h, decFrom_append, ih (u / 10) (by omega)]
      have := digit_byte (d := u % 10) (by omega)
      simp only [Option.bind_some, decFrom, this]
      congr 1; omega

/-- No nought ahead. -/
theorem dec_head (u : Nat) (h : 1 ≤ u) : (decDigits u).head? ≠ some 48 := by
  induction u using Nat.strongRecOn with
  | ind u ih =>
    by_cases h10 : u < 10
    · rw [decDigits_small h10]
      simp only [List.head?_cons, ne_eq, Option.some.injEq]
      intro e
      have e2 := congrArg UInt8.toNat e
      have : (UInt8.ofNat (48 + u)).toNat = 48 + u := by rw [UInt8.toNat_ofNat']; exact Nat.mod_eq_of_lt (by omega)
      rw [this] at e2
      have : (48 : UInt8).toNat = 48 := rfl
      omega
    · rw [decDigits_big h10]
      have hne := decDigits_ne (u / 10)
      have := ih (u / 10) (by omega) (by omega)
      cases hd : decDigits (u / 10) with
      | nil => exact absurd hd hne
      | cons a t => rw [hd] at this; simpa using this

theorem dec_len : ∀ (k u : Nat), u < 10 ^ k → 1 ≤ k → (decDigits u).length ≤ k
  | 0, u, _, h => absurd h (by omega)
  | k + 1, u, h, _ => by
    by_cases h10 : u < 10
    · rw [decDigits_small h10]; simp
    · rw [decDigits_big h10]
      have hk : 1 ≤ k := by
        rcases Nat.eq_zero_or_pos k with h0 | h0
        · subst h0; simp at h; omega
        · exact h0
      have := dec_len k (u / 10) (by rw [Nat.pow_succ] at h; omega) hk
      simp; omega

theorem decFrom_pos : ∀ (l : List UInt8) (acc n : Nat), 1 ≤ acc → decFrom acc l = some n → 1 ≤ n
  | [], acc, n, h, e => by simp only [decFrom, Option.some.injEq] at e; omega
  | b :: r, acc, n, h, e => by
    simp only [decFrom] at e
    cases hd : digitVal b with
    | none => rw [hd] at e; cases e
    | some d => rw [hd] at e; exact decFrom_pos r _ n (by omega) e

theorem decFrom_head {l : List UInt8} {n : Nat} (hl : l ≠ []) (h0 : l.head? ≠ some 48) (h : decFrom 0 l = some n) : 1 ≤ n := by
  cases l with
  | nil => exact absurd rfl hl
  | cons b r =>
    simp only [decFrom] at h
    cases hd : digitVal b with
    | none => rw [hd] at h; cases h
    | some d =>
      rw [hd] at h
      refine decFrom_pos r _ n ?_ h
      obtain ⟨h1, h2, h3⟩ := digitVal_eq hd
      have : b ≠ 48 := by simpa using h0
      have : b.toNat ≠ 48 := fun e => this (UInt8.toNat_inj.1 (by rw [e]; rfl))
      omega

/-- What is read, and has no nought ahead, is written so. -/
theorem dec_write (l : List UInt8) : ∀ n, l ≠ [] → (l.head? ≠ some 48 ∨ l.length = 1) → decFrom 0 l = some n → decDigits n = l := by
  induction hk : l.length using Nat.strongRecOn generalizing l with
  | ind k ih =>
    intro n hl h0 h
    obtain ⟨t, c, rfl⟩ : ∃ t c, l = t ++ [c] := ⟨l.dropLast, l.getLast hl, (List.dropLast_concat_getLast hl).symm⟩
    rw [decFrom_append] at h
    cases ht : decFrom 0 t with
    | none => rw [ht] at h; cases h
    | some m =>
      rw [ht] at h
      simp only [Option.bind_some, decFrom] at h
      cases hd : digitVal c with
      | none => rw [hd] at h; cases h
      | some d =>
        rw [hd] at h
        simp only [Option.some.injEq] at h
        obtain ⟨hd1, hd2⟩ := byte_digit hd
        by_cases hte : t = []
        · subst hte
          simp only [decFrom, Option.some.injEq] at ht
          subst ht
          have : n = d := by omega
          subst this
          rw [decDigits_small hd1, hd2]; rfl
        · have hh : t.head? ≠ some 48 := by
            rcases h0 with h0 | h0
            · cases t with
              | nil => exact absurd rfl hte
              | cons a s => simpa using h0
            · rw [← hk] at h0; simp at h0; exact absurd h0 hte
          have hm := decFrom_head hte hh ht
          have := ih t.length (by rw [← hk]; simp) t rfl m hte (.inl hh) ht
          rw [decDigits_big (by omega)]
          have e1 : n / 10 = m := by omega
          have e2 : n % 10 = d := by omega
          rw [e1, e2, this, hd2]

/-- A number from 0 on, by the document. -/
def digitsF (s : List UInt8) : Option Nat :=
  if s.length < 1 ∨ 10 < s.length ∨ (s.head? = some 48 ∧ 1 < s.length) then none else
    match decFrom 0 s with
    | some n => if n ≤ 2147483648 then some n else none
    | none => none

def numberF (s : List UInt8) : Option Int :=
  if 1 < s.length ∧ s.head? = some 45 then
    match digitsF s.tail with
    | some n => if n = 0 then none else some (-(n : Int))
    | none => none
  else (digitsF s).map fun n => (n : Int)

/-- A number by the library. -/
def numberG (s : List UInt8) : Option Int :=
  match atoiAll s with
  | .ok n => if -2147483648 ≤ n ∧ n ≤ 2147483648 ∧ itoa n = s then some n else none
  | _ => none

theorem digitsF_some {s : List UInt8} {n : Nat} (h : digitsF s = some n) : s ≠ [] ∧ s.length ≤ 10 ∧ n ≤ 2147483648 ∧ decFrom 0 s = some n ∧ decDigits n = s := by
  unfold digitsF at h
  split at h
  · cases h
  · rename_i hc
    have hne : s ≠ [] := fun e => hc (.inl (by rw [e]; simp))
    have hlen : s.length ≤ 10 := by omega
    cases hd : decFrom 0 s with
    | none => rw [hd] at h; cases h
    | some m =>
      rw [hd] at h
      simp only at h
      split at h
      · simp only [Option.some.injEq] at h
        subst h
        refine ⟨hne, hlen, by assumption, rfl, dec_write s m hne ?_ hd⟩
        by_cases h1 : s.length = 1
        · exact .inr h1
        · left
          intro e
          have hp : 0 < s.length := List.length_pos_iff.2 hne
          exact hc (.inr (.inr ⟨e, by omega⟩))
      · cases h

theorem digitsF_dec {u : Nat} (h : u ≤ 2147483648) : digitsF (decDigits u) = some u := by
  unfold digitsF
  have hne := decDigits_ne u
  have hp : 0 < (decDigits u).length := List.length_pos_iff.2 hne
  have hl := dec_len 10 u (by omega) (by omega)
  rw [if_neg, dec_read]
  · simp [h]
  · rintro (h1 | h1 | ⟨h1, h2⟩)
    · omega
    · omega
    · by_cases hu : 1 ≤ u
      · exact dec_head u hu h1
      · have : u = 0 := by omega
        subst this
        rw [decDigits_small (by omega)] at h2
        simp at h2

theorem head_digit {l : List UInt8} {n : Nat} (hl : l ≠ []) (h : decFrom 0 l = some n) : l.head? ≠ some 45 ∧ l.head? ≠ some 43 := by
  cases l with
  | nil => exact absurd rfl hl
  | cons b r =>
    simp only [decFrom] at h
    cases hd : digitVal b with
    | none => rw [hd] at h; cases h
    | some d =>
      obtain ⟨h1, h2, _⟩ := digitVal_eq hd
      constructor
      · intro e; simp only [List.head?_cons, Option.some.injEq] at e; subst e; revert h1; decide
      · intro e; simp only [List.head?_cons, Option.some.injEq] at e; subst e; revert h1; decide

theorem atoi_digits {l : List UInt8} {n : Nat} (hl : l ≠ []) (h : decFrom 0 l = some n) : atoi l = some (n : Int) := by
  have hh := head_digit hl h
  cases l with
  | nil => exact absurd rfl hl
  | cons b r =>
    have h45 : ¬ (b == 45) = true := by intro e; exact hh.1 (by simpa using e)
    have h43 : ¬ (b == 43) = true := by intro e; exact hh.2 (by simpa using e)
    unfold atoi
    simp only [h45, h43]
    simp [decNat, h]

theorem atoi_minus {l : List UInt8} {n : Nat} (hl : l ≠ []) (h : decFrom 0 l = some n) : atoi (45 :: l) = some (-(n : Int)) := by
  unfold atoi
  simp only [beq_self_eq_true, if_true]
  have : l.isEmpty = false := by cases l <;> simp_all
  simp [decNat, h, this]

theorem number_eq (s : List UInt8) : numberG s = numberF s := by
  apply Option.ext
  intro n
  constructor
  · intro h
    unfold numberG at h
    cases ha : atoiAll s with
    | range => rw [ha] at h; cases h
    | ok m =>
      rw [ha] at h
      simp only at h
      split at h
      · rename_i hc
        obtain ⟨h1, h2, h3⟩ := hc
        simp only [Option.some.injEq] at h
        subst h
        unfold numberF
        rcases Decidable.em (m < 0) with hm | hm
        · obtain ⟨u, rfl⟩ : ∃ u : Nat, m = -(u : Int) := ⟨m.natAbs, by omega⟩
          have hu : 1 ≤ u := by omega
          rw [itoa_neg u hu] at h3
          subst h3
          have hp : 0 < (decDigits u).length := List.length_pos_iff.2 (decDigits_ne u)
          rw [if_pos ⟨by simp; omega, rfl⟩, List.tail_cons, digitsF_dec (by omega)]
          simp; omega
        · obtain ⟨u, rfl⟩ : ∃ u : Nat, m = (u : Int) := ⟨m.toNat, by omega⟩
          rw [itoa_nonneg u] at h3
          subst h3
          rw [if_neg (fun e => (head_digit (decDigits_ne u) (dec_read u)).1 e.2), digitsF_dec (by omega)]
          rfl
      · cases h
    | _ => rw [ha] at h; cases h
  · intro h
    unfold numberF at h
    unfold numberG
    split at h
    · rename_i hc
      obtain ⟨h1, h2⟩ := hc
      cases s with
      | nil => simp at h1
      | cons b r =>
        simp only [List.head?_cons, Option.some.injEq] at h2
        subst h2
        rw [List.tail_cons] at h
        cases hd : digitsF r with
        | none => rw [hd] at h; cases h
        | some u =>
          rw [hd] at h
          simp only at h
          split at h
          · cases h
          · rename_i hu
            simp only [Option.some.injEq] at h
            subst h
            obtain ⟨g1, g2, g3, g4, g5⟩ := digitsF_some hd
            rw [atoiAll_short _ (by simp; omega), atoi_minus g1 g4]
            simp only [NumEnd.ofOption]
            rw [if_pos ⟨by omega, by omega, by rw [itoa_neg u (by omega), g5]⟩]
    · cases hd : digitsF s with
      | none => rw [hd] at h; cases h
      | some u =>
        rw [hd] at h
        replace h : (u : Int) = n := Option.some.inj h
        subst h
        obtain ⟨g1, g2, g3, g4, g5⟩ := digitsF_some hd
        rw [atoiAll_short _ (by omega), atoi_digits g1 g4]
        simp only [NumEnd.ofOption]
        rw [if_pos ⟨by omega, by omega, by rw [itoa_nonneg u, g5]⟩]

end Go.Proofs.YtmllhpnlceaneaaGreatDoor.sp
