/- A script's text: what is printed is read again; a text is refused at its first wrong line: plain functions. No conditions. -/
import Derived.Test.YtmllhpnlceaneaaGreatDoorPA
import Derived.Test.YtmllhpnlceaneaaGreatDoorTy
set_option linter.unusedVariables false
set_option linter.unusedSimpArgs false
namespace Go.Proofs.YtmllhpnlceaneaaGreatDoor.sp
open Go.Lib Go.Proofs.YtmllhpnlceaneaaGreatDoor.sh

abbrev Bs := List UInt8
def srcB : Bs := [115, 114, 99]
def scanB : Bs := [115, 99, 97, 110]

/-- A scan, of the words behind the first. -/
def scanF (l : List Bs) : Option Sc :=
  if l.length < 1 ∨ 17 < l.length then none else
    match l.mapM numberF with
    | some (t :: ns) => some ⟨ns, t⟩
    | _ => none

def readW (w : List Bs) : Option (Bs ⊕ Sc) :=
  if w.headD [] = srcB ∧ w.length = 2 then
    (if (bytesF (w.getD 1 [])).2 = true then some (.inl (bytesF (w.getD 1 [])).1) else none)
  else if w.headD [] = scanB then (scanF w.tail).map .inr
  else none

def parseL : List Bs → Nat → Bs → List Sc → (Bs × List Sc) ⊕ Nat
  | [], _, src, sc => .inl (src, sc)
  | l :: ls, p, src, sc =>
    match readW (splitC 32 l) with
    | none => .inr p
    | some (.inl b) => parseL ls (p + 1) (src ++ b) sc
    | some (.inr x) => parseL ls (p + 1) src (sc ++ [x])

theorem parseL_append : ∀ (l m : List Bs) (p : Nat) (src : Bs) (sc : List Sc), parseL (l ++ m) p src sc = match parseL l p src sc with
    | .inr q => .inr q
    | .inl (a, b) => parseL m (p + l.length) a b
  | [], m, p, src, sc => rfl
  | l :: ls, m, p, src, sc => by
    simp only [List.cons_append, parseL]
    cases readW (splitC 32 l) with
    | none => rfl
    | some y =>
      cases y with
      | inl b =>
        simp only
        rw [parseL_append ls m, List.length_cons, show p + (ls.length + 1) = p + 1 + ls.length by omega]
      | inr x =>
        simp only
        rw [parseL_append ls m, List.length_cons, show p + (ls.length + 1) = p + 1 + ls.length by omega]

theorem parseL_ge : ∀ (l : List Bs) (p q : Nat) (src : Bs) (sc : List Sc), parseL l p src sc = .inr q → p ≤ q
  | [], p, q, src, sc, h => by simp [parseL] at h
  | l :: ls, p, q, src, sc, h => by
    simp only [parseL] at h
    split at h
    · simp only [Sum.inr.injEq] at h; omega
    · have := parseL_ge ls _ _ _ _ h; omega
    · have := parseL_ge ls _ _ _ _ h; omega

theorem splitC_append (c : UInt8) : ∀ s t : Bs, splitC c (s ++ c :: t) = splitC c s ++ splitC c t
  | [], t => by simp [splitC]
  | b :: r, t => by
    have ih := splitC_append c r t
    have hne := splitC_ne c r
    simp only [List.cons_append, splitC]
    split
    · rw [ih]; rfl
    · rw [ih]
      cases hs : splitC c r with
      | nil => exact absurd hs hne
      | cons a l => rfl

/-- The last piece is what is behind the last c. -/
theorem splitC_last (c : UInt8) : ∀ s : Bs, s ≠ [] → ((splitC c s).getLast? = some [] ↔ s.getLast? = some c)
  | [], h => absurd rfl h
  | [b], _ => by
    unfold splitC
    by_cases h : b = c
    · subst h; simp [splitC]
    · simp [splitC, h]
  | b :: d :: r, _ => by
    have ih := splitC_last c (d :: r) (by simp)
    have hne := splitC_ne c (d :: r)
    rw [List.getLast?_cons_cons]
    rw [← ih]
    have hs := splitC_hd c (d :: r)
    rw [splitC]
    by_cases h : b = c
    · rw [if_pos h, hs, List.getLast?_cons_cons]
    · rw [if_neg h]
      cases ht : (splitC c (d :: r)).tail with
      | nil =>
        rw [ht] at hs
        rw [hs]
        by_cases hd : d = c
        · exfalso
          rw [splitC, if_pos hd] at ht
          exact splitC_ne c r (by simpa using ht)
        · have : (splitC c (d :: r)).headD [] ≠ [] := by rw [splitC, if_neg hd]; simp
          simp [this]
          have h2 := this
          rw [hs] at h2
          simpa using h2
      | cons a l =>
        rw [ht] at hs
        rw [hs]
        simp only [List.headD_cons, List.getLast?_cons_cons]

theorem gl_append {α : Type} (a : List α) {b : List α} (h : b ≠ []) : (a ++ b).getLast? = b.getLast? := by
  rw [List.getLast?_append]
  cases hb : b.getLast? with
  | none => exact absurd (List.getLast?_eq_none_iff.1 hb) h
  | some x => rfl

theorem linesL_append {s t : Bs} (hs : s ≠ []) (hl : s.getLast? ≠ some 10) : linesL (s ++ 10 :: t) = linesL s ++ linesL t := by
  have h1 : ¬ (splitC 10 s).getLast? = some [] := fun e => hl ((splitC_last 10 s hs).1 e)
  unfold linesL
  rw [splitC_append, if_neg h1, gl_append _ (splitC_ne 10 t)]
  split
  · rw [List.dropLast_append_of_ne_nil (splitC_ne 10 t)]
  · rfl

theorem linesL_append_nl {s t : Bs} (hs : s.getLast? = some 10) : linesL (s ++ 10 :: t) = linesL s ++ [] :: linesL t := by
  have hne : s ≠ [] := by intro e; rw [e] at hs; cases hs
  have h1 : (splitC 10 s).getLast? = some [] := (splitC_last 10 s hne).2 hs
  have h2 : splitC 10 s = (splitC 10 s).dropLast ++ [[]] := by
    obtain ⟨l, hl⟩ := List.getLast?_eq_some_iff.1 h1
    rw [hl]; simp
  have h3 : linesL s = (splitC 10 s).dropLast := by unfold linesL; rw [if_pos h1]
  rw [h3]
  unfold linesL
  rw [splitC_append, gl_append _ (splitC_ne 10 t)]
  split
  · rw [List.dropLast_append_of_ne_nil (splitC_ne 10 t)]
    conv => lhs; rw [h2]
    simp
  · conv => lhs; rw [h2]
    simp

/-- A text that holds no c is one piece. -/
theorem splitC_none (c : UInt8) : ∀ s : Bs, c ∉ s → splitC c s = [s]
  | [], _ => rfl
  | b :: r, h => by
    have h1 : b ≠ c := fun e => h (by rw [e]; exact List.mem_cons_self ..)
    have h2 : c ∉ r := fun e => h (List.mem_cons_of_mem _ e)
    rw [splitC, if_neg h1, splitC_none c r h2]; rfl

theorem linesL_line {l r : Bs} (h : (10 : UInt8) ∉ l) : linesL (l ++ 10 :: r) = l :: linesL r := by
  have hs : splitC 10 (l ++ 10 :: r) = l :: splitC 10 r := by rw [splitC_append, splitC_none 10 l h]; rfl
  have hne := splitC_ne 10 r
  unfold linesL
  rw [hs, List.getLast?_cons_of_ne_nil hne]
  split
  · rw [List.dropLast_cons_of_ne_nil hne]
  · rfl

/-! What is printed. -/

def numsB : List Int → Bs
  | [] => []
  | n :: ns => 32 :: itoa n ++ numsB ns
def lineB (x : Sc) : Bs := scanB ++ numsB (x.fTicks :: x.fIn)
def linesB : List Sc → Bs
  | [] => []
  | x :: r => lineB x ++ 10 :: linesB r
def printB (src : Bs) (l : List Sc) : Bs := srcB ++ 32 :: hexF src ++ 10 :: linesB l

def okN (n : Int) : Prop := -2147483648 ≤ n ∧ n ≤ 2147483648
structure okS (x : Sc) : Prop where
  t : okN x.fTicks
  n : ∀ m ∈ x.fIn, okN m
  len : x.fIn.length ≤ 16

theorem dg_range (n : Nat) (h : n < 16) : (sh.dg n) ≠ 10 ∧ (sh.dg n) ≠ 32 := by
  have := dg_toNat h
  constructor <;> intro e <;> rw [e] at this <;> revert this <;> split <;> simp <;> omega

theorem hexL_range : ∀ (l : Bs) (b : UInt8), b ∈ hexL l → b ≠ 10 ∧ b ≠ 32
  | [], b, h => by cases h
  | x :: r, b, h => by
    have hx : x.toNat < 256 := x.toNat_lt
    simp only [hexL, List.mem_cons] at h
    rcases h with rfl | rfl | h
    · exact dg_range _ (by omega)
    · exact dg_range _ (by omega)
    · exact hexL_range r b h

theorem hexF_range (l : Bs) (b : UInt8) (h : b ∈ hexF l) : b ≠ 10 ∧ b ≠ 32 := by
  unfold hexF at h
  split at h
  · simp only [List.mem_singleton] at h
    subst h; decide
  · exact hexL_range l b h

theorem digit_range {u : Nat} (h : u < 10) : UInt8.ofNat (48 + u) ≠ 10 ∧ UInt8.ofNat (48 + u) ≠ 32 := by
  have e : (UInt8.ofNat (48 + u)).toNat = 48 + u := by rw [UInt8.toNat_ofNat']; exact Nat.mod_eq_of_lt (by omega)
  constructor <;> intro h1 <;> rw [h1] at e <;> revert e <;> simp <;> omega

theorem dec_range (u : Nat) : ∀ b ∈ decDigits u, b ≠ 10 ∧ b ≠ 32 := by
  induction u using Nat.strongRecOn with
  | ind u ih =>
    intro b hb
    by_cases h : u < 10
    · rw [decDigits_small h, List.mem_singleton] at hb
      subst hb; exact digit_range h
    · rw [decDigits_big h, List.mem_append, List.mem_singleton] at hb
      rcases hb with hb | hb
      · exact ih (u / 10) (by omega) b hb
      · subst hb; exact digit_range (by omega)

theorem itoa_cases (n : Int) : (∃ u : Nat, n = u ∧ itoa n = decDigits u) ∨ (∃ u : Nat, 1 ≤ u ∧ n = -(u : Int) ∧ itoa n = 45 :: decDigits u) := by
  rcases Decidable.em (n < 0) with h | h
  · right
    refine ⟨n.natAbs, by omega, by omega, ?_⟩
    obtain ⟨u, hu, rfl⟩ : ∃ u : Nat, 1 ≤ u ∧ n = -(u : Int) := ⟨n.natAbs, by omega, by omega⟩
    rw [itoa_neg u hu]
    have : (-(u : Int)).natAbs = u := by omega
    rw [this]
  · left
    obtain ⟨u, rfl⟩ : ∃ u : Nat, n = (u : Int) := ⟨n.toNat, by omega⟩
    exact ⟨u, rfl, itoa_nonneg u⟩

theorem itoa_range (n : Int) : ∀ b ∈ itoa n, b ≠ 10 ∧ b ≠ 32 := by
  intro b hb
  rcases itoa_cases n with ⟨u, _, e⟩ | ⟨u, _, _, e⟩
  · rw [e] at hb; exact dec_range u b hb
  · rw [e, List.mem_cons] at hb
    rcases hb with rfl | hb
    · decide
    · exact dec_range u b hb

theorem numberF_itoa {n : Int} (h : okN n) : numberF (itoa n) = some n := by
  obtain ⟨h1, h2⟩ := h
  unfold numberF
  rcases itoa_cases n with ⟨u, rfl, e⟩ | ⟨u, hu, rfl, e⟩
  · rw [e, if_neg (fun x => (head_digit (decDigits_ne u) (dec_read u)).1 x.2), digitsF_dec (by omega)]; rfl
  · have hp : 0 < (decDigits u).length := List.length_pos_iff.2 (decDigits_ne u)
    rw [e, if_pos ⟨by simp; omega, rfl⟩, List.tail_cons, digitsF_dec (by omega)]
    simp; omega

theorem numberF_ok {s : Bs} {n : Int} (h : numberF s = some n) : okN n := by
  unfold numberF at h
  split at h
  · cases hd : digitsF s.tail with
    | none => rw [hd] at h; cases h
    | some u =>
      rw [hd] at h
      simp only at h
      split at h
      · cases h
      · simp only [Option.some.injEq] at h
        have := (digitsF_some hd).2.2.1
        subst h
        constructor <;> omega
  · cases hd : digitsF s with
    | none => rw [hd] at h; cases h
    | some u =>
      rw [hd] at h
      replace h : (u : Int) = n := Option.some.inj h
      have := (digitsF_some hd).2.2.1
      subst h
      constructor <;> omega

theorem numsB_nl : ∀ (l : List Int), (10 : UInt8) ∉ numsB l
  | [], h => by cases h
  | n :: ns, h => by
    simp only [numsB, List.cons_append, List.mem_cons, List.mem_append] at h
    rcases h with h | h | h
    · exact absurd h (by decide)
    · exact (itoa_range n 10 h).1 rfl
    · exact numsB_nl ns h

theorem split_nums : ∀ (l : List Int) (p : Bs), (32 : UInt8) ∉ p → splitC 32 (p ++ numsB l) = p :: l.map itoa
  | [], p, h => by simp [numsB, splitC_none 32 p h]
  | n :: ns, p, h => by
    have : p ++ numsB (n :: ns) = p ++ 32 :: (itoa n ++ numsB ns) := by simp [numsB]
    rw [this, splitC_append, splitC_none 32 p h, split_nums ns (itoa n) (fun e => (itoa_range n 32 e).2 rfl)]
    rfl

theorem mapM_itoa : ∀ (l : List Int), (∀ n ∈ l, okN n) → (l.map itoa).mapM numberF = some l
  | [], _ => rfl
  | n :: ns, h => by
    have h1 := numberF_itoa (h n (List.mem_cons_self ..))
    have h2 := mapM_itoa ns (fun m hm => h m (List.mem_cons_of_mem _ hm))
    simp only [List.map_cons, List.mapM_cons, h1, h2, Option.bind_eq_bind, Option.bind_some, Option.pure_def]

theorem read_scan {x : Sc} (h : okS x) : readW (splitC 32 (lineB x)) = some (.inr x) := by
  unfold lineB
  rw [split_nums _ _ (by decide)]
  unfold readW
  rw [if_neg (fun e => absurd e.1 (by show ¬ scanB = srcB; decide)), if_pos (by rfl)]
  simp only [List.tail_cons]
  unfold scanF
  have hl := h.len
  rw [if_neg (by simp; omega), mapM_itoa _ (fun n hn => by
    rcases List.mem_cons.1 hn with rfl | hn
    · exact h.t
    · exact h.n n hn)]
  rfl

theorem read_src (src : Bs) : readW (splitC 32 (srcB ++ 32 :: hexF src)) = some (.inl src) := by
  rw [splitC_append, splitC_none 32 srcB (by decide), splitC_none 32 (hexF src) (fun e => (hexF_range src 32 e).2 rfl)]
  unfold readW
  rw [if_pos ⟨rfl, rfl⟩]
  show (if (bytesF (hexF src)).2 = true then some (Sum.inl (bytesF (hexF src)).1) else none) = _
  rw [bytes_hex]
  rfl

theorem parse_lines : ∀ (l : List Sc) (p : Nat) (src : Bs) (sc : List Sc), (∀ x ∈ l, okS x) → parseL (linesL (linesB l)) p src sc = .inl (src, sc ++ l)
  | [], p, src, sc, _ => by simp [linesB, linesL_nil, parseL]
  | x :: r, p, src, sc, h => by
    have hnl : (10 : UInt8) ∉ lineB x := by
      unfold lineB
      rw [List.mem_append]
      rintro (e | e)
      · revert e; decide
      · exact numsB_nl _ e
    rw [linesB, linesL_line hnl, parseL, read_scan (h x (List.mem_cons_self ..))]
    simp only
    rw [parse_lines r _ _ _ (fun y hy => h y (List.mem_cons_of_mem _ hy))]
    simp

/-- What is printed is read again. -/
theorem parse_print (src : Bs) (l : List Sc) (h : ∀ x ∈ l, okS x) : parseL (linesL (printB src l)) 1 [] [] = .inl (src, l) := by
  have hnl : (10 : UInt8) ∉ srcB ++ 32 :: hexF src := by
    rw [List.mem_append, List.mem_cons]
    rintro (e | e | e)
    · revert e; decide
    · exact absurd e (by decide)
    · exact (hexF_range src 10 e).1 rfl
  have : printB src l = (srcB ++ 32 :: hexF src) ++ 10 :: linesB l := by unfold printB; simp
  rw [this, linesL_line hnl, parseL, read_src]
  simp only
  rw [parse_lines l _ _ _ h]
  rfl

theorem mapM_len {α β : Type} {f : α → Option β} : ∀ {l : List α} {r : List β}, l.mapM f = some r → r.length = l.length ∧ ∀ y ∈ r, ∃ x, f x = some y
  | [], r, h => by
    simp only [List.mapM_nil, Option.pure_def, Option.some.injEq] at h
    subst h; exact ⟨rfl, fun y hy => by cases hy⟩
  | x :: l, r, h => by
    simp only [List.mapM_cons, Option.bind_eq_bind, Option.bind_eq_some_iff, Option.pure_def, Option.some.injEq] at h
    obtain ⟨b, hb, r', hr', rfl⟩ := h
    obtain ⟨h1, h2⟩ := mapM_len hr'
    refine ⟨by simp [h1], fun y hy => ?_⟩
    rcases List.mem_cons.1 hy with rfl | hy
    · exact ⟨x, hb⟩
    · exact h2 y hy

theorem scanF_ok {l : List Bs} {x : Sc} (h : scanF l = some x) : okS x := by
  unfold scanF at h
  split at h
  · cases h
  · rename_i hl
    split at h
    · rename_i t ns hm
      simp only [Option.some.injEq] at h
      subst h
      obtain ⟨h1, h2⟩ := mapM_len hm
      simp only [List.length_cons] at h1
      refine ⟨?_, fun m hm' => ?_, by show ns.length ≤ 16; omega⟩
      · obtain ⟨s, hs⟩ := h2 t (List.mem_cons_self ..)
        exact numberF_ok hs
      · obtain ⟨s, hs⟩ := h2 m (List.mem_cons_of_mem _ hm')
        exact numberF_ok hs
    · cases h

theorem readW_ok {w : List Bs} {x : Sc} (h : readW w = some (.inr x)) : okS x := by
  unfold readW at h
  split at h
  · split at h <;> cases h
  · split at h
    · cases hs : scanF w.tail with
      | none => rw [hs] at h; cases h
      | some y =>
        rw [hs] at h
        simp only [Option.map_some, Option.some.injEq, Sum.inr.injEq] at h
        subst h
        exact scanF_ok hs
    · cases h

theorem parseL_ok : ∀ (l : List Bs) (p : Nat) (src : Bs) (sc : List Sc) (a : Bs) (b : List Sc), (∀ x ∈ sc, okS x) → parseL l p src sc = .inl (a, b) → ∀ x ∈ b, okS x
  | [], p, src, sc, a, b, h, e => by
    simp only [parseL, Sum.inl.injEq, Prod.mk.injEq] at e
    rw [← e.2]; exact h
  | l :: ls, p, src, sc, a, b, h, e => by
    simp only [parseL] at e
    split at e
    · cases e
    · exact parseL_ok ls _ _ _ a b h e
    · rename_i x hx
      refine parseL_ok ls _ _ _ a b (fun y hy => ?_) e
      rcases List.mem_append.1 hy with hy | hy
      · exact h y hy
      · rw [List.mem_singleton] at hy
        subst hy; exact readW_ok hx

end Go.Proofs.YtmllhpnlceaneaaGreatDoor.sp
