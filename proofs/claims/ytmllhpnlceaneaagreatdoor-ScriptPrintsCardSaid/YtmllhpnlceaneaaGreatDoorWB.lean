/- A script's text as the program writes it. The statements on script, in the words of the plain functions: each is true. What is printed is read again; what is read is printed, and read, again the same: in the words of the plain functions. What the document writes of a source and scans; the law. No conditions. -/
import Derived.Test.YtmllhpnlceaneaaGreatDoorWA
import Derived.Test.YtmllhpnlceaneaaGreatDoorGd
set_option linter.unusedVariables false
set_option linter.unusedSimpArgs false
set_option linter.unusedSectionVars false
namespace Go.Proofs.YtmllhpnlceaneaaGreatDoor
open Go Go.Proofs Go.Dl
set_option maxRecDepth 100000

def i64r (n : Int) : Prop := -9223372036854775808 ≤ n ∧ n ≤ 9223372036854775807

theorem write73 (K : Nat) (addr : Bool) (buf : Bytes) (bad : Bool) (b : Bytes) (h : buf.length + b.length ≤ 140737488355328) :
    fnS (F13x48 K (⟨⟨addr, buf⟩, bad⟩ : S48) b) = some ((Int.ofNat b.length), none, (⟨⟨true, buf ++ b⟩, bad⟩ : S48)) := by
  unfold F13x48
  have e37 : fnS (F28x48 K (⟨⟨addr, buf⟩, bad⟩ : S48)) = some ⟨⟨true, buf⟩, bad⟩ := rfl
  rw [e37, Option.bind_some, chk_t (room_le (by simpa using h)), chk_nil]
  rfl

theorem byte73 (K : Nat) (addr : Bool) (buf : Bytes) (bad : Bool) (b : UInt8) (h : buf.length + 1 ≤ 140737488355328) :
    fnS (F15x48 K (⟨⟨addr, buf⟩, bad⟩ : S48) b) = some (none, (⟨⟨true, buf ++ [b]⟩, bad⟩ : S48)) := by
  unfold F15x48
  have e37 : fnS (F28x48 K (⟨⟨addr, buf⟩, bad⟩ : S48)) = some ⟨⟨true, buf⟩, bad⟩ := rfl
  rw [e37, Option.bind_some, chk_t (room_le (by simpa using h)), chk_nil]
  rfl

instance (n : Int) : Decidable (sp.okN n) := inferInstanceAs (Decidable (_ ∧ _))

theorem num_lib (K : Nat) (addr : Bool) (buf : Bytes) (bad : Bool) (n : Int) (hn : i64r n) (h : buf.length ≤ 100000000) :
    fnS (F14 K (⟨⟨addr, buf⟩, bad⟩ : S48) n) = some (⟨⟨true, buf ++ 32 :: Lib.itoa n⟩, bad || !decide (sp.okN n)⟩ : S48) := by
  unfold F14
  have e45 : fnS (F29 K n) = some (Lib.itoa n) := by unfold F29; rw [if_pos ⟨hn.1, hn.2⟩]; rfl
  have hl := Lib.itoa_length_le n hn.1 hn.2
  rw [e45, Option.bind_some, chk_t (vs := []) (room_le (by simp; omega)), chk_nil, write73 K addr buf _ _ (by simp; omega), Option.bind_some]
  have e : ((bad || decide (n < -2147483648)) || decide (n > 2147483648)) = (bad || !decide (sp.okN n)) := by
    rw [Bool.or_assoc]
    congr 1
    by_cases hk : sp.okN n
    · obtain ⟨h1, h2⟩ := id hk
      rw [decide_eq_true hk, decide_eq_false (by omega), decide_eq_false (by omega)]; rfl
    · rw [decide_eq_false hk, Bool.eq_iff_iff]
      simp only [Bool.or_eq_true, decide_eq_true_eq, Bool.not_false, iff_true]
      have : ¬ (-2147483648 ≤ n ∧ n ≤ 2147483648) := hk
      omega
  show some _ = some _
  rw [show ((⟨⟨addr, buf⟩, bad⟩ : S48).fbad || decide (n < -2147483648) || decide (n > 2147483648)) = _ from e]
  rfl

/-- May a scan be written? -/
def scOk (x : S35) : Bool := decide (sp.okN x.fTicks) && x.fIn.all (fun n => decide (sp.okN n)) && decide (x.fIn.length ≤ 16)

theorem scOk_iff (x : S35) : scOk x = true ↔ sp.okS x := by
  unfold scOk
  simp only [Bool.and_eq_true, decide_eq_true_eq, List.all_eq_true]
  constructor
  · rintro ⟨⟨h1, h2⟩, h3⟩; exact ⟨h1, h2, h3⟩
  · rintro ⟨h1, h2, h3⟩; exact ⟨⟨h1, h2⟩, h3⟩

theorem numsB_append : ∀ (a b : List Int), sp.numsB (a ++ b) = sp.numsB a ++ sp.numsB b
  | [], b => rfl
  | n :: a, b => by simp [sp.numsB, numsB_append a b]

theorem numsB_len : ∀ (l : List Int), (∀ n ∈ l, i64r n) → (sp.numsB l).length ≤ 22 * l.length
  | [], _ => by simp [sp.numsB]
  | n :: r, h => by
    have h1 := Lib.itoa_length_le n (h n (List.mem_cons_self ..)).1 (h n (List.mem_cons_self ..)).2
    have h2 := numsB_len r (fun m hm => h m (List.mem_cons_of_mem _ hm))
    simp only [sp.numsB, List.cons_append, List.length_cons, List.length_append]
    omega

/-- What is written, or what is wrong. -/
def printF (src : Bytes) (l : List S35) : Bytes × Err :=
  if l.all scOk = true then (if 65536 < (sp.printB src l).length then ([], some (24, 0)) else (sp.printB src l, none)) else ([], some (22, 0))

/-- The numbers of a scan that a call may be handed. -/
structure ScR (x : S35) : Prop where
  t : i64r x.fTicks
  n : ∀ m ∈ x.fIn, i64r m
  len : x.fIn.length ≤ 20

theorem print_lib (K : Nat) (src : Bytes) (l : List S35) (hs : src.length ≤ 40000) (hl : l.length ≤ 80000) (hr : ∀ x ∈ l, ScR x) (hK : 100000 < K) : fnS (F6 K src l) = some (printF src l) := by
  unfold F6
  have hh : (sh.hexF src).length ≤ 80001 := by
    unfold sh.hexF
    split
    · simp
    · rw [sh.hexL_len]; omega
  rw [hex_eq K src (by omega) (by omega), Option.bind_some]
  rw [chk_t (room_le (by simp; omega)), chk_t (vs := []) (room_le (by simp; omega)), chk_nil]
  simp only [letV]
  rw [write73 K false [] false _ (by simp; omega), Option.bind_some]
  simp only [List.nil_append]
  have e0 : ([115, 114, 99, 32] : Bytes) ++ sh.hexF src ++ [10] = sp.srcB ++ 32 :: sh.hexF src ++ [10] := by simp [sp.srcB]
  rw [e0]
  generalize hp0 : sp.srcB ++ 32 :: sh.hexF src ++ [10] = p0
  have hp0l : p0.length ≤ 80010 := by rw [← hp0]; simp [sp.srcB]; omega
  -- the scans
  refine iter_ctx (C := fun o => fnS (bindS (blockS (o.map .inl)) _) = some _) (fun t : Bool × List UInt8 × Bool × Int => l.length - t.2.2.2.toNat)
    (fun t (a : (Bool × List UInt8 × Bool) ⊕ (Bytes × Err)) => ∃ f bad, a = .inl (f, t.2.1 ++ sp.linesB (l.drop t.2.2.2.toNat), bad) ∧ bad = (t.2.2.1 || !(l.drop t.2.2.2.toNat).all scOk))
    (fun t => 0 ≤ t.2.2.2 ∧ t.2.2.2.toNat ≤ l.length ∧ t.2.1.length ≤ 80010 + 1000 * t.2.2.2.toNat) (by simp; omega) (by simp; omega) ?_ ?_
  · rintro ⟨addr, buf, bad, i⟩ ⟨g1, g2, g3⟩
    dsimp +instances only at g1 g2 g3 ⊢
    obtain ⟨x, hxe⟩ : ∃ x, x = l.getD i.toNat default := ⟨_, rfl⟩
    rw [← hxe]
    obtain ⟨n, rfl⟩ : ∃ n : Nat, i = (n : Int) := ⟨i.toNat, by omega⟩
    simp only [Int.toNat_natCast] at g2 g3 hxe ⊢
    have en : IntKind.i64.wrap ((n : Int) + 1) = ((n + 1 : Nat) : Int) := wrap64 (by omega) (by omega)
    by_cases hn : n < l.length
    · left
      have hd := drop_getDT l default n hn
      have hm : l.getD n default ∈ l := by simp [List.getD, List.getElem?_eq_getElem hn]
      rw [if_pos (c := decide _ = true) (by simp; omega), chk_t (vs := []) (inb_nat hn), chk_nil, hd]
      rw [← hxe] at hm ⊢
      have hx := hr _ hm
      rw [write73 K addr buf bad _ (by simp; omega), Option.bind_some, num_lib K true _ _ _ hx.t (by simp; omega), Option.bind_some]
      generalize hit : iter K _ _ = o
      have hQ : ∃ f, o = some (.inl (f, buf ++ sp.lineB x, bad || !scOk x)) := by
        rw [← hit]
        have hb0 : ∀ (a b c : Bool), ((bad || !a) || c) = (bad || !(a && !c)) := by intro a b c; cases bad <;> cases a <;> cases c <;> rfl
        refine iter_ctx (C := fun o => ∃ f, o = some (Sum.inl (f, buf ++ sp.lineB x, bad || !scOk x))) (fun t : Bool × List UInt8 × Bool × Int => x.fIn.length - t.2.2.2.toNat)
          (fun t a => ∃ f, a = Sum.inl (f, t.2.1 ++ sp.numsB (x.fIn.drop t.2.2.2.toNat), t.2.2.1 || !(x.fIn.drop t.2.2.2.toNat).all (fun n => decide (sp.okN n))))
          (fun t => 0 ≤ t.2.2.2 ∧ t.2.2.2.toNat ≤ x.fIn.length ∧ t.2.1.length ≤ 90000000 + 22 * t.2.2.2.toNat) (by
            have := Lib.itoa_length_le x.fTicks hx.t.1 hx.t.2
            simp; omega) (by have := hx.len; simp; omega) ?_ ?_
        · rintro ⟨addr2, buf2, bad2, j⟩ ⟨f1, f2, f3⟩
          dsimp +instances only at f1 f2 f3 ⊢
          obtain ⟨k, rfl⟩ : ∃ k : Nat, j = (k : Int) := ⟨j.toNat, by omega⟩
          simp only [Int.toNat_natCast] at f2 f3 ⊢
          have hlen := hx.len
          have ek : IntKind.i64.wrap ((k : Int) + 1) = ((k + 1 : Nat) : Int) := wrap64 (by omega) (by omega)
          by_cases hk : k < x.fIn.length
          · left
            have hd2 := drop_getDT x.fIn default k hk
            have hm2 : x.fIn.getD k default ∈ x.fIn := by simp [List.getD, List.getElem?_eq_getElem hk]
            have hy := hx.n _ hm2
            rw [if_pos (c := decide _ = true) (by simp; omega), chk_t (vs := []) (inb_nat hk), chk_nil, hd2]
            generalize x.fIn.getD k default = y at *
            have hyl := Lib.itoa_length_le y hy.1 hy.2
            rw [num_lib K addr2 buf2 bad2 y hy (by omega), Option.bind_some]
            refine ⟨(true, buf2 ++ 32 :: Lib.itoa y, bad2 || !decide (sp.okN y), ((k + 1 : Nat) : Int)), ?_, ⟨by dsimp only; omega, by simp; omega, by simp; omega⟩, by simp; omega, ?_⟩
            · rw [blockS_r, bindS_r, ek]
            · rintro a ⟨f, rfl⟩
              refine ⟨f, ?_⟩
              simp only [Int.toNat_natCast, sp.numsB, List.all_cons, List.append_assoc, List.cons_append, Bool.or_assoc, Bool.not_and]
          · right
            rw [if_neg (c := decide _ = true) (by simp; omega)]
            refine ⟨_, rfl, addr2, ?_⟩
            rw [List.drop_eq_nil_of_le (by omega)]
            simp [sp.numsB]
        · rintro a ⟨f, rfl⟩
          refine ⟨f, ?_⟩
          simp only [Int.toNat_zero, List.drop_zero]
          congr 4
          · simp [sp.lineB, sp.numsB, sp.scanB]
          · have hd16 : decide ((Int.ofNat x.fIn.length) > 16) = !decide (x.fIn.length ≤ 16) := by
              rw [Bool.eq_iff_iff]
              simp only [decide_eq_true_eq, Bool.not_eq_true', decide_eq_false_iff_not, Int.ofNat_eq_natCast]
              omega
            unfold scOk
            rw [hd16]
            cases bad <;> cases decide (sp.okN x.fTicks) <;> cases x.fIn.all (fun n => decide (sp.okN n)) <;> cases decide (x.fIn.length ≤ 16) <;> rfl
      obtain ⟨f, rfl⟩ := hQ
      have hll : (sp.lineB x).length ≤ 600 := by
        have := numsB_len (x.fTicks :: x.fIn) (fun m hm => by
          rcases List.mem_cons.1 hm with rfl | hm
          · exact hx.t
          · exact hx.n m hm)
        have h4 := hx.len
        simp only [List.length_cons] at this
        unfold sp.lineB
        simp only [List.length_append, sp.scanB, List.length_cons, List.length_nil]
        omega
      refine ⟨(true, buf ++ sp.lineB x ++ [10], bad || !scOk x, ((n + 1 : Nat) : Int)), ?_, ⟨by dsimp only; omega, by simp; omega, by simp; omega⟩, by simp; omega, ?_⟩
      · show bindS (blockS (bindS (some (Sum.inr (f, buf ++ sp.lineB x, bad || !scOk x))) _)) _ = _
        rw [bindS_r]
        have h10 : b8 10 = 10 := rfl
        rw [h10]
        dsimp only
        rw [byte73 K f _ _ 10 (by simp; omega), Option.bind_some, blockS_r, bindS_r, en]
      · rintro a ⟨f2, bad2, rfl, rfl⟩
        refine ⟨f2, _, ?_, rfl⟩
        simp only [Int.toNat_natCast, List.all_cons, Bool.or_assoc, Bool.not_and, sp.linesB, List.append_assoc, List.cons_append, List.nil_append]
    · right
      rw [if_neg (c := decide _ = true) (by simp; omega)]
      refine ⟨_, rfl, addr, bad, ?_, ?_⟩
      · rw [List.drop_eq_nil_of_le (by omega)]; simp [sp.linesB]
      · rw [List.drop_eq_nil_of_le (by omega)]; simp
  · rintro a ⟨f, bad, rfl, rfl⟩
    simp only [Int.toNat_zero, List.drop_zero, Bool.false_or]
    show fnS (bindS (some (Sum.inr (f, p0 ++ sp.linesB l, !l.all scOk))) _) = _
    rw [bindS_r]
    dsimp only
    unfold printF
    have hpb : sp.printB src l = p0 ++ sp.linesB l := by rw [← hp0]; unfold sp.printB; simp
    rw [hpb]
    cases hall : l.all scOk with
    | false => rfl
    | true =>
      rw [if_neg (by simp), if_pos rfl]
      have e33 : fnS (F17x48 K (⟨⟨f, p0 ++ sp.linesB l⟩, !true⟩ : S48)) = some (Int.ofNat (p0 ++ sp.linesB l).length, ⟨⟨f, p0 ++ sp.linesB l⟩, !true⟩) := rfl
      rw [e33, Option.bind_some]
      dsimp only
      by_cases hb : 65536 < (p0 ++ sp.linesB l).length
      · rw [if_pos hb, if_pos (by simp at hb ⊢; omega)]
        rfl
      · rw [if_neg hb, if_neg (by simp at hb ⊢; omega)]
        rfl

end Go.Proofs.YtmllhpnlceaneaaGreatDoor

set_option linter.unusedVariables false
set_option linter.unusedSimpArgs false
set_option linter.unusedSectionVars false
namespace Go.Proofs.YtmllhpnlceaneaaGreatDoor
open Go Go.Proofs Go.Dl
set_option maxRecDepth 100000

theorem parse1 : parseF ([115, 114, 99, 32, 54, 49, 54, 50, 10, 115, 99, 97, 110, 32, 50, 32, 45, 53, 32, 55, 10, 115, 114, 99, 32, 54, 51, 10] : Bytes) = ([97, 98, 99], [⟨[-5, 7], 2⟩], none) := by kernel_rfl
theorem parse2 : parseF ([115, 114, 99, 32, 54, 49, 10, 115, 99, 97, 110, 32, 48, 50] : Bytes) = ([], [], some (23, 2)) := by kernel_rfl
theorem hex1 : sh.hexF ([15, 122] : Bytes) = [48, 102, 55, 97] := by kernel_rfl

theorem awake_true (K : Nat) (hK : 1000001 < K) : fnS (F5 K) = some true := by
  unfold F5
  rw [parse_lib K _ (by simp) (by omega), Option.bind_some, parse1, parse_lib K _ (by simp) (by omega), Option.bind_some, parse2]
  have e14 : fnS (F10 K (some (23, 2))) = some (23, 2) := rfl
  dsimp only
  rw [e14, Option.bind_some, sameScans K _ _ (by simp) (by simp; omega) (fun x hx => by
    simp only [List.mem_singleton] at hx
    subst hx
    exact ⟨by simp, by simp; omega⟩), decide_eq_true rfl, chk_t (by rfl), chk_nil, condM_t, Option.bind_some]
  simp only [letV]
  rw [hex_eq K _ (by simp) (by simp; omega), hex1]
  rfl

theorem and_awake (K : Nat) (hK : 1000001 < K) (x : Bool) (hx : x = true) : fnS ((condM x (fnS (F5 K)) default).bind (fun r => (some (.inl (x && r)) : Option (Bool ⊕ Bool)))) = some true := by
  subst hx
  rw [condM_t, awake_true K hK]; rfl

theorem wrong_some (K : Nat) (x : Int × Int) : fnS (F10 K (some x)) = some x := rfl
theorem wrong_none (K : Nat) : fnS (F10 K none) = some (0, 0) := rfl

end Go.Proofs.YtmllhpnlceaneaaGreatDoor

set_option linter.unusedVariables false
set_option linter.unusedSimpArgs false
set_option linter.unusedSectionVars false
namespace Go.Proofs.YtmllhpnlceaneaaGreatDoor
open Go Go.Proofs Go.Dl
set_option maxRecDepth 100000

theorem great_eq (K : Nat) (hK : 1000001 < K) (l : List S35) : fnS (F4 K l 40) = some (decide (40 < l.length) || l.any fun x => decide (20 < x.fIn.length)) := by
  unfold F4
  simp only [letV]
  rw [iter_run (fun t : Int => if 40 < l.length then 0 else l.length - t.toNat) (fun t => bif (!decide (40 < l.length) && (l.drop t.toNat).any fun x => decide (20 < x.fIn.length)) then (Sum.inr true : Unit ⊕ Bool) else Sum.inl ()) (fun t => 0 ≤ t ∧ t.toNat ≤ l.length) ?_ K _ (by simp) (by split <;> (try simp only [Int.toNat_zero]) <;> omega)]
  · simp only [Int.toNat_zero, List.drop_zero]
    have e : decide ((Int.ofNat l.length : Int) > 40) = decide (40 < l.length) := by
      rw [Bool.eq_iff_iff]; simp only [decide_eq_true_eq, Int.ofNat_eq_natCast]; omega
    rw [e]
    cases decide (40 < l.length) <;> cases (l.any fun x => decide (20 < x.fIn.length)) <;> rfl
  · rintro i ⟨g1, g2⟩
    obtain ⟨x, hxe⟩ : ∃ x, x = l.getD i.toNat default := ⟨_, rfl⟩
    rw [← hxe]
    obtain ⟨n, rfl⟩ : ∃ n : Nat, i = (n : Int) := ⟨i.toNat, by omega⟩
    simp only [Int.toNat_natCast] at g2 hxe ⊢
    by_cases h40 : 40 < l.length
    · right
      rw [if_neg (c := (_ && _) = true) (by simp; omega), decide_eq_true h40]
      rfl
    · rw [decide_eq_false h40]
      simp only [Bool.not_false, Bool.true_and]
      by_cases hn : n < l.length
      · have hd := drop_getDT l default n hn
        rw [if_pos (c := (_ && _) = true) (by simp; omega), chk_t (vs := []) (inb_nat hn), chk_nil, hd, ← hxe, List.any_cons]
        by_cases hx : 20 < x.fIn.length
        · right
          rw [if_pos (c := decide _ = true) (by simp; omega), decide_eq_true hx]
          rfl
        · left
          rw [if_neg (c := decide _ = true) (by simp; omega), decide_eq_false hx]
          refine ⟨((n + 1 : Nat) : Int), ?_, ⟨by omega, by simp; omega⟩, ?_, ?_⟩
          · rw [blockS_r, bindS_r, wrap64 (by omega) (by omega)]; rfl
          · rw [if_neg h40, if_neg h40]; simp; omega
          · simp
      · right
        rw [if_neg (c := (_ && _) = true) (by simp; omega), List.drop_eq_nil_of_le (by omega)]
        rfl

theorem all_scOk {l : List S35} : l.all scOk = true ↔ ∀ x ∈ l, sp.okS x := by
  rw [List.all_eq_true]
  exact ⟨fun h x hx => (scOk_iff x).1 (h x hx), fun h x hx => (scOk_iff x).2 (h x hx)⟩

end Go.Proofs.YtmllhpnlceaneaaGreatDoor

set_option linter.unusedVariables false
set_option linter.unusedSimpArgs false
set_option linter.unusedSectionVars false
namespace Go.Proofs.YtmllhpnlceaneaaGreatDoor
open Go Go.Proofs Go.Dl
set_option maxRecDepth 100000

theorem may_eq (K : Nat) (n : Int) : fnS (F20 K n) = some (decide (sp.okN n)) := by
  unfold F20
  simp only [letV]
  have e : (decide (n ≥ -2147483648) && decide (n ≤ 2147483648)) = decide (sp.okN n) := by
    rw [Bool.eq_iff_iff]
    simp only [Bool.and_eq_true, decide_eq_true_eq]
    exact Iff.rfl
  rw [e]; rfl

theorem ten_fin : ∀ i : Fin 10, (([48, 49, 50, 51, 52, 53, 54, 55, 56, 57] : Bytes).drop i.val).take 1 = [UInt8.ofNat (48 + i.val)] := by decide +kernel
theorem ten_at (i : Nat) (h : i < 10) : (([48, 49, 50, 51, 52, 53, 54, 55, 56, 57] : Bytes).drop i).take 1 = [UInt8.ofNat (48 + i)] := ten_fin ⟨i, h⟩

theorem dec_small (K n : Nat) (hn : n < 10) : fnS (F21 (K + 1) (n : Int)) = some (Lib.decDigits n) := by
  rw [F21]
  rw [if_neg (by rw [decide_eq_true_eq]; omega), if_pos (by rw [decide_eq_true_eq]; omega)]
  have ew : IntKind.i64.wrap ((n : Int) + 1) = ((n + 1 : Nat) : Int) := wrap64 (by omega) (by omega)
  rw [ew, chk_t (vs := []) (by simp [bndOk]; omega), chk_nil]
  simp only [letV]
  rw [Int.toNat_natCast, Int.toNat_natCast, Nat.add_sub_cancel_left, ten_at n hn, Lib.decDigits_one hn]; rfl

theorem dec_nat : ∀ (K n : Nat), n < 10 ^ K → n ≤ 2147483648 → fnS (F21 (K + 1) (n : Int)) = some (Lib.decDigits n)
  | 0, n, h, h31 => dec_small 0 n (Nat.lt_of_lt_of_le h (by decide))
  | K + 1, n, h, h31 => by
    by_cases hn : n < 10
    · exact dec_small (K + 1) n hn
    · rw [F21]
      rw [if_neg (by rw [decide_eq_true_eq]; omega), if_neg (by rw [decide_eq_true_eq]; omega)]
      have em : ((n : Int)).tmod 10 = ((n % 10 : Nat) : Int) := by rw [Int.tmod_eq_emod_of_nonneg (by omega)]; simp
      have ed : ((n : Int)).tdiv 10 = ((n / 10 : Nat) : Int) := by rw [Int.tdiv_eq_ediv_of_nonneg (by omega)]; simp
      have ih := dec_nat K (n / 10) (by rw [Nat.pow_succ] at h; omega) (by omega)
      rw [em, ed, wrap64 (by omega) (by omega), chk_t (by rfl), chk_nil, ih, Option.bind_some, chk_t (by rfl), chk_nil, dec_small K (n % 10) (by omega), Option.bind_some]
      have hl : (Lib.decDigits (n / 10)).length ≤ 20 := by rw [Lib.decDigits_length]; exact Lib.nDigits_le20 _ (by omega)
      rw [Lib.decDigits_one (show n % 10 < 10 by omega)]
      rw [chk_t (vs := []) (room_le (by simp; omega)), chk_nil]
      have : Lib.decDigits n = Lib.decDigits (n / 10) ++ [UInt8.ofNat (48 + n % 10)] := by rw [Lib.decDigits, dif_neg hn]
      rw [this]; rfl

theorem dec_ref (K : Nat) (n : Int) (hK : 30 < K) (h : sp.okN n) : fnS (F21 K n) = some (Lib.itoa n) := by
  obtain ⟨h1, h2⟩ := h
  obtain ⟨k, rfl⟩ : ∃ k, K = k + 2 := ⟨K - 2, by omega⟩
  have hp : ∀ m : Nat, m ≤ 2147483648 → ∀ j, 20 ≤ j → m < 10 ^ j := by
    intro m hm j hj
    have : (10 : Nat) ^ 20 ≤ 10 ^ j := Nat.pow_le_pow_right (by decide) hj
    omega
  by_cases hn : n < 0
  · rw [F21]
    rw [if_pos (by rw [decide_eq_true_eq]; exact hn)]
    have e : IntKind.i64.wrap (0 - n) = ((n.natAbs : Nat) : Int) := by rw [wrap64 (by omega) (by omega)]; omega
    have hd := dec_nat k n.natAbs (hp _ (by omega) k (by omega)) (by omega)
    rw [e, hd, Option.bind_some]
    have hl : (Lib.decDigits n.natAbs).length ≤ 20 := by rw [Lib.decDigits_length]; exact Lib.nDigits_le20 _ (by omega)
    rw [chk_t (vs := []) (room_le (by simp; omega)), chk_nil]
    have : Lib.itoa n = 45 :: Lib.decDigits n.natAbs := by unfold Lib.itoa; rw [if_pos hn]
    rw [this]; rfl
  · obtain ⟨m, rfl⟩ : ∃ m : Nat, n = (m : Int) := ⟨n.toNat, by omega⟩
    rw [dec_nat (k + 1) m (hp _ (by omega) _ (by omega)) (by omega)]
    have : Lib.itoa (m : Int) = Lib.decDigits m := by unfold Lib.itoa; rw [if_neg hn]; simp
    rw [this]

/-- The document's answer, by the plain one. -/
def printR (src : Bytes) (l : List S35) : Bytes × Int :=
  if l.all scOk = true then (if 65536 < (sp.printB src l).length then ([], 24) else (sp.printB src l, 0)) else ([], 22)

theorem print_ref (K : Nat) (src : Bytes) (l : List S35) (hs : src.length ≤ 40000) (hl : l.length ≤ 40) (hr : ∀ x ∈ l, ScR x) (hK : 100000 < K) : fnS (F7 K src l) = some (printR src l) := by
  unfold F7
  have hh : (sh.hexF src).length ≤ 80001 := by
    unfold sh.hexF
    split
    · simp
    · rw [sh.hexL_len]; omega
  rw [hex_ref K src (by omega) (by omega), Option.bind_some]
  rw [chk_t (room_le (by simp; omega)), chk_t (vs := []) (room_le (by simp; omega)), chk_nil]
  simp only [letV]
  have e0 : ([115, 114, 99, 32] : Bytes) ++ sh.hexF src ++ [10] = sp.srcB ++ 32 :: sh.hexF src ++ [10] := by simp [sp.srcB]
  rw [e0]
  generalize hp0 : sp.srcB ++ 32 :: sh.hexF src ++ [10] = p0
  have hp0l : p0.length ≤ 80010 := by rw [← hp0]; simp [sp.srcB]; omega
  have hpb : sp.printB src l = p0 ++ sp.linesB l := by rw [← hp0]; unfold sp.printB; simp
  rw [iter_run (fun t : Bytes × Int => l.length - t.2.toNat) (fun t => if (l.drop t.2.toNat).all scOk = true then Sum.inl (t.1 ++ sp.linesB (l.drop t.2.toNat)) else Sum.inr (([] : Bytes), (22 : Int)))
    (fun t => 0 ≤ t.2 ∧ t.2.toNat ≤ l.length ∧ t.1.length ≤ 80010 + 1000 * t.2.toNat) ?_ K _ (by simp; omega) (by simp; omega)]
  · simp only [Int.toNat_zero, List.drop_zero]
    unfold printR
    rw [hpb]
    cases hall : l.all scOk with
    | false => rfl
    | true =>
      rw [if_pos rfl]
      show fnS (bindS (some (Sum.inr (p0 ++ sp.linesB l))) _) = _
      rw [bindS_r]
      by_cases hb : 65536 < (p0 ++ sp.linesB l).length
      · rw [if_pos rfl, if_pos hb, if_pos (by simp at hb ⊢; omega)]; rfl
      · rw [if_pos rfl, if_neg hb, if_neg (by simp at hb ⊢; omega)]; rfl
  · rintro ⟨buf, i⟩ ⟨g1, g2, g3⟩
    dsimp +instances only at g1 g2 g3 ⊢
    obtain ⟨x, hxe⟩ : ∃ x, x = l.getD i.toNat default := ⟨_, rfl⟩
    rw [← hxe]
    obtain ⟨n, rfl⟩ : ∃ n : Nat, i = (n : Int) := ⟨i.toNat, by omega⟩
    simp only [Int.toNat_natCast] at g2 g3 hxe ⊢
    have en : IntKind.i64.wrap ((n : Int) + 1) = ((n + 1 : Nat) : Int) := wrap64 (by omega) (by omega)
    by_cases hn : n < l.length
    · have hd := drop_getDT l default n hn
      have hm : l.getD n default ∈ l := by simp [List.getD, List.getElem?_eq_getElem hn]
      rw [if_pos (c := decide _ = true) (by simp; omega), chk_t (vs := []) (inb_nat hn), chk_nil, hd]
      rw [← hxe] at hm ⊢
      have hx := hr _ hm
      rw [may_eq, Option.bind_some]
      by_cases hbad : ¬ sp.okN x.fTicks ∨ 16 < x.fIn.length
      · right
        have hsc : scOk x = false := by
          unfold scOk
          rcases hbad with h | h
          · rw [decide_eq_false h]; rfl
          · rw [show decide (x.fIn.length ≤ 16) = false from decide_eq_false (by omega), Bool.and_false]
        have hc : (!decide (sp.okN x.fTicks) || decide (Int.ofNat x.fIn.length > 16)) = true := by
          rcases hbad with h | h
          · rw [decide_eq_false h]; rfl
          · rw [Bool.or_eq_true]; right; simp; omega
        rw [if_pos hc, List.all_cons, hsc]
        rfl
      · have hok : sp.okN x.fTicks ∧ x.fIn.length ≤ 16 := by
          constructor
          · exact Decidable.not_not.1 fun h => hbad (.inl h)
          · exact Nat.le_of_not_lt fun h => hbad (.inr h)
        have hc : ¬ (!decide (sp.okN x.fTicks) || decide (Int.ofNat x.fIn.length > 16)) = true := by
          rw [decide_eq_true hok.1]
          simp; omega
        have htl := Lib.itoa_length_le x.fTicks hx.t.1 hx.t.2
        rw [if_neg hc, dec_ref K _ (by omega) hok.1, Option.bind_some, chk_t (vs := []) (room_le (by simp; omega)), chk_nil]
        rw [iter_run (fun t : Bytes × Int => x.fIn.length - t.2.toNat) (fun t => if (x.fIn.drop t.2.toNat).all (fun n => decide (sp.okN n)) = true then Sum.inl (t.1 ++ sp.numsB (x.fIn.drop t.2.toNat)) else Sum.inr (Sum.inr (Sum.inr (([] : Bytes), (22 : Int)))))
          (fun t => 0 ≤ t.2 ∧ t.2.toNat ≤ x.fIn.length ∧ t.1.length ≤ 100 + 22 * t.2.toNat) ?_ K _ (by simp; omega) (by simp; omega)]
        · simp only [Int.toNat_zero, List.drop_zero]
          cases hall : x.fIn.all (fun n => decide (sp.okN n)) with
          | false =>
            right
            have hsc : scOk x = false := by unfold scOk; rw [hall]; simp
            rw [List.all_cons, hsc]
            rfl
          | true =>
            left
            have hsc : scOk x = true := by unfold scOk; rw [hall, decide_eq_true hok.1, decide_eq_true hok.2]; rfl
            have hlb : ([115, 99, 97, 110, 32] : Bytes) ++ Lib.itoa x.fTicks ++ sp.numsB x.fIn = sp.lineB x := by simp [sp.lineB, sp.numsB, sp.scanB]
            have hll : (sp.lineB x).length ≤ 600 := by
              have := numsB_len (x.fTicks :: x.fIn) (fun m hm => by
                rcases List.mem_cons.1 hm with rfl | hm
                · exact hx.t
                · exact hx.n m hm)
              have h4 := hx.len
              simp only [List.length_cons] at this
              unfold sp.lineB
              simp only [List.length_append, sp.scanB, List.length_cons, List.length_nil]
              omega
            refine ⟨(buf ++ (sp.lineB x ++ [10]), ((n + 1 : Nat) : Int)), ?_, ⟨by dsimp only; omega, by simp; omega, by simp; omega⟩, by simp; omega, ?_⟩
            · rw [if_pos rfl]
              show bindS (blockS (bindS (some (Sum.inr (([115, 99, 97, 110, 32] : Bytes) ++ Lib.itoa x.fTicks ++ sp.numsB x.fIn))) _)) _ = _
              rw [bindS_r, hlb, chk_t (room_le (by simp; omega)), chk_nil, chk_t (room_le (by simp; omega)), chk_nil, blockS_r, bindS_r, en]
            · simp only [Int.toNat_natCast, List.all_cons, hsc, Bool.true_and, sp.linesB, List.append_assoc, List.cons_append, List.nil_append]
        · rintro ⟨t, j⟩ ⟨f1, f2, f3⟩
          dsimp +instances only at f1 f2 f3 ⊢
          obtain ⟨k, rfl⟩ : ∃ k : Nat, j = (k : Int) := ⟨j.toNat, by omega⟩
          simp only [Int.toNat_natCast] at f2 f3 ⊢
          have ek : IntKind.i64.wrap ((k : Int) + 1) = ((k + 1 : Nat) : Int) := wrap64 (by omega) (by omega)
          by_cases hk : k < x.fIn.length
          · have hd2 := drop_getDT x.fIn default k hk
            have hm2 : x.fIn.getD k default ∈ x.fIn := by simp [List.getD, List.getElem?_eq_getElem hk]
            have hy := hx.n _ hm2
            rw [if_pos (c := decide _ = true) (by simp; omega), chk_t (vs := []) (inb_nat hk), chk_nil, hd2, may_eq, Option.bind_some]
            have hinb := inb_nat hk
            generalize x.fIn.getD k default = y at *
            by_cases ho : sp.okN y
            · left
              have hyl := Lib.itoa_length_le y hy.1 hy.2
              rw [decide_eq_true ho]
              refine ⟨(t ++ 32 :: Lib.itoa y, ((k + 1 : Nat) : Int)), ?_, ⟨by dsimp only; omega, by simp; omega, by simp; omega⟩, by simp; omega, ?_⟩
              · rw [if_neg (by simp), chk_t (room_le (by simp; omega)), chk_t (vs := []) hinb, chk_nil, dec_ref K y (by omega) ho, Option.bind_some, chk_t (vs := []) (room_le (by simp; omega)), chk_nil, blockS_r, bindS_r, ek]
                simp
              · simp only [Int.toNat_natCast, List.all_cons, decide_eq_true ho, Bool.true_and, sp.numsB, List.append_assoc, List.cons_append]
            · right
              rw [decide_eq_false ho, if_pos (by simp), List.all_cons, decide_eq_false ho]
              rfl
          · right
            rw [if_neg (c := decide _ = true) (by simp; omega), List.drop_eq_nil_of_le (by omega)]
            simp [sp.numsB]
    · right
      rw [if_neg (c := decide _ = true) (by simp; omega), List.drop_eq_nil_of_le (by omega)]
      simp [sp.linesB]

/-- The law. -/
theorem prints_law (K : Nat) (hK : 1000001 < K) (src : Bytes) (l : List S35) (hr : ∀ x ∈ l, i64r x.fTicks ∧ ∀ m ∈ x.fIn, i64r m) : fnS (F3 K src l) = some true := by
  unfold F3
  simp only [letV]
  by_cases h : src.length ≤ 40000
  · have e1 : decide (Int.ofNat src.length > 40000) = false := by simp; omega
    rw [e1, Bool.not_false, condM_t, great_eq K hK, Option.bind_some, Bool.false_or]
    cases hg : (decide (40 < l.length) || l.any fun x => decide (20 < x.fIn.length)) with
    | true => rw [if_pos rfl, awake_true K hK]; rfl
    | false =>
      rw [if_neg (by simp)]
      rw [Bool.or_eq_false_iff] at hg
      obtain ⟨g1, g2⟩ := hg
      have h40 : l.length ≤ 40 := by simpa using g1
      have hS : ∀ x ∈ l, ScR x := by
        intro x hx
        refine ⟨(hr x hx).1, (hr x hx).2, ?_⟩
        have := List.any_eq_false.1 g2 x hx
        simpa using this
      rw [print_lib K src l h (by omega) hS (by omega), Option.bind_some, print_ref K src l h h40 hS (by omega), Option.bind_some]
      have key : (printF src l).1 = (printR src l).1 ∧ fnS (F8 K (printF src l).2) = some (printR src l).2 := by
        unfold printF printR
        split
        · split
          · exact ⟨rfl, rfl⟩
          · exact ⟨rfl, rfl⟩
        · exact ⟨rfl, rfl⟩
      obtain ⟨k1, k2⟩ := key
      have b1 : ((printF src l).1 == (printR src l).1) = true := by rw [k1]; simp
      have b2 : ((printR src l).2 == (printR src l).2) = true := by simp
      rw [b1, condM_t, k2, Option.bind_some, b2, Bool.and_self, condM_t, awake_true K hK]; rfl
  · have e1 : decide (Int.ofNat src.length > 40000) = true := by simp; omega
    rw [e1, Bool.not_true, condM_f, Option.bind_some, Bool.true_or, if_pos rfl, awake_true K hK]; rfl
end Go.Proofs.YtmllhpnlceaneaaGreatDoor
