/- Bytes and their digits: what the printed functions come to. Lists that are compared; numbers, scans and a script's text as the program reads them. Numbers, and scans, as the program and the document read them. Scans, and a script's text, as the program reads them. A script's text as the program reads it. No conditions. -/
import Derived.Test.YtmllhpnlceaneaaGreatDoorGa
import Derived.Test.YtmllhpnlceaneaaGreatDoorP3
import Derived.Test.YtmllhpnlceaneaaGreatDoorGc
set_option linter.unusedVariables false
set_option linter.unusedSimpArgs false
set_option linter.unusedSectionVars false
namespace Go.Proofs.YtmllhpnlceaneaaGreatDoor
open Go Go.Proofs Go.Dl
set_option maxRecDepth 100000

def digs : Bytes := [48, 49, 50, 51, 52, 53, 54, 55, 56, 57, 97, 98, 99, 100, 101, 102]

theorem digs_at : ∀ n : Nat, n < 16 → digs.getD n 0 = sh.dg n := by decide

theorem byte_all {p : UInt8 → Bool} (h : (List.range 256).all (fun n => p (UInt8.ofNat n)) = true) (c : UInt8) : p c = true := by
  have := List.all_eq_true.1 h c.toNat (List.mem_range.2 c.toNat_lt)
  simpa using this

theorem index_dig (c : UInt8) : Lib.indexByte digs c = sh.ud c := by
  have := byte_all (p := fun c => decide (Lib.indexByte digs c = sh.ud c)) (by kernel_rfl) c
  simpa using this

theorem ud_lt (c : UInt8) : sh.ud c < 16 := by
  have := byte_all (p := fun c => decide (sh.ud c < 16)) (by kernel_rfl) c
  simpa using this

theorem drop_getD (l : Bytes) (n : Nat) (h : n < l.length) : l.drop n = l.getD n 0 :: l.drop (n + 1) := by
  rw [List.drop_eq_getElem_cons h]
  simp [List.getD, List.getElem?_eq_getElem h]

theorem hex_eq (K : Nat) (a0 : Bytes) (hl : a0.length ≤ 1000000) (hK : a0.length < K) : fnS (F12 K a0) = some (sh.hexF a0) := by
  unfold F12
  by_cases h0 : a0 = []
  · subst h0; rfl
  · rw [if_neg (by simpa using h0), iter_run (fun t : Bytes × Int => a0.length - t.2.toNat) (fun t => Sum.inl (t.1 ++ sh.hexL (a0.drop t.2.toNat))) (fun t => 0 ≤ t.2 ∧ t.2.toNat ≤ a0.length ∧ t.1.length ≤ 2 * t.2.toNat) ?_ K _ (by simp) (by simpa using hK)]
    · show some (sh.hexL a0) = some (sh.hexF a0)
      unfold sh.hexF
      rw [if_neg h0]
    · rintro ⟨out, i⟩ ⟨h1, h2, h3⟩
      obtain ⟨n, rfl⟩ : ∃ n : Nat, i = (n : Int) := ⟨i.toNat, by simp at h1; omega⟩
      simp only [Int.toNat_natCast] at h2 h3
      simp only [letV, Int.toNat_natCast]
      by_cases hn : n < a0.length
      · left
        have hd := drop_getD a0 n hn
        generalize a0.getD n 0 = b at *
        have hb := b.toNat_lt
        have e1 : IntKind.u8.wrap ((Int.ofNat b.toNat).tdiv 16) = ((b.toNat / 16 : Nat) : Int) := by
          rw [show (Int.ofNat b.toNat).tdiv 16 = ((b.toNat / 16 : Nat) : Int) from rfl]
          exact wrap8 (by omega) (by omega)
        have e2 : (Int.ofNat b.toNat).tmod 16 = ((b.toNat % 16 : Nat) : Int) := rfl
        refine ⟨(out ++ [sh.dg (b.toNat / 16), sh.dg (b.toNat % 16)], ((n + 1 : Nat) : Int)), ?_, ⟨by simp; omega, by simp; omega, by simp; omega⟩, by simp; omega, ?_⟩
        · have c1 := inb_nat hn
          have c2 : inb ((b.toNat / 16 : Nat) : Int) ([48, 49, 50, 51, 52, 53, 54, 55, 56, 57, 97, 98, 99, 100, 101, 102] : Bytes).length = true := inb_nat (by show _ < 16; omega)
          have c3 : inb ((b.toNat % 16 : Nat) : Int) ([48, 49, 50, 51, 52, 53, 54, 55, 56, 57, 97, 98, 99, 100, 101, 102] : Bytes).length = true := inb_nat (by show _ < 16; omega)
          rw [if_pos (by simp; omega), e1, e2]
          rw [chk_t c1, chk_t (v := !(16 == 0)) rfl, chk_t c2, chk_t c1, chk_t (v := !(16 == 0)) rfl, chk_t c3, chk_nil]
          simp only [Int.toNat_natCast]
          have d1 := digs_at (b.toNat / 16) (by omega)
          have d2 := digs_at (b.toNat % 16) (by omega)
          unfold digs at d1 d2
          rw [d1, d2, chk_t (room_le (by simp; omega)), chk_nil, blockS_r, bindS_r, wrap64 (by omega) (by omega)]
          rfl
        · simp only [Int.toNat_natCast]
          rw [hd, sh.hexL]
          simp
      · right
        rw [if_neg (by simp; omega)]
        rw [List.drop_eq_nil_of_le (by omega)]
        simp [sh.hexL]

theorem hex_ref (K : Nat) (a0 : Bytes) (hl : a0.length ≤ 1000000) (hK : a0.length < K) : fnS (F19 K a0) = some (sh.hexF a0) := hex_eq K a0 hl hK

theorem index_dig' (K : Nat) (c : UInt8) : fnS (F32 K ([48, 49, 50, 51, 52, 53, 54, 55, 56, 57, 97, 98, 99, 100, 101, 102] : Bytes) c) = some (sh.ud c) := by
  rw [← index_dig c]; rfl

theorem bytes_eq (K : Nat) (a0 : Bytes) (hl : a0.length ≤ 1000000) (hK : a0.length + 17 < K) : fnS (F24 K a0) = some (sh.bytesF a0) := by
  unfold F24 sh.bytesF
  by_cases h0 : a0 = [45]
  · rw [if_pos (by simpa using h0), if_pos h0]; rfl
  · rw [if_neg (by simpa using h0), if_neg h0, chk_t (by simp), chk_nil]
    simp only [letV]
    by_cases h1 : a0 = [] ∨ a0.length % 2 ≠ 0
    · rw [if_pos h1, if_pos ?_]
      · rfl
      · rcases h1 with h1 | h1
        · subst h1; rfl
        · have : ((Int.ofNat a0.length).tmod 2 : Int) = ((a0.length % 2 : Nat) : Int) := rfl
          rw [this]
          have : a0.length % 2 = 1 := by omega
          rw [this]
          simp
    · have h2 : a0 ≠ [] ∧ a0.length % 2 = 0 := ⟨fun e => h1 (.inl e), by omega⟩
      rw [if_neg h1, if_neg ?_]
      · rw [iter_run (fun t : Bytes × Int => a0.length - t.2.toNat) (fun t => match sh.readL (a0.drop t.2.toNat) with
          | some r => (Sum.inl (t.1 ++ r) : Bytes ⊕ (Bytes × Bool))
          | none => Sum.inr ([], false)) (fun t => 0 ≤ t.2 ∧ t.2.toNat ≤ a0.length ∧ t.1.length ≤ t.2.toNat ∧ t.2.toNat % 2 = 0) ?_ K _ (by simp) (by simp; omega)]
        · simp only [Int.toNat_zero, List.drop_zero, List.nil_append]
          cases sh.readL a0 <;> rfl
        · rintro ⟨out, i⟩ ⟨g1, g2, g3, g4⟩
          obtain ⟨n, rfl⟩ : ∃ n : Nat, i = (n : Int) := ⟨i.toNat, by simp at g1; omega⟩
          simp only [Int.toNat_natCast] at g2 g3 g4
          simp only [Int.toNat_natCast]
          by_cases hn : n < a0.length
          · have hn1 : n + 1 < a0.length := by omega
            have hd := drop_getD a0 n hn
            have hd1 := drop_getD a0 (n + 1) hn1
            have ew : IntKind.i64.wrap ((n : Int) + 1) = ((n + 1 : Nat) : Int) := wrap64 (by omega) (by omega)
            have ew2 : IntKind.i64.wrap ((n : Int) + 2) = ((n + 2 : Nat) : Int) := wrap64 (by omega) (by omega)
            rw [if_pos (by simp; omega), ew, ew2]
            simp only [Int.toNat_natCast]
            rw [hd1] at hd
            generalize a0.getD n 0 = a at *
            generalize a0.getD (n + 1) 0 = b at *
            rw [chk_t (inb_nat hn), chk_t (inb_nat hn1), chk_nil]
            rw [index_dig', Option.bind_some, index_dig', Option.bind_some, hd]
            by_cases hu : sh.ud a < 0 ∨ sh.ud b < 0
            · right
              rw [if_pos (by simpa using hu), sh.readL, if_pos hu]
              rfl
            · left
              have ha := ud_lt a
              have hb := ud_lt b
              have e16 : IntKind.i64.wrap (16 * sh.ud a) = 16 * sh.ud a := wrap64 (by omega) (by omega)
              have e17 : IntKind.i64.wrap (16 * sh.ud a + sh.ud b) = 16 * sh.ud a + sh.ud b := wrap64 (by omega) (by omega)
              have e8 : IntKind.u8.wrap (16 * sh.ud a + sh.ud b) = 16 * sh.ud a + sh.ud b := wrap8 (by omega) (by omega)
              rw [if_neg (by simpa using hu), e16, e17, e8, chk_t (room_le (by simp; omega)), chk_nil]
              refine ⟨(out ++ [UInt8.ofNat (16 * sh.ud a + sh.ud b).toNat], ((n + 2 : Nat) : Int)), rfl, ⟨by simp; omega, by simp; omega, by simp; omega, by simp; omega⟩, by simp; omega, ?_⟩
              simp only [Int.toNat_natCast]
              rw [sh.readL, if_neg hu]
              cases sh.readL (a0.drop (n + 2)) with
              | none => rfl
              | some r => simp
          · right
            rw [if_neg (by simp; omega)]
            rw [List.drop_eq_nil_of_le (by omega)]
            simp [sh.readL]
      · have : ((Int.ofNat a0.length).tmod 2 : Int) = ((a0.length % 2 : Nat) : Int) := rfl
        rw [this, h2.2]
        simp [h2.1]

end Go.Proofs.YtmllhpnlceaneaaGreatDoor

set_option linter.unusedVariables false
set_option linter.unusedSimpArgs false
set_option linter.unusedSectionVars false
namespace Go.Proofs.YtmllhpnlceaneaaGreatDoor
open Go Go.Proofs Go.Dl
set_option maxRecDepth 100000

theorem iter_post {A T : Type} {f : T → Option (A ⊕ T)} (μ : T → Nat) (Q : T → A → Prop) (Inv : T → Prop)
    (h : ∀ t, Inv t → (∃ t', f t = some (.inr t') ∧ Inv t' ∧ μ t' < μ t ∧ ∀ a, Q t' a → Q t a) ∨ ∃ a, f t = some (.inl a) ∧ Q t a) : ∀ (K : Nat) (t : T), Inv t → μ t < K → ∃ a, iter K f t = some a ∧ Q t a
  | 0, t, _, hk => absurd hk (by omega)
  | K + 1, t, hi, hk => by
    unfold iter
    rcases h t hi with ⟨t', h1, h2, h3, h4⟩ | ⟨a, h1, h2⟩
    · rw [h1]
      simp only
      obtain ⟨a, h5, h6⟩ := iter_post μ Q Inv h K t' h2 (by omega)
      exact ⟨a, h5, h4 a h6⟩
    · rw [h1]; exact ⟨a, rfl, h2⟩

theorem drop_getDT {α : Type} (l : List α) (d : α) (n : Nat) (h : n < l.length) : l.drop n = l.getD n d :: l.drop (n + 1) := by
  rw [List.drop_eq_getElem_cons h]
  simp [List.getD, List.getElem?_eq_getElem h]

theorem sameInts (K : Nat) (a b : List Int) (hl : a.length ≤ 1000000) (hK : a.length < K) : fnS (F27 K a b) = some (decide (a = b)) := by
  unfold F27
  simp only [letV]
  by_cases h0 : a.length = b.length
  · rw [if_neg (by simp [h0]), iter_run (fun t : Int => a.length - t.toNat) (fun t => bif (a.drop t.toNat == b.drop t.toNat) then (Sum.inl () : Unit ⊕ Bool) else Sum.inr false) (fun t => 0 ≤ t ∧ t.toNat ≤ a.length) ?_ K _ (by simp) (by simpa using hK)]
    · simp only [Int.toNat_zero, List.drop_zero]
      by_cases hab : a = b
      · rw [beq_iff_eq.2 hab, decide_eq_true hab]; rfl
      · rw [beq_eq_false_iff_ne.2 hab, decide_eq_false hab]; rfl
    · rintro i ⟨g1, g2⟩
      obtain ⟨n, rfl⟩ : ∃ n : Nat, i = (n : Int) := ⟨i.toNat, by omega⟩
      simp only [Int.toNat_natCast] at g2 ⊢
      by_cases hn : n < a.length
      · rw [if_pos (by simp; omega), chk_t (inb_nat hn), chk_t (inb_nat (by omega)), chk_nil, drop_getDT a default n hn, drop_getDT b default n (by omega)]
        by_cases hx : a.getD n default = b.getD n default
        · left
          rw [if_neg (by simpa using hx)]
          refine ⟨((n + 1 : Nat) : Int), ?_, ⟨by omega, by simp; omega⟩, by simp; omega, ?_⟩
          · rw [blockS_r, bindS_r, wrap64 (by omega) (by omega)]; rfl
          · rw [hx, List.cons_beq_cons, beq_self_eq_true, Bool.true_and]; simp
        · right
          rw [if_pos (by simpa using hx), List.cons_beq_cons, beq_eq_false_iff_ne.2 hx]
          rfl
      · right
        rw [if_neg (by simp; omega), List.drop_eq_nil_of_le (by omega), List.drop_eq_nil_of_le (by omega)]
        rfl
  · rw [if_pos (by simpa using fun e => h0 (by exact_mod_cast e)), decide_eq_false (fun e => h0 (by rw [e]))]; rfl

theorem scan_step (K : Nat) (x y : Sc) (hin : x.fIn.length ≤ 1000000 ∧ x.fIn.length < K) :
    (condM (!(x.fTicks != y.fTicks)) (fnS (F27 K x.fIn y.fIn)) default).bind (fun r42 => if ((x.fTicks != y.fTicks) || !r42) = true then (some (.inl (Sum.inr (Sum.inr (false)))) : Option ((Unit ⊕ Unit ⊕ Bool) ⊕ Unit)) else (some (.inr ()))) = if x = y then some (.inr ()) else some (.inl (.inr (.inr false))) := by
  have hxy : x = y ↔ x.fIn = y.fIn ∧ x.fTicks = y.fTicks := by
    constructor
    · rintro rfl; exact ⟨rfl, rfl⟩
    · rintro ⟨h1, h2⟩
      cases x; cases y; simp only at h1 h2; rw [h1, h2]
  by_cases ht : x.fTicks = y.fTicks
  · have e : (x.fTicks != y.fTicks) = false := by simp [ht]
    rw [e, sameInts K _ _ hin.1 hin.2]
    show (some (decide (x.fIn = y.fIn))).bind _ = _
    rw [Option.bind_some]
    by_cases hf : x.fIn = y.fIn
    · rw [if_pos (hxy.2 ⟨hf, ht⟩), if_neg (by simp [hf])]
    · rw [if_neg (fun e => hf (hxy.1 e).1), if_pos (by simp [hf])]
  · have e : (x.fTicks != y.fTicks) = true := by simpa using ht
    rw [e]
    show (some (default : Bool)).bind _ = _
    rw [Option.bind_some, if_neg (fun e => ht (hxy.1 e).2), if_pos (by simp)]

theorem sameScans (K : Nat) (a b : List Sc) (hl : a.length ≤ 1000000) (hK : a.length < K) (hi : ∀ x ∈ a, x.fIn.length ≤ 1000000 ∧ x.fIn.length < K) : fnS (F11 K a b) = some (decide (a = b)) := by
  unfold F11
  simp only [letV]
  by_cases h0 : a.length = b.length
  · rw [if_neg (by simp [h0]), iter_run (fun t : Int => a.length - t.toNat) (fun t => bif (a.drop t.toNat == b.drop t.toNat) then (Sum.inl () : Unit ⊕ Bool) else Sum.inr false) (fun t => 0 ≤ t ∧ t.toNat ≤ a.length) ?_ K _ (by simp) (by simpa using hK)]
    · simp only [Int.toNat_zero, List.drop_zero]
      by_cases hab : a = b
      · rw [beq_iff_eq.2 hab, decide_eq_true hab]; rfl
      · rw [beq_eq_false_iff_ne.2 hab, decide_eq_false hab]; rfl
    · rintro i ⟨g1, g2⟩
      obtain ⟨n, rfl⟩ : ∃ n : Nat, i = (n : Int) := ⟨i.toNat, by omega⟩
      simp only [Int.toNat_natCast] at g2 ⊢
      by_cases hn : n < a.length
      · have c1 : inb (n : Int) a.length = true := inb_nat hn
        have c2 : inb (n : Int) b.length = true := inb_nat (by omega)
        have hmem : a.getD n default ∈ a := by simp [List.getD, List.getElem?_eq_getElem hn]
        have hin := hi _ hmem
        rw [if_pos (by simp; omega), chk_t c1, chk_t c2, chk_nil, c1, c2, chk_t (by simp), chk_t (by simp), chk_nil, drop_getDT a default n hn, drop_getDT b default n (by omega)]
        rw [scan_step K _ _ hin]
        by_cases hx : a.getD n default = b.getD n default
        · left
          rw [if_pos hx]
          refine ⟨((n + 1 : Nat) : Int), ?_, ⟨by omega, by simp; omega⟩, by simp; omega, ?_⟩
          · rw [blockS_r, bindS_r, wrap64 (by omega) (by omega)]; rfl
          · rw [hx, List.cons_beq_cons, beq_self_eq_true, Bool.true_and]; simp
        · right
          rw [if_neg hx, List.cons_beq_cons, beq_eq_false_iff_ne.2 hx]
          rfl
      · right
        rw [if_neg (by simp; omega), List.drop_eq_nil_of_le (by omega), List.drop_eq_nil_of_le (by omega)]
        rfl
  · rw [if_pos (by simpa using fun e => h0 (by exact_mod_cast e)), decide_eq_false (fun e => h0 (by rw [e]))]; rfl

end Go.Proofs.YtmllhpnlceaneaaGreatDoor

set_option linter.unusedVariables false
set_option linter.unusedSimpArgs false
set_option linter.unusedSectionVars false
namespace Go.Proofs.YtmllhpnlceaneaaGreatDoor
open Go Go.Proofs Go.Dl
set_option maxRecDepth 100000

/-- A result that counts only if it is there. -/
def Tells {α : Type} (m : Option (α × Bool)) (o : Option α) : Prop := ∃ x ok, m = some (x, ok) ∧ (ok = true → o = some x) ∧ (ok = false → o = none)

theorem Tells.mk {α : Type} {m : Option (α × Bool)} {o : Option α} {x : α} {ok : Bool} (h : m = some (x, ok)) (h1 : ok = true → o = some x) (h0 : ok = false → o = none) : Tells m o := ⟨x, ok, h, h1, h0⟩

theorem number_lib (K : Nat) (s : Bytes) (hl : s.length ≤ 1000000) : Tells (fnS (F33 K s)) (sp.numberF s) := by
  rw [← sp.number_eq]
  have e52 : fnS (F45 K s) = some (match Lib.atoiAll s with | .ok n => (n, false) | .range => (Lib.atoiSat s, true) | _ => (0, true)) := by
    unfold F45
    rw [if_pos (by omega)]; rfl
  unfold F33
  rw [e52, Option.bind_some]
  simp only [letV]
  unfold sp.numberG
  cases ha : Lib.atoiAll s with
  | range => exact .mk rfl (fun h => by cases h) (fun _ => rfl)
  | ok n =>
    simp only
    by_cases h : -2147483648 ≤ n ∧ n ≤ 2147483648
    · have e45 : fnS (F29 K n) = some (Lib.itoa n) := by unfold F29; rw [if_pos (by omega)]; rfl
      have hx : ((!false && decide (n ≥ -2147483648)) && decide (n ≤ 2147483648)) = true := by simp; omega
      rw [hx]
      simp only [condM_t]
      rw [e45, Option.bind_some]
      refine .mk rfl (fun h1 => ?_) (fun h1 => ?_)
      · rw [if_pos ⟨h.1, h.2, by simpa using h1⟩]
      · rw [if_neg (fun e => by simp [e.2.2] at h1)]
    · have hx : ((!false && decide (n ≥ -2147483648)) && decide (n ≤ 2147483648)) = false := by simp; omega
      rw [hx]
      simp only [condM_f]
      rw [Option.bind_some]
      refine .mk rfl (fun h1 => by simp at h1) (fun h1 => ?_)
      rw [if_neg (fun e => h ⟨e.1, e.2.1⟩)]
  | _ => exact .mk rfl (fun h => by cases h) (fun _ => rfl)

/-- A digit, as the document tells it. -/
theorem digit_val (b : UInt8) : Lib.digitVal b = if b.toNat < 48 ∨ 57 < b.toNat then none else some (b.toNat - 48) := by
  have := byte_all (p := fun b => decide (Lib.digitVal b = if b.toNat < 48 ∨ 57 < b.toNat then none else some (b.toNat - 48))) (by kernel_rfl) b
  simpa using this

theorem dec_step (acc : Nat) (b : UInt8) (r : Bytes) : Lib.decFrom acc (b :: r) = if b.toNat < 48 ∨ 57 < b.toNat then none else Lib.decFrom (acc * 10 + (b.toNat - 48)) r := by
  rw [Lib.decFrom, digit_val]
  by_cases h : b.toNat < 48 ∨ 57 < b.toNat
  · rw [if_pos h, if_pos h]
  · rw [if_neg h, if_neg h]

end Go.Proofs.YtmllhpnlceaneaaGreatDoor

set_option linter.unusedVariables false
set_option linter.unusedSimpArgs false
set_option linter.unusedSectionVars false
namespace Go.Proofs.YtmllhpnlceaneaaGreatDoor
open Go Go.Proofs Go.Dl
set_option maxRecDepth 100000

theorem Tells.cases {α : Type} {m : Option (α × Bool)} {o : Option α} (h : Tells m o) : (∃ x, m = some (x, true) ∧ o = some x) ∨ (∃ x, m = some (x, false) ∧ o = none) := by
  obtain ⟨x, ok, h1, h2, h3⟩ := h
  cases ok with
  | true => exact .inl ⟨x, h1, h2 rfl⟩
  | false => exact .inr ⟨x, h1, h3 rfl⟩

theorem mapM_cons {α β : Type} (f : α → Option β) (a : α) (l : List α) : (a :: l).mapM f = (f a).bind fun b => (l.mapM f).map fun m => b :: m := by
  rw [List.mapM_cons]
  cases f a with
  | none => rfl
  | some b => cases hm : l.mapM f with
    | none => simp [hm]
    | some m => simp [hm]

theorem tail_drop {α : Type} (l : List α) : (l.drop (1 : Int).toNat).take ((Int.ofNat l.length : Int).toNat - (1 : Int).toNat) = l.tail := by
  cases l with
  | nil => rfl
  | cons b r => simp

theorem scan_lib (K : Nat) (l : List Bytes) (hw : ∀ x ∈ l, x.length ≤ 1000000) (hK : 20 < K) : Tells (fnS (F25 K l)) (sp.scanF l) := by
  unfold F25 sp.scanF
  simp only [letV]
  by_cases h0 : l.length < 1 ∨ 17 < l.length
  · rw [if_pos (by simp; omega), if_pos h0]
    exact .mk rfl (fun h => by cases h) (fun _ => rfl)
  · rw [if_neg (by simp; omega), if_neg h0, chk_t (by simp [inb]; omega), chk_nil]
    cases l with
    | nil => exact absurd (Or.inl (by simp)) h0
    | cons w0 ws =>
      simp only [List.length_cons] at h0
      rw [tail_drop]
      have hlen : ∀ x ∈ ws, x.length ≤ 1000000 := fun x hx => hw x (List.mem_cons_of_mem _ hx)
      have h1 := number_lib K w0 (hw w0 (List.mem_cons_self ..))
      have e0 : (w0 :: ws).getD (0 : Int).toNat default = w0 := rfl
      rw [e0, List.tail_cons, mapM_cons]
      -- the loop
      have loop : ∀ ok0 : Bool, ∃ a : ((Bool × List Int) ⊕ (S35 × Bool)), iter K (fun (u23 : Bool × (List Int) × Int) => (if (decide ((u23.2.2 : Int) < (Int.ofNat ws.length))) = true then (bindS (blockS (chk [inb u23.2.2 ws.length] ((fnS (F33 K (ws.getD (u23.2.2 : Int).toNat default))).bind (fun r32 => (chk [room ((u23.2.1.length + ([r32.1].length)) * 8)] (some (.inr ((u23.1 && r32.2), (u23.2.1 ++ [r32.1]))) : Option (((Bool × List Int) ⊕ (Bool × List Int) ⊕ (S35 × Bool)) ⊕ (Bool × List Int)))))))) (fun (u31 : Bool × (List Int)) => (some (.inr (u31.1, u31.2, (IntKind.i64.wrap (u23.2.2 + 1))))))) else (some (.inl (Sum.inl (u23.1, u23.2.1)))))) (ok0, [], 0) = some a ∧
          ∃ ok ns, a = .inl (ok, ns) ∧ (ok = true → ok0 = true ∧ ws.mapM sp.numberF = some ns) ∧ (ok = false → ok0 = false ∨ ws.mapM sp.numberF = none) := by
        intro ok0
        have := iter_post (f := fun (u23 : Bool × (List Int) × Int) => (if (decide ((u23.2.2 : Int) < (Int.ofNat ws.length))) = true then (bindS (blockS (chk [inb u23.2.2 ws.length] ((fnS (F33 K (ws.getD (u23.2.2 : Int).toNat default))).bind (fun r32 => (chk [room ((u23.2.1.length + ([r32.1].length)) * 8)] (some (.inr ((u23.1 && r32.2), (u23.2.1 ++ [r32.1]))) : Option (((Bool × List Int) ⊕ (Bool × List Int) ⊕ (S35 × Bool)) ⊕ (Bool × List Int)))))))) (fun (u31 : Bool × (List Int)) => (some (.inr (u31.1, u31.2, (IntKind.i64.wrap (u23.2.2 + 1))))))) else (some (.inl (Sum.inl (u23.1, u23.2.1))))))
          (fun t => ws.length - t.2.2.toNat)
          (fun t a => ∃ ok ns, a = .inl (ok, ns) ∧ (ok = true → t.1 = true ∧ ∃ m, (ws.drop t.2.2.toNat).mapM sp.numberF = some m ∧ ns = t.2.1 ++ m) ∧ (ok = false → t.1 = false ∨ (ws.drop t.2.2.toNat).mapM sp.numberF = none))
          (fun t => 0 ≤ t.2.2 ∧ t.2.2.toNat ≤ ws.length ∧ t.2.1.length ≤ t.2.2.toNat) ?_ K (ok0, [], 0) (by simp) (by simp; omega)
        · obtain ⟨a, h1, ok, ns, h2, h3, h4⟩ := this
          simp only [Int.toNat_zero, List.drop_zero, List.nil_append] at h3 h4
          refine ⟨a, h1, ok, ns, h2, fun h => ?_, h4⟩
          obtain ⟨h5, m, h6, rfl⟩ := h3 h
          exact ⟨h5, h6⟩
        · rintro ⟨ok, ns, i⟩ ⟨g1, g2, g3⟩
          dsimp +instances only at g1 g2 g3 ⊢
          obtain ⟨n, rfl⟩ : ∃ n : Nat, i = (n : Int) := ⟨i.toNat, by omega⟩
          simp only [Int.toNat_natCast] at g2 g3 ⊢
          by_cases hn : n < ws.length
          · left
            have hd := drop_getDT ws default n hn
            have hm : ws.getD n default ∈ ws := by simp [List.getD, List.getElem?_eq_getElem hn]
            rw [if_pos (by simp; omega), chk_t (inb_nat hn), chk_nil, hd]
            obtain ⟨x, ok', e1, e2, e3⟩ := number_lib K (ws.getD n default) (hlen _ hm)
            rw [e1, Option.bind_some, chk_t (room_le (by simp; omega)), chk_nil]
            refine ⟨(ok && ok', ns ++ [x], ((n + 1 : Nat) : Int)), ?_, ⟨by simp; omega, by simp; omega, by simp; omega⟩, by simp; omega, ?_⟩
            · rw [blockS_r, bindS_r, wrap64 (by omega) (by omega)]; rfl
            · rintro a ⟨ok2, ns2, q1, q2, q3⟩
              simp only [Int.toNat_natCast] at q2 q3
              refine ⟨ok2, ns2, q1, fun h => ?_, fun h => ?_⟩
              · obtain ⟨q4, m, q5, q6⟩ := q2 h
                simp only [Bool.and_eq_true] at q4
                refine ⟨q4.1, x :: m, ?_, by rw [q6]; simp⟩
                rw [mapM_cons, e2 q4.2, q5]; rfl
              · rcases q3 h with h5 | h5
                · simp only [Bool.and_eq_false_iff] at h5
                  rcases h5 with h5 | h5
                  · exact .inl h5
                  · right; rw [mapM_cons, e3 h5]; rfl
                · right
                  rw [mapM_cons, h5]
                  cases sp.numberF (ws.getD n default) <;> rfl
          · right
            rw [if_neg (by simp; omega)]
            refine ⟨_, rfl, ok, ns, rfl, fun h => ⟨h, [], ?_, by simp⟩, fun h => .inl h⟩
            rw [List.drop_eq_nil_of_le (by omega)]; rfl
      obtain ⟨x, ok0, e1, e2, e3⟩ := h1
      rw [e1, Option.bind_some, chk_t (by simp [bndOk]; omega), chk_nil]
      obtain ⟨a, l1, ok, ns, l2, l3, l4⟩ := loop ok0
      rw [l1, l2]
      refine .mk (x := ⟨ns, x⟩) (ok := ok) rfl (fun h => ?_) (fun h => ?_)
      · obtain ⟨h5, h6⟩ := l3 h
        rw [e2 h5, h6]; rfl
      · rcases l4 h with h5 | h5
        · rw [e3 h5]; rfl
        · rw [h5]
          cases sp.numberF w0 <;> rfl

end Go.Proofs.YtmllhpnlceaneaaGreatDoor

set_option linter.unusedVariables false
set_option linter.unusedSimpArgs false
set_option linter.unusedSectionVars false
namespace Go.Proofs.YtmllhpnlceaneaaGreatDoor
open Go Go.Proofs Go.Dl
set_option maxRecDepth 100000

theorem readL_len : ∀ (l r : Bytes), sh.readL l = some r → r.length ≤ l.length
  | [], r, h => by simp [sh.readL] at h; subst h; simp
  | [_], r, h => by simp [sh.readL] at h
  | a :: b :: t, r, h => by
    rw [sh.readL] at h
    split at h
    · cases h
    · cases ht : sh.readL t with
      | none => rw [ht] at h; cases h
      | some m =>
        rw [ht] at h
        simp only [Option.map_some, Option.some.injEq] at h
        subst h
        have := readL_len t m ht
        simp; omega

theorem bytesF_len (l : Bytes) : (sh.bytesF l).1.length ≤ l.length := by
  unfold sh.bytesF
  split
  · simp
  · split
    · simp
    · split
      · rename_i t ht; exact readL_len l t ht
      · simp

theorem cut_sum (c : UInt8) : ∀ s : Bytes, (Lib.cut s [c]).1.length + (Lib.cut s [c]).2.1.length ≤ s.length
  | [] => by rw [sp.cut_nil]; simp
  | b :: r => by
    by_cases h : b = c
    · subst h; rw [sp.cut_hit]; simp
    · rw [sp.cut_miss b c r h]
      have := cut_sum c r
      simp; omega

theorem iter_ctx {A T : Type} {f : T → Option (A ⊕ T)} {C : Option A → Prop} (μ : T → Nat) (Q : T → A → Prop) (Inv : T → Prop) {K : Nat} {t : T} (hi : Inv t) (hk : μ t < K)
    (h : ∀ t, Inv t → (∃ t', f t = some (.inr t') ∧ Inv t' ∧ μ t' < μ t ∧ ∀ a, Q t' a → Q t a) ∨ ∃ a, f t = some (.inl a) ∧ Q t a) (hC : ∀ a, Q t a → C (some a)) : C (iter K f t) := by
  obtain ⟨a, h1, h2⟩ := iter_post μ Q Inv h K t hi hk
  rw [h1]; exact hC a h2

theorem write_lib (K : Nat) (addr : Bool) (buf b : Bytes) (h : buf.length + b.length ≤ 140737488355328) : fnS (F13 K (⟨addr, buf⟩ : S46) b) = some ((Int.ofNat b.length), none, (⟨true, buf ++ b⟩ : S46)) := by
  unfold F13
  have e37 : fnS (F28 K (⟨addr, buf⟩ : S46)) = some ⟨true, buf⟩ := rfl
  rw [e37, Option.bind_some, chk_t (room_le (by simpa using h)), chk_nil]
  rfl

/-- What a text is read as. -/
def parseF (s : Bytes) : Bytes × List S35 × Err :=
  if 65536 < s.length then ([], [], some (24, 0)) else
    match sp.parseL (sp.linesL s) 1 [] [] with
    | .inl (src, sc) => (src, sc, none)
    | .inr p => ([], [], some (23, (p : Int)))

theorem parse_lib (K : Nat) (s : Bytes) (hl : s.length ≤ 1000000) (hK : 1000000 < K) : fnS (F9 K s) = some (parseF s) := by
  unfold F9 parseF
  simp only [letV]
  by_cases h0 : 65536 < s.length
  · rw [if_pos (by simp; omega), if_pos h0]
    rfl
  · rw [if_neg (by simp; omega), if_neg h0]
    refine iter_ctx (C := fun o => fnS (bindS (blockS (o.map .inl)) _) = some _) (fun t : Bytes × Bool × List UInt8 × List S35 × Int => t.1.length)
      (fun t (a : (Bool × List UInt8 × List S35) ⊕ (Bytes × List S35 × Err)) => match sp.parseL (sp.linesL t.1) t.2.2.2.2.toNat t.2.2.1 t.2.2.2.1 with
        | .inl (src, sc) => ∃ f, a = .inl (f, src, sc)
        | .inr p => a = .inr ([], [], some (23, (p : Int))))
      (fun t => 0 ≤ t.2.2.2.2 ∧ t.2.2.2.2.toNat + t.1.length ≤ 65540 ∧ t.2.2.1.length + t.1.length ≤ 65540 ∧ t.2.2.2.1.length + t.1.length ≤ 65540) (by simp; omega) (by simp; omega) ?_ ?_
    · rintro ⟨s, addr, buf, scans, i⟩ ⟨g1, g2, g3, g4⟩
      dsimp +instances only at g1 g2 g3 g4 ⊢
      obtain ⟨n, rfl⟩ : ∃ n : Nat, i = (n : Int) := ⟨i.toNat, by omega⟩
      simp only [Int.toNat_natCast] at g2 ⊢
      by_cases hs : s = []
      · right
        subst hs
        rw [if_neg (by simp)]
        refine ⟨_, rfl, ?_⟩
        rw [sp.linesL_nil]
        exact ⟨addr, rfl⟩
      · rw [if_pos (by simpa using hs)]
        have hc1 := sp.cut_len 10 s hs
        have hc2 := cut_sum 10 s
        have e22 : fnS (F22 K s ([10] : Bytes)) = some (Lib.cut s [10]) := by unfold F22; rw [if_pos (by omega)]; rfl
        rw [e22, Option.bind_some, sp.linesL_cut s hs]
        generalize Lib.cut s [10] = c at *
        obtain ⟨line, rest, fd⟩ := c
        dsimp +instances only at hc1 hc2 ⊢
        have e23 : fnS (F23 K line ([32] : Bytes)) = some (sp.splitC 32 line) := by unfold F23; simp only; rw [if_pos (by omega)]; rfl
        rw [e23, Option.bind_some, sp.parseL]
        have hne := sp.splitC_ne 32 line
        have hwl : ∀ x ∈ sp.splitC 32 line, x.length ≤ line.length := splitC_len 32 line
        generalize sp.splitC 32 line = w at *
        cases w with
        | nil => exact absurd rfl hne
        | cons w0 ws =>
          have ew0 : ∀ d, (w0 :: ws).getD (0 : Int).toNat d = w0 := fun _ => rfl
          have en : IntKind.i64.wrap ((n : Int) + 1) = ((n + 1 : Nat) : Int) := wrap64 (by omega) (by omega)
          have c0 : inb 0 (w0 :: ws).length = true := by simp [inb]
          rw [chk_t (vs := []) c0, chk_nil]
          simp only [ew0]
          by_cases hsrc : w0 = sp.srcB ∧ (w0 :: ws).length = 2
          · have hr : sp.readW (w0 :: ws) = if (sh.bytesF ((w0 :: ws).getD 1 [])).2 = true then some (.inl (sh.bytesF ((w0 :: ws).getD 1 [])).1) else none := by
              unfold sp.readW
              rw [if_pos (by simpa using hsrc)]
            obtain ⟨h1, h2⟩ := hsrc
            have hcond : ((w0 == ([115, 114, 99] : Bytes)) && (((Int.ofNat (w0 :: ws).length) : Int) == 2)) = true := by rw [h2, h1]; rfl
            rw [hr, hcond, if_pos (c := true = true) rfl, chk_t (vs := []) (by rw [h2]; rfl), chk_nil]
            have hb : (w0 :: ws).getD (1 : Int).toNat default = (w0 :: ws).getD 1 [] := rfl
            rw [hb]
            generalize hx : (w0 :: ws).getD 1 [] = x
            have hxl : x.length ≤ line.length := by
              apply hwl
              rw [← hx]
              cases ws with
              | nil => simp at h2
              | cons a r => simp
            rw [bytes_eq K x (by omega) (by omega), Option.bind_some]
            have hbl := bytesF_len x
            generalize sh.bytesF x = y at *
            obtain ⟨b, ok⟩ := y
            dsimp +instances only at hbl ⊢
            rw [write_lib K addr buf b (by omega), Option.bind_some]
            cases ok with
            | true =>
              left
              refine ⟨(rest, true, buf ++ b, scans, ((n + 1 : Nat) : Int)), ?_, ⟨by simp; omega, by simp; omega, by simp; omega, by simp; omega⟩, by simp; omega, ?_⟩
              · simp only [blockS_r, bindS_r]
                rw [if_neg (by simp)]
                simp only [blockS_r, bindS_r]
                rw [en]
              · intro a ha
                exact ha
            | false =>
              right
              refine ⟨.inr ([], [], some (23, (n : Int))), ?_, rfl⟩
              simp only [blockS_r, bindS_r]
              rw [if_pos (by simp)]
              rfl
          · have hcond : ((w0 == ([115, 114, 99] : Bytes)) && (((Int.ofNat (w0 :: ws).length) : Int) == 2)) = false := by
              rw [Bool.eq_false_iff]
              intro e
              simp only [Bool.and_eq_true, beq_iff_eq] at e
              exact hsrc ⟨e.1, by have := e.2; simp only [Int.ofNat_eq_natCast] at this; omega⟩
            rw [hcond, if_neg (c := false = true) (by simp), chk_t (vs := []) c0, chk_nil]
            by_cases hscan : w0 = sp.scanB
            · have hr : sp.readW (w0 :: ws) = (sp.scanF ws).map .inr := by
                unfold sp.readW
                rw [if_neg (by simpa using hsrc), if_pos (by simpa using hscan)]; rfl
              have hcond2 : (w0 == ([115, 99, 97, 110] : Bytes)) = true := by rw [hscan]; rfl
              rw [hr, hcond2, if_pos (c := true = true) rfl, chk_t (vs := []) (by simp [bndOk]; omega), chk_nil, tail_drop, List.tail_cons]
              obtain ⟨x, ok, e1, e2, e3⟩ := scan_lib K ws (fun y hy => by have := hwl y (List.mem_cons_of_mem _ hy); omega) (by omega)
              rw [e1, Option.bind_some, chk_t (vs := []) (room_le (by simp; omega)), chk_nil]
              cases ok with
              | true =>
                left
                rw [e2 rfl]
                refine ⟨(rest, addr, buf, scans ++ [x], ((n + 1 : Nat) : Int)), ?_, ⟨by simp; omega, by simp; omega, by simp; omega, by simp; omega⟩, by simp; omega, ?_⟩
                · simp only [blockS_r, bindS_r]
                  rw [if_neg (by simp)]
                  simp only [blockS_r, bindS_r]
                  rw [en]
                · intro a ha
                  exact ha
              | false =>
                right
                rw [e3 rfl]
                refine ⟨.inr ([], [], some (23, (n : Int))), ?_, rfl⟩
                simp only [blockS_r, bindS_r]
                rw [if_pos (by simp)]
                rfl
            · right
              have hr : sp.readW (w0 :: ws) = none := by
                unfold sp.readW
                rw [if_neg (by simpa using hsrc), if_neg (by simpa using hscan)]
              have hcond2 : (w0 == ([115, 99, 97, 110] : Bytes)) = false := by
                rw [Bool.eq_false_iff]; intro e; exact hscan (beq_iff_eq.1 e)
              rw [hr, hcond2, if_neg (c := false = true) (by simp)]
              refine ⟨.inr ([], [], some (23, (n : Int))), ?_, rfl⟩
              simp only [blockS_r, bindS_r]
              rw [if_pos (by simp)]
              rfl
    · intro a ha
      dsimp only at ha
      cases hp : sp.parseL (sp.linesL s) 1 [] [] with
      | inl r =>
        obtain ⟨src, sc⟩ := r
        have ha' : ∃ f, a = .inl (f, src, sc) := by
          have := ha
          rw [show (1 : Int).toNat = 1 from rfl, hp] at this
          exact this
        obtain ⟨f, rfl⟩ := ha'
        rfl
      | inr p =>
        have ha' : a = .inr ([], [], some (23, (p : Int))) := by
          have := ha
          rw [show (1 : Int).toNat = 1 from rfl, hp] at this
          exact this
        subst ha'
        rfl

end Go.Proofs.YtmllhpnlceaneaaGreatDoor
