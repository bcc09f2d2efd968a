/- What every world of a call holds; the library's functions as plain functions. No conditions. -/
import Derived.Test.YtmllhpnlceaneaaGreatDoorTy
import Derived.Test.YtmllhpnlceaneaaGreatDoorPA
import Derived.Test.YtmllhpnlceaneaaGreatDoorProg
import Derived.KernelRfl
import Derived.Lib.LaidTab
import Derived.Lib.AtoiAllCases
import Derived.Lib.ItoaNum
import Derived.Lib.IndexMore
set_option linter.unusedVariables false
set_option linter.unusedSimpArgs false
set_option linter.unusedSectionVars false
namespace Go.Proofs.YtmllhpnlceaneaaGreatDoor
open Go Go.Proofs Go.Dl
set_option maxRecDepth 100000

/-- What is known of a world. -/
structure WI (w : World) : Prop where
  size : 9 ≤ w.heap.size
  max : ∃ m, w.cell? ⟨1, 0, none⟩ = some (.int .i64 m)
  syn : ∃ ev, w.cell? ⟨5, 0, none⟩ = some ev ∧ (ev = .nilIface ∨ ∃ te pe, ev = .iface te pe)
  rng : ∃ ev, w.cell? ⟨6, 0, none⟩ = some ev ∧ (ev = .nilIface ∨ ∃ te pe, ev = .iface te pe)
  tab : Lib.TabIs Tryz.prog w "internal/strconv.uint64pow10" .u64 Lib.pow10Tab
  err : w.cell? ⟨0, 0, none⟩ = some (.iface 93 (.agg #[.pointer (some ⟨9, 26, none⟩)]))

theorem glob_tab : Tryz.prog.globalNamed "internal/strconv.uint64pow10" = some 2 := by kernel_rfl

theorem WI.keep {w w' : World} (hs : w.heap.size ≤ w'.heap.size) (hb : ∀ b, b < 9 → w'.heap[b]? = w.heap[b]?) (h : WI w) : WI w' := by
  have hc : ∀ b, b < 9 → w'.cell? ⟨b, 0, none⟩ = w.cell? ⟨b, 0, none⟩ := fun b hl => World.cell?_of_block (hb b hl)
  obtain ⟨h1, h2, h3, h4, h5, h6⟩ := h
  refine ⟨Nat.le_trans h1 hs, ?_, ?_, ?_, ?_, ?_⟩
  · rw [hc _ (by decide)]; exact h2
  · rw [hc _ (by decide)]; exact h3
  · rw [hc _ (by decide)]; exact h4
  · unfold Lib.TabIs World.var? at h5 ⊢
    rw [glob_tab] at h5 ⊢
    simp only [Option.bind_some] at h5 ⊢
    rw [hb _ (by decide)]; exact h5
  · rw [hc _ (by decide)]; exact h6

instance winv : WInv where
  N := 9
  I := WI
  size := fun _ h => h.size
  keep := fun _ _ hs hb h => h.keep hs hb

abbrev errC (e : Err) : C := errC' 66 e
theorem errC_nil : CLe (.val .nilIface) (errC none) := errC_nil'

def F32 (K : Nat) (a0 : Bytes) (a1 : UInt8) : Option (Int ⊕ Int) := some (.inl (Lib.indexByte a0 a1))
def F22 (K : Nat) (a0 a1 : Bytes) : Option ((Bytes × Bytes × Bool) ⊕ (Bytes × Bytes × Bool)) := if a0.length < 4294967281 then some (.inl (Lib.cut a0 a1)) else none
def F23 (K : Nat) (a0 a1 : Bytes) : Option (List Bytes ⊕ List Bytes) :=
  match a1 with
  | [c] => if a0.length < 4294967281 then some (.inl (sp.splitC c a0)) else none
  | _ => none
def F28 (K : Nat) (a0 : S46) : Option (S46 ⊕ S46) := some (.inl ⟨true, a0.fbuf⟩)
def F18 (K : Nat) (a0 : S46) : Option (Bytes ⊕ Bytes) := some (.inl a0.fbuf)
def F29 (K : Nat) (a0 : Int) : Option (Bytes ⊕ Bytes) := if -9223372036854775808 ≤ a0 ∧ a0 ≤ 9223372036854775807 then some (.inl (Lib.itoa a0)) else none
def F45 (K : Nat) (a0 : Bytes) : Option ((Int × Bool) ⊕ (Int × Bool)) := if a0.length ≤ 281474976710656 then some (.inl (match Lib.atoiAll a0 with
  | .ok n => (n, false)
  | .range => (Lib.atoiSat a0, true)
  | _ => (0, true))) else none
def F28x48 (K : Nat) (a0 : S48) : Option (S48 ⊕ S48) := some (.inl ⟨⟨true, a0.fBuilder.fbuf⟩, a0.fbad⟩)
def F18x48 (K : Nat) (a0 : S48) : Option (Bytes ⊕ Bytes) := some (.inl a0.fBuilder.fbuf)
def F10 (K : Nat) (a0 : Err) : Option ((Int × Int) ⊕ (Int × Int)) := some (.inl (a0.getD (0, 0)))

end Go.Proofs.YtmllhpnlceaneaaGreatDoor
