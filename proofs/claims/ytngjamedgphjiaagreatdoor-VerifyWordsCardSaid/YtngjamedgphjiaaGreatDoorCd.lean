/- What every world of a call holds; the library's functions as plain functions. No conditions. -/
import Derived.Test.YtngjamedgphjiaaGreatDoorTy
import Derived.Test.YtngjamedgphjiaaGreatDoorDC
import Derived.Test.YtngjamedgphjiaaGreatDoorProg
import Derived.KernelRfl
import Derived.Lib.IndexMore
import Derived.Lib.SlTrimSet
set_option linter.unusedVariables false
set_option linter.unusedSimpArgs false
set_option linter.unusedSectionVars false
namespace Go.Proofs.YtngjamedgphjiaaGreatDoor
open Go Go.Proofs Go.Dl
set_option maxRecDepth 100000
structure WI (w : World) : Prop where
  size : 4 ≤ w.heap.size
  max : ∃ m, w.cell? ⟨3, 0, none⟩ = some (.int .i64 m)
  err : w.cell? ⟨0, 0, none⟩ = some (.iface 148 (.agg #[.pointer (some ⟨4, 32, none⟩)]))
theorem WI.keep {w w' : World} (hs : w.heap.size ≤ w'.heap.size) (hb : ∀ b, b < 4 → w'.heap[b]? = w.heap[b]?) (h : WI w) : WI w' := by
  have hc : ∀ b, b < 4 → w'.cell? ⟨b, 0, none⟩ = w.cell? ⟨b, 0, none⟩ := fun b hl => World.cell?_of_block (hb b hl)
  obtain ⟨h1, h2, h3⟩ := h
  refine ⟨Nat.le_trans h1 hs, ?_, ?_⟩
  · rw [hc _ (by decide)]; exact h2
  · rw [hc _ (by decide)]; exact h3
instance winv : WInv where
  N := 4
  I := WI
  size := fun _ h => h.size
  keep := fun _ _ hs hb h => h.keep hs hb
abbrev errC (e : Err) : C := errC' 57 e
theorem errC_nil : CLe (.val .nilIface) (errC none) := errC_nil'
def F54 (K : Nat) (a0 a1 : Bytes) : Option (Bytes ⊕ Bytes) := if a1 = [105, 114] ∧ a0.length ≤ 9223372036854775807 then some (.inl (Lib.trimS a0 a1)) else none
def F35 (K : Nat) (a0 a1 : Bytes) : Option (Bool ⊕ Bool) := some (.inl (Lib.hasPrefix a0 a1))
def F80 (K : Nat) (a0 a1 : Bytes) : Option ((Bytes × Bytes × Bool) ⊕ (Bytes × Bytes × Bool)) := if a0.length < 4294967281 then some (.inl (Lib.cut a0 a1)) else none
def F85 (K : Nat) (a0 a1 : Bytes) : Option ((Bytes × Bool) ⊕ (Bytes × Bool)) := if a0.length ≤ 9223372036854775807 then some (.inl (Lib.trimSuffix a0 a1, Lib.hasSuffix a0 a1)) else none
def F112 (K : Nat) (a0 a1 : Bytes) : Option (Int ⊕ Int) :=
  match a1 with
  | [c] => some (.inl (Lib.countByte a0 c))
  | _ => none
def F22 (K : Nat) (a0 : Err) : Option ((Int × Int) ⊕ (Int × Int)) := some (.inl (a0.getD (0, 0)))
def F105 (K : Nat) (a : List Int) : Option (List Int ⊕ List Int) := if a.length < 4611686018427387904 then some (.inr (a.mergeSort fun x y => decide (x ≤ y))) else none
end Go.Proofs.YtngjamedgphjiaaGreatDoor
