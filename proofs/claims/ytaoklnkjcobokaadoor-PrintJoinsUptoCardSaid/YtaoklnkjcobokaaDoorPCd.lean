/- What every world of a call holds; the library's functions as plain functions. No conditions. -/
import Derived.Test.YtaoklnkjcobokaaDoorPTy
import Derived.Test.YtaoklnkjcobokaaDoorProg
import Derived.KernelRfl
import Derived.Lib.LaidTab
import Derived.Lib.ItoaNum
import Derived.Lib.Join
set_option linter.unusedVariables false
set_option linter.unusedSimpArgs false
set_option linter.unusedSectionVars false
namespace Go.Proofs.YtaoklnkjcobokaaDoor
open Go Go.Proofs Go.Dl
set_option maxRecDepth 100000

/-- What is known of a world. -/
structure WI (w : World) : Prop where
  size : 4 ≤ w.heap.size
  tab : Lib.TabIs Tryd.prog w "internal/strconv.uint64pow10" .u64 Lib.pow10Tab

theorem glob_tab : Tryd.prog.globalNamed "internal/strconv.uint64pow10" = some 1 := by kernel_rfl

theorem WI.keep {w w' : World} (hs : w.heap.size ≤ w'.heap.size) (hb : ∀ b, b < 4 → w'.heap[b]? = w.heap[b]?) (h : WI w) : WI w' := by
  obtain ⟨h1, h5⟩ := h
  refine ⟨Nat.le_trans h1 hs, ?_⟩
  unfold Lib.TabIs World.var? at h5 ⊢
  rw [glob_tab] at h5 ⊢
  simp only [Option.bind_some] at h5 ⊢
  rw [hb _ (by decide)]; exact h5

instance winv : WInv where
  N := 4
  I := WI
  size := fun _ h => h.size
  keep := fun _ _ hs hb h => h.keep hs hb

abbrev errC (e : Err) : C := errC' 0 e
theorem errC_nil : CLe (.val .nilIface) (errC none) := errC_nil'

def F37 (K : Nat) (a0 : S59) : Option (S59 ⊕ S59) := some (.inl ⟨true, a0.fbuf⟩)
def F21 (K : Nat) (a0 : S59) : Option (Bytes ⊕ Bytes) := some (.inl a0.fbuf)
def F52 (K : Nat) (a0 : Int) : Option (Bytes ⊕ Bytes) := if -9223372036854775808 ≤ a0 ∧ a0 ≤ 9223372036854775807 then some (.inl (Lib.itoa a0)) else none
def F38 (K : Nat) (a0 : List Bytes) (a1 : Bytes) : Option (Bytes ⊕ Bytes) := if (Lib.join a0 a1).length ≤ 140737488355328 ∧ a0.length ≤ 140737488355328 then some (.inl (Lib.join a0 a1)) else none
end Go.Proofs.YtaoklnkjcobokaaDoor
