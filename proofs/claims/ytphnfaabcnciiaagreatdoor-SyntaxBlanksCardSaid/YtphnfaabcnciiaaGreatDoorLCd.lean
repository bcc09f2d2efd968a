/- What every world of a call holds; the library's functions as plain functions. No conditions. -/
import Derived.Test.YtphnfaabcnciiaaGreatDoorTyA
import Derived.Test.YtphnfaabcnciiaaGreatDoorProg
import Derived.KernelRfl
import Derived.Lib.LaidTab
import Derived.Lib.AtoiAllCases
import Derived.Lib.IndexMore
import Derived.Lib.FieldsLaws
set_option linter.unusedVariables false
set_option linter.unusedSimpArgs false
set_option linter.unusedSectionVars false
namespace Go.Proofs.YtphnfaabcnciiaaGreatDoor
open Go Go.Proofs Go.Dl
set_option maxRecDepth 100000

/-- What is known of a world. -/
structure WI (w : World) : Prop where
  size : 10 ≤ w.heap.size
  max : ∃ m, w.cell? ⟨1, 0, none⟩ = some (.int .i64 m)
  syn : ∃ ev, w.cell? ⟨3, 0, none⟩ = some ev ∧ (ev = .nilIface ∨ ∃ te pe, ev = .iface te pe)
  rng : ∃ ev, w.cell? ⟨4, 0, none⟩ = some ev ∧ (ev = .nilIface ∨ ∃ te pe, ev = .iface te pe)
  tab : Lib.TabIs Tryz.prog w "strings.asciiSpace" .u8 Lib.asciiSpaceTab
  err : w.cell? ⟨0, 0, none⟩ = some (.iface 137 (.agg #[.pointer (some ⟨10, 27, none⟩)]))

theorem glob_tab : Tryz.prog.globalNamed "strings.asciiSpace" = some 2 := by kernel_rfl

theorem WI.keep {w w' : World} (hs : w.heap.size ≤ w'.heap.size) (hb : ∀ b, b < 10 → w'.heap[b]? = w.heap[b]?) (h : WI w) : WI w' := by
  have hc : ∀ b, b < 10 → w'.cell? ⟨b, 0, none⟩ = w.cell? ⟨b, 0, none⟩ := fun b hl => World.cell?_of_block (hb b hl)
  obtain ⟨h1, h2, h3, h4, h5, h6⟩ := h
  refine ⟨Nat.le_trans h1 hs, ?_, ?_, ?_, ?_, ?_⟩
  · rw [hc _ (by decide)]; exact h2
  · rw [hc _ (by decide)]; exact h3
  · rw [hc _ (by decide)]; exact h4
  · unfold Lib.TabIs World.var? at h5 ⊢
    rw [glob_tab] at h5 ⊢
    simp only [Option.bind_some] at h5 ⊢
    rw [hb _ (by decide)]; exact h5
  · rw [hc _ (by decide)]; exact h6

instance winv : WInv where
  N := 10
  I := WI
  size := fun _ h => h.size
  keep := fun _ _ hs hb h => h.keep hs hb

def F88 (K : Nat) (a0 a1 : Bytes) : Option (Int ⊕ Int) := if a0.length < 4294967281 then some (.inl (Lib.index a0 a1)) else none
def F122 (K : Nat) (a0 : Bytes) : Option (List Bytes ⊕ List Bytes) := if a0.length < 4294967281 ∧ a0.all (fun b => decide (b.toNat < 128)) = true then some (.inl (Lib.fields a0)) else none
def F92 (K : Nat) (a0 : Bytes) : Option ((Int × Bool) ⊕ (Int × Bool)) := if a0.length ≤ 281474976710656 then some (.inl (match Lib.atoiAll a0 with
  | .ok n => (n, false)
  | .range => (Lib.atoiSat a0, true)
  | _ => (0, true))) else none
def F10 (K : Nat) (a0 : Err) : Option ((Int × Int) ⊕ (Int × Int)) := some (.inl (a0.headD (0, 0)))
end Go.Proofs.YtphnfaabcnciiaaGreatDoor
