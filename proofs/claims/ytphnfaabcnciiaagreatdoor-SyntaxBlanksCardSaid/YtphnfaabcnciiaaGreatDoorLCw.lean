/- A lexer's error in other words, where there is none. No conditions. -/
import Derived.Test.YtphnfaabcnciiaaGreatDoorLCe
set_option linter.unusedVariables false
set_option linter.unusedSimpArgs false
set_option linter.unusedSectionVars false
namespace Go.Proofs.YtphnfaabcnciiaaGreatDoor
open Go Go.Proofs Go.RowKit Go.Dl Go.Shelf
set_option maxRecDepth 100000

def F36 (K : Nat) (a0 : Err) : Option (Err ⊕ Err) := if a0 = [] then some (.inl []) else none

theorem wrapped_of_nil (w : World) : Calls Tryz.prog 36 #[.nilIface] w fun e w' => e = .returned .nilIface ∧ RowKit.Below w.heap.size w w' := by
  have hn := fun (b : Addr) (w : World) => run_eql_iface_nil_left (P := Tryz.prog) w 72 (.pointer (some b)) Tryz.underlying27
  go_enter Tryz.func36, Tryz.ntmps36
  go_wp2
  refine wp_loop_rounds 4 ?_
  rw [rounds_succ]
  go_wp2
  rw [rounds_succ]
  go_wp2
  rw [rounds_succ]
  go_wp2
  rw [rounds_succ]
  go_wp2
  go_ret
  exact ⟨rfl, ((below_alloc _ _).trans ((below_alloc _ _).mono (by simp))).trans (((below_alloc _ _).mono (by simp <;> omega)).trans ((below_alloc _ _).mono (by simp <;> omega)))⟩

theorem F36_ok (K : Nat) (a0 : Err) : DFun Tryz.prog 36 [.c (errC a0)] [] (fnS (F36 K a0)) (fun r => .c (errC r)) (fun r => []) := by
  refine DFun.of_callsH fun S β w vs hI hH hv r hr => ?_
  obtain ⟨v0, r0, rfl, h0, rfl⟩ := hv
  unfold F36 at hr
  split at hr
  · rename_i he
    subst he
    simp only [fnS, Option.some.injEq] at hr
    subst hr
    obtain rfl : v0 = .nilIface := h0
    exact (wrapped_of_nil w).mono fun e w' ⟨he, hw⟩ => ⟨_, he, errC_nil S β _ rfl, up_below hw⟩
  · cases hr
end Go.Proofs.YtphnfaabcnciiaaGreatDoor
