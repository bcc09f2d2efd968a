/- The law of the scans, 'awake' of it: it comes to true, in every world. No conditions. -/
import Derived.Test.YtlhpaebiefmfiaaGreatDoorQ14
import Derived.Test.YtlhpaebiefmfiaaGreatDoorChecked
import Derived.KernelRfl
namespace Go.Proofs.YtlhpaebiefmfiaaGreatDoor.scanAwake
open Go Go.Am Go.Proofs
set_option maxRecDepth 1000000

theorem runQ : Go.Qm.callN Tryz.prog E0 1000 21 .nil Go.Qm.H0 Go.Qm.isB = true := by kernel_rfl

theorem run : isT (callA Tryz.prog E0 1000 600 21 [] ⟨.nil, 600⟩) = true := Go.Qm.isT_of (en := .nil) trivial runQ

theorem text : ∃ fn c, Tryz.prog.funcs[21]? = some fn ∧ (fn.name == "runtime.NumGoroutine") = false ∧ fn.body = some c :=
  ⟨_, _, Tryz.func21, by kernel_rfl, rfl⟩

theorem calls (w : World) : Calls Tryz.prog 21 #[] w fun e w' => e = .returned (.bool true) ∧ Up w w' :=
  calls_true (us := []) (E0_good _) run text (fun _ => .nil) w

end Go.Proofs.YtlhpaebiefmfiaaGreatDoor.scanAwake
