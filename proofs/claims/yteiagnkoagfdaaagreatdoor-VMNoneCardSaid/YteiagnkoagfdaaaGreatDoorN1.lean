/- The law of the machine, 'awake' of it: it comes to true, in every world. No conditions. -/
import Derived.Test.YteiagnkoagfdaaaGreatDoorA17
import Derived.Test.YteiagnkoagfdaaaGreatDoorChecked
import Derived.KernelRfl
namespace Go.Proofs.YteiagnkoagfdaaaGreatDoor.vmAwake
open Go Go.Am Go.Proofs
set_option maxRecDepth 1000000

theorem run : isT (callA Tryz.prog E0 1000 600 10 [] ⟨.nil, 600⟩) = true := by kernel_rfl

theorem text : ∃ fn c, Tryz.prog.funcs[10]? = some fn ∧ (fn.name == "runtime.NumGoroutine") = false ∧ fn.body = some c :=
  ⟨_, _, Tryz.func10, by kernel_rfl, rfl⟩

theorem calls (w : World) : Calls Tryz.prog 10 #[] w fun e w' => e = .returned (.bool true) ∧ Up w w' :=
  calls_true (us := []) (E0_good _) run text (fun _ => .nil) w

end Go.Proofs.YteiagnkoagfdaaaGreatDoor.vmAwake
