/- awake. No conditions. -/
import Derived.Test.YtidjangjfekfjaaGreatDoorSa
import Derived.KernelRfl
set_option linter.unusedVariables false
namespace Go.Proofs.YtidjangjfekfjaaGreatDoor
open Go Go.Dl
set_option maxRecDepth 1000000
theorem awake0 : fnS (F5 200001) = some true := by kernel_rfl
end Go.Proofs.YtidjangjfekfjaaGreatDoor
