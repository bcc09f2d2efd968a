/- Four cases of the law of the machine. No conditions. -/
import Derived.Test.YtlhpaebiefmfiaaGreatDoorV1
namespace Go.Proofs.YtlhpaebiefmfiaaGreatDoor.vMDispatch
set_option maxRecDepth 1000000

theorem run_V2h : (case1 true 1 1 1 && case1 true 1 1 2 && case1 true 2 0 0 && case1 true 2 0 1) = true := by kernel_rfl

end Go.Proofs.YtlhpaebiefmfiaaGreatDoor.vMDispatch
