/- Cases of the law on brackets. No conditions. -/
import Derived.Test.YtldohofphfkhpaaGreatDoorY1
set_option linter.unusedVariables false
set_option linter.unusedSimpArgs false
namespace Go.Proofs.YtldohofphfkhpaaGreatDoor.sd
set_option maxRecDepth 1000000

theorem runs_Y2 (e : Nat) : (case1 e 0 && (case1 e 1 && (case1 e 2 && (case1 e 3 && (case1 e 4 && (case1 e 5 && (case1 e 6 && (case1 e 7 && (case1 e 8 && case1 e 9))))))))) = true := by kernel_rfl

end Go.Proofs.YtldohofphfkhpaaGreatDoor.sd
