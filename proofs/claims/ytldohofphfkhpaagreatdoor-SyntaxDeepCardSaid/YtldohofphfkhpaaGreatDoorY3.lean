/- Cases of the law on brackets. No conditions. -/
import Derived.Test.YtldohofphfkhpaaGreatDoorY1
set_option linter.unusedVariables false
set_option linter.unusedSimpArgs false
namespace Go.Proofs.YtldohofphfkhpaaGreatDoor.sd
set_option maxRecDepth 1000000

theorem runs_Y3 (e : Nat) : (case1 e 10 && (case1 e 11 && (case1 e 12 && (case1 e 13 && (case1 e 14 && (case1 e 15 && (case1 e 16 && (case1 e 17 && (case1 e 18 && case1 e 19))))))))) = true := by kernel_rfl

end Go.Proofs.YtldohofphfkhpaaGreatDoor.sd
