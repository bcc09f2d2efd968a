/- Lines of calls. No conditions. -/
import Derived.Test.YtjkhpjnhdijchaaL1
namespace Go.Proofs.Ytjkhpjnhdijchaa.bl
set_option maxRecDepth 1000000
variable [Go.Qm.Rho]
theorem r19_0 (e c : Nat) : lineR 19 0 19 e c = true := by kernel_rfl
theorem r3_0 (e c : Nat) : lineR 3 0 3 e c = true := by kernel_rfl
theorem r1_0 (e c : Nat) : lineR 1 0 1 e c = true := by kernel_rfl
end Go.Proofs.Ytjkhpjnhdijchaa.bl
