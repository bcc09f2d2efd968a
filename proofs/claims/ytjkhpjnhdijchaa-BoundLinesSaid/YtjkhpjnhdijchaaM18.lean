/- Lines of calls. No conditions. -/
import Derived.Test.YtjkhpjnhdijchaaL1
namespace Go.Proofs.Ytjkhpjnhdijchaa.bl
set_option maxRecDepth 1000000
variable [Go.Qm.Rho]
theorem r23_12 (e c : Nat) : lineR 23 12 23 e c = true := by kernel_rfl
theorem r10_0 (e c : Nat) : lineR 10 0 10 e c = true := by kernel_rfl
end Go.Proofs.Ytjkhpjnhdijchaa.bl
