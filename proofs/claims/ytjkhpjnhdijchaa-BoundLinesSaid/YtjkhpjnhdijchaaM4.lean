/- Lines of calls. No conditions. -/
import Derived.Test.YtjkhpjnhdijchaaL1
namespace Go.Proofs.Ytjkhpjnhdijchaa.bl
set_option maxRecDepth 1000000
variable [Go.Qm.Rho]
theorem r30_20 (e c : Nat) : lineR 30 20 30 e c = true := by kernel_rfl
theorem r6_0 (e c : Nat) : lineR 6 0 6 e c = true := by kernel_rfl
end Go.Proofs.Ytjkhpjnhdijchaa.bl
