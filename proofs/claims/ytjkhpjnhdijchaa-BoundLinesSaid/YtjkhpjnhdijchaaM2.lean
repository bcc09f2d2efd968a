/- Lines of calls. No conditions. -/
import Derived.Test.YtjkhpjnhdijchaaL1
namespace Go.Proofs.Ytjkhpjnhdijchaa.bl
set_option maxRecDepth 1000000
variable [Go.Qm.Rho]
theorem r26_0 (e c : Nat) : lineR 26 0 13 e c = true := by kernel_rfl
theorem r2_0 (e c : Nat) : lineR 2 0 2 e c = true := by kernel_rfl
end Go.Proofs.Ytjkhpjnhdijchaa.bl
