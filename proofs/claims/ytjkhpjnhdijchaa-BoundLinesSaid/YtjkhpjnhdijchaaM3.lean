/- Lines of calls. No conditions. -/
import Derived.Test.YtjkhpjnhdijchaaL1
namespace Go.Proofs.Ytjkhpjnhdijchaa.bl
set_option maxRecDepth 1000000
variable [Go.Qm.Rho]
theorem r25_0 (e c : Nat) : lineR 25 0 13 e c = true := by kernel_rfl
theorem r5_0 (e c : Nat) : lineR 5 0 5 e c = true := by kernel_rfl
end Go.Proofs.Ytjkhpjnhdijchaa.bl
