/- Lines of calls. No conditions. -/
import Derived.Test.YtjkhpjnhdijchaaL1
namespace Go.Proofs.Ytjkhpjnhdijchaa.bl
set_option maxRecDepth 1000000
variable [Go.Qm.Rho]
theorem r25_13 (e c : Nat) : lineR 25 13 25 e c = true := by kernel_rfl
theorem r7_0 (e c : Nat) : lineR 7 0 7 e c = true := by kernel_rfl
end Go.Proofs.Ytjkhpjnhdijchaa.bl
