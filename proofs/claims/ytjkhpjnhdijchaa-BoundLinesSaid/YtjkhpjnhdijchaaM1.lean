/- Lines of calls. No conditions. -/
import Derived.Test.YtjkhpjnhdijchaaL1
namespace Go.Proofs.Ytjkhpjnhdijchaa.bl
set_option maxRecDepth 1000000
variable [Go.Qm.Rho]
theorem r26_13 (e c : Nat) : lineR 26 13 26 e c = true := by kernel_rfl
theorem r4_0 (e c : Nat) : lineR 4 0 4 e c = true := by kernel_rfl
end Go.Proofs.Ytjkhpjnhdijchaa.bl
