/- Lines of calls. No conditions. -/
import Derived.Test.YtjkhpjnhdijchaaL1
namespace Go.Proofs.Ytjkhpjnhdijchaa.bl
set_option maxRecDepth 1000000
variable [Go.Qm.Rho]
theorem r28_10 (e c : Nat) : lineR 28 10 20 e c = true := by kernel_rfl
theorem r8_0 (e c : Nat) : lineR 8 0 8 e c = true := by kernel_rfl
end Go.Proofs.Ytjkhpjnhdijchaa.bl
