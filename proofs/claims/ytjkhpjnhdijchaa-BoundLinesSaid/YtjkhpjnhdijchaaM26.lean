/- Lines of calls. No conditions. -/
import Derived.Test.YtjkhpjnhdijchaaL1
namespace Go.Proofs.Ytjkhpjnhdijchaa.bl
set_option maxRecDepth 1000000
variable [Go.Qm.Rho]
theorem r21_0 (e c : Nat) : lineR 21 0 11 e c = true := by kernel_rfl
theorem r11_0 (e c : Nat) : lineR 11 0 11 e c = true := by kernel_rfl
end Go.Proofs.Ytjkhpjnhdijchaa.bl
