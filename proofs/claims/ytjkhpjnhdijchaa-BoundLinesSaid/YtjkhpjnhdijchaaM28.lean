/- Lines of calls. No conditions. -/
import Derived.Test.YtjkhpjnhdijchaaL1
namespace Go.Proofs.Ytjkhpjnhdijchaa.bl
set_option maxRecDepth 1000000
variable [Go.Qm.Rho]
theorem r21_11 (e c : Nat) : lineR 21 11 21 e c = true := by kernel_rfl
theorem r12_0 (e c : Nat) : lineR 12 0 12 e c = true := by kernel_rfl
end Go.Proofs.Ytjkhpjnhdijchaa.bl
