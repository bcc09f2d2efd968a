/- Lines of calls. No conditions. -/
import Derived.Test.YtjkhpjnhdijchaaL1
namespace Go.Proofs.Ytjkhpjnhdijchaa.bl
set_option maxRecDepth 1000000
variable [Go.Qm.Rho]
theorem r14_0 (e c : Nat) : lineR 14 0 14 e c = true := by kernel_rfl
theorem r13_0 (e c : Nat) : lineR 13 0 13 e c = true := by kernel_rfl
end Go.Proofs.Ytjkhpjnhdijchaa.bl
