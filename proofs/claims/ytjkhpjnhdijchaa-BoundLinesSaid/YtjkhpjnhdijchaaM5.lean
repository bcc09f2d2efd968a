/- Lines of calls. No conditions. -/
import Derived.Test.YtjkhpjnhdijchaaL1
namespace Go.Proofs.Ytjkhpjnhdijchaa.bl
set_option maxRecDepth 1000000
variable [Go.Qm.Rho]
theorem r30_10 (e c : Nat) : lineR 30 10 20 e c = true := by kernel_rfl
end Go.Proofs.Ytjkhpjnhdijchaa.bl
