/- Lines of calls. No conditions. -/
import Derived.Test.YtjkhpjnhdijchaaL1
namespace Go.Proofs.Ytjkhpjnhdijchaa.bl
set_option maxRecDepth 1000000
variable [Go.Qm.Rho]
theorem r16_0 (e c : Nat) : lineR 16 0 16 e c = true := by kernel_rfl
end Go.Proofs.Ytjkhpjnhdijchaa.bl
