/- The law's runs: by how many digits, and how many noughts. No conditions. -/
import Derived.Test.YthmkdcclmaoonaaDoorE2
set_option linter.unusedVariables false
set_option linter.unusedSectionVars false
namespace Go.Proofs.YthmkdcclmaoonaaDoor.ln
open Go Go.Am
set_option maxRecDepth 1000000
variable [Go.Qm.Rho]
theorem r00 (e : Nat) : case1 e 0 0 = true := by kernel_rfl
theorem r01 (e : Nat) : case1 e 0 1 = true := by kernel_rfl
theorem r02 (e : Nat) : case1 e 0 2 = true := by kernel_rfl
theorem r03 (e : Nat) : case1 e 0 3 = true := by kernel_rfl
theorem r10 (e : Nat) : case1 e 1 0 = true := by kernel_rfl
theorem r11 (e : Nat) : case1 e 1 1 = true := by kernel_rfl
theorem r12 (e : Nat) : case1 e 1 2 = true := by kernel_rfl
theorem r13 (e : Nat) : case1 e 1 3 = true := by kernel_rfl
theorem r20 (e : Nat) : case1 e 2 0 = true := by kernel_rfl
theorem r21 (e : Nat) : case1 e 2 1 = true := by kernel_rfl
theorem r22 (e : Nat) : case1 e 2 2 = true := by kernel_rfl
theorem r23 (e : Nat) : case1 e 2 3 = true := by kernel_rfl
theorem r30 (e : Nat) : case1 e 3 0 = true := by kernel_rfl
theorem r31 (e : Nat) : case1 e 3 1 = true := by kernel_rfl
theorem r32 (e : Nat) : case1 e 3 2 = true := by kernel_rfl
theorem r33 (e : Nat) : case1 e 3 3 = true := by kernel_rfl
theorem r40 (e : Nat) : case1 e 4 0 = true := by kernel_rfl
theorem r41 (e : Nat) : case1 e 4 1 = true := by kernel_rfl
theorem r42 (e : Nat) : case1 e 4 2 = true := by kernel_rfl
theorem r43 (e : Nat) : case1 e 4 3 = true := by kernel_rfl
theorem r50 (e : Nat) : case1 e 5 0 = true := by kernel_rfl
theorem r51 (e : Nat) : case1 e 5 1 = true := by kernel_rfl
theorem r52 (e : Nat) : case1 e 5 2 = true := by kernel_rfl
theorem r53 (e : Nat) : case1 e 5 3 = true := by kernel_rfl
theorem r60 (e : Nat) : case1 e 6 0 = true := by kernel_rfl
theorem r61 (e : Nat) : case1 e 6 1 = true := by kernel_rfl
theorem r62 (e : Nat) : case1 e 6 2 = true := by kernel_rfl
theorem r63 (e : Nat) : case1 e 6 3 = true := by kernel_rfl
end Go.Proofs.YthmkdcclmaoonaaDoor.ln
