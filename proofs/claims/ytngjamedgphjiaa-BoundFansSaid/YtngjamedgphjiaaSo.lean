/- slices.Sort of numbers at this program. No conditions. -/
import Derived.Test.YtngjamedgphjiaaDC
import Derived.Test.YtngjamedgphjiaaGa
import Derived.Test.YtngjamedgphjiaaSh
set_option linter.unusedVariables false
set_option linter.unusedSimpArgs false
set_option linter.unusedSectionVars false
namespace Go.Proofs.Ytngjamedgphjiaa
open Go Go.Proofs Go.Dl
variable [WInv]
def F13 (K : Nat) (a : List Int) : Option (List Int ⊕ List Int) := if a.length < 4611686018427387904 then some (.inr (a.mergeSort fun x y => decide (x ≤ y))) else none
theorem F13_ok (K : Nat) (a : List Int) : DFun Try.prog 13 [.c (.own 0 a.length)] [E3.row a] (fnS (F13 K a)) (fun r => .tup []) (fun r => [E3.row r]) := by
  refine DFun.congr (DFun.sortInts E3 rfl rfl Try.slices_Sort_int Try.slices_Sort_int_none a) ?_
  unfold F13
  split <;> rfl
end Go.Proofs.Ytngjamedgphjiaa
