/- What is known for the run of the law on lines of calls; the run of a line. No conditions. -/
import Derived.Test.YtjkhpjnhdijchaaQb
import Derived.Test.YtjkhpjnhdijchaaChecked
import Derived.KernelRfl
set_option linter.unusedVariables false
set_option linter.unusedSimpArgs false
set_option linter.unusedSectionVars false
set_option linter.constructorNameAsVariable false
namespace Go.Proofs.Ytjkhpjnhdijchaa.bl
open Go Go.Am Go.Proofs Go.RowKit
set_option maxRecDepth 1000000
noncomputable section
variable [Go.Qm.Rho]

/-- What is known: 'awake' is true; 'Low', at a number that is not great. -/
def knL (g : FuncId) (vs : List Value) : Option Value :=
  bif Nat.beq g 5 then (bif vs.isEmpty then some (.bool true) else none) else
    bif Nat.beq g 6 then (match vs with
      | [.int .i64 x, .int .i64 m] => (match m with
        | .ofNat m => bif Nat.ble 1 m && Nat.ble m 50 then some (.int .i64 (Go.Qm.low x (.ofNat m))) else none
        | .negSucc _ => none)
      | _ => none) else none
def EL : Env := ⟨knL, fun _ => 0, fun _ => none⟩

/-! The same, quick. -/

def lowT (t : Go.Qm.Sy) (m : Nat) : Go.Qm.Sy := .cv .i64 (.ar .rem .u64 (.cv .u64 t) (.cv .u64 (.ci m)))
def isBack (t : Go.Qm.Sy) : Bool :=
  match t with
  | .vi n => Nat.beq n 1000
  | _ => false
/-- Which of so many is it? -/
def whichQ (t : Go.Qm.Sy) (m : Nat) (H : Go.Qm.QH) (k : Nat → Go.Qm.QH → Bool) : Bool :=
  Nat.rec (motive := fun _ => Go.Qm.QH → Bool) (fun _ => true) (fun j ih H => Go.Qm.forkQ (.cm .eql t (.ci j)) H fun b H => Bool.rec (motive := fun _ => Bool) (ih H) (k j H) b) m H
def kLow : Go.Qm.Kq := ⟨fun en H k => match en with
  | .cons (.q (.i .i64) t) (.cons (.i m) .nil) => bif Nat.ble 1 m && Nat.ble m 50 then (bif isBack t then whichQ (lowT t m) m H fun j H => k (.i j) H else k (.q (.i .i64) (lowT t m)) H) else false
  | _ => false⟩
def TL : FuncId → Option Go.Qm.Kq := fun g => bif Nat.beq g 5 then some Go.Qm.kTrue else bif Nat.beq g 6 then some kLow else none

def cellL (i : Nat) : Go.Qm.V := .q (.i .i64) (.vi i)
def p512 : Go.Qm.Pt := ⟨.d0, .d0, .d2, .d0, .d0⟩
def tabs (n e : Nat) : List (Go.Qm.Pt × Go.Qm.Cs Go.Qm.V × Nat × Nat) := [(p512, Go.Qm.csOf n cellL, n, e)]
def args (n c : Nat) : Go.Qm.En := .cons (.l p512 0 n c) (.cons (.q (.i .i64) (.vi 1000)) .nil)

/-- What is known where it calls back to one of some. -/
def factsL (n b0 b1 m : Nat) : Go.Qm.Fc := Nat.rec (motive := fun _ => Go.Qm.Fc) .nil (fun j ih => bif Nat.ble b0 j && Nat.ble (Nat.succ j) b1 then ih else .cons (.cm .eql (lowT (.vi 1000) n) (.ci j)) false ih) m
def lineR (n b0 b1 e c : Nat) : Bool := Go.Qm.callF Try.prog EL TL (tabs n e) (factsL n b0 b1 n) 1000 3 (args n c) Go.Qm.isB

end
end Go.Proofs.Ytjkhpjnhdijchaa.bl
