/- The program's types as Lean types: printed by gen2.py. No conditions. -/
import Derived.Test.YtmllhpnlceaneaaGreatDoorPA
import Derived.Test.YtmllhpnlceaneaaGreatDoorDC
set_option linter.unusedVariables false
set_option linter.unusedSectionVars false
set_option linter.unusedSimpArgs false
namespace Go.Proofs.YtmllhpnlceaneaaGreatDoor
open Go Go.Dl
variable [WInv]
def E5 : El UInt8 := ⟨5, 1, fun x => [.val (.int .u8 (Int.ofNat x.toNat))], default⟩
def E3 : El Int := ⟨3, 1, fun x => [.val (.int .i64 x)], default⟩
def E33 : El (List Int) := ⟨33, 1, fun x => [E3.tree x], default⟩
/-- api.Scan -/
structure S35 where
  fIn : (List Int)
  fTicks : Int
deriving Inhabited, DecidableEq
def S35.cs (x : S35) : List C := [E3.tree x.fIn, .val (.int .i64 x.fTicks)]
def E35 : El S35 := ⟨35, 2, S35.cs, default⟩
/-- strings.Builder -/
structure S46 where
  faddr : Bool
  fbuf : (List UInt8)
deriving Inhabited
/-- script.writer -/
structure S48 where
  fBuilder : S46
  fbad : Bool
deriving Inhabited
def E9 : El Bytes := ⟨9, 1, fun x => [.str x], default⟩
def E22 : El (List S35) := ⟨22, 1, fun x => [E35.tree x], default⟩

abbrev Sc := S35
end Go.Proofs.YtmllhpnlceaneaaGreatDoor
