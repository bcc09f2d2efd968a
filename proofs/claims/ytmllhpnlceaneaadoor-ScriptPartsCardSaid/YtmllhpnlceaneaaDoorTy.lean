/- The program's types as Lean types: printed by gen2.py. No conditions. -/
import Derived.Test.YtmllhpnlceaneaaDoorPA
set_option linter.unusedVariables false
namespace Go.Proofs.YtmllhpnlceaneaaDoor
open Go Go.Dl
def E5 : El UInt8 := ⟨5, 1, fun x => [.val (.int .u8 (Int.ofNat x.toNat))], default⟩
def E3 : El Int := ⟨3, 1, fun x => [.val (.int .i64 x)], default⟩
def E43 : El (List Int) := ⟨43, 1, fun x => [E3.tree x], default⟩
/-- api.Scan -/
structure S45 where
  fIn : (List Int)
  fTicks : Int
deriving Inhabited, DecidableEq
def S45.cs (x : S45) : List C := [E3.tree x.fIn, .val (.int .i64 x.fTicks)]
def E45 : El S45 := ⟨45, 2, S45.cs, default⟩
/-- strings.Builder -/
structure S52 where
  faddr : Bool
  fbuf : (List UInt8)
deriving Inhabited
/-- script.writer -/
structure S73 where
  fBuilder : S52
  fbad : Bool
deriving Inhabited
def E9 : El Bytes := ⟨9, 1, fun x => [.str x], default⟩
def E27 : El (List S45) := ⟨27, 1, fun x => [E45.tree x], default⟩

abbrev Sc := S45
end Go.Proofs.YtmllhpnlceaneaaDoor
