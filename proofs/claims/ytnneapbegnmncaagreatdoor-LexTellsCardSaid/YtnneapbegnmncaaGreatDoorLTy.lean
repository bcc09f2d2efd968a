/- The program's types as Lean types: printed by gen2.py. No conditions. -/
import Derived.Test.YtnneapbegnmncaaGreatDoorP0
import Derived.Test.YtnneapbegnmncaaGreatDoorDC
set_option linter.unusedVariables false
set_option linter.unusedSectionVars false
set_option linter.unusedSimpArgs false
namespace Go.Proofs.YtnneapbegnmncaaGreatDoor
open Go Go.Dl
variable [WInv]
def E3 : El Int := ⟨3, 1, fun x => [.val (.int .i64 x)], default⟩
def E9 : El Bytes := ⟨9, 1, fun x => [.str x], default⟩
/-- api.Token -/
structure S37 where
  fKind : Int
  fText : Bytes
  fN : Int
  fAt : Int
deriving Inhabited, DecidableEq
def S37.cs (x : S37) : List C := [.val (.int .i64 x.fKind), .str x.fText, .val (.int .i64 x.fN), .val (.int .i64 x.fAt)]
def E37 : El S37 := ⟨37, 4, S37.cs, default⟩
/-- lex.lexer -/
structure S42 where
  fsrc : Bytes
  fat : Int
  ftokens : (List S37)
deriving Inhabited
def E5 : El UInt8 := ⟨5, 1, fun x => [.val (.int .u8 (Int.ofNat x.toNat))], default⟩
def E23 : El (List S37) := ⟨23, 1, fun x => [E37.tree x], default⟩
end Go.Proofs.YtnneapbegnmncaaGreatDoor
