/- The program's types as Lean types: printed by gen2.py. No conditions. -/
import Derived.Test.YtngjamedgphjiaaP0
import Derived.Test.YtngjamedgphjiaaDC
set_option linter.unusedVariables false
set_option linter.unusedSectionVars false
set_option linter.unusedSimpArgs false
namespace Go.Proofs.Ytngjamedgphjiaa
open Go Go.Dl
variable [WInv]
def E3 : El Int := ⟨3, 1, fun x => [.val (.int .i64 x)], default⟩
def E9 : El Bytes := ⟨9, 1, fun x => [.str x], default⟩
def E4 : El Bool := ⟨4, 1, fun x => [.val (.bool x)], default⟩
structure S40 where
  fK : Int
  fA : Int
  fB : Int
deriving Inhabited, DecidableEq
def S40.cs (x : S40) : List C := [.val (.int .i64 x.fK), .val (.int .i64 x.fA), .val (.int .i64 x.fB)]
def E40 : El S40 := ⟨40, 3, S40.cs, default⟩
structure S38 where
  fClass : Int
  fParams : Bytes
  fLocals : Bytes
  fRet : Bool
  fStack : Int
  fOps : (List S40)
deriving Inhabited, DecidableEq
def S38.cs (x : S38) : List C := [.val (.int .i64 x.fClass), .str x.fParams, .str x.fLocals, .val (.bool x.fRet), .val (.int .i64 x.fStack), E40.tree x.fOps]
def E38 : El S38 := ⟨38, 6, S38.cs, default⟩
def E25 : El (List Bytes) := ⟨25, 1, fun x => [E9.tree x], default⟩
structure S64 where
  fFace : Int
  fSlots : (List Int)
deriving Inhabited, DecidableEq
def S64.cs (x : S64) : List C := [.val (.int .i64 x.fFace), E3.tree x.fSlots]
def E64 : El S64 := ⟨64, 2, S64.cs, default⟩
structure S28 where
  fBase : Int
  fFields : Bytes
  fInit : (List Int)
  fVTable : (List Int)
  fSigs : (List Bytes)
  fTables : (List S64)
deriving Inhabited, DecidableEq
def S28.cs (x : S28) : List C := [.val (.int .i64 x.fBase), .str x.fFields, E3.tree x.fInit, E3.tree x.fVTable, E9.tree x.fSigs, E64.tree x.fTables]
def E28 : El S28 := ⟨28, 6, S28.cs, default⟩
structure S105 where
  fGlobal : Int
  fSlot : Int
  fBool : Bool
deriving Inhabited, DecidableEq
def S105.cs (x : S105) : List C := [.val (.int .i64 x.fGlobal), .val (.int .i64 x.fSlot), .val (.bool x.fBool)]
def E105 : El S105 := ⟨105, 3, S105.cs, default⟩
structure S107 where
  fCode : Int
  fEvery : Int
  fFirst : Int
deriving Inhabited, DecidableEq
def S107.cs (x : S107) : List C := [.val (.int .i64 x.fCode), .val (.int .i64 x.fEvery), .val (.int .i64 x.fFirst)]
def E107 : El S107 := ⟨107, 3, S107.cs, default⟩
structure S35 where
  fFaces : (List (List Bytes))
  fClasses : (List S28)
  fCodes : (List S38)
  fInsts : (List Int)
  fGlobals : Bytes
  fInit : (List Int)
  fBlocks : (List Int)
  fIns : (List S105)
  fOuts : (List S105)
  fJobs : (List S107)
  fD : Int
  fW : Int
deriving Inhabited, DecidableEq
def S35.cs (x : S35) : List C := [E25.tree x.fFaces, E28.tree x.fClasses, E38.tree x.fCodes, E3.tree x.fInsts, .str x.fGlobals, E3.tree x.fInit, E3.tree x.fBlocks, E105.tree x.fIns, E105.tree x.fOuts, E107.tree x.fJobs, .val (.int .i64 x.fD), .val (.int .i64 x.fW)]
def E35 : El S35 := ⟨35, 12, S35.cs, default⟩
structure S53 where
  fcodes : Int
  fwords : Int
  fok : Bool
deriving Inhabited, DecidableEq
def S53.cs (x : S53) : List C := [.val (.int .i64 x.fcodes), .val (.int .i64 x.fwords), .val (.bool x.fok)]
def E53 : El S53 := ⟨53, 3, S53.cs, default⟩
structure S51 where
  fim : S35
  fknown : (Mp S53)
  funder : (Mp Bool)
deriving Inhabited
end Go.Proofs.Ytngjamedgphjiaa
