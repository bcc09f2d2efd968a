/- The program's types as Lean types: printed by gen2.py. No conditions. -/
import Derived.Test.YtngjamedgphjiaaGreatDoorP0
import Derived.Test.YtngjamedgphjiaaGreatDoorWd
import Derived.Test.YtngjamedgphjiaaGreatDoorDC
set_option linter.unusedVariables false
set_option linter.unusedSectionVars false
set_option linter.unusedSimpArgs false
namespace Go.Proofs.YtngjamedgphjiaaGreatDoor
open Go Go.Dl
variable [WInv]
def E9 : El Bytes := ⟨9, 1, fun x => [.str x], default⟩
def E44 : El (List Bytes) := ⟨44, 1, fun x => [E9.tree x], default⟩
def E3 : El Int := ⟨3, 1, fun x => [.val (.int .i64 x)], default⟩
structure S50 where
  fFace : Int
  fSlots : (List Int)
deriving Inhabited, DecidableEq
def S50.cs (x : S50) : List C := [.val (.int .i64 x.fFace), E3.tree x.fSlots]
def E50 : El S50 := ⟨50, 2, S50.cs, default⟩
structure S47 where
  fBase : Int
  fFields : Bytes
  fInit : (List Int)
  fVTable : (List Int)
  fSigs : (List Bytes)
  fTables : (List S50)
deriving Inhabited, DecidableEq
def S47.cs (x : S47) : List C := [.val (.int .i64 x.fBase), .str x.fFields, E3.tree x.fInit, E3.tree x.fVTable, E9.tree x.fSigs, E50.tree x.fTables]
def E47 : El S47 := ⟨47, 6, S47.cs, default⟩
def E4 : El Bool := ⟨4, 1, fun x => [.val (.bool x)], default⟩
structure S61 where
  fK : Int
  fA : Int
  fB : Int
deriving Inhabited, DecidableEq
def S61.cs (x : S61) : List C := [.val (.int .i64 x.fK), .val (.int .i64 x.fA), .val (.int .i64 x.fB)]
def E61 : El S61 := ⟨61, 3, S61.cs, default⟩
structure S39 where
  fClass : Int
  fParams : Bytes
  fLocals : Bytes
  fRet : Bool
  fStack : Int
  fOps : (List S61)
deriving Inhabited, DecidableEq
def S39.cs (x : S39) : List C := [.val (.int .i64 x.fClass), .str x.fParams, .str x.fLocals, .val (.bool x.fRet), .val (.int .i64 x.fStack), E61.tree x.fOps]
def E39 : El S39 := ⟨39, 6, S39.cs, default⟩
structure S78 where
  fGlobal : Int
  fSlot : Int
  fBool : Bool
deriving Inhabited, DecidableEq
def S78.cs (x : S78) : List C := [.val (.int .i64 x.fGlobal), .val (.int .i64 x.fSlot), .val (.bool x.fBool)]
def E78 : El S78 := ⟨78, 3, S78.cs, default⟩
structure S42 where
  fCode : Int
  fEvery : Int
  fFirst : Int
deriving Inhabited, DecidableEq
def S42.cs (x : S42) : List C := [.val (.int .i64 x.fCode), .val (.int .i64 x.fEvery), .val (.int .i64 x.fFirst)]
def E42 : El S42 := ⟨42, 3, S42.cs, default⟩
structure S29 where
  fFaces : (List (List Bytes))
  fClasses : (List S47)
  fCodes : (List S39)
  fInsts : (List Int)
  fGlobals : Bytes
  fInit : (List Int)
  fBlocks : (List Int)
  fIns : (List S78)
  fOuts : (List S78)
  fJobs : (List S42)
  fD : Int
  fW : Int
deriving Inhabited, DecidableEq
def S29.cs (x : S29) : List C := [E44.tree x.fFaces, E47.tree x.fClasses, E39.tree x.fCodes, E3.tree x.fInsts, .str x.fGlobals, E3.tree x.fInit, E3.tree x.fBlocks, E78.tree x.fIns, E78.tree x.fOuts, E42.tree x.fJobs, .val (.int .i64 x.fD), .val (.int .i64 x.fW)]
def E29 : El S29 := ⟨29, 12, S29.cs, default⟩
structure S107 where
  fim : S29
  fc : S39
  fknown : (List Bool)
  fstacks : (List Bytes)
  ftodo : (List Int)
  fmost : Int
deriving Inhabited, DecidableEq
def S107.cs (x : S107) : List C := [E44.tree x.fim.fFaces, E47.tree x.fim.fClasses, E39.tree x.fim.fCodes, E3.tree x.fim.fInsts, .str x.fim.fGlobals, E3.tree x.fim.fInit, E3.tree x.fim.fBlocks, E78.tree x.fim.fIns, E78.tree x.fim.fOuts, E42.tree x.fim.fJobs, .val (.int .i64 x.fim.fD), .val (.int .i64 x.fim.fW), .val (.int .i64 x.fc.fClass), .str x.fc.fParams, .str x.fc.fLocals, .val (.bool x.fc.fRet), .val (.int .i64 x.fc.fStack), E61.tree x.fc.fOps, E4.tree x.fknown, E9.tree x.fstacks, E3.tree x.ftodo, .val (.int .i64 x.fmost)]
def E107 : El S107 := ⟨107, 22, S107.cs, default⟩
def S107.oc (x : S107) (o0 : Nat) (o1 : Nat) (o2 : Nat) : List C := [E44.tree x.fim.fFaces, E47.tree x.fim.fClasses, E39.tree x.fim.fCodes, E3.tree x.fim.fInsts, .str x.fim.fGlobals, E3.tree x.fim.fInit, E3.tree x.fim.fBlocks, E78.tree x.fim.fIns, E78.tree x.fim.fOuts, E42.tree x.fim.fJobs, .val (.int .i64 x.fim.fD), .val (.int .i64 x.fim.fW), .val (.int .i64 x.fc.fClass), .str x.fc.fParams, .str x.fc.fLocals, .val (.bool x.fc.fRet), .val (.int .i64 x.fc.fStack), E61.tree x.fc.fOps, .own o0 x.fknown.length, .own o1 x.fstacks.length, .own o2 x.ftodo.length, .val (.int .i64 x.fmost)]
structure S115 where
  fcodes : Int
  fwords : Int
  fok : Bool
deriving Inhabited, DecidableEq
def S115.cs (x : S115) : List C := [.val (.int .i64 x.fcodes), .val (.int .i64 x.fwords), .val (.bool x.fok)]
def E115 : El S115 := ⟨115, 3, S115.cs, default⟩
structure S113 where
  fim : S29
  fknown : (Mp S115)
  funder : (Mp Bool)
deriving Inhabited
def S113.oc (x : S113) (o0 : Nat) (o1 : Nat) : List C := [E44.tree x.fim.fFaces, E47.tree x.fim.fClasses, E39.tree x.fim.fCodes, E3.tree x.fim.fInsts, .str x.fim.fGlobals, E3.tree x.fim.fInit, E3.tree x.fim.fBlocks, E78.tree x.fim.fIns, E78.tree x.fim.fOuts, E42.tree x.fim.fJobs, .val (.int .i64 x.fim.fD), .val (.int .i64 x.fim.fW), .map o0, .map o1]
abbrev oX0 : Go.Dl.Obj := .cells [.nil, .nil, .nil, .nil, .str [], .nil, .nil, .nil, .nil, .nil, iC 0, iC 0]
abbrev oX1 : Go.Dl.Obj := .cells [iC 0, .str [], .nil, .nil, .nil, .nil]
end Go.Proofs.YtngjamedgphjiaaGreatDoor
