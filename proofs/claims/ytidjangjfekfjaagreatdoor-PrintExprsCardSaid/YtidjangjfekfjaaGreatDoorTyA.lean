/- Words, and objects, that the walks name often: printed by gencomp.py. The program's types as Lean types: printed by gen2.py. No conditions. -/
import Derived.Test.YtidjangjfekfjaaGreatDoorDC
import Derived.Test.YtidjangjfekfjaaGreatDoorP0
namespace Go.Proofs.YtidjangjfekfjaaGreatDoor
open Go Go.Dl
variable [WInv]
abbrev w_45 : Bytes := [45]
abbrev w_43 : Bytes := [43]
abbrev w_42 : Bytes := [42]
abbrev w_47 : Bytes := [47]
abbrev wMOD : Bytes := [77, 79, 68]
abbrev w_61 : Bytes := [61]
abbrev w_60_62 : Bytes := [60, 62]
abbrev w_60 : Bytes := [60]
abbrev w_60_61 : Bytes := [60, 61]
abbrev w_62 : Bytes := [62]
abbrev w_62_61 : Bytes := [62, 61]
abbrev wAND : Bytes := [65, 78, 68]
abbrev wOR : Bytes := [79, 82]
abbrev wXOR : Bytes := [88, 79, 82]
abbrev wREF : Bytes := [82, 69, 70]
abbrev wDONE : Bytes := [68, 79, 78, 69]
abbrev wCOUNT : Bytes := [67, 79, 85, 78, 84]
abbrev wAS : Bytes := [65, 83]
abbrev w_40 : Bytes := [40]
abbrev w_41 : Bytes := [41]
abbrev w_91 : Bytes := [91]
abbrev wTHIS : Bytes := [84, 72, 73, 83]
abbrev wSUPER : Bytes := [83, 85, 80, 69, 82]
abbrev w_46 : Bytes := [46]
abbrev wVAR : Bytes := [86, 65, 82]
abbrev w_58 : Bytes := [58]
abbrev wAT : Bytes := [65, 84]
abbrev wPROGRAM : Bytes := [80, 82, 79, 71, 82, 65, 77]
abbrev w_59 : Bytes := [59]
abbrev wTASK : Bytes := [84, 65, 83, 75]
abbrev wINTERVAL : Bytes := [73, 78, 84, 69, 82, 86, 65, 76]
abbrev wa : Bytes := [97]
abbrev wP : Bytes := [80]
end Go.Proofs.YtidjangjfekfjaaGreatDoor

set_option linter.unusedVariables false
set_option linter.unusedSectionVars false
set_option linter.unusedSimpArgs false
namespace Go.Proofs.YtidjangjfekfjaaGreatDoor
open Go Go.Dl
variable [WInv]
abbrev errC (e : Err) : C := errC' 96 e
theorem errC_nil : CLe (.val .nilIface) (errC []) := errC_nil'
def E3 : El Int := ⟨3, 1, fun x => [.val (.int .i64 x)], default⟩
def E9 : El Bytes := ⟨9, 1, fun x => [.str x], default⟩
structure S69 where
  fKind : Int
  fText : Bytes
  fN : Int
  fAt : Int
deriving Inhabited, DecidableEq
def S69.cs (x : S69) : List C := [.val (.int .i64 x.fKind), .str x.fText, .val (.int .i64 x.fN), .val (.int .i64 x.fAt)]
def E69 : El S69 := ⟨69, 4, S69.cs, default⟩
structure S56 where
  ftokens : (List S69)
  fi : Int
  fend : Int
  ferr : Err
deriving Inhabited, DecidableEq
def S56.cs (x : S56) : List C := [E69.tree x.ftokens, .val (.int .i64 x.fi), .val (.int .i64 x.fend), errC x.ferr]
def E56 : El S56 := ⟨56, 4, S56.cs, default⟩
structure S25 where
  fKind : Int
  fN : Int
  fName : Bytes
  fWhat : Bytes
  fArgs : (List S25)
deriving Inhabited
mutual
def S25.ct : S25 → List C
  | ⟨a0, a1, a2, a3, a4⟩ => [.val (.int .i64 a0), .val (.int .i64 a1), .str a2, .str a3, .tree 5 a4.length (tbl (S25.ctl a4))]
def S25.ctl : List S25 → List (List C)
  | [] => []
  | x :: r => S25.ct x :: S25.ctl r
end
theorem S25.ctl_eq : ∀ l, S25.ctl l = l.map S25.ct
  | [] => by rw [S25.ctl]; rfl
  | x :: r => by rw [S25.ctl, S25.ctl_eq r]; rfl
def NT25 (l : List S25) : C := .tree 5 l.length (tbl (l.map S25.ct))
def S25.cs (x : S25) : List C := [.val (.int .i64 x.fKind), .val (.int .i64 x.fN), .str x.fName, .str x.fWhat, NT25 x.fArgs]
theorem S25.ct_eq : ∀ x : S25, x.ct = x.cs
  | ⟨a0, a1, a2, a3, a4⟩ => by rw [S25.ct, S25.ctl_eq]; rfl
def E25 : El S25 := ⟨25, 5, S25.cs, default⟩
theorem NT25_le (l : List S25) : CLe (NT25 l) (E25.tree l) := NT_le E25 S25.ct S25.ct_eq l
theorem NT25_ge (l : List S25) : CLe (E25.tree l) (NT25 l) := NT_ge E25 S25.ct S25.ct_eq l
def E37 : El (List Int) := ⟨37, 1, fun x => [E3.tree x], default⟩
structure S110 where
  fKind : Int
  fN : Int
  fName : Bytes
  fExprs : (List S25)
  fLabels : (List (List Int))
  fBlocks : (List (List S110))
deriving Inhabited
mutual
def S110.ct : S110 → List C
  | ⟨a0, a1, a2, a3, a4, a5⟩ => [.val (.int .i64 a0), .val (.int .i64 a1), .str a2, E25.tree a3, E37.tree a4, .tree 1 a5.length (tbl (S110.ctll a5))]
def S110.ctl : List S110 → List (List C)
  | [] => []
  | x :: r => S110.ct x :: S110.ctl r
def S110.ctll : List (List S110) → List (List C)
  | [] => []
  | x :: r => [.tree 6 x.length (tbl (S110.ctl x))] :: S110.ctll r
end
def NT110 (l : List S110) : C := .tree 6 l.length (tbl (l.map S110.ct))
def NTT110 (l : List (List S110)) : C := .tree 1 l.length (tbl (l.map fun b => [NT110 b]))
def S110.cs (x : S110) : List C := [.val (.int .i64 x.fKind), .val (.int .i64 x.fN), .str x.fName, E25.tree x.fExprs, E37.tree x.fLabels, NTT110 x.fBlocks]
def E110 : El S110 := ⟨110, 6, S110.cs, default⟩
structure S44 where
  fKind : Int
  fLo : Int
  fHi : Int
  fName : Bytes
deriving Inhabited, DecidableEq
def S44.cs (x : S44) : List C := [.val (.int .i64 x.fKind), .val (.int .i64 x.fLo), .val (.int .i64 x.fHi), .str x.fName]
def E44 : El S44 := ⟨44, 4, S44.cs, default⟩
structure S106 where
  fName : Bytes
  fType : S44
  fInit : Int
  fDir : Int
  fSlot : Int
deriving Inhabited, DecidableEq
def S106.cs (x : S106) : List C := [.str x.fName, .val (.int .i64 x.fType.fKind), .val (.int .i64 x.fType.fLo), .val (.int .i64 x.fType.fHi), .str x.fType.fName, .val (.int .i64 x.fInit), .val (.int .i64 x.fDir), .val (.int .i64 x.fSlot)]
def E106 : El S106 := ⟨106, 8, S106.cs, default⟩
structure S83 where
  fName : Bytes
  fOver : Bool
  fAbstract : Bool
  fFinal : Bool
  fParams : (List S106)
  fResult : S44
  fVars : (List S106)
  fBody : (List S110)
deriving Inhabited
def S83.cs (x : S83) : List C := [.str x.fName, .val (.bool x.fOver), .val (.bool x.fAbstract), .val (.bool x.fFinal), E106.tree x.fParams, .val (.int .i64 x.fResult.fKind), .val (.int .i64 x.fResult.fLo), .val (.int .i64 x.fResult.fHi), .str x.fResult.fName, E106.tree x.fVars, E110.tree x.fBody]
def E83 : El S83 := ⟨83, 11, S83.cs, default⟩
structure S114 where
  fsrc : Bytes
  fat : Int
  ftokens : (List S69)
deriving Inhabited
def E5 : El UInt8 := ⟨5, 1, fun x => [.val (.int .u8 (Int.ofNat x.toNat))], default⟩
structure S60 where
  fl : (List Bytes)
deriving Inhabited
structure S50 where
  fKind : Int
  fName : Bytes
  fBase : Bytes
  fFaces : (List Bytes)
  fAbstract : Bool
  fFinal : Bool
  fVars : (List S106)
  fMethods : (List S83)
  fBody : (List S110)
  fEvery : Int
  fFirst : Int
deriving Inhabited
def S50.cs (x : S50) : List C := [.val (.int .i64 x.fKind), .str x.fName, .str x.fBase, E9.tree x.fFaces, .val (.bool x.fAbstract), .val (.bool x.fFinal), E106.tree x.fVars, E83.tree x.fMethods, E110.tree x.fBody, .val (.int .i64 x.fEvery), .val (.int .i64 x.fFirst)]
def E50 : El S50 := ⟨50, 11, S50.cs, default⟩
structure S75 where
  faddr : Bool
  fbuf : (List UInt8)
deriving Inhabited
structure S36 where
  fDecls : (List S50)
deriving Inhabited
def S36.cs (x : S36) : List C := [E50.tree x.fDecls]
def E36 : El S36 := ⟨36, 1, S36.cs, default⟩
abbrev oX0 : Go.Dl.Obj := .cells [iC 0, iC 0, .str [], .str [], .nil]
abbrev oX1 : Go.Dl.Obj := .cells [iC 0, .str [], iC 0, iC 0]
abbrev oX2 : Go.Dl.Obj := .cells [iC 13, iC 1, .str [], .str [], .nil]
end Go.Proofs.YtidjangjfekfjaaGreatDoor
