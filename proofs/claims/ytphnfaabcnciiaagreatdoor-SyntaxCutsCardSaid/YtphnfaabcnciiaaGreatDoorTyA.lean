/- Words, and objects, that the walks name often: printed by gencomp.py. The program's types as Lean types: printed by gen2.py. No conditions. -/
import Derived.Test.YtphnfaabcnciiaaGreatDoorDC
import Derived.Test.YtphnfaabcnciiaaGreatDoorP0
namespace Go.Proofs.YtphnfaabcnciiaaGreatDoor
open Go Go.Dl
variable [WInv]
abbrev w_45 : Bytes := [45]
abbrev w_43 : Bytes := [43]
abbrev w_42 : Bytes := [42]
abbrev w_47 : Bytes := [47]
abbrev wMOD : Bytes := [77, 79, 68]
abbrev w_61 : Bytes := [61]
abbrev w_60_62 : Bytes := [60, 62]
abbrev w_60 : Bytes := [60]
abbrev w_60_61 : Bytes := [60, 61]
abbrev w_62 : Bytes := [62]
abbrev w_62_61 : Bytes := [62, 61]
abbrev wAND : Bytes := [65, 78, 68]
abbrev wOR : Bytes := [79, 82]
abbrev wXOR : Bytes := [88, 79, 82]
abbrev wTON : Bytes := [84, 79, 78]
abbrev wTOF : Bytes := [84, 79, 70]
abbrev wTP : Bytes := [84, 80]
abbrev wCTU : Bytes := [67, 84, 85]
abbrev wCTD : Bytes := [67, 84, 68]
abbrev wR_TRIG : Bytes := [82, 95, 84, 82, 73, 71]
abbrev wF_TRIG : Bytes := [70, 95, 84, 82, 73, 71]
abbrev w_48 : Bytes := [48]
abbrev wELSIF : Bytes := [69, 76, 83, 73, 70]
abbrev wELSE : Bytes := [69, 76, 83, 69]
abbrev wEND_IF : Bytes := [69, 78, 68, 95, 73, 70]
abbrev wEND_CASE : Bytes := [69, 78, 68, 95, 67, 65, 83, 69]
end Go.Proofs.YtphnfaabcnciiaaGreatDoor

set_option linter.unusedVariables false
set_option linter.unusedSectionVars false
set_option linter.unusedSimpArgs false
namespace Go.Proofs.YtphnfaabcnciiaaGreatDoor
open Go Go.Dl
variable [WInv]
abbrev errC (e : Err) : C := errC' 72 e
theorem errC_nil : CLe (.val .nilIface) (errC []) := errC_nil'
def E3 : El Int := ⟨3, 1, fun x => [.val (.int .i64 x)], default⟩
def E9 : El Bytes := ⟨9, 1, fun x => [.str x], default⟩
structure S41 where
  fKind : Int
  fText : Bytes
  fN : Int
  fAt : Int
deriving Inhabited, DecidableEq
def S41.cs (x : S41) : List C := [.val (.int .i64 x.fKind), .str x.fText, .val (.int .i64 x.fN), .val (.int .i64 x.fAt)]
def E41 : El S41 := ⟨41, 4, S41.cs, default⟩
structure S65 where
  ftokens : (List S41)
  fi : Int
  fend : Int
  ferr : Err
deriving Inhabited, DecidableEq
def S65.cs (x : S65) : List C := [E41.tree x.ftokens, .val (.int .i64 x.fi), .val (.int .i64 x.fend), errC x.ferr]
def E65 : El S65 := ⟨65, 4, S65.cs, default⟩
structure S25 where
  fKind : Int
  fN : Int
  fName : Bytes
  fWhat : Bytes
  fArgs : (List S25)
deriving Inhabited
mutual
def S25.ct : S25 → List C
  | ⟨a0, a1, a2, a3, a4⟩ => [.val (.int .i64 a0), .val (.int .i64 a1), .str a2, .str a3, .tree 5 a4.length (tbl (S25.ctl a4))]
def S25.ctl : List S25 → List (List C)
  | [] => []
  | x :: r => S25.ct x :: S25.ctl r
end
theorem S25.ctl_eq : ∀ l, S25.ctl l = l.map S25.ct
  | [] => by rw [S25.ctl]; rfl
  | x :: r => by rw [S25.ctl, S25.ctl_eq r]; rfl
def NT25 (l : List S25) : C := .tree 5 l.length (tbl (l.map S25.ct))
def S25.cs (x : S25) : List C := [.val (.int .i64 x.fKind), .val (.int .i64 x.fN), .str x.fName, .str x.fWhat, NT25 x.fArgs]
theorem S25.ct_eq : ∀ x : S25, x.ct = x.cs
  | ⟨a0, a1, a2, a3, a4⟩ => by rw [S25.ct, S25.ctl_eq]; rfl
def E25 : El S25 := ⟨25, 5, S25.cs, default⟩
theorem NT25_le (l : List S25) : CLe (NT25 l) (E25.tree l) := NT_le E25 S25.ct S25.ct_eq l
theorem NT25_ge (l : List S25) : CLe (E25.tree l) (NT25 l) := NT_ge E25 S25.ct S25.ct_eq l
def E45 : El (List Int) := ⟨45, 1, fun x => [E3.tree x], default⟩
structure S122 where
  fKind : Int
  fN : Int
  fName : Bytes
  fExprs : (List S25)
  fLabels : (List (List Int))
  fBlocks : (List (List S122))
deriving Inhabited
mutual
def S122.ct : S122 → List C
  | ⟨a0, a1, a2, a3, a4, a5⟩ => [.val (.int .i64 a0), .val (.int .i64 a1), .str a2, E25.tree a3, E45.tree a4, .tree 1 a5.length (tbl (S122.ctll a5))]
def S122.ctl : List S122 → List (List C)
  | [] => []
  | x :: r => S122.ct x :: S122.ctl r
def S122.ctll : List (List S122) → List (List C)
  | [] => []
  | x :: r => [.tree 6 x.length (tbl (S122.ctl x))] :: S122.ctll r
end
theorem S122.ctl_eq : ∀ l, S122.ctl l = l.map S122.ct
  | [] => by rw [S122.ctl]; rfl
  | x :: r => by rw [S122.ctl, S122.ctl_eq r]; rfl
def NT122 (l : List S122) : C := .tree 6 l.length (tbl (l.map S122.ct))
def NTT122 (l : List (List S122)) : C := .tree 1 l.length (tbl (l.map fun b => [NT122 b]))
theorem S122.ctll_eq : ∀ l, S122.ctll l = l.map fun b => [NT122 b]
  | [] => by rw [S122.ctll]; rfl
  | x :: r => by rw [S122.ctll, S122.ctll_eq r, S122.ctl_eq]; rfl
def S122.cs (x : S122) : List C := [.val (.int .i64 x.fKind), .val (.int .i64 x.fN), .str x.fName, E25.tree x.fExprs, E45.tree x.fLabels, NTT122 x.fBlocks]
theorem S122.ct_eq : ∀ x : S122, x.ct = x.cs
  | ⟨a0, a1, a2, a3, a4, a5⟩ => by rw [S122.ct, S122.ctll_eq]; rfl
def E122 : El S122 := ⟨122, 6, S122.cs, default⟩
theorem NT122_le (l : List S122) : CLe (NT122 l) (E122.tree l) := NT_le E122 S122.ct S122.ct_eq l
theorem NT122_ge (l : List S122) : CLe (E122.tree l) (NT122 l) := NT_ge E122 S122.ct S122.ct_eq l
def E58 : El (List S122) := ⟨58, 1, fun x => [E122.tree x], default⟩
theorem NTT122_le (l : List (List S122)) : CLe (NTT122 l) (E58.tree l) := NTT_le E122 E58 rfl (fun _ => rfl) NT122 NT122_le l
theorem NTT122_ge (l : List (List S122)) : CLe (E58.tree l) (NTT122 l) := NTT_ge E122 E58 rfl (fun _ => rfl) NT122 NT122_ge l
structure S91 where
  fKind : Int
  fLo : Int
  fHi : Int
  fName : Bytes
deriving Inhabited, DecidableEq
def S91.cs (x : S91) : List C := [.val (.int .i64 x.fKind), .val (.int .i64 x.fLo), .val (.int .i64 x.fHi), .str x.fName]
def E91 : El S91 := ⟨91, 4, S91.cs, default⟩
structure S118 where
  fName : Bytes
  fType : S91
  fInit : Int
  fDir : Int
  fSlot : Int
deriving Inhabited, DecidableEq
def S118.cs (x : S118) : List C := [.str x.fName, .val (.int .i64 x.fType.fKind), .val (.int .i64 x.fType.fLo), .val (.int .i64 x.fType.fHi), .str x.fType.fName, .val (.int .i64 x.fInit), .val (.int .i64 x.fDir), .val (.int .i64 x.fSlot)]
def E118 : El S118 := ⟨118, 8, S118.cs, default⟩
structure S93 where
  fName : Bytes
  fOver : Bool
  fAbstract : Bool
  fFinal : Bool
  fParams : (List S118)
  fResult : S91
  fVars : (List S118)
  fBody : (List S122)
deriving Inhabited
def S93.cs (x : S93) : List C := [.str x.fName, .val (.bool x.fOver), .val (.bool x.fAbstract), .val (.bool x.fFinal), E118.tree x.fParams, .val (.int .i64 x.fResult.fKind), .val (.int .i64 x.fResult.fLo), .val (.int .i64 x.fResult.fHi), .str x.fResult.fName, E118.tree x.fVars, E122.tree x.fBody]
def E93 : El S93 := ⟨93, 11, S93.cs, default⟩
structure S60 where
  fKind : Int
  fName : Bytes
  fBase : Bytes
  fFaces : (List Bytes)
  fAbstract : Bool
  fFinal : Bool
  fVars : (List S118)
  fMethods : (List S93)
  fBody : (List S122)
  fEvery : Int
  fFirst : Int
deriving Inhabited
def S60.cs (x : S60) : List C := [.val (.int .i64 x.fKind), .str x.fName, .str x.fBase, E9.tree x.fFaces, .val (.bool x.fAbstract), .val (.bool x.fFinal), E118.tree x.fVars, E93.tree x.fMethods, E122.tree x.fBody, .val (.int .i64 x.fEvery), .val (.int .i64 x.fFirst)]
def E60 : El S60 := ⟨60, 11, S60.cs, default⟩
structure S81 where
  fsrc : Bytes
  fat : Int
  ftokens : (List S41)
deriving Inhabited
def E5 : El UInt8 := ⟨5, 1, fun x => [.val (.int .u8 (Int.ofNat x.toNat))], default⟩
structure S44 where
  fDecls : (List S60)
deriving Inhabited
def S44.cs (x : S44) : List C := [E60.tree x.fDecls]
def E44 : El S44 := ⟨44, 1, S44.cs, default⟩
abbrev oX0 : Go.Dl.Obj := .cells [iC 0, iC 0, .str [], .nil, .nil, .nil]
abbrev oX1 : Go.Dl.Obj := .cells [iC 0, .str [], .str [], .nil, bC false, bC false, .nil, .nil, .nil, iC 0, iC 0]
abbrev oX2 : Go.Dl.Obj := .cells [iC 0, iC 0, .str [], .str [], .nil]
abbrev oX3 : Go.Dl.Obj := .cells [.str [], bC false, bC false, bC false, .nil, iC 0, iC 0, iC 0, .str [], .nil, .nil]
abbrev oX4 : Go.Dl.Obj := .cells [iC 0, iC 0, iC 0, .str []]
abbrev oX5 : Go.Dl.Obj := .cells [iC 0, .str [], iC 0, iC 0]
abbrev oX6 : Go.Dl.Obj := .cells [iC 0, iC 0, .str [], E25.tree [], E45.tree [], E58.tree []]
abbrev oX7 : Go.Dl.Obj := .cells [iC 9, iC 0, .str [], .nil, .nil, .nil]
abbrev oX8 : Go.Dl.Obj := .cells [iC 13, iC 1, .str [], .str [], .nil]
end Go.Proofs.YtphnfaabcnciiaaGreatDoor
