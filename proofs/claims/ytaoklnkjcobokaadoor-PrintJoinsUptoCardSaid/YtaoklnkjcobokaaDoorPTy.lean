/- The program's types as Lean types: printed by gen2.py. No conditions. -/
import Derived.Test.YtaoklnkjcobokaaDoorP0
import Derived.Test.YtaoklnkjcobokaaDoorDC
set_option linter.unusedVariables false
set_option linter.unusedSectionVars false
set_option linter.unusedSimpArgs false
namespace Go.Proofs.YtaoklnkjcobokaaDoor
open Go Go.Dl
variable [WInv]
def E9 : El Bytes := ⟨9, 1, fun x => [.str x], default⟩
/-- print.writer -/
structure S62 where
  fl : (List Bytes)
deriving Inhabited
def E3 : El Int := ⟨3, 1, fun x => [.val (.int .i64 x)], default⟩
/-- api.Type -/
structure S29 where
  fKind : Int
  fLo : Int
  fHi : Int
  fName : Bytes
deriving Inhabited, DecidableEq
def S29.cs (x : S29) : List C := [.val (.int .i64 x.fKind), .val (.int .i64 x.fLo), .val (.int .i64 x.fHi), .str x.fName]
def E29 : El S29 := ⟨29, 4, S29.cs, default⟩
/-- api.Expr -/
structure S27 where
  fKind : Int
  fN : Int
  fName : Bytes
  fWhat : Bytes
  fArgs : (List S27)
deriving Inhabited
mutual
def S27.ct : S27 → List C
  | ⟨a0, a1, a2, a3, a4⟩ => [.val (.int .i64 a0), .val (.int .i64 a1), .str a2, .str a3, .tree 5 a4.length (tbl (S27.ctl a4))]
def S27.ctl : List S27 → List (List C)
  | [] => []
  | x :: r => S27.ct x :: S27.ctl r
end
theorem S27.ctl_eq : ∀ l, S27.ctl l = l.map S27.ct
  | [] => by rw [S27.ctl]; rfl
  | x :: r => by rw [S27.ctl, S27.ctl_eq r]; rfl
/-- such values as they lie in one -/
def NT27 (l : List S27) : C := .tree 5 l.length (tbl (l.map S27.ct))
def S27.cs (x : S27) : List C := [.val (.int .i64 x.fKind), .val (.int .i64 x.fN), .str x.fName, .str x.fWhat, NT27 x.fArgs]
theorem S27.ct_eq : ∀ x : S27, x.ct = x.cs
  | ⟨a0, a1, a2, a3, a4⟩ => by rw [S27.ct, S27.ctl_eq]; rfl
def E27 : El S27 := ⟨27, 5, S27.cs, default⟩
theorem NT27_le (l : List S27) : CLe (NT27 l) (E27.tree l) := NT_le E27 S27.ct S27.ct_eq l
theorem NT27_ge (l : List S27) : CLe (E27.tree l) (NT27 l) := NT_ge E27 S27.ct S27.ct_eq l
def E25 : El (List S27) := ⟨25, 1, fun x => [E27.tree x], default⟩
/-- api.Var -/
structure S38 where
  fName : Bytes
  fType : S29
  fInit : Int
  fDir : Int
  fSlot : Int
deriving Inhabited, DecidableEq
def S38.cs (x : S38) : List C := [.str x.fName, .val (.int .i64 x.fType.fKind), .val (.int .i64 x.fType.fLo), .val (.int .i64 x.fType.fHi), .str x.fType.fName, .val (.int .i64 x.fInit), .val (.int .i64 x.fDir), .val (.int .i64 x.fSlot)]
def E38 : El S38 := ⟨38, 8, S38.cs, default⟩
def E76 : El (List Int) := ⟨76, 1, fun x => [E3.tree x], default⟩
def E40 : El (List (List Int)) := ⟨40, 1, fun x => [E76.tree x], default⟩
/-- api.Stmt -/
structure S43 where
  fKind : Int
  fN : Int
  fName : Bytes
  fExprs : (List S27)
  fLabels : (List (List Int))
  fBlocks : (List (List S43))
deriving Inhabited
mutual
def S43.ct : S43 → List C
  | ⟨a0, a1, a2, a3, a4, a5⟩ => [.val (.int .i64 a0), .val (.int .i64 a1), .str a2, E27.tree a3, E76.tree a4, .tree 1 a5.length (tbl (S43.ctll a5))]
def S43.ctl : List S43 → List (List C)
  | [] => []
  | x :: r => S43.ct x :: S43.ctl r
def S43.ctll : List (List S43) → List (List C)
  | [] => []
  | x :: r => [.tree 6 x.length (tbl (S43.ctl x))] :: S43.ctll r
end
theorem S43.ctl_eq : ∀ l, S43.ctl l = l.map S43.ct
  | [] => by rw [S43.ctl]; rfl
  | x :: r => by rw [S43.ctl, S43.ctl_eq r]; rfl
/-- such values as they lie in one -/
def NT43 (l : List S43) : C := .tree 6 l.length (tbl (l.map S43.ct))
def NTT43 (l : List (List S43)) : C := .tree 1 l.length (tbl (l.map fun b => [NT43 b]))
theorem S43.ctll_eq : ∀ l, S43.ctll l = l.map fun b => [NT43 b]
  | [] => by rw [S43.ctll]; rfl
  | x :: r => by rw [S43.ctll, S43.ctll_eq r, S43.ctl_eq]; rfl
def S43.cs (x : S43) : List C := [.val (.int .i64 x.fKind), .val (.int .i64 x.fN), .str x.fName, E27.tree x.fExprs, E76.tree x.fLabels, NTT43 x.fBlocks]
theorem S43.ct_eq : ∀ x : S43, x.ct = x.cs
  | ⟨a0, a1, a2, a3, a4, a5⟩ => by rw [S43.ct, S43.ctll_eq]; rfl
def E43 : El S43 := ⟨43, 6, S43.cs, default⟩
theorem NT43_le (l : List S43) : CLe (NT43 l) (E43.tree l) := NT_le E43 S43.ct S43.ct_eq l
theorem NT43_ge (l : List S43) : CLe (E43.tree l) (NT43 l) := NT_ge E43 S43.ct S43.ct_eq l
def E44 : El (List S43) := ⟨44, 1, fun x => [E43.tree x], default⟩
def E41 : El (List (List S43)) := ⟨41, 1, fun x => [E44.tree x], default⟩
theorem NTT43_le (l : List (List S43)) : CLe (NTT43 l) (E44.tree l) := NTT_le E43 E44 rfl (fun _ => rfl) NT43 NT43_le l
theorem NTT43_ge (l : List (List S43)) : CLe (E44.tree l) (NTT43 l) := NTT_ge E43 E44 rfl (fun _ => rfl) NT43 NT43_ge l
def E4 : El Bool := ⟨4, 1, fun x => [.val (.bool x)], default⟩
def E39 : El (List S38) := ⟨39, 1, fun x => [E38.tree x], default⟩
/-- api.Method -/
structure S54 where
  fName : Bytes
  fOver : Bool
  fAbstract : Bool
  fFinal : Bool
  fParams : (List S38)
  fResult : S29
  fVars : (List S38)
  fBody : (List S43)
deriving Inhabited
def S54.cs (x : S54) : List C := [.str x.fName, .val (.bool x.fOver), .val (.bool x.fAbstract), .val (.bool x.fFinal), E38.tree x.fParams, .val (.int .i64 x.fResult.fKind), .val (.int .i64 x.fResult.fLo), .val (.int .i64 x.fResult.fHi), .str x.fResult.fName, E38.tree x.fVars, E43.tree x.fBody]
def E54 : El S54 := ⟨54, 11, S54.cs, default⟩
def E45 : El (List Bytes) := ⟨45, 1, fun x => [E9.tree x], default⟩
def E46 : El (List S54) := ⟨46, 1, fun x => [E54.tree x], default⟩
/-- api.Decl -/
structure S48 where
  fKind : Int
  fName : Bytes
  fBase : Bytes
  fFaces : (List Bytes)
  fAbstract : Bool
  fFinal : Bool
  fVars : (List S38)
  fMethods : (List S54)
  fBody : (List S43)
  fEvery : Int
  fFirst : Int
deriving Inhabited
def S48.cs (x : S48) : List C := [.val (.int .i64 x.fKind), .str x.fName, .str x.fBase, E9.tree x.fFaces, .val (.bool x.fAbstract), .val (.bool x.fFinal), E38.tree x.fVars, E54.tree x.fMethods, E43.tree x.fBody, .val (.int .i64 x.fEvery), .val (.int .i64 x.fFirst)]
def E48 : El S48 := ⟨48, 11, S48.cs, default⟩
/-- strings.Builder -/
structure S59 where
  faddr : Bool
  fbuf : (List UInt8)
deriving Inhabited
def E5 : El UInt8 := ⟨5, 1, fun x => [.val (.int .u8 (Int.ofNat x.toNat))], default⟩
def E22 : El (List S48) := ⟨22, 1, fun x => [E48.tree x], default⟩
/-- api.Unit -/
structure S24 where
  fDecls : (List S48)
deriving Inhabited
def S24.cs (x : S24) : List C := [E48.tree x.fDecls]
def E24 : El S24 := ⟨24, 1, S24.cs, default⟩
end Go.Proofs.YtaoklnkjcobokaaDoor
