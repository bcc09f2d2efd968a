/- A store of a run's own, by numbers of its own, and what each operation of the model makes of it: plain functions, for the kernel to compute. A run of a program on a store of its own: regions, code, calls. Plain functions, for the kernel to compute. What the store of XA1 says of a world: numbers of blocks, capacities; how it is carried over a new block, over a write. Operations that look: what the store's evaluators say is true of the model's. Operations that look: tests of equality, addresses, parts. Operations that look: addresses, parts, cuts, maps, literals. Operations that look: cuts, maps, literals; all of them. Operations that look: the greatest of some, maps, literals; all of them together. Operations that look: all of them; operations that make a block. No conditions. -/
import Derived.Calls
import Derived.Orders
import Derived.Lib.Bytealg
import Derived.Below
import Derived.Laws.AppendOwn
import Derived.Laws.Cells
import Derived.ChangeKeysEq
import Derived.Laws.Rows
import Derived.Laws.Strings
import Derived.Laws.StructEq
import Derived.Laws.BytesString
import Derived.Laws.Build
import Derived.Lib.Strings
import Derived.Great.BuildSlice
import Derived.Laws.RangeString
set_option linter.unusedVariables false
set_option linter.unusedSimpArgs false
namespace Go.Am
noncomputable section

inductive T (α : Type) where
  | nil
  | node (v : Option α) (l r : T α)

def T.get {α : Type} (t : T α) : Nat → Option α :=
  T.rec (motive := fun _ => Nat → Option α) (fun _ => none)
    (fun v _ _ gl gr n => Nat.rec (motive := fun _ => Option α) v (fun m _ => Bool.rec (gr (m / 2)) (gl (m / 2)) (Nat.beq (m % 2) 0)) n) t

def T.one {α : Type} (f : Nat) : Nat → α → T α :=
  Nat.rec (motive := fun _ => Nat → α → T α) (fun _ _ => .nil)
    (fun _ s n x => Nat.rec (motive := fun _ => T α) (.node (some x) .nil .nil)
      (fun m _ => Bool.rec (.node none .nil (s (m / 2) x)) (.node none (s (m / 2) x) .nil) (Nat.beq (m % 2) 0)) n) f

def T.set {α : Type} (t : T α) : Nat → α → T α :=
  T.rec (motive := fun _ => Nat → α → T α) (fun n x => T.one 40 n x)
    (fun v l r sl sr n x => Nat.rec (motive := fun _ => T α) (.node (some x) l r)
      (fun m _ => Bool.rec (.node v l (sr (m / 2) x)) (.node v (sl (m / 2) x) r) (Nat.beq (m % 2) 0)) n) t

/-- A number that T.set takes. -/
def okN (n : Nat) : Bool := Nat.blt n 1099511627770

/-- One block of the run's own: cells (it may lie in a greater block), a map, a walk along a string; or one that is no more. -/
inductive AObj where
  | cells (c : List Value) (e : TypeId)
  | map (es : List MapEntry) (clock : Nat)
  | iter (s : ByteArray) (pos : Nat)
  | dead

structure FW where
  heap : T AObj
  next : Nat

/-- What operands are worth. -/
abbrev Ev := Operand → Value

/-- A value that names no place. -/
def flatC : Value → Bool
  | .bool _ | .int _ _ | .string _ | .nilFunc | .nilIface | .pointer none | .map none => true
  | .slice none 0 0 => true
  | _ => false

/-- Of this one nothing is known. -/
def bot : Value := .float .f32 7

/-- A constant, with a slice's capacity in the store's way. -/
def cstA : Value → Value
  | .float _ _ | .complex _ _ _ | .pointer (some _) | .slice (some _) _ _ | .map (some _) | .chan _ | .func _ _ _ | .iface _ _ => bot
  | .slice none 0 0 => .slice none 0 0
  | .slice none _ _ => bot
  | .agg cs => bif cs.toList.all flatC then .agg cs else bot
  | .tuple cs => bif cs.toList.all flatC then .tuple cs else bot
  | v => v

/-- A cell holds no struct. -/
def oneC : Value → Bool
  | .agg _ | .tuple _ | .float _ _ => false
  | _ => true

def cellsV : Value → List Value
  | .agg cs => cs.toList
  | v => [v]

def nbot : Value → Bool
  | .float _ _ => false
  | _ => true

def aggT (P : Program) (t : TypeId) : Bool :=
  match P.underlying t with
  | some (.struct _) | some (.array _ _) => true
  | _ => false

def someT (P : Program) (t : TypeId) : Bool := (P.underlying t).isSome

/-- Elements of a type are of so many cells. -/
def szOk (P : Program) (e : TypeId) (w : Nat) : Bool :=
  match P.info? e with
  | some i => Nat.beq w i.size
  | none => false

def FW.cells (H : FW) (b : Nat) : Option (List Value × TypeId) :=
  match H.heap.get b with
  | some (.cells c e) => some (c, e)
  | _ => none

def FW.put (H : FW) (r : Nat) (o : AObj) : FW := ⟨H.heap.set r o, H.next⟩

/-- The cells from an address on. -/
def FW.row (H : FW) (a : Addr) (n : Nat) : Option (List Value) :=
  match a.spot with
  | some _ => none
  | none => match H.cells a.block with
    | some (c, _) => bif Nat.ble (a.off + n) c.length then some ((c.drop a.off).take n) else none
    | none => none

def FW.cell (H : FW) (a : Addr) : Option Value :=
  match a.spot with
  | some _ => none
  | none => match H.cells a.block with
    | some (c, _) => c[a.off]?
    | none => none

/-! Operations that only look. -/

def loadA (P : Program) (t : TypeId) (x : Value) (H : FW) : Option Value :=
  match x with
  | .pointer (some a) => bif someT P t then
      (bif aggT P t then (match H.row a (P.cellsOf t) with
        | some l => some (.agg ⟨l⟩)
        | none => none)
      else H.cell a) else none
  | _ => none

def isTrueC : Operand → Bool
  | .const (.bool b) => b
  | _ => false

def isFalseC : Operand → Bool
  | .const (.bool b) => !b
  | _ => false

def pickA (c a b : Value) : Option Value :=
  match c with
  | .bool true => some a
  | .bool false => some b
  | _ => none

def nilA (x : Value) : Option Value :=
  match x with
  | .pointer (some _) => some x
  | .func (.func _) _ _ => some x
  | _ => none

/-- The same as the model's, but quick where the number is small. -/
def wrapF (k : IntKind) (n : Int) : Int :=
  match k with
  | .i64 => (match n with
    | .ofNat m => bif Nat.blt m 9223372036854775808 then .ofNat m else IntKind.i64.wrap (.ofNat m)
    | .negSucc m => bif Nat.blt m 9223372036854775808 then .negSucc m else IntKind.i64.wrap (.negSucc m))
  | .u64 => (match n with
    | .ofNat m => .ofNat (m % 18446744073709551616)
    | .negSucc m => IntKind.u64.wrap (.negSucc m))
  | .u8 => (match n with
    | .ofNat m => .ofNat (m % 256)
    | .negSucc m => IntKind.u8.wrap (.negSucc m))
  | k => k.wrap n

def cmpI (op : BinOp) (a b : Int) : Option Bool :=
  match op with
  | .eql => some (a == b)
  | .neq => some (a != b)
  | .lss => some (decide (a < b))
  | .leq => some (decide (a ≤ b))
  | .gtr => some (decide (a > b))
  | .geq => some (decide (a ≥ b))
  | _ => none

def bitsI (op : BinOp) (k : IntKind) (a b : Int) : Option Int :=
  match op with
  | .and => some (k.wrap (BitVec.ofInt k.bits a &&& BitVec.ofInt k.bits b).toNat)
  | .or => some (k.wrap (BitVec.ofInt k.bits a ||| BitVec.ofInt k.bits b).toNat)
  | .xor => some (k.wrap (BitVec.ofInt k.bits a ^^^ BitVec.ofInt k.bits b).toNat)
  | .andNot => some (k.wrap (BitVec.ofInt k.bits a &&& ~~~ BitVec.ofInt k.bits b).toNat)
  | _ => none

def restI (op : BinOp) (k : IntKind) (a b : Int) : Option Value :=
  match cmpI op a b with
  | some r => some (.bool r)
  | none => match bitsI op k a b with
    | some r => some (.int k r)
    | none => none

def intA (op : BinOp) (k : IntKind) (a : Int) (k' : IntKind) (b : Int) : Option Value :=
  match op with
  | .shl => bif decide (0 ≤ b) then some (.int k (k.wrap (a * 2 ^ min b.toNat k.bits))) else none
  | .shr => bif decide (0 ≤ b) then some (.int k (a.fdiv (2 ^ min b.toNat k.bits))) else none
  | op => bif decide (k = k') then
      (match op with
      | .add => some (.int k (wrapF k (a + b)))
      | .sub => some (.int k (wrapF k (a - b)))
      | .mul => some (.int k (wrapF k (a * b)))
      | .quo => bif decide (b = 0) then none else some (.int k (wrapF k (a.tdiv b)))
      | .rem => bif decide (b = 0) then none else some (.int k (a.tmod b))
      | op => restI op k a b)
    else none

def strA (op : BinOp) (a b : List UInt8) : Option Value :=
  match op with
  | .add => bif Nat.ble (a.length + b.length) 140737488355328 then some (.string ⟨⟨a ++ b⟩⟩) else none
  | .eql => some (.bool (a == b))
  | .neq => some (.bool !(a == b))
  | .lss => some (.bool (Op.bytesLess a b))
  | .leq => some (.bool (Op.bytesLess a b || a == b))
  | .gtr => some (.bool !(Op.bytesLess a b || a == b))
  | .geq => some (.bool !Op.bytesLess a b)
  | _ => none

def isConst : Operand → Bool
  | .const _ => true
  | _ => false

/-- Are two values of a type the same? -/
def eqA (P : Program) : Nat → TypeId → Value → Value → Option Bool
  | 0, _, _, _ => none
  | d + 1, t, x, y => match P.underlying t, x, y with
    | some .bool, .bool a, .bool b => some (a == b)
    | some (.int _), .int k a, .int k' b => bif decide (k = k') then some (decide (a = b)) else none
    | some .string, .string a, .string b => some (a.data.toList == b.data.toList)
    | some (.pointer _), .pointer none, .pointer b => some b.isNone
    | some (.pointer _), .pointer (some _), .pointer none => some false
    | some (.pointer e), .pointer (some a), .pointer (some b) =>
      bif Nat.beq a.block b.block && (a.spot.isNone && (b.spot.isNone && (match P.info? e with
        | some i => Nat.blt 0 i.size
        | none => false))) then some (Nat.beq a.off b.off) else none
    | some (.interface _), .nilIface, .nilIface => some true
    | some (.interface _), .nilIface, .iface _ _ => some false
    | some (.interface _), .iface _ _, .nilIface => some false
    | some (.interface _), .iface tx vx, .iface ty vy =>
      bif Nat.beq tx ty then (match P.info? tx with
        | some i => bif i.comparable then eqA P d tx vx vy else none
        | none => none)
      else some false
    | some (.slice _), .slice none _ _, .slice b _ _ => some b.isNone
    | some (.slice _), .slice (some _) _ _, .slice none _ _ => some false
    | some (.map _ _), .map none, .map b => some b.isNone
    | some (.map _ _), .map (some _), .map none => some false
    | some (.func _ _ _), .nilFunc, .nilFunc => some true
    | some (.func _ _ _), .nilFunc, .func _ _ _ => some false
    | some (.func _ _ _), .func _ _ _, .nilFunc => some false
    | some (.struct fs), .agg xs, .agg ys =>
      bif !P.stoodInHeld t then fs.toList.foldr (fun f r => bif !(f.name == "_") then
          (bif someT P f.type && !aggT P f.type then
            (match xs.toList[f.offset]?, ys.toList[f.offset]? with
            | some a, some b => (match eqA P d f.type a b with
              | some true => r
              | some false => some false
              | none => none)
            | _, _ => none)
          else none)
        else r) (some true)
      else none
    | _, _, _ => none

/-- '==' of what are no numbers and no strings: is it guarded? -/
def guardA (P : Program) (t : TypeId) (p q : Operand) (x y : Value) : Bool :=
  match x, y with
  | .nilIface, .nilIface => isConst p || isConst q
  | .agg _, .agg _ => !P.eqGuardType P.depth t
  | _, _ => true

def eqlA (P : Program) (t : TypeId) (p q : Operand) (x y : Value) : Option Bool :=
  bif guardA P t p q x y then eqA P 5 t x y else none

def binA (P : Program) (op : BinOp) (t : TypeId) (p q : Operand) (x y : Value) : Option Value :=
  match x, y with
  | .int k a, .int k' b => intA op k a k' b
  | .string a, .string b => strA op a.data.toList b.data.toList
  | x, y => match op with
    | .eql => (match eqlA P t p q x y with
      | some r => some (.bool r)
      | none => none)
    | .neq => (match eqlA P t p q x y with
      | some r => some (.bool !r)
      | none => none)
    | _ => none

def unA (op : UnOp) (x : Value) : Option Value :=
  match op, x with
  | .neg, .int k n => some (.int k (wrapF k (0 - n)))
  | .not, .bool b => some (.bool !b)
  | .xor, .int k n => some (.int k (k.wrap (BitVec.ofInt k.bits (if k.signed then -1 else k.max) ^^^ BitVec.ofInt k.bits n).toNat))
  | _, _ => none

def bytesOf : List Value → Option (List UInt8)
  | [] => some []
  | .int .u8 n :: r => (match bytesOf r with
    | some l => some (UInt8.ofNat n.toNat :: l)
    | none => none)
  | _ => none

def convA (P : Program) (src dst : TypeId) (x : Value) (H : FW) : Option Value :=
  match P.underlying src, P.underlying dst, x with
  | some (.int _), some (.int k), .int _ n => some (.int k (wrapF k n))
  | some .string, some .string, .string s => some (.string s)
  | some (.slice e), some .string, .slice none _ _ => (match P.underlying e with
    | some (.int .u8) => some (.string ⟨⟨[]⟩⟩)
    | _ => none)
  | some (.slice e), some .string, .slice (some a) n _ => (match P.underlying e, H.row a n with
    | some (.int .u8), some l => (match bytesOf l with
      | some bs => some (.string ⟨⟨bs⟩⟩)
      | none => none)
    | _, _ => none)
  | _, _, _ => none

def fieldAddrA (P : Program) (s : TypeId) (x : Value) (f : Nat) : Option Value :=
  match P.underlying s, x with
  | some (.struct fs), .pointer (some a) =>
    (match fs[f]? with
    | some fd => (match P.info? fd.type with
      | some fi => bif Nat.blt 0 fi.size && a.spot.isNone then some (.pointer (some ⟨a.block, a.off + fd.offset, none⟩)) else none
      | none => none)
    | none => none)
  | _, _ => none

def partA (P : Program) (t : TypeId) (cs : List Value) (off : Nat) : Option Value :=
  bif someT P t then
    (bif aggT P t then (bif Nat.ble (off + P.cellsOf t) cs.length then some (.agg ⟨(cs.drop off).take (P.cellsOf t)⟩) else none)
    else cs[off]?)
  else none

def fieldA (P : Program) (s : TypeId) (x : Value) (f : Nat) : Option Value :=
  match P.underlying s, x with
  | some (.struct fs), .agg cs =>
    (match fs[f]? with
    | some fd => partA P fd.type cs.toList fd.offset
    | none => none)
  | _, _ => none

def indexAddrA (P : Program) (t : TypeId) (x ix : Value) : Option Value :=
  match ix with
  | .int _ (.ofNat i) => (match P.underlying t, x with
    | some (.slice e), .slice (some a) n _ => (match P.info? e with
      | some ei => bif Nat.blt i n && a.spot.isNone then some (.pointer (some ⟨a.block, a.off + i * ei.size, none⟩)) else none
      | none => none)
    | some (.array n e), .pointer (some a) => (match P.info? e with
      | some ei => bif Nat.blt i n && a.spot.isNone then some (.pointer (some ⟨a.block, a.off + i * ei.size, none⟩)) else none
      | none => none)
    | _, _ => none)
  | _ => none

def indexA (P : Program) (t : TypeId) (x ix : Value) : Option Value :=
  match ix with
  | .int _ (.ofNat i) => (match P.underlying t, x with
    | some .string, .string s => (match s.data.toList[i]? with
      | some b => some (.int .u8 b.toNat)
      | none => none)
    | some (.array n e), .agg cs => (match P.info? e with
      | some ei => bif Nat.blt i n then partA P e cs.toList (i * ei.size) else none
      | none => none)
    | _, _ => none)
  | _ => none

def extractA (x : Value) (i : Nat) : Option Value :=
  match x with
  | .tuple vs => vs.toList[i]?
  | _ => none

def natOf : Value → Option Nat
  | .int _ (.ofNat n) => some n
  | _ => none

def boundOf (d : Nat) : Option Value → Option Nat
  | none => some d
  | some v => natOf v

def moveA (a : Addr) (n : Nat) : Addr := ⟨a.block, a.off + n, none⟩

/-- A slice's third number is twice its capacity, and one more if it is only known to be as great. -/
def wdOk (P : Program) (H : FW) (b w : Nat) : Bool :=
  match H.heap.get b with
  | some (.cells _ e) => szOk P e w
  | _ => false

def sliceS (P : Program) (H : FW) (w : Nat) (a : Addr) (c l h : Nat) : Option Value :=
  bif Nat.ble l h && (Nat.ble h (c / 2) && a.spot.isNone) then
    (bif Nat.blt l (c / 2) then (bif Nat.beq (c % 2) 0 || (Nat.beq l 0 || wdOk P H a.block w) then some (.slice (some (moveA a (l * w))) (h - l) (c - 2 * l)) else none)
    else bif Nat.beq (c % 2) 0 then some (.slice (some a) 0 0) else some (.slice (some a) 0 1))
  else none

def sliceM (w : Nat) (a : Addr) (c l h m : Nat) : Option Value :=
  bif Nat.ble l h && (Nat.ble h m && (Nat.ble m (c / 2) && (a.spot.isNone && !Nat.beq c 1))) then
    some (.slice (some (bif Nat.beq m l then a else moveA a (l * w))) (h - l) (2 * (m - l))) else none

def sliceA (P : Program) (t : TypeId) (x : Value) (lo hi mx : Option Value) (H : FW) : Option Value :=
  match P.underlying t, x with
  | some .string, .string s =>
    (match boundOf 0 lo, boundOf s.data.toList.length hi, mx with
    | some l, some h, none => bif Nat.ble l h && Nat.ble h s.data.toList.length then some (.string ⟨⟨(s.data.toList.drop l).take (h - l)⟩⟩) else none
    | _, _, _ => none)
  | some (.slice e), .slice none 0 0 =>
    (match P.info? e, boundOf 0 lo, boundOf 0 hi, mx with
    | some _, some 0, some 0, none => some (.slice none 0 0)
    | _, _, _, _ => none)
  | some (.slice e), .slice (some a) n c =>
    (match P.info? e, boundOf 0 lo, boundOf n hi with
    | some i, some l, some h => (match mx with
      | none => sliceS P H i.size a c l h
      | some v => (match hi, natOf v with
        | some _, some m => sliceM i.size a c l h m
        | _, _ => none))
    | _, _, _ => none)
  | some (.array n e), .pointer (some a) =>
    (match P.info? e, boundOf 0 lo, boundOf n hi, mx with
    | some i, some l, some h, none => bif Nat.ble n 1000000 then sliceS P H i.size a (2 * n) l h else none
    | _, _, _, _ => none)
  | _, _ => none

def setC (c : List Value) (off : Nat) (l : List Value) : List Value := c.take off ++ (l ++ c.drop (off + l.length))

def fillA (place : Nat → Option (Nat × Nat)) (ρ : Ev) : List Value → List (Nat × Operand) → Option (List Value)
  | cells, [] => some cells
  | cells, (i, x) :: rest =>
    (match place i with
    | some (off, size) =>
      (match cellsV (ρ x) with
      | l => bif nbot (ρ x) && (Nat.beq l.length size && Nat.ble (off + l.length) cells.length) then fillA place ρ (setC cells off l) rest else none)
    | none => none)

def zeroA (P : Program) (t : TypeId) : Option (List Value) :=
  match P.info? t with
  | some i => (match i.zero with
    | some v => bif (cellsV v).all flatC then some (cellsV v) else none
    | none => none)
  | none => none

def placesA (P : Program) (fs : List Field) : Option (List (Nat × Nat)) := fs.mapM fun f => (P.info? f.type).map fun i => (f.offset, i.size)

def buildA (P : Program) (t : TypeId) (parts : List (Nat × Operand)) (ρ : Ev) : Option Value :=
  match P.underlying t with
  | some (.struct fs) =>
    (match zeroA P t, placesA P fs.toList with
    | some z, some places => (match fillA (fun i => places[i]?) ρ z parts with
      | some l => some (.agg ⟨l⟩)
      | none => none)
    | _, _ => none)
  | some (.array _ e) =>
    (match zeroA P t, P.info? e with
    | some z, some ei => (match fillA (fun i => some (i * ei.size, ei.size)) ρ z parts with
      | some l => some (.agg ⟨l⟩)
      | none => none)
    | _, _ => none)
  | _ => none

def keyA (kd : TypeDesc) (k k' : Value) : Option Bool :=
  match kd, k, k' with
  | .int _, .int k a, .int k' b => bif decide (k = k') then some (decide (a = b)) else none
  | .string, .string a, .string b => some (a.data.toList == b.data.toList)
  | .bool, .bool a, .bool b => some (a == b)
  | _, _, _ => none

/-- Keys that may be asked. -/
def plainK (kd : TypeDesc) (k : Value) : Bool :=
  match kd, k with
  | .int _, .int _ _ => true
  | .string, .string _ => true
  | .bool, .bool _ => true
  | _, _ => false

def findA (kd : TypeDesc) (k : Value) : List MapEntry → Nat → Option (Option (Nat × Value))
  | [], _ => some none
  | e :: es, i => match keyA kd k e.key with
    | some true => some (some (i, e.val))
    | some false => findA kd k es (i + 1)
    | none => none

def FW.mapOf (H : FW) (r : Nat) : Option (List MapEntry × Nat) :=
  match H.heap.get r with
  | some (.map es c) => some (es, c)
  | _ => none

def foundA (P : Program) (e : TypeId) (ok : Bool) (r : Option (Nat × Value)) : Option Value :=
  match r with
  | some (_, v) => some (bif ok then .tuple ⟨[v, .bool true]⟩ else v)
  | none => match P.info? e with
    | some i => (match i.zero with
      | some z => some (bif ok then .tuple ⟨[cstA z, .bool false]⟩ else cstA z)
      | none => none)
    | none => none

def lookupA (P : Program) (t : TypeId) (m k : Value) (ok : Bool) (H : FW) : Option Value :=
  match P.underlying t with
  | some (.map kt e) => (match P.underlying kt with
    | some kd => bif plainK kd k then
      (match m with
      | .map none => foundA P e ok none
      | .map (some r) => (match H.mapOf r with
        | some (es, _) => (match findA kd k es 0 with
          | some r => foundA P e ok r
          | none => none)
        | none => none)
      | _ => none)
      else none
    | none => none)
  | _ => none

def lenA (P : Program) (t : TypeId) (x : Value) (H : FW) : Option Value :=
  match P.underlying t, x with
  | some .string, .string s => some (.int .i64 (.ofNat s.data.toList.length))
  | some (.slice _), .slice _ n _ => some (.int .i64 (.ofNat n))
  | some (.map _ _), .map none => some (.int .i64 0)
  | some (.map _ _), .map (some r) => (match H.mapOf r with
    | some (es, _) => some (.int .i64 (.ofNat es.length))
    | none => none)
  | _, _ => none

def maxA (isMax : Bool) (x : Int) : List Value → Option Value
  | [] => some (.int .i64 x)
  | .int .i64 y :: r => maxA isMax (bif isMax then (bif decide (y > x) then y else x) else (bif decide (y < x) then y else x)) r
  | _ => none

def maxMinA (isMax : Bool) : List Value → Option Value
  | .int .i64 x :: r => maxA isMax x r
  | _ => none

def callLookA (P : Program) (ρ : Ev) (c : Call) (H : FW) : Option Value :=
  match c.callee with
  | .builtin .len => (match c.args.toList, c.argTypes.toList with
    | [x], t :: _ => lenA P t (ρ x) H
    | _, _ => none)
  | .builtin .max => maxMinA true (c.args.toList.map ρ)
  | .builtin .min => maxMinA false (c.args.toList.map ρ)
  | _ => none

def ifaceA (P : Program) (t : TypeId) (x : Value) : Option Value :=
  match P.underlying t with
  | some (.interface _) => none
  | some _ => some (.iface t x)
  | none => none

/-- Has a type all methods that are wanted? -/
def hasA (P : Program) (u : TypeId) (want : Array (String × TypeId)) : Option Bool :=
  match P.info? u with
  | some i => some (want.toList.all fun x => i.methods.toList.any fun m => m.name == x.1 && m.sig == x.2)
  | none => none

def assertA (P : Program) (x : Value) (t : TypeId) (ok : Bool) : Option Value :=
  match P.underlying t with
  | some (.interface want) => (match x with
    | .iface u v => (match hasA P u want with
      | some true => some (bif ok then .tuple ⟨[.iface u v, .bool true]⟩ else .iface u v)
      | some false => bif ok then foundA P t true none else none
      | none => none)
    | .nilIface => bif ok then foundA P t true none else none
    | _ => none)
  | some _ => (match x with
    | .iface u v => bif Nat.beq u t then some (bif ok then .tuple ⟨[v, .bool true]⟩ else v) else bif ok then foundA P t true none else none
    | .nilIface => bif ok then foundA P t true none else none
    | _ => none)
  | none => none

def lookOp (P : Program) (ρ : Ev) (op : Op) (H : FW) : Option Value :=
  match op with
  | .move x => some (ρ x)
  | .assign x => some (ρ x)
  | .pick c a b => pickA (ρ c) (ρ a) (ρ b)
  | .load t a => loadA P t (ρ a) H
  | .nilCheck x => nilA (ρ x)
  | .binOp op t x y _ => binA P op t x y (ρ x) (ρ y)
  | .unOp op _ x => unA op (ρ x)
  | .convert s d x => convA P s d (ρ x) H
  | .fieldAddr s x f => fieldAddrA P s (ρ x) f
  | .field s x f => fieldA P s (ρ x) f
  | .indexAddr t x i => indexAddrA P t (ρ x) (ρ i)
  | .index t x i => indexA P t (ρ x) (ρ i)
  | .extract x i => extractA (ρ x) i
  | .build t parts => buildA P t parts.toList ρ
  | .slice t x lo hi mx => sliceA P t (ρ x) (lo.map ρ) (hi.map ρ) (mx.map ρ) H
  | .makeInterface t x => ifaceA P t (ρ x)
  | .makeFunc fn fs cs => some (.func fn ⟨fs.toList.map ρ⟩ ⟨cs.toList.map ρ⟩)
  | .lookup t m k ok => lookupA P t (ρ m) (ρ k) ok H
  | .typeAssert x _ t ok => assertA P (ρ x) t ok
  | .call c => callLookA P ρ c H
  | _ => none

/-! Operations that make one block. -/

def ptrTo (r : Nat) : Value := .pointer (some ⟨r, 0, none⟩)

def zerosA (z : List Value) : Nat → List Value
  | 0 => []
  | n + 1 => z ++ zerosA z n

def makeSliceA (P : Program) (t : TypeId) (l c : Value) : Option (AObj × (Nat → Value)) :=
  match P.underlying t, l, c with
  | some (.slice e), .int .i64 (.ofNat l), .int .i64 (.ofNat c) =>
    (match P.info? e, zeroA P e with
    | some i, some z =>
      bif Nat.beq z.length i.size && (Nat.blt 0 i.size && (Nat.ble l c && Nat.ble (c * i.bytes) 281474976710656 && (Nat.blt 0 i.bytes && z.all oneC))) then
        some (.cells (zerosA z c) e, fun r => .slice (some ⟨r, 0, none⟩) l (2 * c))
      else none
    | _, _ => none)
  | _, _, _ => none

def buildSliceA (P : Program) (t : TypeId) (len : Nat) (parts : List (Nat × Operand)) (ρ : Ev) : Option (AObj × (Nat → Value)) :=
  match P.underlying t with
  | some (.slice e) =>
    (match P.info? e, zeroA P e with
    | some i, some z =>
      bif Nat.beq z.length i.size && (Nat.blt 0 i.size && Nat.ble (len * i.size) 16777216) then
        (match fillA (fun k => some (k * i.size, i.size)) ρ (zerosA z len) parts with
        | some l => bif l.all oneC then some (.cells l e, fun r => .slice (some ⟨r, 0, none⟩) len (2 * len)) else none
        | none => none)
      else none
    | _, _ => none)
  | _ => none

def makeOp (P : Program) (ρ : Ev) (op : Op) : Option (AObj × (Nat → Value)) :=
  match op with
  | .alloc t => (match zeroA P t with
    | some z => bif z.all oneC then some (.cells z t, ptrTo) else none
    | none => none)
  | .box t x => bif (cellsV (ρ x)).all oneC then some (.cells (cellsV (ρ x)) t, ptrTo) else none
  | .makeSlice t l c => makeSliceA P t (ρ l) (ρ c)
  | .buildSlice t n parts => buildSliceA P t n parts.toList ρ
  | .makeMap _ none => some (.map [] 0, fun r => .map (some r))
  | .range t x => (match P.underlying t, ρ x with
    | some .string, .string s => some (.iter s 0, ptrTo)
    | _, _ => none)
  | _ => none

/-! Operations that write: nothing below R. -/

/-- Cells are laid into a block. -/
def FW.lay (R : Nat) (H : FW) (a : Addr) (l : List Value) : Option FW :=
  match a.spot with
  | some _ => none
  | none => bif Nat.ble R a.block && okN a.block then (match H.cells a.block with
    | some (c, e) => bif Nat.ble (a.off + l.length) c.length && l.all oneC then some (H.put a.block (.cells (setC c a.off l) e)) else none
    | none => none) else none

def storeA (P : Program) (R : Nat) (t : TypeId) (x v : Value) (H : FW) : Option FW :=
  match x with
  | .pointer (some a) => bif szOk P t (cellsV v).length then H.lay R a (cellsV v) else none
  | _ => none

def FW.push (H : FW) (o : AObj) : Option FW :=
  match H.heap.get H.next with
  | some _ => none
  | none => bif okN H.next then some ⟨H.heap.set H.next o, H.next + 1⟩ else none

def srcCells (P : Program) (H : FW) (e size : Nat) : Value → Option (List Value)
  | .slice none _ _ => some []
  | .slice (some _) 0 _ => some []
  | .slice (some a) (n + 1) _ => H.row a ((n + 1) * size)
  | .string s => (match P.underlying e with
    | some (.int .u8) => some (s.data.toList.map fun b => .int .u8 b.toNat)
    | _ => none)
  | _ => none

def lenV : Value → Nat
  | .slice _ n _ => n
  | .string s => s.data.toList.length
  | _ => 0

def grownA (H : FW) (cells : List Value) (e n : Nat) : Option (Value × FW) :=
  match H.push (.cells cells e) with
  | some H' => some (.slice (some ⟨H.next, 0, none⟩) n (2 * n + 1), H')
  | none => none

/-- What is appended to a slice that has a block. -/
def appendTo (R : Nat) (e size bytes : Nat) (a : Addr) (n c m : Nat) (news : List Value) (H : FW) : Option (Value × FW) :=
  bif Nat.ble (n + m) (c / 2) then
    (match H.lay R (moveA a (n * size)) news with
    | some H' => bif a.spot.isNone then some (.slice (some a) (n + m) c, H') else none
    | none => none)
  else
    (match H.row a (n * size), H.cells a.block with
    | some olds, some (_, e') =>
      bif Nat.beq e' e then (bif Nat.ble ((n + m) * bytes) 140737488355328 && (olds.all oneC && news.all oneC) then
        (bif Nat.beq (c % 2) 0 then grownA H (olds ++ news) e (n + m)
        else bif Nat.ble R a.block && (okN a.block && Nat.blt 1 c) then grownA (H.put a.block .dead) (olds ++ news) e (n + m) else none)
      else none) else none
    | _, _ => none)

def appendA (P : Program) (R : Nat) (t t' : TypeId) (s x : Value) (H : FW) : Option (Value × FW) :=
  match P.underlying t, P.underlying t' with
  | some (.slice e), some td =>
    (match P.info? e, (match td with | .slice _ => true | .string => true | _ => false) with
    | some i, true =>
      (match zeroA P e, srcCells P H e i.size x with
      | some z, some news =>
        bif Nat.beq z.length i.size && (Nat.blt 0 i.size && (Nat.blt 0 i.bytes && Nat.beq news.length (lenV x * i.size))) then
          (match lenV x with
          | 0 => (match s with
            | .slice _ _ _ => some (s, H)
            | _ => none)
          | m + 1 => (match s with
            | .slice none 0 0 => bif Nat.ble ((m + 1) * i.bytes) 140737488355328 && news.all oneC then grownA H news e (m + 1) else none
            | .slice (some a) n c => appendTo R e i.size i.bytes a n c (m + 1) news H
            | _ => none))
        else none
      | _, _ => none)
    | _, _ => none)
  | _, _ => none

def copyA (P : Program) (R : Nat) (t : TypeId) (d x : Value) (H : FW) : Option (Value × FW) :=
  match P.underlying t, d with
  | some (.slice e), .slice _ 0 _ =>
    (match P.info? e, x with
    | some _, .slice _ _ _ => some (.int .i64 (.ofNat 0), H)
    | some _, .string _ => some (.int .i64 (.ofNat 0), H)
    | _, _ => none)
  | some (.slice e), .slice (some a) (n + 1) _ =>
    (match P.info? e with
    | some i => (match srcCells P H e i.size x with
      | some news => bif Nat.beq news.length (lenV x * i.size) then
        (match H.lay R a (news.take (min (lenV x) (n + 1) * i.size)) with
        | some H' => some (.int .i64 (.ofNat (min (lenV x) (n + 1))), H')
        | none => none) else none
      | none => none)
    | none => none)
  | _, _ => none

def clearA (P : Program) (R : Nat) (t : TypeId) (x : Value) (H : FW) : Option (Value × FW) :=
  match P.underlying t, x with
  | some (.slice _), .slice none _ _ => some (.tuple ⟨[]⟩, H)
  | some (.slice _), .slice (some _) 0 _ => some (.tuple ⟨[]⟩, H)
  | some (.slice e), .slice (some a) (n + 1) _ => (match zeroA P e with
    | some z => (match H.lay R a (zerosA z (n + 1)) with
      | some H' => some (.tuple ⟨[]⟩, H')
      | none => none)
    | none => none)
  | _, _ => none

def setEntry (es : List MapEntry) (i : Nat) (key v : Value) : List MapEntry :=
  match es, i with
  | [], _ => []
  | e :: r, 0 => ⟨key, v, e.born⟩ :: r
  | e :: r, i + 1 => e :: setEntry r i key v

def mapUpdateA (P : Program) (R : Nat) (t : TypeId) (m k v : Value) (H : FW) : Option FW :=
  match P.underlying t, m with
  | some (.map kt _), .map (some r) => bif Nat.ble R r && okN r then
      (match P.underlying kt, H.mapOf r with
      | some kd, some (es, clock) => bif plainK kd k then
          (match findA kd k es 0 with
          | some (some (i, _)) => some (H.put r (.map (setEntry es i k v) clock))
          | some none => some (H.put r (.map (es ++ [⟨k, v, clock⟩]) (clock + 1)))
          | none => none)
        else none
      | _, _ => none)
    else none
  | _, _ => none

def nextA (R : Nat) (it : Value) (isString : Bool) (H : FW) : Option (Value × FW) :=
  match it, isString with
  | .pointer (some ⟨r, 0, none⟩), true =>
    (match H.heap.get r with
    | some (.iter s pos) => bif Nat.ble R r && okN r then
        (bif Nat.blt pos s.data.toList.length then
          (match Utf8.decode s pos with
          | (c, width) => some (.tuple ⟨[.bool true, .int .i64 (.ofNat pos), .int .i32 c]⟩, H.put r (.iter s (pos + width))))
        else some (.tuple ⟨[.bool false]⟩, H))
      else none
    | _ => none)
  | _, _ => none

def callWriteA (P : Program) (R : Nat) (ρ : Ev) (c : Call) (H : FW) : Option (Value × FW) :=
  match c.callee with
  | .builtin .append => (match c.args.toList, c.argTypes.toList with
    | [s, x], t :: t' :: _ => appendA P R t t' (ρ s) (ρ x) H
    | _, _ => none)
  | .builtin .copy => (match c.args.toList, c.argTypes.toList with
    | [s, x], t :: _ => copyA P R t (ρ s) (ρ x) H
    | _, _ => none)
  | .builtin .clear => (match c.args.toList, c.argTypes.toList with
    | [x], t :: _ => clearA P R t (ρ x) H
    | _, _ => none)
  | _ => none

def unit1 (r : Option FW) : Option (Value × FW) :=
  match r with
  | some H => some (undef, H)
  | none => none

/-- Is it a string made a row of bytes? -/
def isBytesC (P : Program) (s d : TypeId) : Bool :=
  match P.underlying s, P.underlying d with
  | some .string, some (.slice e) => (match P.underlying e with
    | some (.int .u8) => true
    | _ => false)
  | _, _ => false

def bytesA (P : Program) (d : TypeId) (x : Value) (H : FW) : Option (Value × FW) :=
  match P.underlying d, x with
  | some (.slice e), .string s => bif Nat.ble s.data.toList.length 281474976710656 && Nat.beq (P.cellsOf e) 1 then grownA H (s.data.toList.map fun b => .int .u8 b.toNat) e s.data.toList.length else none
  | _, _ => none

def writeOp (P : Program) (R : Nat) (ρ : Ev) (op : Op) (H : FW) : Option (Value × FW) :=
  match op with
  | .store t a x => unit1 (storeA P R t (ρ a) (ρ x) H)
  | .mapUpdate t m k x => unit1 (mapUpdateA P R t (ρ m) (ρ k) (ρ x) H)
  | .insert t m k x => unit1 (mapUpdateA P R t (ρ m) (ρ k) (ρ x) H)
  | .next it s => nextA R (ρ it) s H
  | .call c => callWriteA P R ρ c H
  | _ => none

end
end Go.Am

set_option linter.unusedVariables false
set_option linter.unusedSimpArgs false
namespace Go.Am
noncomputable section

/-- What an operation does: 0: it looks at slots; 1: it looks at memory too; 2: it makes a block; 3: it writes; 4: it calls. -/
def kindA (P : Program) : Op → Nat
  | .move _ | .assign _ | .pick .. | .nilCheck _ | .binOp .. | .unOp .. | .fieldAddr .. | .field .. | .indexAddr .. | .index .. | .extract .. | .build .. | .slice .. | .makeInterface .. | .makeFunc .. | .typeAssert .. => 0
  | .load .. | .lookup .. => 1
  | .convert s d _ => bif isBytesC P s d then 3 else 1
  | .alloc _ | .box .. | .buildSlice .. | .makeSlice .. | .makeMap .. | .range .. => 2
  | .call c => (match c.callee with
    | .builtin b => (match b with
      | .max | .min => 0
      | .len => 1
      | _ => 3)
    | _ => 4)
  | _ => 3

/-- The slots: those of this region, the latest first; and those that live beyond a region. -/
structure TM where
  loc : List (Nat × Value)
  out : T Value

def scanL (l : List (Nat × Value)) (d : Value) (t : Nat) : Value :=
  List.rec (motive := fun _ => Value) d (fun p _ ih => Bool.rec ih p.2 (Nat.beq p.1 t)) l

def outV (lv : Nat → Bool) (o : T Value) (t : Nat) : Value :=
  bif lv t then (match T.get o t with
    | some v => v
    | none => bot) else bot

def TM.val (lv : Nat → Bool) (tm : TM) (t : Nat) : Value := scanL tm.loc (outV lv tm.out t) t

def TM.put (tm : TM) (t : Nat) (v : Value) : TM := ⟨(t, v) :: tm.loc, tm.out⟩

def flushL (lv : Nat → Bool) (l : List (Nat × Value)) (o : T Value) : T Value :=
  List.rec (motive := fun _ => T Value) o (fun p _ ih => Bool.rec ih (T.set ih p.1 p.2) (lv p.1)) l

/-- At a region's end: only what lives beyond it stays. -/
def TM.flush (lv : Nat → Bool) (tm : TM) : TM := ⟨[], flushL lv tm.loc tm.out⟩

def ev (lv : Nat → Bool) (tm : TM) : Ev
  | .tmp t => TM.val lv tm t
  | .const v => cstA v
  | .global g => bif Nat.blt g 512 then .pointer (some ⟨g, 0, none⟩) else bot
  | .func f => .func (.func f) ⟨[]⟩ ⟨[]⟩

def putT (tm : TM) (dst : Option Tmp) (v : Value) : Option TM :=
  match dst with
  | none => some tm
  | some t => bif okN t then some (tm.put t v) else none

def boolIs (want : Bool) : Value → Bool
  | .bool b => bif want then b else !b
  | _ => false

/-- When an operation is wanted. -/
inductive AG where
  | always
  | never
  | on (t : Tmp) (want : Bool)

def guardOf (ops : Array Oper) (o : Oper) : AG :=
  match o.guard with
  | none => .always
  | some (j, want) => (match (ops[j]?).bind (·.dst) with
    | some t => .on t want
    | none => .never)

def AG.holds (lv : Nat → Bool) (tm : TM) : AG → Bool
  | .always => true
  | .never => false
  | .on t want => boolIs want (TM.val lv tm t)

abbrev St := TM × FW
abbrev CallF := FuncId → List Value → FW → Option (Value × FW)

def plainV : Value → Bool
  | .tuple vs => vs.toList.all flatC
  | .agg vs => vs.toList.all flatC
  | v => flatC v

/-- A method of a type that is its own, and takes what the interface holds. -/
def methodA (P : Program) (t : TypeId) (name : String) : Option FuncId :=
  match P.info? t with
  | some i => (match i.methods.find? (·.name == name) with
    | some m => bif m.path.toList.isEmpty then (match m.func, P.underlying t with
      | some (f, true), some (.pointer _) => some f
      | some (_, false), some (.pointer _) => none
      | some (f, false), some _ => some f
      | _, _ => none) else none
    | none => none)
  | none => none

/-- The callee and the arguments of a call of a function. -/
def calleeA (P : Program) (ρ : Ev) (c : Call) : Option (FuncId × List Value) :=
  match c.callee with
  | .value x => (match ρ x with
    | .func (.func f) fs cs => some (f, fs.toList ++ (c.args.toList.map ρ ++ cs.toList))
    | _ => none)
  | .invoke recv name => (match ρ recv with
    | .iface t v => (match methodA P t name with
      | some f => some (f, v :: c.args.toList.map ρ)
      | none => none)
    | _ => none)
  | _ => none

def finT (tm : TM) (dst : Option Tmp) (v : Value) (H : FW) : Option St :=
  match putT tm dst v with
  | some tm' => some (tm', H)
  | none => none

def finO (tm : TM) (dst : Option Tmp) (v : Option Value) (H : FW) : Option St :=
  match v with
  | some v => finT tm dst v H
  | none => none

def finM (tm : TM) (dst : Option Tmp) (m : Option (AObj × (Nat → Value))) (H : FW) (id next : Nat) : Option St :=
  match m with
  | some (ob, val) => (match FW.push ⟨H.heap, id⟩ ob with
    | some H' => finT tm dst (val id) ⟨H'.heap, next⟩
    | none => none)
  | none => none

def finW (tm : TM) (dst : Option Tmp) (r : Option (Value × FW)) : Option St :=
  match r with
  | some (v, H) => finT tm dst v H
  | none => none

def finC (call : CallF) (look : Bool) (tm : TM) (dst : Option Tmp) (c : Option (FuncId × List Value)) (H : FW) : Option St :=
  match c with
  | some (f, vs) => (match call f vs H with
    | some (v, H') => bif !look || plainV v then finT tm dst v (bif look then H else H') else none
    | none => none)
  | none => none

/-- An operation, made ready. -/
inductive AI where
  | look (f : Ev → FW → Option Value)
  | make (f : Ev → Option (AObj × (Nat → Value)))
  | write (f : Nat → Ev → FW → Option (Value × FW))
  | call (f : Ev → Option (FuncId × List Value))

def compA (P : Program) (op : Op) : AI :=
  match op with
  | .move x => .look fun ρ _ => some (ρ x)
  | .assign x => .look fun ρ _ => some (ρ x)
  | .pick c a b => .look fun ρ _ => pickA (ρ c) (ρ a) (ρ b)
  | .load t a => .look fun ρ H => loadA P t (ρ a) H
  | .nilCheck x => .look fun ρ _ => nilA (ρ x)
  | .binOp op t x y _ => .look fun ρ _ => binA P op t x y (ρ x) (ρ y)
  | .unOp op _ x => .look fun ρ _ => unA op (ρ x)
  | .convert s d x => bif isBytesC P s d then .write fun _ ρ H => bytesA P d (ρ x) H else .look fun ρ H => convA P s d (ρ x) H
  | .fieldAddr s x f => .look fun ρ _ => fieldAddrA P s (ρ x) f
  | .field s x f => .look fun ρ _ => fieldA P s (ρ x) f
  | .indexAddr t x i => .look fun ρ _ => indexAddrA P t (ρ x) (ρ i)
  | .index t x i => .look fun ρ _ => indexA P t (ρ x) (ρ i)
  | .extract x i => .look fun ρ _ => extractA (ρ x) i
  | .build t parts => .look fun ρ _ => buildA P t parts.toList ρ
  | .slice t x lo hi mx => .look fun ρ H => sliceA P t (ρ x) (lo.map ρ) (hi.map ρ) (mx.map ρ) H
  | .makeInterface t x => .look fun ρ _ => ifaceA P t (ρ x)
  | .makeFunc fn fs cs => .look fun ρ _ => some (.func fn ⟨fs.toList.map ρ⟩ ⟨cs.toList.map ρ⟩)
  | .lookup t m k ok => .look fun ρ H => lookupA P t (ρ m) (ρ k) ok H
  | .typeAssert x _ t ok => .look fun ρ _ => assertA P (ρ x) t ok
  | .alloc t => .make fun ρ => makeOp P ρ (.alloc t)
  | .box t x => .make fun ρ => makeOp P ρ (.box t x)
  | .makeSlice t l c => .make fun ρ => makeOp P ρ (.makeSlice t l c)
  | .buildSlice t n parts => .make fun ρ => makeOp P ρ (.buildSlice t n parts)
  | .makeMap t r => .make fun ρ => makeOp P ρ (.makeMap t r)
  | .range t x => .make fun ρ => makeOp P ρ (.range t x)
  | .store t a x => .write fun R ρ H => unit1 (storeA P R t (ρ a) (ρ x) H)
  | .call c => (match c.callee with
    | .builtin b => (match b with
      | .len => .look fun ρ H => callLookA P ρ c H
      | .max => .look fun ρ H => callLookA P ρ c H
      | .min => .look fun ρ H => callLookA P ρ c H
      | _ => .write fun R ρ H => callWriteA P R ρ c H)
    | _ => .call fun ρ => calleeA P ρ c)
  | op => .write fun R ρ H => writeOp P R ρ op H

/-- .. over slots. -/
inductive AT where
  | look (f : TM → FW → Option Value)
  | make (f : TM → Option (AObj × (Nat → Value)))
  | write (f : Nat → TM → FW → Option (Value × FW))
  | call (f : TM → Option (FuncId × List Value))

def AI.toT (lv : Nat → Bool) : AI → AT
  | .look f => .look fun tm H => f (ev lv tm) H
  | .make f => .make fun tm => f (ev lv tm)
  | .write f => .write fun R tm H => f R (ev lv tm) H
  | .call f => .call fun tm => f (ev lv tm)

structure CI where
  g : AG
  d : Option Tmp
  i : AT

/-- Where it goes; a slot that is none becomes a number that is none. -/
def clampD (n : Nat) : Option Tmp → Option Tmp
  | none => none
  | some t => some (bif Nat.blt t n then t else 1099511627770)

def compO (P : Program) (lv : Nat → Bool) (n : Nat) (ops : Array Oper) (o : Oper) : CI := ⟨guardOf ops o, clampD n o.dst, (compA P o.op).toT lv⟩

def compL (P : Program) (lv : Nat → Bool) (n : Nat) (ops : Array Oper) : List CI := ops.toList.map (compO P lv n ops)

/-- Is it known whether it is wanted? -/
def AG.sure (lv : Nat → Bool) (tm : TM) : AG → Bool
  | .on t _ => nbot (TM.val lv tm t)
  | _ => true

/-- One operation; one that makes a block gives it the number id; 'look': a call must only look. -/
def stepG (lv : Nat → Bool) (R : Nat) (call : CallF) (look : Bool) (c : CI) (id next : Nat) (tm : TM) (H : FW) : Option St :=
  bif c.g.holds lv tm then
    (match c.i with
    | .look f => finO tm c.d (f tm H) H
    | .make f => finM tm c.d (f tm) H id next
    | .write f => finW tm c.d (f R tm H)
    | .call f => finC call look tm c.d (f tm) H)
  else (bif c.g.sure lv tm then finT tm c.d undef H else none)

def stepA (lv : Nat → Bool) (R : Nat) (call : CallF) (c : CI) (tm : TM) (H : FW) : Option St := stepG lv R call false c H.next (H.next + 1) tm H

/-- Operations one behind the other. -/
def opsA (lv : Nat → Bool) (R : Nat) (call : CallF) (l : List CI) : TM → FW → Option St :=
  List.rec (motive := fun _ => TM → FW → Option St) (fun tm H => some (tm, H))
    (fun c _ ih tm H => match stepA lv R call c tm H with
      | some (tm', H') => ih tm' H'
      | none => none) l

/-- Orders: one that looks, first; or each of those that may come now ('stop': there is no other). -/
inductive Plan where
  | done
  | look (j : Nat) (r : Plan)
  | alt (j : Nat) (r other : Plan)
  | stop

def altsOf (f : Nat → Option Plan) : List Nat → Option Plan
  | [] => some .stop
  | j :: l => match f j, altsOf f l with
    | some r, some p => some (.alt j r p)
    | _, _ => none

/-- What an operation hands on, looks at, waits for: sets of numbers, by bits. -/
structure OpM where
  i : Nat
  b : Nat
  D : Nat
  L : Nat
  A : Nat
  k : Nat

def bitN (t : Nat) : Nat := Nat.shiftLeft 1 t

def maskL : List Nat → Nat
  | [] => 0
  | t :: r => Nat.lor (bitN t) (maskL r)

def dstM : Option Tmp → Nat
  | some t => bitN t
  | none => 0

def opM (P : Program) (ops : Array Oper) (i : Nat) (o : Oper) : OpM :=
  ⟨i, bitN i, dstM o.dst, maskL (o.looksAt ops), maskL ((o.after.toList.filter (Region.binds .any)).map (·.on)), kindA P o.op⟩

def msFrom (P : Program) (ops : Array Oper) : Nat → List Oper → List OpM
  | _, [] => []
  | i, o :: r => opM P ops i o :: msFrom P ops (i + 1) r

def readyM (rem : Nat) (ms : List OpM) : List OpM :=
  ms.filter fun m => !Nat.beq (Nat.land m.b rem) 0 && Nat.beq (Nat.land m.A rem) 0

/-- May it write (calls: where calls are hoped to write nothing that there is)? -/
def wrK (calls : Bool) (k : Nat) : Bool := Nat.beq k 3 || (Nat.beq k 4 && !calls)

/-- Each other one that is still to come waits for m, or is apart from it and (where m looks at memory) writes nothing. -/
def freeM (calls : Bool) (rem : Nat) (ms : List OpM) (m : OpM) : Bool :=
  ms.all fun x => Nat.beq (Nat.land x.b rem) 0 || (Nat.beq x.i m.i || (!Nat.beq (Nat.land x.A m.b) 0 ||
    (Nat.beq (Nat.land m.D (Nat.lor x.L x.D)) 0 && (Nat.beq (Nat.land m.L x.D) 0 && (Nat.beq m.k 0 || !wrK calls x.k)))))

/-- May this one be taken first? -/
def firstM (calls : Bool) (rem : Nat) (ms : List OpM) (m : OpM) : Bool :=
  (Nat.beq m.k 0 || (Nat.beq m.k 1 || (calls && Nat.beq m.k 4))) && freeM calls rem ms m

def planM (calls : Bool) (ms : List OpM) : Nat → Nat → Option Plan
  | 0, rem => bif (readyM rem ms).isEmpty then some .done else none
  | f + 1, rem =>
    match readyM rem ms with
    | [] => some .done
    | l => match l.find? (firstM calls rem ms) with
      | some m => (match planM calls ms f (Nat.xor rem m.b) with
        | some r => some (.look m.i r)
        | none => none)
      | none => altsOf (fun i => planM calls ms f (Nat.xor rem (bitN i))) (l.map (·.i))

def planA (P : Program) (calls : Bool) (ops : Array Oper) : Option Plan :=
  bif (msFrom P ops 0 ops.toList).all fun m => Nat.blt m.A (bitN ops.size) then planM calls (msFrom P ops 0 ops.toList) ops.size (bitN ops.size - 1) else none

/-- One operation of a region whose order is open. -/
def stepX (lv : Nat → Bool) (R : Nat) (call : CallF) (base : Nat) (l : List CI) (i : Nat) (look : Bool) (tm : TM) (H : FW) : Option St :=
  match l[i]? with
  | none => none
  | some c => stepG lv R call look c (base + i) H.next tm H

def beqL (f : Value → Value → Bool) : List Value → List Value → Bool
  | [], [] => true
  | a :: l, b :: m => f a b && beqL f l m
  | _, _ => false

def beqA : Option Addr → Option Addr → Bool
  | none, none => true
  | some a, some b => Nat.beq a.block b.block && (Nat.beq a.off b.off && (a.spot.isNone && b.spot.isNone))
  | _, _ => false

/-- Are two values the same (as far as is looked)? -/
def beqV : Nat → Value → Value → Bool
  | _, .bool a, .bool b => a == b
  | _, .int k a, .int k' b => decide (k = k') && decide (a = b)
  | _, .string a, .string b => decide (a.data.toList = b.data.toList)
  | _, .pointer a, .pointer b => beqA a b
  | _, .slice a n c, .slice a' n' c' => beqA a a' && (Nat.beq n n' && Nat.beq c c')
  | _, .map none, .map none => true
  | _, .map (some a), .map (some b) => Nat.beq a b
  | _, .nilFunc, .nilFunc => true
  | _, .nilIface, .nilIface => true
  | n + 1, .func fn a b, .func fn' a' b' => decide (fn = fn') && (beqL (beqV n) a.toList a'.toList && beqL (beqV n) b.toList b'.toList)
  | n + 1, .iface t v, .iface t' v' => Nat.beq t t' && beqV n v v'
  | n + 1, .agg a, .agg b => beqL (beqV n) a.toList b.toList
  | n + 1, .tuple a, .tuple b => beqL (beqV n) a.toList b.toList
  | _, _, _ => false

def beqE : List MapEntry → List MapEntry → Bool
  | [], [] => true
  | a :: l, b :: m => beqV 20 a.key b.key && (beqV 20 a.val b.val && (Nat.beq a.born b.born && beqE l m))
  | _, _ => false

def beqO : AObj → AObj → Bool
  | .cells c e, .cells c' e' => beqL (beqV 20) c c' && Nat.beq e e'
  | .map es k, .map es' k' => beqE es es' && Nat.beq k k'
  | .iter s p, .iter s' p' => decide (s.data.toList = s'.data.toList) && Nat.beq p p'
  | .dead, .dead => true
  | _, _ => false

def beqN {α : Type} (f : α → α → Bool) : Option α → Option α → Bool
  | none, none => true
  | some a, some b => f a b
  | _, _ => false

def beqT {α : Type} (f : α → α → Bool) : T α → T α → Bool
  | .nil, .nil => true
  | .node v l r, .node v' l' r' => beqN f v v' && (beqT f l l' && beqT f r r')
  | _, _ => false

def beqS (s s' : St) : Bool := (s.1.loc.isEmpty && s'.1.loc.isEmpty) && (beqT (beqV 20) s.1.out s'.1.out) && (beqT beqO s.2.heap s'.2.heap && Nat.beq s.2.next s'.2.next)

def isStop : Plan → Bool
  | .stop => true
  | _ => false

/-- Do two ends say the same of all slots, and of all blocks? -/
def sameS (lv : Nat → Bool) (s s' : St) : Prop :=
  (∀ t, TM.val lv s.1 t = TM.val lv s'.1 t) ∧ s.1.loc = [] ∧ (∀ b, s.2.heap.get b = s'.2.heap.get b) ∧ s.2.next = s'.2.next

def altS (lv : Nat → Bool) (stop : Bool) (s o : Option St) : Option St :=
  match s with
  | some s => bif stop then some s else (match o with
    | some s' => bif @decide (sameS lv s s') (Classical.propDecidable _) then some s else none
    | none => none)
  | none => none

def goS (r : Option St) (k : TM → FW → Option St) : Option St :=
  match r with
  | some (tm, H) => k tm H
  | none => none

def runPlan (lv : Nat → Bool) (step : Nat → Bool → TM → FW → Option St) (p : Plan) : TM → FW → Option St :=
  Plan.rec (motive := fun _ => TM → FW → Option St) (fun tm H => some (tm.flush lv, H))
    (fun j _ ih tm H => goS (step j true tm H) ih)
    (fun j _ other ih io tm H => altS lv (isStop other) (goS (step j false tm H) ih) (io tm H))
    (fun _ _ => none) p

def regionX (P : Program) (lv : Nat → Bool) (n R : Nat) (call callq : CallF) (ops : Array Oper) (tm : TM) (H : FW) : Option St :=
  match planA P false ops with
  | some p => runPlan lv (stepX lv R call H.next (compL P lv n ops)) p tm ⟨H.heap, H.next + ops.size⟩
  | none => match planA P true ops with
    | some p => runPlan lv (stepX lv R callq H.next (compL P lv n ops)) p tm ⟨H.heap, H.next + ops.size⟩
    | none => none

inductive XO where
  | norm
  | ret
  | exit (id : Nat)

abbrev CR := Option (XO × St)

def normS : Option St → CR
  | some s => some (.norm, s)
  | none => none

def seqS (r : CR) (k : TM → FW → CR) : CR :=
  match r with
  | some (.norm, tm, H) => k tm H
  | r => r

def condS (c : Value) (a b : CR) : CR :=
  match c with
  | .bool true => a
  | .bool false => b
  | _ => none

def blockS (id : Nat) (r : CR) : CR :=
  match r with
  | some (.exit i, s) => bif Nat.beq i id then some (.norm, s) else some (.exit i, s)
  | r => r

def roundS (r : CR) : Option (Option XO × St) :=
  match r with
  | some (.norm, s) => some (none, s)
  | some (x, s) => some (some x, s)
  | none => none

def againS (r : Option (Option XO × St)) (k : TM → FW → Option (Option XO × St)) : Option (Option XO × St) :=
  match r with
  | some (none, tm, H) => k tm H
  | r => r

/-- Rounds, up to 2^k of them; the first part: how they were left. -/
def loopP (body : TM → FW → CR) (k : Nat) : TM → FW → Option (Option XO × St) :=
  Nat.rec (motive := fun _ => TM → FW → Option (Option XO × St)) (fun tm H => roundS (body tm H)) (fun _ ih tm H => againS (ih tm H) ih) k

def loopS (r : Option (Option XO × St)) : CR :=
  match r with
  | some (some x, s) => some (x, s)
  | _ => none

def argsT : List Value → Nat → TM → TM
  | [], _, tm => tm
  | v :: r, i, tm => argsT r (i + 1) (tm.put i v)

def retOneA (P : Program) (lv : Nat → Bool) (tm : TM) (H : FW) : ResultVar → Option Value
  | .tmp t => some (TM.val lv tm t)
  | .cell q t => loadA P t (TM.val lv tm q) H

def retAllA (P : Program) (lv : Nat → Bool) (tm : TM) (H : FW) : List ResultVar → Option (List Value)
  | [] => some []
  | v :: r => match retOneA P lv tm H v, retAllA P lv tm H r with
    | some u, some us => some (u :: us)
    | _, _ => none

def tupA : List Value → Value
  | [v] => v
  | l => .tuple ⟨l⟩

def retS (P : Program) (lv : Nat → Bool) (rs : List ResultVar) (r : CR) : Option (Value × FW) :=
  match r with
  | some (.exit _, _) => none
  | some (_, tm, H) => (match retAllA P lv tm H rs with
    | some l => some (tupA l, H)
    | none => none)
  | none => none

/-- A function's doings, known as a whole: what may be written (from where on), the arguments, the store. -/
structure Sm where
  f : Nat → List Value → FW → Option (Value × FW)

/-- What is known of functions; which functions have no text (1: internal/bytealg.IndexByteString; 2: CountString); which are known as a whole. -/
structure Env where
  kn : FuncId → List Value → Option Value
  ext : FuncId → Nat
  ss : FuncId → Option Sm := fun _ => none

def extA (n : Nat) (vs : List Value) : Option Value :=
  match n, vs with
  | 1, [.string s, .int .u8 c] => some (.int .i64 (Lib.indexByte s.data.toList c.toNat.toUInt8))
  | 2, [.string s, .int .u8 c] => some (.int .i64 (Lib.countByte s.data.toList c.toNat.toUInt8))
  | _, _ => none

def flushS (lv : Nat → Bool) : Option St → Option St
  | some (tm, H) => some (tm.flush lv, H)
  | none => none

def regionS (P : Program) (lv : Nat → Bool) (n : Nat) (call : Nat → CallF) (R : Nat) (ops : Array Oper) (d : Bool) (tm : TM) (H : FW) : CR :=
  bif d then
    (bif P.follows .mixedOrders && Region.noSelect ops then normS (regionX P lv n R (call R) (fun g vs H => call H.next g vs H) ops tm H) else none)
  else normS (flushS lv (opsA lv R (call R) (compL P lv n ops) tm H))

/-- Code's run: how it ends, the slots, the store. 'call': by what is written. -/
def codeA (P : Program) (lv : Nat → Bool) (n : Nat) (call : Nat → CallF) (R : Nat) (c : Code) : TM → FW → CR :=
  Code.rec (motive := fun _ => TM → FW → CR)
    (fun tm H => some (.norm, tm, H))
    (fun _ ops d tm H => regionS P lv n call R ops d tm H)
    (fun _ _ a b tm H => seqS (a tm H) b)
    (fun x _ _ a b tm H => condS (ev lv tm x) (a tm H) (b tm H))
    (fun id _ b tm H => blockS id (b tm H))
    (fun _ b tm H => loopS (loopP b 20 tm H))
    (fun _ _ _ _ _ _ _ _ => none)
    (fun id tm H => some (.exit id, tm, H))
    (fun _ _ _ _ => none)
    (fun _ _ _ => none)
    (fun _ _ _ => none)
    (fun tm H => some (.ret, tm, H))
    (fun _ _ _ => none) c

/-! Which slots live beyond a region: nothing hangs on it but how far a run comes. -/

def usesO (o : Oper) : List Tmp := o.op.operands.toList.filterMap fun x => match x with
  | .tmp t => some t
  | _ => none

def addU (as : List Nat) : List Nat → T Unit → T Unit
  | [], acc => acc
  | t :: r, acc => addU as r (bif as.any (Nat.beq t) then acc else acc.set t ())

def usesR : List Oper → List Nat → T Unit → T Unit
  | [], _, acc => acc
  | o :: r, as, acc => usesR r (match o.dst with
    | some t => t :: as
    | none => as) (addU as (usesO o) acc)

def usesC (c : Code) : T Unit → T Unit :=
  Code.rec (motive := fun _ => T Unit → T Unit)
    (fun acc => acc)
    (fun _ ops _ acc => usesR ops.toList [] acc)
    (fun _ _ a b acc => b (a acc))
    (fun x _ _ a b acc => b (a (match x with
      | .tmp t => acc.set t ()
      | _ => acc)))
    (fun _ _ b acc => b acc)
    (fun _ b acc => b acc)
    (fun _ _ _ _ _ _ acc => acc)
    (fun _ acc => acc)
    (fun _ b acc => b acc)
    (fun _ acc => acc)
    (fun _ acc => acc)
    (fun acc => acc)
    (fun _ acc => acc) c

def addRes : List ResultVar → T Unit → T Unit
  | [], acc => acc
  | .tmp t :: r, acc => addRes r (acc.set t ())
  | .cell q _ :: r, acc => addRes r (acc.set q ())

def lvF (t : T Unit) (n : Nat) : Bool :=
  match T.get t n with
  | some _ => true
  | none => false

def lvOf (fn : Func) (c : Code) : Nat → Bool := lvF (addRes fn.results.toList (usesC c .nil))

def bodyS (P : Program) (E : Env) (call : Nat → CallF) (R : Nat) (g : FuncId) (fn : Func) (vs : List Value) (H : FW) : Option (Value × FW) :=
  match fn.body with
  | some c => (match E.kn g vs with
    | some v => some (v, H)
    | none => bif Nat.ble vs.length fn.ntmps && Nat.ble vs.length 1000000 then retS P (lvOf fn c) fn.results.toList (codeA P (lvOf fn c) fn.ntmps call R c ((argsT vs 0 ⟨[], .nil⟩).flush (lvOf fn c)) H) else none)
  | none => (match extA (E.ext g) vs with
    | some v => some (v, H)
    | none => none)

def callS (P : Program) (E : Env) (call : Nat → CallF) (R : Nat) (g : FuncId) (vs : List Value) (H : FW) : Option (Value × FW) :=
  match E.ss g with
  | some s => s.f R vs H
  | none => (match P.funcs[g]? with
    | some fn => bif !(fn.name == "runtime.NumGoroutine") then bodyS P E call R g fn vs H else none
    | none => none)

/-- A call. -/
def callA (P : Program) (E : Env) (f : Nat) : Nat → CallF :=
  Nat.rec (motive := fun _ => Nat → CallF) (fun _ _ _ _ => none) (fun _ ih R g vs H => callS P E ih R g vs H) f

end
end Go.Am

set_option linter.unusedVariables false
set_option linter.unusedSimpArgs false
namespace Go.Am
open Go.RowKit

/-- Where a block of the store lies: in which block of the world, from which cell on. -/
structure Pl where
  b : Nat
  lo : Nat
  sz : Nat
  wd : Nat

abbrev Bm := Nat → Option Pl

mutual
/-- What a value of the store says of a value. -/
inductive VR (β : Bm) : Value → Value → Prop
  | any {v : Value} : VR β (.float .f32 7) v
  | bool (b : Bool) : VR β (.bool b) (.bool b)
  | int (k : IntKind) (n : Int) : VR β (.int k n) (.int k n)
  | string (s : ByteArray) : VR β (.string s) (.string s)
  | pnil : VR β (.pointer none) (.pointer none)
  | ptr {o i : Nat} {k : Pl} (h : β o = some k) : VR β (.pointer (some ⟨o, i, none⟩)) (.pointer (some ⟨k.b, k.lo + i, none⟩))
  | snil : VR β (.slice none 0 0) (.slice none 0 0)
  | sl {o i n c cap : Nat} {k : Pl} (h : β o = some k) (hn : n ≤ cap) (hc : c / 2 ≤ cap) (he : c % 2 = 0 → c / 2 = cap) (h2 : 2 * n ≤ c) (hm : cap ≤ maxLen) (hr : c % 2 = 1 → k.lo + i + cap * k.wd ≤ k.sz) :
      VR β (.slice (some ⟨o, i, none⟩) n c) (.slice (some ⟨k.b, k.lo + i, none⟩) n cap)
  | s1 {a : Addr} {b j cap : Nat} : VR β (.slice (some a) 0 1) (.slice (some ⟨b, j, none⟩) 0 cap)
  | mnil : VR β (.map none) (.map none)
  | map {o : Nat} {k : Pl} (h : β o = some k) : VR β (.map (some o)) (.map (some k.b))
  | func {fn : Fn} {fs fs' cs cs' : List Value} (h1 : VRs β fs fs') (h2 : VRs β cs cs') : VR β (.func fn ⟨fs⟩ ⟨cs⟩) (.func fn ⟨fs'⟩ ⟨cs'⟩)
  | nilFunc : VR β .nilFunc .nilFunc
  | nilIface : VR β .nilIface .nilIface
  | iface {t : TypeId} {v v' : Value} (h : VR β v v') : VR β (.iface t v) (.iface t v')
  | agg {l l' : List Value} (h : VRs β l l') : VR β (.agg ⟨l⟩) (.agg ⟨l'⟩)
  | tuple {l l' : List Value} (h : VRs β l l') : VR β (.tuple ⟨l⟩) (.tuple ⟨l'⟩)
inductive VRs (β : Bm) : List Value → List Value → Prop
  | nil : VRs β [] []
  | cons {v v' : Value} {l l' : List Value} (h : VR β v v') (hs : VRs β l l') : VRs β (v :: l) (v' :: l')
end

def BLe (β β' : Bm) : Prop := ∀ o k, β o = some k → β' o = some k
theorem BLe.refl (β : Bm) : BLe β β := fun _ _ h => h
theorem BLe.trans {a b c : Bm} (h : BLe a b) (k : BLe b c) : BLe a c := fun _ _ x => k _ _ (h _ _ x)

mutual
theorem VR.up {β β' : Bm} (hb : BLe β β') : ∀ {v v' : Value}, VR β v v' → VR β' v v'
  | _, _, .any => .any
  | _, _, .bool b => .bool b
  | _, _, .int k n => .int k n
  | _, _, .string s => .string s
  | _, _, .pnil => .pnil
  | _, _, .ptr h => .ptr (hb _ _ h)
  | _, _, .snil => .snil
  | _, _, .sl h hn hc he h2 hm hr => .sl (hb _ _ h) hn hc he h2 hm hr
  | _, _, .s1 => .s1
  | _, _, .mnil => .mnil
  | _, _, .map h => .map (hb _ _ h)
  | _, _, .func h1 h2 => .func (VRs.up hb h1) (VRs.up hb h2)
  | _, _, .nilFunc => .nilFunc
  | _, _, .nilIface => .nilIface
  | _, _, .iface h => .iface (VR.up hb h)
  | _, _, .agg h => .agg (VRs.up hb h)
  | _, _, .tuple h => .tuple (VRs.up hb h)
theorem VRs.up {β β' : Bm} (hb : BLe β β') : ∀ {l l' : List Value}, VRs β l l' → VRs β' l l'
  | _, _, .nil => .nil
  | _, _, .cons h hs => .cons (VR.up hb h) (VRs.up hb hs)
end

theorem VRs.length {β : Bm} : ∀ {l l' : List Value}, VRs β l l' → l'.length = l.length
  | _, _, .nil => rfl
  | _, _, .cons _ hs => by simp [VRs.length hs]

theorem VRs.get {β : Bm} : ∀ {l l' : List Value}, VRs β l l' → ∀ {i : Nat} {v : Value}, l[i]? = some v → ∃ v', l'[i]? = some v' ∧ VR β v v'
  | _, _, .nil, i, v, h => by simp at h
  | _, _, .cons h hs, 0, v, hi => by simp at hi; subst hi; exact ⟨_, by simp, h⟩
  | _, _, .cons h hs, i + 1, v, hi => by simp at hi; obtain ⟨u, hu, hr⟩ := VRs.get hs hi; exact ⟨u, by simpa using hu, hr⟩

theorem VRs.of_get {β : Bm} : ∀ {l l' : List Value}, l'.length = l.length → (∀ (i : Nat) (v : Value), l[i]? = some v → ∃ v', l'[i]? = some v' ∧ VR β v v') → VRs β l l'
  | [], l', hl, _ => by have : l' = [] := by simpa using hl
                        subst this; exact .nil
  | v :: l, [], hl, _ => by simp at hl
  | v :: l, u :: l', hl, h => by
    refine .cons ?_ (VRs.of_get (by simpa using hl) fun i w hw => ?_)
    · obtain ⟨x, hx, hr⟩ := h 0 v rfl
      simp at hx; subst hx; exact hr
    · obtain ⟨x, hx, hr⟩ := h (i + 1) w (by simpa using hw)
      exact ⟨x, by simpa using hx, hr⟩

theorem VRs.append {β : Bm} : ∀ {l l' m m' : List Value}, VRs β l l' → VRs β m m' → VRs β (l ++ m) (l' ++ m')
  | _, _, _, _, .nil, k => k
  | _, _, _, _, .cons h hs, k => .cons h (VRs.append hs k)

theorem VRs.take {β : Bm} : ∀ {l l' : List Value}, VRs β l l' → ∀ n, VRs β (l.take n) (l'.take n)
  | _, _, .nil, n => by simp; exact .nil
  | _, _, .cons h hs, 0 => by simp; exact .nil
  | _, _, .cons h hs, n + 1 => .cons h (VRs.take hs n)

theorem VRs.drop {β : Bm} : ∀ {l l' : List Value}, VRs β l l' → ∀ n, VRs β (l.drop n) (l'.drop n)
  | _, _, .nil, n => by simp; exact .nil
  | _, _, .cons h hs, 0 => .cons h hs
  | _, _, .cons h hs, n + 1 => VRs.drop hs n

theorem VRs.map {β : Bm} {α : Type} (f g : α → Value) (h : ∀ x, VR β (f x) (g x)) : ∀ l : List α, VRs β (l.map f) (l.map g)
  | [] => .nil
  | x :: l => .cons (h x) (VRs.map f g h l)

/-- One entry of a map. -/
structure ER (β : Bm) (e e' : MapEntry) : Prop where
  key : VR β e.key e'.key
  val : VR β e.val e'.val
  born : e.born = e'.born

inductive ERs (β : Bm) : List MapEntry → List MapEntry → Prop
  | nil : ERs β [] []
  | cons {e e' : MapEntry} {l l' : List MapEntry} (h : ER β e e') (hs : ERs β l l') : ERs β (e :: l) (e' :: l')

theorem ERs.up {β β' : Bm} (hb : BLe β β') : ∀ {l l' : List MapEntry}, ERs β l l' → ERs β' l l'
  | _, _, .nil => .nil
  | _, _, .cons h hs => .cons ⟨h.key.up hb, h.val.up hb, h.born⟩ (ERs.up hb hs)

theorem ERs.length {β : Bm} : ∀ {l l' : List MapEntry}, ERs β l l' → l'.length = l.length
  | _, _, .nil => rfl
  | _, _, .cons _ hs => by simp [ERs.length hs]

/-- No place from lo on, below sz, is frozen. -/
def FzOk (lo sz : Nat) (fz : Nat × Nat) : Prop := ∀ j, lo ≤ j → j < sz → ¬ (fz.1 ≤ j ∧ j < fz.2)
theorem FzOk.zero (lo sz : Nat) : FzOk lo sz (0, 0) := fun _ _ _ h => absurd h.2 (Nat.not_lt_zero _)

/-- What a block of the store says of the world. -/
def OR (β : Bm) (w : World) (k : Pl) : AObj → Prop
  | .cells c e => ∃ cur, (∃ fz, w.heap[k.b]? = some (.cells cur e fz) ∧ FzOk k.lo k.sz fz) ∧ (k.lo + c.length ≤ k.sz ∧ k.sz ≤ cur.size) ∧ ∀ (i : Nat) (v : Value), c[i]? = some v → ∃ u, cur[k.lo + i]? = some u ∧ VR β v u
  | .map es clock => ∃ es', w.heap[k.b]? = some (.map es' clock) ∧ ERs β es es'.toList
  | .iter s pos => k.lo = 0 ∧ w.heap[k.b]? = some (.stringIter s pos)
  | .dead => True

def AObj.live : AObj → Bool
  | .dead => false
  | _ => true

theorem OR.keep {β β' : Bm} {w w' : World} {k : Pl} {x : AObj} (h : OR β w k x) (hb : BLe β β') (hw : x.live = true → w'.heap[k.b]? = w.heap[k.b]?) : OR β' w' k x := by
  cases x with
  | cells c e =>
    obtain ⟨cur, ⟨fz, h1, hfz⟩, h2, h3⟩ := h
    refine ⟨cur, ⟨fz, by rw [hw rfl]; exact h1, hfz⟩, h2, fun i v hv => ?_⟩
    obtain ⟨u, hu, hr⟩ := h3 i v hv
    exact ⟨u, hu, hr.up hb⟩
  | map es clock =>
    obtain ⟨es', h1, h2⟩ := h
    exact ⟨es', by rw [hw rfl]; exact h1, h2.up hb⟩
  | iter s pos => exact ⟨h.1, by rw [hw rfl]; exact h.2⟩
  | dead => trivial

theorem OR.heap {β : Bm} {w : World} {k : Pl} {x : AObj} (h : OR β w k x) (hl : x.live = true) : k.b < w.heap.size := by
  have key : ∀ o, w.heap[k.b]? = some o → k.b < w.heap.size := fun o ho => (Array.getElem?_eq_some_iff.1 ho).1
  cases x with
  | cells c e => obtain ⟨cur, ⟨_, h1, _⟩, _⟩ := h; exact key _ h1
  | map es clock => obtain ⟨es', h1, _⟩ := h; exact key _ h1
  | iter s pos => exact key _ h.2
  | dead => cases hl

/-- What the store says of a world; F: since w0 nothing below R was written. -/
structure WR (P : Program) (F : Nat → World → Prop) (β : Bm) (H : FW) (w : World) : Prop where
  gl : ∀ g, g < 512 → ∃ k, β g = some k ∧ k.b = g ∧ k.lo = 0
  fresh : ∀ o, 512 ≤ o → H.heap.get o = none → β o = none
  objs : ∀ o x, H.heap.get o = some x → ∃ k, β o = some k ∧ OR β w k x
  inj : ∀ o o' x x' k k', H.heap.get o = some x → H.heap.get o' = some x' → x.live = true → x'.live = true → o ≠ o' → β o = some k → β o' = some k' → k.b ≠ k'.b
  mine : ∀ R w0, F R w0 → ∀ o x k, H.heap.get o = some x → x.live = true → R ≤ o → β o = some k → w0.heap.size ≤ k.b
  frame : ∀ R w0, F R w0 → Below w0.heap.size w0 w
  wide : ∀ o c e k, H.heap.get o = some (.cells c e) → β o = some k → k.wd = P.cellsOf e

/-! The trees. -/

theorem T.get_nil {α : Type} (n : Nat) : (T.nil : T α).get n = none := rfl
theorem T.get_zero {α : Type} (v : Option α) (l r : T α) : (T.node v l r).get 0 = v := rfl

theorem pick_rec {β : Type} (m : Nat) (a b : β) : (Bool.rec (motive := fun _ => β) a b (Nat.beq (m % 2) 0) : β) = if m % 2 = 0 then b else a := by
  by_cases h : m % 2 = 0
  · rw [if_pos h, h]; rfl
  · rw [if_neg h]
    have : Nat.beq (m % 2) 0 = false := by
      cases hb : Nat.beq (m % 2) 0 with
      | false => rfl
      | true => exact absurd (Nat.eq_of_beq_eq_true hb) h
    rw [this]

theorem T.get_succ {α : Type} (v : Option α) (l r : T α) (m : Nat) : (T.node v l r).get (m + 1) = if m % 2 = 0 then l.get (m / 2) else r.get (m / 2) := pick_rec m _ _

theorem T.one_zero {α : Type} (f : Nat) (x : α) : T.one (f + 1) 0 x = .node (some x) .nil .nil := rfl
theorem T.one_succ {α : Type} (f m : Nat) (x : α) : T.one (f + 1) (m + 1) x = if m % 2 = 0 then .node none (T.one f (m / 2) x) .nil else .node none .nil (T.one f (m / 2) x) := pick_rec m _ _

theorem T.set_zero {α : Type} (v : Option α) (l r : T α) (x : α) : (T.node v l r).set 0 x = .node (some x) l r := rfl
theorem T.set_succ {α : Type} (v : Option α) (l r : T α) (m : Nat) (x : α) : (T.node v l r).set (m + 1) x = if m % 2 = 0 then .node v (l.set (m / 2) x) r else .node v l (r.set (m / 2) x) := pick_rec m _ _

theorem T.get_one {α : Type} : ∀ (f n m : Nat) (x : α), n + 1 < 2 ^ f → (T.one f n x).get m = if m = n then some x else none
  | 0, n, m, x, h => by simp at h
  | f + 1, 0, m, x, _ => by
    rw [T.one_zero]
    cases m with
    | zero => rfl
    | succ m =>
      rw [T.get_succ, if_neg (show ¬ (m + 1 = 0) by omega)]
      split <;> rfl
  | f + 1, n + 1, m, x, h => by
    have hf : n / 2 + 1 < 2 ^ f := by rw [Nat.pow_succ] at h; omega
    rw [T.one_succ]
    cases m with
    | zero =>
      rw [if_neg (show ¬ (0 = n + 1) by omega)]
      split <;> rfl
    | succ m =>
      by_cases hn : n % 2 = 0
      · rw [if_pos hn, T.get_succ]
        by_cases hm : m % 2 = 0
        · rw [if_pos hm, T.get_one f _ _ _ hf]
          by_cases e : m = n
          · subst e; simp
          · rw [if_neg (show ¬ (m / 2 = n / 2) by omega), if_neg (show ¬ (m + 1 = n + 1) by omega)]
        · rw [if_neg hm, if_neg (show ¬ (m + 1 = n + 1) by omega)]; rfl
      · rw [if_neg hn, T.get_succ]
        by_cases hm : m % 2 = 0
        · rw [if_pos hm, if_neg (show ¬ (m + 1 = n + 1) by omega)]; rfl
        · rw [if_neg hm, T.get_one f _ _ _ hf]
          by_cases e : m = n
          · subst e; simp
          · rw [if_neg (show ¬ (m / 2 = n / 2) by omega), if_neg (show ¬ (m + 1 = n + 1) by omega)]

theorem T.get_set' {α : Type} : ∀ (t : T α) (n m : Nat) (x : α), n + 1 < 2 ^ 40 → (t.set n x).get m = if m = n then some x else t.get m
  | .nil, n, m, x, h => by
    show (T.one 40 n x).get m = _
    rw [T.get_one 40 n m x h]; rfl
  | .node v l r, 0, m, x, _ => by
    rw [T.set_zero]
    cases m with
    | zero => rfl
    | succ m => rw [T.get_succ, T.get_succ, if_neg (show ¬ (m + 1 = 0) by omega)]
  | .node v l r, n + 1, m, x, h => by
    rw [T.set_succ]
    cases m with
    | zero =>
      rw [if_neg (show ¬ (0 = n + 1) by omega), T.get_zero]
      split <;> rfl
    | succ m =>
      rw [T.get_succ]
      by_cases hn : n % 2 = 0
      · rw [if_pos hn, T.get_succ]
        by_cases hm : m % 2 = 0
        · rw [if_pos hm, if_pos hm, T.get_set' l _ _ _ (by omega)]
          by_cases e : m = n
          · subst e; simp
          · rw [if_neg (show ¬ (m / 2 = n / 2) by omega), if_neg (show ¬ (m + 1 = n + 1) by omega)]
        · rw [if_neg hm, if_neg hm, if_neg (show ¬ (m + 1 = n + 1) by omega)]
      · rw [if_neg hn, T.get_succ]
        by_cases hm : m % 2 = 0
        · rw [if_pos hm, if_pos hm, if_neg (show ¬ (m + 1 = n + 1) by omega)]
        · rw [if_neg hm, if_neg hm, T.get_set' r _ _ _ (by omega)]
          by_cases e : m = n
          · subst e; simp
          · rw [if_neg (show ¬ (m / 2 = n / 2) by omega), if_neg (show ¬ (m + 1 = n + 1) by omega)]

theorem okN_lt {n : Nat} (h : okN n = true) : n + 1 < 2 ^ 40 := by
  have : n < 1099511627770 := by simpa [okN, Nat.blt_eq] using h
  omega

theorem T.get_set {α : Type} (t : T α) {n : Nat} (m : Nat) (x : α) (h : okN n = true) : (t.set n x).get m = if m = n then some x else t.get m :=
  T.get_set' t n m x (okN_lt h)

/-! Moves of the store. -/

section
variable {P : Program} {R : Nat} {F : Nat → World → Prop} {β : Bm} {H : FW} {w : World}

theorem WR.up {w' : World} (h : WR P F β H w) (hu : Below w.heap.size w w') : WR P F β H w' :=
  ⟨h.gl, h.fresh, fun o x hx => by
    obtain ⟨k, hk, ho⟩ := h.objs o x hx
    exact ⟨k, hk, ho.keep (BLe.refl _) fun hl => hu.block k.b (ho.heap hl)⟩, h.inj, h.mine, fun R w0 hF => (h.frame R w0 hF).trans (hu.mono (h.frame R w0 hF).size), h.wide⟩

theorem WR.next {n : Nat} (h : WR P F β H w) : WR P F β ⟨H.heap, n⟩ w := ⟨h.gl, h.fresh, h.objs, h.inj, h.mine, h.frame, h.wide⟩

def bset (β : Bm) (o : Nat) (k : Pl) : Bm := fun o' => if o' = o then some k else β o'

theorem bset_same (β : Bm) (o : Nat) (k : Pl) : bset β o k o = some k := by simp [bset]
theorem bset_le {o : Nat} {k : Pl} (h : β o = none) : BLe β (bset β o k) := by
  intro o' k' hk
  unfold bset
  split
  · rename_i e; subst e; rw [h] at hk; cases hk
  · exact hk

/-- A block more: new in the world, or one that no live block of the store has. -/
theorem WR.add {w' : World} {o n : Nat} {x : AObj} {k : Pl} (h : WR P F β H w) (hn : H.heap.get o = none) (ho : okN o = true) (h5 : 512 ≤ o)
    (hu : ∀ b, b < w.heap.size → b ≠ k.b → w'.heap[b]? = w.heap[b]?) (hfr : ∀ R w0, F R w0 → Below w0.heap.size w0 w') (hk : ∀ R w0, F R w0 → w0.heap.size ≤ k.b)
    (hno : ∀ o' x' k', H.heap.get o' = some x' → x'.live = true → β o' = some k' → k'.b ≠ k.b)
    (hx : OR (bset β o k) w' k x) (hwd : ∀ c e, x = .cells c e → k.wd = P.cellsOf e) : WR P F (bset β o k) ⟨H.heap.set o x, n⟩ w' := by
  have hle : BLe β (bset β o k) := bset_le (h.fresh o h5 hn)
  have get : ∀ o', (H.heap.set o x).get o' = if o' = o then some x else H.heap.get o' := fun o' => T.get_set _ _ _ ho
  have old : ∀ o', o' ≠ o → bset β o k o' = β o' := fun o' he => by simp [bset, he]
  refine ⟨fun g hg => by rw [old g (by omega)]; exact h.gl g hg, fun o' h5' hg => ?_, fun o' y hy => ?_, ?_, ?_, hfr, fun o' c e k' hy hk' => ?_⟩
  · simp only [get] at hg
    split at hg
    · cases hg
    · rename_i e; rw [old _ e]; exact h.fresh _ h5' hg
  · simp only [get] at hy
    split at hy
    · rename_i e
      simp only [Option.some.injEq] at hy
      subst hy; subst e
      exact ⟨k, bset_same _ _ _, hx⟩
    · rename_i e
      obtain ⟨k', hk', ho'⟩ := h.objs _ _ hy
      exact ⟨k', by rw [old _ e]; exact hk', ho'.keep hle fun hl => hu _ (ho'.heap hl) (hno _ _ _ hy hl hk')⟩
  · intro o1 o2 x1 x2 k1 k2 g1 g2 l1 l2 hne hk1 hk2
    simp only [get] at g1 g2
    split at g1
    · rename_i e1
      subst e1
      rw [bset_same] at hk1
      simp only [Option.some.injEq] at hk1
      subst hk1
      split at g2
      · rename_i e2; exact absurd e2.symm hne
      · rename_i e2
        rw [old _ e2] at hk2
        exact fun e => hno _ _ _ g2 l2 hk2 e.symm
    · rename_i e1
      rw [old _ e1] at hk1
      split at g2
      · rename_i e2
        subst e2
        rw [bset_same] at hk2
        simp only [Option.some.injEq] at hk2
        subst hk2
        exact hno _ _ _ g1 l1 hk1
      · rename_i e2
        rw [old _ e2] at hk2
        exact h.inj _ _ _ _ _ _ g1 g2 l1 l2 hne hk1 hk2
  · intro R w0 hF o' y k' hg hl hR hk'
    simp only [get] at hg
    split at hg
    · rename_i e
      subst e
      rw [bset_same] at hk'
      simp only [Option.some.injEq] at hk'
      subst hk'
      exact hk R w0 hF
    · rename_i e
      rw [old _ e] at hk'
      exact h.mine R w0 hF _ _ _ hg hl hR hk'
  · simp only [get] at hy
    split at hy
    · rename_i e'
      subst e'
      rw [bset_same] at hk'
      simp only [Option.some.injEq] at hk' hy
      subst hk'
      exact hwd _ _ hy
    · rename_i e'
      rw [old _ e'] at hk'
      exact h.wide _ _ _ _ hy hk'

/-- Where a new block lies. -/
def newPl (P : Program) (w : World) : Go.Obj → Pl
  | .cells cur e _ => ⟨w.heap.size, 0, cur.size, P.cellsOf e⟩
  | _ => ⟨w.heap.size, 0, 0, 0⟩

theorem newPl_b (P : Program) (w : World) (ob : Go.Obj) : (newPl P w ob).b = w.heap.size := by cases ob <;> rfl
theorem newPl_lo (P : Program) (w : World) (ob : Go.Obj) : (newPl P w ob).lo = 0 := by cases ob <;> rfl

theorem below_alloc (w : World) (ob : Go.Obj) : Below w.heap.size w (w.alloc ob) := (Below.refl _ _).alloc (Nat.le_refl _) _

theorem WR.alloc {o n : Nat} {x : AObj} {ob : Go.Obj} (h : WR P F β H w) (hn : H.heap.get o = none) (ho : okN o = true) (h5 : 512 ≤ o)
    (hx : OR (bset β o (newPl P w ob)) (w.alloc ob) (newPl P w ob) x) (hwd : ∀ c e, x = .cells c e → (newPl P w ob).wd = P.cellsOf e) : WR P F (bset β o (newPl P w ob)) ⟨H.heap.set o x, n⟩ (w.alloc ob) ∧ BLe β (bset β o (newPl P w ob)) :=
  ⟨h.add hn ho h5 (fun b hb _ => (below_alloc w ob).block b hb) (fun R w0 hF => (h.frame R w0 hF).trans ((below_alloc w ob).mono (h.frame R w0 hF).size)) (fun R w0 hF => by rw [newPl_b]; exact (h.frame R w0 hF).size)
    (fun o' x' k' hg hl hk => by
      obtain ⟨k2, hk2, hor⟩ := h.objs o' x' hg
      rw [hk] at hk2
      simp only [Option.some.injEq] at hk2
      subst hk2
      have := hor.heap hl
      intro e
      rw [newPl_b] at e
      omega) hx hwd, bset_le (h.fresh o h5 hn)⟩

/-- A block of the store's is written. -/
theorem WR.write {w' : World} {o : Nat} {x x' : AObj} {k : Pl} (h : WR P F β H w) (hg : H.heap.get o = some x) (hl : x.live = true) (ho : okN o = true) (hR : ∀ R w0, F R w0 → R ≤ o)
    (hk : β o = some k) (hz : w'.heap.size = w.heap.size) (hu : ∀ b, b ≠ k.b → w'.heap[b]? = w.heap[b]?) (hos : w'.os = w.os) (htp : w'.tape = w.tape) (hout : w'.output = w.output)
    (hx : OR β w' k x') (hl' : x'.live = true) (hwd : ∀ c e, x' = .cells c e → k.wd = P.cellsOf e) : WR P F β (H.put o x') w' := by
  have get : ∀ o', (H.put o x').heap.get o' = if o' = o then some x' else H.heap.get o' := fun o' => T.get_set _ _ _ ho
  refine ⟨h.gl, fun o' h5' hg' => ?_, fun o' y hy => ?_, ?_, ?_, ?_, fun o' c e k' hy hk' => ?_⟩
  · rw [get] at hg'
    split at hg'
    · cases hg'
    · exact h.fresh _ h5' hg'
  · rw [get] at hy
    split at hy
    · rename_i e
      simp only [Option.some.injEq] at hy
      subst hy; subst e
      exact ⟨k, hk, hx⟩
    · rename_i e
      obtain ⟨k', hk', ho'⟩ := h.objs _ _ hy
      exact ⟨k', hk', ho'.keep (BLe.refl _) fun hl2 => hu _ (h.inj _ _ _ _ _ _ hy hg hl2 hl e hk' hk)⟩
  · intro o1 o2 x1 x2 k1 k2 g1 g2 l1 l2 hne hk1 hk2
    rw [get] at g1 g2
    have f : ∀ o1 x1, (if o1 = o then some x' else H.heap.get o1) = some x1 → x1.live = true → ∃ y, H.heap.get o1 = some y ∧ y.live = true := by
      intro o1 x1 g l
      split at g
      · rename_i e; subst e; exact ⟨x, hg, hl⟩
      · exact ⟨x1, g, l⟩
    obtain ⟨y1, q1, r1⟩ := f _ _ g1 l1
    obtain ⟨y2, q2, r2⟩ := f _ _ g2 l2
    exact h.inj _ _ _ _ _ _ q1 q2 r1 r2 hne hk1 hk2
  · intro R w0 hF o' y k' hg' hl2 hR' hk'
    rw [get] at hg'
    split at hg'
    · rename_i e; subst e; exact h.mine R w0 hF _ _ _ hg hl hR' hk'
    · exact h.mine R w0 hF _ _ _ hg' hl2 hR' hk'
  · intro R w0 hF
    have hm := h.mine R w0 hF o x k hg hl (hR R w0 hF) hk
    have h0 := h.frame R w0 hF
    refine ⟨hos.trans h0.os, htp.trans h0.tape, hout.trans h0.output, by rw [hz]; exact h0.size, fun b hb => ?_⟩
    rw [hu b (by omega)]
    exact h0.block b hb
  · rw [get] at hy
    split at hy
    · rename_i e'
      subst e'
      rw [hk] at hk'
      simp only [Option.some.injEq] at hk' hy
      subst hk'
      exact hwd _ _ hy
    · exact h.wide _ _ _ _ hy hk'

/-- A block of the store's is no more. -/
theorem WR.kill {o : Nat} (h : WR P F β H w) (hg : (H.heap.get o).isSome = true) (ho : okN o = true) : WR P F β (H.put o .dead) w := by
  have get : ∀ o', (H.put o .dead).heap.get o' = if o' = o then some .dead else H.heap.get o' := fun o' => T.get_set _ _ _ ho
  have f : ∀ o1 x1, (H.put o .dead).heap.get o1 = some x1 → x1.live = true → H.heap.get o1 = some x1 := by
    intro o1 x1 g l
    rw [get] at g
    split at g
    · simp only [Option.some.injEq] at g; subst g; cases l
    · exact g
  refine ⟨h.gl, fun o' h5' hg' => ?_, fun o' y hy => ?_, fun o1 o2 x1 x2 k1 k2 g1 g2 l1 l2 => h.inj _ _ _ _ _ _ (f _ _ g1 l1) (f _ _ g2 l2) l1 l2,
    fun R w0 hF o' y k' g l => h.mine R w0 hF _ _ _ (f _ _ g l) l, h.frame, fun o' c e k' g => h.wide _ _ _ _ (f _ _ g rfl)⟩
  · rw [get] at hg'
    split at hg'
    · cases hg'
    · exact h.fresh _ h5' hg'
  · rw [get] at hy
    split at hy
    · rename_i e
      simp only [Option.some.injEq] at hy
      subst hy; subst e
      obtain ⟨x, hx⟩ := Option.isSome_iff_exists.1 hg
      obtain ⟨k, hk, _⟩ := h.objs _ _ hx
      exact ⟨k, hk, trivial⟩
    · exact h.objs _ _ hy

end
end Go.Am

set_option linter.unusedVariables false
set_option linter.unusedSimpArgs false
namespace Go.Am
open Go.RowKit

/-- A computation gives a value of which v says the truth, the same one in each world that has more blocks (q: in each world), and leaves the world as it is. -/
def Sees (P : Program) (q : Bool) (s : Sem Value) (β : Bm) (w : World) (v : Value) : Prop :=
  ∃ u, (∀ w', q = true ∨ Below w.heap.size w w' → s.run P w' = .ok u w') ∧ VR β v u

section
variable {P : Program} {R : Nat} {F : Nat → World → Prop} {β : Bm} {H : FW} {w : World} {q : Bool}

theorem some_of_cond {α : Type} {b : Bool} {x : Option α} {y : α} (h : (bif b then x else none) = some y) : b = true ∧ x = some y := by
  cases b <;> simp_all

theorem Sees.just {u v : Value} {s : Sem Value} (h : ∀ w', s.run P w' = .ok u w') (hv : VR β v u) : Sees P q s β w v := ⟨u, fun w' _ => h w', hv⟩

theorem info_of_underlying {t : TypeId} {d : TypeDesc} (h : P.underlying t = some d) : ∃ i, P.info? t = some i := by
  unfold Program.underlying at h
  cases hi : P.info? t with
  | none => simp [hi] at h
  | some i => exact ⟨i, rfl⟩

theorem run_isAgg {t : TypeId} {d : TypeDesc} (h : P.underlying t = some d) (w : World) : (isAgg t).run P w = .ok (aggT P t) w := by
  unfold isAgg aggT
  rw [Sem.run_bind, run_underlying h, Result.andThen_ok, h]
  cases d <;> rfl

theorem run_typeInfo' {t : TypeId} {i : TypeInfo} (h : P.info? t = some i) (w : World) : (typeInfo t).run P w = .ok i w := by
  unfold typeInfo
  rw [Sem.run_bind, run_program, Result.andThen_ok, h]
  rfl

theorem run_sizeOf' {t : TypeId} {i : TypeInfo} (h : P.info? t = some i) (w : World) : (sizeOf t).run P w = .ok i.size w := by
  unfold sizeOf
  rw [Sem.run_bind, run_typeInfo' h]
  rfl

theorem cellsOf_eq {t : TypeId} {i : TypeInfo} (h : P.info? t = some i) : P.cellsOf t = i.size := by
  unfold Program.cellsOf
  rw [h]; rfl

theorem add_lit (b o n : Nat) : (⟨b, o, none⟩ : Addr).add n = ⟨b, o + n, none⟩ := by
  unfold Addr.add
  split
  · rename_i h; subst h; rfl
  · rfl

theorem run_loadAt {t : TypeId} {d : TypeDesc} (h : P.underlying t = some d) (a : Addr) (w : World) :
    (Instr.loadAt t (.pointer (some a))).run P w =
      if aggT P t = true then ((loadCells a (P.cellsOf t)).run P w).andThen fun vs w' => .ok (.agg vs) w' else (load a).run P w := by
  obtain ⟨i, hi⟩ := info_of_underlying h
  unfold Instr.loadAt Instr.sureAddr loadVar
  simp only [pure_bind]
  rw [Sem.run_bind, run_isAgg h, Result.andThen_ok]
  split
  · rw [Sem.run_bind, run_sizeOf' hi, Result.andThen_ok, Sem.run_bind, cellsOf_eq hi]
    rfl
  · rfl

theorem cell_of_heap {b j : Nat} {cs : Array Value} {t : TypeId} {fr : Nat × Nat} (h : w.heap[b]? = some (.cells cs t fr)) :
    w.cell? ⟨b, j, none⟩ = cs[j]? := by
  simp [World.cell?, h]

/-- A block of the store's: what it says of the world. -/
theorem WR.block (h : WR P F β H w) {o : Nat} {c : List Value} {e : TypeId} (hc : H.cells o = some (c, e)) :
    ∃ k cur, β o = some k ∧ H.heap.get o = some (.cells c e) ∧ (∃ fz, w.heap[k.b]? = some (.cells cur e fz) ∧ FzOk k.lo k.sz fz) ∧ (k.lo + c.length ≤ k.sz ∧ k.sz ≤ cur.size) ∧
      ∀ (i : Nat) (v : Value), c[i]? = some v → ∃ u, cur[k.lo + i]? = some u ∧ VR β v u := by
  unfold FW.cells at hc
  cases hg : H.heap.get o with
  | none => simp [hg] at hc
  | some x =>
    obtain ⟨k, hk, ho⟩ := h.objs _ _ hg
    cases x with
    | cells c' e' =>
      simp only [hg, Option.some.injEq, Prod.mk.injEq] at hc
      obtain ⟨rfl, rfl⟩ := hc
      obtain ⟨cur, h1, h2, h3⟩ := ho
      exact ⟨k, cur, hk, rfl, h1, h2, h3⟩
    | _ => simp [hg] at hc

theorem Below.cell' {w w' : World} (h : Below w.heap.size w w') {a : Addr} {v : Value} (hc : w.cell? a = some v) : w'.cell? a = some v :=
  (Below.cell h (block_lt_of_cell hc)).trans hc

/-- One cell. -/
theorem WR.cell (h : WR P F β H w) {o i : Nat} {k : Pl} {v : Value} (hk : β o = some k) (hc : H.cell ⟨o, i, none⟩ = some v) :
    ∃ u, w.cell? ⟨k.b, k.lo + i, none⟩ = some u ∧ VR β v u := by
  unfold FW.cell at hc
  simp only at hc
  cases hb : H.cells o with
  | none => simp [hb] at hc
  | some p =>
    obtain ⟨c, e⟩ := p
    rw [hb] at hc
    obtain ⟨k', cur, hk', _, ⟨fz, h1, hfz⟩, h2, h3⟩ := h.block hb
    rw [hk] at hk'
    simp only [Option.some.injEq] at hk'
    subst hk'
    obtain ⟨u, hu, hr⟩ := h3 _ _ hc
    exact ⟨u, by rw [cell_of_heap h1]; exact hu, hr⟩

/-- Cells one behind the other. -/
theorem WR.row (h : WR P F β H w) {o i n : Nat} {k : Pl} {l : List Value} (hk : β o = some k) (hc : H.row ⟨o, i, none⟩ n = some l) :
    ∃ us : List Value, VRs β l us ∧ l.length = n ∧ (∀ j, j < n → ∃ u, w.cell? ⟨k.b, k.lo + i + j, none⟩ = some u ∧ us[j]? = some u) := by
  unfold FW.row at hc
  simp only at hc
  cases hb : H.cells o with
  | none => simp [hb] at hc
  | some p =>
    obtain ⟨c, e⟩ := p
    rw [hb] at hc
    obtain ⟨hle, hc⟩ := some_of_cond hc
    have hle := Nat.le_of_ble_eq_true hle
    simp only [Option.some.injEq] at hc
    subst hc
    obtain ⟨k', cur, hk', _, ⟨fz, h1, hfz⟩, h2, h3⟩ := h.block hb
    rw [hk] at hk'
    simp only [Option.some.injEq] at hk'
    subst hk'
    have hcell : ∀ j, j < n → ∃ v u, c[i + j]? = some v ∧ cur[k.lo + (i + j)]? = some u ∧ VR β v u := by
      intro j hj
      have hlt : i + j < c.length := by omega
      obtain ⟨u, hu, hr⟩ := h3 (i + j) _ (List.getElem?_eq_getElem hlt)
      exact ⟨_, u, List.getElem?_eq_getElem hlt, hu, hr⟩
    refine ⟨(cur.toList.drop (k.lo + i)).take n, VRs.of_get ?_ ?_, ?_, ?_⟩
    · simp only [List.length_take, List.length_drop, Array.length_toList]; omega
    · intro j v hv
      rw [List.getElem?_take] at hv ⊢
      split at hv
      · rename_i hj
        rw [List.getElem?_drop] at hv ⊢
        obtain ⟨v', u, hv', hu, hr⟩ := hcell j hj
        rw [hv] at hv'
        simp only [Option.some.injEq] at hv'
        subst hv'
        refine ⟨u, ?_, hr⟩
        rw [if_pos hj, ← hu, Array.getElem?_toList, Nat.add_assoc]
      · cases hv
    · simp only [List.length_take, List.length_drop]; omega
    · intro j hj
      obtain ⟨v', u, hv', hu, hr⟩ := hcell j hj
      refine ⟨u, by rw [cell_of_heap h1, ← hu, Nat.add_assoc], ?_⟩
      rw [List.getElem?_take, if_pos hj, List.getElem?_drop, Array.getElem?_toList, ← hu, Nat.add_assoc]

theorem list_of_cells {n : Nat} {us : List Value} (hl : us.length = n) (f : Nat → Value) (h : ∀ j, j < n → us[j]? = some (f j)) : (List.range n).map f = us := by
  apply List.ext_getElem?
  intro j
  rw [List.getElem?_map]
  rcases Nat.lt_or_ge j n with hj | hj
  · rw [List.getElem?_range hj, h j hj]; rfl
  · rw [List.getElem?_eq_none (by simpa using hj), List.getElem?_eq_none (by omega)]; rfl

/-- Cells one behind the other, read at one go. -/
theorem WR.loads (h : WR P F β H w) {o i n : Nat} {k : Pl} {l : List Value} (hk : β o = some k) (hc : H.row ⟨o, i, none⟩ n = some l) :
    ∃ us : List Value, VRs β l us ∧ us.length = n ∧ ∀ w', Below w.heap.size w w' → (loadCells ⟨k.b, k.lo + i, none⟩ n).run P w' = .ok us.toArray w' := by
  obtain ⟨us, h1, h2, h3⟩ := h.row hk hc
  have hl : us.length = n := by rw [h1.length, h2]
  refine ⟨us, h1, hl, fun w' hw' => ?_⟩
  let f : Nat → Value := fun j => us.getD j undef
  have hf : (List.range n).map f = us := list_of_cells hl f fun j hj => by
    obtain ⟨u, _, hu⟩ := h3 j hj
    simp [f, List.getD, hu]
  rw [← hf]
  refine run_loadCells w' _ n f fun j hj => ?_
  obtain ⟨u, hc, hu⟩ := h3 j hj
  rw [add_lit, Below.cell' hw' hc]
  simp [f, List.getD, hu]

theorem loadA_sound (h : WR P F β H w) {t : TypeId} {x x' v : Value} (hx : VR β x x') (he : loadA P t x H = some v) : Sees P false (Instr.loadAt t x') β w v := by
  unfold loadA at he
  split at he
  · rename_i a
    obtain ⟨hs, he⟩ := some_of_cond he
    obtain ⟨d, hd⟩ := Option.isSome_iff_exists.1 hs
    cases hx with
    | ptr hk =>
      rename_i o i k
      cases hag : aggT P t with
      | true =>
        rw [hag, cond_true] at he
        split at he
        · rename_i l hl
          simp only [Option.some.injEq] at he
          subst he
          obtain ⟨us, h1, h2, h3⟩ := h.loads (P := P) hk hl
          refine ⟨.agg us.toArray, fun w' hw' => ?_, .agg h1⟩
          rw [run_loadAt hd, if_pos hag, h3 w' (hw'.resolve_left (by simp)), Result.andThen_ok]
        · cases he
      | false =>
        rw [hag, cond_false] at he
        obtain ⟨u, hu, hr⟩ := h.cell hk he
        refine ⟨u, fun w' hw' => ?_, hr⟩
        rw [run_loadAt hd, if_neg (by simp [hag]), run_load, Below.cell' (hw'.resolve_left (by simp)) hu]
  · cases he

theorem wrap_small {n : Int} (k : IntKind) (hk : k = .i64) (h0 : -9223372036854775808 ≤ n) (h1 : n < 9223372036854775808) : k.wrap n = n := by
  subst hk
  have e1 : ((2 : Int) ^ IntKind.i64.bits) = 18446744073709551616 := by decide
  have e2 : ((2 : Int) ^ (IntKind.i64.bits - 1)) = 9223372036854775808 := by decide
  simp only [IntKind.wrap, e1, e2, IntKind.signed, Bool.true_and, ge_iff_le, decide_eq_true_eq]
  split <;> omega

theorem wrapF_eq (k : IntKind) (n : Int) : wrapF k n = k.wrap n := by
  unfold wrapF
  cases k with
  | i64 =>
    cases n with
    | ofNat m =>
      simp only
      cases hb : Nat.blt m 9223372036854775808 with
      | true =>
        have : m < 9223372036854775808 := by simpa [Nat.blt_eq] using hb
        rw [cond_true, wrap_small _ rfl (by show (-9223372036854775808 : Int) ≤ ((m : Nat) : Int); omega) (by show ((m : Nat) : Int) < 9223372036854775808; omega)]
      | false => rfl
    | negSucc m =>
      simp only
      cases hb : Nat.blt m 9223372036854775808 with
      | true =>
        have : m < 9223372036854775808 := by simpa [Nat.blt_eq] using hb
        show Int.negSucc m = _
        rw [wrap_small _ rfl (by rw [Int.negSucc_eq]; omega) (by rw [Int.negSucc_eq]; omega)]
      | false => rw [cond_false]
  | u64 =>
    cases n with
    | ofNat m =>
      have e1 : ((2 : Int) ^ IntKind.u64.bits) = 18446744073709551616 := by decide
      simp only [IntKind.wrap, e1, IntKind.signed, Bool.false_and, Bool.false_eq_true, if_false]
      rfl
    | negSucc m => rfl
  | u8 =>
    cases n with
    | ofNat m =>
      have e1 : ((2 : Int) ^ IntKind.u8.bits) = 256 := by decide
      simp only [IntKind.wrap, e1, IntKind.signed, Bool.false_and, Bool.false_eq_true, if_false]
      rfl
    | negSucc m => rfl
  | _ => rfl

theorem intA_sound {op : BinOp} {t : TypeId} {k k' : IntKind} {a b : Int} {v : Value} (h : intA op k a k' b = some v) :
    (∀ w, (binOp op t (.int k a) (.int k' b)).run P w = .ok v w) ∧ VR β v v := by
  unfold intA at h
  have hs : ∀ (y : Int), decide (0 ≤ y) = true → ¬ y < 0 := by intro y hy; simp at hy; omega
  cases op <;> simp only [] at h
  case shl =>
    obtain ⟨hb, h⟩ := some_of_cond h
    simp only [Option.some.injEq] at h
    subst h
    refine ⟨fun w => ?_, .int _ _⟩
    simp only [binOp, Op.shift]
    rw [if_neg (hs b hb)]
    rfl
  case shr =>
    obtain ⟨hb, h⟩ := some_of_cond h
    simp only [Option.some.injEq] at h
    subst h
    refine ⟨fun w => ?_, .int _ _⟩
    simp only [binOp, Op.shift]
    rw [if_neg (hs b hb)]
    rfl
  all_goals
    have h2 := some_of_cond h
    clear h
    obtain ⟨hk, h⟩ := h2
    have hk : k = k' := by simpa using hk
    subst hk
  case quo =>
    cases hb : decide (b = 0) with
    | true => rw [hb] at h; cases h
    | false =>
      rw [hb, cond_false, wrapF_eq] at h
      simp only [Option.some.injEq] at h
      subst h
      refine ⟨fun w => ?_, .int _ _⟩
      simp only [binOp, ne_eq, not_true_eq_false, if_false, Op.intDiv]
      rw [if_neg (by simpa using hb)]
      rfl
  case rem =>
    cases hb : decide (b = 0) with
    | true => rw [hb] at h; cases h
    | false =>
      rw [hb, cond_false] at h
      simp only [Option.some.injEq] at h
      subst h
      refine ⟨fun w => ?_, .int _ _⟩
      simp only [binOp, ne_eq, not_true_eq_false, if_false, Op.intDiv]
      rw [if_neg (by simpa using hb)]
      rfl
  all_goals
    simp only [restI, cmpI, bitsI, wrapF_eq, Option.some.injEq] at h
    subst h
    refine ⟨fun w => ?_, ?_⟩
    · simp only [binOp, ne_eq, not_true_eq_false, if_false]; rfl
    · first | exact .int _ _ | exact .bool _

theorem strA_sound {op : BinOp} {t : TypeId} {a b : ByteArray} {v : Value} (h : strA op a.data.toList b.data.toList = some v) :
    (∀ w, (binOp op t (.string a) (.string b)).run P w = .ok v w) ∧ VR β v v := by
  have e1 : a.toList = a.data.toList := ByteArray.toList_eq a
  have e2 : b.toList = b.data.toList := ByteArray.toList_eq b
  unfold strA at h
  cases op <;> simp only [Option.some.injEq, reduceCtorEq] at h
  case add =>
    obtain ⟨hr, h⟩ := some_of_cond h
    have hr := Nat.le_of_ble_eq_true hr
    simp only [Option.some.injEq] at h
    subst h
    refine ⟨fun w => ?_, .string _⟩
    have z1 : a.size = a.data.toList.length := rfl
    have z2 : b.size = b.data.toList.length := rfl
    simp only [binOp, Op.stringOp]
    rw [if_neg ?_]
    · have : a ++ b = ⟨⟨a.data.toList ++ b.data.toList⟩⟩ := by
        apply ByteArray.ext
        apply Array.ext'
        simp
      rw [this]; rfl
    · rw [z1, z2]
      have : IntKind.i64.max = 9223372036854775807 := by decide
      rw [this]
      omega
  all_goals
    subst h
    refine ⟨fun w => ?_, .bool _⟩
    simp only [binOp, Op.stringOp, e1, e2]
    rfl

end
end Go.Am

set_option linter.unusedVariables false
set_option linter.unusedSimpArgs false
namespace Go.Am
open Go.RowKit
section
variable {P : Program} {R : Nat} {F : Nat → World → Prop} {β : Bm} {H : FW} {w : World} {q : Bool}

theorem VR.ptr_inv {a : Addr} {x' : Value} (h : VR β (.pointer (some a)) x') : ∃ k, a.spot = none ∧ β a.block = some k ∧ x' = .pointer (some ⟨k.b, k.lo + a.off, none⟩) := by
  cases h with
  | ptr hk => exact ⟨_, rfl, hk, rfl⟩

theorem VR.sl_inv {a : Addr} {n c : Nat} {x' : Value} (h : VR β (.slice (some a) n c) x') :
    (∃ k cap, a.spot = none ∧ β a.block = some k ∧ n ≤ cap ∧ c / 2 ≤ cap ∧ (c % 2 = 0 → c / 2 = cap) ∧ 2 * n ≤ c ∧ cap ≤ maxLen ∧ x' = .slice (some ⟨k.b, k.lo + a.off, none⟩) n cap) ∨
    (n = 0 ∧ c = 1 ∧ ∃ b j cap, x' = .slice (some ⟨b, j, none⟩) 0 cap) := by
  cases h with
  | sl h hn hc he h2 hm hr => exact .inl ⟨_, _, rfl, h, hn, hc, he, h2, hm, rfl⟩
  | s1 => exact .inr ⟨rfl, rfl, _, _, _, rfl⟩

theorem VR.sl_inv2 {a : Addr} {n c : Nat} {x' : Value} (h : VR β (.slice (some a) n c) x') :
    (∃ k cap, a.spot = none ∧ β a.block = some k ∧ n ≤ cap ∧ c / 2 ≤ cap ∧ (c % 2 = 0 → c / 2 = cap) ∧ 2 * n ≤ c ∧ cap ≤ maxLen ∧ (c % 2 = 1 → k.lo + a.off + cap * k.wd ≤ k.sz) ∧ x' = .slice (some ⟨k.b, k.lo + a.off, none⟩) n cap) ∨
    (n = 0 ∧ c = 1 ∧ ∃ b j cap, x' = .slice (some ⟨b, j, none⟩) 0 cap) := by
  cases h with
  | sl h hn hc he h2 hm hr => exact .inl ⟨_, _, rfl, h, hn, hc, he, h2, hm, hr, rfl⟩
  | s1 => exact .inr ⟨rfl, rfl, _, _, _, rfl⟩

/-- The fields' part of the test. -/
def eqFs (P : Program) (f : TypeId → Value → Value → Option Bool) (xs ys : List Value) (fs : List Field) : Option Bool :=
  fs.foldr (fun fd r => bif !(fd.name == "_") then
          (bif someT P fd.type && !aggT P fd.type then
            (match xs[fd.offset]?, ys[fd.offset]? with
            | some a, some b => (match f fd.type a b with
              | some true => r
              | some false => some false
              | none => none)
            | _, _ => none)
          else none)
        else r) (some true)

theorem run_part {t : TypeId} {d : TypeDesc} (h : P.underlying t = some d) (hag : aggT P t = false) {cs : List Value} {off : Nat} {v : Value} (hv : cs[off]? = some v) (w : World) :
    (part t ⟨cs⟩ off).run P w = .ok v w := by
  unfold part
  rw [Sem.run_bind, run_isAgg h, Result.andThen_ok, if_neg (by simp [hag])]
  have : (⟨cs⟩ : Array Value)[off]? = some v := by simpa using hv
  rw [this]; rfl

theorem eqFs_sound {f : TypeId → Value → Value → Option Bool} {D : Nat} (hf : ∀ t x y x' y' r, f t x y = some r → VR β x x' → VR β y y' → ∀ w, (Op.equalIn D t x' y').run P w = .ok r w)
    {xs ys xs' ys' : List Value} (hx : VRs β xs xs') (hy : VRs β ys ys') : ∀ {fs : List Field} {r : Bool}, eqFs P f xs ys fs = some r → ∀ w, (Op.eqFields D ⟨xs'⟩ ⟨ys'⟩ fs).run P w = .ok r w
  | [], r, h, w => by
    simp only [eqFs, List.foldr_nil, Option.some.injEq] at h
    subst h
    rfl
  | fd :: fs, r, h, w => by
    unfold eqFs at h
    rw [List.foldr_cons] at h
    unfold Op.eqFields
    cases hn : (fd.name == "_") with
    | true =>
      rw [hn] at h
      have hne : ¬ (fd.name ≠ "_") := by simpa using hn
      rw [if_neg hne]
      exact eqFs_sound hf hx hy h w
    | false =>
      rw [hn] at h
      simp only [Bool.not_false, cond_true] at h
      have hne : fd.name ≠ "_" := by simpa using hn
      rw [if_pos hne]
      obtain ⟨hg, h⟩ := some_of_cond h
      simp only [Bool.and_eq_true, Bool.not_eq_true'] at hg
      obtain ⟨d, hd⟩ := Option.isSome_iff_exists.1 hg.1
      cases ha : xs[fd.offset]? with
      | none => simp [ha] at h
      | some a =>
        cases hb : ys[fd.offset]? with
        | none => simp [ha, hb] at h
        | some b =>
          rw [ha, hb] at h
          simp only at h
          obtain ⟨a', ha', hra⟩ := hx.get ha
          obtain ⟨b', hb', hrb⟩ := hy.get hb
          cases he : f fd.type a b with
          | none => rw [he] at h; cases h
          | some e =>
            rw [he] at h
            rw [Sem.run_bind, run_part hd hg.2 ha', Result.andThen_ok, Sem.run_bind, run_part hd hg.2 hb', Result.andThen_ok, Sem.run_bind, hf _ _ _ _ _ _ he hra hrb, Result.andThen_ok]
            cases e with
            | true =>
              simp only [Bool.not_true, Bool.false_eq_true, if_false]
              exact eqFs_sound hf hx hy h w
            | false =>
              simp only [Option.some.injEq] at h
              subst h
              rfl

theorem eqA_sound : ∀ (d n : Nat) {t : TypeId} {x y x' y' : Value} {r : Bool}, eqA P d t x y = some r → VR β x x' → VR β y y' → ∀ w, (Op.equalIn (d + n) t x' y').run P w = .ok r w
  | 0, _, _, _, _, _, _, _, h, _, _, _ => by cases h
  | d + 1, n, t, x, y, x', y', r, h, hx, hy, w => by
    have ih : ∀ (t : TypeId) (x y x' y' : Value) (r : Bool), eqA P d t x y = some r → VR β x x' → VR β y y' → ∀ w, (Op.equalIn (d + n) t x' y').run P w = .ok r w := fun t x y x' y' r h hx hy w => eqA_sound d n h hx hy w
    rw [show d + 1 + n = (d + n) + 1 by omega]
    unfold eqA at h
    split at h
    · rename_i a b hu
      cases hx; cases hy
      simp only [Option.some.injEq] at h; subst h
      unfold Op.equalIn; rw [Sem.run_bind, run_underlying hu]; rfl
    · rename_i k0 k a k' b hu
      cases hx; cases hy
      have h2 := some_of_cond h
      clear h
      obtain ⟨hk, h⟩ := h2
      have hk : k = k' := by simpa using hk
      subst hk
      simp only [Option.some.injEq] at h; subst h
      unfold Op.equalIn; rw [Sem.run_bind, run_underlying hu]
      simp only [Result.andThen_ok, if_true]
      show Result.ok (a == b) w = _
      congr 1
    · rename_i a b hu
      cases hx; cases hy
      simp only [Option.some.injEq] at h; subst h
      rw [run_equalIn_string _ _ _ _ _ hu, ByteArray.toList_eq, ByteArray.toList_eq]
    · rename_i e b hu
      simp only [Option.some.injEq] at h; subst h
      cases hx
      unfold Op.equalIn; rw [Sem.run_bind, run_underlying hu]
      cases hy <;> rfl
    · rename_i e a hu
      simp only [Option.some.injEq] at h; subst h
      cases hx; cases hy
      unfold Op.equalIn; rw [Sem.run_bind, run_underlying hu]; rfl
    · rename_i e a b hu
      obtain ⟨hg, h⟩ := some_of_cond h
      simp only [Bool.and_eq_true] at hg
      obtain ⟨hb, _, _, hs⟩ := hg
      have hb := Nat.eq_of_beq_eq_true hb
      simp only [Option.some.injEq] at h; subst h
      obtain ⟨k, _, hk1, rfl⟩ := hx.ptr_inv
      obtain ⟨k', _, hk2, rfl⟩ := hy.ptr_inv
      rw [hb, hk2] at hk1
      simp only [Option.some.injEq] at hk1
      subst hk1
      cases hi : P.info? e with
      | none => rw [hi] at hs; cases hs
      | some ei =>
        rw [hi] at hs
        have hpos : 0 < ei.size := by simpa [Nat.blt_eq] using hs
        unfold Op.equalIn; rw [Sem.run_bind, run_underlying hu, Result.andThen_ok]
        simp only
        rw [Sem.run_bind, run_sizeOf' hi, Result.andThen_ok, if_pos (by omega)]
        unfold sameAddr
        simp only [beq_self_eq_true, if_true]
        show Result.ok _ w = _
        congr 1
        by_cases hij : a.off = b.off
        · rw [hij]; simp
        · have h1 : Nat.beq a.off b.off = false := by
            cases hbb : Nat.beq a.off b.off with
            | false => rfl
            | true => exact absurd (Nat.eq_of_beq_eq_true hbb) hij
          rw [h1, beq_eq_false_iff_ne]
          intro he
          simp only [Addr.mk.injEq] at he
          omega
    · rename_i ms hu
      simp only [Option.some.injEq] at h; subst h
      cases hx; cases hy
      unfold Op.equalIn; rw [Sem.run_bind, run_underlying hu]; rfl
    · rename_i ms tt vv hu
      simp only [Option.some.injEq] at h; subst h
      cases hx; cases hy
      unfold Op.equalIn; rw [Sem.run_bind, run_underlying hu]; rfl
    · rename_i ms tt vv hu
      simp only [Option.some.injEq] at h; subst h
      cases hx; cases hy
      unfold Op.equalIn; rw [Sem.run_bind, run_underlying hu]; rfl
    · rename_i ms tx vx ty vy hu
      cases hx with
      | iface hvx =>
        cases hy with
        | iface hvy =>
          unfold Op.equalIn; rw [Sem.run_bind, run_underlying hu, Result.andThen_ok]
          simp only
          cases hb : Nat.beq tx ty with
          | true =>
            have hb := Nat.eq_of_beq_eq_true hb
            subst hb
            rw [hb, cond_true] at h
            cases hi : P.info? tx with
            | none => rw [hi] at h; cases h
            | some i =>
              rw [hi] at h
              obtain ⟨hcmp, h⟩ := some_of_cond h
              rw [if_neg (by simp), Sem.run_bind, run_typeInfo' hi, Result.andThen_ok]
              simp only [hcmp, Bool.not_true, Bool.false_eq_true, if_false]
              exact ih _ _ _ _ _ _ h hvx hvy w
          | false =>
            rw [hb, cond_false] at h
            simp only [Option.some.injEq] at h; subst h
            have hne : tx ≠ ty := by
              intro e; subst e
              simp at hb
            rw [if_pos hne]; rfl
    · rename_i e n1 c1 b n2 c2 hu
      simp only [Option.some.injEq] at h; subst h
      cases hx
      unfold Op.equalIn; rw [Sem.run_bind, run_underlying hu]
      cases hy <;> rfl
    · rename_i e a n1 c1 n2 c2 hu
      simp only [Option.some.injEq] at h; subst h
      unfold Op.equalIn; rw [Sem.run_bind, run_underlying hu]
      cases hx <;> cases hy <;> rfl
    · rename_i kt et b hu
      simp only [Option.some.injEq] at h; subst h
      cases hx
      unfold Op.equalIn; rw [Sem.run_bind, run_underlying hu]
      cases hy <;> rfl
    · rename_i kt et a hu
      simp only [Option.some.injEq] at h; subst h
      unfold Op.equalIn; rw [Sem.run_bind, run_underlying hu]
      cases hx; cases hy; rfl
    · rename_i hu
      simp only [Option.some.injEq] at h; subst h
      unfold Op.equalIn; rw [Sem.run_bind, run_underlying hu]
      cases hx; cases hy; rfl
    · rename_i hu
      simp only [Option.some.injEq] at h; subst h
      unfold Op.equalIn; rw [Sem.run_bind, run_underlying hu]
      cases hx; cases hy; rfl
    · rename_i hu
      simp only [Option.some.injEq] at h; subst h
      unfold Op.equalIn; rw [Sem.run_bind, run_underlying hu]
      cases hx; cases hy; rfl
    · rename_i fs xs ys hu
      obtain ⟨hg, h⟩ := some_of_cond h
      simp only [Bool.not_eq_true'] at hg
      have hfs : P.fieldsOf t = fs := by unfold Program.fieldsOf; rw [hu]
      cases hx with
      | agg hxl =>
        cases hy with
        | agg hyl =>
          rw [run_equalIn_struct w (d + n) t _ _ (by rw [hfs]; exact hu) hg, hfs]
          exact eqFs_sound (D := d + n) ih hxl hyl h w
    · cases h

theorem eqGuard_run {op : BinOp} {t : TypeId} {p q : Operand} {x y x' y' : Value} (hg : guardA P t p q x y = true) (hx : VR β x x') (hy : VR β y y')
    (hnx : x ≠ bot) (hny : y ≠ bot) (w : World) : (eqGuard op t p q x' y').run P w = .ok () w := by
  by_cases h1 : x' = .nilIface ∧ y' = .nilIface
  · obtain ⟨rfl, rfl⟩ := h1
    cases hx with
    | any => exact absurd rfl hnx
    | nilIface =>
      cases hy with
      | any => exact absurd rfl hny
      | nilIface =>
        have hg : (isConst p || isConst q) = true := hg
        unfold eqGuard
        cases p <;> cases q <;> simp [isConst] at hg <;> cases op <;> rfl
  · by_cases h2 : ∃ l m, x' = .agg l ∧ y' = .agg m
    · obtain ⟨l, m, rfl, rfl⟩ := h2
      cases hx with
      | any => exact absurd rfl hnx
      | agg hl =>
        cases hy with
        | any => exact absurd rfl hny
        | agg hm =>
          have hg : (!P.eqGuardType P.depth t) = true := hg
          exact run_eqGuard_agg w op t p q _ _ (by simpa using hg)
    · unfold eqGuard
      cases x' <;> cases y' <;> first | (cases op <;> rfl) | exact absurd ⟨rfl, rfl⟩ h1 | exact absurd ⟨_, _, rfl, rfl⟩ h2

theorem run_eqGuard_int (op : BinOp) (t : TypeId) (x y : Operand) (k k' : IntKind) (a b : Int) (w : World) : (eqGuard op t x y (.int k a) (.int k' b)).run P w = .ok () w := by
  unfold eqGuard
  cases op <;> rfl

theorem run_eqGuard_str (op : BinOp) (t : TypeId) (x y : Operand) (a b : ByteArray) (w : World) : (eqGuard op t x y (.string a) (.string b)).run P w = .ok () w := by
  unfold eqGuard
  cases op <;> rfl

theorem eqA_bot {d : Nat} {t : TypeId} {x y : Value} {r : Bool} (h : eqA P d t x y = some r) : x ≠ bot ∧ y ≠ bot := by
  cases d with
  | zero => cases h
  | succ d =>
    unfold eqA at h
    refine ⟨fun e => ?_, fun e => ?_⟩
    · subst e
      unfold bot at h
      split at h <;> first | contradiction | cases h
    · subst e
      unfold bot at h
      split at h <;> first | contradiction | cases h

theorem binA_sound {op : BinOp} {t : TypeId} {p q : Operand} {x y x' y' v : Value} (hx : VR β x x') (hy : VR β y y') (h : binA P op t p q x y = some v) :
    ∃ u, (∀ w, (do eqGuard op t p q x' y'; binOp op t x' y' : Sem Value).run P w = .ok u w) ∧ VR β v u := by
  unfold binA at h
  split at h
  · cases hx; cases hy
    obtain ⟨h1, h2⟩ := intA_sound (P := P) (β := β) (t := t) h
    exact ⟨v, fun w => by rw [Sem.run_bind, run_eqGuard_int, Result.andThen_ok, h1], h2⟩
  · cases hx; cases hy
    obtain ⟨h1, h2⟩ := strA_sound (P := P) (β := β) (t := t) h
    exact ⟨v, fun w => by rw [Sem.run_bind, run_eqGuard_str, Result.andThen_ok, h1], h2⟩
  · rename_i hni hns
    have hbin : ∀ (r : Bool), eqlA P t p q x y = some r → (op = .eql ∨ op = .neq) → ∀ w, (do eqGuard op t p q x' y'; binOp op t x' y' : Sem Value).run P w = .ok (.bool (if op = .eql then r else !r)) w := by
      intro r he hop w
      unfold eqlA at he
      obtain ⟨hg, he⟩ := some_of_cond he
      obtain ⟨n1, n2⟩ := eqA_bot he
      have hrun := eqA_sound (β := β) 5 9995 he hx hy w
      have heq : (Op.equal t x' y').run P w = .ok r w := hrun
      rw [Sem.run_bind, eqGuard_run hg hx hy n1 n2, Result.andThen_ok]
      have hb1 : (op = .eql → binOp op t x' y' = (do pure (.bool (← Op.equal t x' y')))) ∧ (op = .neq → binOp op t x' y' = (do pure (.bool (!(← Op.equal t x' y'))))) := by
        constructor
        · rintro rfl
          cases hx with
          | int k n =>
            cases hy with
            | int k' n' => exact absurd rfl (hni _ _ _ _ · rfl)
            | any => exact absurd rfl n2
            | _ => rfl
          | string s =>
            cases hy with
            | string s' => exact absurd rfl (hns _ _ · rfl)
            | any => exact absurd rfl n2
            | _ => rfl
          | any => exact absurd rfl n1
          | _ => cases hy <;> first | exact absurd rfl n2 | rfl
        · rintro rfl
          cases hx with
          | int k n =>
            cases hy with
            | int k' n' => exact absurd rfl (hni _ _ _ _ · rfl)
            | any => exact absurd rfl n2
            | _ => rfl
          | string s =>
            cases hy with
            | string s' => exact absurd rfl (hns _ _ · rfl)
            | any => exact absurd rfl n2
            | _ => rfl
          | any => exact absurd rfl n1
          | _ => cases hy <;> first | exact absurd rfl n2 | rfl
      rcases hop with rfl | rfl
      · rw [hb1.1 rfl, Sem.run_bind, heq]; rfl
      · rw [hb1.2 rfl, Sem.run_bind, heq]; rfl
    split at h
    · cases he : eqlA P t p q x y with
      | none => rw [he] at h; cases h
      | some r =>
        rw [he] at h
        simp only [Option.some.injEq] at h; subst h
        exact ⟨_, hbin r he (.inl rfl), .bool _⟩
    · cases he : eqlA P t p q x y with
      | none => rw [he] at h; cases h
      | some r =>
        rw [he] at h
        simp only [Option.some.injEq] at h; subst h
        exact ⟨_, hbin r he (.inr rfl), .bool _⟩
    · cases h

end
end Go.Am

set_option linter.unusedVariables false
set_option linter.unusedSimpArgs false
namespace Go.Am
open Go.RowKit
section
variable {P : Program} {R : Nat} {F : Nat → World → Prop} {β : Bm} {H : FW} {w : World} {q : Bool}

theorem unA_sound {op : UnOp} {x x' v : Value} (hx : VR β x x') (h : unA op x = some v) : Sees P q (Op.unary op x') β w v := by
  unfold unA at h
  split at h
  · simp only [Option.some.injEq] at h; subst h
    cases hx
    exact .just (fun _ => by rw [wrapF_eq]; rfl) (.int _ _)
  · simp only [Option.some.injEq] at h; subst h
    cases hx
    exact .just (fun _ => rfl) (.bool _)
  · simp only [Option.some.injEq] at h; subst h
    cases hx
    exact .just (fun _ => rfl) (.int _ _)
  · cases h

theorem bytesOf_sound : ∀ {l us : List Value} {bs : List UInt8}, bytesOf l = some bs → VRs β l us → ∃ ns : List Int, us = ns.map (fun n => .int .u8 n) ∧ bs = ns.map fun n => UInt8.ofNat n.toNat
  | [], us, bs, h, hr => by
    simp only [bytesOf, Option.some.injEq] at h
    subst h
    cases hr
    exact ⟨[], rfl, rfl⟩
  | v :: l, us, bs, h, hr => by
    unfold bytesOf at h
    split at h
    · cases ‹_ :: _ = _›
    · rename_i n r heq
      cases heq
      cases hb : bytesOf l with
      | none => rw [hb] at h; cases h
      | some bs' =>
        rw [hb] at h
        simp only [Option.some.injEq] at h; subst h
        cases hr with
        | cons h1 h2 =>
          cases h1
          obtain ⟨ns, rfl, rfl⟩ := bytesOf_sound hb h2
          exact ⟨n :: ns, rfl, rfl⟩
    · cases h

theorem foldl_push : ∀ (ns : List Int) (r : ByteArray), ns.foldl (fun r n => r.push (UInt8.ofNat n.toNat)) r = ⟨⟨r.data.toList ++ ns.map fun n => UInt8.ofNat n.toNat⟩⟩
  | [], r => by
    obtain ⟨⟨l⟩⟩ := r
    simp
  | n :: ns, r => by
    rw [List.foldl_cons, foldl_push ns]
    obtain ⟨⟨l⟩⟩ := r
    simp [ByteArray.push]

theorem run_bytesToString_of (w : World) (a : Addr) (len cap : Nat) (ns : List Int) (h : (loadCells a len).run P w = .ok (ns.map (fun n => Value.int .u8 n)).toArray w) :
    (Conv.bytesToString (.slice (some a) len cap)).run P w = .ok (.string ⟨⟨ns.map fun n => UInt8.ofNat n.toNat⟩⟩) w := by
  rw [run_bytesToString w a len cap ns h, foldl_push]
  rfl

theorem convA_sound (h : WR P F β H w) {s d : TypeId} {x x' v : Value} (hx : VR β x x') (he : convA P s d x H = some v) : Sees P false (convert s d x') β w v := by
  unfold convA at he
  split at he
  · rename_i k0 k k1 n h1 h2
    simp only [Option.some.injEq] at he; subst he
    cases hx
    refine .just (fun w' => ?_) (.int _ _)
    unfold convert
    rw [Sem.run_bind, run_underlying h1, Result.andThen_ok, Sem.run_bind, run_underlying h2, Result.andThen_ok, wrapF_eq]
    rfl
  · rename_i s' h1 h2
    simp only [Option.some.injEq] at he; subst he
    cases hx
    refine .just (fun w' => ?_) (.string _)
    unfold convert
    rw [Sem.run_bind, run_underlying h1, Result.andThen_ok, Sem.run_bind, run_underlying h2, Result.andThen_ok]
    rfl
  · rename_i e n c h1 h2
    cases hu : P.underlying e with
    | none => rw [hu] at he; cases he
    | some td =>
      rw [hu] at he
      split at he
      · rename_i heq
        simp only [Option.some.injEq] at heq
        subst heq
        simp only [Option.some.injEq] at he; subst he
        cases hx
        refine .just (fun w' => ?_) (.string _)
        unfold convert
        rw [Sem.run_bind, run_underlying h1, Result.andThen_ok, Sem.run_bind, run_underlying h2, Result.andThen_ok]
        simp only
        rw [Sem.run_bind, run_underlying hu, Result.andThen_ok]
        rfl
      · cases he
  · rename_i e a n c h1 h2
    split at he
    · rename_i l hu hl
      cases hb : bytesOf l with
      | none => rw [hb] at he; cases he
      | some bs =>
        rw [hb] at he
        simp only [Option.some.injEq] at he; subst he
        have hrun : ∀ (a' : Addr) (cap : Nat) (w' : World), (convert s d (.slice (some a') n cap)).run P w' = (Conv.bytesToString (.slice (some a') n cap)).run P w' := by
          intro a' cap w'
          unfold convert
          rw [Sem.run_bind, run_underlying h1, Result.andThen_ok, Sem.run_bind, run_underlying h2, Result.andThen_ok]
          simp only
          rw [Sem.run_bind, run_underlying hu, Result.andThen_ok]
        rcases hx.sl_inv with ⟨k, cap, hsp, hk, _, _, _, _, _, rfl⟩ | ⟨rfl, rfl, b, j, cap, rfl⟩
        · have ha : a = ⟨a.block, a.off, none⟩ := by cases a; simp_all
          rw [ha] at hl
          obtain ⟨us, hus, hul, hld⟩ := h.loads (P := P) hk hl
          obtain ⟨ns, rfl, rfl⟩ := bytesOf_sound hb hus
          refine ⟨_, fun w' hw' => ?_, .string _⟩
          rw [hrun]
          have hcells : (loadCells ⟨k.b, k.lo + a.off, none⟩ n).run P w' = .ok (ns.map (fun n => Value.int .u8 n)).toArray w' := hld w' (hw'.resolve_left (by simp))
          exact run_bytesToString_of w' _ n cap ns hcells
        · have : bs = [] := by
            have hl0 : l = [] := by
              unfold FW.row at hl
              split at hl
              · cases hl
              · split at hl
                · obtain ⟨_, hl⟩ := some_of_cond hl
                  simp only [Option.some.injEq] at hl
                  rw [← hl]; simp
                · cases hl
            subst hl0
            simpa [bytesOf] using hb.symm
          subst this
          refine .just (fun w' => ?_) (.string _)
          rw [hrun]
          have hcells : (loadCells ⟨b, j, none⟩ 0).run P w' = .ok ([].map (fun n => Value.int .u8 n)).toArray w' := rfl
          exact run_bytesToString_of w' _ 0 cap [] hcells
    · cases he
  · cases he

theorem fieldAddrA_sound {s : TypeId} {x x' v : Value} {f : Nat} (hx : VR β x x') (he : fieldAddrA P s x f = some v) : Sees P q (Instr.fieldAt s x' f) β w v := by
  unfold fieldAddrA at he
  split at he
  · rename_i fs a hu
    cases hf : fs[f]? with
    | none => simp [hf] at he
    | some fd =>
      cases hi : P.info? fd.type with
      | none => simp [hf, hi] at he
      | some fi =>
        simp only [hf, hi] at he
        obtain ⟨hg, he⟩ := some_of_cond he
        simp only [Bool.and_eq_true, Nat.blt_eq] at hg
        simp only [Option.some.injEq] at he; subst he
        obtain ⟨k, hsp, hk, rfl⟩ := hx.ptr_inv
        refine .just (u := .pointer (some ⟨k.b, k.lo + a.off + fd.offset, none⟩)) (fun w' => ?_) ?_
        · unfold Instr.fieldAt
          rw [Sem.run_bind, run_underlying hu, Result.andThen_ok]
          simp only [hf, Instr.sureAddr, pure_bind]
          rw [Sem.run_bind]
          unfold fieldPlace
          rw [Sem.run_bind, run_sizeOf' hi, Result.andThen_ok, if_neg (by omega), add_lit]
          rfl
        · rw [Nat.add_assoc]; exact .ptr hk
  · cases he

theorem partA_sound {t : TypeId} {cs cs' : List Value} {off : Nat} {v : Value} (hc : VRs β cs cs') (he : partA P t cs off = some v) : Sees P q (part t ⟨cs'⟩ off) β w v := by
  unfold partA at he
  obtain ⟨hs, he⟩ := some_of_cond he
  obtain ⟨d, hd⟩ := Option.isSome_iff_exists.1 hs
  obtain ⟨ti, hti⟩ := info_of_underlying hd
  cases hag : aggT P t with
  | true =>
    rw [hag, cond_true] at he
    obtain ⟨hle, he⟩ := some_of_cond he
    simp only [Option.some.injEq] at he; subst he
    refine .just (u := .agg ⟨(cs'.drop off).take (P.cellsOf t)⟩) (fun w' => ?_) (.agg ((hc.drop off).take _))
    unfold part
    rw [Sem.run_bind, run_isAgg hd, Result.andThen_ok, if_pos hag, Sem.run_bind, run_sizeOf' hti, cellsOf_eq hti]
    simp [List.take_drop, Nat.add_comm]
  | false =>
    rw [hag, cond_false] at he
    obtain ⟨u, hu, hr⟩ := hc.get he
    exact .just (fun w' => run_part hd hag hu w') hr

theorem fieldA_sound {s : TypeId} {x x' v : Value} {f : Nat} (hx : VR β x x') (he : fieldA P s x f = some v) : Sees P q (Instr.field s x' f) β w v := by
  unfold fieldA at he
  split at he
  · rename_i fs cs hu
    cases hf : fs[f]? with
    | none => simp [hf] at he
    | some fd =>
      simp only [hf] at he
      cases hx with
      | agg hl =>
        obtain ⟨u, h1, h2⟩ := partA_sound (P := P) (q := q) (w := w) hl he
        refine ⟨u, fun w' hw' => ?_, h2⟩
        rw [← h1 w' hw']
        unfold Instr.field
        rw [Sem.run_bind, run_underlying hu, Result.andThen_ok]
        simp only [hf]
        rfl
  · cases he

theorem run_indexAt_slice {t e : TypeId} {i : Int} {k : IntKind} {b off n cap : Nat} {ei : TypeInfo} (hu : P.underlying t = some (.slice e)) (hei : P.info? e = some ei) (hb : 0 ≤ i ∧ i < n) (w : World) :
    (Instr.indexAt t (.slice (some ⟨b, off, none⟩) n cap) (.int k i)).run P w = .ok (.pointer (some ⟨b, off + i.toNat * ei.size, none⟩)) w := by
  unfold Instr.indexAt
  simp only [asIntOf, pure_bind]
  rw [Sem.run_bind, run_underlying hu, Result.andThen_ok]
  simp only [pure_bind]
  rw [Sem.run_bind, run_underlying hu, Result.andThen_ok]
  simp only [pure_bind, if_pos hb]
  rw [Sem.run_bind, run_sizeOf' hei, Result.andThen_ok, add_lit]
  rfl

theorem run_indexAt_array {t e : TypeId} {i : Int} {k : IntKind} {b off n : Nat} {ei : TypeInfo} (hu : P.underlying t = some (.array n e)) (hei : P.info? e = some ei) (hb : 0 ≤ i ∧ i < n) (w : World) :
    (Instr.indexAt t (.pointer (some ⟨b, off, none⟩)) (.int k i)).run P w = .ok (.pointer (some ⟨b, off + i.toNat * ei.size, none⟩)) w := by
  unfold Instr.indexAt
  simp only [asIntOf, pure_bind]
  rw [Sem.run_bind, run_underlying hu, Result.andThen_ok]
  simp only [Instr.sureAddr, pure_bind]
  rw [Sem.run_bind, run_underlying hu, Result.andThen_ok]
  simp only [pure_bind, if_pos hb]
  rw [Sem.run_bind, run_sizeOf' hei, Result.andThen_ok, add_lit]
  rfl

theorem indexAddrA_sound {t : TypeId} {x ix x' ix' v : Value} (hx : VR β x x') (hi : VR β ix ix') (he : indexAddrA P t x ix = some v) : Sees P q (Instr.indexAt t x' ix') β w v := by
  unfold indexAddrA at he
  split at he
  · rename_i k i
    cases hi
    split at he
    · rename_i e a n c hu
      cases hei : P.info? e with
      | none => rw [hei] at he; cases he
      | some ei =>
        rw [hei] at he
        simp only at he
        obtain ⟨hg, he⟩ := some_of_cond he
        simp only [Bool.and_eq_true, Nat.blt_eq] at hg
        simp only [Option.some.injEq] at he; subst he
        rcases hx.sl_inv with ⟨k', cap, hsp, hk, _, _, _, _, _, rfl⟩ | ⟨rfl, rfl, b, j, cap, rfl⟩
        · refine .just (fun w' => run_indexAt_slice hu hei ⟨by simp, by simpa using hg.1⟩ w') ?_
          rw [Nat.add_assoc]; exact .ptr hk
        · omega
    · rename_i n e a hu
      cases hei : P.info? e with
      | none => rw [hei] at he; cases he
      | some ei =>
        rw [hei] at he
        simp only at he
        obtain ⟨hg, he⟩ := some_of_cond he
        simp only [Bool.and_eq_true, Nat.blt_eq] at hg
        simp only [Option.some.injEq] at he; subst he
        obtain ⟨k', hsp, hk, rfl⟩ := hx.ptr_inv
        refine .just (fun w' => run_indexAt_array hu hei ⟨by simp, by simpa using hg.1⟩ w') ?_
        rw [Nat.add_assoc]; exact .ptr hk
    · cases he
  · cases he

theorem indexA_sound {t : TypeId} {x ix x' ix' v : Value} (hx : VR β x x') (hi : VR β ix ix') (he : indexA P t x ix = some v) : Sees P q (Instr.index t x' ix') β w v := by
  unfold indexA at he
  split at he
  · rename_i k i
    cases hi
    split at he
    · rename_i s hu
      cases hg : s.data.toList[i]? with
      | none => rw [hg] at he; cases he
      | some b =>
        rw [hg] at he
        simp only [Option.some.injEq] at he; subst he
        cases hx
        refine .just (fun w' => ?_) (.int _ _)
        unfold Instr.index
        simp only [asIntOf, pure_bind]
        rw [Sem.run_bind, run_underlying hu, Result.andThen_ok]
        have hlt : i < s.data.toList.length := (List.getElem?_eq_some_iff.1 hg).1
        have hgs : s[i]? = some b := by
          rw [getElem?_pos s i hlt]
          rw [List.getElem?_eq_getElem hlt] at hg
          simp only [Option.some.injEq] at hg
          rw [← hg]
          rfl
        have e : (Int.ofNat i).toNat = i := rfl
        have h0 : (0 : Int) ≤ Int.ofNat i := by simp
        simp only [if_pos h0, e, hgs]
        rfl
    · rename_i n e cs hu
      cases hei : P.info? e with
      | none => rw [hei] at he; cases he
      | some ei =>
        rw [hei] at he
        simp only at he
        obtain ⟨hg, he⟩ := some_of_cond he
        have hg : i < n := by simpa [Nat.blt_eq] using hg
        cases hx with
        | agg hl =>
          obtain ⟨u, h1, h2⟩ := partA_sound (P := P) (q := q) (w := w) hl he
          refine ⟨u, fun w' hw' => ?_, h2⟩
          rw [← h1 w' hw']
          unfold Instr.index
          simp only [asIntOf, pure_bind]
          rw [Sem.run_bind, run_underlying hu, Result.andThen_ok]
          have hb : (0 : Int) ≤ Int.ofNat i ∧ Int.ofNat i < (n : Int) := ⟨by simp, by simpa using hg⟩
          simp only [if_pos hb]
          rw [Sem.run_bind, run_sizeOf' hei, Result.andThen_ok]
          rfl
    · cases he
  · cases he

theorem extractA_sound {x x' v : Value} {i : Nat} (hx : VR β x x') (he : extractA x i = some v) : Sees P q (Instr.extract x' i) β w v := by
  unfold extractA at he
  split at he
  · cases hx with
    | tuple hl =>
      rename_i l l'
      obtain ⟨u, hu, hr⟩ := hl.get he
      refine .just (fun w' => ?_) hr
      unfold Instr.extract
      have : (⟨l'⟩ : Array Value)[i]? = some u := by simpa using hu
      simp only [this]
      rfl
  · cases he

theorem ifaceA_sound {t : TypeId} {x x' v : Value} (hx : VR β x x') (he : ifaceA P t x = some v) : Sees P q (Instr.makeInterface t x') β w v := by
  unfold ifaceA at he
  split at he
  · cases he
  · rename_i d hne hu
    simp only [Option.some.injEq] at he; subst he
    refine .just (fun w' => ?_) (.iface hx)
    unfold Instr.makeInterface
    rw [Sem.run_bind, run_underlying hu, Result.andThen_ok]
    cases d <;> first | rfl | exact absurd rfl (hne _)
  · cases he

theorem flat_rel {v : Value} (h : flatC v = true) : VR β v v := by
  unfold flatC at h
  split at h
  · exact .bool _
  · exact .int _ _
  · exact .string _
  · exact .nilFunc
  · exact .nilIface
  · exact .pnil
  · exact .mnil
  · exact .snil
  · cases h

theorem flats_rel : ∀ {l : List Value}, l.all flatC = true → VRs β l l
  | [], _ => .nil
  | v :: l, h => by
    simp only [List.all_cons, Bool.and_eq_true] at h
    exact .cons (flat_rel h.1) (flats_rel h.2)

theorem cstA_rel (v : Value) : VR β (cstA v) v := by
  cases v with
  | bool b => exact .bool b
  | int k n => exact .int k n
  | float k b => exact .any
  | complex k x y => exact .any
  | string s => exact .string s
  | pointer a =>
    cases a with
    | none => exact .pnil
    | some a => exact .any
  | slice a n c =>
    cases a with
    | some a => exact .any
    | none =>
      cases n with
      | zero =>
        cases c with
        | zero => exact .snil
        | succ c => exact .any
      | succ n => exact .any
  | map r =>
    cases r with
    | none => exact .mnil
    | some r => exact .any
  | chan r => exact .any
  | func fn fs cs => exact .any
  | nilFunc => exact .nilFunc
  | iface t v => exact .any
  | nilIface => exact .nilIface
  | agg cs =>
    show VR β (bif cs.toList.all flatC then .agg cs else bot) _
    cases hb : cs.toList.all flatC with
    | true => rw [cond_true]; exact .agg (flats_rel hb)
    | false => rw [cond_false]; exact .any
  | tuple cs =>
    show VR β (bif cs.toList.all flatC then .tuple cs else bot) _
    cases hb : cs.toList.all flatC with
    | true => rw [cond_true]; exact .tuple (flats_rel hb)
    | false => rw [cond_false]; exact .any

end
end Go.Am

set_option linter.unusedVariables false
set_option linter.unusedSimpArgs false
namespace Go.Am
open Go.RowKit
section
variable {P : Program} {R : Nat} {F : Nat → World → Prop} {β : Bm} {H : FW} {w : World} {q : Bool}

theorem nat_rel {v v' : Value} {n : Nat} (h : natOf v = some n) (hr : VR β v v') : ∃ k, v' = .int k (n : Int) := by
  unfold natOf at h
  split at h
  · simp only [Option.some.injEq] at h; subst h
    cases hr
    exact ⟨_, rfl⟩
  · cases h

/-- Operands that may be there. -/
inductive OV (β : Bm) : Option Value → Option Value → Prop
  | none : OV β none none
  | some {v v' : Value} (h : VR β v v') : OV β (some v) (some v')

theorem run_sliceBound {k : IntKind} {i y : Nat} {c : BoundsCode} (h : i ≤ y) (w : World) :
    (Instr.sliceBound (.int k i) y c).run P w = .ok i w := by
  unfold Instr.sliceBound
  have : (0 : Int) ≤ (i : Int) ∧ (i : Int) ≤ (y : Int) := ⟨by omega, by omega⟩
  simp only [asIntOf, pure_bind, if_pos this]
  rfl

theorem run_bounds {lo hi lo' hi' : Option Value} {n cap l h : Nat} {isS : Bool} (hlo : OV β lo lo') (hhi : OV β hi hi') (hl : boundOf 0 lo = some l) (hh : boundOf n hi = some h)
    (h1 : l ≤ h) (h2 : h ≤ cap) (w : World) : (Instr.sliceBounds isS n cap lo' hi' none).run P w = .ok (l, h, cap) w := by
  unfold Instr.sliceBounds
  cases hlo with
  | none =>
    simp only [boundOf, Option.some.injEq] at hl
    subst hl
    cases hhi with
    | none =>
      simp only [boundOf, Option.some.injEq] at hh
      subst hh
      simp [pure, Sem.run, bind, Sem.bind]
    | some hr =>
      obtain ⟨k, rfl⟩ := nat_rel hh hr
      simp only [pure_bind, Sem.run_bind, run_sliceBound (P := P) (y := cap) h2, Result.andThen_ok]
      simp [pure, Sem.run]
  | some hr0 =>
    obtain ⟨k0, rfl⟩ := nat_rel hl hr0
    cases hhi with
    | none =>
      simp only [boundOf, Option.some.injEq] at hh
      subst hh
      simp only [pure_bind, Sem.run_bind, run_sliceBound (P := P) h1, Result.andThen_ok]
      simp [pure, Sem.run]
    | some hr =>
      obtain ⟨k, rfl⟩ := nat_rel hh hr
      simp only [pure_bind, Sem.run_bind, run_sliceBound (P := P) (y := cap) h2, Result.andThen_ok]
      simp only [run_sliceBound (P := P) h1, Result.andThen_ok]
      simp [pure, Sem.run]

theorem run_bounds3 {lo lo' : Option Value} {vh vm vh' vm' : Value} {n cap l h m : Nat} {isS : Bool} (hlo : OV β lo lo') (hhi : VR β vh vh') (hmx : VR β vm vm') (hl : boundOf 0 lo = some l) (hh : natOf vh = some h) (hm : natOf vm = some m)
    (h1 : l ≤ h) (h2 : h ≤ m) (h3 : m ≤ cap) (w : World) : (Instr.sliceBounds isS n cap lo' (some vh') (some vm')).run P w = .ok (l, h, m) w := by
  unfold Instr.sliceBounds
  obtain ⟨k, rfl⟩ := nat_rel hh hhi
  obtain ⟨k2, rfl⟩ := nat_rel hm hmx
  cases hlo with
  | none =>
    simp only [boundOf, Option.some.injEq] at hl
    subst hl
    simp only [Sem.run_bind, run_sliceBound (P := P) h3, Result.andThen_ok, run_sliceBound (P := P) h2]
    simp [pure, Sem.run]
  | some hr0 =>
    obtain ⟨k0, rfl⟩ := nat_rel hl hr0
    simp only [Sem.run_bind, run_sliceBound (P := P) h3, Result.andThen_ok, run_sliceBound (P := P) h2, run_sliceBound (P := P) h1]
    simp [pure, Sem.run]

theorem sliceAt_eq {t : TypeId} {d : TypeDesc} (hu : P.underlying t = some d) (hd : ∀ n e, d ≠ .array n e) (x : Value) (lo hi mx : Option Value) (w : World) :
    (Instr.sliceAt t x lo hi mx).run P w = (Instr.slice t x lo hi mx).run P w := by
  unfold Instr.sliceAt
  rw [Sem.run_bind, run_underlying hu, Result.andThen_ok]
  cases d <;> first | rfl | exact absurd rfl (hd _ _)

theorem run_slice_slice {t e : TypeId} {ei : TypeInfo} {a : Option Addr} {n cap l h m : Nat} {vlo vhi vmx : Option Value} (hu : P.underlying t = some (.slice e)) (hei : P.info? e = some ei)
    (hb : (Instr.sliceBounds true n cap vlo vhi vmx).run P w = .ok (l, h, m) w) :
    (Instr.sliceAt t (.slice a n cap) vlo vhi vmx).run P w = .ok (.slice (if m = l then a else a.map (·.add (l * ei.size))) (h - l) (m - l)) w := by
  rw [sliceAt_eq hu (by intro _ _ h; cases h)]
  unfold Instr.slice
  rw [Sem.run_bind, run_underlying hu, Result.andThen_ok]
  simp only
  rw [Sem.run_bind, hb, Result.andThen_ok]
  simp only
  rw [Sem.run_bind, run_sizeOf' hei, Result.andThen_ok]
  rfl

theorem run_slice_array {t e : TypeId} {ei : TypeInfo} {a : Addr} {n l h m : Nat} {vlo vhi : Option Value} (hu : P.underlying t = some (.array n e)) (hei : P.info? e = some ei)
    (hb : (Instr.sliceBounds false n n vlo vhi none).run P w = .ok (l, h, m) w) :
    (Instr.sliceAt t (.pointer (some a)) vlo vhi none).run P w = .ok (.slice (some (if m = l then a else a.add (l * ei.size))) (h - l) (m - l)) w := by
  unfold Instr.sliceAt
  rw [Sem.run_bind, run_underlying hu, Result.andThen_ok]
  simp only [Instr.sureAddr, pure_bind]
  rw [Sem.run_bind, hb, Result.andThen_ok]
  simp only
  rw [Sem.run_bind, run_sizeOf' hei, Result.andThen_ok]
  rfl

/-- A cut, without a new capacity. -/
theorem sliceS_rel (hw : WR P F β H w) {wd : Nat} {a : Addr} {c l h cap : Nat} {k : Pl} {v : Value} (hk : β a.block = some k) (hsp : a.spot = none) (hc : c / 2 ≤ cap) (he : c % 2 = 0 → c / 2 = cap) (hm : cap ≤ maxLen)
    (hr : c % 2 = 1 → k.lo + a.off + cap * k.wd ≤ k.sz) (hs : sliceS P H wd a c l h = some v) : l ≤ h ∧ h ≤ c / 2 ∧ VR β v (.slice (if cap = l then some ⟨k.b, k.lo + a.off, none⟩ else some ((⟨k.b, k.lo + a.off, none⟩ : Addr).add (l * wd))) (h - l) (cap - l)) := by
  unfold sliceS at hs
  obtain ⟨hg, hs⟩ := some_of_cond hs
  simp only [Bool.and_eq_true] at hg
  have h1 := Nat.le_of_ble_eq_true hg.1
  have h2 := Nat.le_of_ble_eq_true hg.2.1
  refine ⟨h1, h2, ?_⟩
  cases hb : Nat.blt l (c / 2) with
  | true =>
    have hlt : l < c / 2 := by simpa [Nat.blt_eq] using hb
    rw [hb, cond_true] at hs
    obtain ⟨hwo, hs⟩ := some_of_cond hs
    simp only [Option.some.injEq] at hs; subst hs
    rw [if_neg (by omega), add_lit, Nat.add_assoc]
    unfold moveA
    refine .sl hk (by omega) (by omega) (fun h0 => by have := he (by omega); omega) (by omega) (by omega) (fun h0 => ?_)
    have hc1 : c % 2 = 1 := by omega
    have hr := hr hc1
    simp only [Bool.or_eq_true] at hwo
    rcases hwo with h9 | h9 | h9
    · have := Nat.eq_of_beq_eq_true h9; omega
    · have := Nat.eq_of_beq_eq_true h9
      subst this
      simpa using hr
    · unfold wdOk at h9
      split at h9
      · rename_i cs e hg
        have hwd := hw.wide _ _ _ _ hg hk
        unfold szOk at h9
        cases hi : P.info? e with
        | none => rw [hi] at h9; cases h9
        | some i =>
          rw [hi] at h9
          have h9 : wd = i.size := Nat.eq_of_beq_eq_true h9
          rw [cellsOf_eq hi] at hwd
          have : l * wd + (cap - l) * k.wd = cap * k.wd := by
            rw [h9, hwd, ← Nat.add_mul]; congr 1; omega
          omega
      · cases h9
  | false =>
    have hge : ¬ l < c / 2 := by
      intro hlt
      have : Nat.blt l (c / 2) = true := by simpa [Nat.blt_eq] using hlt
      rw [hb] at this; cases this
    rw [hb, cond_false] at hs
    have hz : h - l = 0 := by omega
    cases hb2 : Nat.beq (c % 2) 0 with
    | true =>
      rw [hb2, cond_true] at hs
      have hcap := he (Nat.eq_of_beq_eq_true hb2)
      simp only [Option.some.injEq] at hs; subst hs
      have ha : a = ⟨a.block, a.off, none⟩ := by cases a; simp_all
      rw [if_pos (by omega), hz, show cap - l = 0 by omega, ha]
      exact .sl hk (Nat.le_refl _) (Nat.le_refl _) (fun _ => rfl) (Nat.le_refl _) (Nat.zero_le _) (by omega)
    | false =>
      rw [hb2, cond_false] at hs
      simp only [Option.some.injEq] at hs; subst hs
      rw [hz]
      split
      · exact .s1
      · rw [add_lit]; exact .s1

theorem sliceA_sound (hw : WR P F β H w) {t : TypeId} {x x' v : Value} {lo hi mx lo' hi' mx' : Option Value} (hx : VR β x x') (hlo : OV β lo lo') (hhi : OV β hi hi') (hmx : OV β mx mx')
    (he : sliceA P t x lo hi mx H = some v) : Sees P q (Instr.sliceAt t x' lo' hi' mx') β w v := by
  unfold sliceA at he
  split at he
  · rename_i s hu
    split at he
    · rename_i l h hl hh
      cases hmx
      obtain ⟨hg, he⟩ := some_of_cond he
      simp only [Bool.and_eq_true] at hg
      have h1 := Nat.le_of_ble_eq_true hg.1
      have h2 := Nat.le_of_ble_eq_true hg.2
      simp only [Option.some.injEq] at he; subst he
      cases hx
      refine .just (u := .string (s.extract l h)) (fun w' => ?_) ?_
      · rw [sliceAt_eq hu (by intro _ _ h; cases h)]
        unfold Instr.slice
        rw [Sem.run_bind, run_underlying hu, Result.andThen_ok]
        simp only [Option.isSome_none, Bool.false_eq_true, if_false]
        have hz : s.size = s.data.toList.length := rfl
        rw [hz, Sem.run_bind, run_bounds hlo hhi hl hh h1 h2, Result.andThen_ok]
        rfl
      · have : s.extract l h = ⟨⟨(s.data.toList.drop l).take (h - l)⟩⟩ := by
          have := Lib.extract_data s l h
          apply ByteArray.ext
          apply Array.ext'
          rw [this]
        rw [this]; exact .string _
    · cases he
  · rename_i e hu
    split at he
    · rename_i i hi hl hh
      cases hmx
      simp only [Option.some.injEq] at he; subst he
      cases hx
      exact .just (fun w' => run_slice_slice hu hi (run_bounds hlo hhi hl hh (Nat.le_refl _) (Nat.le_refl _) w')) .snil
    · cases he
  · rename_i e a n c hu
    split at he
    · rename_i i l h hi hl hh
      split at he
      · cases hmx
        rcases hx.sl_inv2 with ⟨k, cap, hsp, hk, hn, hc, hev, h2n, hm, hrr, rfl⟩ | ⟨rfl, rfl, b, j, cap, rfl⟩
        · obtain ⟨h1, h2, hr⟩ := sliceS_rel hw hk hsp hc hev hm hrr he
          refine .just (fun w' => run_slice_slice hu hi (run_bounds hlo hhi hl hh h1 (Nat.le_trans h2 hc) w')) ?_
          simpa using hr
        · unfold sliceS at he
          obtain ⟨hg, he⟩ := some_of_cond he
          simp only [Bool.and_eq_true] at hg
          have h1 := Nat.le_of_ble_eq_true hg.1
          have h2 := Nat.le_of_ble_eq_true hg.2.1
          have hl0 : l = 0 := by omega
          have hh0 : h = 0 := by omega
          subst hl0; subst hh0
          have he : some (Value.slice (some a) 0 1) = some v := he
          simp only [Option.some.injEq] at he
          subst he
          refine .just (fun w' => run_slice_slice hu hi (run_bounds hlo hhi hl hh (Nat.le_refl _) (Nat.zero_le _) w')) ?_
          simp only [Nat.sub_self, Nat.zero_mul, Option.map_some, add_lit]
          split <;> exact .s1
      · rename_i vm
        cases hmx with
        | some hmr =>
          cases hhi with
          | none => cases he
          | some hhr =>
            cases hm : natOf vm with
            | none => simp only [hm] at he; cases he
            | some m =>
              simp only [hm] at he
              unfold sliceM at he
              obtain ⟨hg, he⟩ := some_of_cond he
              simp only [Bool.and_eq_true, Bool.not_eq_true'] at hg
              have h1 := Nat.le_of_ble_eq_true hg.1
              have h2 := Nat.le_of_ble_eq_true hg.2.1
              have h3 := Nat.le_of_ble_eq_true hg.2.2.1
              simp only [Option.some.injEq] at he; subst he
              rcases hx.sl_inv with ⟨k, cap, hsp, hk, hn, hc, hev, h2n, hmxl, rfl⟩ | ⟨rfl, rfl, b, j, cap, rfl⟩
              · refine .just (fun w' => run_slice_slice hu hi (run_bounds3 hlo hhr hmr hl (by simpa [boundOf] using hh) hm h1 h2 (Nat.le_trans h3 hc) w')) ?_
                have ha : a = ⟨a.block, a.off, none⟩ := by cases a; simp_all
                by_cases hml : m = l
                · have hb : Nat.beq m l = true := by rw [hml]; simp
                  rw [if_pos hml, hb, cond_true, ha]
                  exact .sl hk (by omega) (by omega) (fun _ => by omega) (by omega) (by omega) (by omega)
                · have hb : Nat.beq m l = false := by
                    cases hbb : Nat.beq m l with
                    | false => rfl
                    | true => exact absurd (Nat.eq_of_beq_eq_true hbb) hml
                  rw [if_neg hml, hb, cond_false, Option.map_some, add_lit, Nat.add_assoc]
                  unfold moveA
                  exact .sl hk (by omega) (by omega) (fun _ => by omega) (by omega) (by omega) (by omega)
              · exact absurd hg.2.2.2.2 (by simp)
    · cases he
  · rename_i n e a hu
    split at he
    · rename_i i l h hi hl hh
      cases hmx
      obtain ⟨k, hsp, hk, rfl⟩ := hx.ptr_inv
      obtain ⟨hn, he⟩ := some_of_cond he
      have hn := Nat.le_of_ble_eq_true hn
      have hn : n ≤ maxLen := by simp only [maxLen]; omega
      · obtain ⟨h1, h2, hr⟩ := sliceS_rel hw (cap := n) hk hsp (by omega) (fun _ => by omega) hn (by omega) he
        refine .just (fun w' => run_slice_array hu hi (run_bounds hlo hhi hl hh h1 (by omega) w')) ?_
        have : (if n = l then some (⟨k.b, k.lo + a.off, none⟩ : Addr) else some ((⟨k.b, k.lo + a.off, none⟩ : Addr).add (l * i.size))) = some (if n = l then ⟨k.b, k.lo + a.off, none⟩ else (⟨k.b, k.lo + a.off, none⟩ : Addr).add (l * i.size)) := by split <;> rfl
        rw [← this]; exact hr
    · cases he
  · cases he

theorem lenA_sound (h : WR P F β H w) {t : TypeId} {x x' v : Value} (ts : Array TypeId) (ty : TypeId) (h0 : ts[0]? = some t) (hx : VR β x x') (he : lenA P t x H = some v) :
    Sees P false (Builtin.len_ ts ty #[x']) β w v := by
  unfold lenA at he
  have base : ∀ (d : TypeDesc) (x : Value) (w' : World), P.underlying t = some d → (Builtin.len_ ts ty #[x]).run P w' = (match d, x with
      | .string, .string s => pure (goInt s.size)
      | .slice _, .slice _ n _ => pure (goInt n)
      | .map _ _, .map none => pure (goInt 0)
      | .map _ _, .map (some r) => do
        let .map entries _ ← getObj r | stuck "len: map expected"
        pure (goInt entries.size)
      | d, x => (do
        match d, x with
        | .string, .string s => pure (goInt s.size)
        | .array n _, _ => pure (goInt n)
        | .pointer arr, _ =>
          let .array n _ ← underlying arr | stuck "len: pointer to array expected"
          pure (goInt n)
        | .slice _, .slice _ n _ => pure (goInt n)
        | .map _ _, .map none | .chan _ _, .chan none => pure (goInt 0)
        | .map _ _, .map (some r) =>
          let .map entries _ ← getObj r | stuck "len: map expected"
          pure (goInt entries.size)
        | .chan _ _, .chan (some r) =>
          let .chan _ buf _ _ _ timer ← getObj r | stuck "len: channel expected"
          pure (goInt (if timer then 0 else buf.size))
        | _, _ => stuck "len: string, array, pointer to array, slice, map or channel expected" : Sem Value)).run P w' := by
    intro d x w' hu
    unfold Builtin.len_
    simp only [h0, List.getElem?_toArray, List.getElem?_cons_zero]
    rw [Sem.run_bind, run_underlying hu, Result.andThen_ok]
    cases d <;> cases x <;> first | rfl | (rename_i r; cases r <;> rfl)
  split at he
  · rename_i s hu
    simp only [Option.some.injEq] at he; subst he
    cases hx
    exact .just (fun w' => by rw [base _ _ w' hu]; rfl) (.int _ _)
  · rename_i e a n c hu
    simp only [Option.some.injEq] at he; subst he
    cases hx <;> exact .just (fun w' => by rw [base _ _ w' hu]; rfl) (.int _ _)
  · rename_i kt e hu
    simp only [Option.some.injEq] at he; subst he
    cases hx
    exact .just (fun w' => by rw [base _ _ w' hu]; rfl) (.int _ _)
  · rename_i kt e r hu
    cases hm : H.mapOf r with
    | none => rw [hm] at he; cases he
    | some p =>
      obtain ⟨es, clock⟩ := p
      rw [hm] at he
      simp only [Option.some.injEq] at he; subst he
      cases hx with
      | map hk =>
        unfold FW.mapOf at hm
        cases hg : H.heap.get r with
        | none => simp [hg] at hm
        | some ob =>
          cases ob with
          | map es2 c2 =>
            simp only [hg, Option.some.injEq, Prod.mk.injEq] at hm
            obtain ⟨rfl, rfl⟩ := hm
            obtain ⟨k2, hk2, es', hh, hes⟩ := h.objs _ _ hg
            rw [hk] at hk2
            simp only [Option.some.injEq] at hk2
            subst hk2
            refine ⟨_, fun w' hw' => ?_, .int _ _⟩
            rw [base _ _ w' hu]
            have hw := hw'.resolve_left (by simp)
            have hh' : w'.heap[_]? = some (Go.Obj.map es' c2) := (hw.block _ ((Array.getElem?_eq_some_iff.1 hh).1)).trans hh
            have hsz : es'.size = es2.length := by simpa using hes.length
            simp only [getObj, bind, Sem.bind, Sem.run, hh']
            show Result.ok (goInt es'.size) w' = _
            rw [hsz]; rfl
          | _ => simp [hg] at hm
  · cases he

end
end Go.Am

set_option linter.unusedVariables false
set_option linter.unusedSimpArgs false
namespace Go.Am
open Go.RowKit
section
variable {P : Program} {R : Nat} {F : Nat → World → Prop} {β : Bm} {H : FW} {w : World} {q : Bool}

theorem maxA_sound {isMax : Bool} : ∀ {l us : List Value} {x : Int} {v : Value}, VRs β l us → maxA isMax x l = some v → ∀ w : World,
    (us.foldlM (if isMax then Builtin.max2 else Builtin.min2) (.int .i64 x)).run P w = .ok v w ∧ ∃ y, v = .int .i64 y
  | [], us, x, v, hv, h, w => by
    cases hv
    simp only [maxA, Option.some.injEq] at h
    subst h
    exact ⟨rfl, _, rfl⟩
  | d :: l, us, x, v, hv, h, w => by
    cases hv with
    | cons hd hr =>
      unfold maxA at h
      split at h
      · cases ‹_ :: _ = _›
      · rename_i y r heq
        cases heq
        cases hd
        rw [List.foldlM_cons, Sem.run_bind]
        cases isMax with
        | true =>
          simp only [if_true]
          have e : (bif true then (bif decide (y > x) then y else x) else (bif decide (y < x) then y else x)) = (if y > x then y else x) := by
            by_cases hc : y > x <;> simp [hc]
          rw [e] at h
          rw [show (Builtin.max2 (.int .i64 x) (.int .i64 y)).run P w = .ok (.int .i64 (if y > x then y else x)) w from rfl, Result.andThen_ok]
          exact maxA_sound (isMax := true) hr h w
        | false =>
          simp only [Bool.false_eq_true, if_false]
          have e : (bif false then (bif decide (y > x) then y else x) else (bif decide (y < x) then y else x)) = (if y < x then y else x) := by
            by_cases hc : y < x <;> simp [hc]
          rw [e] at h
          rw [show (Builtin.min2 (.int .i64 x) (.int .i64 y)).run P w = .ok (.int .i64 (if y < x then y else x)) w from rfl, Result.andThen_ok]
          exact maxA_sound (isMax := false) hr h w
      · cases h

theorem maxMinA_sound {isMax : Bool} {l us : List Value} {v : Value} (ts : Array TypeId) (ty : TypeId) (hx : VRs β l us) (h : maxMinA isMax l = some v) :
    Sees P q (if isMax then Builtin.max_ ts ty us.toArray else Builtin.min_ ts ty us.toArray) β w v := by
  unfold maxMinA at h
  split at h
  · cases hx with
    | cons hd hr =>
      cases hd
      obtain ⟨_, y, rfl⟩ := maxA_sound (P := P) hr h w
      refine .just (u := .int .i64 y) (fun w' => ?_) (.int _ _)
      have := (maxA_sound (P := P) hr h w').1
      cases isMax <;> simpa [Builtin.max_, Builtin.min_] using this
  · cases h

theorem WR.mapOf (h : WR P F β H w) {r clock : Nat} {es : List MapEntry} {k : Pl} (hk : β r = some k) (hm : H.mapOf r = some (es, clock)) :
    ∃ es' : Array MapEntry, w.heap[k.b]? = some (.map es' clock) ∧ ERs β es es'.toList ∧ H.heap.get r = some (.map es clock) := by
  unfold FW.mapOf at hm
  cases hg : H.heap.get r with
  | none => simp [hg] at hm
  | some ob =>
    cases ob with
    | map es2 c2 =>
      simp only [hg, Option.some.injEq, Prod.mk.injEq] at hm
      obtain ⟨rfl, rfl⟩ := hm
      obtain ⟨k2, hk2, es', hh, hes⟩ := h.objs _ _ hg
      rw [hk] at hk2
      simp only [Option.some.injEq] at hk2
      subst hk2
      exact ⟨es', hh, hes, rfl⟩
    | _ => simp [hg] at hm

theorem keyA_sound {kd : TypeDesc} {k k' e e' : Value} {r : Bool} (hk : VR β k k') (he : VR β e e') (h : keyA kd k e = some r) : Instr.sameNow kd k' e' = some r := by
  unfold keyA at h
  split at h
  · cases hk; cases he
    have h2 := some_of_cond h
    clear h
    obtain ⟨hkk, h⟩ := h2
    have hkk := of_decide_eq_true hkk
    subst hkk
    simp only [Option.some.injEq] at h; subst h
    simp only [Instr.sameNow, if_true]
    congr 1
  · cases hk; cases he
    simp only [Option.some.injEq] at h; subst h
    rename_i a b
    simp only [Instr.sameNow]
    congr 1
    rw [beq_toListBytes, ByteArray.toList_eq, ByteArray.toList_eq]
  · cases hk; cases he
    simp only [Option.some.injEq] at h; subst h
    rfl
  · cases h

/-- What is found is found. -/
inductive FR (β : Bm) : Option (Nat × Value) → Option (Nat × Value) → Prop
  | none : FR β none none
  | some {i : Nat} {v v' : Value} (h : VR β v v') : FR β (some (i, v)) (some (i, v'))

theorem findA_sound {kd : TypeDesc} {k k' : Value} (hk : VR β k k') : ∀ {es es' : List MapEntry} {i : Nat} {r : Option (Nat × Value)}, ERs β es es' → findA kd k es i = some r →
    ∃ r', Instr.findNow kd k' es' i = some r' ∧ FR β r r'
  | [], _, i, r, he, h => by
    cases he
    simp only [findA, Option.some.injEq] at h; subst h
    exact ⟨_, rfl, .none⟩
  | e :: es, _, i, r, he, h => by
    cases he with
    | cons h1 h2 =>
      unfold findA at h
      unfold Instr.findNow
      cases hka : keyA kd k e.key with
      | none => rw [hka] at h; cases h
      | some b =>
        rw [hka] at h
        rw [keyA_sound hk h1.key hka]
        cases b with
        | true =>
          simp only [Option.some.injEq] at h; subst h
          exact ⟨_, rfl, .some h1.val⟩
        | false => exact findA_sound hk h2 h

theorem checkKey_plain {kt : TypeId} {kd : TypeDesc} {k k' : Value} {b : Bool} (hu : P.underlying kt = some kd) (hp : plainK kd k = true) (hk : VR β k k') (w : World) :
    (Instr.checkKey b 10000 kt k').run P w = .ok () w := by
  show (Instr.checkKey b (9999 + 1) kt k').run P w = _
  unfold Instr.checkKey
  rw [Sem.run_bind, run_underlying hu, Result.andThen_ok]
  unfold plainK at hp
  split at hp
  · cases hk; rfl
  · cases hk; rfl
  · cases hk; rfl
  · cases hp

theorem run_findKey {kt : TypeId} {kd : TypeDesc} {k' : Value} {es : List MapEntry} {r : Option (Nat × Value)} (hu : P.underlying kt = some kd) (h : Instr.findNow kd k' es 0 = some r) (w : World) :
    (Instr.findKey kt k' es).run P w = .ok r w := by
  unfold Instr.findKey
  rw [Sem.run_bind, run_underlying hu, Result.andThen_ok, h]
  rfl

theorem run_zeroValue' {t : TypeId} {i : TypeInfo} {v : Value} (hi : P.info? t = some i) (hz : i.zero = some v) (w : World) : (zeroValue t).run P w = .ok v w := by
  unfold zeroValue
  rw [Sem.run_bind, run_typeInfo' hi, Result.andThen_ok, hz]
  rfl

theorem zero_of_found {e : TypeId} {ok : Bool} {v : Value} (h : foundA P e ok none = some v) : ∃ i z, P.info? e = some i ∧ i.zero = some z ∧ v = bif ok then .tuple ⟨[cstA z, .bool false]⟩ else cstA z := by
  unfold foundA at h
  cases hi : P.info? e with
  | none => rw [hi] at h; cases h
  | some i =>
    cases hz : i.zero with
    | none => rw [hi] at h; simp only [hz] at h; cases h
    | some z =>
      rw [hi] at h
      simp only [hz, Option.some.injEq] at h
      exact ⟨i, z, rfl, hz, h.symm⟩

theorem foundA_sound {e : TypeId} {ok : Bool} {r r' : Option (Nat × Value)} {v : Value} (hr : FR β r r') (h : foundA P e ok r = some v) :
    ∃ u, VR β v u ∧ ∀ w, (match r' with
        | some (_, v) => pure (if ok = true then Value.tuple #[v, .bool true] else v)
        | none => do
          let z ← zeroValue e
          pure (if ok = true then Value.tuple #[z, .bool false] else z) : Sem Value).run P w = .ok u w := by
  cases hr with
  | some hv =>
    rename_i i a a'
    simp only [foundA, Option.some.injEq] at h; subst h
    refine ⟨if ok = true then .tuple #[a', .bool true] else a', ?_, fun w => rfl⟩
    cases ok with
    | true => exact .tuple (.cons hv (.cons (.bool _) .nil))
    | false => exact hv
  | none =>
    obtain ⟨i, z, hi, hz, rfl⟩ := zero_of_found h
    refine ⟨if ok = true then .tuple #[z, .bool false] else z, ?_, fun w => ?_⟩
    · cases ok with
      | true => exact .tuple (.cons (cstA_rel z) (.cons (.bool _) .nil))
      | false => exact cstA_rel z
    · simp only
      rw [Sem.run_bind, run_zeroValue' hi hz]
      rfl

theorem lookupA_sound (h : WR P F β H w) {t : TypeId} {m k m' k' v : Value} {ok : Bool} (hm : VR β m m') (hk : VR β k k') (he : lookupA P t m k ok H = some v) :
    Sees P false (Instr.lookup t m' k' ok) β w v := by
  unfold lookupA at he
  split at he
  · rename_i kt e hu
    cases hkd : P.underlying kt with
    | none => rw [hkd] at he; cases he
    | some kd =>
      rw [hkd] at he
      simp only at he
      obtain ⟨hp, he⟩ := some_of_cond he
      split at he
      · cases hm
        obtain ⟨x, hx, hrun⟩ := foundA_sound .none he
        refine ⟨_, fun w' _ => ?_, hx⟩
        unfold Instr.lookup
        rw [Sem.run_bind, run_underlying hu, Result.andThen_ok]
        simp only [pure_bind]
        rw [Sem.run_bind, checkKey_plain hkd hp hk, Result.andThen_ok, Sem.run_bind, run_findKey hkd (r := none) rfl, Result.andThen_ok]
        exact hrun w'
      · rename_i r _
        cases hmo : H.mapOf r with
        | none => rw [hmo] at he; cases he
        | some p =>
          obtain ⟨es, clock⟩ := p
          rw [hmo] at he
          simp only at he
          cases hf : findA kd k es 0 with
          | none => rw [hf] at he; cases he
          | some fr =>
            rw [hf] at he
            simp only at he
            cases hm with
            | map hkk =>
              obtain ⟨es', hh, hes, _⟩ := h.mapOf hkk hmo
              obtain ⟨r', hr1, hr2⟩ := findA_sound hk hes hf
              obtain ⟨x, hx, hrun⟩ := foundA_sound hr2 he
              refine ⟨_, fun w' hw' => ?_, hx⟩
              have hw := hw'.resolve_left (by simp)
              have hh' : w'.heap[_]? = some (Go.Obj.map es' clock) := (hw.block _ ((Array.getElem?_eq_some_iff.1 hh).1)).trans hh
              unfold Instr.lookup
              rw [Sem.run_bind, run_underlying hu, Result.andThen_ok]
              simp only
              have hget : ∀ b, (getObj b).run P w' = match w'.heap[b]? with
                  | some (.cells ..) => .halt (.stuck "getObj: a row of cells") w'
                  | some o => .ok o w'
                  | none => .halt (.stuck "getObj: no such block") w' := by
                intro b
                unfold getObj
                simp only [Sem.run]
                cases w'.heap[b]? with
                | none => rfl
                | some o => cases o <;> rfl
              rw [Sem.run_bind, hget, hh']
              simp only [Result.andThen_ok, pure_bind]
              rw [Sem.run_bind, checkKey_plain hkd hp hk, Result.andThen_ok, Sem.run_bind, run_findKey hkd hr1, Result.andThen_ok]
              exact hrun w'
      · cases he
  · cases he

theorem missing_none (want : Array (String × TypeId)) (got : Array Method) : (Instr.missingMethod want got).isNone = want.toList.all fun x => got.toList.any fun m => m.name == x.1 && m.sig == x.2 := by
  have hf : ∀ l : List (String × TypeId), ((l.filter fun (name, sig) => !got.any fun m => m.name == name && m.sig == sig).map (·.1)).isEmpty = l.all fun x => got.toList.any fun m => m.name == x.1 && m.sig == x.2 := by
    intro l
    induction l with
    | nil => rfl
    | cons x l ih =>
      obtain ⟨name, sig⟩ := x
      have e : (got.any fun m => m.name == name && m.sig == sig) = got.toList.any fun m => m.name == name && m.sig == sig := by simp
      cases hb : (got.toList.any fun m => m.name == name && m.sig == sig) with
      | true =>
        rw [List.filter_cons_of_neg (by simp only [e, hb]; decide), ih, List.all_cons, hb, Bool.true_and]
      | false =>
        rw [List.filter_cons_of_pos (by simp only [e, hb]; decide), List.all_cons, hb, Bool.false_and]
        rfl
  rw [← hf want.toList]
  unfold Instr.missingMethod
  generalize ((want.toList.filter fun (name, sig) => !got.any fun m => m.name == name && m.sig == sig).map (·.1)) = l
  cases l with
  | nil => rfl
  | cons s l =>
    simp only [List.isEmpty_cons]
    have key : ∀ (p : String → Bool), (Instr.least ((s :: l).partition p).2 <|> Instr.least (((s :: l).partition p).1.map fun (id : String) => (id.splitOn ".").getLastD id)).isNone = false := by
      intro p
      rw [List.partition_eq_filter_filter]
      simp only
      cases hp : p s with
      | true =>
        rw [List.filter_cons_of_pos hp]
        cases Instr.least (List.filter (not ∘ p) (s :: l)) with
        | none => rfl
        | some _ => rfl
      | false =>
        rw [List.filter_cons_of_pos (p := not ∘ p) (by simp [hp])]
        rfl
    exact key _

theorem assertA_sound {x x' v : Value} {t xt : TypeId} {ok : Bool} (hx : VR β x x') (h : assertA P x t ok = some v) : Sees P q (Instr.typeAssert x' xt t ok) β w v := by
  unfold assertA at h
  split at h
  · rename_i want hu
    split at h
    · rename_i u a
      cases hx with
      | iface ha =>
        rename_i a'
        unfold hasA at h
        cases hi : P.info? u with
        | none => rw [hi] at h; cases h
        | some i =>
          rw [hi] at h
          simp only at h
          rw [← missing_none] at h
          have hti : ∀ w', (typeInfo u).run P w' = .ok i w' := fun w' => by simp [typeInfo, hi]
          cases hm : Instr.missingMethod want i.methods with
          | none =>
            rw [hm] at h
            simp only [Option.isNone_none, Option.some.injEq] at h
            subst h
            refine ⟨if ok then .tuple #[.iface u a', .bool true] else .iface u a', fun w' _ => ?_, ?_⟩
            · unfold Instr.typeAssert
              rw [Sem.run_bind, run_underlying hu, Result.andThen_ok]
              simp only
              rw [Sem.run_bind, hti, Result.andThen_ok, hm]
              rfl
            · cases ok with
              | true => exact .tuple (.cons (.iface ha) (.cons (.bool _) .nil))
              | false => exact .iface ha
          | some nm =>
            rw [hm] at h
            simp only [Option.isNone_some] at h
            obtain ⟨rfl, h⟩ := some_of_cond h
            obtain ⟨j, z, hj, hz, rfl⟩ := zero_of_found h
            refine ⟨.tuple #[z, .bool false], fun w' _ => ?_, .tuple (.cons (cstA_rel z) (.cons (.bool _) .nil))⟩
            unfold Instr.typeAssert
            rw [Sem.run_bind, run_underlying hu, Result.andThen_ok]
            simp only
            rw [Sem.run_bind, hti, Result.andThen_ok, hm]
            simp only [if_true, Sem.run_bind, run_zeroValue' hj hz, Result.andThen_ok]
            rfl
    · cases hx
      obtain ⟨rfl, h⟩ := some_of_cond h
      obtain ⟨i, z, hi, hz, rfl⟩ := zero_of_found h
      refine ⟨.tuple #[z, .bool false], fun w' _ => ?_, .tuple (.cons (cstA_rel z) (.cons (.bool _) .nil))⟩
      unfold Instr.typeAssert
      rw [Sem.run_bind, run_underlying hu, Result.andThen_ok]
      simp only [if_true, Sem.run_bind, run_zeroValue' hi hz, Result.andThen_ok]
      rfl
    · cases h
  · rename_i d hne hu
    have hni : ∀ ms, d ≠ .interface ms := fun ms e => hne ms e
    split at h
    · rename_i u a
      cases hx with
      | iface ha =>
        rename_i a'
        cases hb : Nat.beq u t with
        | true =>
          have := Nat.eq_of_beq_eq_true hb
          subst this
          rw [hb, cond_true] at h
          simp only [Option.some.injEq] at h; subst h
          refine ⟨if ok then .tuple #[a', .bool true] else a', fun w' _ => ?_, ?_⟩
          · unfold Instr.typeAssert
            rw [Sem.run_bind, run_underlying hu, Result.andThen_ok]
            cases d <;> first | exact absurd rfl (hni _) | (simp only [if_true]; rfl)
          · cases ok with
            | true => exact .tuple (.cons ha (.cons (.bool _) .nil))
            | false => exact ha
        | false =>
          rw [hb, cond_false] at h
          have hut : u ≠ t := by
            intro e; subst e; simp at hb
          obtain ⟨rfl, h⟩ := some_of_cond h
          obtain ⟨i, z, hi, hz, rfl⟩ := zero_of_found h
          refine ⟨.tuple #[z, .bool false], fun w' _ => ?_, .tuple (.cons (cstA_rel z) (.cons (.bool _) .nil))⟩
          unfold Instr.typeAssert
          rw [Sem.run_bind, run_underlying hu, Result.andThen_ok]
          cases d <;> first | exact absurd rfl (hni _) | (simp only [if_neg hut, if_true, Sem.run_bind, run_zeroValue' hi hz, Result.andThen_ok]; rfl)
    · cases hx
      obtain ⟨rfl, h⟩ := some_of_cond h
      obtain ⟨i, z, hi, hz, rfl⟩ := zero_of_found h
      refine ⟨.tuple #[z, .bool false], fun w' _ => ?_, .tuple (.cons (cstA_rel z) (.cons (.bool _) .nil))⟩
      unfold Instr.typeAssert
      rw [Sem.run_bind, run_underlying hu, Result.andThen_ok]
      cases d <;> first | exact absurd rfl (hni _) | (simp only [if_true, Sem.run_bind, run_zeroValue' hi hz, Result.andThen_ok]; rfl)
    · cases h
  · cases h

theorem set_split (L : List Value) (p : Nat) (x : Value) (l : List Value) (h : p < L.length) :
    (L.set p x).take (p + 1) ++ (l ++ (L.set p x).drop (p + 1 + l.length)) = L.take p ++ ((x :: l) ++ L.drop (p + (l.length + 1))) := by
  have e1 : (L.set p x).take (p + 1) = L.take p ++ [x] := by
    rw [List.take_add_one, List.take_set_of_le (Nat.le_refl _)]
    simp [h]
  have e2 : (L.set p x).drop (p + 1 + l.length) = L.drop (p + (l.length + 1)) := by
    rw [List.drop_set_of_lt (by omega)]
    congr 1
    omega
  rw [e1, e2]
  simp

theorem fill_fold : ∀ (l : List Value) (k off : Nat) (cs : Array Value), off + k + l.length ≤ cs.size →
    (l.zipIdx k).foldl (fun cs (p : Value × Nat) => cs.setIfInBounds (off + p.2) p.1) cs = (cs.toList.take (off + k) ++ (l ++ cs.toList.drop (off + k + l.length))).toArray
  | [], k, off, cs, _ => by simp
  | x :: l, k, off, cs, h => by
    simp only [List.length_cons] at h
    rw [List.zipIdx_cons, List.foldl_cons, fill_fold l (k + 1) off _ (by simp; omega)]
    apply Array.ext'
    simp only [Array.toList_setIfInBounds, List.length_cons]
    have := set_split cs.toList (off + k) x l (by simp; omega)
    rw [← this]
    rfl

theorem cellsV_rel {v v' : Value} (h : VR β v v') (hb : nbot v = true) : VRs β (cellsV v) v'.cells.toList := by
  cases h with
  | any => cases hb
  | agg hl => exact hl
  | bool b => exact .cons (.bool b) .nil
  | int k n => exact .cons (.int k n) .nil
  | string s => exact .cons (.string s) .nil
  | pnil => exact .cons .pnil .nil
  | ptr hk => exact .cons (.ptr hk) .nil
  | snil => exact .cons .snil .nil
  | sl h1 h2 h3 h4 h5 h6 h7 => exact .cons (.sl h1 h2 h3 h4 h5 h6 h7) .nil
  | s1 => exact .cons .s1 .nil
  | mnil => exact .cons .mnil .nil
  | map hk => exact .cons (.map hk) .nil
  | func h1 h2 => exact .cons (.func h1 h2) .nil
  | nilFunc => exact .cons .nilFunc .nil
  | nilIface => exact .cons .nilIface .nil
  | iface hv => exact .cons (.iface hv) .nil
  | tuple hl => exact .cons (.tuple hl) .nil

theorem setC_rel {l cs us vs : List Value} (h : VRs β l us) (k : VRs β cs vs) (j : Nat) : VRs β (setC l j cs) (us.take j ++ (vs ++ us.drop (j + vs.length))) := by
  unfold setC
  rw [k.length]
  exact (h.take j).append (k.append (h.drop _))

theorem fillA_sound {ρ : Ev} {a : Act} (hv : ∀ x, VR β (ρ x) (a.eval x)) {place : Nat → Option (Nat × Nat)} :
    ∀ {parts : List (Nat × Operand)} {cells us l : List Value}, VRs β cells us → fillA place ρ cells parts = some l →
      ∃ us' : List Value, Instr.fill place us.toArray (parts.map fun p => (p.1, a.eval p.2)) = some us'.toArray ∧ VRs β l us'
  | [], cells, us, l, hc, h => by
    simp only [fillA, Option.some.injEq] at h
    subst h
    exact ⟨us, rfl, hc⟩
  | (i, x) :: rest, cells, us, l, hc, h => by
    unfold fillA at h
    cases hp : place i with
    | none => simp [hp] at h
    | some pl =>
      obtain ⟨off, size⟩ := pl
      simp only [hp] at h
      have h2 := some_of_cond h
      clear h
      obtain ⟨hg, h⟩ := h2
      simp only [Bool.and_eq_true] at hg
      obtain ⟨hnb, hsz, hle⟩ := hg
      have hsz := Nat.eq_of_beq_eq_true hsz
      have hle := Nat.le_of_ble_eq_true hle
      have hm := cellsV_rel (hv x) hnb
      have hml : (a.eval x).cells.toList.length = (cellsV (ρ x)).length := hm.length
      have hms : (a.eval x).cells.size = (cellsV (ρ x)).length := by simpa using hml
      have hcs := hc.length
      obtain ⟨us', hf, hr⟩ := fillA_sound hv (setC_rel hc hm off) h
      refine ⟨us', ?_, hr⟩
      rw [List.map_cons]
      unfold Instr.fill
      simp only [hp]
      rw [if_neg (by simp [hms, hsz]; omega)]
      rw [← hf]
      congr 1
      have := fill_fold (a.eval x).cells.toList 0 off us.toArray (by simp [hms]; omega)
      rw [← Array.foldl_toList, Array.toList_zipIdx]
      simpa using this

theorem zeroA_sound {t : TypeId} {z : List Value} (h : zeroA P t = some z) : ∃ i v, P.info? t = some i ∧ i.zero = some v ∧ v.cells.toList = z ∧ VRs β z z ∧ z.all flatC = true := by
  unfold zeroA at h
  cases hi : P.info? t with
  | none => simp [hi] at h
  | some i =>
    cases hz : i.zero with
    | none => simp [hi, hz] at h
    | some v =>
      simp only [hi, hz] at h
      obtain ⟨hf, h⟩ := some_of_cond h
      simp only [Option.some.injEq] at h
      subst h
      refine ⟨i, v, rfl, hz, ?_, flats_rel hf, hf⟩
      cases v <;> rfl

theorem buildA_sound {t : TypeId} {parts : Array (Nat × Operand)} {ρ : Ev} {a : Act} {v : Value} (hv : ∀ x, VR β (ρ x) (a.eval x)) (h : buildA P t parts.toList ρ = some v) :
    Sees P q (Instr.build t (parts.map fun (i, x) => (i, a.eval x))) β w v := by
  unfold buildA at h
  split at h
  · rename_i fs hu
    cases hz : zeroA P t with
    | none => simp [hz] at h
    | some z =>
      cases hp : placesA P fs.toList with
      | none => simp [hz, hp] at h
      | some places =>
        simp only [hz, hp] at h
        cases he : fillA (fun i => places[i]?) ρ z parts.toList with
        | none => simp [he] at h
        | some l =>
          simp only [he, Option.some.injEq] at h; subst h
          obtain ⟨i, zv, hi, hzi, hzc, hzr, _⟩ := zeroA_sound (β := β) hz
          obtain ⟨us', hf, hr⟩ := fillA_sound hv hzr he
          refine .just (u := .agg us'.toArray) (fun w' => ?_) (.agg hr)
          have hzc' : zv.cells = z.toArray := by apply Array.ext'; simpa using hzc
          have hf' : Instr.fill (fun x => places[x]?) zv.cells (List.map (fun x => (x.fst, a.eval x.snd)) parts.toList) = some us'.toArray := by
            rw [hzc']; simpa using hf
          simp [Instr.build, run_underlying hu, run_zeroValue' hi hzi, Array.mapM_eq_mapM_toList, run_places w' _ _ hp, hf']
  · rename_i n e hu
    cases hz : zeroA P t with
    | none => simp [hz] at h
    | some z =>
      cases hp : P.info? e with
      | none => simp [hz, hp] at h
      | some ei =>
        simp only [hz, hp] at h
        cases he : fillA (fun i => some (i * ei.size, ei.size)) ρ z parts.toList with
        | none => simp [he] at h
        | some l =>
          simp only [he, Option.some.injEq] at h; subst h
          obtain ⟨i, zv, hi, hzi, hzc, hzr, _⟩ := zeroA_sound (β := β) hz
          obtain ⟨us', hf, hr⟩ := fillA_sound hv hzr he
          refine .just (u := .agg us'.toArray) (fun w' => ?_) (.agg hr)
          have hzc' : zv.cells = z.toArray := by apply Array.ext'; simpa using hzc
          have hf' : Instr.fill (fun i => some (i * ei.size, ei.size)) zv.cells (List.map (fun x => (x.fst, a.eval x.snd)) parts.toList) = some us'.toArray := by
            rw [hzc']; simpa using hf
          unfold Instr.build
          rw [Sem.run_bind, run_zeroValue' hi hzi, Result.andThen_ok, Sem.run_bind, run_underlying hu, Result.andThen_ok]
          simp only
          rw [Sem.run_bind, run_sizeOf' hp, Result.andThen_ok]
          simp [hf']
  · cases h

theorem OV_map {ρ : Ev} {a : Act} (hv : ∀ x, VR β (ρ x) (a.eval x)) (o : Option Operand) : OV β (o.map ρ) (o.map a.eval) := by
  cases o with
  | none => exact .none
  | some x => exact .some (hv x)

end
end Go.Am

set_option linter.unusedVariables false
set_option linter.unusedSimpArgs false
namespace Go.Am
open Go.RowKit
section
variable {P : Program} {R : Nat} {F : Nat → World → Prop} {β : Bm} {H : FW} {w : World} {q : Bool}

theorem pickA_sound {c a b c' a' b' v : Value} (hc : VR β c c') (ha : VR β a a') (hb : VR β b b') (h : pickA c a b = some v) :
    Sees P q (do pure (if ← asBool c' then a' else b')) β w v := by
  unfold pickA at h
  split at h
  · simp only [Option.some.injEq] at h; subst h
    cases hc
    exact .just (fun _ => rfl) ha
  · simp only [Option.some.injEq] at h; subst h
    cases hc
    exact .just (fun _ => rfl) hb
  · cases h

/-- What a nil check lets through. -/
def Through : Value → Prop
  | .pointer (some _) => True
  | .func (.func _) _ _ => True
  | _ => False

theorem nilA_sound {x x' v : Value} (hx : VR β x x') (h : nilA x = some v) : VR β v x' ∧ Through x' := by
  unfold nilA at h
  split at h
  · simp only [Option.some.injEq] at h; subst h
    obtain ⟨k, hsp, hk, rfl⟩ := hx.ptr_inv
    exact ⟨hx, trivial⟩
  · simp only [Option.some.injEq] at h; subst h
    cases hx with
    | func h1 h2 => exact ⟨.func h1 h2, trivial⟩
  · cases h

theorem Sees.next {s : Sem Value} {v : Value} (h : Sees P q s β w v) : ∃ u, (∀ w', q = true ∨ Below w.heap.size w w' → (do pure (Next.value (← s)) : Sem Next).run P w' = .ok (.value u) w') ∧ VR β v u := by
  obtain ⟨u, h1, h2⟩ := h
  exact ⟨u, fun w' hw' => by rw [Sem.run_bind, h1 w' hw']; rfl, h2⟩

theorem look_sound (h : WR P F β H w) {ρ : Ev} {a : Act} (hv : ∀ x, VR β (ρ x) (a.eval x)) {o : Oper} {f : Ev → FW → Option Value} (hc : compA P o.op = .look f) {v : Value} (he : f ρ H = some v) :
    ∃ u, (∀ w', (kindA P o.op == 0) = true ∨ Below w.heap.size w w' → (execOp a.eval o).run P w' = .ok (.value u) w') ∧ VR β v u := by
  have any : ∀ {s : Sem Value}, (∀ w', (execOp a.eval o).run P w' = (do pure (Next.value (← s)) : Sem Next).run P w') → Sees P (kindA P o.op == 0) s β w v →
      ∃ u, (∀ w', (kindA P o.op == 0) = true ∨ Below w.heap.size w w' → (execOp a.eval o).run P w' = .ok (.value u) w') ∧ VR β v u := by
    intro s he hs
    obtain ⟨u, h1, h2⟩ := hs.next
    exact ⟨u, fun w' hw' => by rw [he]; exact h1 w' hw', h2⟩
  have lo : ∀ {s : Sem Value} {q : Bool}, Sees P false s β w v → (q = false) → Sees P q s β w v := by
    intro s q hs hq; rw [hq]; exact hs
  cases ho : o.op with
  | move x =>
    rw [ho] at hc any
    simp only [compA, AI.look.injEq] at hc; subst hc
    simp only [Option.some.injEq] at he; subst he
    exact ⟨a.eval x, fun w' _ => by unfold execOp; rw [ho]; rfl, hv x⟩
  | assign x =>
    rw [ho] at hc any
    simp only [compA, AI.look.injEq] at hc; subst hc
    simp only [Option.some.injEq] at he; subst he
    exact ⟨a.eval x, fun w' _ => by unfold execOp; rw [ho]; rfl, hv x⟩
  | pick c x y =>
    rw [ho] at hc any
    simp only [compA, AI.look.injEq] at hc; subst hc
    refine any (s := do pure (if ← asBool (a.eval c) then a.eval x else a.eval y)) (fun w' => ?_) (pickA_sound (hv c) (hv x) (hv y) he)
    unfold execOp; rw [ho]
    simp only [bind_assoc, pure_bind]
  | load t x =>
    rw [ho] at hc any
    simp only [compA, AI.look.injEq] at hc; subst hc
    exact any (fun w' => by unfold execOp; rw [ho]) (lo (loadA_sound h (hv x) he) rfl)
  | nilCheck x =>
    rw [ho] at hc any
    simp only [compA, AI.look.injEq] at hc; subst hc
    obtain ⟨h1, h2⟩ := nilA_sound (hv x) he
    refine ⟨a.eval x, fun w' _ => ?_, h1⟩
    unfold execOp; rw [ho]
    simp only
    generalize a.eval x = u at h2
    unfold Through at h2
    split at h2
    · rfl
    · rfl
    · exact h2.elim
  | binOp op t x y t2 =>
    rw [ho] at hc any
    simp only [compA, AI.look.injEq] at hc; subst hc
    obtain ⟨u, h1, h2⟩ := binA_sound (P := P) (hv x) (hv y) he
    exact any (fun w' => by unfold execOp; rw [ho]) ⟨u, fun w' _ => h1 w', h2⟩
  | unOp op t x =>
    rw [ho] at hc any
    simp only [compA, AI.look.injEq] at hc; subst hc
    exact any (fun w' => by unfold execOp; rw [ho]) (unA_sound (hv x) he)
  | convert s d x =>
    rw [ho] at hc any
    simp only [compA] at hc
    cases hb : isBytesC P s d with
    | true => rw [hb] at hc; cases hc
    | false =>
      rw [hb] at hc
      simp only [cond_false, AI.look.injEq] at hc; subst hc
      exact any (fun w' => by unfold execOp; rw [ho]) (lo (convA_sound h (hv x) he) (by simp [kindA, hb]))
  | fieldAddr s x f =>
    rw [ho] at hc any
    simp only [compA, AI.look.injEq] at hc; subst hc
    exact any (fun w' => by unfold execOp; rw [ho]) (fieldAddrA_sound (hv x) he)
  | field s x f =>
    rw [ho] at hc any
    simp only [compA, AI.look.injEq] at hc; subst hc
    exact any (fun w' => by unfold execOp; rw [ho]) (fieldA_sound (hv x) he)
  | indexAddr t x i =>
    rw [ho] at hc any
    simp only [compA, AI.look.injEq] at hc; subst hc
    exact any (fun w' => by unfold execOp; rw [ho]) (indexAddrA_sound (hv x) (hv i) he)
  | index t x i =>
    rw [ho] at hc any
    simp only [compA, AI.look.injEq] at hc; subst hc
    exact any (fun w' => by unfold execOp; rw [ho]) (indexA_sound (hv x) (hv i) he)
  | extract x i =>
    rw [ho] at hc any
    simp only [compA, AI.look.injEq] at hc; subst hc
    exact any (fun w' => by unfold execOp; rw [ho]) (extractA_sound (hv x) he)
  | build t parts =>
    rw [ho] at hc any
    simp only [compA, AI.look.injEq] at hc; subst hc
    exact any (fun w' => by unfold execOp; rw [ho]) (buildA_sound hv he)
  | slice t x l hh m =>
    rw [ho] at hc any
    simp only [compA, AI.look.injEq] at hc; subst hc
    exact any (fun w' => by unfold execOp; rw [ho]) (sliceA_sound h (hv x) (OV_map hv l) (OV_map hv hh) (OV_map hv m) he)
  | makeInterface t x =>
    rw [ho] at hc any
    simp only [compA, AI.look.injEq] at hc; subst hc
    exact any (fun w' => by unfold execOp; rw [ho]) (ifaceA_sound (hv x) he)
  | makeFunc fn fs cs =>
    rw [ho] at hc any
    simp only [compA, AI.look.injEq] at hc; subst hc
    simp only [Option.some.injEq] at he; subst he
    refine ⟨.func fn ⟨fs.toList.map a.eval⟩ ⟨cs.toList.map a.eval⟩, fun w' _ => ?_, .func (VRs.map _ _ hv _) (VRs.map _ _ hv _)⟩
    unfold execOp; rw [ho]
    have e : ∀ (l : Array Operand), l.map a.eval = ⟨l.toList.map a.eval⟩ := fun l => by apply Array.ext'; simp
    simp only [e]
    rfl
  | lookup t m k ok =>
    rw [ho] at hc any
    simp only [compA, AI.look.injEq] at hc; subst hc
    exact any (fun w' => by unfold execOp; rw [ho]) (lo (lookupA_sound h (hv m) (hv k) he) rfl)
  | typeAssert x xt t ok =>
    rw [ho] at hc any
    simp only [compA, AI.look.injEq] at hc; subst hc
    exact any (fun w' => by unfold execOp; rw [ho]) (assertA_sound (hv x) he)
  | call c =>
    rw [ho] at hc any
    obtain ⟨callee, args, tys⟩ := c
    have harg : ∀ (b : Builtin), callee = .builtin b → ∀ w', (execOp a.eval o).run P w' =
        (builtin b tys o.type (args.map fun | .const _ => true | _ => false) (args.map a.eval)).run P w' := by
      intro b hb w'
      subst hb
      unfold execOp; rw [ho]
      rfl
    cases callee with
    | builtin b =>
      have mm : ∀ (isMax : Bool), maxMinA isMax (args.toList.map ρ) = some v → (∀ w', (execOp a.eval o).run P w' = (do pure (Next.value (← (if isMax then Builtin.max_ tys o.type (args.map a.eval) else Builtin.min_ tys o.type (args.map a.eval)))) : Sem Next).run P w') →
          ∃ u, (∀ w', (kindA P (.call ⟨.builtin b, args, tys⟩) == 0) = true ∨ Below w.heap.size w w' → (execOp a.eval o).run P w' = .ok (.value u) w') ∧ VR β v u := by
        intro isMax hm he
        refine any he ?_
        have e : args.map a.eval = (args.toList.map a.eval).toArray := by apply Array.ext'; simp
        rw [e]
        exact maxMinA_sound tys o.type (VRs.map _ _ hv _) hm
      cases b with
      | len =>
        simp only [compA, AI.look.injEq] at hc; subst hc
        simp only [callLookA] at he
        split at he
        · rename_i x t r h2 h3
          have ha : args = #[x] := by apply Array.ext'; simpa using h2
          have h0 : tys[0]? = some t := by
            rw [← Array.getElem?_toList, h3]; rfl
          subst ha
          refine any (s := Builtin.len_ tys o.type #[a.eval x]) (fun w' => ?_) (lo (lenA_sound h tys o.type h0 (hv x) he) rfl)
          rw [harg .len rfl, show Array.map a.eval #[x] = #[a.eval x] by simp]; rfl
        · cases he
      | max =>
        simp only [compA, AI.look.injEq] at hc; subst hc
        exact mm true he fun w' => by rw [harg .max rfl]; rfl
      | min =>
        simp only [compA, AI.look.injEq] at hc; subst hc
        exact mm false he fun w' => by rw [harg .min rfl]; rfl
      | _ => simp only [compA, reduceCtorEq] at hc
    | _ => simp only [compA, reduceCtorEq] at hc
  | _ => rw [ho] at hc; simp only [compA, reduceCtorEq] at hc

/-- A computation makes one block, of which x says the truth, and gives a value by its number, of which f says the truth by whatever number. -/
def Makes (P : Program) (s : Sem Next) (β : Bm) (x : AObj) (f : Nat → Value) : Prop :=
  ∃ (ob : Go.Obj) (g : Nat → Value), (∀ w, s.run P w = .ok (.value (g w.heap.size)) (w.alloc ob)) ∧
    (∀ (β' : Bm) (w : World) (id : Nat), BLe β β' → β' id = some (newPl P w ob) → OR β' (w.alloc ob) (newPl P w ob) x ∧ VR β' (f id) (g w.heap.size)) ∧ x.live = true ∧
    (∀ w c e, x = .cells c e → (newPl P w ob).wd = P.cellsOf e)

theorem cells_new {c us : List Value} {e : TypeId} (hc : VRs β c us) : ∀ β' (w : World) (id : Nat), BLe β β' → β' id = some (newPl P w (.cells us.toArray e)) → OR β' (w.alloc (.cells us.toArray e)) (newPl P w (.cells us.toArray e)) (.cells c e) := by
  intro β' w id hle hid
  refine ⟨us.toArray, ⟨_, heap_alloc_new w _, .zero _ _⟩, by simp [newPl, hc.length], fun i v hv => ?_⟩
  obtain ⟨u, hu, hr⟩ := hc.get hv
  exact ⟨u, by simpa [newPl] using hu, hr.up hle⟩

theorem ptr_new (β' : Bm) (w : World) (ob : Go.Obj) (id : Nat) (hid : β' id = some (newPl P w ob)) : VR β' (ptrTo id) (.pointer (some ⟨w.heap.size, 0, none⟩)) := by
  have := VR.ptr (i := 0) hid
  rw [newPl_b, newPl_lo] at this
  exact this

theorem wd_new (c : Array Value) (l : List Value) (e : TypeId) : ∀ (w : World) c' e', AObj.cells l e = .cells c' e' → (newPl P w (.cells c e)).wd = P.cellsOf e' := by
  intro w c' e' h
  cases h
  rfl

theorem zerosA_length (z : List Value) : ∀ n, (zerosA z n).length = n * z.length
  | 0 => by simp [zerosA]
  | n + 1 => by simp [zerosA, zerosA_length z n, Nat.add_mul, Nat.add_comm]

theorem zerosA_get (z : List Value) : ∀ (n j : Nat), j < n * z.length → (zerosA z n)[j]? = z[j % z.length]?
  | 0, j, h => by simp at h
  | n + 1, j, h => by
    unfold zerosA
    rcases Nat.lt_or_ge j z.length with hj | hj
    · rw [List.getElem?_append_left hj, Nat.mod_eq_of_lt hj]
    · rw [List.getElem?_append_right hj, zerosA_get z n (j - z.length) (by rw [Nat.add_mul] at h; omega)]
      congr 1
      rw [← Nat.mod_eq_sub_mod hj]

theorem zeros_array (z : List Value) (n : Nat) (v : Value) (hv : v.cells.toList = z) : (Array.range (n * z.length)).map (fun q => v.cells[q % v.cells.size]!) = (zerosA z n).toArray := by
  have hs : v.cells.size = z.length := by rw [← hv]; simp
  apply Array.ext'
  apply List.ext_getElem?
  intro j
  simp only [Array.toList_map, Array.toList_range, List.getElem?_map]
  rcases Nat.lt_or_ge j (n * z.length) with hj | hj
  · have hpos : 0 < z.length := Nat.pos_of_ne_zero fun e => by rw [e] at hj; simp at hj
    have hm : j % z.length < z.length := Nat.mod_lt _ hpos
    rw [List.getElem?_range hj, zerosA_get z n j hj, List.getElem?_eq_getElem hm]
    simp only [Option.map_some]
    have : j % v.cells.size < v.cells.size := by rw [hs]; exact hm
    rw [getElem!_pos v.cells _ this]
    congr 1
    simp only [hs]
    subst hv
    simp
  · rw [List.getElem?_eq_none (by simpa using hj), List.getElem?_eq_none (by rw [zerosA_length]; exact hj)]
    rfl

theorem wrap_i64 {n : Nat} (h1 : n ≤ 281474976710656) : IntKind.i64.wrap (n : Int) = n := wrap_small _ rfl (by omega) (by omega)

theorem make_sound {ρ : Ev} {a : Act} (hv : ∀ x, VR β (ρ x) (a.eval x)) {o : Oper} {f : Ev → Option (AObj × (Nat → Value))} (hc : compA P o.op = .make f) {x : AObj} {g : Nat → Value} (he : f ρ = some (x, g)) :
    Makes P (execOp a.eval o) β x g := by
  cases ho : o.op with
  | alloc t =>
    rw [ho] at hc
    simp only [compA, AI.make.injEq] at hc; subst hc
    simp only [makeOp] at he
    cases hz : zeroA P t with
    | none => simp [hz] at he
    | some z =>
      simp only [hz] at he
      obtain ⟨hone, he⟩ := some_of_cond he
      simp only [Option.some.injEq, Prod.mk.injEq] at he
      obtain ⟨rfl, rfl⟩ := he
      obtain ⟨i, zv, hi, hzi, hzc, hzr, _⟩ := zeroA_sound (β := β) hz
      refine ⟨.cells z.toArray t, fun n => .pointer (some ⟨n, 0, none⟩), fun w => ?_, fun β' w id hle hid => ⟨cells_new hzr β' w id hle hid, ptr_new β' w _ id hid⟩, rfl, wd_new _ _ _⟩
      have hzc' : zv.cells = z.toArray := by apply Array.ext'; simpa using hzc
      unfold execOp; rw [ho]
      simp only
      unfold Instr.alloc
      rw [Sem.run_bind, Sem.run_bind, run_zeroValue' hi hzi, Result.andThen_ok]
      simp [newVar, newRow, hzc']
  | box t y =>
    rw [ho] at hc
    simp only [compA, AI.make.injEq] at hc; subst hc
    simp only [makeOp] at he
    obtain ⟨hone, he⟩ := some_of_cond he
    simp only [Option.some.injEq, Prod.mk.injEq] at he
    obtain ⟨rfl, rfl⟩ := he
    have hnb : nbot (ρ y) = true := by
      cases hy : ρ y with
      | float k b => rw [hy] at hone; simp [cellsV, oneC] at hone
      | _ => rfl
    have hr := cellsV_rel (hv y) hnb
    refine ⟨.cells (a.eval y).cells.toList.toArray t, fun n => .pointer (some ⟨n, 0, none⟩), fun w => ?_, fun β' w id hle hid => ⟨cells_new hr β' w id hle hid, ptr_new β' w _ id hid⟩, rfl, wd_new _ _ _⟩
    unfold execOp; rw [ho]
    simp [Instr.box, newVar, newRow]
  | makeSlice t l c =>
    rw [ho] at hc
    simp only [compA, AI.make.injEq] at hc; subst hc
    simp only [makeOp] at he
    unfold makeSliceA at he
    split at he
    · rename_i e l' c' hu hl hcc
      cases hi : P.info? e with
      | none => simp [hi] at he
      | some ei =>
        cases hz : zeroA P e with
        | none => simp [hi, hz] at he
        | some z =>
          simp only [hi, hz] at he
          obtain ⟨hg, he⟩ := some_of_cond he
          simp only [Bool.and_eq_true, Nat.blt_eq] at hg
          obtain ⟨hzl, hpos, ⟨hlc, hroom⟩, hby, hone⟩ := hg
          have hzl := Nat.eq_of_beq_eq_true hzl
          have hlc := Nat.le_of_ble_eq_true hlc
          have hroom := Nat.le_of_ble_eq_true hroom
          simp only [Option.some.injEq, Prod.mk.injEq] at he
          obtain ⟨rfl, rfl⟩ := he
          obtain ⟨i', zv, hi', hzi, hzc, hzr, _⟩ := zeroA_sound (β := β) hz
          rw [hi] at hi'; simp only [Option.some.injEq] at hi'; subst hi'
          have hl2 := hv l
          rw [hl] at hl2
          have hc2 := hv c
          rw [hcc] at hc2
          generalize hvl : a.eval l = vl at hl2
          generalize hvc : a.eval c = vc at hc2
          cases hl2
          cases hc2
          have hcs : c' ≤ 281474976710656 := Nat.le_trans (Nat.le_mul_of_pos_right _ hby) hroom
          have hcm : c' ≤ maxLen := by simp only [maxLen]; omega
          have hall : VRs β (zerosA z c') (zerosA z c') := by
            have : ∀ n, VRs β (zerosA z n) (zerosA z n) := by
              intro n
              induction n with
              | zero => exact .nil
              | succ n ih => exact hzr.append ih
            exact this c'
          refine ⟨.cells (zerosA z c').toArray e, fun n => .slice (some ⟨n, 0, none⟩) l' c', fun w => ?_, fun β' w id hle hid => ⟨cells_new hall β' w id hle hid, ?_⟩, rfl, wd_new _ _ _⟩
          · unfold execOp; rw [ho]
            simp only [hvl, hvc]
            unfold Instr.makeSlice
            rw [Sem.run_bind, Sem.run_bind, run_underlying hu, Result.andThen_ok]
            simp only [asInt, asIntOf, pure_bind]
            rw [Sem.run_bind, run_typeInfo' hi, Result.andThen_ok]
            have hwl : IntKind.i64.wrap (Int.ofNat l') = (l' : Int) := wrap_i64 (by omega)
            have hwc : IntKind.i64.wrap (Int.ofNat c') = (c' : Int) := wrap_i64 hcs
            simp only [hwl, hwc]
            have hbig : ¬ ((ei.bytes : Int) * (c' : Int) > 2 ^ 48) := by
              have : (ei.bytes : Int) * (c' : Int) = ((c' * ei.bytes : Nat) : Int) := by
                rw [Int.natCast_mul, Int.mul_comm]
              rw [this]; omega
            rw [if_neg]
            · rw [Sem.run_bind, run_askRoom, Result.andThen_ok, Sem.run_bind, run_sizeOf' hi, Result.andThen_ok]
              have hcn : ((c' : Int)).toNat = c' := by simp
              have hln : ((l' : Int)).toNat = l' := by simp
              simp only [hcn, hln]
              by_cases hz0 : c' * ei.size = 0
              · rw [if_pos hz0]
                have hc0 : c' = 0 := by
                  rcases Nat.mul_eq_zero.1 hz0 with h | h
                  · exact h
                  · omega
                subst hc0
                have hr0 : Array.range 0 = #[] := rfl
                simp [newRow, zerosA, hr0]
              · rw [if_neg hz0]
                have := zeros_array z c' zv hzc
                rw [hzl] at this
                simp [run_zeroValue' hi hzi, newRow, this]
            · simp only [gt_iff_lt, Bool.or_eq_true, decide_eq_true_eq, not_or, Int.not_lt]
              exact ⟨⟨⟨by omega, by omega⟩, by omega⟩, by omega⟩
          · exact .sl (i := 0) hid hlc (by omega) (fun _ => by omega) (by omega) hcm (by omega)
    · cases he
  | buildSlice t len parts =>
    rw [ho] at hc
    simp only [compA, AI.make.injEq] at hc; subst hc
    simp only [makeOp] at he
    unfold buildSliceA at he
    split at he
    · rename_i e hu
      cases hi : P.info? e with
      | none => simp [hi] at he
      | some ei =>
        cases hz : zeroA P e with
        | none => simp [hi, hz] at he
        | some z =>
          simp only [hi, hz] at he
          obtain ⟨hg, he⟩ := some_of_cond he
          simp only [Bool.and_eq_true, Nat.blt_eq] at hg
          obtain ⟨hzl, hpos, hsmall⟩ := hg
          have hzl := Nat.eq_of_beq_eq_true hzl
          have hsmall := Nat.le_of_ble_eq_true hsmall
          cases hf : fillA (fun k => some (k * ei.size, ei.size)) ρ (zerosA z len) parts.toList with
          | none => simp [hf] at he
          | some l =>
            simp only [hf] at he
            obtain ⟨hone, he⟩ := some_of_cond he
            simp only [Option.some.injEq, Prod.mk.injEq] at he
            obtain ⟨rfl, rfl⟩ := he
            obtain ⟨i', zv, hi', hzi, hzc, hzr, _⟩ := zeroA_sound (β := β) hz
            rw [hi] at hi'; simp only [Option.some.injEq] at hi'; subst hi'
            have hall : VRs β (zerosA z len) (zerosA z len) := by
              have : ∀ n, VRs β (zerosA z n) (zerosA z n) := by
                intro n
                induction n with
                | zero => exact .nil
                | succ n ih => exact hzr.append ih
              exact this len
            obtain ⟨us', hfu, hr⟩ := fillA_sound hv hall hf
            have hml : len ≤ maxLen := by
              have : len * 1 ≤ len * ei.size := Nat.mul_le_mul_left _ hpos
              simp only [maxLen]; omega
            refine ⟨.cells us'.toArray e, fun n => .slice (some ⟨n, 0, none⟩) len len, fun w => ?_, fun β' w id hle hid => ⟨cells_new hr β' w id hle hid, ?_⟩, rfl, wd_new _ _ _⟩
            · unfold execOp; rw [ho]
              simp only
              unfold Instr.buildSlice
              rw [Sem.run_bind, Sem.run_bind, run_underlying hu, Result.andThen_ok]
              simp only
              rw [Sem.run_bind, run_sizeOf' hi, Result.andThen_ok, if_neg (by omega)]
              have hza := zeros_array z len zv hzc
              rw [hzl] at hza
              have hparts : (Array.map (fun (x : Nat × Operand) => (x.fst, a.eval x.snd)) parts).toList = List.map (fun p => (p.1, a.eval p.2)) parts.toList := by simp
              by_cases hz0 : len * ei.size = 0
              · rw [if_pos hz0]
                have hl0 : len = 0 := by
                  rcases Nat.mul_eq_zero.1 hz0 with h | h
                  · exact h
                  · omega
                subst hl0
                simp only [zerosA] at hfu
                have hr0 : Array.range 0 = #[] := rfl
                simp [hfu, newRow, hr0]
              · rw [if_neg hz0]
                simp only [bind_assoc, pure_bind]
                rw [Sem.run_bind, run_zeroValue' hi hzi, Result.andThen_ok]
                simp only [hza]
                simp [hfu, newRow]
            · exact .sl (i := 0) hid (Nat.le_refl _) (by omega) (fun _ => by omega) (by omega) hml (by omega)
    · cases he
  | makeMap t r =>
    rw [ho] at hc
    simp only [compA, AI.make.injEq] at hc; subst hc
    cases r with
    | some r => simp only [makeOp, reduceCtorEq] at he
    | none =>
      simp only [makeOp, Option.some.injEq, Prod.mk.injEq] at he
      obtain ⟨rfl, rfl⟩ := he
      refine ⟨.map #[] 0, fun n => .map (some n), fun w => ?_, fun β' w id hle hid => ⟨⟨#[], heap_alloc_new w _, .nil⟩, .map hid⟩, rfl, fun _ _ _ h => by cases h⟩
      unfold execOp; rw [ho]
      rfl
  | range t y =>
    rw [ho] at hc
    simp only [compA, AI.make.injEq] at hc; subst hc
    simp only [makeOp] at he
    split at he
    · rename_i s hu hy
      simp only [Option.some.injEq, Prod.mk.injEq] at he
      obtain ⟨rfl, rfl⟩ := he
      have hy2 := hv y
      rw [hy] at hy2
      generalize hvy : a.eval y = vy at hy2
      cases hy2
      refine ⟨.stringIter s 0, fun n => .pointer (some ⟨n, 0, none⟩), fun w => ?_, fun β' w id hle hid => ⟨⟨rfl, heap_alloc_new w _⟩, ptr_new β' w _ id hid⟩, rfl, fun _ _ _ h => by cases h⟩
      unfold execOp; rw [ho]
      simp only [hvy]
      unfold Instr.range
      rw [Sem.run_bind, Sem.run_bind, run_underlying hu, Result.andThen_ok]
      rfl
    · cases he
  | call c =>
    rw [ho] at hc
    simp only [compA] at hc
    split at hc
    · split at hc <;> cases hc
    · cases hc
  | convert s d y =>
    rw [ho] at hc
    simp only [compA] at hc
    cases hb : isBytesC P s d with
    | true => rw [hb] at hc; cases hc
    | false => rw [hb] at hc; cases hc
  | _ => rw [ho] at hc; simp only [compA, reduceCtorEq] at hc

end
end Go.Am
