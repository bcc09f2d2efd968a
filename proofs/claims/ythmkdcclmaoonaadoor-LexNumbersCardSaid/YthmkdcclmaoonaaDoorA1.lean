/- A store of a run's own, by numbers of its own, and what each operation of the model makes of it: plain functions, for the kernel to compute. No conditions. -/
import Derived.Calls
import Derived.Orders
set_option linter.unusedVariables false
set_option linter.unusedSimpArgs false
namespace Go.Am
noncomputable section

inductive T (α : Type) where
  | nil
  | node (v : Option α) (l r : T α)

def T.get {α : Type} (t : T α) : Nat → Option α :=
  T.rec (motive := fun _ => Nat → Option α) (fun _ => none)
    (fun v _ _ gl gr n => Nat.rec (motive := fun _ => Option α) v (fun m _ => Bool.rec (gr (m / 2)) (gl (m / 2)) (Nat.beq (m % 2) 0)) n) t

def T.one {α : Type} (f : Nat) : Nat → α → T α :=
  Nat.rec (motive := fun _ => Nat → α → T α) (fun _ _ => .nil)
    (fun _ s n x => Nat.rec (motive := fun _ => T α) (.node (some x) .nil .nil)
      (fun m _ => Bool.rec (.node none .nil (s (m / 2) x)) (.node none (s (m / 2) x) .nil) (Nat.beq (m % 2) 0)) n) f

def T.set {α : Type} (t : T α) : Nat → α → T α :=
  T.rec (motive := fun _ => Nat → α → T α) (fun n x => T.one 40 n x)
    (fun v l r sl sr n x => Nat.rec (motive := fun _ => T α) (.node (some x) l r)
      (fun m _ => Bool.rec (.node v l (sr (m / 2) x)) (.node v (sl (m / 2) x) r) (Nat.beq (m % 2) 0)) n) t

/-- A number that T.set takes. -/
def okN (n : Nat) : Bool := Nat.blt n 1099511627770

/-- One block of the run's own: cells (it may lie in a greater block), a map, a walk along a string; or one that is no more. -/
inductive AObj where
  | cells (c : List Value) (e : TypeId)
  | map (es : List MapEntry) (clock : Nat)
  | iter (s : ByteArray) (pos : Nat)
  | dead

structure FW where
  heap : T AObj
  next : Nat

/-- What operands are worth. -/
abbrev Ev := Operand → Value

/-- A value that names no place. -/
def flatC : Value → Bool
  | .bool _ | .int _ _ | .string _ | .nilFunc | .nilIface | .pointer none | .map none => true
  | .slice none 0 0 => true
  | _ => false

/-- Of this one nothing is known. -/
def bot : Value := .float .f32 7

/-- A constant, with a slice's capacity in the store's way. -/
def cstA : Value → Value
  | .float _ _ | .complex _ _ _ | .pointer (some _) | .slice (some _) _ _ | .map (some _) | .chan _ | .func _ _ _ | .iface _ _ => bot
  | .slice none 0 0 => .slice none 0 0
  | .slice none _ _ => bot
  | .agg cs => bif cs.toList.all flatC then .agg cs else bot
  | .tuple cs => bif cs.toList.all flatC then .tuple cs else bot
  | v => v

/-- A cell holds no struct. -/
def oneC : Value → Bool
  | .agg _ | .tuple _ | .float _ _ => false
  | _ => true

def cellsV : Value → List Value
  | .agg cs => cs.toList
  | v => [v]

def nbot : Value → Bool
  | .float _ _ => false
  | _ => true

def aggT (P : Program) (t : TypeId) : Bool :=
  match P.underlying t with
  | some (.struct _) | some (.array _ _) => true
  | _ => false

def someT (P : Program) (t : TypeId) : Bool := (P.underlying t).isSome

/-- Elements of a type are of so many cells. -/
def szOk (P : Program) (e : TypeId) (w : Nat) : Bool :=
  match P.info? e with
  | some i => Nat.beq w i.size
  | none => false

def FW.cells (H : FW) (b : Nat) : Option (List Value × TypeId) :=
  match H.heap.get b with
  | some (.cells c e) => some (c, e)
  | _ => none

def FW.put (H : FW) (r : Nat) (o : AObj) : FW := ⟨H.heap.set r o, H.next⟩

/-- The cells from an address on. -/
def FW.row (H : FW) (a : Addr) (n : Nat) : Option (List Value) :=
  match a.spot with
  | some _ => none
  | none => match H.cells a.block with
    | some (c, _) => bif Nat.ble (a.off + n) c.length then some ((c.drop a.off).take n) else none
    | none => none

def FW.cell (H : FW) (a : Addr) : Option Value :=
  match a.spot with
  | some _ => none
  | none => match H.cells a.block with
    | some (c, _) => c[a.off]?
    | none => none

/-! Operations that only look. -/

def loadA (P : Program) (t : TypeId) (x : Value) (H : FW) : Option Value :=
  match x with
  | .pointer (some a) => bif someT P t then
      (bif aggT P t then (match H.row a (P.cellsOf t) with
        | some l => some (.agg ⟨l⟩)
        | none => none)
      else H.cell a) else none
  | _ => none

def isTrueC : Operand → Bool
  | .const (.bool b) => b
  | _ => false

def isFalseC : Operand → Bool
  | .const (.bool b) => !b
  | _ => false

def pickA (c a b : Value) : Option Value :=
  match c with
  | .bool true => some a
  | .bool false => some b
  | _ => none

def nilA (x : Value) : Option Value :=
  match x with
  | .pointer (some _) => some x
  | .func (.func _) _ _ => some x
  | _ => none

/-- The same as the model's, but quick where the number is small. -/
def wrapF (k : IntKind) (n : Int) : Int :=
  match k with
  | .i64 => (match n with
    | .ofNat m => bif Nat.blt m 9223372036854775808 then .ofNat m else IntKind.i64.wrap (.ofNat m)
    | .negSucc m => bif Nat.blt m 9223372036854775808 then .negSucc m else IntKind.i64.wrap (.negSucc m))
  | .u64 => (match n with
    | .ofNat m => .ofNat (m % 18446744073709551616)
    | .negSucc m => IntKind.u64.wrap (.negSucc m))
  | .u8 => (match n with
    | .ofNat m => .ofNat (m % 256)
    | .negSucc m => IntKind.u8.wrap (.negSucc m))
  | k => k.wrap n

def cmpI (op : BinOp) (a b : Int) : Option Bool :=
  match op with
  | .eql => some (a == b)
  | .neq => some (a != b)
  | .lss => some (decide (a < b))
  | .leq => some (decide (a ≤ b))
  | .gtr => some (decide (a > b))
  | .geq => some (decide (a ≥ b))
  | _ => none

def bitsI (op : BinOp) (k : IntKind) (a b : Int) : Option Int :=
  match op with
  | .and => some (k.wrap (BitVec.ofInt k.bits a &&& BitVec.ofInt k.bits b).toNat)
  | .or => some (k.wrap (BitVec.ofInt k.bits a ||| BitVec.ofInt k.bits b).toNat)
  | .xor => some (k.wrap (BitVec.ofInt k.bits a ^^^ BitVec.ofInt k.bits b).toNat)
  | .andNot => some (k.wrap (BitVec.ofInt k.bits a &&& ~~~ BitVec.ofInt k.bits b).toNat)
  | _ => none

def restI (op : BinOp) (k : IntKind) (a b : Int) : Option Value :=
  match cmpI op a b with
  | some r => some (.bool r)
  | none => match bitsI op k a b with
    | some r => some (.int k r)
    | none => none

def intA (op : BinOp) (k : IntKind) (a : Int) (k' : IntKind) (b : Int) : Option Value :=
  match op with
  | .shl => bif decide (0 ≤ b) then some (.int k (k.wrap (a * 2 ^ min b.toNat k.bits))) else none
  | .shr => bif decide (0 ≤ b) then some (.int k (a.fdiv (2 ^ min b.toNat k.bits))) else none
  | op => bif decide (k = k') then
      (match op with
      | .add => some (.int k (wrapF k (a + b)))
      | .sub => some (.int k (wrapF k (a - b)))
      | .mul => some (.int k (wrapF k (a * b)))
      | .quo => bif decide (b = 0) then none else some (.int k (wrapF k (a.tdiv b)))
      | .rem => bif decide (b = 0) then none else some (.int k (a.tmod b))
      | op => restI op k a b)
    else none

def strA (op : BinOp) (a b : List UInt8) : Option Value :=
  match op with
  | .add => bif Nat.ble (a.length + b.length) 140737488355328 then some (.string ⟨⟨a ++ b⟩⟩) else none
  | .eql => some (.bool (a == b))
  | .neq => some (.bool !(a == b))
  | .lss => some (.bool (Op.bytesLess a b))
  | .leq => some (.bool (Op.bytesLess a b || a == b))
  | .gtr => some (.bool !(Op.bytesLess a b || a == b))
  | .geq => some (.bool !Op.bytesLess a b)
  | _ => none

def isConst : Operand → Bool
  | .const _ => true
  | _ => false

/-- Are two values of a type the same? -/
def eqA (P : Program) : Nat → TypeId → Value → Value → Option Bool
  | 0, _, _, _ => none
  | d + 1, t, x, y => match P.underlying t, x, y with
    | some .bool, .bool a, .bool b => some (a == b)
    | some (.int _), .int k a, .int k' b => bif decide (k = k') then some (decide (a = b)) else none
    | some .string, .string a, .string b => some (a.data.toList == b.data.toList)
    | some (.pointer _), .pointer none, .pointer b => some b.isNone
    | some (.pointer _), .pointer (some _), .pointer none => some false
    | some (.pointer e), .pointer (some a), .pointer (some b) =>
      bif Nat.beq a.block b.block && (a.spot.isNone && (b.spot.isNone && (match P.info? e with
        | some i => Nat.blt 0 i.size
        | none => false))) then some (Nat.beq a.off b.off) else none
    | some (.interface _), .nilIface, .nilIface => some true
    | some (.interface _), .nilIface, .iface _ _ => some false
    | some (.interface _), .iface _ _, .nilIface => some false
    | some (.interface _), .iface tx vx, .iface ty vy =>
      bif Nat.beq tx ty then (match P.info? tx with
        | some i => bif i.comparable then eqA P d tx vx vy else none
        | none => none)
      else some false
    | some (.slice _), .slice none _ _, .slice b _ _ => some b.isNone
    | some (.slice _), .slice (some _) _ _, .slice none _ _ => some false
    | some (.map _ _), .map none, .map b => some b.isNone
    | some (.map _ _), .map (some _), .map none => some false
    | some (.func _ _ _), .nilFunc, .nilFunc => some true
    | some (.func _ _ _), .nilFunc, .func _ _ _ => some false
    | some (.func _ _ _), .func _ _ _, .nilFunc => some false
    | some (.struct fs), .agg xs, .agg ys =>
      bif !P.stoodInHeld t then fs.toList.foldr (fun f r => bif !(f.name == "_") then
          (bif someT P f.type && !aggT P f.type then
            (match xs.toList[f.offset]?, ys.toList[f.offset]? with
            | some a, some b => (match eqA P d f.type a b with
              | some true => r
              | some false => some false
              | none => none)
            | _, _ => none)
          else none)
        else r) (some true)
      else none
    | _, _, _ => none

/-- '==' of what are no numbers and no strings: is it guarded? -/
def guardA (P : Program) (t : TypeId) (p q : Operand) (x y : Value) : Bool :=
  match x, y with
  | .nilIface, .nilIface => isConst p || isConst q
  | .agg _, .agg _ => !P.eqGuardType P.depth t
  | _, _ => true

def eqlA (P : Program) (t : TypeId) (p q : Operand) (x y : Value) : Option Bool :=
  bif guardA P t p q x y then eqA P 5 t x y else none

def binA (P : Program) (op : BinOp) (t : TypeId) (p q : Operand) (x y : Value) : Option Value :=
  match x, y with
  | .int k a, .int k' b => intA op k a k' b
  | .string a, .string b => strA op a.data.toList b.data.toList
  | x, y => match op with
    | .eql => (match eqlA P t p q x y with
      | some r => some (.bool r)
      | none => none)
    | .neq => (match eqlA P t p q x y with
      | some r => some (.bool !r)
      | none => none)
    | _ => none

def unA (op : UnOp) (x : Value) : Option Value :=
  match op, x with
  | .neg, .int k n => some (.int k (wrapF k (0 - n)))
  | .not, .bool b => some (.bool !b)
  | .xor, .int k n => some (.int k (k.wrap (BitVec.ofInt k.bits (if k.signed then -1 else k.max) ^^^ BitVec.ofInt k.bits n).toNat))
  | _, _ => none

def bytesOf : List Value → Option (List UInt8)
  | [] => some []
  | .int .u8 n :: r => (match bytesOf r with
    | some l => some (UInt8.ofNat n.toNat :: l)
    | none => none)
  | _ => none

def convA (P : Program) (src dst : TypeId) (x : Value) (H : FW) : Option Value :=
  match P.underlying src, P.underlying dst, x with
  | some (.int _), some (.int k), .int _ n => some (.int k (wrapF k n))
  | some .string, some .string, .string s => some (.string s)
  | some (.slice e), some .string, .slice none _ _ => (match P.underlying e with
    | some (.int .u8) => some (.string ⟨⟨[]⟩⟩)
    | _ => none)
  | some (.slice e), some .string, .slice (some a) n _ => (match P.underlying e, H.row a n with
    | some (.int .u8), some l => (match bytesOf l with
      | some bs => some (.string ⟨⟨bs⟩⟩)
      | none => none)
    | _, _ => none)
  | _, _, _ => none

def fieldAddrA (P : Program) (s : TypeId) (x : Value) (f : Nat) : Option Value :=
  match P.underlying s, x with
  | some (.struct fs), .pointer (some a) =>
    (match fs[f]? with
    | some fd => (match P.info? fd.type with
      | some fi => bif Nat.blt 0 fi.size && a.spot.isNone then some (.pointer (some ⟨a.block, a.off + fd.offset, none⟩)) else none
      | none => none)
    | none => none)
  | _, _ => none

def partA (P : Program) (t : TypeId) (cs : List Value) (off : Nat) : Option Value :=
  bif someT P t then
    (bif aggT P t then (bif Nat.ble (off + P.cellsOf t) cs.length then some (.agg ⟨(cs.drop off).take (P.cellsOf t)⟩) else none)
    else cs[off]?)
  else none

def fieldA (P : Program) (s : TypeId) (x : Value) (f : Nat) : Option Value :=
  match P.underlying s, x with
  | some (.struct fs), .agg cs =>
    (match fs[f]? with
    | some fd => partA P fd.type cs.toList fd.offset
    | none => none)
  | _, _ => none

def indexAddrA (P : Program) (t : TypeId) (x ix : Value) : Option Value :=
  match ix with
  | .int _ (.ofNat i) => (match P.underlying t, x with
    | some (.slice e), .slice (some a) n _ => (match P.info? e with
      | some ei => bif Nat.blt i n && a.spot.isNone then some (.pointer (some ⟨a.block, a.off + i * ei.size, none⟩)) else none
      | none => none)
    | some (.array n e), .pointer (some a) => (match P.info? e with
      | some ei => bif Nat.blt i n && a.spot.isNone then some (.pointer (some ⟨a.block, a.off + i * ei.size, none⟩)) else none
      | none => none)
    | _, _ => none)
  | _ => none

def indexA (P : Program) (t : TypeId) (x ix : Value) : Option Value :=
  match ix with
  | .int _ (.ofNat i) => (match P.underlying t, x with
    | some .string, .string s => (match s.data.toList[i]? with
      | some b => some (.int .u8 b.toNat)
      | none => none)
    | some (.array n e), .agg cs => (match P.info? e with
      | some ei => bif Nat.blt i n then partA P e cs.toList (i * ei.size) else none
      | none => none)
    | _, _ => none)
  | _ => none

def extractA (x : Value) (i : Nat) : Option Value :=
  match x with
  | .tuple vs => vs.toList[i]?
  | _ => none

def natOf : Value → Option Nat
  | .int _ (.ofNat n) => some n
  | _ => none

def boundOf (d : Nat) : Option Value → Option Nat
  | none => some d
  | some v => natOf v

def moveA (a : Addr) (n : Nat) : Addr := ⟨a.block, a.off + n, none⟩

/-- A slice's third number is twice its capacity, and one more if it is only known to be as great. -/
def wdOk (P : Program) (H : FW) (b w : Nat) : Bool :=
  match H.heap.get b with
  | some (.cells _ e) => szOk P e w
  | _ => false

def sliceS (P : Program) (H : FW) (w : Nat) (a : Addr) (c l h : Nat) : Option Value :=
  bif Nat.ble l h && (Nat.ble h (c / 2) && a.spot.isNone) then
    (bif Nat.blt l (c / 2) then (bif Nat.beq (c % 2) 0 || (Nat.beq l 0 || wdOk P H a.block w) then some (.slice (some (moveA a (l * w))) (h - l) (c - 2 * l)) else none)
    else bif Nat.beq (c % 2) 0 then some (.slice (some a) 0 0) else some (.slice (some a) 0 1))
  else none

def sliceM (w : Nat) (a : Addr) (c l h m : Nat) : Option Value :=
  bif Nat.ble l h && (Nat.ble h m && (Nat.ble m (c / 2) && (a.spot.isNone && !Nat.beq c 1))) then
    some (.slice (some (bif Nat.beq m l then a else moveA a (l * w))) (h - l) (2 * (m - l))) else none

def sliceA (P : Program) (t : TypeId) (x : Value) (lo hi mx : Option Value) (H : FW) : Option Value :=
  match P.underlying t, x with
  | some .string, .string s =>
    (match boundOf 0 lo, boundOf s.data.toList.length hi, mx with
    | some l, some h, none => bif Nat.ble l h && Nat.ble h s.data.toList.length then some (.string ⟨⟨(s.data.toList.drop l).take (h - l)⟩⟩) else none
    | _, _, _ => none)
  | some (.slice e), .slice none 0 0 =>
    (match P.info? e, boundOf 0 lo, boundOf 0 hi, mx with
    | some _, some 0, some 0, none => some (.slice none 0 0)
    | _, _, _, _ => none)
  | some (.slice e), .slice (some a) n c =>
    (match P.info? e, boundOf 0 lo, boundOf n hi with
    | some i, some l, some h => (match mx with
      | none => sliceS P H i.size a c l h
      | some v => (match hi, natOf v with
        | some _, some m => sliceM i.size a c l h m
        | _, _ => none))
    | _, _, _ => none)
  | some (.array n e), .pointer (some a) =>
    (match P.info? e, boundOf 0 lo, boundOf n hi, mx with
    | some i, some l, some h, none => bif Nat.ble n 1000000 then sliceS P H i.size a (2 * n) l h else none
    | _, _, _, _ => none)
  | _, _ => none

def setC (c : List Value) (off : Nat) (l : List Value) : List Value := c.take off ++ (l ++ c.drop (off + l.length))

def fillA (place : Nat → Option (Nat × Nat)) (ρ : Ev) : List Value → List (Nat × Operand) → Option (List Value)
  | cells, [] => some cells
  | cells, (i, x) :: rest =>
    (match place i with
    | some (off, size) =>
      (match cellsV (ρ x) with
      | l => bif nbot (ρ x) && (Nat.beq l.length size && Nat.ble (off + l.length) cells.length) then fillA place ρ (setC cells off l) rest else none)
    | none => none)

def zeroA (P : Program) (t : TypeId) : Option (List Value) :=
  match P.info? t with
  | some i => (match i.zero with
    | some v => bif (cellsV v).all flatC then some (cellsV v) else none
    | none => none)
  | none => none

def placesA (P : Program) (fs : List Field) : Option (List (Nat × Nat)) := fs.mapM fun f => (P.info? f.type).map fun i => (f.offset, i.size)

def buildA (P : Program) (t : TypeId) (parts : List (Nat × Operand)) (ρ : Ev) : Option Value :=
  match P.underlying t with
  | some (.struct fs) =>
    (match zeroA P t, placesA P fs.toList with
    | some z, some places => (match fillA (fun i => places[i]?) ρ z parts with
      | some l => some (.agg ⟨l⟩)
      | none => none)
    | _, _ => none)
  | some (.array _ e) =>
    (match zeroA P t, P.info? e with
    | some z, some ei => (match fillA (fun i => some (i * ei.size, ei.size)) ρ z parts with
      | some l => some (.agg ⟨l⟩)
      | none => none)
    | _, _ => none)
  | _ => none

def keyA (kd : TypeDesc) (k k' : Value) : Option Bool :=
  match kd, k, k' with
  | .int _, .int k a, .int k' b => bif decide (k = k') then some (decide (a = b)) else none
  | .string, .string a, .string b => some (a.data.toList == b.data.toList)
  | .bool, .bool a, .bool b => some (a == b)
  | _, _, _ => none

/-- Keys that may be asked. -/
def plainK (kd : TypeDesc) (k : Value) : Bool :=
  match kd, k with
  | .int _, .int _ _ => true
  | .string, .string _ => true
  | .bool, .bool _ => true
  | _, _ => false

def findA (kd : TypeDesc) (k : Value) : List MapEntry → Nat → Option (Option (Nat × Value))
  | [], _ => some none
  | e :: es, i => match keyA kd k e.key with
    | some true => some (some (i, e.val))
    | some false => findA kd k es (i + 1)
    | none => none

def FW.mapOf (H : FW) (r : Nat) : Option (List MapEntry × Nat) :=
  match H.heap.get r with
  | some (.map es c) => some (es, c)
  | _ => none

def foundA (P : Program) (e : TypeId) (ok : Bool) (r : Option (Nat × Value)) : Option Value :=
  match r with
  | some (_, v) => some (bif ok then .tuple ⟨[v, .bool true]⟩ else v)
  | none => match P.info? e with
    | some i => (match i.zero with
      | some z => some (bif ok then .tuple ⟨[cstA z, .bool false]⟩ else cstA z)
      | none => none)
    | none => none

def lookupA (P : Program) (t : TypeId) (m k : Value) (ok : Bool) (H : FW) : Option Value :=
  match P.underlying t with
  | some (.map kt e) => (match P.underlying kt with
    | some kd => bif plainK kd k then
      (match m with
      | .map none => foundA P e ok none
      | .map (some r) => (match H.mapOf r with
        | some (es, _) => (match findA kd k es 0 with
          | some r => foundA P e ok r
          | none => none)
        | none => none)
      | _ => none)
      else none
    | none => none)
  | _ => none

def lenA (P : Program) (t : TypeId) (x : Value) (H : FW) : Option Value :=
  match P.underlying t, x with
  | some .string, .string s => some (.int .i64 (.ofNat s.data.toList.length))
  | some (.slice _), .slice _ n _ => some (.int .i64 (.ofNat n))
  | some (.map _ _), .map none => some (.int .i64 0)
  | some (.map _ _), .map (some r) => (match H.mapOf r with
    | some (es, _) => some (.int .i64 (.ofNat es.length))
    | none => none)
  | _, _ => none

def maxA (isMax : Bool) (x : Int) : List Value → Option Value
  | [] => some (.int .i64 x)
  | .int .i64 y :: r => maxA isMax (bif isMax then (bif decide (y > x) then y else x) else (bif decide (y < x) then y else x)) r
  | _ => none

def maxMinA (isMax : Bool) : List Value → Option Value
  | .int .i64 x :: r => maxA isMax x r
  | _ => none

def callLookA (P : Program) (ρ : Ev) (c : Call) (H : FW) : Option Value :=
  match c.callee with
  | .builtin .len => (match c.args.toList, c.argTypes.toList with
    | [x], t :: _ => lenA P t (ρ x) H
    | _, _ => none)
  | .builtin .max => maxMinA true (c.args.toList.map ρ)
  | .builtin .min => maxMinA false (c.args.toList.map ρ)
  | _ => none

def ifaceA (P : Program) (t : TypeId) (x : Value) : Option Value :=
  match P.underlying t with
  | some (.interface _) => none
  | some _ => some (.iface t x)
  | none => none

/-- Has a type all methods that are wanted? -/
def hasA (P : Program) (u : TypeId) (want : Array (String × TypeId)) : Option Bool :=
  match P.info? u with
  | some i => some (want.toList.all fun x => i.methods.toList.any fun m => m.name == x.1 && m.sig == x.2)
  | none => none

def assertA (P : Program) (x : Value) (t : TypeId) (ok : Bool) : Option Value :=
  match P.underlying t with
  | some (.interface want) => (match x with
    | .iface u v => (match hasA P u want with
      | some true => some (bif ok then .tuple ⟨[.iface u v, .bool true]⟩ else .iface u v)
      | some false => bif ok then foundA P t true none else none
      | none => none)
    | .nilIface => bif ok then foundA P t true none else none
    | _ => none)
  | some _ => (match x with
    | .iface u v => bif Nat.beq u t then some (bif ok then .tuple ⟨[v, .bool true]⟩ else v) else bif ok then foundA P t true none else none
    | .nilIface => bif ok then foundA P t true none else none
    | _ => none)
  | none => none

def lookOp (P : Program) (ρ : Ev) (op : Op) (H : FW) : Option Value :=
  match op with
  | .move x => some (ρ x)
  | .assign x => some (ρ x)
  | .pick c a b => pickA (ρ c) (ρ a) (ρ b)
  | .load t a => loadA P t (ρ a) H
  | .nilCheck x => nilA (ρ x)
  | .binOp op t x y _ => binA P op t x y (ρ x) (ρ y)
  | .unOp op _ x => unA op (ρ x)
  | .convert s d x => convA P s d (ρ x) H
  | .fieldAddr s x f => fieldAddrA P s (ρ x) f
  | .field s x f => fieldA P s (ρ x) f
  | .indexAddr t x i => indexAddrA P t (ρ x) (ρ i)
  | .index t x i => indexA P t (ρ x) (ρ i)
  | .extract x i => extractA (ρ x) i
  | .build t parts => buildA P t parts.toList ρ
  | .slice t x lo hi mx => sliceA P t (ρ x) (lo.map ρ) (hi.map ρ) (mx.map ρ) H
  | .makeInterface t x => ifaceA P t (ρ x)
  | .makeFunc fn fs cs => some (.func fn ⟨fs.toList.map ρ⟩ ⟨cs.toList.map ρ⟩)
  | .lookup t m k ok => lookupA P t (ρ m) (ρ k) ok H
  | .typeAssert x _ t ok => assertA P (ρ x) t ok
  | .call c => callLookA P ρ c H
  | _ => none

/-! Operations that make one block. -/

def ptrTo (r : Nat) : Value := .pointer (some ⟨r, 0, none⟩)

def zerosA (z : List Value) : Nat → List Value
  | 0 => []
  | n + 1 => z ++ zerosA z n

def makeSliceA (P : Program) (t : TypeId) (l c : Value) : Option (AObj × (Nat → Value)) :=
  match P.underlying t, l, c with
  | some (.slice e), .int .i64 (.ofNat l), .int .i64 (.ofNat c) =>
    (match P.info? e, zeroA P e with
    | some i, some z =>
      bif Nat.beq z.length i.size && (Nat.blt 0 i.size && (Nat.ble l c && Nat.ble (c * i.bytes) 281474976710656 && (Nat.blt 0 i.bytes && z.all oneC))) then
        some (.cells (zerosA z c) e, fun r => .slice (some ⟨r, 0, none⟩) l (2 * c))
      else none
    | _, _ => none)
  | _, _, _ => none

def buildSliceA (P : Program) (t : TypeId) (len : Nat) (parts : List (Nat × Operand)) (ρ : Ev) : Option (AObj × (Nat → Value)) :=
  match P.underlying t with
  | some (.slice e) =>
    (match P.info? e, zeroA P e with
    | some i, some z =>
      bif Nat.beq z.length i.size && (Nat.blt 0 i.size && Nat.ble (len * i.size) 16777216) then
        (match fillA (fun k => some (k * i.size, i.size)) ρ (zerosA z len) parts with
        | some l => bif l.all oneC then some (.cells l e, fun r => .slice (some ⟨r, 0, none⟩) len (2 * len)) else none
        | none => none)
      else none
    | _, _ => none)
  | _ => none

def makeOp (P : Program) (ρ : Ev) (op : Op) : Option (AObj × (Nat → Value)) :=
  match op with
  | .alloc t => (match zeroA P t with
    | some z => bif z.all oneC then some (.cells z t, ptrTo) else none
    | none => none)
  | .box t x => bif (cellsV (ρ x)).all oneC then some (.cells (cellsV (ρ x)) t, ptrTo) else none
  | .makeSlice t l c => makeSliceA P t (ρ l) (ρ c)
  | .buildSlice t n parts => buildSliceA P t n parts.toList ρ
  | .makeMap _ none => some (.map [] 0, fun r => .map (some r))
  | .range t x => (match P.underlying t, ρ x with
    | some .string, .string s => some (.iter s 0, ptrTo)
    | _, _ => none)
  | _ => none

/-! Operations that write: nothing below R. -/

/-- Cells are laid into a block. -/
def FW.lay (R : Nat) (H : FW) (a : Addr) (l : List Value) : Option FW :=
  match a.spot with
  | some _ => none
  | none => bif Nat.ble R a.block && okN a.block then (match H.cells a.block with
    | some (c, e) => bif Nat.ble (a.off + l.length) c.length && l.all oneC then some (H.put a.block (.cells (setC c a.off l) e)) else none
    | none => none) else none

def storeA (P : Program) (R : Nat) (t : TypeId) (x v : Value) (H : FW) : Option FW :=
  match x with
  | .pointer (some a) => bif szOk P t (cellsV v).length then H.lay R a (cellsV v) else none
  | _ => none

def FW.push (H : FW) (o : AObj) : Option FW :=
  match H.heap.get H.next with
  | some _ => none
  | none => bif okN H.next then some ⟨H.heap.set H.next o, H.next + 1⟩ else none

def srcCells (P : Program) (H : FW) (e size : Nat) : Value → Option (List Value)
  | .slice none _ _ => some []
  | .slice (some _) 0 _ => some []
  | .slice (some a) (n + 1) _ => H.row a ((n + 1) * size)
  | .string s => (match P.underlying e with
    | some (.int .u8) => some (s.data.toList.map fun b => .int .u8 b.toNat)
    | _ => none)
  | _ => none

def lenV : Value → Nat
  | .slice _ n _ => n
  | .string s => s.data.toList.length
  | _ => 0

def grownA (H : FW) (cells : List Value) (e n : Nat) : Option (Value × FW) :=
  match H.push (.cells cells e) with
  | some H' => some (.slice (some ⟨H.next, 0, none⟩) n (2 * n + 1), H')
  | none => none

/-- What is appended to a slice that has a block. -/
def appendTo (R : Nat) (e size bytes : Nat) (a : Addr) (n c m : Nat) (news : List Value) (H : FW) : Option (Value × FW) :=
  bif Nat.ble (n + m) (c / 2) then
    (match H.lay R (moveA a (n * size)) news with
    | some H' => bif a.spot.isNone then some (.slice (some a) (n + m) c, H') else none
    | none => none)
  else
    (match H.row a (n * size), H.cells a.block with
    | some olds, some (_, e') =>
      bif Nat.beq e' e then (bif Nat.ble ((n + m) * bytes) 140737488355328 && (olds.all oneC && news.all oneC) then
        (bif Nat.beq (c % 2) 0 then grownA H (olds ++ news) e (n + m)
        else bif Nat.ble R a.block && (okN a.block && Nat.blt 1 c) then grownA (H.put a.block .dead) (olds ++ news) e (n + m) else none)
      else none) else none
    | _, _ => none)

def appendA (P : Program) (R : Nat) (t t' : TypeId) (s x : Value) (H : FW) : Option (Value × FW) :=
  match P.underlying t, P.underlying t' with
  | some (.slice e), some td =>
    (match P.info? e, (match td with | .slice _ => true | .string => true | _ => false) with
    | some i, true =>
      (match zeroA P e, srcCells P H e i.size x with
      | some z, some news =>
        bif Nat.beq z.length i.size && (Nat.blt 0 i.size && (Nat.blt 0 i.bytes && Nat.beq news.length (lenV x * i.size))) then
          (match lenV x with
          | 0 => (match s with
            | .slice _ _ _ => some (s, H)
            | _ => none)
          | m + 1 => (match s with
            | .slice none 0 0 => bif Nat.ble ((m + 1) * i.bytes) 140737488355328 && news.all oneC then grownA H news e (m + 1) else none
            | .slice (some a) n c => appendTo R e i.size i.bytes a n c (m + 1) news H
            | _ => none))
        else none
      | _, _ => none)
    | _, _ => none)
  | _, _ => none

def copyA (P : Program) (R : Nat) (t : TypeId) (d x : Value) (H : FW) : Option (Value × FW) :=
  match P.underlying t, d with
  | some (.slice e), .slice _ 0 _ =>
    (match P.info? e, x with
    | some _, .slice _ _ _ => some (.int .i64 (.ofNat 0), H)
    | some _, .string _ => some (.int .i64 (.ofNat 0), H)
    | _, _ => none)
  | some (.slice e), .slice (some a) (n + 1) _ =>
    (match P.info? e with
    | some i => (match srcCells P H e i.size x with
      | some news => bif Nat.beq news.length (lenV x * i.size) then
        (match H.lay R a (news.take (min (lenV x) (n + 1) * i.size)) with
        | some H' => some (.int .i64 (.ofNat (min (lenV x) (n + 1))), H')
        | none => none) else none
      | none => none)
    | none => none)
  | _, _ => none

def clearA (P : Program) (R : Nat) (t : TypeId) (x : Value) (H : FW) : Option (Value × FW) :=
  match P.underlying t, x with
  | some (.slice _), .slice none _ _ => some (.tuple ⟨[]⟩, H)
  | some (.slice _), .slice (some _) 0 _ => some (.tuple ⟨[]⟩, H)
  | some (.slice e), .slice (some a) (n + 1) _ => (match zeroA P e with
    | some z => (match H.lay R a (zerosA z (n + 1)) with
      | some H' => some (.tuple ⟨[]⟩, H')
      | none => none)
    | none => none)
  | _, _ => none

def setEntry (es : List MapEntry) (i : Nat) (key v : Value) : List MapEntry :=
  match es, i with
  | [], _ => []
  | e :: r, 0 => ⟨key, v, e.born⟩ :: r
  | e :: r, i + 1 => e :: setEntry r i key v

def mapUpdateA (P : Program) (R : Nat) (t : TypeId) (m k v : Value) (H : FW) : Option FW :=
  match P.underlying t, m with
  | some (.map kt _), .map (some r) => bif Nat.ble R r && okN r then
      (match P.underlying kt, H.mapOf r with
      | some kd, some (es, clock) => bif plainK kd k then
          (match findA kd k es 0 with
          | some (some (i, _)) => some (H.put r (.map (setEntry es i k v) clock))
          | some none => some (H.put r (.map (es ++ [⟨k, v, clock⟩]) (clock + 1)))
          | none => none)
        else none
      | _, _ => none)
    else none
  | _, _ => none

def nextA (R : Nat) (it : Value) (isString : Bool) (H : FW) : Option (Value × FW) :=
  match it, isString with
  | .pointer (some ⟨r, 0, none⟩), true =>
    (match H.heap.get r with
    | some (.iter s pos) => bif Nat.ble R r && okN r then
        (bif Nat.blt pos s.data.toList.length then
          (match Utf8.decode s pos with
          | (c, width) => some (.tuple ⟨[.bool true, .int .i64 (.ofNat pos), .int .i32 c]⟩, H.put r (.iter s (pos + width))))
        else some (.tuple ⟨[.bool false]⟩, H))
      else none
    | _ => none)
  | _, _ => none

def callWriteA (P : Program) (R : Nat) (ρ : Ev) (c : Call) (H : FW) : Option (Value × FW) :=
  match c.callee with
  | .builtin .append => (match c.args.toList, c.argTypes.toList with
    | [s, x], t :: t' :: _ => appendA P R t t' (ρ s) (ρ x) H
    | _, _ => none)
  | .builtin .copy => (match c.args.toList, c.argTypes.toList with
    | [s, x], t :: _ => copyA P R t (ρ s) (ρ x) H
    | _, _ => none)
  | .builtin .clear => (match c.args.toList, c.argTypes.toList with
    | [x], t :: _ => clearA P R t (ρ x) H
    | _, _ => none)
  | _ => none

def unit1 (r : Option FW) : Option (Value × FW) :=
  match r with
  | some H => some (undef, H)
  | none => none

/-- Is it a string made a row of bytes? -/
def isBytesC (P : Program) (s d : TypeId) : Bool :=
  match P.underlying s, P.underlying d with
  | some .string, some (.slice e) => (match P.underlying e with
    | some (.int .u8) => true
    | _ => false)
  | _, _ => false

def bytesA (P : Program) (d : TypeId) (x : Value) (H : FW) : Option (Value × FW) :=
  match P.underlying d, x with
  | some (.slice e), .string s => bif Nat.ble s.data.toList.length 281474976710656 && Nat.beq (P.cellsOf e) 1 then grownA H (s.data.toList.map fun b => .int .u8 b.toNat) e s.data.toList.length else none
  | _, _ => none

def writeOp (P : Program) (R : Nat) (ρ : Ev) (op : Op) (H : FW) : Option (Value × FW) :=
  match op with
  | .store t a x => unit1 (storeA P R t (ρ a) (ρ x) H)
  | .mapUpdate t m k x => unit1 (mapUpdateA P R t (ρ m) (ρ k) (ρ x) H)
  | .insert t m k x => unit1 (mapUpdateA P R t (ρ m) (ρ k) (ρ x) H)
  | .next it s => nextA R (ρ it) s H
  | .call c => callWriteA P R ρ c H
  | _ => none

end
end Go.Am
