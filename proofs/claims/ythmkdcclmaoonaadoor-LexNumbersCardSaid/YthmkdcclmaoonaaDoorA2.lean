/- A run of a program on a store of its own: regions, code, calls. Plain functions, for the kernel to compute. No conditions. -/
import Derived.Test.YthmkdcclmaoonaaDoorA1
import Derived.Lib.Bytealg
import Derived.Lib.Index
set_option linter.unusedVariables false
set_option linter.unusedSimpArgs false
namespace Go.Am
noncomputable section

/-- What an operation does: 0: it looks at slots; 1: it looks at memory too; 2: it makes a block; 3: it writes; 4: it calls. -/
def kindA (P : Program) : Op → Nat
  | .move _ | .assign _ | .pick .. | .nilCheck _ | .binOp .. | .unOp .. | .fieldAddr .. | .field .. | .indexAddr .. | .index .. | .extract .. | .build .. | .slice .. | .makeInterface .. | .makeFunc .. | .typeAssert .. => 0
  | .load .. | .lookup .. => 1
  | .convert s d _ => bif isBytesC P s d then 3 else 1
  | .alloc _ | .box .. | .buildSlice .. | .makeSlice .. | .makeMap .. | .range .. => 2
  | .call c => (match c.callee with
    | .builtin b => (match b with
      | .max | .min => 0
      | .len => 1
      | _ => 3)
    | _ => 4)
  | _ => 3

/-- The slots: those of this region, the latest first; and those that live beyond a region. -/
structure TM where
  loc : List (Nat × Value)
  out : T Value

def scanL (l : List (Nat × Value)) (d : Value) (t : Nat) : Value :=
  List.rec (motive := fun _ => Value) d (fun p _ ih => Bool.rec ih p.2 (Nat.beq p.1 t)) l

def outV (lv : Nat → Bool) (o : T Value) (t : Nat) : Value :=
  bif lv t then (match T.get o t with
    | some v => v
    | none => bot) else bot

def TM.val (lv : Nat → Bool) (tm : TM) (t : Nat) : Value := scanL tm.loc (outV lv tm.out t) t

def TM.put (tm : TM) (t : Nat) (v : Value) : TM := ⟨(t, v) :: tm.loc, tm.out⟩

def flushL (lv : Nat → Bool) (l : List (Nat × Value)) (o : T Value) : T Value :=
  List.rec (motive := fun _ => T Value) o (fun p _ ih => Bool.rec ih (T.set ih p.1 p.2) (lv p.1)) l

/-- At a region's end: only what lives beyond it stays. -/
def TM.flush (lv : Nat → Bool) (tm : TM) : TM := ⟨[], flushL lv tm.loc tm.out⟩

def ev (lv : Nat → Bool) (tm : TM) : Ev
  | .tmp t => TM.val lv tm t
  | .const v => cstA v
  | .global g => bif Nat.blt g 512 then .pointer (some ⟨g, 0, none⟩) else bot
  | .func f => .func (.func f) ⟨[]⟩ ⟨[]⟩

def putT (tm : TM) (dst : Option Tmp) (v : Value) : Option TM :=
  match dst with
  | none => some tm
  | some t => bif okN t then some (tm.put t v) else none

def boolIs (want : Bool) : Value → Bool
  | .bool b => bif want then b else !b
  | _ => false

/-- When an operation is wanted. -/
inductive AG where
  | always
  | never
  | on (t : Tmp) (want : Bool)

def guardOf (ops : Array Oper) (o : Oper) : AG :=
  match o.guard with
  | none => .always
  | some (j, want) => (match (ops[j]?).bind (·.dst) with
    | some t => .on t want
    | none => .never)

def AG.holds (lv : Nat → Bool) (tm : TM) : AG → Bool
  | .always => true
  | .never => false
  | .on t want => boolIs want (TM.val lv tm t)

abbrev St := TM × FW
abbrev CallF := FuncId → List Value → FW → Option (Value × FW)

def plainV : Value → Bool
  | .tuple vs => vs.toList.all flatC
  | .agg vs => vs.toList.all flatC
  | v => flatC v

/-- A method of a type that is its own, and takes what the interface holds. -/
def methodA (P : Program) (t : TypeId) (name : String) : Option FuncId :=
  match P.info? t with
  | some i => (match i.methods.find? (·.name == name) with
    | some m => bif m.path.toList.isEmpty then (match m.func, P.underlying t with
      | some (f, true), some (.pointer _) => some f
      | some (_, false), some (.pointer _) => none
      | some (f, false), some _ => some f
      | _, _ => none) else none
    | none => none)
  | none => none

/-- The callee and the arguments of a call of a function. -/
def calleeA (P : Program) (ρ : Ev) (c : Call) : Option (FuncId × List Value) :=
  match c.callee with
  | .value x => (match ρ x with
    | .func (.func f) fs cs => some (f, fs.toList ++ (c.args.toList.map ρ ++ cs.toList))
    | _ => none)
  | .invoke recv name => (match ρ recv with
    | .iface t v => (match methodA P t name with
      | some f => some (f, v :: c.args.toList.map ρ)
      | none => none)
    | _ => none)
  | _ => none

def finT (tm : TM) (dst : Option Tmp) (v : Value) (H : FW) : Option St :=
  match putT tm dst v with
  | some tm' => some (tm', H)
  | none => none

def finO (tm : TM) (dst : Option Tmp) (v : Option Value) (H : FW) : Option St :=
  match v with
  | some v => finT tm dst v H
  | none => none

def finM (tm : TM) (dst : Option Tmp) (m : Option (AObj × (Nat → Value))) (H : FW) (id next : Nat) : Option St :=
  match m with
  | some (ob, val) => (match FW.push ⟨H.heap, id⟩ ob with
    | some H' => finT tm dst (val id) ⟨H'.heap, next⟩
    | none => none)
  | none => none

def finW (tm : TM) (dst : Option Tmp) (r : Option (Value × FW)) : Option St :=
  match r with
  | some (v, H) => finT tm dst v H
  | none => none

def finC (call : CallF) (look : Bool) (tm : TM) (dst : Option Tmp) (c : Option (FuncId × List Value)) (H : FW) : Option St :=
  match c with
  | some (f, vs) => (match call f vs H with
    | some (v, H') => bif !look || plainV v then finT tm dst v (bif look then H else H') else none
    | none => none)
  | none => none

/-- An operation, made ready. -/
inductive AI where
  | look (f : Ev → FW → Option Value)
  | make (f : Ev → Option (AObj × (Nat → Value)))
  | write (f : Nat → Ev → FW → Option (Value × FW))
  | call (f : Ev → Option (FuncId × List Value))

def compA (P : Program) (op : Op) : AI :=
  match op with
  | .move x => .look fun ρ _ => some (ρ x)
  | .assign x => .look fun ρ _ => some (ρ x)
  | .pick c a b => .look fun ρ _ => pickA (ρ c) (ρ a) (ρ b)
  | .load t a => .look fun ρ H => loadA P t (ρ a) H
  | .nilCheck x => .look fun ρ _ => nilA (ρ x)
  | .binOp op t x y _ => .look fun ρ _ => binA P op t x y (ρ x) (ρ y)
  | .unOp op _ x => .look fun ρ _ => unA op (ρ x)
  | .convert s d x => bif isBytesC P s d then .write fun _ ρ H => bytesA P d (ρ x) H else .look fun ρ H => convA P s d (ρ x) H
  | .fieldAddr s x f => .look fun ρ _ => fieldAddrA P s (ρ x) f
  | .field s x f => .look fun ρ _ => fieldA P s (ρ x) f
  | .indexAddr t x i => .look fun ρ _ => indexAddrA P t (ρ x) (ρ i)
  | .index t x i => .look fun ρ _ => indexA P t (ρ x) (ρ i)
  | .extract x i => .look fun ρ _ => extractA (ρ x) i
  | .build t parts => .look fun ρ _ => buildA P t parts.toList ρ
  | .slice t x lo hi mx => .look fun ρ H => sliceA P t (ρ x) (lo.map ρ) (hi.map ρ) (mx.map ρ) H
  | .makeInterface t x => .look fun ρ _ => ifaceA P t (ρ x)
  | .makeFunc fn fs cs => .look fun ρ _ => some (.func fn ⟨fs.toList.map ρ⟩ ⟨cs.toList.map ρ⟩)
  | .lookup t m k ok => .look fun ρ H => lookupA P t (ρ m) (ρ k) ok H
  | .typeAssert x _ t ok => .look fun ρ _ => assertA P (ρ x) t ok
  | .alloc t => .make fun ρ => makeOp P ρ (.alloc t)
  | .box t x => .make fun ρ => makeOp P ρ (.box t x)
  | .makeSlice t l c => .make fun ρ => makeOp P ρ (.makeSlice t l c)
  | .buildSlice t n parts => .make fun ρ => makeOp P ρ (.buildSlice t n parts)
  | .makeMap t r => .make fun ρ => makeOp P ρ (.makeMap t r)
  | .range t x => .make fun ρ => makeOp P ρ (.range t x)
  | .store t a x => .write fun R ρ H => unit1 (storeA P R t (ρ a) (ρ x) H)
  | .call c => (match c.callee with
    | .builtin b => (match b with
      | .len => .look fun ρ H => callLookA P ρ c H
      | .max => .look fun ρ H => callLookA P ρ c H
      | .min => .look fun ρ H => callLookA P ρ c H
      | _ => .write fun R ρ H => callWriteA P R ρ c H)
    | _ => .call fun ρ => calleeA P ρ c)
  | op => .write fun R ρ H => writeOp P R ρ op H

/-- .. over slots. -/
inductive AT where
  | look (f : TM → FW → Option Value)
  | make (f : TM → Option (AObj × (Nat → Value)))
  | write (f : Nat → TM → FW → Option (Value × FW))
  | call (f : TM → Option (FuncId × List Value))

def AI.toT (lv : Nat → Bool) : AI → AT
  | .look f => .look fun tm H => f (ev lv tm) H
  | .make f => .make fun tm => f (ev lv tm)
  | .write f => .write fun R tm H => f R (ev lv tm) H
  | .call f => .call fun tm => f (ev lv tm)

structure CI where
  g : AG
  d : Option Tmp
  i : AT

/-- Where it goes; a slot that is none becomes a number that is none. -/
def clampD (n : Nat) : Option Tmp → Option Tmp
  | none => none
  | some t => some (bif Nat.blt t n then t else 1099511627770)

def compO (P : Program) (lv : Nat → Bool) (n : Nat) (ops : Array Oper) (o : Oper) : CI := ⟨guardOf ops o, clampD n o.dst, (compA P o.op).toT lv⟩

def compL (P : Program) (lv : Nat → Bool) (n : Nat) (ops : Array Oper) : List CI := ops.toList.map (compO P lv n ops)

/-- Is it known whether it is wanted? -/
def AG.sure (lv : Nat → Bool) (tm : TM) : AG → Bool
  | .on t _ => nbot (TM.val lv tm t)
  | _ => true

/-- One operation; one that makes a block gives it the number id; 'look': a call must only look. -/
def stepG (lv : Nat → Bool) (R : Nat) (call : CallF) (look : Bool) (c : CI) (id next : Nat) (tm : TM) (H : FW) : Option St :=
  bif c.g.holds lv tm then
    (match c.i with
    | .look f => finO tm c.d (f tm H) H
    | .make f => finM tm c.d (f tm) H id next
    | .write f => finW tm c.d (f R tm H)
    | .call f => finC call look tm c.d (f tm) H)
  else (bif c.g.sure lv tm then finT tm c.d undef H else none)

def stepA (lv : Nat → Bool) (R : Nat) (call : CallF) (c : CI) (tm : TM) (H : FW) : Option St := stepG lv R call false c H.next (H.next + 1) tm H

/-- Operations one behind the other. -/
def opsA (lv : Nat → Bool) (R : Nat) (call : CallF) (l : List CI) : TM → FW → Option St :=
  List.rec (motive := fun _ => TM → FW → Option St) (fun tm H => some (tm, H))
    (fun c _ ih tm H => match stepA lv R call c tm H with
      | some (tm', H') => ih tm' H'
      | none => none) l

/-- Orders: one that looks, first; or each of those that may come now ('stop': there is no other). -/
inductive Plan where
  | done
  | look (j : Nat) (r : Plan)
  | alt (j : Nat) (r other : Plan)
  | stop

def altsOf (f : Nat → Option Plan) : List Nat → Option Plan
  | [] => some .stop
  | j :: l => match f j, altsOf f l with
    | some r, some p => some (.alt j r p)
    | _, _ => none

/-- What an operation hands on, looks at, waits for: sets of numbers, by bits. -/
structure OpM where
  i : Nat
  b : Nat
  D : Nat
  L : Nat
  A : Nat
  k : Nat

def bitN (t : Nat) : Nat := Nat.shiftLeft 1 t

def maskL : List Nat → Nat
  | [] => 0
  | t :: r => Nat.lor (bitN t) (maskL r)

def dstM : Option Tmp → Nat
  | some t => bitN t
  | none => 0

def opM (P : Program) (ops : Array Oper) (i : Nat) (o : Oper) : OpM :=
  ⟨i, bitN i, dstM o.dst, maskL (o.looksAt ops), maskL ((o.after.toList.filter (Region.binds .any)).map (·.on)), kindA P o.op⟩

def msFrom (P : Program) (ops : Array Oper) : Nat → List Oper → List OpM
  | _, [] => []
  | i, o :: r => opM P ops i o :: msFrom P ops (i + 1) r

def readyM (rem : Nat) (ms : List OpM) : List OpM :=
  ms.filter fun m => !Nat.beq (Nat.land m.b rem) 0 && Nat.beq (Nat.land m.A rem) 0

/-- May it write (calls: where calls are hoped to write nothing that there is)? -/
def wrK (calls : Bool) (k : Nat) : Bool := Nat.beq k 3 || (Nat.beq k 4 && !calls)

/-- Each other one that is still to come waits for m, or is apart from it and (where m looks at memory) writes nothing. -/
def freeM (calls : Bool) (rem : Nat) (ms : List OpM) (m : OpM) : Bool :=
  ms.all fun x => Nat.beq (Nat.land x.b rem) 0 || (Nat.beq x.i m.i || (!Nat.beq (Nat.land x.A m.b) 0 ||
    (Nat.beq (Nat.land m.D (Nat.lor x.L x.D)) 0 && (Nat.beq (Nat.land m.L x.D) 0 && (Nat.beq m.k 0 || !wrK calls x.k)))))

/-- May this one be taken first? -/
def firstM (calls : Bool) (rem : Nat) (ms : List OpM) (m : OpM) : Bool :=
  (Nat.beq m.k 0 || (Nat.beq m.k 1 || (calls && Nat.beq m.k 4))) && freeM calls rem ms m

def planM (calls : Bool) (ms : List OpM) : Nat → Nat → Option Plan
  | 0, rem => bif (readyM rem ms).isEmpty then some .done else none
  | f + 1, rem =>
    match readyM rem ms with
    | [] => some .done
    | l => match l.find? (firstM calls rem ms) with
      | some m => (match planM calls ms f (Nat.xor rem m.b) with
        | some r => some (.look m.i r)
        | none => none)
      | none => altsOf (fun i => planM calls ms f (Nat.xor rem (bitN i))) (l.map (·.i))

def planA (P : Program) (calls : Bool) (ops : Array Oper) : Option Plan :=
  bif (msFrom P ops 0 ops.toList).all fun m => Nat.blt m.A (bitN ops.size) then planM calls (msFrom P ops 0 ops.toList) ops.size (bitN ops.size - 1) else none

/-- One operation of a region whose order is open. -/
def stepX (lv : Nat → Bool) (R : Nat) (call : CallF) (base : Nat) (l : List CI) (i : Nat) (look : Bool) (tm : TM) (H : FW) : Option St :=
  match l[i]? with
  | none => none
  | some c => stepG lv R call look c (base + i) H.next tm H

def beqL (f : Value → Value → Bool) : List Value → List Value → Bool
  | [], [] => true
  | a :: l, b :: m => f a b && beqL f l m
  | _, _ => false

def beqA : Option Addr → Option Addr → Bool
  | none, none => true
  | some a, some b => Nat.beq a.block b.block && (Nat.beq a.off b.off && (a.spot.isNone && b.spot.isNone))
  | _, _ => false

/-- Are two values the same (as far as is looked)? -/
def beqV : Nat → Value → Value → Bool
  | _, .bool a, .bool b => a == b
  | _, .int k a, .int k' b => decide (k = k') && decide (a = b)
  | _, .string a, .string b => decide (a.data.toList = b.data.toList)
  | _, .pointer a, .pointer b => beqA a b
  | _, .slice a n c, .slice a' n' c' => beqA a a' && (Nat.beq n n' && Nat.beq c c')
  | _, .map none, .map none => true
  | _, .map (some a), .map (some b) => Nat.beq a b
  | _, .nilFunc, .nilFunc => true
  | _, .nilIface, .nilIface => true
  | n + 1, .func fn a b, .func fn' a' b' => decide (fn = fn') && (beqL (beqV n) a.toList a'.toList && beqL (beqV n) b.toList b'.toList)
  | n + 1, .iface t v, .iface t' v' => Nat.beq t t' && beqV n v v'
  | n + 1, .agg a, .agg b => beqL (beqV n) a.toList b.toList
  | n + 1, .tuple a, .tuple b => beqL (beqV n) a.toList b.toList
  | _, _, _ => false

def beqE : List MapEntry → List MapEntry → Bool
  | [], [] => true
  | a :: l, b :: m => beqV 20 a.key b.key && (beqV 20 a.val b.val && (Nat.beq a.born b.born && beqE l m))
  | _, _ => false

def beqO : AObj → AObj → Bool
  | .cells c e, .cells c' e' => beqL (beqV 20) c c' && Nat.beq e e'
  | .map es k, .map es' k' => beqE es es' && Nat.beq k k'
  | .iter s p, .iter s' p' => decide (s.data.toList = s'.data.toList) && Nat.beq p p'
  | .dead, .dead => true
  | _, _ => false

def beqN {α : Type} (f : α → α → Bool) : Option α → Option α → Bool
  | none, none => true
  | some a, some b => f a b
  | _, _ => false

def beqT {α : Type} (f : α → α → Bool) : T α → T α → Bool
  | .nil, .nil => true
  | .node v l r, .node v' l' r' => beqN f v v' && (beqT f l l' && beqT f r r')
  | _, _ => false

def beqS (s s' : St) : Bool := (s.1.loc.isEmpty && s'.1.loc.isEmpty) && (beqT (beqV 20) s.1.out s'.1.out) && (beqT beqO s.2.heap s'.2.heap && Nat.beq s.2.next s'.2.next)

def isStop : Plan → Bool
  | .stop => true
  | _ => false

/-- Do two ends say the same of all slots, and of all blocks? -/
def sameS (lv : Nat → Bool) (s s' : St) : Prop :=
  (∀ t, TM.val lv s.1 t = TM.val lv s'.1 t) ∧ s.1.loc = [] ∧ (∀ b, s.2.heap.get b = s'.2.heap.get b) ∧ s.2.next = s'.2.next

def altS (lv : Nat → Bool) (stop : Bool) (s o : Option St) : Option St :=
  match s with
  | some s => bif stop then some s else (match o with
    | some s' => bif @decide (sameS lv s s') (Classical.propDecidable _) then some s else none
    | none => none)
  | none => none

def goS (r : Option St) (k : TM → FW → Option St) : Option St :=
  match r with
  | some (tm, H) => k tm H
  | none => none

def runPlan (lv : Nat → Bool) (step : Nat → Bool → TM → FW → Option St) (p : Plan) : TM → FW → Option St :=
  Plan.rec (motive := fun _ => TM → FW → Option St) (fun tm H => some (tm.flush lv, H))
    (fun j _ ih tm H => goS (step j true tm H) ih)
    (fun j _ other ih io tm H => altS lv (isStop other) (goS (step j false tm H) ih) (io tm H))
    (fun _ _ => none) p

def regionX (P : Program) (lv : Nat → Bool) (n R : Nat) (call callq : CallF) (ops : Array Oper) (tm : TM) (H : FW) : Option St :=
  match planA P false ops with
  | some p => runPlan lv (stepX lv R call H.next (compL P lv n ops)) p tm ⟨H.heap, H.next + ops.size⟩
  | none => match planA P true ops with
    | some p => runPlan lv (stepX lv R callq H.next (compL P lv n ops)) p tm ⟨H.heap, H.next + ops.size⟩
    | none => none

inductive XO where
  | norm
  | ret
  | exit (id : Nat)

abbrev CR := Option (XO × St)

def normS : Option St → CR
  | some s => some (.norm, s)
  | none => none

def seqS (r : CR) (k : TM → FW → CR) : CR :=
  match r with
  | some (.norm, tm, H) => k tm H
  | r => r

def condS (c : Value) (a b : CR) : CR :=
  match c with
  | .bool true => a
  | .bool false => b
  | _ => none

def blockS (id : Nat) (r : CR) : CR :=
  match r with
  | some (.exit i, s) => bif Nat.beq i id then some (.norm, s) else some (.exit i, s)
  | r => r

def roundS (r : CR) : Option (Option XO × St) :=
  match r with
  | some (.norm, s) => some (none, s)
  | some (x, s) => some (some x, s)
  | none => none

def againS (r : Option (Option XO × St)) (k : TM → FW → Option (Option XO × St)) : Option (Option XO × St) :=
  match r with
  | some (none, tm, H) => k tm H
  | r => r

/-- Rounds, up to 2^k of them; the first part: how they were left. -/
def loopP (body : TM → FW → CR) (k : Nat) : TM → FW → Option (Option XO × St) :=
  Nat.rec (motive := fun _ => TM → FW → Option (Option XO × St)) (fun tm H => roundS (body tm H)) (fun _ ih tm H => againS (ih tm H) ih) k

def loopS (r : Option (Option XO × St)) : CR :=
  match r with
  | some (some x, s) => some (x, s)
  | _ => none

def argsT : List Value → Nat → TM → TM
  | [], _, tm => tm
  | v :: r, i, tm => argsT r (i + 1) (tm.put i v)

def retOneA (P : Program) (lv : Nat → Bool) (tm : TM) (H : FW) : ResultVar → Option Value
  | .tmp t => some (TM.val lv tm t)
  | .cell q t => loadA P t (TM.val lv tm q) H

def retAllA (P : Program) (lv : Nat → Bool) (tm : TM) (H : FW) : List ResultVar → Option (List Value)
  | [] => some []
  | v :: r => match retOneA P lv tm H v, retAllA P lv tm H r with
    | some u, some us => some (u :: us)
    | _, _ => none

def tupA : List Value → Value
  | [v] => v
  | l => .tuple ⟨l⟩

def retS (P : Program) (lv : Nat → Bool) (rs : List ResultVar) (r : CR) : Option (Value × FW) :=
  match r with
  | some (.exit _, _) => none
  | some (_, tm, H) => (match retAllA P lv tm H rs with
    | some l => some (tupA l, H)
    | none => none)
  | none => none

/-- A function's doings, known as a whole: what may be written (from where on), the arguments, the store. -/
structure Sm where
  f : Nat → List Value → FW → Option (Value × FW)

/-- What is known of functions; which functions have no text (1: internal/bytealg.IndexByteString; 2: CountString); which are known as a whole. -/
structure Env where
  kn : FuncId → List Value → Option Value
  ext : FuncId → Nat
  ss : FuncId → Option Sm := fun _ => none

def extA (n : Nat) (vs : List Value) : Option Value :=
  match n, vs with
  | 1, [.string s, .int .u8 c] => some (.int .i64 (Lib.indexByte s.data.toList c.toNat.toUInt8))
  | 2, [.string s, .int .u8 c] => some (.int .i64 (Lib.countByte s.data.toList c.toNat.toUInt8))
  | 3, [.string s, .string t] => bif Nat.beq t.data.toList.length 2 && Nat.ble s.data.toList.length 64 then some (.int .i64 (Lib.index s.data.toList t.data.toList)) else none
  | _, _ => none

def flushS (lv : Nat → Bool) : Option St → Option St
  | some (tm, H) => some (tm.flush lv, H)
  | none => none

def regionS (P : Program) (lv : Nat → Bool) (n : Nat) (call : Nat → CallF) (R : Nat) (ops : Array Oper) (d : Bool) (tm : TM) (H : FW) : CR :=
  bif d then
    (bif P.follows .mixedOrders && Region.noSelect ops then normS (regionX P lv n R (call R) (fun g vs H => call H.next g vs H) ops tm H) else none)
  else normS (flushS lv (opsA lv R (call R) (compL P lv n ops) tm H))

/-- Code's run: how it ends, the slots, the store. 'call': by what is written. -/
def codeA (P : Program) (lv : Nat → Bool) (n : Nat) (call : Nat → CallF) (R : Nat) (c : Code) : TM → FW → CR :=
  Code.rec (motive := fun _ => TM → FW → CR)
    (fun tm H => some (.norm, tm, H))
    (fun _ ops d tm H => regionS P lv n call R ops d tm H)
    (fun _ _ a b tm H => seqS (a tm H) b)
    (fun x _ _ a b tm H => condS (ev lv tm x) (a tm H) (b tm H))
    (fun id _ b tm H => blockS id (b tm H))
    (fun _ b tm H => loopS (loopP b 20 tm H))
    (fun _ _ _ _ _ _ _ _ => none)
    (fun id tm H => some (.exit id, tm, H))
    (fun _ _ _ _ => none)
    (fun _ _ _ => none)
    (fun _ _ _ => none)
    (fun tm H => some (.ret, tm, H))
    (fun _ _ _ => none) c

/-! Which slots live beyond a region: nothing hangs on it but how far a run comes. -/

def usesO (o : Oper) : List Tmp := o.op.operands.toList.filterMap fun x => match x with
  | .tmp t => some t
  | _ => none

def addU (as : List Nat) : List Nat → T Unit → T Unit
  | [], acc => acc
  | t :: r, acc => addU as r (bif as.any (Nat.beq t) then acc else acc.set t ())

def usesR : List Oper → List Nat → T Unit → T Unit
  | [], _, acc => acc
  | o :: r, as, acc => usesR r (match o.dst with
    | some t => t :: as
    | none => as) (addU as (usesO o) acc)

def usesC (c : Code) : T Unit → T Unit :=
  Code.rec (motive := fun _ => T Unit → T Unit)
    (fun acc => acc)
    (fun _ ops _ acc => usesR ops.toList [] acc)
    (fun _ _ a b acc => b (a acc))
    (fun x _ _ a b acc => b (a (match x with
      | .tmp t => acc.set t ()
      | _ => acc)))
    (fun _ _ b acc => b acc)
    (fun _ b acc => b acc)
    (fun _ _ _ _ _ _ acc => acc)
    (fun _ acc => acc)
    (fun _ b acc => b acc)
    (fun _ acc => acc)
    (fun _ acc => acc)
    (fun acc => acc)
    (fun _ acc => acc) c

def addRes : List ResultVar → T Unit → T Unit
  | [], acc => acc
  | .tmp t :: r, acc => addRes r (acc.set t ())
  | .cell q _ :: r, acc => addRes r (acc.set q ())

def lvF (t : T Unit) (n : Nat) : Bool :=
  match T.get t n with
  | some _ => true
  | none => false

def lvOf (fn : Func) (c : Code) : Nat → Bool := lvF (addRes fn.results.toList (usesC c .nil))

def bodyS (P : Program) (E : Env) (call : Nat → CallF) (R : Nat) (g : FuncId) (fn : Func) (vs : List Value) (H : FW) : Option (Value × FW) :=
  match fn.body with
  | some c => (match E.kn g vs with
    | some v => some (v, H)
    | none => bif Nat.ble vs.length fn.ntmps && Nat.ble vs.length 1000000 then retS P (lvOf fn c) fn.results.toList (codeA P (lvOf fn c) fn.ntmps call R c ((argsT vs 0 ⟨[], .nil⟩).flush (lvOf fn c)) H) else none)
  | none => (match extA (E.ext g) vs with
    | some v => some (v, H)
    | none => none)

def callS (P : Program) (E : Env) (call : Nat → CallF) (R : Nat) (g : FuncId) (vs : List Value) (H : FW) : Option (Value × FW) :=
  match E.ss g with
  | some s => s.f R vs H
  | none => (match P.funcs[g]? with
    | some fn => bif !(fn.name == "runtime.NumGoroutine") then bodyS P E call R g fn vs H else none
    | none => none)

/-- A call. -/
def callA (P : Program) (E : Env) (f : Nat) : Nat → CallF :=
  Nat.rec (motive := fun _ => Nat → CallF) (fun _ _ _ _ => none) (fun _ ih R g vs H => callS P E ih R g vs H) f

end
end Go.Am
