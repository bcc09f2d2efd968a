/- A run of a program on a store of its own: regions, code, calls. Plain functions, for the kernel to compute. No conditions. -/
import Derived.Test.YteiagnkoagfdaaaGreatDoorA1
import Derived.Lib.Bytealg
namespace Go.Am
noncomputable section

/-- What an operation does: 0: it looks at slots; 1: it looks at memory too; 2: it makes a block; 3: it writes; 4: it calls. -/
def kindA : Op → Nat
  | .move _ | .assign _ | .pick .. | .nilCheck _ | .binOp .. | .unOp .. | .fieldAddr .. | .field .. | .indexAddr .. | .index .. | .extract .. | .build .. | .slice .. | .makeInterface .. | .makeFunc .. | .typeAssert .. => 0
  | .load .. | .convert .. | .lookup .. => 1
  | .alloc _ | .box .. | .buildSlice .. | .makeSlice .. | .makeMap .. | .range .. => 2
  | .call c => (match c.callee with
    | .builtin b => (match b with
      | .max | .min => 0
      | .len => 1
      | _ => 3)
    | _ => 4)
  | _ => 3

def putT (tm : TM) (dst : Option Tmp) (v : Value) : Option TM :=
  match dst with
  | none => some tm
  | some t => bif okN t then some (tm.set t v) else none

def boolIs (want : Bool) : Value → Bool
  | .bool b => bif want then b else !b
  | _ => false

/-- When an operation is wanted. -/
inductive AG where
  | always
  | never
  | on (t : Tmp) (want : Bool)

def guardOf (ops : Array Oper) (o : Oper) : AG :=
  match o.guard with
  | none => .always
  | some (j, want) => (match (ops[j]?).bind (·.dst) with
    | some t => .on t want
    | none => .never)

def AG.holds (tm : TM) : AG → Bool
  | .always => true
  | .never => false
  | .on t want => boolIs want (TM.val tm t)

abbrev St := TM × FW
abbrev CallF := FuncId → List Value → FW → Option (Value × FW)

def plainV : Value → Bool
  | .tuple vs => vs.toList.all flatC
  | .agg vs => vs.toList.all flatC
  | v => flatC v

/-- The callee and the arguments of a call of a function. -/
def calleeA (tm : TM) (c : Call) : Option (FuncId × List Value) :=
  match c.callee with
  | .value x => (match ev tm x with
    | .func (.func f) fs cs => some (f, fs.toList ++ (c.args.toList.map (ev tm) ++ cs.toList))
    | _ => none)
  | _ => none

def finT (tm : TM) (dst : Option Tmp) (v : Value) (H : FW) : Option St :=
  match putT tm dst v with
  | some tm' => some (tm', H)
  | none => none

def finO (tm : TM) (dst : Option Tmp) (v : Option Value) (H : FW) : Option St :=
  match v with
  | some v => finT tm dst v H
  | none => none

def finM (tm : TM) (dst : Option Tmp) (m : Option (AObj × (Nat → Value))) (H : FW) (id next : Nat) : Option St :=
  match m with
  | some (ob, val) => (match FW.push ⟨H.heap, id⟩ ob with
    | some H' => finT tm dst (val id) ⟨H'.heap, next⟩
    | none => none)
  | none => none

def finW (tm : TM) (dst : Option Tmp) (r : Option (Value × FW)) : Option St :=
  match r with
  | some (v, H) => finT tm dst v H
  | none => none

def finC (call : CallF) (look : Bool) (tm : TM) (dst : Option Tmp) (c : Option (FuncId × List Value)) (H : FW) : Option St :=
  match c with
  | some (f, vs) => (match call f vs H with
    | some (v, H') => bif !look || plainV v then finT tm dst v (bif look then H else H') else none
    | none => none)
  | none => none

/-- An operation, made ready. -/
inductive AI where
  | look (f : TM → FW → Option Value)
  | make (f : TM → Option (AObj × (Nat → Value)))
  | write (f : Nat → TM → FW → Option (Value × FW))
  | call (f : TM → Option (FuncId × List Value))

def compA (P : Program) (op : Op) : AI :=
  match op with
  | .move x => .look fun tm _ => some (ev tm x)
  | .assign x => .look fun tm _ => some (ev tm x)
  | .pick c a b => .look fun tm _ => pickA (ev tm c) (ev tm a) (ev tm b)
  | .load t a => .look fun tm H => loadA P t (ev tm a) H
  | .nilCheck x => .look fun tm _ => nilA (ev tm x)
  | .binOp op t x y _ => .look fun tm _ => binA P op t x y (ev tm x) (ev tm y)
  | .unOp op _ x => .look fun tm _ => unA op (ev tm x)
  | .convert s d x => .look fun tm H => convA P s d (ev tm x) H
  | .fieldAddr s x f => .look fun tm _ => fieldAddrA P s (ev tm x) f
  | .field s x f => .look fun tm _ => fieldA P s (ev tm x) f
  | .indexAddr t x i => .look fun tm _ => indexAddrA P t (ev tm x) (ev tm i)
  | .index t x i => .look fun tm _ => indexA P t (ev tm x) (ev tm i)
  | .extract x i => .look fun tm _ => extractA (ev tm x) i
  | .build t parts => .look fun tm _ => buildA P t parts.toList tm
  | .slice t x lo hi mx => .look fun tm H => sliceA P t (ev tm x) (lo.map (ev tm)) (hi.map (ev tm)) (mx.map (ev tm)) H
  | .makeInterface t x => .look fun tm _ => ifaceA P t (ev tm x)
  | .makeFunc fn fs cs => .look fun tm _ => some (.func fn ⟨fs.toList.map (ev tm)⟩ ⟨cs.toList.map (ev tm)⟩)
  | .lookup t m k ok => .look fun tm H => lookupA P t (ev tm m) (ev tm k) ok H
  | .typeAssert x _ t ok => .look fun tm _ => assertA P (ev tm x) t ok
  | .alloc t => .make fun tm => makeOp P tm (.alloc t)
  | .box t x => .make fun tm => makeOp P tm (.box t x)
  | .makeSlice t l c => .make fun tm => makeOp P tm (.makeSlice t l c)
  | .buildSlice t n parts => .make fun tm => makeOp P tm (.buildSlice t n parts)
  | .makeMap t r => .make fun tm => makeOp P tm (.makeMap t r)
  | .range t x => .make fun tm => makeOp P tm (.range t x)
  | .store t a x => .write fun R tm H => unit1 (storeA P R t (ev tm a) (ev tm x) H)
  | .call c => (match c.callee with
    | .builtin b => (match b with
      | .len => .look fun tm H => callLookA P tm c H
      | .max => .look fun tm H => callLookA P tm c H
      | .min => .look fun tm H => callLookA P tm c H
      | _ => .write fun R tm H => callWriteA P R tm c H)
    | _ => .call fun tm => calleeA tm c)
  | op => .write fun R tm H => writeOp P R tm op H

structure CI where
  g : AG
  d : Option Tmp
  i : AI

/-- Where it goes; a slot that is none becomes a number that is none. -/
def clampD (n : Nat) : Option Tmp → Option Tmp
  | none => none
  | some t => some (bif Nat.blt t n then t else 1099511627770)

def compO (P : Program) (n : Nat) (ops : Array Oper) (o : Oper) : CI := ⟨guardOf ops o, clampD n o.dst, compA P o.op⟩

def compL (P : Program) (n : Nat) (ops : Array Oper) : List CI := ops.toList.map (compO P n ops)

/-- Is it known whether it is wanted? -/
def AG.sure (tm : TM) : AG → Bool
  | .on t _ => nbot (TM.val tm t)
  | _ => true

/-- One operation; one that makes a block gives it the number id; 'look': a call must only look. -/
def stepG (R : Nat) (call : CallF) (look : Bool) (c : CI) (id next : Nat) (tm : TM) (H : FW) : Option St :=
  bif c.g.holds tm then
    (match c.i with
    | .look f => finO tm c.d (f tm H) H
    | .make f => finM tm c.d (f tm) H id next
    | .write f => finW tm c.d (f R tm H)
    | .call f => finC call look tm c.d (f tm) H)
  else (bif c.g.sure tm then finT tm c.d undef H else none)

def stepA (R : Nat) (call : CallF) (c : CI) (tm : TM) (H : FW) : Option St := stepG R call false c H.next (H.next + 1) tm H

/-- Operations one behind the other. -/
def opsA (R : Nat) (call : CallF) (l : List CI) : TM → FW → Option St :=
  List.rec (motive := fun _ => TM → FW → Option St) (fun tm H => some (tm, H))
    (fun c _ ih tm H => match stepA R call c tm H with
      | some (tm', H') => ih tm' H'
      | none => none) l

/-- May it write (calls: where calls are hoped to write nothing that there is)? -/
def wr (calls : Bool) (ops : Array Oper) (i : Nat) : Bool :=
  match ops[i]? with
  | some o => (match kindA o.op with
    | 3 => true
    | 4 => !calls
    | _ => false)
  | none => true

/-- Each other one that is still to come waits for i, or is apart from it and (where i looks at memory) writes nothing. -/
def freeX (ops : Array Oper) (W : Nat → Bool) (listed : Array Bool) (i : Nat) : Bool :=
  match ops[i]? with
  | none => false
  | some oi => (List.range ops.size).all fun j => j == i || listed.getD j true || match ops[j]? with
      | some oj => oj.after.any (fun e => Region.binds .any e && e.on == i) || (oi.apart ops oj && (kindA oi.op == 0 || !W j))
      | none => true

/-- May this one be taken first? -/
def firstOk (calls : Bool) (ops : Array Oper) (listed : Array Bool) (i : Nat) : Bool :=
  (match ops[i]? with
  | some o => (match kindA o.op with
    | 0 => true
    | 1 => true
    | 4 => calls
    | _ => false)
  | none => false) && freeX ops (wr calls ops) listed i

/-- Orders: one that looks, first; or each of those that may come now ('stop': there is no other). -/
inductive Plan where
  | done
  | look (j : Nat) (r : Plan)
  | alt (j : Nat) (r other : Plan)
  | stop

def altsOf (f : Nat → Option Plan) : List Nat → Option Plan
  | [] => some .stop
  | j :: l => match f j, altsOf f l with
    | some r, some p => some (.alt j r p)
    | _, _ => none

def planFrom (calls : Bool) (ops : Array Oper) : Nat → Array Bool → Option Plan
  | 0, listed => bif (Region.ready .any ops listed).isEmpty then some .done else none
  | f + 1, listed =>
    match Region.ready .any ops listed with
    | [] => some .done
    | l => match l.find? (firstOk calls ops listed) with
      | some j => (match planFrom calls ops f (listed.setIfInBounds j true) with
        | some r => some (.look j r)
        | none => none)
      | none => altsOf (fun j => planFrom calls ops f (listed.setIfInBounds j true)) l

def planA (calls : Bool) (ops : Array Oper) : Option Plan := planFrom calls ops ops.size (Array.replicate ops.size false)

/-- One operation of a region whose order is open. -/
def stepX (R : Nat) (call : CallF) (base : Nat) (l : List CI) (i : Nat) (look : Bool) (tm : TM) (H : FW) : Option St :=
  match l[i]? with
  | none => none
  | some c => stepG R call look c (base + i) H.next tm H

def beqL (f : Value → Value → Bool) : List Value → List Value → Bool
  | [], [] => true
  | a :: l, b :: m => f a b && beqL f l m
  | _, _ => false

def beqA : Option Addr → Option Addr → Bool
  | none, none => true
  | some a, some b => Nat.beq a.block b.block && (Nat.beq a.off b.off && (a.spot.isNone && b.spot.isNone))
  | _, _ => false

/-- Are two values the same (as far as is looked)? -/
def beqV : Nat → Value → Value → Bool
  | _, .bool a, .bool b => a == b
  | _, .int k a, .int k' b => decide (k = k') && decide (a = b)
  | _, .string a, .string b => decide (a.data.toList = b.data.toList)
  | _, .pointer a, .pointer b => beqA a b
  | _, .slice a n c, .slice a' n' c' => beqA a a' && (Nat.beq n n' && Nat.beq c c')
  | _, .map none, .map none => true
  | _, .map (some a), .map (some b) => Nat.beq a b
  | _, .nilFunc, .nilFunc => true
  | _, .nilIface, .nilIface => true
  | n + 1, .func fn a b, .func fn' a' b' => decide (fn = fn') && (beqL (beqV n) a.toList a'.toList && beqL (beqV n) b.toList b'.toList)
  | n + 1, .iface t v, .iface t' v' => Nat.beq t t' && beqV n v v'
  | n + 1, .agg a, .agg b => beqL (beqV n) a.toList b.toList
  | n + 1, .tuple a, .tuple b => beqL (beqV n) a.toList b.toList
  | _, _, _ => false

def beqE : List MapEntry → List MapEntry → Bool
  | [], [] => true
  | a :: l, b :: m => beqV 20 a.key b.key && (beqV 20 a.val b.val && (Nat.beq a.born b.born && beqE l m))
  | _, _ => false

def beqO : AObj → AObj → Bool
  | .cells c e, .cells c' e' => beqL (beqV 20) c c' && Nat.beq e e'
  | .map es k, .map es' k' => beqE es es' && Nat.beq k k'
  | .iter s p, .iter s' p' => decide (s.data.toList = s'.data.toList) && Nat.beq p p'
  | .dead, .dead => true
  | _, _ => false

def beqN {α : Type} (f : α → α → Bool) : Option α → Option α → Bool
  | none, none => true
  | some a, some b => f a b
  | _, _ => false

def beqT {α : Type} (f : α → α → Bool) : T α → T α → Bool
  | .nil, .nil => true
  | .node v l r, .node v' l' r' => beqN f v v' && (beqT f l l' && beqT f r r')
  | _, _ => false

def beqS (s s' : St) : Bool := beqT (beqV 20) s.1 s'.1 && (beqT beqO s.2.heap s'.2.heap && Nat.beq s.2.next s'.2.next)

def isStop : Plan → Bool
  | .stop => true
  | _ => false

def altS (stop : Bool) (s o : Option St) : Option St :=
  match s with
  | some s => bif stop then some s else (match o with
    | some s' => bif beqS s s' then some s else none
    | none => none)
  | none => none

def goS (r : Option St) (k : TM → FW → Option St) : Option St :=
  match r with
  | some (tm, H) => k tm H
  | none => none

def runPlan (step : Nat → Bool → TM → FW → Option St) (p : Plan) : TM → FW → Option St :=
  Plan.rec (motive := fun _ => TM → FW → Option St) (fun tm H => some (tm, H))
    (fun j _ ih tm H => goS (step j true tm H) ih)
    (fun j _ other ih io tm H => altS (isStop other) (goS (step j false tm H) ih) (io tm H))
    (fun _ _ => none) p

def regionX (P : Program) (n R : Nat) (call callq : CallF) (ops : Array Oper) (tm : TM) (H : FW) : Option St :=
  match planA false ops with
  | some p => runPlan (stepX R call H.next (compL P n ops)) p tm ⟨H.heap, H.next + ops.size⟩
  | none => match planA true ops with
    | some p => runPlan (stepX R callq H.next (compL P n ops)) p tm ⟨H.heap, H.next + ops.size⟩
    | none => none

inductive XO where
  | norm
  | ret
  | exit (id : Nat)

abbrev CR := Option (XO × St)

def normS : Option St → CR
  | some s => some (.norm, s)
  | none => none

def seqS (r : CR) (k : TM → FW → CR) : CR :=
  match r with
  | some (.norm, tm, H) => k tm H
  | r => r

def condS (c : Value) (a b : CR) : CR :=
  match c with
  | .bool true => a
  | .bool false => b
  | _ => none

def blockS (id : Nat) (r : CR) : CR :=
  match r with
  | some (.exit i, s) => bif Nat.beq i id then some (.norm, s) else some (.exit i, s)
  | r => r

def roundS (r : CR) : Option (Option XO × St) :=
  match r with
  | some (.norm, s) => some (none, s)
  | some (x, s) => some (some x, s)
  | none => none

def againS (r : Option (Option XO × St)) (k : TM → FW → Option (Option XO × St)) : Option (Option XO × St) :=
  match r with
  | some (none, tm, H) => k tm H
  | r => r

/-- Rounds, up to 2^k of them; the first part: how they were left. -/
def loopP (body : TM → FW → CR) (k : Nat) : TM → FW → Option (Option XO × St) :=
  Nat.rec (motive := fun _ => TM → FW → Option (Option XO × St)) (fun tm H => roundS (body tm H)) (fun _ ih tm H => againS (ih tm H) ih) k

def loopS (r : Option (Option XO × St)) : CR :=
  match r with
  | some (some x, s) => some (x, s)
  | _ => none

def argsT : List Value → Nat → TM → TM
  | [], _, tm => tm
  | v :: r, i, tm => argsT r (i + 1) (tm.set i v)

def retOneA (P : Program) (tm : TM) (H : FW) : ResultVar → Option Value
  | .tmp t => some (TM.val tm t)
  | .cell q t => loadA P t (TM.val tm q) H

def retAllA (P : Program) (tm : TM) (H : FW) : List ResultVar → Option (List Value)
  | [] => some []
  | v :: r => match retOneA P tm H v, retAllA P tm H r with
    | some u, some us => some (u :: us)
    | _, _ => none

def tupA : List Value → Value
  | [v] => v
  | l => .tuple ⟨l⟩

def retS (P : Program) (rs : List ResultVar) (r : CR) : Option (Value × FW) :=
  match r with
  | some (.exit _, _) => none
  | some (_, tm, H) => (match retAllA P tm H rs with
    | some l => some (tupA l, H)
    | none => none)
  | none => none

/-- What is known of functions without arguments; which functions have no text (1: internal/bytealg.IndexByteString; 2: CountString). -/
structure Env where
  kn : FuncId → Option Value
  ext : FuncId → Nat

def extA (n : Nat) (vs : List Value) : Option Value :=
  match n, vs with
  | 1, [.string s, .int .u8 c] => some (.int .i64 (Lib.indexByte s.data.toList c.toNat.toUInt8))
  | 2, [.string s, .int .u8 c] => some (.int .i64 (Lib.countByte s.data.toList c.toNat.toUInt8))
  | _, _ => none

def regionS (P : Program) (n : Nat) (call : Nat → CallF) (R : Nat) (ops : Array Oper) (d : Bool) (tm : TM) (H : FW) : CR :=
  bif d then
    (bif P.follows .mixedOrders && Region.noSelect ops then normS (regionX P n R (call R) (fun g vs H => call H.next g vs H) ops tm H) else none)
  else normS (opsA R (call R) (compL P n ops) tm H)

/-- Code's run: how it ends, the slots, the store. 'call': by what is written. -/
def codeA (P : Program) (n : Nat) (call : Nat → CallF) (R : Nat) (c : Code) : TM → FW → CR :=
  Code.rec (motive := fun _ => TM → FW → CR)
    (fun tm H => some (.norm, tm, H))
    (fun _ ops d tm H => regionS P n call R ops d tm H)
    (fun _ _ a b tm H => seqS (a tm H) b)
    (fun x _ _ a b tm H => condS (ev tm x) (a tm H) (b tm H))
    (fun id _ b tm H => blockS id (b tm H))
    (fun _ b tm H => loopS (loopP b 20 tm H))
    (fun _ _ _ _ _ _ _ _ => none)
    (fun id tm H => some (.exit id, tm, H))
    (fun _ _ _ _ => none)
    (fun _ _ _ => none)
    (fun _ _ _ => none)
    (fun tm H => some (.ret, tm, H))
    (fun _ _ _ => none) c

def bodyS (P : Program) (E : Env) (call : Nat → CallF) (R : Nat) (g : FuncId) (fn : Func) (vs : List Value) (H : FW) : Option (Value × FW) :=
  match fn.body with
  | some c => (match E.kn g with
    | some v => bif vs.isEmpty then some (v, H) else none
    | none => bif Nat.ble vs.length fn.ntmps && Nat.ble vs.length 1000000 then retS P fn.results.toList (codeA P fn.ntmps call R c (argsT vs 0 .nil) H) else none)
  | none => (match extA (E.ext g) vs with
    | some v => some (v, H)
    | none => none)

def callS (P : Program) (E : Env) (call : Nat → CallF) (R : Nat) (g : FuncId) (vs : List Value) (H : FW) : Option (Value × FW) :=
  match P.funcs[g]? with
  | some fn => bif !(fn.name == "runtime.NumGoroutine") then bodyS P E call R g fn vs H else none
  | none => none

/-- A call. -/
def callA (P : Program) (E : Env) (f : Nat) : Nat → CallF :=
  Nat.rec (motive := fun _ => Nat → CallF) (fun _ _ _ _ => none) (fun _ ih R g vs H => callS P E ih R g vs H) f

end
end Go.Am
