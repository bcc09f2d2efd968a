/- The abstract state of a run: slices as immutable lists, blocks of the call's own as objects; what such a state says of a world. What each operation of the model makes of the abstract state: plain functions. What a whole operation, and a run of operations, makes of the abstract state: plain functions. How the description of a world is carried over a new block, over a store, over a draw. Each operation of the model does what the evaluator says: those that look. Each operation of the model does what the evaluator says: addresses, indexes, slices, arithmetic. Each operation of the model does what the evaluator says: cuts, comparisons, arithmetic, tests. Each operation of the model does what the evaluator says: the greatest of some, conversions, tests, tuples, closures. No conditions. -/
import Derived.Calls
import Derived.Laws.AppendOwn
import Derived.Below
import Derived.Laws.Build
import Derived.Laws.Cells
import Derived.ChangeKeysEq
import Derived.Laws.Rows
import Derived.Laws.Strings
import Derived.Lib.Strings
set_option linter.unusedVariables false
set_option linter.unusedSimpArgs false
set_option linter.unusedSectionVars false
namespace Go.Dl
inductive C where
  | bot
  | val (v : Value)
  | str (l : List UInt8)
  | nil
  | tree (w n : Nat) (get : Nat → Nat → C)
  | own (o n : Nat)
  | ptr (o i j : Nat)
  | eptr (w : Nat) (row : Nat → C) (j : Nat)
  | opt (b : Bool) (c : C)
  | iface (b : Bool) (t : TypeId) (c : C)
  | func (fn : Fn) (k : Nat) (cap : Nat → C)
  | cond (b : Bool) (c : C)
  | self (t : TypeId) (b : Bool) (o : Nat)
  | map (o : Nat)
  | tail (o lo n : Nat)
inductive D1 where
  | c (c : C)
  | agg (l : List C)
inductive D where
  | c (c : C)
  | agg (l : List C)
  | tup (l : List D1)
structure Bk where
  b : Nat
  e : TypeId
  w : Nat
  n : Nat
  cap : Nat
abbrev Mem := Nat → Nat → Option Value
abbrev Bmap := Nat → Option (Option Bk)
def noB : Bmap := fun _ => none
def CRel (S : Mem) : Bmap → C → Value → Prop
  | _, .bot, _ => True
  | _, .val u, v => v = u
  | _, .str l, v => v = .string ⟨l.toArray⟩ ∧ l.length ≤ maxLen
  | _, .nil, v => v = .slice none 0 0
  | _, .tree w n get, v => ∃ a cap, v = .slice a n cap ∧ n ≤ cap ∧ cap ≤ maxLen ∧
      (n = 0 ∨ ∃ b off, a = some ⟨b, off, none⟩ ∧ ∀ i j, i < n → j < w → ∃ u, S b (off + i * w + j) = some u ∧ CRel S noB (get i j) u)
  | β, .own o n, v => match β o with
      | some (some k) => n ≤ k.n ∧ n ≤ k.cap ∧ v = .slice (some ⟨k.b, 0, none⟩) n k.cap
      | some none => n = 0 ∧ v = .slice none 0 0
      | none => False
  | β, .ptr o i j, v => ∃ k, β o = some (some k) ∧ i < k.n ∧ j < k.w ∧ v = .pointer (some ⟨k.b, i * k.w + j, none⟩)
  | _, .eptr w row j, v => ∃ b off, v = .pointer (some ⟨b, off + j, none⟩) ∧ ∀ j', j' < w → ∃ u, S b (off + j') = some u ∧ CRel S noB (row j') u
  | β, .opt b c, v => if b = true then CRel S β c v else v = .pointer none
  | β, .iface b t c, v => if b = true then ∃ u, v = .iface t u ∧ CRel S β c u else v = .nilIface
  | β, .func fn k cap, v => ∃ vs : Array Value, v = .func fn #[] vs ∧ vs.size = k ∧ ∀ i, i < k → CRel S β (cap i) (vs.getD i undef)
  | β, .cond b c, v => b = true → CRel S β c v
  | β, .self t b o, v => ∃ k, β o = some (some k) ∧ k.e = t ∧ v = if b = true then .pointer (some ⟨k.b, 0, none⟩) else .pointer none
  | β, .map o, v => ∃ k, β o = some (some k) ∧ v = .map (some k.b)
  | β, .tail o lo n, v => ∃ a cap, v = .slice a n cap ∧ n ≤ cap ∧ (n = 0 ∨ ∃ k, β o = some (some k) ∧ lo + n ≤ k.n ∧ a = some ⟨k.b, lo * k.w, none⟩)
def LRel (S : Mem) (β : Bmap) : List C → List Value → Prop
  | [], vs => vs = []
  | c :: cs, vs => ∃ v r, vs = v :: r ∧ CRel S β c v ∧ LRel S β cs r
def D1Rel (S : Mem) (β : Bmap) : D1 → Value → Prop
  | .c c, v => CRel S β c v
  | .agg l, v => ∃ vs : List Value, v = .agg vs.toArray ∧ LRel S β l vs
def TRel (S : Mem) (β : Bmap) : List D1 → List Value → Prop
  | [], vs => vs = []
  | d :: ds, vs => ∃ v r, vs = v :: r ∧ D1Rel S β d v ∧ TRel S β ds r
def DRel (S : Mem) (β : Bmap) : D → Value → Prop
  | .c c, v => CRel S β c v
  | .agg l, v => ∃ vs : List Value, v = .agg vs.toArray ∧ LRel S β l vs
  | .tup l, v => ∃ vs : List Value, v = .tuple vs.toArray ∧ TRel S β l vs
def MLe (S S' : Mem) : Prop := ∀ b i v, S b i = some v → S' b i = some v
theorem MLe.refl (S : Mem) : MLe S S := fun _ _ _ h => h
theorem MLe.trans {a b c : Mem} (h : MLe a b) (k : MLe b c) : MLe a c := fun _ _ _ x => k _ _ _ (h _ _ _ x)
theorem CRel.mono {S S' : Mem} (h : MLe S S') : ∀ (c : C) (β : Bmap) (v : Value), CRel S β c v → CRel S' β c v := by
  intro c
  induction c with
  | bot => intro _ _ _; trivial
  | val u => intro _ _ h; exact h
  | str l => intro _ _ h; exact h
  | nil => intro _ _ h; exact h
  | tree w n get ih =>
    rintro β v ⟨a, cap, h1, h2, h3, h4⟩
    refine ⟨a, cap, h1, h2, h3, ?_⟩
    rcases h4 with h4 | ⟨b, off, h5, h6⟩
    · exact .inl h4
    · refine .inr ⟨b, off, h5, fun i j hi hj => ?_⟩
      obtain ⟨u, hu, hr⟩ := h6 i j hi hj
      exact ⟨u, h _ _ _ hu, ih i j _ _ hr⟩
  | own o n => intro _ _ h; exact h
  | ptr o i j => intro _ _ h; exact h
  | eptr w row j ih =>
    rintro β v ⟨b, off, h1, h2⟩
    refine ⟨b, off, h1, fun j' hj => ?_⟩
    obtain ⟨u, hu, hr⟩ := h2 j' hj
    exact ⟨u, h _ _ _ hu, ih j' _ _ hr⟩
  | opt b c ih =>
    intro β v hv
    simp only [CRel] at hv ⊢
    split at hv
    · rename_i hb; rw [if_pos hb]; exact ih _ _ hv
    · rename_i hb; rw [if_neg hb]; exact hv
  | iface b t c ih =>
    intro β v hv
    simp only [CRel] at hv ⊢
    split at hv
    · rename_i hb; rw [if_pos hb]; obtain ⟨u, hu, hr⟩ := hv; exact ⟨u, hu, ih _ _ hr⟩
    · rename_i hb; rw [if_neg hb]; exact hv
  | func fn k cap ih =>
    rintro β v ⟨vs, h1, h2, h3⟩
    exact ⟨vs, h1, h2, fun i hi => ih i _ _ (h3 i hi)⟩
  | cond b c ih =>
    intro β v hv hb
    exact ih _ _ (hv hb)
  | self t b o => intro _ _ h; exact h
  | map o => intro _ _ h; exact h
  | tail o lo n => intro _ _ h; exact h
def BLe (β β' : Bmap) : Prop := ∀ o k, β o = some k → β' o = some k
theorem BLe.refl (β : Bmap) : BLe β β := fun _ _ h => h
theorem BLe.noB (β : Bmap) : BLe noB β := fun _ _ h => by cases h
theorem CRel.grow {S : Mem} : ∀ (c : C) {β β' : Bmap}, BLe β β' → ∀ (v : Value), CRel S β c v → CRel S β' c v := by
  intro c
  induction c with
  | bot => intros; trivial
  | val u => intro _ _ _ _ h; exact h
  | str l => intro _ _ _ _ h; exact h
  | nil => intro _ _ _ _ h; exact h
  | tree w n get ih => intro _ _ _ _ h; exact h
  | own o n =>
    intro β β' hb v hv
    simp only [CRel] at hv ⊢
    cases ho : β o with
    | none => simp [ho] at hv
    | some x => rw [ho] at hv; rw [hb _ _ ho]; exact hv
  | ptr o i j =>
    rintro β β' hb v ⟨k, h1, h2⟩
    exact ⟨k, hb _ _ h1, h2⟩
  | eptr w row j ih => intro _ _ _ _ h; exact h
  | opt b c ih =>
    intro β β' hb v hv
    simp only [CRel] at hv ⊢
    split at hv
    · rename_i h; rw [if_pos h]; exact ih hb _ hv
    · rename_i h; rw [if_neg h]; exact hv
  | iface b t c ih =>
    intro β β' hb v hv
    simp only [CRel] at hv ⊢
    split at hv
    · rename_i h; rw [if_pos h]; obtain ⟨u, hu, hr⟩ := hv; exact ⟨u, hu, ih hb _ hr⟩
    · rename_i h; rw [if_neg h]; exact hv
  | func fn k cap ih =>
    rintro β β' hb v ⟨vs, h1, h2, h3⟩
    exact ⟨vs, h1, h2, fun i hi => ih i hb _ (h3 i hi)⟩
  | cond b c ih =>
    intro β β' hb v hv h
    exact ih hb _ (hv h)
  | self t b o =>
    rintro β β' hb v ⟨k, h1, h2⟩
    exact ⟨k, hb _ _ h1, h2⟩
  | map o =>
    rintro β β' hb v ⟨k, h1, h2⟩
    exact ⟨k, hb _ _ h1, h2⟩
  | tail o lo n =>
    rintro β β' hb v ⟨a, cap, h1, h2, h3⟩
    refine ⟨a, cap, h1, h2, ?_⟩
    rcases h3 with h3 | ⟨k, h3, h4⟩
    · exact .inl h3
    · exact .inr ⟨k, hb _ _ h3, h4⟩
theorem CRel.up {S S' : Mem} {β β' : Bmap} (h : MLe S S') (hb : BLe β β') {c : C} {v : Value} (hc : CRel S β c v) : CRel S' β' c v :=
  CRel.grow c hb v (CRel.mono h c β v hc)
theorem CRel.closed {S : Mem} {β : Bmap} {c : C} {v : Value} (hc : CRel S noB c v) : CRel S β c v := CRel.grow c (BLe.noB β) v hc
theorem LRel.up {S S' : Mem} {β β' : Bmap} (h : MLe S S') (hb : BLe β β') : ∀ {l : List C} {vs : List Value}, LRel S β l vs → LRel S' β' l vs
  | [], _, hv => hv
  | _ :: _, _, ⟨v, r, h1, h2, h3⟩ => ⟨v, r, h1, CRel.up h hb h2, LRel.up h hb h3⟩
theorem D1Rel.up {S S' : Mem} {β β' : Bmap} (h : MLe S S') (hb : BLe β β') : ∀ {d : D1} {v : Value}, D1Rel S β d v → D1Rel S' β' d v
  | .c _, _, hv => CRel.up h hb hv
  | .agg _, _, ⟨vs, h1, h2⟩ => ⟨vs, h1, LRel.up h hb h2⟩
theorem TRel.up {S S' : Mem} {β β' : Bmap} (h : MLe S S') (hb : BLe β β') : ∀ {l : List D1} {vs : List Value}, TRel S β l vs → TRel S' β' l vs
  | [], _, hv => hv
  | _ :: _, _, ⟨v, r, h1, h2, h3⟩ => ⟨v, r, h1, D1Rel.up h hb h2, TRel.up h hb h3⟩
theorem DRel.up {S S' : Mem} {β β' : Bmap} (h : MLe S S') (hb : BLe β β') : ∀ {d : D} {v : Value}, DRel S β d v → DRel S' β' d v
  | .c _, _, hv => CRel.up h hb hv
  | .agg _, _, ⟨vs, h1, h2⟩ => ⟨vs, h1, LRel.up h hb h2⟩
  | .tup _, _, ⟨vs, h1, h2⟩ => ⟨vs, h1, TRel.up h hb h2⟩
theorem LRel.length {S : Mem} {β : Bmap} : ∀ {l : List C} {vs : List Value}, LRel S β l vs → vs.length = l.length
  | [], _, h => by simp [LRel] at h; simp [h]
  | _ :: _, _, ⟨_, _, h1, _, h3⟩ => by subst h1; simp [LRel.length h3]
theorem LRel.get {S : Mem} {β : Bmap} : ∀ {l : List C} {vs : List Value}, LRel S β l vs → ∀ (i : Nat) (c : C), l[i]? = some c → ∃ v, vs[i]? = some v ∧ CRel S β c v
  | [], _, _, i, c, hi => by simp at hi
  | _ :: _, _, ⟨v, r, h1, h2, h3⟩, i, c, hi => by
    subst h1
    cases i with
    | zero => simp at hi; subst hi; exact ⟨v, by simp, h2⟩
    | succ i => simp at hi; obtain ⟨u, hu, hr⟩ := LRel.get h3 i c hi; exact ⟨u, by simpa using hu, hr⟩
theorem LRel.of_get {S : Mem} {β : Bmap} : ∀ {l : List C} {vs : List Value}, vs.length = l.length → (∀ (i : Nat) (c : C), l[i]? = some c → ∃ v, vs[i]? = some v ∧ CRel S β c v) → LRel S β l vs
  | [], vs, hl, _ => by simpa [LRel] using hl
  | c :: l, [], hl, _ => by simp at hl
  | c :: l, v :: vs, hl, h => by
    refine ⟨v, vs, rfl, ?_, LRel.of_get (by simpa using hl) fun i c' hc => ?_⟩
    · obtain ⟨u, hu, hr⟩ := h 0 c rfl
      simp at hu; subst hu; exact hr
    · obtain ⟨u, hu, hr⟩ := h (i + 1) c' (by simpa using hc)
      exact ⟨u, by simpa using hu, hr⟩
inductive Obj where
  | cells (l : List C)
  | row (e : TypeId) (w n : Nat) (get : Nat → Nat → C)
  | mrow (e : TypeId) (bs : List UInt8)
  | map (zero : Value) (has : Int → Bool) (get : Int → Nat → C)
  | dead
def Obj.live : Obj → Bool
  | .dead => false
  | _ => true
def Holds (S : Mem) (w : World) : Prop := ∀ b i v, S b i = some v → w.cell? ⟨b, i, none⟩ = some v ∧ v.oneCell' = true
def VC (S : Mem) (v : Value) (f : Nat → C) : Prop := ∀ j u, v.cells[j]? = some u → CRel S noB (f j) u
theorem VC.mono {S S' : Mem} (h : MLe S S') {v : Value} {f : Nat → C} (hv : VC S v f) : VC S' v f := fun j u hu => CRel.mono h _ _ _ (hv j u hu)
def isKey (i : Int) (v : Value) : Bool :=
  match v with
  | .int .i64 n => n == i
  | _ => false
def findE : List MapEntry → Int → Option Value
  | [], _ => none
  | e :: r, i => bif isKey i e.key then some e.val else findE r i
def formOf (v z : Value) : Prop :=
  match z with
  | .agg cs => ∃ ds, v = .agg ds ∧ ds.size = cs.size
  | .tuple _ => False
  | _ => v.oneCell' = true
def ORel (S : Mem) (β : Bmap) (w : World) (o : Nat) : Obj → Prop
  | .dead => True
  | .cells l => ∃ k, β o = some (some k) ∧ k.w = l.length ∧ k.n = 1 ∧ k.cap = 1 ∧
      ∃ vs : List Value, w.heap[k.b]? = some (.cells vs.toArray k.e (0, 0)) ∧ LRel S β l vs ∧ ∀ u ∈ vs, u.oneCell' = true
  | .row e wd n get => (β o = some none ∧ n = 0) ∨ ∃ k, β o = some (some k) ∧ k.e = e ∧ k.w = wd ∧ k.n = n ∧ n ≤ k.cap ∧ k.cap ≤ maxLen ∧
      ∃ cur, w.heap[k.b]? = some (.cells cur e (0, 0)) ∧ cur.size = k.cap * wd ∧
        ∀ i j, i < n → j < wd → ∃ u, cur[i * wd + j]? = some u ∧ u.oneCell' = true ∧ CRel S noB (get i j) u
  | .mrow e bs => ∃ k, β o = some (some k) ∧ k.e = e ∧ k.w = 1 ∧ k.n = bs.length ∧ bs.length ≤ k.cap ∧ k.cap ≤ maxLen ∧
      ∃ cur fz, w.heap[k.b]? = some (.cells cur e fz) ∧ (fz = (0, 0) ∨ k.cap ≤ fz.1) ∧ cur.size = k.cap ∧
        ∀ i, i < bs.length → cur[i]? = some (.int .u8 (Int.ofNat (bs.getD i 0).toNat))
  | .map z has get => ∃ k, β o = some (some k) ∧ ∃ ms clock, w.heap[k.b]? = some (.map ms clock) ∧ (∀ e ∈ ms.toList, ∃ n, e.key = .int .i64 n) ∧
      ∀ i, VC S ((findE ms.toList i).getD z) (get i) ∧ (findE ms.toList i).isSome = has i ∧ formOf ((findE ms.toList i).getD z) z
structure Ctx where
  S : Mem
  w : World
  M : Nat → Prop
  B : Bmap := noB
class WInv where
  N : Nat
  I : World → Prop
  size : ∀ w, I w → N ≤ w.heap.size
  keep : ∀ w w' : World, w.heap.size ≤ w'.heap.size → (∀ b, b < N → w'.heap[b]? = w.heap[b]?) → I w → I w'
variable [WInv]
structure Frame (Γ : Ctx) (S : Mem) (w : World) : Prop where
  os : w.os = Γ.w.os
  tape : w.tape = Γ.w.tape
  output : w.output = Γ.w.output
  size : Γ.w.heap.size ≤ w.heap.size
  block : ∀ b, b < Γ.w.heap.size → ¬ Γ.M b → w.heap[b]? = Γ.w.heap[b]?
  mem : ∀ b i, b < Γ.w.heap.size → ¬ Γ.M b → S b i = Γ.S b i
  le : MLe Γ.S S
  glob : ∀ b, Γ.M b → WInv.N ≤ b
  inv : WInv.I Γ.w
structure Core (Γ : Ctx) (S : Mem) (β : Bmap) (w : World) (xs : List Obj) : Prop where
  frame : Frame Γ S w
  holds : Holds S w
  objs : ∀ o x, xs[o]? = some x → ORel S β w o x
  out : ∀ o, xs.length ≤ o → β o = none
  inj : ∀ o o' k k' x x', xs[o]? = some x → xs[o']? = some x' → x.live = true → x'.live = true → β o = some (some k) → β o' = some (some k') → o ≠ o' → k.b ≠ k'.b
  sep : ∀ o k x, xs[o]? = some x → x.live = true → β o = some (some k) → ∀ i, S k.b i = none
  mine : ∀ o k x, xs[o]? = some x → x.live = true → β o = some (some k) → k.b < w.heap.size ∧ (k.b < Γ.w.heap.size → Γ.M k.b)
structure St where
  tmps : List (Nat × D)
  objs : List Obj
  gd : List (Nat × List (Nat × Bool)) := []
  h : Nat := 0
def lookupT {α : Type} (z : α) : List (Nat × α) → Nat → α
  | [], _ => z
  | (i, d) :: r, t => bif Nat.beq i t then d else lookupT z r t
def St.get (st : St) (t : Nat) : D := lookupT (.c .bot) st.tmps t
def St.gof (st : St) (t : Nat) : List (Nat × Bool) := lookupT [] st.gd t
def St.holds (st : St) (g : List (Nat × Bool)) : Prop := ∀ p ∈ g, st.get p.1 = .c (.val (.bool p.2))
structure RR (Γ : Ctx) (S : Mem) (β : Bmap) (a : Act) (w : World) (n : Nat) (st : St) : Prop where
  core : Core Γ S β w st.objs
  tm : ∀ t, st.holds (st.gof t) → DRel S β (st.get t) (a.tmps.getD t undef)
  un : ∀ t, ¬ st.holds (st.gof t) → a.tmps.getD t undef = undef
  size : a.tmps.size = n
  defers : a.defers = []
  hand : ∀ o k, o < st.h → Γ.B o = some k → β o = some k
end Go.Dl

namespace Go.Dl
variable [WInv]
def cstC : Value → C
  | .string s => bif Nat.ble s.data.toList.length 65536 then .str s.data.toList else .val (.string s)
  | .slice none 0 0 => .nil
  | v => .val v
def cst : Value → D
  | .agg cs => .agg (cs.toList.map cstC)
  | .tuple _ => .c .bot
  | v => .c (cstC v)
def St.lv (st : St) : Operand → D
  | .tmp t => st.get t
  | .const v => cst v
  | .global g => .c (.val (.pointer (some ⟨g, 0, none⟩)))
  | .func f => .c (.func (.func f) 0 fun _ => .bot)
def inb (i : Int) (n : Nat) : Bool := decide (0 ≤ i) && decide (i < n)
def room (n : Nat) : Bool := decide (n ≤ 140737488355328)
abbrev Res := Option (List Bool × D × List Obj)
def aggT (P : Program) (t : TypeId) : Bool :=
  match P.underlying t with
  | some (.struct _) | some (.array _ _) => true
  | _ => false
def evLoad (P : Program) (t : TypeId) (d : D) (xs : List Obj) : Res :=
  match d with
  | .c (.ptr o i j) =>
    (match xs[o]? with
    | some (.cells l) =>
      bif aggT P t then (bif Nat.ble (j + P.cellsOf t) l.length then some ([], .agg ((l.drop j).take (P.cellsOf t)), xs) else none)
      else (l[j]?).elim none fun c => some ([], .c c, xs)
    | some (.row _ w _ get) =>
      bif aggT P t then (bif Nat.ble (j + P.cellsOf t) w then some ([], .agg ((List.range (P.cellsOf t)).map fun c => get i (j + c)), xs) else none)
      else some ([], .c (get i j), xs)
    | _ => none)
  | .c (.eptr w row j) =>
    bif aggT P t then (bif Nat.ble (j + P.cellsOf t) w then some ([], .agg ((List.range (P.cellsOf t)).map fun c => row (j + c)), xs) else none)
    else bif Nat.blt j w then some ([], .c (row j), xs) else none
  | _ => none
def D.cells : D → Option (List C)
  | .c x => some [x]
  | .agg l => some l
  | .tup _ => none
def C.good : C → Bool
  | .bot | .cond _ _ => false
  | .val v => v.oneCell'
  | .opt _ c => c.good
  | _ => true
def C.shut : C → Bool
  | .val v => v.oneCell'
  | .str _ | .nil | .tree _ _ _ | .eptr _ _ _ => true
  | .iface _ _ c => c.shut
  | .opt _ c => c.shut
  | .func _ k cap => (List.range k).all fun i => (cap i).shut
  | _ => false
def setL (l : List C) (j : Nat) (cs : List C) : List C := l.take j ++ (cs ++ l.drop (j + cs.length))
def setRow (get : Nat → Nat → C) (i j : Nat) (l : List C) : Nat → Nat → C := fun i' j' =>
  bif Nat.beq i' i && (Nat.ble j j' && Nat.blt j' (j + l.length)) then l.getD (j' - j) .bot else get i' j'
def szOk (P : Program) (e : TypeId) (w : Nat) : Bool :=
  match P.info? e with
  | some i => Nat.beq w i.size
  | none => false
def evStore (P : Program) (t : TypeId) (d v : D) (xs : List Obj) : Option (List Obj) :=
  match v.cells with
  | none => none
  | some l =>
    bif szOk P t l.length && l.all C.good then
      (match d with
      | .c (.ptr o i j) =>
        (match xs[o]? with
        | some (.cells cs) => bif Nat.ble (j + l.length) cs.length then some (xs.set o (.cells (setL cs j l))) else none
        | some (.row e w n get) => bif Nat.ble (j + l.length) w && l.all C.shut then some (xs.set o (.row e w n (setRow get i j l))) else none
        | _ => none)
      | _ => none)
    else none
def evBox (P : Program) (t : TypeId) (v : D) (xs : List Obj) : Res :=
  match v.cells with
  | some l => bif l.all C.good && Nat.blt 0 l.length then some ([], .c (.ptr xs.length 0 0), xs ++ [.cells l]) else none
  | none => none
def evAlloc (P : Program) (t : TypeId) (xs : List Obj) : Res :=
  match (P.info? t).bind (·.zero) with
  | some z => evBox P t (cst z) xs
  | none => none
def evFieldAddr (P : Program) (s : TypeId) (d : D) (f : Nat) (xs : List Obj) : Res :=
  match P.underlying s with
  | some (.struct fs) =>
    (match fs[f]? with
    | some fd =>
      (match P.info? fd.type with
      | some fi =>
        bif Nat.blt 0 fi.size then
          (match d with
          | .c (.ptr o i j) =>
            (match xs[o]? with
            | some (.cells l) => bif Nat.blt (j + fd.offset) l.length then some ([], .c (.ptr o i (j + fd.offset)), xs) else none
            | some (.row _ w _ _) => bif Nat.blt (j + fd.offset) w then some ([], .c (.ptr o i (j + fd.offset)), xs) else none
            | _ => none)
          | .c (.eptr w row j) => some ([], .c (.eptr w row (j + fd.offset)), xs)
          | _ => none)
        else none
      | none => none)
    | none => none)
  | _ => none
def evField (P : Program) (s : TypeId) (d : D) (f : Nat) (xs : List Obj) : Res :=
  match P.underlying s, d with
  | some (.struct fs), .agg l =>
    (match fs[f]? with
    | some fd =>
      bif aggT P fd.type then (bif Nat.ble (fd.offset + P.cellsOf fd.type) l.length then some ([], .agg ((l.drop fd.offset).take (P.cellsOf fd.type)), xs) else none)
      else (l[fd.offset]?).elim none fun c => some ([], .c c, xs)
    | none => none)
  | _, _ => none
def evIndexAddr (P : Program) (t : TypeId) (x ix : D) (xs : List Obj) : Res :=
  match P.underlying t, x, ix with
  | some (.slice e), .c (.tree w n get), .c (.val (.int _ i)) =>
    bif szOk P e w then some ([inb i n], .c (.eptr w (get i.toNat) 0), xs) else none
  | some (.slice e), .c (.own o n), .c (.val (.int _ i)) =>
    (match xs[o]? with
    | some (.row _ w _ _) => bif szOk P e w && Nat.blt 0 w then some ([inb i n], .c (.ptr o i.toNat 0), xs) else none
    | _ => none)
  | some (.slice e), .c (.tail o lo n), .c (.val (.int _ i)) =>
    (match xs[o]? with
    | some (.row _ w _ _) => bif szOk P e w && Nat.blt 0 w then some ([inb i n], .c (.ptr o (lo + i.toNat) 0), xs) else none
    | _ => none)
  | some (.slice _), .c .nil, .c (.val (.int _ _)) => some ([false], .c .bot, xs)
  | some (.array len e), .c (.ptr o i j), .c (.val (.int _ k)) =>
    (match xs[o]? with
    | some (.cells l) => bif szOk P e (P.cellsOf e) && (Nat.blt (j + k.toNat * P.cellsOf e) l.length && Nat.blt 1 len) then some ([inb k len], .c (.ptr o i (j + k.toNat * P.cellsOf e)), xs) else none
    | _ => none)
  | _, _, _ => none
def evIndex (P : Program) (t : TypeId) (x ix : D) (xs : List Obj) : Res :=
  match P.underlying t, x, ix with
  | some .string, .c (.str l), .c (.val (.int _ i)) => some ([inb i l.length], .c (.val (.int .u8 (l.getD i.toNat 0).toNat)), xs)
  | _, _, _ => none
def bounds (n : Nat) (lo hi : Option D) : Option (Int × Int) :=
  match lo, hi with
  | none, none => some (0, n)
  | some (.c (.val (.int _ l))), none => some (l, n)
  | none, some (.c (.val (.int _ h))) => some (0, h)
  | some (.c (.val (.int _ l))), some (.c (.val (.int _ h))) => some (l, h)
  | _, _ => none
def bndOk (n : Nat) (l h : Int) : Bool := decide (0 ≤ l) && decide (l ≤ h) && decide (h ≤ n)
def evSlice (P : Program) (t : TypeId) (x : D) (lo hi : Option D) (xs : List Obj) : Res :=
  match P.underlying t, x with
  | some .string, .c (.str s) =>
    (match bounds s.length lo hi with
    | some (l, h) => some ([bndOk s.length l h], .c (.str ((s.drop l.toNat).take (h.toNat - l.toNat))), xs)
    | none => none)
  | some (.slice e), .c (.tree w n get) =>
    bif szOk P e w then
      (match bounds n lo hi with
      | some (l, h) => some ([bndOk n l h], .c (.tree w (h.toNat - l.toNat) fun i j => get (l.toNat + i) j), xs)
      | none => none)
    else none
  | some (.slice e), .c (.own o n) =>
    bif (P.info? e).isSome then
      (match lo with
      | none =>
        (match bounds n none hi with
        | some (l, h) => some ([bndOk n l h], .c (.own o h.toNat), xs)
        | none => none)
      | some d =>
        (match xs[o]?, bounds n (some d) hi with
        | some (.row _ w _ _), some (l, h) => bif szOk P e w then some ([bndOk n l h], .c (.tail o l.toNat (h.toNat - l.toNat)), xs) else none
        | _, _ => none))
    else none
  | some (.slice e), .c .nil =>
    bif (P.info? e).isSome then
      (match bounds 0 lo hi with
      | some (l, h) => some ([bndOk 0 l h], .c .nil, xs)
      | none => none)
    else none
  | _, _ => none
def cmpI (op : BinOp) (a b : Int) : Option Bool :=
  match op with
  | .eql => some (a == b)
  | .neq => some (a != b)
  | .lss => some (decide (a < b))
  | .leq => some (decide (a ≤ b))
  | .gtr => some (decide (a > b))
  | .geq => some (decide (a ≥ b))
  | _ => none
def bitsI (op : BinOp) (k : IntKind) (a b : Int) : Option Int :=
  match op with
  | .and => some (k.wrap (BitVec.ofInt k.bits a &&& BitVec.ofInt k.bits b).toNat)
  | .or => some (k.wrap (BitVec.ofInt k.bits a ||| BitVec.ofInt k.bits b).toNat)
  | .xor => some (k.wrap (BitVec.ofInt k.bits a ^^^ BitVec.ofInt k.bits b).toNat)
  | .andNot => some (k.wrap (BitVec.ofInt k.bits a &&& ~~~ BitVec.ofInt k.bits b).toNat)
  | _ => none
def evInt (op : BinOp) (k : IntKind) (a : Int) (k' : IntKind) (b : Int) : Option (List Bool × C) :=
  match op with
  | .shl => some ([decide (0 ≤ b)], .val (.int k (k.wrap (a * 2 ^ min b.toNat k.bits))))
  | .shr => some ([decide (0 ≤ b)], .val (.int k (a.fdiv (2 ^ min b.toNat k.bits))))
  | op =>
    bif decide (k = k') then
      (match op with
      | .add => some ([], .val (.int k (k.wrap (a + b))))
      | .sub => some ([], .val (.int k (k.wrap (a - b))))
      | .mul => some ([], .val (.int k (k.wrap (a * b))))
      | .quo => some ([!(b == 0)], .val (.int k (k.wrap (a.tdiv b))))
      | .rem => some ([!(b == 0)], .val (.int k (a.tmod b)))
      | op =>
        (match cmpI op a b with
        | some r => some ([], .val (.bool r))
        | none =>
          (match bitsI op k a b with
          | some r => some ([], .val (.int k r))
          | none => none)))
    else none
def evStr (op : BinOp) (a b : List UInt8) : Option (List Bool × C) :=
  match op with
  | .add => some ([room (a.length + b.length)], .str (a ++ b))
  | .eql => some ([], .val (.bool (a == b)))
  | .neq => some ([], .val (.bool !(a == b)))
  | .lss => some ([], .val (.bool (Op.bytesLess a b)))
  | .leq => some ([], .val (.bool (Op.bytesLess a b || a == b)))
  | .gtr => some ([], .val (.bool !(Op.bytesLess a b || a == b)))
  | .geq => some ([], .val (.bool !Op.bytesLess a b))
  | _ => none
def sameC : C → C → Option Bool
  | .val (.int k a), .val (.int k' b) => bif decide (k = k') then some (a == b) else none
  | .val (.bool a), .val (.bool b) => some (a == b)
  | .str a, .str b => some (a == b)
  | _, _ => none
def isConst : Operand → Bool
  | .const _ => true
  | _ => false
def eqCell (P : Program) (t : TypeId) (a b : C) : Option Bool :=
  match P.underlying t, a, b with
  | some (.int _), .val (.int k x), .val (.int k' y) => bif decide (k = k') then some (x == y) else none
  | some .string, .str x, .str y => some (x == y)
  | some .bool, .val (.bool x), .val (.bool y) => some (x == y)
  | _, _, _ => none
def eqFsD (P : Program) (xs ys : List C) (fs : List Field) : Option Bool :=
  fs.foldr (fun fd r => bif !(fd.name == "_") then
    (bif aggT P fd.type then none else
      (match xs[fd.offset]?, ys[fd.offset]? with
      | some a, some b => (match eqCell P fd.type a b, r with
        | some e, some q => some (e && q)
        | _, _ => none)
      | _, _ => none))
    else r) (some true)
def eqField (P : Program) (xs ys : List C) (fd : Field) : Option Bool :=
  bif aggT P fd.type then
    (match P.underlying fd.type with
    | some (.struct fs) => bif P.stoodInHeld fd.type then none else eqFsD P ((xs.drop fd.offset).take (P.cellsOf fd.type)) ((ys.drop fd.offset).take (P.cellsOf fd.type)) fs.toList
    | _ => none)
  else
    (match xs[fd.offset]?, ys[fd.offset]? with
    | some a, some b => eqCell P fd.type a b
    | _, _ => none)
def eqFsD2 (P : Program) (xs ys : List C) (fs : List Field) : Option Bool :=
  fs.foldr (fun fd r => bif !(fd.name == "_") then
    (match eqField P xs ys fd, r with
    | some e, some q => some (e && q)
    | _, _ => none)
    else r) (some true)
def evEq (P : Program) (t : TypeId) (x y : Operand) (a b : D) : Option Bool :=
  match P.underlying t, a, b with
  | some .bool, .c (.val (.bool x)), .c (.val (.bool y)) => some (x == y)
  | some (.interface _), .c (.iface b _ _), .c (.val .nilIface) => bif isConst y then some (!b) else none
  | some (.interface _), .c (.val .nilIface), .c (.iface b _ _) => bif isConst x then some (!b) else none
  | some (.interface _), .c (.val .nilIface), .c (.val .nilIface) => bif isConst x || isConst y then some true else none
  | some (.pointer _), .c (.opt b (.ptr _ _ _)), .c (.val (.pointer none)) => some (!b)
  | some (.pointer _), .c (.opt b (.eptr _ _ _)), .c (.val (.pointer none)) => some (!b)
  | some (.pointer _), .c (.ptr _ _ _), .c (.val (.pointer none)) => some false
  | some (.pointer _), .c (.eptr _ _ _), .c (.val (.pointer none)) => some false
  | some (.pointer _), .c (.val (.pointer none)), .c (.val (.pointer none)) => some true
  | some (.slice _), .c .nil, .c .nil => some true
  | some (.struct fs), .agg l, .agg m => bif P.stoodInHeld t || P.eqGuardType P.depth t then none else eqFsD2 P l m fs.toList
  | _, _, _ => none
end Go.Dl

namespace Go.Dl
variable [WInv]
def tbl (ll : List (List C)) : Nat → Nat → C := fun i j => (ll.getD i []).getD j .bot
def srcRow (P : Program) (e : TypeId) (w : Nat) (d : D) (xs : List Obj) : Option (Nat × (Nat → Nat → C)) :=
  match d with
  | .c .nil => some (0, fun _ _ => .bot)
  | .c (.tree w' m g) => bif Nat.beq w' w then some (m, g) else none
  | .c (.own o m) =>
    (match xs[o]? with
    | some (.row _ w' _ g) => bif Nat.beq w' w then some (m, g) else none
    | _ => none)
  | .c (.str l) =>
    (match P.underlying e with
    | some (.int .u8) => bif Nat.beq w 1 then some (l.length, fun i _ => .val (.int .u8 (l.getD i 0).toNat)) else none
    | _ => none)
  | _ => none
def evAppend (P : Program) (t : TypeId) (dst src : D) (xs : List Obj) : Res :=
  match P.underlying t with
  | some (.slice e) =>
    (match P.info? e with
    | some i =>
      (match i.zero with
      | some z =>
        bif Nat.beq z.cells.size i.size && (Nat.blt 0 i.size && Nat.blt 0 i.bytes) then
          (match srcRow P e i.size src xs with
          | some (m, g2) =>
            (match dst with
            | .c .nil => some ([room (m * i.bytes)], .c (.own xs.length m), xs ++ [.row e i.size m g2])
            | .c (.own o n) =>
              (match xs[o]? with
              | some (.row e' w _ g) =>
                bif Nat.beq e' e && Nat.beq w i.size then
                  some ([room ((n + m) * i.bytes)], .c (.own xs.length (n + m)),
                    xs.set o .dead ++ [.row e i.size (n + m) fun i j => bif Nat.blt i n then g i j else g2 (i - n) j])
                else none
              | _ => none)
            | _ => none)
          | none => none)
        else none
      | none => none)
    | none => none)
  | _ => none
def D1.ofD : D → Option D1
  | .c x => some (.c x)
  | .agg l => some (.agg l)
  | .tup _ => none
def D1.toD : D1 → D
  | .c x => .c x
  | .agg l => .agg l
def evParts (P : Program) (place : Nat → Option (Nat × Nat)) (st : St) : List C → List (Nat × Operand) → Option (List C)
  | cells, [] => some cells
  | cells, (i, x) :: rest =>
    (match place i, (st.lv x).cells with
    | some (off, size), some l =>
      bif Nat.beq l.length size && (Nat.ble (off + l.length) cells.length && l.all C.good) then evParts P place st (setL cells off l) rest else none
    | _, _ => none)
def zeroL (P : Program) (t : TypeId) : Option (List C) := ((P.info? t).bind (·.zero)).map fun z => z.cells.toList.map cstC
def evBuild (P : Program) (t : TypeId) (parts : List (Nat × Operand)) (st : St) : Res :=
  match P.underlying t with
  | some (.struct fs) =>
    (match zeroL P t with
    | some z =>
      (match fs.toList.mapM (fun f => (P.info? f.type).map fun i => (f.offset, i.size)) with
      | some places =>
        (match evParts P (fun i => places[i]?) st z parts with
        | some l => some ([], .agg l, st.objs)
        | none => none)
      | none => none)
    | none => none)
  | _ => none
def chunk (w : Nat) : Nat → List C → List (List C)
  | 0, _ => []
  | n + 1, l => l.take w :: chunk w n (l.drop w)
def evBuildSlice (P : Program) (t : TypeId) (len : Nat) (parts : List (Nat × Operand)) (st : St) : Res :=
  match P.underlying t with
  | some (.slice e) =>
    (match P.info? e, zeroL P e with
    | some i, some z =>
      bif Nat.beq z.length i.size && (Nat.blt 0 i.size && Nat.blt 0 len && Nat.ble (len * i.size) 16777216) then
        (match evParts P (fun k => some (k * i.size, i.size)) st ((List.range (len * i.size)).map fun q => z.getD (q % i.size) .bot) parts with
        | some l =>
          bif l.all C.shut then some ([], .c (.own st.objs.length len), st.objs ++ [.row e i.size len (tbl (chunk i.size len l))]) else none
        | none => none)
      else none
    | _, _ => none)
  | _ => none
def evMakeSlice (P : Program) (t : TypeId) (l c : D) (xs : List Obj) : Res :=
  match P.underlying t, l, c with
  | some (.slice e), .c (.val (.int .i64 l)), .c (.val (.int .i64 c)) =>
    (match P.info? e, zeroL P e with
    | some i, some z =>
      bif Nat.beq z.length i.size && (Nat.blt 0 i.size && Nat.blt 0 i.bytes && z.all C.shut) then
        some ([decide (0 ≤ l) && decide (l ≤ c), room (c.toNat * i.bytes)], .c (.own xs.length l.toNat), xs ++ [.row e i.size c.toNat fun _ j => z.getD j .bot])
      else none
    | _, _ => none)
  | _, _, _ => none
def evLen (d : D) (xs : List Obj) : Res :=
  match d with
  | .c .nil => some ([], .c (.val (.int .i64 0)), xs)
  | .c (.tree _ n _) => some ([], .c (.val (.int .i64 n)), xs)
  | .c (.own _ n) => some ([], .c (.val (.int .i64 n)), xs)
  | .c (.tail _ _ n) => some ([], .c (.val (.int .i64 n)), xs)
  | _ => none
def evLenS (d : D) (xs : List Obj) : Res :=
  match d with
  | .c (.str l) => some ([], .c (.val (.int .i64 l.length)), xs)
  | _ => none
def evLenT (P : Program) (t : TypeId) (d : D) (xs : List Obj) : Res :=
  match P.underlying t with
  | some (.slice _) => evLen d xs
  | some .string => evLenS d xs
  | _ => none
def maxI (isMax : Bool) : Int → List D → Option Int
  | x, [] => some x
  | x, .c (.val (.int .i64 y)) :: r => maxI isMax (bif isMax then (if y > x then y else x) else (if y < x then y else x)) r
  | _, _ => none
def evMaxMin (isMax : Bool) (ds : List D) (xs : List Obj) : Res :=
  match ds with
  | .c (.val (.int .i64 x)) :: r => (maxI isMax x r).elim none fun y => some ([], .c (.val (.int .i64 y)), xs)
  | _ => none
def evConvert (P : Program) (src dst : TypeId) (x : D) (xs : List Obj) : Res :=
  match P.underlying src, P.underlying dst, x with
  | some (.int _), some (.int k), .c (.val (.int _ n)) => some ([], .c (.val (.int k (k.wrap n))), xs)
  | some .string, some .string, .c (.str l) => some ([], .c (.str l), xs)
  | _, _, _ => none
def evUn (op : UnOp) (x : D) (xs : List Obj) : Res :=
  match op, x with
  | .neg, .c (.val (.int k n)) => some ([], .c (.val (.int k (k.wrap (0 - n)))), xs)
  | .not, .c (.val (.bool b)) => some ([], .c (.val (.bool !b)), xs)
  | _, _ => none
def evBin (P : Program) (op : BinOp) (t : TypeId) (p q : Operand) (a b : D) (xs : List Obj) : Res :=
  match a, b with
  | .c (.val (.int k x)), .c (.val (.int k' y)) => (evInt op k x k' y).elim none fun r => some (r.1, .c r.2, xs)
  | .c (.str x), .c (.str y) => (evStr op x y).elim none fun r => some (r.1, .c r.2, xs)
  | a, b =>
    (match op with
    | .eql => (evEq P t p q a b).elim none fun r => some ([], .c (.val (.bool r)), xs)
    | .neq => (evEq P t p q a b).elim none fun r => some ([], .c (.val (.bool !r)), xs)
    | _ => none)
def isTrueC : Operand → Bool
  | .const (.bool b) => b
  | _ => false
def isFalseC : Operand → Bool
  | .const (.bool b) => !b
  | _ => false
def evPick (c : D) (a b : Operand) (st : St) : Res :=
  match c with
  | .c (.val (.bool x)) =>
    bif isTrueC a then
      (match st.lv b with
      | .c (.val (.bool y)) => some ([], .c (.val (.bool (x || y))), st.objs)
      | _ => none)
    else bif isFalseC b then
      (match st.lv a with
      | .c (.val (.bool y)) => some ([], .c (.val (.bool (x && y))), st.objs)
      | _ => none)
    else none
  | _ => none
def capsC (st : St) : List Operand → Option (List C)
  | [] => some []
  | x :: r =>
    (match st.lv x, capsC st r with
    | .c a, some l => some (a :: l)
    | _, _ => none)
def evNil (d : D) (xs : List Obj) : Res :=
  match d with
  | .c (.ptr o i j) => some ([], .c (.ptr o i j), xs)
  | .c (.eptr w r j) => some ([], .c (.eptr w r j), xs)
  | .c (.opt b (.ptr o i j)) => some ([b], .c (.ptr o i j), xs)
  | .c (.opt b (.eptr w r j)) => some ([b], .c (.eptr w r j), xs)
  | .c (.func (.func f) k g) => some ([], .c (.func (.func f) k g), xs)
  | _ => none
def eqV1 : Value → Value → Bool
  | .bool a, .bool b => bif a then b else !b
  | .int k a, .int k' b => decide (k = k') && decide (a = b)
  | .pointer none, .pointer none => true
  | _, _ => false
def eqVL : List Value → List Value → Bool
  | [], [] => true
  | a :: r, b :: t => eqV1 a b && eqVL r t
  | _, _ => false
def eqV : Value → Value → Bool
  | .agg a, .agg b => eqVL a.toList b.toList
  | a, b => eqV1 a b
def zc (z : Value) : Nat → C := fun j => (z.cells.toList.map cstC).getD j .bot
def mval (z : Value) (g : Nat → C) : Option D1 :=
  match z with
  | .agg cs => some (.agg ((List.range cs.size).map g))
  | .tuple _ => none
  | _ => some (.c (g 0))
def mcells (z : Value) (d : D) : Option (Nat → C) :=
  match z, d with
  | .agg cs, .agg l => bif Nat.beq l.length cs.size && (l.all C.good && l.all C.shut) then some (fun j => l.getD j .bot) else none
  | .agg _, _ => none
  | .tuple _, _ => none
  | _, .c x => bif x.good && x.shut then some (fun j => [x].getD j .bot) else none
  | _, _ => none
def evMakeMap (P : Program) (t : TypeId) (r : Option Operand) (xs : List Obj) : Res :=
  match r, P.underlying t with
  | none, some (.map _ et) =>
    (match (P.info? et).bind (·.zero) with
    | some z => bif (mval z (zc z)).isSome then some ([], .c (.map xs.length), xs ++ [.map z (fun _ => false) (fun _ => zc z)]) else none
    | none => none)
  | _, _ => none
def evLookup (P : Program) (t : TypeId) (m k : D) (ok : Bool) (xs : List Obj) : Res :=
  match P.underlying t, m, k with
  | some (.map kt et), .c (.map o), .c (.val (.int .i64 i)) =>
    (match P.underlying kt, (P.info? et).bind (·.zero), xs[o]? with
    | some (.int _), some z', some (.map z has get) =>
      bif eqV z z' then
        (match mval z (get i) with
        | some d => bif ok then some ([], .tup [d, .c (.val (.bool (has i)))], xs) else some ([], d.toD, xs)
        | none => none)
      else none
    | _, _, _ => none)
  | _, _, _ => none
def evUpdate (P : Program) (t : TypeId) (m k v : D) (xs : List Obj) : Option (List Obj) :=
  match P.underlying t, m, k with
  | some (.map kt _), .c (.map o), .c (.val (.int .i64 i)) =>
    (match P.underlying kt, xs[o]? with
    | some (.int _), some (.map z has get) =>
      (match mcells z v with
      | some f => some (xs.set o (.map z (fun i' => decide (i' = i) || has i') (fun i' => bif decide (i' = i) then f else get i')))
      | none => none)
    | _, _ => none)
  | _, _, _ => none
def evClear (P : Program) (t : TypeId) (x : D) (xs : List Obj) : Option (List Obj) :=
  match P.underlying t, x with
  | some (.slice e), .c (.tail o lo n) =>
    (match xs[o]?, zeroL P e with
    | some (.row e' w m get), some z =>
      bif Nat.beq z.length w && (szOk P e w && (z.all C.good && z.all C.shut)) then some (xs.set o (.row e' w m fun i j => bif Nat.ble lo i && Nat.blt i (lo + n) then z.getD j .bot else get i j)) else none
    | _, _ => none)
  | _, _ => none
def evOp (P : Program) (o : Oper) (st : St) : Res :=
  match o.op with
  | .move x | .assign x => some ([], st.lv x, st.objs)
  | .pick c a b => evPick (st.lv c) a b st
  | .alloc t => evAlloc P t st.objs
  | .box t x => evBox P t (st.lv x) st.objs
  | .build t parts => evBuild P t parts.toList st
  | .buildSlice t len parts => evBuildSlice P t len parts.toList st
  | .load t a => bif (P.underlying t).isSome then evLoad P t (st.lv a) st.objs else none
  | .store t a x => (evStore P t (st.lv a) (st.lv x) st.objs).map fun xs => ([], .c .bot, xs)
  | .nilCheck x => evNil (st.lv x) st.objs
  | .binOp op t x y _ => evBin P op t x y (st.lv x) (st.lv y) st.objs
  | .unOp op _ x => evUn op (st.lv x) st.objs
  | .convert src dst x => evConvert P src dst (st.lv x) st.objs
  | .makeInterface t x => bif P.concrete t then (match st.lv x with
    | .c a => some ([], .c (.iface true t a), st.objs)
    | _ => none) else none
  | .makeFunc fn first captured => (match first.toList, capsC st captured.toList with
    | [], some l => some ([], .c (.func fn l.length fun i => l.getD i .bot), st.objs)
    | _, _ => none)
  | .makeSlice t l c => evMakeSlice P t (st.lv l) (st.lv c) st.objs
  | .slice t x lo hi mx => (match mx with
    | none => evSlice P t (st.lv x) (lo.map st.lv) (hi.map st.lv) st.objs
    | some _ => none)
  | .fieldAddr s x f => evFieldAddr P s (st.lv x) f st.objs
  | .field s x f => evField P s (st.lv x) f st.objs
  | .indexAddr t x ix => evIndexAddr P t (st.lv x) (st.lv ix) st.objs
  | .index t x ix => evIndex P t (st.lv x) (st.lv ix) st.objs
  | .extract x i => (match st.lv x with
    | .tup l => (l[i]?).elim none fun d => some ([], d.toD, st.objs)
    | _ => none)
  | .call c => (match c.callee, c.args.toList, c.argTypes.toList with
    | .builtin .len, [x], t :: _ => evLenT P t (st.lv x) st.objs
    | .builtin .append, [x, y], t :: t' :: _ => (match P.underlying t' with
      | some (.slice _) => evAppend P t (st.lv x) (st.lv y) st.objs
      | some .string => evAppend P t (st.lv x) (st.lv y) st.objs
      | _ => none)
    | .builtin .clear, [x], t :: _ => (evClear P t (st.lv x) st.objs).map fun xs => ([], .tup [], xs)
    | .builtin .max, l, _ => evMaxMin true (l.map st.lv) st.objs
    | .builtin .min, l, _ => evMaxMin false (l.map st.lv) st.objs
    | _, _, _ => none)
  | .makeMap t r => evMakeMap P t r st.objs
  | .lookup t m k ok => evLookup P t (st.lv m) (st.lv k) ok st.objs
  | .mapUpdate t m k x => (evUpdate P t (st.lv m) (st.lv k) (st.lv x) st.objs).map fun xs => ([], .c .bot, xs)
  | _ => none
def quietOp : Op → Bool
  | .move _ | .assign _ | .pick _ _ _ | .load _ _ | .nilCheck _ | .binOp _ _ _ _ _ | .unOp _ _ _ | .fieldAddr _ _ _ | .field _ _ _ | .indexAddr _ _ _ | .index _ _ _ | .extract _ _ | .build _ _ => true
  | .slice _ _ _ _ _ => true
  | .lookup _ _ _ _ => true
  | .call { callee := .builtin .len, .. } | .call { callee := .builtin .max, .. } | .call { callee := .builtin .min, .. } => true
  | .convert _ _ _ => true
  | _ => false
def pureOp : Op → Bool
  | .move _ | .assign _ | .pick _ _ _ | .nilCheck _ | .binOp _ _ _ _ _ | .unOp _ _ _ | .fieldAddr _ _ _ | .field _ _ _ | .indexAddr _ _ _ | .index _ _ _ | .extract _ _ | .build _ _ => true
  | .slice _ _ _ _ _ => true
  | .call { callee := .builtin .len, .. } | .call { callee := .builtin .max, .. } | .call { callee := .builtin .min, .. } => true
  | .convert _ _ _ => true
  | _ => false
def gEq (a b : Nat × Bool) : Bool := Nat.beq a.1 b.1 && (bif a.2 then b.2 else !b.2)
def gIn (a : Nat × Bool) (l : List (Nat × Bool)) : Bool := l.any (gEq a)
def opTmps : Operand → List Nat
  | .tmp t => [t]
  | _ => []
def guardOf (ops : Array Oper) (o : Oper) (st : St) : Option (List (Nat × Bool)) :=
  match o.guard with
  | none => some []
  | some (j, want) =>
    (match (ops[j]?).bind (·.dst) with
    | some t => some ((t, want) :: st.gof t)
    | none => none)
def guardB (st : St) : List (Nat × Bool) → Option Bool
  | [] => some true
  | (t, want) :: r =>
    (match st.get t, guardB st r with
    | .c (.val (.bool b)), some x =>
      (match r with
      | [] => some (bif want then b else !b)
      | _ => some ((bif want then b else !b) && x))
    | _, _ => none)
def eraseT {α : Type} (t : Nat) (l : List (Nat × α)) : List (Nat × α) := l.filter fun p => !Nat.beq p.1 t
def St.put (st : St) (dst : Option Tmp) (d : D) (xs : List Obj) (g : List (Nat × Bool)) : St :=
  match dst with
  | none => ⟨st.tmps, xs, st.gd, st.h⟩
  | some t => ⟨(t, d) :: eraseT t st.tmps, xs, bif g.isEmpty then eraseT t st.gd else (t, g) :: eraseT t st.gd, st.h⟩
def freeOf (st : St) (t : Nat) : Bool := st.gd.all fun p => p.2.all fun q => !Nat.beq q.1 t
def St.see (st : St) (g : List (Nat × Bool)) : St :=
  bif st.gd.isEmpty then st else ⟨st.tmps.filter (fun p => (st.gof p.1).all fun q => gIn q g), st.objs, st.gd, st.h⟩
def evPickG (st : St) (g : List (Nat × Bool)) (c : Nat) (x y : Operand) : Res :=
  match (st.see g).get c with
  | .c (.val (.bool b)) =>
    bif isTrueC x then
      (match (st.see ((c, false) :: g)).lv y with
      | .c (.val (.bool y)) => some ([], .c (.val (.bool (b || y))), st.objs)
      | _ => none)
    else bif isFalseC y then
      (match (st.see ((c, true) :: g)).lv x with
      | .c (.val (.bool x)) => some ([], .c (.val (.bool (b && x))), st.objs)
      | _ => none)
    else none
  | _ => none
def fieldTy (P : Program) : Op → Bool
  | .field s _ f =>
    (match P.underlying s with
    | some (.struct fs) => (fs[f]?).elim true fun fd => (P.underlying fd.type).isSome
    | _ => true)
  | _ => true
def evSee (P : Program) (o : Oper) (st : St) (g : List (Nat × Bool)) : Res :=
  match o.op with
  | .pick (.tmp c) x y => evPickG st g c x y
  | _ => bif fieldTy P o.op then evOp P o (st.see g) else none
def evStep (P : Program) (n : Nat) (ops : Array Oper) (o : Oper) (st : St) : Option (List Bool × St) :=
  match guardOf ops o st with
  | none => none
  | some g =>
    bif o.dst.elim true fun t => Nat.blt t n && (freeOf st t && g.all fun q => !Nat.beq q.1 t) then
      (match o.guard with
      | none =>
        (match evSee P o st g with
        | some (vs, d, xs) => some (vs, st.put o.dst d xs g)
        | none => none)
      | some _ =>
        bif quietOp o.op then
          (match evSee P o st g, guardB st g with
          | some (vs, d, _), some b => some (vs.map fun v => !b || v, st.put o.dst d st.objs g)
          | _, _ => none)
        else none)
    else none
def evOps (P : Program) (n : Nat) (ops : Array Oper) : List Oper → St → Option (List Bool × St)
  | [], st => some ([], st)
  | o :: r, st =>
    (match evStep P n ops o st with
    | some (v, st') =>
      (match evOps P n ops r st' with
      | some (vs, st'') => some (v ++ vs, st'')
      | none => none)
    | none => none)
def indexN (o : Nat) : List Nat → Nat → Option Nat
  | [], _ => none
  | x :: r, i => bif Nat.beq x o then some i else indexN o r (i + 1)
def C.ren (om : List Nat) : C → C
  | .own o n => (indexN o om 0).elim .bot fun o' => .own o' n
  | .ptr o i j => (indexN o om 0).elim .bot fun o' => .ptr o' i j
  | .self t b o => (indexN o om 0).elim .bot fun o' => .self t b o'
  | .map o => (indexN o om 0).elim .bot fun o' => .map o'
  | .tail o lo n => (indexN o om 0).elim .bot fun o' => .tail o' lo n
  | .opt b c => .opt b (c.ren om)
  | .iface b t c => .iface b t (c.ren om)
  | .cond b c => .cond b (c.ren om)
  | .func fn k cap =>
    let l := (List.range k).map fun i => (cap i).ren om
    .func fn k fun i => l.getD i .bot
  | c => c
def D1.ren (om : List Nat) : D1 → D1
  | .c x => .c (x.ren om)
  | .agg l => .agg (l.map (C.ren om))
def D.ren (om : List Nat) : D → D
  | .c x => .c (x.ren om)
  | .agg l => .agg (l.map (C.ren om))
  | .tup l => .tup (l.map (D1.ren om))
def Obj.ren (om : List Nat) : Obj → Obj
  | .cells l => .cells (l.map (C.ren om))
  | x => x
def nodupN : List Nat → Bool
  | [] => true
  | x :: r => !(r.any (Nat.beq x)) && nodupN r
def startsN : Nat → Nat → List Nat → Bool
  | 0, _, _ => true
  | _ + 1, _, [] => false
  | k + 1, i, x :: r => Nat.beq x i && startsN k (i + 1) r
def St.keep (st : St) (l om : List Nat) : Option St :=
  let gd := st.gd.filter fun p => l.any (Nat.beq p.1)
  bif gd.all (fun p => p.2.all fun q => l.any (Nat.beq q.1)) && (nodupN om && startsN st.h 0 om) then
    some ⟨l.map fun t => (t, (st.get t).ren om), om.map fun o => (st.objs.getD o .dead).ren om, gd, st.h⟩ else none
def run1 (P : Program) (n : Nat) (ops : Array Oper) (l : List Oper) (st : St) (keep om : List Nat) : Option (List Bool × St) :=
  match evOps P n ops l st with
  | some (vs, st') => (st'.keep keep om).map fun s => (vs, s)
  | none => none
end Go.Dl

namespace Go.Dl
variable [WInv]
def bset (β : Bmap) (o : Nat) (x : Option Bk) : Bmap := fun o' => if o' = o then some x else β o'
theorem BLe.bset {β : Bmap} {o : Nat} {x : Option Bk} (h : β o = none) : BLe β (bset β o x) := by
  intro o' k hk
  unfold Dl.bset
  split
  · rename_i he; subst he; rw [h] at hk; cases hk
  · exact hk
theorem ORel.keep {S S' : Mem} {β β' : Bmap} {w w' : World} {o : Nat} {x : Obj} (h : ORel S β w o x) (hs : MLe S S') (hb : BLe β β')
    (hw : ∀ k, x.live = true → β o = some (some k) → w'.heap[k.b]? = w.heap[k.b]?) : ORel S' β' w' o x := by
  cases x with
  | dead => trivial
  | cells l =>
    obtain ⟨k, h1, h2, h3, h4, vs, h5, h6, h7⟩ := h
    exact ⟨k, hb _ _ h1, h2, h3, h4, vs, by rw [hw k rfl h1]; exact h5, LRel.up hs hb h6, h7⟩
  | mrow e bs =>
    obtain ⟨k, h1, h2, h3, h4, h5, h6, cur, fz, h7, h8, h9⟩ := h
    exact ⟨k, hb _ _ h1, h2, h3, h4, h5, h6, cur, fz, by rw [hw k rfl h1]; exact h7, h8, h9⟩
  | map z has get =>
    obtain ⟨k, h1, ms, clock, h2, h3, h4⟩ := h
    exact ⟨k, hb _ _ h1, ms, clock, by rw [hw k rfl h1]; exact h2, h3, fun i => ⟨(h4 i).1.mono hs, (h4 i).2⟩⟩
  | row e wd n get =>
    rcases h with ⟨h1, h2⟩ | ⟨k, h1, h2, h3, h4, h5, h6, cur, h7, h8, h9⟩
    · exact .inl ⟨hb _ _ h1, h2⟩
    · refine .inr ⟨k, hb _ _ h1, h2, h3, h4, h5, h6, cur, by rw [hw k rfl h1]; exact h7, h8, fun i j hi hj => ?_⟩
      obtain ⟨u, hu, h1, hr⟩ := h9 i j hi hj
      exact ⟨u, hu, h1, CRel.mono hs _ _ _ hr⟩
theorem Holds.keep {S : Mem} {w w' : World} (h : Holds S w) (hw : ∀ b, (∃ i, (S b i).isSome = true) → w'.heap[b]? = w.heap[b]?) : Holds S w' := by
  intro b i v hv
  obtain ⟨h1, h2⟩ := h b i v hv
  refine ⟨?_, h2⟩
  have : w'.cell? ⟨b, i, none⟩ = w.cell? ⟨b, i, none⟩ := World.cell?_of_block (w := w) (hw b ⟨i, by simp [hv]⟩)
  rw [this]; exact h1
theorem Holds.lt {S : Mem} {w : World} (h : Holds S w) {b i : Nat} (hs : (S b i).isSome = true) : b < w.heap.size := by
  obtain ⟨v, hv⟩ := Option.isSome_iff_exists.1 hs
  exact World.block_lt_of_cell? w ⟨b, i, none⟩ (h b i v hv).1
theorem Frame.ext {Γ : Ctx} {S : Mem} {w w' : World} (h : Frame Γ S w) (ho : w'.os = w.os) (ht : w'.tape = w.tape) (hu : w'.output = w.output)
    (hz : w.heap.size ≤ w'.heap.size) (hb : ∀ b, b < Γ.w.heap.size → ¬ Γ.M b → w'.heap[b]? = w.heap[b]?) : Frame Γ S w' :=
  ⟨ho.trans h.os, ht.trans h.tape, hu.trans h.output, Nat.le_trans h.size hz, fun b h1 h2 => (hb b h1 h2).trans (h.block b h1 h2), h.mem, h.le, h.glob, h.inv⟩
theorem getElem?_concat {α : Type} (l : List α) (x : α) (o : Nat) (y : α) (h : (l ++ [x])[o]? = some y) : l[o]? = some y ∨ (o = l.length ∧ y = x) := by
  rcases Nat.lt_trichotomy o l.length with h1 | h1 | h1
  · rw [List.getElem?_append_left h1] at h; exact .inl h
  · subst h1; simp at h; exact .inr ⟨rfl, h.symm⟩
  · rw [List.getElem?_eq_none (by simp; omega)] at h; cases h
theorem Core.drew {Γ : Ctx} {S : Mem} {β : Bmap} {w : World} {xs : List Obj} (h : Core Γ S β w xs) : Core Γ S β w.drew xs :=
  ⟨h.frame.ext rfl rfl rfl (Nat.le_refl _) fun _ _ _ => rfl, h.holds.keep fun _ _ => rfl, fun o x hx => (h.objs o x hx).keep (MLe.refl _) (BLe.refl _) fun _ _ _ => rfl,
    h.out, h.inj, h.sep, h.mine⟩
theorem Core.push {Γ : Ctx} {S : Mem} {β : Bmap} {w w' : World} {xs : List Obj} (h : Core Γ S β w xs) (ob : Go.Obj) (x : Obj) (k : Option Bk)
    (hk : k = none ∧ w' = w ∨ (∃ k0, k = some k0 ∧ k0.b = w.heap.size) ∧ w' = w.alloc ob)
    (hx : ORel S (bset β xs.length k) w' xs.length x) : Core Γ S (bset β xs.length k) w' (xs ++ [x]) ∧ BLe β (bset β xs.length k) := by
  have hle : BLe β (bset β xs.length k) := BLe.bset (h.out _ (Nat.le_refl _))
  have hold : ∀ b, b < w.heap.size → w'.heap[b]? = w.heap[b]? := by
    intro b hb
    rcases hk with ⟨_, rfl⟩ | ⟨_, rfl⟩
    · rfl
    · exact heap_alloc_old w ob b hb
  have hsz : w.heap.size ≤ w'.heap.size := by
    rcases hk with ⟨_, rfl⟩ | ⟨_, rfl⟩
    · exact Nat.le_refl _
    · simp
  have hot : w'.os = w.os ∧ w'.tape = w.tape ∧ w'.output = w.output := by
    rcases hk with ⟨_, rfl⟩ | ⟨_, rfl⟩ <;> exact ⟨rfl, rfl, rfl⟩
  have hne : ∀ o x, xs[o]? = some x → o ≠ xs.length := fun o x ho he => by
    subst he; simp at ho
  have hb' : ∀ o x, xs[o]? = some x → bset β xs.length k o = β o := fun o x ho => by
    unfold bset; rw [if_neg (hne o x ho)]
  have hbn : bset β xs.length k xs.length = some k := by unfold bset; simp
  refine ⟨⟨?_, ?_, ?_, ?_, ?_, ?_, ?_⟩, hle⟩
  · exact h.frame.ext hot.1 hot.2.1 hot.2.2 hsz fun b hb _ => hold b (Nat.lt_of_lt_of_le hb h.frame.size)
  · exact h.holds.keep fun b ⟨i, hi⟩ => hold b (h.holds.lt hi)
  · intro o y hy
    rcases getElem?_concat _ _ _ _ hy with hy | ⟨rfl, rfl⟩
    · exact (h.objs o y hy).keep (MLe.refl _) hle fun k hl hk => hold _ (h.mine o k y hy hl hk).1
    · exact hx
  · intro o ho
    simp at ho
    unfold bset
    rw [if_neg (by omega)]
    exact h.out o (by omega)
  · intro o o' k1 k2 y y' hy hy' hl hl' h1 h2 hno
    have ka := getElem?_concat _ _ _ _ hy
    have kb := getElem?_concat _ _ _ _ hy'
    clear hy hy'
    rcases ka with qa | ⟨ra, ra'⟩
    · rcases kb with qb | ⟨rb, rb'⟩
      · rw [hb' o y qa] at h1; rw [hb' o' y' qb] at h2
        exact h.inj o o' k1 k2 y y' qa qb hl hl' h1 h2 hno
      · subst rb
        rw [hb' o y qa] at h1; rw [hbn] at h2
        have hlt := (h.mine o k1 y qa hl h1).1
        rcases hk with ⟨rfl, _⟩ | ⟨⟨k0, rfl, h0⟩, _⟩
        · cases h2
        · simp only [Option.some.injEq] at h2; subst h2; omega
    · subst ra
      rcases kb with qb | ⟨rb, rb'⟩
      · rw [hb' o' y' qb] at h2; rw [hbn] at h1
        have hlt := (h.mine o' k2 y' qb hl' h2).1
        rcases hk with ⟨rfl, _⟩ | ⟨⟨k0, rfl, h0⟩, _⟩
        · cases h1
        · simp only [Option.some.injEq] at h1; subst h1; omega
      · exact absurd rb.symm hno
  · intro o k1 y hy hl h1 i
    rcases getElem?_concat _ _ _ _ hy with hy | ⟨rfl, rfl⟩
    · rw [hb' o y hy] at h1
      exact h.sep o k1 y hy hl h1 i
    · rw [hbn] at h1
      rcases hk with ⟨rfl, _⟩ | ⟨⟨k0, rfl, h0⟩, _⟩
      · cases h1
      · simp only [Option.some.injEq] at h1; subst h1
        rw [h0]
        cases hs : S w.heap.size i with
        | none => rfl
        | some v => exact absurd (h.holds.lt (i := i) (by simp [hs])) (Nat.lt_irrefl _)
  · intro o k1 y hy hl h1
    rcases getElem?_concat _ _ _ _ hy with hy | ⟨rfl, rfl⟩
    · rw [hb' o y hy] at h1
      have := h.mine o k1 y hy hl h1
      exact ⟨Nat.lt_of_lt_of_le this.1 hsz, this.2⟩
    · rw [hbn] at h1
      rcases hk with ⟨rfl, _⟩ | ⟨⟨k0, rfl, h0⟩, rfl⟩
      · cases h1
      · simp only [Option.some.injEq] at h1; subst h1
        refine ⟨by simp; omega, fun hlt => ?_⟩
        have := h.frame.size
        omega
theorem Core.write {Γ : Ctx} {S : Mem} {β : Bmap} {w w' : World} {xs : List Obj} (h : Core Γ S β w xs) (o : Nat) (x x' : Obj) (k : Bk)
    (hx : xs[o]? = some x) (hl : x.live = true) (hk : β o = some (some k))
    (ho : w'.os = w.os) (ht : w'.tape = w.tape) (hu : w'.output = w.output) (hz : w'.heap.size = w.heap.size)
    (hb : ∀ b, b ≠ k.b → w'.heap[b]? = w.heap[b]?) (hx' : ORel S β w' o x') : Core Γ S β w' (xs.set o x') := by
  have hm := h.mine o k x hx hl hk
  have get : ∀ o' y, (xs.set o x')[o']? = some y → (o' = o ∧ y = x') ∨ (o' ≠ o ∧ xs[o']? = some y) := by
    intro o' y hy
    rw [List.getElem?_set] at hy
    split at hy
    · rename_i he
      split at hy
      · simp at hy; exact .inl ⟨he.symm, hy.symm⟩
      · cases hy
    · rename_i he; exact .inr ⟨fun e => he e.symm, hy⟩
  have other : ∀ o' y, o' ≠ o → xs[o']? = some y → ∀ k', y.live = true → β o' = some (some k') → w'.heap[k'.b]? = w.heap[k'.b]? :=
    fun o' y hne hy k' hl' hk' => hb _ (h.inj o' o k' k y x hy hx hl' hl hk' hk hne)
  refine ⟨?_, ?_, ?_, ?_, ?_, ?_, ?_⟩
  · refine h.frame.ext ho ht hu (by omega) fun b hlt hnm => hb b fun e => ?_
    subst e
    exact hnm (hm.2 hlt)
  · refine h.holds.keep fun b ⟨i, hi⟩ => hb b fun e => ?_
    subst e
    rw [h.sep o k x hx hl hk i] at hi
    simp at hi
  · intro o' y hy
    rcases get o' y hy with ⟨rfl, rfl⟩ | ⟨hne, hy⟩
    · exact hx'
    · exact (h.objs o' y hy).keep (MLe.refl _) (BLe.refl _) fun k' hl' hk' => other o' y hne hy k' hl' hk'
  · intro o' ho'
    exact h.out o' (by simpa using ho')
  · intro o1 o2 k1 k2 y1 y2 hy1 hy2 hl1 hl2 hk1 hk2 hne
    have l1 : ∃ z, xs[o1]? = some z ∧ z.live = true := by
      rcases get o1 y1 hy1 with ⟨rfl, rfl⟩ | ⟨_, hy⟩
      · exact ⟨x, hx, hl⟩
      · exact ⟨y1, hy, hl1⟩
    have l2 : ∃ z, xs[o2]? = some z ∧ z.live = true := by
      rcases get o2 y2 hy2 with ⟨rfl, rfl⟩ | ⟨_, hy⟩
      · exact ⟨x, hx, hl⟩
      · exact ⟨y2, hy, hl2⟩
    obtain ⟨z1, hz1, hzl1⟩ := l1
    obtain ⟨z2, hz2, hzl2⟩ := l2
    exact h.inj o1 o2 k1 k2 z1 z2 hz1 hz2 hzl1 hzl2 hk1 hk2 hne
  · intro o1 k1 y1 hy1 hl1 hk1
    rcases get o1 y1 hy1 with ⟨rfl, rfl⟩ | ⟨_, hy⟩
    · exact h.sep o1 k1 x hx hl hk1
    · exact h.sep o1 k1 y1 hy hl1 hk1
  · intro o1 k1 y1 hy1 hl1 hk1
    rw [hz]
    rcases get o1 y1 hy1 with ⟨rfl, rfl⟩ | ⟨_, hy⟩
    · exact h.mine o1 k1 x hx hl hk1
    · exact h.mine o1 k1 y1 hy hl1 hk1
theorem Core.kill {Γ : Ctx} {S : Mem} {β : Bmap} {w : World} {xs : List Obj} (h : Core Γ S β w xs) (o : Nat) : Core Γ S β w (xs.set o Obj.dead) := by
  have get : ∀ (o' : Nat) (y : Obj), (xs.set o Obj.dead)[o']? = some y → y.live = true → xs[o']? = some y := by
    intro o' y hy hl
    rw [List.getElem?_set] at hy
    split at hy
    · split at hy
      · simp at hy; subst hy; cases hl
      · cases hy
    · exact hy
  refine ⟨h.frame, h.holds, ?_, ?_, ?_, ?_, ?_⟩
  · intro o' y hy
    cases hl : y.live with
    | true => exact h.objs o' y (get o' y hy hl)
    | false => cases y <;> first | trivial | cases hl
  · intro o' ho'
    exact h.out o' (by simpa using ho')
  · intro o1 o2 k1 k2 y1 y2 hy1 hy2 hl1 hl2
    exact h.inj o1 o2 k1 k2 y1 y2 (get _ _ hy1 hl1) (get _ _ hy2 hl2) hl1 hl2
  · intro o1 k1 y1 hy1 hl1
    exact h.sep o1 k1 y1 (get _ _ hy1 hl1) hl1
  · intro o1 k1 y1 hy1 hl1
    exact h.mine o1 k1 y1 (get _ _ hy1 hl1) hl1
end Go.Dl

namespace Go.Dl
variable [WInv]
open Go.RowKit
def GoodV (P : Program) (s : Sem Value) (Γ : Ctx) (S : Mem) (β : Bmap) (w : World) (d : D) (xs : List Obj) : Prop :=
  ∃ v w' S' β', s.run P w = .ok v w' ∧ DRel S' β' d v ∧ MLe S S' ∧ BLe β β' ∧ Core Γ S' β' w' xs
def Up (w w' : World) : Prop := Below w.heap.size w w'
theorem Up.refl (w : World) : Up w w := Below.refl _ _
theorem Up.trans {a b c : World} (h : Up a b) (k : Up b c) : Up a c := Below.trans h (Below.mono k h.size)
theorem Up.cell {w w' : World} (h : Up w w') {a : Addr} {v : Value} (hc : w.cell? a = some v) : w'.cell? a = some v :=
  (Below.cell h (block_lt_of_cell hc)).trans hc
def GoodS (P : Program) (p : Bool) (s : Sem Value) (Γ : Ctx) (S : Mem) (β : Bmap) (w : World) (d : D) (xs : List Obj) : Prop :=
  ∃ v, (∀ w', p = true ∨ Up w w' → s.run P w' = .ok v w') ∧ DRel S β d v ∧ Core Γ S β w xs
section
variable {P : Program} {Γ : Ctx} {S : Mem} {β : Bmap} {w : World} {xs : List Obj}
theorem GoodS.same {p : Bool} {s : Sem Value} {d : D} (v : Value) (h : ∀ w', p = true ∨ Up w w' → s.run P w' = .ok v w') (hd : DRel S β d v) (hc : Core Γ S β w xs) : GoodS P p s Γ S β w d xs := ⟨v, h, hd, hc⟩
theorem GoodS.sameL {s : Sem Value} {d : D} (v : Value) (h : ∀ w', Up w w' → s.run P w' = .ok v w') (hd : DRel S β d v) (hc : Core Γ S β w xs) : GoodS P false s Γ S β w d xs := ⟨v, fun w' hw' => h w' (hw'.resolve_left (by simp)), hd, hc⟩
theorem GoodV.same {s : Sem Value} {d : D} (v : Value) (h : s.run P w = .ok v w) (hd : DRel S β d v) (hc : Core Γ S β w xs) : GoodV P s Γ S β w d xs :=
  ⟨v, w, S, β, h, hd, MLe.refl _, BLe.refl _, hc⟩
theorem GoodS.toV {p : Bool} {s : Sem Value} {d : D} (h : GoodS P p s Γ S β w d xs) : GoodV P s Γ S β w d xs := by
  obtain ⟨v, h1, h2, h3⟩ := h
  exact GoodV.same v (h1 w (.inr (Up.refl w))) h2 h3
theorem info_of_underlying {t : TypeId} {d : TypeDesc} (h : P.underlying t = some d) : ∃ i, P.info? t = some i := by
  unfold Program.underlying at h
  cases hi : P.info? t with
  | none => simp [hi] at h
  | some i => exact ⟨i, rfl⟩
theorem run_isAgg {t : TypeId} {d : TypeDesc} (h : P.underlying t = some d) (w : World) : (isAgg t).run P w = .ok (aggT P t) w := by
  unfold isAgg aggT
  rw [Sem.run_bind, run_underlying h, Result.andThen_ok, h]
  cases d <;> rfl
theorem run_typeInfo' {t : TypeId} {i : TypeInfo} (h : P.info? t = some i) (w : World) : (typeInfo t).run P w = .ok i w := by
  unfold typeInfo
  rw [Sem.run_bind, run_program, Result.andThen_ok, h]
  rfl
theorem run_sizeOf' {t : TypeId} {i : TypeInfo} (h : P.info? t = some i) (w : World) : (sizeOf t).run P w = .ok i.size w := by
  unfold sizeOf
  rw [Sem.run_bind, run_typeInfo' h]
  rfl
theorem cellsOf_eq {t : TypeId} {i : TypeInfo} (h : P.info? t = some i) : P.cellsOf t = i.size := by
  unfold Program.cellsOf
  rw [h]; rfl
theorem add_lit (b o n : Nat) : (⟨b, o, none⟩ : Addr).add n = ⟨b, o + n, none⟩ := by
  unfold Addr.add
  split
  · rename_i h; subst h; rfl
  · rfl
theorem load_row (b off n : Nat) (g : Nat → C) (h : ∀ c, c < n → ∃ u, w.cell? ⟨b, off + c, none⟩ = some u ∧ CRel S β (g c) u) :
    ∃ vs : List Value, (∀ w', Up w w' → (loadCells ⟨b, off, none⟩ n).run P w' = .ok vs.toArray w') ∧ LRel S β ((List.range n).map g) vs := by
  let f : Nat → Value := fun c => (w.cell? ⟨b, off + c, none⟩).getD undef
  refine ⟨(List.range n).map f, fun w' hw' => run_loadCells w' _ n f fun j hj => ?_, LRel.of_get (by simp) fun i c hc => ?_⟩
  · rw [add_lit]
    obtain ⟨u, hu, _⟩ := h j hj
    rw [hw'.cell hu]
    simp [f, hu]
  · rw [List.getElem?_map] at hc ⊢
    rcases Nat.lt_or_ge i n with hi | hi
    · rw [List.getElem?_range hi] at hc ⊢
      simp only [Option.map_some, Option.some.injEq] at hc ⊢
      subst hc
      obtain ⟨u, hu, hr⟩ := h i hi
      exact ⟨_, rfl, by simpa [f, hu] using hr⟩
    · rw [List.getElem?_eq_none (by simpa using hi)] at hc
      simp at hc
theorem cell_of_heap {b j : Nat} {cs : Array Value} {t : TypeId} {fr : Nat × Nat} (h : w.heap[b]? = some (.cells cs t fr)) :
    w.cell? ⟨b, j, none⟩ = cs[j]? := by
  simp [World.cell?, h]
theorem run_loadAt {t : TypeId} {d : TypeDesc} (h : P.underlying t = some d) (a : Addr) (w : World) :
    (Instr.loadAt t (.pointer (some a))).run P w =
      if aggT P t = true then ((loadCells a (P.cellsOf t)).run P w).andThen fun vs w' => .ok (.agg vs) w' else (load a).run P w := by
  obtain ⟨i, hi⟩ := info_of_underlying h
  unfold Instr.loadAt Instr.sureAddr loadVar
  simp only [pure_bind]
  rw [Sem.run_bind, run_isAgg h, Result.andThen_ok]
  split
  · rw [Sem.run_bind, run_sizeOf' hi, Result.andThen_ok, Sem.run_bind, cellsOf_eq hi]
    rfl
  · rfl
theorem some_of_cond {α : Type} {b : Bool} {x : Option α} {y : α} (h : (bif b then x else none) = some y) : b = true ∧ x = some y := by
  cases b <;> simp_all
theorem evLoad_sound {t : TypeId} {d : D} {v : Value} {vs : List Bool} {d' : D} {xs' : List Obj} (ht : ∃ td, P.underlying t = some td)
    (hc : Core Γ S β w xs) (hd : DRel S β d v) (h : evLoad P t d xs = some (vs, d', xs')) : GoodS P false (Instr.loadAt t v) Γ S β w d' xs' := by
  obtain ⟨td, ht⟩ := ht
  obtain ⟨ti, hi⟩ := info_of_underlying ht
  unfold evLoad at h
  split at h
  · rename_i o i j
    obtain ⟨k, hk, hin, hjw, rfl⟩ := hd
    cases hx : xs[o]? with
    | none => simp [hx] at h
    | some x =>
      have ho := hc.objs o x hx
      cases x with
      | dead => simp [hx] at h
      | mrow e bs => simp [hx] at h
      | map z has get => simp [hx] at h
      | cells l =>
        simp only [hx] at h
        obtain ⟨k', hk', hw, hn, hcap, us, hh, hl, h1⟩ := ho
        rw [hk] at hk'; simp only [Option.some.injEq] at hk'; subst hk'
        have hi0 : i = 0 := by omega
        subst hi0
        cases hag : aggT P t with
        | true =>
          simp only [hag, cond_true] at h
          obtain ⟨hle, h⟩ := some_of_cond h
          simp only [Option.some.injEq, Prod.mk.injEq] at h
          obtain ⟨_, rfl, rfl⟩ := h
          have hle := Nat.le_of_ble_eq_true hle
          obtain ⟨vs', hr, hrel⟩ := load_row (P := P) (S := S) (β := β) (w := w) k.b (0 * k.w + j) (P.cellsOf t) (fun c => l.getD (j + c) .bot) (fun c hcl => by
            have hlt : j + c < l.length := by omega
            obtain ⟨u, hu, hr⟩ := LRel.get hl (j + c) _ (List.getElem?_eq_getElem hlt)
            refine ⟨u, ?_, ?_⟩
            · rw [cell_of_heap hh]
              simpa using hu
            · simpa [List.getD, List.getElem?_eq_getElem hlt] using hr)
          refine GoodS.sameL (.agg vs'.toArray) (fun w' hw' => ?_) ⟨vs', rfl, ?_⟩ hc
          · rw [run_loadAt ht, if_pos hag, hr w' hw']; rfl
          · have : (l.drop j).take (P.cellsOf t) = (List.range (P.cellsOf t)).map (fun c => l.getD (j + c) .bot) := by
              apply List.ext_getElem?
              intro q
              rw [List.getElem?_take, List.getElem?_map]
              rcases Nat.lt_or_ge q (P.cellsOf t) with hq | hq
              · have hlt : j + q < l.length := by omega
                rw [if_pos hq, List.getElem?_range hq, List.getElem?_drop, Option.map_some, List.getElem?_eq_getElem hlt]
                simp [List.getD, List.getElem?_eq_getElem hlt]
              · rw [if_neg (by omega), List.getElem?_eq_none (by simpa using hq)]
                rfl
            rw [this]; exact hrel
        | false =>
          simp only [hag, cond_false] at h
          cases hlj : l[j]? with
          | none => simp [hlj] at h
          | some c =>
            simp only [hlj, Option.elim, Option.some.injEq, Prod.mk.injEq] at h
            obtain ⟨_, rfl, rfl⟩ := h
            obtain ⟨u, hu, hr⟩ := LRel.get hl j c hlj
            refine GoodS.sameL u (fun w' hw' => ?_) hr hc
            have : w.cell? ⟨k.b, 0 * k.w + j, none⟩ = some u := by rw [cell_of_heap hh]; simpa using hu
            rw [run_loadAt ht, if_neg (by simp [hag]), run_load, hw'.cell this]
      | row e wd n get =>
        simp only [hx] at h
        rcases ho with ⟨hn, _⟩ | ⟨k', hk', he, hw, hn, hcap, hml, cur, hh, hsz, hcell⟩
        · rw [hk] at hn; cases hn
        rw [hk] at hk'; simp only [Option.some.injEq] at hk'; subst hk'
        subst hw; subst hn
        cases hag : aggT P t with
        | true =>
          simp only [hag, cond_true] at h
          obtain ⟨hle, h⟩ := some_of_cond h
          simp only [Option.some.injEq, Prod.mk.injEq] at h
          obtain ⟨_, rfl, rfl⟩ := h
          have hle := Nat.le_of_ble_eq_true hle
          obtain ⟨vs', hr, hrel⟩ := load_row (P := P) (S := S) (β := β) (w := w) k.b (i * k.w + j) (P.cellsOf t) (fun c => get i (j + c)) (fun c hcl => by
            obtain ⟨u, hu, _, hr⟩ := hcell i (j + c) hin (by omega)
            exact ⟨u, by rw [cell_of_heap hh, ← hu, Nat.add_assoc], hr.closed⟩)
          refine GoodS.sameL (.agg vs'.toArray) (fun w' hw' => ?_) ⟨vs', rfl, hrel⟩ hc
          rw [run_loadAt ht, if_pos hag, hr w' hw']; rfl
        | false =>
          simp only [hag, cond_false, Option.some.injEq, Prod.mk.injEq] at h
          obtain ⟨_, rfl, rfl⟩ := h
          obtain ⟨u, hu, _, hr⟩ := hcell i j hin hjw
          refine GoodS.sameL u (fun w' hw' => ?_) hr.closed hc
          have : w.cell? ⟨k.b, i * k.w + j, none⟩ = some u := by rw [cell_of_heap hh, hu]
          rw [run_loadAt ht, if_neg (by simp [hag]), run_load, hw'.cell this]
  · rename_i wd row j
    obtain ⟨b, off, rfl, hcell⟩ := hd
    cases hag : aggT P t with
    | true =>
      simp only [hag, cond_true] at h
      obtain ⟨hle, h⟩ := some_of_cond h
      simp only [Option.some.injEq, Prod.mk.injEq] at h
      obtain ⟨_, rfl, rfl⟩ := h
      have hle := Nat.le_of_ble_eq_true hle
      obtain ⟨vs', hr, hrel⟩ := load_row (P := P) (S := S) (β := β) (w := w) b (off + j) (P.cellsOf t) (fun c => row (j + c)) (fun c hcl => by
        obtain ⟨u, hu, hr⟩ := hcell (j + c) (by omega)
        exact ⟨u, by rw [Nat.add_assoc]; exact (hc.holds _ _ _ hu).1, hr.closed⟩)
      refine GoodS.sameL (.agg vs'.toArray) (fun w' hw' => ?_) ⟨vs', rfl, hrel⟩ hc
      rw [run_loadAt ht, if_pos hag, hr w' hw']; rfl
    | false =>
      simp only [hag, cond_false] at h
      obtain ⟨hlt, h⟩ := some_of_cond h
      simp only [Option.some.injEq, Prod.mk.injEq] at h
      obtain ⟨_, rfl, rfl⟩ := h
      obtain ⟨u, hu, hr⟩ := hcell j (by simpa [Nat.blt_eq] using hlt)
      refine GoodS.sameL u (fun w' hw' => ?_) hr.closed hc
      rw [run_loadAt ht, if_neg (by simp [hag]), run_load, hw'.cell (hc.holds _ _ _ hu).1]
  · cases h
end
end Go.Dl

namespace Go.Dl
variable [WInv]
section
variable {p : Bool} {P : Program} {Γ : Ctx} {S : Mem} {β : Bmap} {w : World} {xs : List Obj}
theorem res_eq {vs : List Bool} {d d' : D} {ys ys' : List Obj} {vs' : List Bool} (h : some (vs, d, ys) = some (vs', d', ys')) : vs = vs' ∧ d = d' ∧ ys = ys' := by
  simpa using h
theorem inb_iff {i : Int} {n : Nat} (h : inb i n = true) : 0 ≤ i ∧ i < n := by
  simpa [inb] using h
theorem evFieldAddr_sound {s : TypeId} {d : D} {v : Value} {f : Nat} {vs : List Bool} {d' : D} {xs' : List Obj}
    (hc : Core Γ S β w xs) (hd : DRel S β d v) (h : evFieldAddr P s d f xs = some (vs, d', xs')) : GoodS P p (Instr.fieldAt s v f) Γ S β w d' xs' := by
  unfold evFieldAddr at h
  cases hu : P.underlying s with
  | none => simp [hu] at h
  | some u =>
    cases u with
    | struct fs =>
      simp only [hu] at h
      cases hf : fs[f]? with
      | none => simp [hf] at h
      | some fd =>
        simp only [hf] at h
        cases hi : P.info? fd.type with
        | none => simp [hi] at h
        | some fi =>
          simp only [hi] at h
          obtain ⟨hpos, h⟩ := some_of_cond h
          have hpos : 0 < fi.size := by simpa [Nat.blt_eq] using hpos
          have hrun : ∀ b o w', p = true ∨ Up w w' → (Instr.fieldAt s (.pointer (some ⟨b, o, none⟩)) f).run P w' = .ok (.pointer (some ⟨b, o + fd.offset, none⟩)) w' := by
            intro b o w' _
            unfold Instr.fieldAt
            rw [Sem.run_bind, run_underlying hu, Result.andThen_ok]
            simp only [hf, Instr.sureAddr, pure_bind]
            rw [Sem.run_bind]
            unfold fieldPlace
            rw [Sem.run_bind, run_sizeOf' hi, Result.andThen_ok, if_neg (by omega), add_lit]
            rfl
          split at h
          · rename_i o i j _
            obtain ⟨k, hk, hin, hjw, rfl⟩ := hd
            cases hx : xs[o]? with
            | none => simp [hx] at h
            | some x =>
              have ho := hc.objs o x hx
              cases x with
              | dead => simp [hx] at h
              | mrow e bs => simp [hx] at h
              | map z has get => simp [hx] at h
              | cells l =>
                simp only [hx] at h
                obtain ⟨hlt, h⟩ := some_of_cond h
                obtain ⟨_, rfl, rfl⟩ := res_eq h
                obtain ⟨k', hk', hw, _⟩ := ho
                rw [hk] at hk'; simp only [Option.some.injEq] at hk'; subst hk'
                refine GoodS.same _ (hrun _ _) ⟨k, hk, hin, ?_, ?_⟩ hc
                · rw [hw]; simpa [Nat.blt_eq] using hlt
                · rw [Nat.add_assoc]
              | row e wd n get =>
                simp only [hx] at h
                obtain ⟨hlt, h⟩ := some_of_cond h
                obtain ⟨_, rfl, rfl⟩ := res_eq h
                rcases ho with ⟨hn, _⟩ | ⟨k', hk', _, hw, _⟩
                · rw [hk] at hn; cases hn
                rw [hk] at hk'; simp only [Option.some.injEq] at hk'; subst hk'
                refine GoodS.same _ (hrun _ _) ⟨k, hk, hin, ?_, ?_⟩ hc
                · rw [hw]; simpa [Nat.blt_eq] using hlt
                · rw [Nat.add_assoc]
          · rename_i wd row j _
            obtain ⟨_, rfl, rfl⟩ := res_eq h
            obtain ⟨b, off, rfl, hcell⟩ := hd
            exact GoodS.same _ (hrun _ _) ⟨b, off, by rw [Nat.add_assoc], hcell⟩ hc
          · cases h
    | _ => simp [hu] at h
theorem extract_list {us : List Value} {l : List C} (h : LRel S β l us) (a n : Nat) : LRel S β ((l.drop a).take n) ((us.drop a).take n) := by
  refine LRel.of_get (by simp [LRel.length h]) fun i c hc => ?_
  rw [List.getElem?_take] at hc ⊢
  split at hc
  · rename_i hlt
    rw [List.getElem?_drop] at hc ⊢
    obtain ⟨u, hu, hr⟩ := LRel.get h _ _ hc
    exact ⟨u, by rw [if_pos hlt]; exact hu, hr⟩
  · cases hc
theorem evField_sound {s : TypeId} {d : D} {v : Value} {f : Nat} {vs : List Bool} {d' : D} {xs' : List Obj}
    (hc : Core Γ S β w xs) (hd : DRel S β d v) (h : evField P s d f xs = some (vs, d', xs')) (hty : ∀ fs fd, P.underlying s = some (.struct fs) → fs[f]? = some fd → ∃ td, P.underlying fd.type = some td) :
    GoodS P p (Instr.field s v f) Γ S β w d' xs' := by
  unfold evField at h
  cases hu : P.underlying s with
  | none => simp [hu] at h
  | some u =>
    cases u with
    | struct fs =>
      cases d with
      | agg l =>
        simp only [hu] at h
        obtain ⟨us, rfl, hl⟩ := hd
        cases hf : fs[f]? with
        | none => simp [hf] at h
        | some fd =>
          simp only [hf] at h
          obtain ⟨td, htd⟩ := hty fs fd hu hf
          obtain ⟨ti, hti⟩ := info_of_underlying htd
          have hbase : ∀ w, (Instr.field s (.agg us.toArray) f).run P w = (part fd.type us.toArray fd.offset).run P w := by
            intro w
            unfold Instr.field
            rw [Sem.run_bind, run_underlying hu, Result.andThen_ok]
            simp only [hf]
            rfl
          cases hag : aggT P fd.type with
          | true =>
            simp only [hag, cond_true] at h
            obtain ⟨hle, h⟩ := some_of_cond h
            obtain ⟨_, rfl, rfl⟩ := res_eq h
            refine GoodS.same (.agg ((us.drop fd.offset).take (P.cellsOf fd.type)).toArray) (fun w' hw' => ?_) ⟨_, rfl, extract_list hl _ _⟩ hc
            rw [hbase]
            unfold part
            rw [Sem.run_bind, run_isAgg htd, Result.andThen_ok, if_pos hag, Sem.run_bind, run_sizeOf' hti, cellsOf_eq hti]
            simp [List.take_drop, Nat.add_comm]
          | false =>
            simp only [hag, cond_false] at h
            cases hlj : l[fd.offset]? with
            | none => simp [hlj] at h
            | some c =>
              simp only [hlj, Option.elim] at h
              obtain ⟨_, rfl, rfl⟩ := res_eq h
              obtain ⟨u, hu', hr⟩ := LRel.get hl _ _ hlj
              refine GoodS.same u (fun w' hw' => ?_) hr hc
              rw [hbase]
              unfold part
              rw [Sem.run_bind, run_isAgg htd, Result.andThen_ok, if_neg (by simp [hag])]
              have : (us.toArray)[fd.offset]? = some u := by simpa using hu'
              rw [this]; rfl
      | _ => simp [hu] at h
    | _ => simp [hu] at h
theorem szOk_info {e : TypeId} {n : Nat} (h : szOk P e n = true) : ∃ i, P.info? e = some i ∧ i.size = n := by
  unfold szOk at h
  cases hi : P.info? e with
  | none => simp [hi] at h
  | some i => simp only [hi] at h; exact ⟨i, rfl, (Nat.eq_of_beq_eq_true h).symm⟩
theorem run_indexAt_slice {t e : TypeId} {i : Int} {k : IntKind} {b off n cap : Nat} {ei : TypeInfo} (hu : P.underlying t = some (.slice e)) (hei : P.info? e = some ei) (hb : 0 ≤ i ∧ i < n) :
    (Instr.indexAt t (.slice (some ⟨b, off, none⟩) n cap) (.int k i)).run P w = .ok (.pointer (some ⟨b, off + i.toNat * ei.size, none⟩)) w := by
  unfold Instr.indexAt
  simp only [asIntOf, pure_bind]
  rw [Sem.run_bind, run_underlying hu, Result.andThen_ok]
  simp only [pure_bind]
  rw [Sem.run_bind, run_underlying hu, Result.andThen_ok]
  simp only [pure_bind, if_pos hb]
  rw [Sem.run_bind, run_sizeOf' hei, Result.andThen_ok, add_lit]
  rfl
theorem evIndexAddr_sound {t : TypeId} {x ix : D} {v vi : Value} {vs : List Bool} {d' : D} {xs' : List Obj}
    (hc : Core Γ S β w xs) (hx : DRel S β x v) (hi : DRel S β ix vi) (h : evIndexAddr P t x ix xs = some (vs, d', xs')) (hvs : ∀ b ∈ vs, b = true) :
    GoodS P p (Instr.indexAt t v vi) Γ S β w d' xs' := by
  unfold evIndexAddr at h
  split at h
  · rename_i e wd n get k i hu
    have h2 := some_of_cond h
    clear h
    obtain ⟨hw, h⟩ := h2
    obtain ⟨rfl, rfl, rfl⟩ := res_eq h
    obtain ⟨ei, hei, rfl⟩ := szOk_info hw
    have hb := inb_iff (i := i) (n := n) (hvs _ (by simp))
    obtain ⟨a, cap, rfl, hle, _, hz⟩ := hx
    obtain rfl : vi = .int k i := hi
    rcases hz with hz | ⟨b, off, rfl, hcell⟩
    · omega
    exact GoodS.same _ (fun _ _ => run_indexAt_slice hu hei hb) ⟨b, off + i.toNat * ei.size, by simp, fun j hj => hcell i.toNat j (by omega) hj⟩ hc
  · rename_i e o n k i hu
    cases hxo : xs[o]? with
    | none => simp [hxo] at h
    | some x =>
      cases x with
      | row e' wd n' get =>
        simp only [hxo] at h
        have h2 := some_of_cond h
        clear h
        obtain ⟨hw, h⟩ := h2
        obtain ⟨rfl, rfl, rfl⟩ := res_eq h
        simp only [Bool.and_eq_true] at hw
        obtain ⟨hw, hpos⟩ := hw
        obtain ⟨ei, hei, rfl⟩ := szOk_info hw
        have hpos : 0 < ei.size := by simpa [Nat.blt_eq] using hpos
        have hb := inb_iff (i := i) (n := n) (hvs _ (by simp))
        obtain rfl : vi = .int k i := hi
        have ho := hc.objs o _ hxo
        simp only [DRel, CRel] at hx
        rcases ho with ⟨hn, _⟩ | ⟨kb, hk, he, hw', hn, hcap, hml, cur, hh, hsz, hcell⟩
        · rw [hn] at hx; omega
        rw [hk] at hx
        obtain ⟨hle, _, rfl⟩ := hx
        refine GoodS.same _ (fun _ _ => run_indexAt_slice hu hei hb) ⟨kb, hk, ?_, by omega, ?_⟩ hc
        · omega
        · rw [hw']; simp
      | _ => simp [hxo] at h
  · rename_i e o lo n k i hu
    cases hxo : xs[o]? with
    | none => simp [hxo] at h
    | some x =>
      cases x with
      | row e' wd n' get =>
        simp only [hxo] at h
        have h2 := some_of_cond h
        clear h
        obtain ⟨hw, h⟩ := h2
        obtain ⟨rfl, rfl, rfl⟩ := res_eq h
        simp only [Bool.and_eq_true] at hw
        obtain ⟨hw, hpos⟩ := hw
        obtain ⟨ei, hei, rfl⟩ := szOk_info hw
        have hpos : 0 < ei.size := by simpa [Nat.blt_eq] using hpos
        have hb := inb_iff (i := i) (n := n) (hvs _ (by simp))
        obtain rfl : vi = .int k i := hi
        obtain ⟨a, cap, rfl, hle, hz⟩ := hx
        rcases hz with hz | ⟨kb, hk, hlo, rfl⟩
        · omega
        have ho := hc.objs o _ hxo
        rcases ho with ⟨hn, _⟩ | ⟨kb', hk', he, hw', hn, hcap, hml, cur, hh, hsz, hcell⟩
        · rw [hk] at hn; cases hn
        rw [hk] at hk'; simp only [Option.some.injEq] at hk'; subst hk'
        refine GoodS.same _ (fun _ _ => run_indexAt_slice hu hei hb) ⟨kb, hk, ?_, by omega, ?_⟩ hc
        · omega
        · rw [hw']; simp [Nat.add_mul]
      | _ => simp [hxo] at h
  · obtain ⟨rfl, rfl, rfl⟩ := res_eq h
    exact absurd (hvs false (by simp)) (by simp)
  · rename_i len e o i0 j kk k hu
    cases hxo : xs[o]? with
    | none => simp [hxo] at h
    | some x =>
      cases x with
      | cells l =>
        simp only [hxo] at h
        have h2 := some_of_cond h
        clear h
        obtain ⟨hw, h⟩ := h2
        obtain ⟨rfl, rfl, rfl⟩ := res_eq h
        simp only [Bool.and_eq_true, Nat.blt_eq] at hw
        obtain ⟨hw, hlt, hlen⟩ := hw
        obtain ⟨ei, hei, hes⟩ := szOk_info hw
        have hb := inb_iff (i := k) (n := len) (hvs _ (by simp))
        obtain rfl : vi = .int kk k := hi
        obtain ⟨kb, hk, hin, hjw, rfl⟩ := hx
        obtain ⟨k', hk', hwl, hn, hcap, us, hh, hl, h1⟩ := hc.objs o _ hxo
        rw [hk] at hk'; simp only [Option.some.injEq] at hk'; subst hk'
        refine GoodS.same (.pointer (some ⟨kb.b, i0 * kb.w + j + k.toNat * P.cellsOf e, none⟩)) (fun w' hw' => ?_) ⟨kb, hk, hin, by omega, by rw [Nat.add_assoc]⟩ hc
        unfold Instr.indexAt
        simp only [asIntOf, pure_bind]
        rw [Sem.run_bind, run_underlying hu, Result.andThen_ok]
        simp only [Instr.sureAddr, pure_bind]
        rw [Sem.run_bind, run_underlying hu, Result.andThen_ok]
        simp only [pure_bind, if_pos hb]
        rw [Sem.run_bind, run_sizeOf' hei, Result.andThen_ok, add_lit, hes]
        rfl
      | _ => simp [hxo] at h
  · cases h
theorem evIndex_sound {t : TypeId} {x ix : D} {v vi : Value} {vs : List Bool} {d' : D} {xs' : List Obj}
    (hc : Core Γ S β w xs) (hx : DRel S β x v) (hi : DRel S β ix vi) (h : evIndex P t x ix xs = some (vs, d', xs')) (hvs : ∀ b ∈ vs, b = true) :
    GoodS P p (Instr.index t v vi) Γ S β w d' xs' := by
  unfold evIndex at h
  split at h
  · rename_i l k i hu
    obtain ⟨rfl, rfl, rfl⟩ := res_eq h
    have hb := inb_iff (i := i) (n := l.length) (hvs _ (by simp))
    obtain ⟨rfl, _⟩ : v = .string ⟨l.toArray⟩ ∧ l.length ≤ maxLen := hx
    obtain rfl : vi = .int k i := hi
    have hlt : i.toNat < l.length := by omega
    refine GoodS.same _ (fun w' hw' => ?_) rfl hc
    unfold Instr.index
    simp only [asIntOf, pure_bind]
    rw [Sem.run_bind, run_underlying hu, Result.andThen_ok]
    have hg : (⟨l.toArray⟩ : ByteArray)[i.toNat]? = some (l.getD i.toNat 0) := by
      have : (⟨l.toArray⟩ : ByteArray).size = l.length := by simp [ByteArray.size]
      rw [getElem?_pos _ _ (by rw [this]; exact hlt)]
      simp only [Option.some.injEq]
      show l.toArray[i.toNat]'(by simpa using hlt) = _
      simp [List.getD, List.getElem?_eq_getElem hlt]
    simp only [if_pos hb.1, hg]
    rfl
  · cases h
end
end Go.Dl

namespace Go.Dl
variable [WInv]
section
variable {pb : Bool} {P : Program} {Γ : Ctx} {S : Mem} {β : Bmap} {w : World} {xs : List Obj}
theorem bndOk_iff {n : Nat} {l h : Int} (e : bndOk n l h = true) : 0 ≤ l ∧ l ≤ h ∧ h ≤ n := by
  simp [bndOk] at e
  omega
theorem run_sliceBound {k : IntKind} {i : Int} {y : Nat} {c : BoundsCode} (h : 0 ≤ i ∧ i ≤ y) (w : World) :
    (Instr.sliceBound (.int k i) y c).run P w = .ok i.toNat w := by
  unfold Instr.sliceBound
  simp only [asIntOf, pure_bind, if_pos h]
  rfl
def ORel1 (S : Mem) (β : Bmap) : Option D → Option Value → Prop
  | none, v => v = none
  | some d, v => ∃ u, v = some u ∧ DRel S β d u
theorem run_sliceBounds {lo hi : Option D} {vlo vhi : Option Value} {n cap : Nat} {l h : Int} {isS : Bool} (hlo : ORel1 S β lo vlo) (hhi : ORel1 S β hi vhi)
    (hb : bounds n lo hi = some (l, h)) (hok : bndOk n l h = true) (hcap : n ≤ cap) (w : World) :
    (Instr.sliceBounds isS n cap vlo vhi none).run P w = .ok (l.toNat, h.toNat, cap) w := by
  obtain ⟨h1, h2, h3⟩ := bndOk_iff hok
  unfold bounds at hb
  unfold Instr.sliceBounds
  split at hb
  · simp only [Option.some.injEq, Prod.mk.injEq] at hb
    obtain ⟨rfl, rfl⟩ := hb
    obtain rfl : vlo = none := hlo
    obtain rfl : vhi = none := hhi
    simp [pure, Sem.run, bind, Sem.bind]
  · rename_i k l'
    simp only [Option.some.injEq, Prod.mk.injEq] at hb
    obtain ⟨rfl, rfl⟩ := hb
    obtain ⟨u, rfl, hu⟩ := hlo
    obtain rfl : u = .int k l' := hu
    obtain rfl : vhi = none := hhi
    simp only [pure_bind, Sem.run_bind, run_sliceBound (P := P) (y := n) ⟨h1, h2⟩, Result.andThen_ok]
    simp [pure, Sem.run]
  · rename_i k h'
    simp only [Option.some.injEq, Prod.mk.injEq] at hb
    obtain ⟨rfl, rfl⟩ := hb
    obtain ⟨u, rfl, hu⟩ := hhi
    obtain rfl : u = .int k h' := hu
    obtain rfl : vlo = none := hlo
    simp only [pure_bind, Sem.run_bind, run_sliceBound (P := P) (i := h') (y := cap) ⟨h2, by omega⟩, Result.andThen_ok]
    simp [pure, Sem.run]
  · rename_i k l' k' h'
    simp only [Option.some.injEq, Prod.mk.injEq] at hb
    obtain ⟨rfl, rfl⟩ := hb
    obtain ⟨u, rfl, hu⟩ := hhi
    obtain rfl : u = .int k' h' := hu
    obtain ⟨u, rfl, hu⟩ := hlo
    obtain rfl : u = .int k l' := hu
    simp only [pure_bind, Sem.run_bind, run_sliceBound (P := P) (i := h') (y := cap) ⟨by omega, by omega⟩, Result.andThen_ok]
    simp only [run_sliceBound (P := P) (i := l') (y := h'.toNat) ⟨h1, by omega⟩, Result.andThen_ok]
    simp [pure, Sem.run]
  · cases hb
theorem sliceAt_eq {t : TypeId} {d : TypeDesc} (hu : P.underlying t = some d) (hd : ∀ n e, d ≠ .array n e) (x : Value) (lo hi : Option Value) (w : World) :
    (Instr.sliceAt t x lo hi none).run P w = (Instr.slice t x lo hi none).run P w := by
  unfold Instr.sliceAt
  rw [Sem.run_bind, run_underlying hu, Result.andThen_ok]
  cases d <;> first | rfl | exact absurd rfl (hd _ _)
theorem run_slice_slice {t e : TypeId} {ei : TypeInfo} {a : Option Addr} {n cap l h : Nat} {vlo vhi : Option Value} (hu : P.underlying t = some (.slice e)) (hei : P.info? e = some ei)
    (hb : (Instr.sliceBounds true n cap vlo vhi none).run P w = .ok (l, h, cap) w) :
    (Instr.sliceAt t (.slice a n cap) vlo vhi none).run P w = .ok (.slice (if cap = l then a else a.map (·.add (l * ei.size))) (h - l) (cap - l)) w := by
  rw [sliceAt_eq hu (by intro _ _ h; cases h)]
  unfold Instr.slice
  rw [Sem.run_bind, run_underlying hu, Result.andThen_ok]
  simp only
  rw [Sem.run_bind, hb, Result.andThen_ok]
  simp only
  rw [Sem.run_bind, run_sizeOf' hei, Result.andThen_ok]
  rfl
theorem evSlice_sound {t : TypeId} {x : D} {lo hi : Option D} {v : Value} {vlo vhi : Option Value} {vs : List Bool} {d' : D} {xs' : List Obj}
    (hc : Core Γ S β w xs) (hx : DRel S β x v) (hlo : ORel1 S β lo vlo) (hhi : ORel1 S β hi vhi)
    (h : evSlice P t x lo hi xs = some (vs, d', xs')) (hvs : ∀ b ∈ vs, b = true) : GoodS P pb (Instr.sliceAt t v vlo vhi none) Γ S β w d' xs' := by
  unfold evSlice at h
  split at h
  · rename_i s hu
    cases hb : bounds s.length lo hi with
    | none => simp [hb] at h
    | some p =>
      obtain ⟨l, hh⟩ := p
      simp only [hb] at h
      obtain ⟨rfl, rfl, rfl⟩ := res_eq h
      have hok : bndOk s.length l hh = true := hvs _ (by simp)
      obtain ⟨b1, b2, b3⟩ := bndOk_iff hok
      obtain ⟨rfl, hmx⟩ : v = .string ⟨s.toArray⟩ ∧ s.length ≤ maxLen := hx
      refine GoodS.same (.string ((⟨s.toArray⟩ : ByteArray).extract l.toNat hh.toNat)) (fun w' hw' => ?_) ?_ hc
      · rw [sliceAt_eq hu (by intro _ _ h; cases h)]
        unfold Instr.slice
        rw [Sem.run_bind, run_underlying hu, Result.andThen_ok]
        simp only [Option.isSome_none, Bool.false_eq_true, if_false]
        have hz : (⟨s.toArray⟩ : ByteArray).size = s.length := by simp [ByteArray.size]
        rw [hz, Sem.run_bind, run_sliceBounds (S := S) (β := β) hlo hhi hb hok (Nat.le_refl _), Result.andThen_ok]
        rfl
      · refine ⟨?_, by simp only [List.length_take, List.length_drop]; omega⟩
        congr 1
        have := Lib.extract_data ⟨s.toArray⟩ l.toNat hh.toNat
        apply ByteArray.ext
        apply Array.ext'
        rw [this]
  · rename_i e wd n get hu
    have h2 := some_of_cond h
    clear h
    obtain ⟨hw, h⟩ := h2
    obtain ⟨ei, hei, rfl⟩ := szOk_info hw
    cases hb : bounds n lo hi with
    | none => simp [hb] at h
    | some p =>
      obtain ⟨l, hh⟩ := p
      simp only [hb] at h
      obtain ⟨rfl, rfl, rfl⟩ := res_eq h
      have hok : bndOk n l hh = true := hvs _ (by simp)
      obtain ⟨b1, b2, b3⟩ := bndOk_iff hok
      obtain ⟨a, cap, rfl, hle, hml, hz⟩ := hx
      refine GoodS.same _ (fun w' _ => run_slice_slice hu hei (run_sliceBounds (S := S) (β := β) hlo hhi hb hok hle w')) ?_ hc
      refine ⟨_, _, rfl, by omega, by omega, ?_⟩
      by_cases hzero : hh.toNat - l.toNat = 0
      · exact .inl hzero
      · right
        rcases hz with hz | ⟨b, off, rfl, hcell⟩
        · omega
        rw [if_neg (by omega)]
        refine ⟨b, off + l.toNat * ei.size, by simp [add_lit], fun i j hi hj => ?_⟩
        have := hcell (l.toNat + i) j (by omega) hj
        rwa [show off + (l.toNat + i) * ei.size + j = off + l.toNat * ei.size + i * ei.size + j by rw [Nat.add_mul]; omega] at this
  · rename_i e o n hu
    have h2 := some_of_cond h
    clear h
    obtain ⟨hw, h⟩ := h2
    obtain ⟨ei, hei⟩ := Option.isSome_iff_exists.1 hw
    cases lo with
    | some d =>
      simp only at h
      cases hxo : xs[o]? with
      | none => simp [hxo] at h
      | some x =>
      cases x with
      | row e' wd n' get =>
        simp only [hxo] at h
        cases hb : bounds n (some d) hi with
        | none => simp [hb] at h
        | some p =>
          obtain ⟨l, hh⟩ := p
          simp only [hb] at h
          have h2 := some_of_cond h
          clear h
          obtain ⟨hwd, h⟩ := h2
          obtain ⟨rfl, rfl, rfl⟩ := res_eq h
          obtain ⟨ei', hei', hes⟩ := szOk_info hwd
          rw [hei] at hei'; simp only [Option.some.injEq] at hei'; subst hei'
          have hok : bndOk n l hh = true := hvs _ (by simp)
          obtain ⟨b1, b2, b3⟩ := bndOk_iff hok
          have ho := hc.objs o _ hxo
          simp only [DRel, CRel] at hx
          cases hk : β o with
          | none => simp [hk] at hx
          | some k =>
            rw [hk] at hx
            cases k with
            | none =>
              obtain ⟨hn, rfl⟩ := hx
              subst hn
              have hr := fun (w' : World) (_ : pb = true ∨ Up w w') => run_slice_slice (w := w') (a := none) (cap := 0) hu hei (run_sliceBounds (S := S) (β := β) (isS := true) (cap := 0) hlo hhi hb hok (Nat.le_refl _) w')
              refine GoodS.same _ hr ?_ hc
              have e1 : l.toNat = 0 := by omega
              have e2 : hh.toNat = 0 := by omega
              exact ⟨_, _, rfl, by omega, .inl (by omega)⟩
            | some kb =>
              obtain ⟨hle, hnc, rfl⟩ := hx
              have hr := fun (w' : World) (_ : pb = true ∨ Up w w') => run_slice_slice (w := w') (a := some ⟨kb.b, 0, none⟩) hu hei (run_sliceBounds (S := S) (β := β) (isS := true) hlo hhi hb hok hnc w')
              refine GoodS.same _ hr ⟨_, _, rfl, by omega, ?_⟩ hc
              by_cases hzero : hh.toNat - l.toNat = 0
              · exact .inl hzero
              · right
                rcases ho with ⟨hn, _⟩ | ⟨kb', hk', he, hw', hn, hcap, hml, cur, hhp, hsz, hcell⟩
                · rw [hk] at hn; cases hn
                rw [hk] at hk'; simp only [Option.some.injEq] at hk'; subst hk'
                rw [if_neg (by omega)]
                refine ⟨kb, hk, by omega, ?_⟩
                rw [hw', ← hes]; simp [Addr.add_lit]
      | _ => simp [hxo] at h
    | none =>
      simp only at h
      cases hb : bounds n none hi with
      | none => simp [hb] at h
      | some p =>
        obtain ⟨l, hh⟩ := p
        simp only [hb] at h
        obtain ⟨rfl, rfl, rfl⟩ := res_eq h
        have hok : bndOk n l hh = true := hvs _ (by simp)
        obtain ⟨b1, b2, b3⟩ := bndOk_iff hok
        have hl0 : l = 0 := by
          unfold bounds at hb
          split at hb <;> simp_all
        subst hl0
        obtain rfl : vlo = none := hlo
        simp only [DRel, CRel] at hx
        cases hk : β o with
        | none => simp [hk] at hx
        | some k =>
          rw [hk] at hx
          cases k with
          | none =>
            obtain ⟨hn, rfl⟩ := hx
            subst hn
            have hr := fun (w' : World) (_ : pb = true ∨ Up w w') => run_slice_slice (w := w') (a := none) (cap := 0) hu hei (run_sliceBounds (S := S) (β := β) (isS := true) (cap := 0) (vlo := none) (lo := none) rfl hhi hb hok (Nat.le_refl _) w')
            refine GoodS.same _ hr ?_ hc
            simp only [DRel, CRel, hk]
            have : hh.toNat = 0 := by omega
            simp [this]
          | some kb =>
            obtain ⟨hle, hnc, rfl⟩ := hx
            have hr := fun (w' : World) (_ : pb = true ∨ Up w w') => run_slice_slice (w := w') (a := some ⟨kb.b, 0, none⟩) hu hei (run_sliceBounds (S := S) (β := β) (isS := true) (vlo := none) (lo := none) rfl hhi hb hok hnc w')
            refine GoodS.same _ hr ?_ hc
            simp only [DRel, CRel, hk]
            refine ⟨by omega, by omega, ?_⟩
            simp [Addr.add]
  · rename_i e hu
    have h2 := some_of_cond h
    clear h
    obtain ⟨hw, h⟩ := h2
    obtain ⟨ei, hei⟩ := Option.isSome_iff_exists.1 hw
    cases hb : bounds 0 lo hi with
    | none => simp [hb] at h
    | some p =>
      obtain ⟨l, hh⟩ := p
      simp only [hb] at h
      obtain ⟨rfl, rfl, rfl⟩ := res_eq h
      have hok : bndOk 0 l hh = true := hvs _ (by simp)
      obtain ⟨b1, b2, b3⟩ := bndOk_iff hok
      obtain rfl : v = .slice none 0 0 := hx
      have hr := fun (w' : World) (_ : pb = true ∨ Up w w') => run_slice_slice (w := w') (a := none) (cap := 0) hu hei (run_sliceBounds (S := S) (β := β) (isS := true) (cap := 0) hlo hhi hb hok (Nat.le_refl _) w')
      refine GoodS.same _ hr ?_ hc
      have e1 : l.toNat = 0 := by omega
      have e2 : hh.toNat = 0 := by omega
      simp [DRel, CRel, e1, e2]
  · cases h
theorem evInt_sound {op : BinOp} {t : TypeId} {k k' : IntKind} {a b : Int} {vs : List Bool} {c : C} (h : evInt op k a k' b = some (vs, c)) (hvs : ∀ b ∈ vs, b = true) :
    ∃ v, (∀ w, (binOp op t (.int k a) (.int k' b)).run P w = .ok v w) ∧ c = .val v := by
  unfold evInt at h
  have hs : ∀ (y : Int), decide (0 ≤ y) = true → ¬ y < 0 := by intro y hy; simp at hy; omega
  cases op <;> simp only [] at h
  case shl =>
    simp only [Option.some.injEq, Prod.mk.injEq] at h
    obtain ⟨rfl, rfl⟩ := h
    refine ⟨_, fun w => ?_, rfl⟩
    simp only [binOp, Op.shift]
    rw [if_neg (hs b (hvs _ (by simp)))]
    rfl
  case shr =>
    simp only [Option.some.injEq, Prod.mk.injEq] at h
    obtain ⟨rfl, rfl⟩ := h
    refine ⟨_, fun w => ?_, rfl⟩
    simp only [binOp, Op.shift]
    rw [if_neg (hs b (hvs _ (by simp)))]
    rfl
  all_goals
    have h2 := some_of_cond h
    clear h
    obtain ⟨hk, h⟩ := h2
    have hk : k = k' := by simpa using hk
    subst hk
    simp only [cmpI, bitsI, Option.some.injEq, Prod.mk.injEq] at h
    obtain ⟨rfl, rfl⟩ := h
    refine ⟨_, fun w => ?_, rfl⟩
    simp only [binOp, ne_eq, not_true_eq_false, if_false]
  case quo =>
    have : b ≠ 0 := by have := hvs _ (List.mem_singleton.2 rfl); simpa using this
    unfold Op.intDiv
    rw [if_neg this]
    rfl
  case rem =>
    have : b ≠ 0 := by have := hvs _ (List.mem_singleton.2 rfl); simpa using this
    unfold Op.intDiv
    rw [if_neg this]
    rfl
  all_goals rfl
theorem evStr_sound {op : BinOp} {t : TypeId} {a b : List UInt8} {vs : List Bool} {c : C} (h : evStr op a b = some (vs, c)) (hvs : ∀ b ∈ vs, b = true) :
    ∃ v, (∀ w, (binOp op t (.string ⟨a.toArray⟩) (.string ⟨b.toArray⟩)).run P w = .ok v w) ∧ CRel S β c v := by
  unfold evStr at h
  have e1 : (⟨a.toArray⟩ : ByteArray).toList = a := ByteArray.toList_mk a
  have e2 : (⟨b.toArray⟩ : ByteArray).toList = b := ByteArray.toList_mk b
  cases op <;> simp only [Option.some.injEq, Prod.mk.injEq, reduceCtorEq] at h
  all_goals
    obtain ⟨rfl, rfl⟩ := h
  case add =>
    have hr : a.length + b.length ≤ 140737488355328 := by have := hvs _ (List.mem_singleton.2 rfl); simpa [room] using this
    have z1 : (⟨a.toArray⟩ : ByteArray).size = a.length := by simp [ByteArray.size]
    have z2 : (⟨b.toArray⟩ : ByteArray).size = b.length := by simp [ByteArray.size]
    refine ⟨.string ((⟨a.toArray⟩ : ByteArray) ++ ⟨b.toArray⟩), fun w => ?_, ?_⟩
    · simp only [binOp, Op.stringOp]
      rw [if_neg ?_]
      · rfl
      · rw [z1, z2]
        have : IntKind.i64.max = 9223372036854775807 := by decide
        rw [this]
        omega
    · exact ⟨by congr 1, by simp only [List.length_append, maxLen]; omega⟩
  all_goals
    refine ⟨_, fun _ => rfl, ?_⟩
    simp only [e1, e2]
    rfl
theorem run_eqGuard_plain (op : BinOp) (t : TypeId) (x y : Operand) (a b : Value) (w : World) (h1 : ¬ (a = .nilIface ∧ b = .nilIface)) (h2 : ∀ l m, ¬ (a = .agg l ∧ b = .agg m)) :
    (eqGuard op t x y a b).run P w = .ok () w := by
  unfold eqGuard
  cases a <;> cases b <;> first | (cases op <;> rfl) | exact absurd ⟨rfl, rfl⟩ h1 | exact absurd ⟨rfl, rfl⟩ (h2 _ _)
theorem run_eqGuard_nil (op : BinOp) (t : TypeId) (x y : Operand) (w : World) (h : (isConst x || isConst y) = true) :
    (eqGuard op t x y .nilIface .nilIface).run P w = .ok () w := by
  unfold eqGuard
  cases x <;> cases y <;> simp [isConst] at h <;> cases op <;> rfl
theorem run_equal {t : TypeId} {d : TypeDesc} (hu : P.underlying t = some d) (a b : Value) (r : Bool)
    (h : match d, a, b with
      | .bool, .bool x, .bool y => r = (x == y)
      | .interface _, .nilIface, .nilIface => r = true
      | .interface _, .nilIface, .iface _ _ => r = false
      | .interface _, .iface _ _, .nilIface => r = false
      | .pointer _, .pointer none, .pointer y => r = y.isNone
      | .pointer _, .pointer (some _), .pointer none => r = false
      | .slice _, .slice none _ _, .slice y _ _ => r = y.isNone
      | _, _, _ => False) (w : World) : (Op.equal t a b).run P w = .ok r w := by
  show (Op.equalIn (9999 + 1) t a b).run P w = _
  unfold Op.equalIn
  rw [Sem.run_bind, run_underlying hu, Result.andThen_ok]
  split at h <;> first | (subst h; rfl) | exact h.elim
theorem eqCell_sound {t : TypeId} {a b : C} {v u : Value} {r : Bool} {d : Nat} (h : eqCell P t a b = some r) (hx : CRel S β a v) (hy : CRel S β b u) (w : World) : (Op.equalIn (d + 1) t v u).run P w = .ok r w := by
  unfold eqCell at h
  split at h
  · rename_i k0 k a k' b hu
    obtain rfl : v = .int k a := hx
    obtain rfl : u = .int k' b := hy
    have h2 := some_of_cond h
    clear h
    obtain ⟨hk, h⟩ := h2
    have hk : k = k' := by simpa using hk
    subst hk
    simp only [Option.some.injEq] at h; subst h
    unfold Op.equalIn; rw [Sem.run_bind, run_underlying hu]
    simp only [Result.andThen_ok, if_true]
    rfl
  · rename_i a b hu
    obtain ⟨rfl, _⟩ := hx
    obtain ⟨rfl, _⟩ := hy
    simp only [Option.some.injEq] at h; subst h
    unfold Op.equalIn; rw [Sem.run_bind, run_underlying hu]
    simp only [Result.andThen_ok]
    show Result.ok ((⟨a.toArray⟩ : ByteArray) == ⟨b.toArray⟩) w = _
    rw [beq_toListBytes, ByteArray.toList_mk, ByteArray.toList_mk]
  · rename_i a b hu
    obtain rfl : v = .bool a := hx
    obtain rfl : u = .bool b := hy
    simp only [Option.some.injEq] at h; subst h
    unfold Op.equalIn; rw [Sem.run_bind, run_underlying hu]; rfl
  · cases h
theorem run_part_cell {t : TypeId} {d : TypeDesc} (h : P.underlying t = some d) (hag : aggT P t = false) {cs : List Value} {off : Nat} {v : Value} (hv : cs[off]? = some v) (w : World) :
    (part t cs.toArray off).run P w = .ok v w := by
  unfold part
  rw [Sem.run_bind, run_isAgg h, Result.andThen_ok, if_neg (by simp [hag])]
  have : cs.toArray[off]? = some v := by simpa using hv
  rw [this]; rfl
theorem LRel.at {l : List C} {vs : List Value} (h : LRel S β l vs) : ∀ {j : Nat} {c : C}, l[j]? = some c → ∃ v, vs[j]? = some v ∧ CRel S β c v := by
  induction l generalizing vs with
  | nil => intro j c hj; simp at hj
  | cons a r ih =>
    intro j c hj
    obtain ⟨v, us, rfl, h1, h2⟩ := h
    cases j with
    | zero =>
      simp only [List.getElem?_cons_zero, Option.some.injEq] at hj
      subst hj
      exact ⟨v, rfl, h1⟩
    | succ j => exact ih h2 (by simpa using hj)
theorem eqFsD_sound {d : Nat} {xs ys : List C} {vs us : List Value} (hx : LRel S β xs vs) (hy : LRel S β ys us) : ∀ {fs : List Field} {r : Bool}, eqFsD P xs ys fs = some r → ∀ w, (Op.eqFields (d + 1) vs.toArray us.toArray fs).run P w = .ok r w
  | [], r, h, w => by
    simp only [eqFsD, List.foldr_nil, Option.some.injEq] at h
    subst h
    rfl
  | fd :: fs, r, h, w => by
    unfold eqFsD at h
    rw [List.foldr_cons] at h
    unfold Op.eqFields
    cases hn : (fd.name == "_") with
    | true =>
      rw [hn] at h
      have hne : ¬ (fd.name ≠ "_") := by simpa using hn
      rw [if_neg hne]
      exact eqFsD_sound hx hy h w
    | false =>
      rw [hn] at h
      simp only [Bool.not_false, cond_true] at h
      have hne : fd.name ≠ "_" := by simpa using hn
      rw [if_pos hne]
      cases hag : aggT P fd.type with
      | true => rw [hag] at h; cases h
      | false =>
        rw [hag, cond_false] at h
        cases ha : xs[fd.offset]? with
        | none => simp [ha] at h
        | some a =>
          cases hb : ys[fd.offset]? with
          | none => simp [ha, hb] at h
          | some b =>
            rw [ha, hb] at h
            simp only at h
            obtain ⟨v, hv, hra⟩ := hx.at ha
            obtain ⟨u, hu, hrb⟩ := hy.at hb
            cases he : eqCell P fd.type a b with
            | none => rw [he] at h; cases h
            | some e =>
              rw [he] at h
              have hd : ∃ td, P.underlying fd.type = some td := by
                unfold eqCell at he
                cases hud : P.underlying fd.type with
                | none => rw [hud] at he; cases he
                | some td => exact ⟨td, rfl⟩
              obtain ⟨td, hd⟩ := hd
              generalize hq : fs.foldr _ (some true) = q at h
              have ih : ∀ {r : Bool}, q = some r → ∀ w, (Op.eqFields (d + 1) vs.toArray us.toArray fs).run P w = .ok r w := by
                intro r hr w
                subst hr
                exact eqFsD_sound hx hy (by unfold eqFsD; exact hq) w
              cases q with
              | none => cases h
              | some q =>
                simp only [Option.some.injEq] at h
                subst h
                rw [Sem.run_bind, run_part_cell hd hag hv, Result.andThen_ok, Sem.run_bind, run_part_cell hd hag hu, Result.andThen_ok, Sem.run_bind, eqCell_sound he hra hrb, Result.andThen_ok]
                cases e with
                | true =>
                  simp only [Bool.not_true, Bool.false_eq_true, if_false, Bool.true_and]
                  exact ih rfl w
                | false => rfl
theorem run_part_agg {t : TypeId} {d : TypeDesc} (h : P.underlying t = some d) (hag : aggT P t = true) {vs : List Value} {off : Nat} (w : World) :
    (part t vs.toArray off).run P w = .ok (.agg ((vs.drop off).take (P.cellsOf t)).toArray) w := by
  obtain ⟨ti, hti⟩ := info_of_underlying h
  unfold part
  rw [Sem.run_bind, run_isAgg h, Result.andThen_ok, if_pos hag, Sem.run_bind, run_sizeOf' hti, cellsOf_eq hti]
  simp [List.take_drop, Nat.add_comm]
theorem eqField_sound {d : Nat} {xs ys : List C} {vs us : List Value} (hx : LRel S β xs vs) (hy : LRel S β ys us) {fd : Field} {e : Bool} (h : eqField P xs ys fd = some e) (w : World) :
    ((do let a ← part fd.type vs.toArray fd.offset; let b ← part fd.type us.toArray fd.offset; Op.equalIn (d + 2) fd.type a b) : Sem Bool).run P w = .ok e w := by
  unfold eqField at h
  cases hag : aggT P fd.type with
  | true =>
    rw [hag, cond_true] at h
    split at h
    · rename_i fs hu
      cases hg : P.stoodInHeld fd.type with
      | true => rw [hg] at h; cases h
      | false =>
        rw [hg, cond_false] at h
        have hfs : P.fieldsOf fd.type = fs := by unfold Program.fieldsOf; rw [hu]
        rw [Sem.run_bind, run_part_agg hu hag, Result.andThen_ok, Sem.run_bind, run_part_agg hu hag, Result.andThen_ok, run_equalIn_struct w _ _ _ _ (by rw [hfs]; exact hu) hg, hfs]
        exact eqFsD_sound (extract_list hx _ _) (extract_list hy _ _) h w
    · cases h
  | false =>
    rw [hag, cond_false] at h
    split at h
    · rename_i a b ha hb
      obtain ⟨v, hv, hra⟩ := hx.at ha
      obtain ⟨u, hu, hrb⟩ := hy.at hb
      have hd : ∃ td, P.underlying fd.type = some td := by
        unfold eqCell at h
        cases hud : P.underlying fd.type with
        | none => rw [hud] at h; cases h
        | some td => exact ⟨td, rfl⟩
      obtain ⟨td, hd⟩ := hd
      rw [Sem.run_bind, run_part_cell hd hag hv, Result.andThen_ok, Sem.run_bind, run_part_cell hd hag hu, Result.andThen_ok, eqCell_sound h hra hrb]
    · cases h
theorem eqFsD2_sound {d : Nat} {xs ys : List C} {vs us : List Value} (hx : LRel S β xs vs) (hy : LRel S β ys us) : ∀ {fs : List Field} {r : Bool}, eqFsD2 P xs ys fs = some r → ∀ w, (Op.eqFields (d + 2) vs.toArray us.toArray fs).run P w = .ok r w
  | [], r, h, w => by
    simp only [eqFsD2, List.foldr_nil, Option.some.injEq] at h
    subst h
    rfl
  | fd :: fs, r, h, w => by
    unfold eqFsD2 at h
    rw [List.foldr_cons] at h
    unfold Op.eqFields
    cases hn : (fd.name == "_") with
    | true =>
      rw [hn] at h
      have hne : ¬ (fd.name ≠ "_") := by simpa using hn
      rw [if_neg hne]
      exact eqFsD2_sound hx hy h w
    | false =>
      rw [hn] at h
      simp only [Bool.not_false, cond_true] at h
      have hne : fd.name ≠ "_" := by simpa using hn
      rw [if_pos hne]
      cases he : eqField P xs ys fd with
      | none => rw [he] at h; cases h
      | some e =>
        rw [he] at h
        generalize hq : fs.foldr _ (some true) = q at h
        have ih : ∀ {r : Bool}, q = some r → ∀ w, (Op.eqFields (d + 2) vs.toArray us.toArray fs).run P w = .ok r w := by
          intro r hr w
          subst hr
          exact eqFsD2_sound hx hy (by unfold eqFsD2; exact hq) w
        cases q with
        | none => cases h
        | some q =>
          simp only [Option.some.injEq] at h
          subst h
          have hf := eqField_sound (d := d) hx hy he w
          simp only [Sem.run_bind] at hf ⊢
          cases h1 : (part fd.type vs.toArray fd.offset).run P w with
          | halt a b => rw [h1] at hf; cases hf
          | ok a w1 =>
            rw [h1] at hf
            simp only [Result.andThen_ok] at hf ⊢
            cases h2 : (part fd.type us.toArray fd.offset).run P w1 with
            | halt a b => rw [h2] at hf; cases hf
            | ok b w2 =>
              rw [h2] at hf
              simp only [Result.andThen_ok] at hf ⊢
              rw [hf]
              cases e with
              | true =>
                simp only [Result.andThen_ok, Bool.not_true, Bool.false_eq_true, if_false, Bool.true_and]
                exact ih rfl w
              | false => rfl
theorem evEq_sound {op : BinOp} {t : TypeId} {p q : Operand} {x y : D} {v u : Value} {r : Bool} (hop : op = .eql ∨ op = .neq)
    (hx : DRel S β x v) (hy : DRel S β y u) (h : evEq P t p q x y = some r) (w : World) :
    (do eqGuard op t p q v u; binOp op t v u : Sem Value).run P w = .ok (.bool (if op = .eql then r else !r)) w := by
  have fin : ∀ (hg : (eqGuard op t p q v u).run P w = .ok () w) (he : (Op.equal t v u).run P w = .ok r w)
      (hb1 : binOp .eql t v u = (do pure (.bool (← Op.equal t v u)))) (hb2 : binOp .neq t v u = (do pure (.bool (!(← Op.equal t v u))))),
      (do eqGuard op t p q v u; binOp op t v u : Sem Value).run P w = .ok (.bool (if op = .eql then r else !r)) w := by
    intro hg he hb1 hb2
    rw [Sem.run_bind, hg, Result.andThen_ok]
    rcases hop with rfl | rfl
    · rw [hb1, Sem.run_bind, he]; rfl
    · rw [hb2, Sem.run_bind, he]; rfl
  unfold evEq at h
  split at h
  · rename_i a b hu
    simp only [Option.some.injEq] at h
    obtain rfl : v = .bool a := hx
    obtain rfl : u = .bool b := hy
    exact fin (run_eqGuard_plain _ _ _ _ _ _ _ (by simp) (by simp)) (run_equal hu _ _ _ h.symm _) rfl rfl
  · rename_i b tt c hu
    have h2 := some_of_cond h
    obtain ⟨hcst, h⟩ := h2
    simp only [Option.some.injEq] at h
    obtain rfl : u = .nilIface := hy
    simp only [DRel, CRel] at hx
    cases b with
    | true =>
      simp only [if_true] at hx
      obtain ⟨z, rfl, _⟩ := hx
      exact fin (run_eqGuard_plain _ _ _ _ _ _ _ (by simp) (by simp)) (run_equal hu _ _ _ (by simpa using h.symm) _) rfl rfl
    | false =>
      simp only [Bool.false_eq_true, if_false] at hx
      subst hx
      exact fin (run_eqGuard_nil _ _ _ _ _ (by simp [hcst])) (run_equal hu _ _ _ (by simpa using h.symm) _) rfl rfl
  · rename_i b tt c hu
    have h2 := some_of_cond h
    obtain ⟨hcst, h⟩ := h2
    simp only [Option.some.injEq] at h
    obtain rfl : v = .nilIface := hx
    simp only [DRel, CRel] at hy
    cases b with
    | true =>
      simp only [if_true] at hy
      obtain ⟨z, rfl, _⟩ := hy
      exact fin (run_eqGuard_plain _ _ _ _ _ _ _ (by simp) (by simp)) (run_equal hu _ _ _ (by simpa using h.symm) _) rfl rfl
    | false =>
      simp only [Bool.false_eq_true, if_false] at hy
      subst hy
      exact fin (run_eqGuard_nil _ _ _ _ _ (by simp [hcst])) (run_equal hu _ _ _ (by simpa using h.symm) _) rfl rfl
  · rename_i hu
    have h2 := some_of_cond h
    obtain ⟨hcst, h⟩ := h2
    simp only [Option.some.injEq] at h
    obtain rfl : v = .nilIface := hx
    obtain rfl : u = .nilIface := hy
    exact fin (run_eqGuard_nil _ _ _ _ _ hcst) (run_equal hu _ _ _ h.symm _) rfl rfl
  · rename_i b o i j hu
    simp only [Option.some.injEq] at h
    obtain rfl : u = .pointer none := hy
    simp only [DRel, CRel] at hx
    cases b with
    | true =>
      simp only [if_true] at hx
      obtain ⟨k, _, _, _, rfl⟩ := hx
      exact fin (run_eqGuard_plain _ _ _ _ _ _ _ (by simp) (by simp)) (run_equal hu _ _ _ (by simpa using h.symm) _) rfl rfl
    | false =>
      simp only [Bool.false_eq_true, if_false] at hx
      subst hx
      exact fin (run_eqGuard_plain _ _ _ _ _ _ _ (by simp) (by simp)) (run_equal hu _ _ _ (by simpa using h.symm) _) rfl rfl
  · rename_i b ww row j hu
    simp only [Option.some.injEq] at h
    obtain rfl : u = .pointer none := hy
    simp only [DRel, CRel] at hx
    cases b with
    | true =>
      simp only [if_true] at hx
      obtain ⟨_, _, rfl, _⟩ := hx
      exact fin (run_eqGuard_plain _ _ _ _ _ _ _ (by simp) (by simp)) (run_equal hu _ _ _ (by simpa using h.symm) _) rfl rfl
    | false =>
      simp only [Bool.false_eq_true, if_false] at hx
      subst hx
      exact fin (run_eqGuard_plain _ _ _ _ _ _ _ (by simp) (by simp)) (run_equal hu _ _ _ (by simpa using h.symm) _) rfl rfl
  · rename_i o i j hu
    simp only [Option.some.injEq] at h
    obtain rfl : u = .pointer none := hy
    obtain ⟨k, _, _, _, rfl⟩ := hx
    exact fin (run_eqGuard_plain _ _ _ _ _ _ _ (by simp) (by simp)) (run_equal hu _ _ _ h.symm _) rfl rfl
  · rename_i ww row j hu
    simp only [Option.some.injEq] at h
    obtain rfl : u = .pointer none := hy
    obtain ⟨_, _, rfl, _⟩ := hx
    exact fin (run_eqGuard_plain _ _ _ _ _ _ _ (by simp) (by simp)) (run_equal hu _ _ _ h.symm _) rfl rfl
  · rename_i hu
    simp only [Option.some.injEq] at h
    obtain rfl : v = .pointer none := hx
    obtain rfl : u = .pointer none := hy
    exact fin (run_eqGuard_plain _ _ _ _ _ _ _ (by simp) (by simp)) (run_equal hu _ _ _ h.symm _) rfl rfl
  · rename_i hu
    simp only [Option.some.injEq] at h
    obtain rfl : v = .slice none 0 0 := hx
    obtain rfl : u = .slice none 0 0 := hy
    exact fin (run_eqGuard_plain _ _ _ _ _ _ _ (by simp) (by simp)) (run_equal hu _ _ _ h.symm _) rfl rfl
  · rename_i fs l m hu
    cases hg : (P.stoodInHeld t || P.eqGuardType P.depth t) with
    | true => rw [hg] at h; cases h
    | false =>
      rw [hg, cond_false] at h
      simp only [Bool.or_eq_false_iff] at hg
      obtain ⟨vs, rfl, hvs⟩ := hx
      obtain ⟨us, rfl, hus⟩ := hy
      have hfs : P.fieldsOf t = fs := by unfold Program.fieldsOf; rw [hu]
      refine fin (run_eqGuard_agg w op t p q _ _ hg.2) ?_ rfl rfl
      show (Op.equalIn (9997 + 1 + 1 + 1) t _ _).run P w = _
      rw [run_equalIn_struct w _ t _ _ (by rw [hfs]; exact hu) hg.1, hfs]
      exact eqFsD2_sound hvs hus h w
  · cases h
theorem evBin_sound {op : BinOp} {t : TypeId} {p q : Operand} {x y : D} {v u : Value} {vs : List Bool} {d' : D} {xs' : List Obj}
    (hc : Core Γ S β w xs) (hx : DRel S β x v) (hy : DRel S β y u) (h : evBin P op t p q x y xs = some (vs, d', xs')) (hvs : ∀ b ∈ vs, b = true) :
    GoodS P pb (do eqGuard op t p q v u; binOp op t v u) Γ S β w d' xs' := by
  unfold evBin at h
  split at h
  · rename_i k a k' b
    obtain rfl : v = .int k a := hx
    obtain rfl : u = .int k' b := hy
    cases he : evInt op k a k' b with
    | none => simp [he] at h
    | some r =>
      simp only [he, Option.elim] at h
      obtain ⟨rfl, rfl, rfl⟩ := res_eq h
      obtain ⟨z, hz, hcz⟩ := evInt_sound (P := P) (t := t) (vs := r.1) (c := r.2) he hvs
      refine GoodS.same z (fun w' hw' => ?_) ?_ hc
      · rw [Sem.run_bind, run_eqGuard_plain _ _ _ _ _ _ _ (by simp) (by simp), Result.andThen_ok, hz]
      · rw [hcz]; rfl
  · rename_i a b
    obtain ⟨rfl, _⟩ : v = .string ⟨a.toArray⟩ ∧ a.length ≤ maxLen := hx
    obtain ⟨rfl, _⟩ : u = .string ⟨b.toArray⟩ ∧ b.length ≤ maxLen := hy
    cases he : evStr op a b with
    | none => simp [he] at h
    | some r =>
      simp only [he, Option.elim] at h
      obtain ⟨rfl, rfl, rfl⟩ := res_eq h
      obtain ⟨z, hz, hcz⟩ := evStr_sound (P := P) (S := S) (β := β) (t := t) (vs := r.1) (c := r.2) he hvs
      refine GoodS.same z (fun w' hw' => ?_) hcz hc
      rw [Sem.run_bind, run_eqGuard_plain _ _ _ _ _ _ _ (by simp) (by simp), Result.andThen_ok, hz]
  · split at h
    · rename_i heq
      cases he : evEq P t p q x y with
      | none => simp [he] at h
      | some r =>
        simp only [he, Option.elim] at h
        obtain ⟨rfl, rfl, rfl⟩ := res_eq h
        exact GoodS.same _ (fun w' _ => evEq_sound (op := .eql) (.inl rfl) hx hy he w') rfl hc
    · cases he : evEq P t p q x y with
      | none => simp [he] at h
      | some r =>
        simp only [he, Option.elim] at h
        obtain ⟨rfl, rfl, rfl⟩ := res_eq h
        exact GoodS.same _ (fun w' _ => evEq_sound (op := .neq) (.inr rfl) hx hy he w') rfl hc
    · cases h
theorem evUn_sound {op : UnOp} {x : D} {v : Value} {vs : List Bool} {d' : D} {xs' : List Obj}
    (hc : Core Γ S β w xs) (hx : DRel S β x v) (h : evUn op x xs = some (vs, d', xs')) : GoodS P pb (Op.unary op v) Γ S β w d' xs' := by
  unfold evUn at h
  split at h
  · obtain ⟨rfl, rfl, rfl⟩ := res_eq h
    obtain rfl := hx
    exact GoodS.same _ (fun _ _ => rfl) rfl hc
  · obtain ⟨rfl, rfl, rfl⟩ := res_eq h
    obtain rfl := hx
    exact GoodS.same _ (fun _ _ => rfl) rfl hc
  · cases h
theorem run_len_slice {t e : TypeId} (hu : P.underlying t = some (.slice e)) (ts : Array TypeId) (ty : TypeId) (h0 : ts[0]? = some t) (a : Option Addr) (n c : Nat) (w : World) :
    (Builtin.len_ ts ty #[.slice a n c]).run P w = .ok (goInt n) w := by
  unfold Builtin.len_
  simp only [h0, List.getElem?_toArray, List.getElem?_cons_zero]
  rw [Sem.run_bind, run_underlying hu, Result.andThen_ok]
  rfl
theorem run_len_string {t : TypeId} (hu : P.underlying t = some .string) (ts : Array TypeId) (ty : TypeId) (h0 : ts[0]? = some t) (s : ByteArray) (w : World) :
    (Builtin.len_ ts ty #[.string s]).run P w = .ok (goInt s.size) w := by
  unfold Builtin.len_
  simp only [h0, List.getElem?_toArray, List.getElem?_cons_zero]
  rw [Sem.run_bind, run_underlying hu, Result.andThen_ok]
  rfl
theorem evLenT_sound {t : TypeId} {x : D} {v : Value} {vs : List Bool} {d' : D} {xs' : List Obj} (ts : Array TypeId) (ty : TypeId) (h0 : ts[0]? = some t)
    (hc : Core Γ S β w xs) (hx : DRel S β x v) (h : evLenT P t x xs = some (vs, d', xs')) : GoodS P pb (Builtin.len_ ts ty #[v]) Γ S β w d' xs' := by
  unfold evLenT at h
  split at h
  · rename_i e hu
    unfold evLen at h
    split at h
    · obtain ⟨rfl, rfl, rfl⟩ := res_eq h
      obtain rfl := hx
      exact GoodS.same _ (fun _ _ => run_len_slice hu ts ty h0 _ _ _ _) rfl hc
    · obtain ⟨rfl, rfl, rfl⟩ := res_eq h
      obtain ⟨a, cap, rfl, _⟩ := hx
      exact GoodS.same _ (fun _ _ => run_len_slice hu ts ty h0 _ _ _ _) rfl hc
    · rename_i o n
      obtain ⟨rfl, rfl, rfl⟩ := res_eq h
      simp only [DRel, CRel] at hx
      cases hk : β o with
      | none => simp [hk] at hx
      | some k =>
        rw [hk] at hx
        cases k with
        | none => obtain ⟨rfl, rfl⟩ := hx; exact GoodS.same _ (fun _ _ => run_len_slice hu ts ty h0 _ _ _ _) rfl hc
        | some kb => obtain ⟨_, _, rfl⟩ := hx; exact GoodS.same _ (fun _ _ => run_len_slice hu ts ty h0 _ _ _ _) rfl hc
    · obtain ⟨rfl, rfl, rfl⟩ := res_eq h
      obtain ⟨a, cap, rfl, _⟩ := hx
      exact GoodS.same _ (fun _ _ => run_len_slice hu ts ty h0 _ _ _ _) rfl hc
    · cases h
  · rename_i hu
    unfold evLenS at h
    split at h
    · obtain ⟨rfl, rfl, rfl⟩ := res_eq h
      obtain ⟨rfl, _⟩ := hx
      exact GoodS.same _ (fun _ _ => run_len_string hu ts ty h0 _ _) rfl hc
    · cases h
  · cases h
end
end Go.Dl

namespace Go.Dl
variable [WInv]
section
variable {p : Bool} {P : Program} {Γ : Ctx} {S : Mem} {β : Bmap} {w : World} {xs : List Obj}
def VRel (S : Mem) (β : Bmap) : List D → List Value → Prop
  | [], vs => vs = []
  | d :: ds, vs => ∃ v r, vs = v :: r ∧ DRel S β d v ∧ VRel S β ds r
theorem maxI_sound {isMax : Bool} : ∀ {l : List D} {us : List Value} {x y : Int}, VRel S β l us → maxI isMax x l = some y → ∀ w : World,
    (us.foldlM (if isMax then Builtin.max2 else Builtin.min2) (.int .i64 x)).run P w = .ok (.int .i64 y) w
  | [], us, x, y, hv, h, w => by
    obtain rfl : us = [] := hv
    simp only [maxI, Option.some.injEq] at h
    subst h
    rfl
  | d :: l, us, x, y, hv, h, w => by
    obtain ⟨v, r, rfl, hd, hr⟩ := hv
    have hq : ∃ q, d = .c (.val (.int .i64 q)) ∧ maxI isMax (bif isMax then (if q > x then q else x) else (if q < x then q else x)) l = some y := by
      cases d with
      | c cc =>
        cases cc with
        | val vv =>
          cases vv with
          | int k q => cases k <;> first | exact ⟨q, rfl, h⟩ | cases h
          | _ => cases h
        | _ => cases h
      | _ => cases h
    obtain ⟨q, rfl, h⟩ := hq
    obtain rfl : v = .int .i64 q := hd
    rw [List.foldlM_cons, Sem.run_bind]
    cases isMax with
    | true =>
      simp only [if_true]
      rw [show (Builtin.max2 (.int .i64 x) (.int .i64 q)).run P w = .ok (.int .i64 (if q > x then q else x)) w from rfl, Result.andThen_ok]
      exact maxI_sound (isMax := true) hr h w
    | false =>
      simp only [Bool.false_eq_true, if_false]
      rw [show (Builtin.min2 (.int .i64 x) (.int .i64 q)).run P w = .ok (.int .i64 (if q < x then q else x)) w from rfl, Result.andThen_ok]
      exact maxI_sound (isMax := false) hr h w
theorem evMaxMin_sound {isMax : Bool} {ds : List D} {us : List Value} {vs : List Bool} {d' : D} {xs' : List Obj} (ts : Array TypeId) (ty : TypeId)
    (hc : Core Γ S β w xs) (hx : VRel S β ds us) (h : evMaxMin isMax ds xs = some (vs, d', xs')) :
    GoodS P p (if isMax then Builtin.max_ ts ty us.toArray else Builtin.min_ ts ty us.toArray) Γ S β w d' xs' := by
  unfold evMaxMin at h
  split at h
  · rename_i x r
    obtain ⟨v, rr, rfl, hd, hr⟩ := hx
    obtain rfl : v = .int .i64 x := hd
    cases hm : maxI isMax x r with
    | none => simp [hm] at h
    | some y =>
      simp only [hm, Option.elim] at h
      obtain ⟨rfl, rfl, rfl⟩ := res_eq h
      refine GoodS.same (.int .i64 y) (fun w' hw' => ?_) rfl hc
      have := maxI_sound (P := P) hr hm w'
      cases isMax <;> simpa [Builtin.max_, Builtin.min_] using this
  · cases h
theorem evConvert_sound {src dst : TypeId} {x : D} {v : Value} {vs : List Bool} {d' : D} {xs' : List Obj}
    (hc : Core Γ S β w xs) (hx : DRel S β x v) (h : evConvert P src dst x xs = some (vs, d', xs')) : GoodS P p (convert src dst v) Γ S β w d' xs' := by
  unfold evConvert at h
  split at h
  · rename_i k0 k k1 n h1 h2
    obtain ⟨rfl, rfl, rfl⟩ := res_eq h
    obtain rfl := hx
    refine GoodS.same _ (fun w' hw' => ?_) rfl hc
    unfold convert
    rw [Sem.run_bind, run_underlying h1, Result.andThen_ok, Sem.run_bind, run_underlying h2, Result.andThen_ok]
    rfl
  · rename_i l h1 h2
    obtain ⟨rfl, rfl, rfl⟩ := res_eq h
    obtain ⟨rfl, hmx⟩ := hx
    refine GoodS.same _ (fun w' hw' => ?_) ⟨rfl, hmx⟩ hc
    unfold convert
    rw [Sem.run_bind, run_underlying h1, Result.andThen_ok, Sem.run_bind, run_underlying h2, Result.andThen_ok]
    rfl
  · cases h
def Through : Value → Prop
  | .pointer (some _) => True
  | .func (.func _) _ _ => True
  | _ => False
theorem evNil_sound {x : D} {v : Value} {vs : List Bool} {d' : D} {xs' : List Obj}
    (hx : DRel S β x v) (h : evNil x xs = some (vs, d', xs')) (hvs : ∀ b ∈ vs, b = true) : DRel S β d' v ∧ xs' = xs ∧ Through v := by
  unfold evNil at h
  split at h
  · obtain ⟨rfl, rfl, rfl⟩ := res_eq h
    obtain ⟨k, h1, h2, h3, rfl⟩ := hx
    exact ⟨⟨k, h1, h2, h3, rfl⟩, rfl, trivial⟩
  · obtain ⟨rfl, rfl, rfl⟩ := res_eq h
    obtain ⟨b, off, rfl, hh⟩ := hx
    exact ⟨⟨b, off, rfl, hh⟩, rfl, trivial⟩
  · rename_i b o i j
    obtain ⟨rfl, rfl, rfl⟩ := res_eq h
    have hb : b = true := hvs _ (by simp)
    simp only [DRel, CRel, hb, if_true] at hx
    obtain ⟨k, h1, h2, h3, rfl⟩ := hx
    exact ⟨⟨k, h1, h2, h3, rfl⟩, rfl, trivial⟩
  · rename_i b ww r j
    obtain ⟨rfl, rfl, rfl⟩ := res_eq h
    have hb : b = true := hvs _ (by simp)
    simp only [DRel, CRel, hb, if_true] at hx
    obtain ⟨b', off, rfl, hh⟩ := hx
    exact ⟨⟨b', off, rfl, hh⟩, rfl, trivial⟩
  · obtain ⟨rfl, rfl, rfl⟩ := res_eq h
    obtain ⟨us, rfl, h2, h3⟩ := hx
    exact ⟨⟨us, rfl, h2, h3⟩, rfl, trivial⟩
  · cases h
theorem TRel.get : ∀ {l : List D1} {us : List Value}, TRel S β l us → ∀ (i : Nat) (d : D1), l[i]? = some d → ∃ u, us[i]? = some u ∧ D1Rel S β d u
  | [], _, _, i, d, hi => by simp at hi
  | _ :: _, _, ⟨v, r, h1, h2, h3⟩, i, d, hi => by
    subst h1
    cases i with
    | zero => simp at hi; subst hi; exact ⟨v, by simp, h2⟩
    | succ i => simp at hi; obtain ⟨u, hu, hr⟩ := TRel.get h3 i d hi; exact ⟨u, by simpa using hu, hr⟩
theorem D1Rel.toD {d : D1} {v : Value} (h : D1Rel S β d v) : DRel S β d.toD v := by
  cases d <;> exact h
theorem extract_sound {l : List D1} {v : Value} {i : Nat} {d : D1} (hc : Core Γ S β w xs) (hx : DRel S β (.tup l) v) (h : l[i]? = some d) :
    GoodS P p (Instr.extract v i) Γ S β w d.toD xs := by
  obtain ⟨us, rfl, hl⟩ := hx
  obtain ⟨u, hu, hr⟩ := TRel.get hl i d h
  refine GoodS.same u (fun w' hw' => ?_) hr.toD hc
  unfold Instr.extract
  have : us.toArray[i]? = some u := by simpa using hu
  simp only [this]
  rfl
theorem capsC_sound {st : St} {a : Act} (hv : ∀ x, DRel S β (st.lv x) (a.eval x)) : ∀ {l : List Operand} {cs : List C}, capsC st l = some cs → LRel S β cs (l.map a.eval)
  | [], cs, h => by simp only [capsC, Option.some.injEq] at h; subst h; rfl
  | x :: r, cs, h => by
    unfold capsC at h
    split at h
    · rename_i c l h1 h2
      simp only [Option.some.injEq] at h
      subst h
      refine ⟨_, _, rfl, ?_, capsC_sound hv h2⟩
      have := hv x
      rw [h1] at this
      exact this
    · cases h
theorem makeFunc_rel {fn : Fn} {cs : List C} {us : List Value} (h : LRel S β cs us) : CRel S β (.func fn cs.length fun i => cs.getD i .bot) (.func fn #[] us.toArray) := by
  refine ⟨us.toArray, rfl, by simp [h.length], fun i hi => ?_⟩
  obtain ⟨u, hu, hr⟩ := h.get i _ (List.getElem?_eq_getElem hi)
  have e1 : cs.getD i .bot = cs[i] := by simp [List.getD, List.getElem?_eq_getElem hi]
  have e2 : us.toArray.getD i undef = u := by
    have hlt : i < us.length := by rw [h.length]; exact hi
    rw [List.getElem?_eq_getElem hlt] at hu
    simp only [Option.some.injEq] at hu
    simp [Array.getD, hlt, hu]
  show CRel S β (cs.getD i .bot) _
  rw [e1, e2]
  exact hr
theorem makeInterface_sound {t : TypeId} {c : C} {v : Value} (hu : P.concrete t = true)
    (hc : Core Γ S β w xs) (hx : DRel S β (.c c) v) : GoodS P p (Instr.makeInterface t v) Γ S β w (.c (.iface true t c)) xs := by
  refine GoodS.same (.iface t v) (fun w' _ => run_makeInterface w' t v hu) ?_ hc
  show CRel S β _ _
  simp only [CRel, if_true]
  exact ⟨v, rfl, hx⟩
theorem cstC_rel (v : Value) : CRel S β (cstC v) v := by
  unfold cstC
  split
  · rename_i s
    cases hb : Nat.ble s.data.toList.length 65536 with
    | true =>
      have := Nat.le_of_ble_eq_true hb
      exact ⟨by simp, by simp only [maxLen]; omega⟩
    | false => rfl
  · rfl
  · rfl
theorem cst_rel (v : Value) : DRel S β (cst v) v := by
  unfold cst
  split
  · rename_i cs
    refine ⟨cs.toList, by simp, LRel.of_get (by simp) fun i c hc => ?_⟩
    rw [List.getElem?_map] at hc
    cases hi : cs.toList[i]? with
    | none => simp [hi] at hc
    | some u =>
      simp only [hi, Option.map_some, Option.some.injEq] at hc
      subst hc
      exact ⟨u, rfl, cstC_rel u⟩
  · trivial
  · exact cstC_rel _
end
end Go.Dl
