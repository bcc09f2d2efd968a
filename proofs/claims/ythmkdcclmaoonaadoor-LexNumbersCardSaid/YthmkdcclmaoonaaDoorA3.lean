/- What the store of XA1 says of a world: numbers of blocks, capacities; how it is carried over a new block, over a write. No conditions. -/
import Derived.Test.YthmkdcclmaoonaaDoorA2
import Derived.Below
import Derived.Laws.AppendOwn
set_option linter.unusedVariables false
set_option linter.unusedSimpArgs false
namespace Go.Am
open Go.RowKit

/-- Where a block of the store lies: in which block of the world, from which cell on. -/
structure Pl where
  b : Nat
  lo : Nat
  sz : Nat
  wd : Nat

abbrev Bm := Nat → Option Pl

mutual
/-- What a value of the store says of a value. -/
inductive VR (β : Bm) : Value → Value → Prop
  | any {v : Value} : VR β (.float .f32 7) v
  | bool (b : Bool) : VR β (.bool b) (.bool b)
  | int (k : IntKind) (n : Int) : VR β (.int k n) (.int k n)
  | string (s : ByteArray) : VR β (.string s) (.string s)
  | pnil : VR β (.pointer none) (.pointer none)
  | ptr {o i : Nat} {k : Pl} (h : β o = some k) : VR β (.pointer (some ⟨o, i, none⟩)) (.pointer (some ⟨k.b, k.lo + i, none⟩))
  | snil : VR β (.slice none 0 0) (.slice none 0 0)
  | sl {o i n c cap : Nat} {k : Pl} (h : β o = some k) (hn : n ≤ cap) (hc : c / 2 ≤ cap) (he : c % 2 = 0 → c / 2 = cap) (h2 : 2 * n ≤ c) (hm : cap ≤ maxLen) (hr : c % 2 = 1 → k.lo + i + cap * k.wd ≤ k.sz) :
      VR β (.slice (some ⟨o, i, none⟩) n c) (.slice (some ⟨k.b, k.lo + i, none⟩) n cap)
  | s1 {a : Addr} {b j cap : Nat} : VR β (.slice (some a) 0 1) (.slice (some ⟨b, j, none⟩) 0 cap)
  | mnil : VR β (.map none) (.map none)
  | map {o : Nat} {k : Pl} (h : β o = some k) : VR β (.map (some o)) (.map (some k.b))
  | func {fn : Fn} {fs fs' cs cs' : List Value} (h1 : VRs β fs fs') (h2 : VRs β cs cs') : VR β (.func fn ⟨fs⟩ ⟨cs⟩) (.func fn ⟨fs'⟩ ⟨cs'⟩)
  | nilFunc : VR β .nilFunc .nilFunc
  | nilIface : VR β .nilIface .nilIface
  | iface {t : TypeId} {v v' : Value} (h : VR β v v') : VR β (.iface t v) (.iface t v')
  | agg {l l' : List Value} (h : VRs β l l') : VR β (.agg ⟨l⟩) (.agg ⟨l'⟩)
  | tuple {l l' : List Value} (h : VRs β l l') : VR β (.tuple ⟨l⟩) (.tuple ⟨l'⟩)
inductive VRs (β : Bm) : List Value → List Value → Prop
  | nil : VRs β [] []
  | cons {v v' : Value} {l l' : List Value} (h : VR β v v') (hs : VRs β l l') : VRs β (v :: l) (v' :: l')
end

def BLe (β β' : Bm) : Prop := ∀ o k, β o = some k → β' o = some k
theorem BLe.refl (β : Bm) : BLe β β := fun _ _ h => h
theorem BLe.trans {a b c : Bm} (h : BLe a b) (k : BLe b c) : BLe a c := fun _ _ x => k _ _ (h _ _ x)

mutual
theorem VR.up {β β' : Bm} (hb : BLe β β') : ∀ {v v' : Value}, VR β v v' → VR β' v v'
  | _, _, .any => .any
  | _, _, .bool b => .bool b
  | _, _, .int k n => .int k n
  | _, _, .string s => .string s
  | _, _, .pnil => .pnil
  | _, _, .ptr h => .ptr (hb _ _ h)
  | _, _, .snil => .snil
  | _, _, .sl h hn hc he h2 hm hr => .sl (hb _ _ h) hn hc he h2 hm hr
  | _, _, .s1 => .s1
  | _, _, .mnil => .mnil
  | _, _, .map h => .map (hb _ _ h)
  | _, _, .func h1 h2 => .func (VRs.up hb h1) (VRs.up hb h2)
  | _, _, .nilFunc => .nilFunc
  | _, _, .nilIface => .nilIface
  | _, _, .iface h => .iface (VR.up hb h)
  | _, _, .agg h => .agg (VRs.up hb h)
  | _, _, .tuple h => .tuple (VRs.up hb h)
theorem VRs.up {β β' : Bm} (hb : BLe β β') : ∀ {l l' : List Value}, VRs β l l' → VRs β' l l'
  | _, _, .nil => .nil
  | _, _, .cons h hs => .cons (VR.up hb h) (VRs.up hb hs)
end

theorem VRs.length {β : Bm} : ∀ {l l' : List Value}, VRs β l l' → l'.length = l.length
  | _, _, .nil => rfl
  | _, _, .cons _ hs => by simp [VRs.length hs]

theorem VRs.get {β : Bm} : ∀ {l l' : List Value}, VRs β l l' → ∀ {i : Nat} {v : Value}, l[i]? = some v → ∃ v', l'[i]? = some v' ∧ VR β v v'
  | _, _, .nil, i, v, h => by simp at h
  | _, _, .cons h hs, 0, v, hi => by simp at hi; subst hi; exact ⟨_, by simp, h⟩
  | _, _, .cons h hs, i + 1, v, hi => by simp at hi; obtain ⟨u, hu, hr⟩ := VRs.get hs hi; exact ⟨u, by simpa using hu, hr⟩

theorem VRs.of_get {β : Bm} : ∀ {l l' : List Value}, l'.length = l.length → (∀ (i : Nat) (v : Value), l[i]? = some v → ∃ v', l'[i]? = some v' ∧ VR β v v') → VRs β l l'
  | [], l', hl, _ => by have : l' = [] := by simpa using hl
                        subst this; exact .nil
  | v :: l, [], hl, _ => by simp at hl
  | v :: l, u :: l', hl, h => by
    refine .cons ?_ (VRs.of_get (by simpa using hl) fun i w hw => ?_)
    · obtain ⟨x, hx, hr⟩ := h 0 v rfl
      simp at hx; subst hx; exact hr
    · obtain ⟨x, hx, hr⟩ := h (i + 1) w (by simpa using hw)
      exact ⟨x, by simpa using hx, hr⟩

theorem VRs.append {β : Bm} : ∀ {l l' m m' : List Value}, VRs β l l' → VRs β m m' → VRs β (l ++ m) (l' ++ m')
  | _, _, _, _, .nil, k => k
  | _, _, _, _, .cons h hs, k => .cons h (VRs.append hs k)

theorem VRs.take {β : Bm} : ∀ {l l' : List Value}, VRs β l l' → ∀ n, VRs β (l.take n) (l'.take n)
  | _, _, .nil, n => by simp; exact .nil
  | _, _, .cons h hs, 0 => by simp; exact .nil
  | _, _, .cons h hs, n + 1 => .cons h (VRs.take hs n)

theorem VRs.drop {β : Bm} : ∀ {l l' : List Value}, VRs β l l' → ∀ n, VRs β (l.drop n) (l'.drop n)
  | _, _, .nil, n => by simp; exact .nil
  | _, _, .cons h hs, 0 => .cons h hs
  | _, _, .cons h hs, n + 1 => VRs.drop hs n

theorem VRs.map {β : Bm} {α : Type} (f g : α → Value) (h : ∀ x, VR β (f x) (g x)) : ∀ l : List α, VRs β (l.map f) (l.map g)
  | [] => .nil
  | x :: l => .cons (h x) (VRs.map f g h l)

/-- One entry of a map. -/
structure ER (β : Bm) (e e' : MapEntry) : Prop where
  key : VR β e.key e'.key
  val : VR β e.val e'.val
  born : e.born = e'.born

inductive ERs (β : Bm) : List MapEntry → List MapEntry → Prop
  | nil : ERs β [] []
  | cons {e e' : MapEntry} {l l' : List MapEntry} (h : ER β e e') (hs : ERs β l l') : ERs β (e :: l) (e' :: l')

theorem ERs.up {β β' : Bm} (hb : BLe β β') : ∀ {l l' : List MapEntry}, ERs β l l' → ERs β' l l'
  | _, _, .nil => .nil
  | _, _, .cons h hs => .cons ⟨h.key.up hb, h.val.up hb, h.born⟩ (ERs.up hb hs)

theorem ERs.length {β : Bm} : ∀ {l l' : List MapEntry}, ERs β l l' → l'.length = l.length
  | _, _, .nil => rfl
  | _, _, .cons _ hs => by simp [ERs.length hs]

/-- No place from lo on, below sz, is frozen. -/
def FzOk (lo sz : Nat) (fz : Nat × Nat) : Prop := ∀ j, lo ≤ j → j < sz → ¬ (fz.1 ≤ j ∧ j < fz.2)
theorem FzOk.zero (lo sz : Nat) : FzOk lo sz (0, 0) := fun _ _ _ h => absurd h.2 (Nat.not_lt_zero _)

/-- What a block of the store says of the world. -/
def OR (β : Bm) (w : World) (k : Pl) : AObj → Prop
  | .cells c e => ∃ cur, (∃ fz, w.heap[k.b]? = some (.cells cur e fz) ∧ FzOk k.lo k.sz fz) ∧ (k.lo + c.length ≤ k.sz ∧ k.sz ≤ cur.size) ∧ ∀ (i : Nat) (v : Value), c[i]? = some v → ∃ u, cur[k.lo + i]? = some u ∧ VR β v u
  | .map es clock => ∃ es', w.heap[k.b]? = some (.map es' clock) ∧ ERs β es es'.toList
  | .iter s pos => k.lo = 0 ∧ w.heap[k.b]? = some (.stringIter s pos)
  | .dead => True

def AObj.live : AObj → Bool
  | .dead => false
  | _ => true

theorem OR.keep {β β' : Bm} {w w' : World} {k : Pl} {x : AObj} (h : OR β w k x) (hb : BLe β β') (hw : x.live = true → w'.heap[k.b]? = w.heap[k.b]?) : OR β' w' k x := by
  cases x with
  | cells c e =>
    obtain ⟨cur, ⟨fz, h1, hfz⟩, h2, h3⟩ := h
    refine ⟨cur, ⟨fz, by rw [hw rfl]; exact h1, hfz⟩, h2, fun i v hv => ?_⟩
    obtain ⟨u, hu, hr⟩ := h3 i v hv
    exact ⟨u, hu, hr.up hb⟩
  | map es clock =>
    obtain ⟨es', h1, h2⟩ := h
    exact ⟨es', by rw [hw rfl]; exact h1, h2.up hb⟩
  | iter s pos => exact ⟨h.1, by rw [hw rfl]; exact h.2⟩
  | dead => trivial

theorem OR.heap {β : Bm} {w : World} {k : Pl} {x : AObj} (h : OR β w k x) (hl : x.live = true) : k.b < w.heap.size := by
  have key : ∀ o, w.heap[k.b]? = some o → k.b < w.heap.size := fun o ho => (Array.getElem?_eq_some_iff.1 ho).1
  cases x with
  | cells c e => obtain ⟨cur, ⟨_, h1, _⟩, _⟩ := h; exact key _ h1
  | map es clock => obtain ⟨es', h1, _⟩ := h; exact key _ h1
  | iter s pos => exact key _ h.2
  | dead => cases hl

/-- What the store says of a world; F: since w0 nothing below R was written. -/
structure WR (P : Program) (F : Nat → World → Prop) (β : Bm) (H : FW) (w : World) : Prop where
  gl : ∀ g, g < 512 → ∃ k, β g = some k ∧ k.b = g ∧ k.lo = 0
  fresh : ∀ o, 512 ≤ o → H.heap.get o = none → β o = none
  objs : ∀ o x, H.heap.get o = some x → ∃ k, β o = some k ∧ OR β w k x
  inj : ∀ o o' x x' k k', H.heap.get o = some x → H.heap.get o' = some x' → x.live = true → x'.live = true → o ≠ o' → β o = some k → β o' = some k' → k.b ≠ k'.b
  mine : ∀ R w0, F R w0 → ∀ o x k, H.heap.get o = some x → x.live = true → R ≤ o → β o = some k → w0.heap.size ≤ k.b
  frame : ∀ R w0, F R w0 → Below w0.heap.size w0 w
  wide : ∀ o c e k, H.heap.get o = some (.cells c e) → β o = some k → k.wd = P.cellsOf e

/-! The trees. -/

theorem T.get_nil {α : Type} (n : Nat) : (T.nil : T α).get n = none := rfl
theorem T.get_zero {α : Type} (v : Option α) (l r : T α) : (T.node v l r).get 0 = v := rfl

theorem pick_rec {β : Type} (m : Nat) (a b : β) : (Bool.rec (motive := fun _ => β) a b (Nat.beq (m % 2) 0) : β) = if m % 2 = 0 then b else a := by
  by_cases h : m % 2 = 0
  · rw [if_pos h, h]; rfl
  · rw [if_neg h]
    have : Nat.beq (m % 2) 0 = false := by
      cases hb : Nat.beq (m % 2) 0 with
      | false => rfl
      | true => exact absurd (Nat.eq_of_beq_eq_true hb) h
    rw [this]

theorem T.get_succ {α : Type} (v : Option α) (l r : T α) (m : Nat) : (T.node v l r).get (m + 1) = if m % 2 = 0 then l.get (m / 2) else r.get (m / 2) := pick_rec m _ _

theorem T.one_zero {α : Type} (f : Nat) (x : α) : T.one (f + 1) 0 x = .node (some x) .nil .nil := rfl
theorem T.one_succ {α : Type} (f m : Nat) (x : α) : T.one (f + 1) (m + 1) x = if m % 2 = 0 then .node none (T.one f (m / 2) x) .nil else .node none .nil (T.one f (m / 2) x) := pick_rec m _ _

theorem T.set_zero {α : Type} (v : Option α) (l r : T α) (x : α) : (T.node v l r).set 0 x = .node (some x) l r := rfl
theorem T.set_succ {α : Type} (v : Option α) (l r : T α) (m : Nat) (x : α) : (T.node v l r).set (m + 1) x = if m % 2 = 0 then .node v (l.set (m / 2) x) r else .node v l (r.set (m / 2) x) := pick_rec m _ _

theorem T.get_one {α : Type} : ∀ (f n m : Nat) (x : α), n + 1 < 2 ^ f → (T.one f n x).get m = if m = n then some x else none
  | 0, n, m, x, h => by simp at h
  | f + 1, 0, m, x, _ => by
    rw [T.one_zero]
    cases m with
    | zero => rfl
    | succ m =>
      rw [T.get_succ, if_neg (show ¬ (m + 1 = 0) by omega)]
      split <;> rfl
  | f + 1, n + 1, m, x, h => by
    have hf : n / 2 + 1 < 2 ^ f := by rw [Nat.pow_succ] at h; omega
    rw [T.one_succ]
    cases m with
    | zero =>
      rw [if_neg (show ¬ (0 = n + 1) by omega)]
      split <;> rfl
    | succ m =>
      by_cases hn : n % 2 = 0
      · rw [if_pos hn, T.get_succ]
        by_cases hm : m % 2 = 0
        · rw [if_pos hm, T.get_one f _ _ _ hf]
          by_cases e : m = n
          · subst e; simp
          · rw [if_neg (show ¬ (m / 2 = n / 2) by omega), if_neg (show ¬ (m + 1 = n + 1) by omega)]
        · rw [if_neg hm, if_neg (show ¬ (m + 1 = n + 1) by omega)]; rfl
      · rw [if_neg hn, T.get_succ]
        by_cases hm : m % 2 = 0
        · rw [if_pos hm, if_neg (show ¬ (m + 1 = n + 1) by omega)]; rfl
        · rw [if_neg hm, T.get_one f _ _ _ hf]
          by_cases e : m = n
          · subst e; simp
          · rw [if_neg (show ¬ (m / 2 = n / 2) by omega), if_neg (show ¬ (m + 1 = n + 1) by omega)]

theorem T.get_set' {α : Type} : ∀ (t : T α) (n m : Nat) (x : α), n + 1 < 2 ^ 40 → (t.set n x).get m = if m = n then some x else t.get m
  | .nil, n, m, x, h => by
    show (T.one 40 n x).get m = _
    rw [T.get_one 40 n m x h]; rfl
  | .node v l r, 0, m, x, _ => by
    rw [T.set_zero]
    cases m with
    | zero => rfl
    | succ m => rw [T.get_succ, T.get_succ, if_neg (show ¬ (m + 1 = 0) by omega)]
  | .node v l r, n + 1, m, x, h => by
    rw [T.set_succ]
    cases m with
    | zero =>
      rw [if_neg (show ¬ (0 = n + 1) by omega), T.get_zero]
      split <;> rfl
    | succ m =>
      rw [T.get_succ]
      by_cases hn : n % 2 = 0
      · rw [if_pos hn, T.get_succ]
        by_cases hm : m % 2 = 0
        · rw [if_pos hm, if_pos hm, T.get_set' l _ _ _ (by omega)]
          by_cases e : m = n
          · subst e; simp
          · rw [if_neg (show ¬ (m / 2 = n / 2) by omega), if_neg (show ¬ (m + 1 = n + 1) by omega)]
        · rw [if_neg hm, if_neg hm, if_neg (show ¬ (m + 1 = n + 1) by omega)]
      · rw [if_neg hn, T.get_succ]
        by_cases hm : m % 2 = 0
        · rw [if_pos hm, if_pos hm, if_neg (show ¬ (m + 1 = n + 1) by omega)]
        · rw [if_neg hm, if_neg hm, T.get_set' r _ _ _ (by omega)]
          by_cases e : m = n
          · subst e; simp
          · rw [if_neg (show ¬ (m / 2 = n / 2) by omega), if_neg (show ¬ (m + 1 = n + 1) by omega)]

theorem okN_lt {n : Nat} (h : okN n = true) : n + 1 < 2 ^ 40 := by
  have : n < 1099511627770 := by simpa [okN, Nat.blt_eq] using h
  omega

theorem T.get_set {α : Type} (t : T α) {n : Nat} (m : Nat) (x : α) (h : okN n = true) : (t.set n x).get m = if m = n then some x else t.get m :=
  T.get_set' t n m x (okN_lt h)

/-! Moves of the store. -/

section
variable {P : Program} {R : Nat} {F : Nat → World → Prop} {β : Bm} {H : FW} {w : World}

theorem WR.up {w' : World} (h : WR P F β H w) (hu : Below w.heap.size w w') : WR P F β H w' :=
  ⟨h.gl, h.fresh, fun o x hx => by
    obtain ⟨k, hk, ho⟩ := h.objs o x hx
    exact ⟨k, hk, ho.keep (BLe.refl _) fun hl => hu.block k.b (ho.heap hl)⟩, h.inj, h.mine, fun R w0 hF => (h.frame R w0 hF).trans (hu.mono (h.frame R w0 hF).size), h.wide⟩

theorem WR.next {n : Nat} (h : WR P F β H w) : WR P F β ⟨H.heap, n⟩ w := ⟨h.gl, h.fresh, h.objs, h.inj, h.mine, h.frame, h.wide⟩

def bset (β : Bm) (o : Nat) (k : Pl) : Bm := fun o' => if o' = o then some k else β o'

theorem bset_same (β : Bm) (o : Nat) (k : Pl) : bset β o k o = some k := by simp [bset]
theorem bset_le {o : Nat} {k : Pl} (h : β o = none) : BLe β (bset β o k) := by
  intro o' k' hk
  unfold bset
  split
  · rename_i e; subst e; rw [h] at hk; cases hk
  · exact hk

/-- A block more: new in the world, or one that no live block of the store has. -/
theorem WR.add {w' : World} {o n : Nat} {x : AObj} {k : Pl} (h : WR P F β H w) (hn : H.heap.get o = none) (ho : okN o = true) (h5 : 512 ≤ o)
    (hu : ∀ b, b < w.heap.size → b ≠ k.b → w'.heap[b]? = w.heap[b]?) (hfr : ∀ R w0, F R w0 → Below w0.heap.size w0 w') (hk : ∀ R w0, F R w0 → w0.heap.size ≤ k.b)
    (hno : ∀ o' x' k', H.heap.get o' = some x' → x'.live = true → β o' = some k' → k'.b ≠ k.b)
    (hx : OR (bset β o k) w' k x) (hwd : ∀ c e, x = .cells c e → k.wd = P.cellsOf e) : WR P F (bset β o k) ⟨H.heap.set o x, n⟩ w' := by
  have hle : BLe β (bset β o k) := bset_le (h.fresh o h5 hn)
  have get : ∀ o', (H.heap.set o x).get o' = if o' = o then some x else H.heap.get o' := fun o' => T.get_set _ _ _ ho
  have old : ∀ o', o' ≠ o → bset β o k o' = β o' := fun o' he => by simp [bset, he]
  refine ⟨fun g hg => by rw [old g (by omega)]; exact h.gl g hg, fun o' h5' hg => ?_, fun o' y hy => ?_, ?_, ?_, hfr, fun o' c e k' hy hk' => ?_⟩
  · simp only [get] at hg
    split at hg
    · cases hg
    · rename_i e; rw [old _ e]; exact h.fresh _ h5' hg
  · simp only [get] at hy
    split at hy
    · rename_i e
      simp only [Option.some.injEq] at hy
      subst hy; subst e
      exact ⟨k, bset_same _ _ _, hx⟩
    · rename_i e
      obtain ⟨k', hk', ho'⟩ := h.objs _ _ hy
      exact ⟨k', by rw [old _ e]; exact hk', ho'.keep hle fun hl => hu _ (ho'.heap hl) (hno _ _ _ hy hl hk')⟩
  · intro o1 o2 x1 x2 k1 k2 g1 g2 l1 l2 hne hk1 hk2
    simp only [get] at g1 g2
    split at g1
    · rename_i e1
      subst e1
      rw [bset_same] at hk1
      simp only [Option.some.injEq] at hk1
      subst hk1
      split at g2
      · rename_i e2; exact absurd e2.symm hne
      · rename_i e2
        rw [old _ e2] at hk2
        exact fun e => hno _ _ _ g2 l2 hk2 e.symm
    · rename_i e1
      rw [old _ e1] at hk1
      split at g2
      · rename_i e2
        subst e2
        rw [bset_same] at hk2
        simp only [Option.some.injEq] at hk2
        subst hk2
        exact hno _ _ _ g1 l1 hk1
      · rename_i e2
        rw [old _ e2] at hk2
        exact h.inj _ _ _ _ _ _ g1 g2 l1 l2 hne hk1 hk2
  · intro R w0 hF o' y k' hg hl hR hk'
    simp only [get] at hg
    split at hg
    · rename_i e
      subst e
      rw [bset_same] at hk'
      simp only [Option.some.injEq] at hk'
      subst hk'
      exact hk R w0 hF
    · rename_i e
      rw [old _ e] at hk'
      exact h.mine R w0 hF _ _ _ hg hl hR hk'
  · simp only [get] at hy
    split at hy
    · rename_i e'
      subst e'
      rw [bset_same] at hk'
      simp only [Option.some.injEq] at hk' hy
      subst hk'
      exact hwd _ _ hy
    · rename_i e'
      rw [old _ e'] at hk'
      exact h.wide _ _ _ _ hy hk'

/-- Where a new block lies. -/
def newPl (P : Program) (w : World) : Go.Obj → Pl
  | .cells cur e _ => ⟨w.heap.size, 0, cur.size, P.cellsOf e⟩
  | _ => ⟨w.heap.size, 0, 0, 0⟩

theorem newPl_b (P : Program) (w : World) (ob : Go.Obj) : (newPl P w ob).b = w.heap.size := by cases ob <;> rfl
theorem newPl_lo (P : Program) (w : World) (ob : Go.Obj) : (newPl P w ob).lo = 0 := by cases ob <;> rfl

theorem below_alloc (w : World) (ob : Go.Obj) : Below w.heap.size w (w.alloc ob) := (Below.refl _ _).alloc (Nat.le_refl _) _

theorem WR.alloc {o n : Nat} {x : AObj} {ob : Go.Obj} (h : WR P F β H w) (hn : H.heap.get o = none) (ho : okN o = true) (h5 : 512 ≤ o)
    (hx : OR (bset β o (newPl P w ob)) (w.alloc ob) (newPl P w ob) x) (hwd : ∀ c e, x = .cells c e → (newPl P w ob).wd = P.cellsOf e) : WR P F (bset β o (newPl P w ob)) ⟨H.heap.set o x, n⟩ (w.alloc ob) ∧ BLe β (bset β o (newPl P w ob)) :=
  ⟨h.add hn ho h5 (fun b hb _ => (below_alloc w ob).block b hb) (fun R w0 hF => (h.frame R w0 hF).trans ((below_alloc w ob).mono (h.frame R w0 hF).size)) (fun R w0 hF => by rw [newPl_b]; exact (h.frame R w0 hF).size)
    (fun o' x' k' hg hl hk => by
      obtain ⟨k2, hk2, hor⟩ := h.objs o' x' hg
      rw [hk] at hk2
      simp only [Option.some.injEq] at hk2
      subst hk2
      have := hor.heap hl
      intro e
      rw [newPl_b] at e
      omega) hx hwd, bset_le (h.fresh o h5 hn)⟩

/-- A block of the store's is written. -/
theorem WR.write {w' : World} {o : Nat} {x x' : AObj} {k : Pl} (h : WR P F β H w) (hg : H.heap.get o = some x) (hl : x.live = true) (ho : okN o = true) (hR : ∀ R w0, F R w0 → R ≤ o)
    (hk : β o = some k) (hz : w'.heap.size = w.heap.size) (hu : ∀ b, b ≠ k.b → w'.heap[b]? = w.heap[b]?) (hos : w'.os = w.os) (htp : w'.tape = w.tape) (hout : w'.output = w.output)
    (hx : OR β w' k x') (hl' : x'.live = true) (hwd : ∀ c e, x' = .cells c e → k.wd = P.cellsOf e) : WR P F β (H.put o x') w' := by
  have get : ∀ o', (H.put o x').heap.get o' = if o' = o then some x' else H.heap.get o' := fun o' => T.get_set _ _ _ ho
  refine ⟨h.gl, fun o' h5' hg' => ?_, fun o' y hy => ?_, ?_, ?_, ?_, fun o' c e k' hy hk' => ?_⟩
  · rw [get] at hg'
    split at hg'
    · cases hg'
    · exact h.fresh _ h5' hg'
  · rw [get] at hy
    split at hy
    · rename_i e
      simp only [Option.some.injEq] at hy
      subst hy; subst e
      exact ⟨k, hk, hx⟩
    · rename_i e
      obtain ⟨k', hk', ho'⟩ := h.objs _ _ hy
      exact ⟨k', hk', ho'.keep (BLe.refl _) fun hl2 => hu _ (h.inj _ _ _ _ _ _ hy hg hl2 hl e hk' hk)⟩
  · intro o1 o2 x1 x2 k1 k2 g1 g2 l1 l2 hne hk1 hk2
    rw [get] at g1 g2
    have f : ∀ o1 x1, (if o1 = o then some x' else H.heap.get o1) = some x1 → x1.live = true → ∃ y, H.heap.get o1 = some y ∧ y.live = true := by
      intro o1 x1 g l
      split at g
      · rename_i e; subst e; exact ⟨x, hg, hl⟩
      · exact ⟨x1, g, l⟩
    obtain ⟨y1, q1, r1⟩ := f _ _ g1 l1
    obtain ⟨y2, q2, r2⟩ := f _ _ g2 l2
    exact h.inj _ _ _ _ _ _ q1 q2 r1 r2 hne hk1 hk2
  · intro R w0 hF o' y k' hg' hl2 hR' hk'
    rw [get] at hg'
    split at hg'
    · rename_i e; subst e; exact h.mine R w0 hF _ _ _ hg hl hR' hk'
    · exact h.mine R w0 hF _ _ _ hg' hl2 hR' hk'
  · intro R w0 hF
    have hm := h.mine R w0 hF o x k hg hl (hR R w0 hF) hk
    have h0 := h.frame R w0 hF
    refine ⟨hos.trans h0.os, htp.trans h0.tape, hout.trans h0.output, by rw [hz]; exact h0.size, fun b hb => ?_⟩
    rw [hu b (by omega)]
    exact h0.block b hb
  · rw [get] at hy
    split at hy
    · rename_i e'
      subst e'
      rw [hk] at hk'
      simp only [Option.some.injEq] at hk' hy
      subst hk'
      exact hwd _ _ hy
    · exact h.wide _ _ _ _ hy hk'

/-- A block of the store's is no more. -/
theorem WR.kill {o : Nat} (h : WR P F β H w) (hg : (H.heap.get o).isSome = true) (ho : okN o = true) : WR P F β (H.put o .dead) w := by
  have get : ∀ o', (H.put o .dead).heap.get o' = if o' = o then some .dead else H.heap.get o' := fun o' => T.get_set _ _ _ ho
  have f : ∀ o1 x1, (H.put o .dead).heap.get o1 = some x1 → x1.live = true → H.heap.get o1 = some x1 := by
    intro o1 x1 g l
    rw [get] at g
    split at g
    · simp only [Option.some.injEq] at g; subst g; cases l
    · exact g
  refine ⟨h.gl, fun o' h5' hg' => ?_, fun o' y hy => ?_, fun o1 o2 x1 x2 k1 k2 g1 g2 l1 l2 => h.inj _ _ _ _ _ _ (f _ _ g1 l1) (f _ _ g2 l2) l1 l2,
    fun R w0 hF o' y k' g l => h.mine R w0 hF _ _ _ (f _ _ g l) l, h.frame, fun o' c e k' g => h.wide _ _ _ _ (f _ _ g rfl)⟩
  · rw [get] at hg'
    split at hg'
    · cases hg'
    · exact h.fresh _ h5' hg'
  · rw [get] at hy
    split at hy
    · rename_i e
      simp only [Option.some.injEq] at hy
      subst hy; subst e
      obtain ⟨x, hx⟩ := Option.isSome_iff_exists.1 hg
      obtain ⟨k, hk, _⟩ := h.objs _ _ hx
      exact ⟨k, hk, trivial⟩
    · exact h.objs _ _ hy

end
end Go.Am
