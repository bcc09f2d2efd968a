/- The quick machine's memory: blocks, cells, what a memory says of a store; looking, laying, making a block. No conditions. -/
import Derived.Test.YthmkdcclmaoonaaDoorQ2
set_option linter.unusedVariables false
set_option linter.unusedSimpArgs false
set_option linter.unusedSectionVars false
set_option linter.constructorNameAsVariable false
namespace Go.Qm
open Go.Am
noncomputable section
variable [Rho]

inductive ME where
  | nil
  | cons (k v : V) (b : Nat) (r : ME)

inductive QO where
  | no
  | c (cs : Cs V) (n e : Nat)
  | m (es : ME) (k : Nat)
  | r (l n pos : Nat)
  | dead
  | g (cs : Cs V) (n e : Nat)

/-- It may be written. -/
def own : QO → Bool
  | .no | .g .. => false
  | _ => true

/-- Places that were written. -/
inductive PL where
  | nil
  | cons (q : Pt) (r : PL)

def inP (q : Pt) : PL → Prop
  | .nil => False
  | .cons p r => q = p ∨ inP q r

/-- What was decided. -/
inductive Fc where
  | nil
  | cons (t : Sy) (b : Bool) (r : Fc)

def Sat : Fc → Prop
  | .nil => True
  | .cons t b r => bv t = b ∧ Sat r

structure QH where
  r : N5 QO
  x : Pt
  j : PL
  f : Fc

def isSc (x : V) : Prop := sc x true = true

theorem isSc.of {x : V} {r : Bool} (h : sc x r = true) : isSc x := by cases x <;> first | rfl | cases h
theorem isSc.bot {x : V} (h : isSc x) : x ≠ .bot := (sc_spec h).1
theorem isSc.one {x : V} (h : isSc x) : oneC (dec x) = true := (sc_spec h).2.1
theorem isSc.cells {x : V} (h : isSc x) : cellsV (dec x) = [dec x] := (sc_spec h).2.2.1

/-- The first cells, as values. -/
def lc (cs : Cs V) (n : Nat) : List Value := (List.range n).map fun i => dec (cget cs i)

theorem lc_length (cs : Cs V) (n : Nat) : (lc cs n).length = n := by simp [lc]
theorem lc_get (cs : Cs V) {n i : Nat} (h : i < n) : (lc cs n)[i]? = some (dec (cget cs i)) := by simp [lc, h]

theorem lc_all {cs : Cs V} {n : Nat} (h : ∀ i, i < n → isSc (cget cs i)) : (lc cs n).all oneC = true := by
  simp only [lc, List.all_map, List.all_eq_true, List.mem_range, Function.comp]
  exact fun i hi => (h i hi).one

def decE : ME → List MapEntry
  | .nil => []
  | .cons k v b r => ⟨dec k, dec v, b⟩ :: decE r

def scE : ME → Prop
  | .nil => True
  | .cons k v _ r => k ≠ .bot ∧ v ≠ .bot ∧ scE r

def decO : QO → Option AObj
  | .no => none
  | .c cs n e => some (.cells (lc cs n) e)
  | .m es k => some (.map (decE es) k)
  | .r l n pos => some (.iter ⟨⟨bytesN l n⟩⟩ pos)
  | .dead => some .dead
  | .g cs n e => some (.cells (lc cs n) e)

def wfO : QO → Prop
  | .c cs n _ => n ≤ cs.cap ∧ ∀ i, i < n → isSc (cget cs i)
  | .g cs n _ => n ≤ cs.cap ∧ ∀ i, i < n → isSc (cget cs i)
  | .m es _ => scE es
  | _ => True

/-- What a memory says of a store. -/
structure HR (R : Nat) (G : N5 QO) (H : QH) (F : FW) : Prop where
  next : F.next = H.x.num
  objs : ∀ q, F.heap.get q.num = decO (hg H.r q)
  wf : ∀ q, wfO (hg H.r q)
  low : ∀ q, own (hg H.r q) = true → R ≤ q.num
  free : ∀ b, F.next ≤ b → F.heap.get b = none
  jr : ∀ q, ¬ inP q H.j → hg H.r q = hg G q
  fact : Sat H.f

/-! Looking. -/

/-- A block of cells. -/
def blk (H : QH) (q : Pt) (k : Cs V → Nat → Nat → Bool) : Bool :=
  QH.rec (motive := fun _ => Bool) (fun r _ _ _ => hget r q fun ob => QO.rec (motive := fun _ => Bool) false k (fun _ _ => false) (fun _ _ _ => false) false k ob) H
/-- .. that may be written. -/
def blkW (H : QH) (q : Pt) (k : Cs V → Nat → Nat → Bool) : Bool :=
  QH.rec (motive := fun _ => Bool) (fun r _ _ _ => hget r q fun ob => QO.rec (motive := fun _ => Bool) false k (fun _ _ => false) (fun _ _ _ => false) false (fun _ _ _ => false) ob) H

theorem blk_spec {H : QH} {q : Pt} {k : Cs V → Nat → Nat → Bool} (h : blk H q k = true) : ∃ cs n e, (hg H.r q = .c cs n e ∨ hg H.r q = .g cs n e) ∧ k cs n e = true := by
  obtain ⟨r, x, jj, ff⟩ := H
  have h' : QO.rec (motive := fun _ => Bool) false k (fun _ _ => false) (fun _ _ _ => false) false k (hg r q) = true := h
  show ∃ cs n e, (hg r q = .c cs n e ∨ hg r q = .g cs n e) ∧ k cs n e = true
  generalize hg r q = ob at *
  cases ob <;> first | exact ⟨_, _, _, .inl rfl, h'⟩ | exact ⟨_, _, _, .inr rfl, h'⟩ | cases h'

theorem blkW_spec {H : QH} {q : Pt} {k : Cs V → Nat → Nat → Bool} (h : blkW H q k = true) : ∃ cs n e, hg H.r q = .c cs n e ∧ k cs n e = true := by
  obtain ⟨r, x, jj, ff⟩ := H
  have h' : QO.rec (motive := fun _ => Bool) false k (fun _ _ => false) (fun _ _ _ => false) false (fun _ _ _ => false) (hg r q) = true := h
  show ∃ cs n e, hg r q = .c cs n e ∧ k cs n e = true
  generalize hg r q = ob at *
  cases ob <;> first | exact ⟨_, _, _, rfl, h'⟩ | cases h'

theorem HR.cells {R : Nat} {G : N5 QO} {H : QH} {F : FW} (hr : HR R G H F) {q : Pt} {cs : Cs V} {n e : Nat} (h : hg H.r q = .c cs n e ∨ hg H.r q = .g cs n e) : F.cells q.num = some (lc cs n, e) := by
  have := hr.objs q
  rcases h with h | h <;> (rw [h] at this; simp only [FW.cells, this, decO])

theorem HR.wfc {R : Nat} {G : N5 QO} {H : QH} {F : FW} (hr : HR R G H F) {q : Pt} {cs : Cs V} {n e : Nat} (h : hg H.r q = .c cs n e ∨ hg H.r q = .g cs n e) : n ≤ cs.cap ∧ ∀ i, i < n → isSc (cget cs i) := by
  have := hr.wf q
  rcases h with h | h <;> (rw [h] at this; exact this)

/-- 'a < b', and then. -/
def lt (a b : Nat) (k : Bool) : Bool := Bool.rec (motive := fun _ => Bool) false k (Nat.ble (Nat.succ a) b)
def le (a b : Nat) (k : Bool) : Bool := Bool.rec (motive := fun _ => Bool) false k (Nat.ble a b)
def eq (a b : Nat) (k : Bool) : Bool := Bool.rec (motive := fun _ => Bool) false k (Nat.beq a b)

theorem lt_spec {a b : Nat} {k : Bool} (h : lt a b k = true) : a < b ∧ k = true := by
  unfold lt at h
  cases hb : Nat.ble (Nat.succ a) b with
  | false => rw [hb] at h; cases h
  | true => rw [hb] at h; exact ⟨Nat.le_of_ble_eq_true hb, h⟩
theorem le_spec {a b : Nat} {k : Bool} (h : le a b k = true) : a ≤ b ∧ k = true := by
  unfold le at h
  cases hb : Nat.ble a b with
  | false => rw [hb] at h; cases h
  | true => rw [hb] at h; exact ⟨Nat.le_of_ble_eq_true hb, h⟩
theorem eq_spec {a b : Nat} {k : Bool} (h : eq a b k = true) : a = b ∧ k = true := by
  unfold eq at h
  cases hb : Nat.beq a b with
  | false => rw [hb] at h; cases h
  | true => rw [hb] at h; exact ⟨Nat.eq_of_beq_eq_true hb, h⟩

/-- The cells from one on, as a list. -/
def rowV (cs : Cs V) : Nat → Nat → V
  | 0, _ => .nil
  | m + 1, o => .cons (cget cs o) (rowV cs m (Nat.succ o))

def rowK (cs : Cs V) (m : Nat) : Nat → (V → Bool) → Bool :=
  Nat.rec (motive := fun _ => Nat → (V → Bool) → Bool) (fun _ k => k .nil) (fun _ ih o k => ih (Nat.succ o) fun t => k (.cons (cget cs o) t)) m

theorem rowK_eq (cs : Cs V) : ∀ (m o : Nat) (k : V → Bool), rowK cs m o k = k (rowV cs m o)
  | 0, _, _ => rfl
  | m + 1, o, k => rowK_eq cs m (Nat.succ o) fun t => k (.cons (cget cs o) t)

theorem rowV_dec (cs : Cs V) : ∀ (m o n : Nat), o + m ≤ n → decL (rowV cs m o) = ((lc cs n).drop o).take m ∧ dec (rowV cs m o) = .agg ⟨((lc cs n).drop o).take m⟩
  | 0, o, n, _ => by rw [List.take_zero]; exact ⟨rfl, rfl⟩
  | m + 1, o, n, h => by
    have hg : (lc cs n)[o]? = some (dec (cget cs o)) := lc_get cs (by omega)
    have e : (lc cs n).drop o = dec (cget cs o) :: (lc cs n).drop (o + 1) := by
      rw [List.drop_eq_getElem?_toList_append, hg]; rfl
    obtain ⟨h1, _⟩ := rowV_dec cs m (o + 1) n (by omega)
    have h1' : decL (rowV cs m (Nat.succ o)) = ((lc cs n).drop (o + 1)).take m := h1
    have h2 : decL (rowV cs (m + 1) o) = ((lc cs n).drop o).take (m + 1) := by
      show dec (cget cs o) :: decL (rowV cs m (Nat.succ o)) = _
      rw [h1', e, List.take_succ_cons]
    refine ⟨h2, ?_⟩
    show Value.agg ⟨decL (rowV cs (m + 1) o)⟩ = _
    rw [h2]

theorem rowV_bot (cs : Cs V) (m o : Nat) : rowV cs m o ≠ .bot := by cases m <;> simp [rowV]

/-- A list of one-cell things of a given length is laid into cells. -/
def setsN (m : Nat) : V → Cs V → Nat → (Cs V → Bool) → Bool :=
  Nat.rec (motive := fun _ => V → Cs V → Nat → (Cs V → Bool) → Bool) (fun l c _ k => asC l (k c) fun _ _ => false)
    (fun _ ih l c o k => asC l false fun h t => sc h (cset c o h fun c' => ih t c' (Nat.succ o) k)) m

theorem setsN_spec : ∀ {m : Nat} {l : V} {c : Cs V} {o : Nat} {k : Cs V → Bool}, setsN m l c o k = true → o + m ≤ c.cap →
    ∃ c' : Cs V, k c' = true ∧ c'.cap = c.cap ∧ dec l = .agg ⟨decL l⟩ ∧ l ≠ .bot ∧ (decL l).length = m ∧ (decL l).all oneC = true ∧
      (∀ j, j < c.cap → (j < o ∨ o + m ≤ j) → cget c' j = cget c j) ∧ ∀ i, i < m → isSc (cget c' (o + i)) ∧ (decL l)[i]? = some (dec (cget c' (o + i)))
  | 0, l, c, o, k, h, _ => by
    rcases asC_spec h with ⟨rfl, h⟩ | ⟨_, _, _, h⟩
    · exact ⟨c, h, rfl, rfl, by simp, rfl, rfl, fun _ _ _ => rfl, fun i hi => by omega⟩
    · cases h
  | m + 1, l, c, o, k, h, hc => by
    rcases asC_spec h with ⟨_, h⟩ | ⟨a, t, rfl, h⟩
    · cases h
    · have hs := isSc.of h
      obtain ⟨_, _, _, h⟩ := sc_spec h
      obtain ⟨c1, h, hcap, hg⟩ := cset_spec h (by omega)
      obtain ⟨c2, h1, h2, h3, h4, h5, h6, h7, h8⟩ := setsN_spec h (by rw [hcap, Nat.succ_eq_add_one]; omega)
      rw [Nat.succ_eq_add_one] at h7 h8
      refine ⟨c2, h1, h2.trans hcap, rfl, by simp, ?_, ?_, ?_, ?_⟩
      · show (dec a :: decL t).length = m + 1
        simp [h5]
      · show (dec a :: decL t).all oneC = true
        simp only [List.all_cons, h6, hs.one, Bool.and_self]
      · intro j hj hjo
        rw [h7 j (by rw [hcap]; exact hj) (by omega), hg j hj, if_neg (by omega)]
      · intro i hi
        cases i with
        | zero =>
          have e : cget c2 (o + 0) = a := by
            rw [h7 (o + 0) (by rw [hcap]; omega) (by omega), hg (o + 0) (by omega), if_pos (by omega)]
          rw [e]
          exact ⟨hs, rfl⟩
        | succ i =>
          have := h8 i (by omega)
          rw [show o + 1 + i = o + (i + 1) by omega] at this
          exact ⟨this.1, by show (dec a :: decL t)[i + 1]? = _; rw [List.getElem?_cons_succ]; exact this.2⟩

theorem lc_set {c c' : Cs V} {n o m : Nat} {vs : List Value} (hn : n ≤ c.cap) (ho : o + m ≤ n) (hl : vs.length = m) (h1 : ∀ j, j < c.cap → (j < o ∨ o + m ≤ j) → cget c' j = cget c j)
    (h2 : ∀ i, i < m → isSc (cget c' (o + i)) ∧ vs[i]? = some (dec (cget c' (o + i)))) : setC (lc c n) o vs = lc c' n := by
  apply List.ext_getElem?
  intro j
  have hlen : (lc c n).length = n := lc_length c n
  by_cases hj : j < n
  · rw [lc_get c' hj]
    unfold setC
    by_cases ha : j < o
    · rw [List.getElem?_append_left (by simp [hlen]; omega), List.getElem?_take, if_pos ha, lc_get c hj, h1 j (by omega) (.inl ha)]
    · rw [List.getElem?_append_right (by simp [hlen]; omega)]
      have e1 : (List.take o (lc c n)).length = o := by simp [hlen]; omega
      rw [e1]
      by_cases hb : j < o + m
      · rw [List.getElem?_append_left (by omega), (h2 (j - o) (by omega)).2, show o + (j - o) = j by omega]
      · rw [List.getElem?_append_right (by omega), List.getElem?_drop, hl, show o + m + (j - o - m) = j by omega, lc_get c hj, h1 j (by omega) (.inr (by omega))]
  · have e : (setC (lc c n) o vs).length = n := by unfold setC; simp [hlen, hl]; omega
    rw [List.getElem?_eq_none (by rw [e]; omega), List.getElem?_eq_none (by rw [lc_length]; omega)]

theorem sc_set {c c' : Cs V} {n o m : Nat} {vs : List Value} (hn : n ≤ c.cap) (h0 : ∀ i, i < n → isSc (cget c i)) (h1 : ∀ j, j < c.cap → (j < o ∨ o + m ≤ j) → cget c' j = cget c j)
    (h2 : ∀ i, i < m → isSc (cget c' (o + i)) ∧ vs[i]? = some (dec (cget c' (o + i)))) : ∀ i, i < n → isSc (cget c' i) := by
  intro i hi
  by_cases ha : i < o ∨ o + m ≤ i
  · rw [h1 i (by omega) ha]; exact h0 i hi
  · have := (h2 (i - o) (by omega)).1
    rwa [show o + (i - o) = i by omega] at this

/-! Laying. -/

def putQ (H : QH) (q : Pt) (ob : QO) (k : QH → Bool) : Bool := QH.rec (motive := fun _ => Bool) (fun r x j f => hset r q ob fun r' => k ⟨r', x, .cons q j, f⟩) H

theorem putQ_eq (H : QH) (q : Pt) (ob : QO) (k : QH → Bool) : putQ H q ob k = k ⟨hs H.r q ob, H.x, .cons q H.j, H.f⟩ := by
  obtain ⟨r, x, jj, ff⟩ := H
  exact hset_eq r q ob fun r' => k ⟨r', x, .cons q jj, ff⟩

theorem okN_num (q : Pt) : okN q.num = true := by
  have := q.num_lt
  unfold okN
  rw [Nat.blt_eq]
  omega

/-- A block is changed into another one. -/
theorem HR.put {R : Nat} {G : N5 QO} {H : QH} {F : FW} (hr : HR R G H F) {q : Pt} {o ob : QO} {x : AObj} (h : hg H.r q = o) (hl : own o = true) (hx : decO ob = some x) (hw : wfO ob) : HR R G ⟨hs H.r q ob, H.x, .cons q H.j, H.f⟩ (F.put q.num x) := by
  have hq := hr.objs q
  rw [h] at hq
  have get : ∀ b, (F.put q.num x).heap.get b = if b = q.num then some x else F.heap.get b := fun b => T.get_set _ _ _ (okN_num q)
  refine ⟨hr.next, fun q' => ?_, fun q' => ?_, fun q' hb => ?_, fun b hb => ?_, fun q' hj => ?_, hr.fact⟩
  · rw [get]
    show (if q'.num = q.num then some x else F.heap.get q'.num) = decO (hg (hs H.r q ob) q')
    by_cases e : q' = q
    · subst e; rw [if_pos rfl, hg_same, hx]
    · rw [if_neg (fun k => e (Pt.num_inj k)), hg_ne _ _ e]; exact hr.objs q'
  · show wfO (hg (hs H.r q ob) q')
    by_cases e : q' = q
    · subst e; rw [hg_same]; exact hw
    · rw [hg_ne _ _ e]; exact hr.wf q'
  · have hb' : own (hg (hs H.r q ob) q') = true := hb
    by_cases e : q' = q
    · subst e; exact hr.low _ (by rw [h]; exact hl)
    · rw [hg_ne _ _ e] at hb'; exact hr.low _ hb'
  · rw [get, if_neg]
    · exact hr.free b hb
    · intro e
      subst e
      have := hr.free _ hb
      rw [hq] at this
      cases o with
      | no => simp [own] at hl
      | g => simp [own] at hl
      | _ => simp [decO] at this
  · have hj1 : ¬ (q' = q ∨ inP q' H.j) := hj
    show hg (hs H.r q ob) q' = hg G q'
    rw [hg_ne _ _ (fun e => hj1 (.inl e))]
    exact hr.jr q' (fun e => hj1 (.inr e))

/-- One cell is laid. -/
def sto1 (x v : V) (H : QH) (k : QH → Bool) : Bool :=
  asP x fun q o => blkW H q fun cs n e => lt o n (sc v (cset cs o v fun cs' => putQ H q (.c cs' n e) k))

/-- Some are. -/
def stoN (m : Nat) (x v : V) (H : QH) (k : QH → Bool) : Bool :=
  asP x fun q o => blkW H q fun cs n e => le (Nat.add o m) n (setsN m v cs o fun cs' => putQ H q (.c cs' n e) k)

theorem HR.lay {R : Nat} {G : N5 QO} {H : QH} {F : FW} (hr : HR R G H F) {q : Pt} {cs cs' : Cs V} {n e o m : Nat} {vs : List Value} (hb : hg H.r q = .c cs n e) (ho : o + m ≤ n) (hcap : cs'.cap = cs.cap) (hl : vs.length = m) (ha : vs.all oneC = true)
    (h1 : ∀ j, j < cs.cap → (j < o ∨ o + m ≤ j) → cget cs' j = cget cs j) (h2 : ∀ i, i < m → isSc (cget cs' (o + i)) ∧ vs[i]? = some (dec (cget cs' (o + i)))) :
    ∃ F', F.lay R ⟨q.num, o, none⟩ vs = some F' ∧ HR R G ⟨hs H.r q (.c cs' n e), H.x, .cons q H.j, H.f⟩ F' := by
  obtain ⟨w1, w2⟩ := hr.wfc (.inl hb)
  have hq := hr.objs q
  rw [hb] at hq
  have hlow : Nat.ble R q.num = true := Nat.ble_eq_true_of_le (hr.low q (by rw [hb]; rfl))
  refine ⟨F.put q.num (.cells (setC (lc cs n) o vs) e), ?_, hr.put hb rfl ?_ ⟨by rw [hcap]; exact w1, sc_set w1 w2 h1 h2⟩⟩
  · simp only [FW.lay, hlow, okN_num, Bool.and_self, cond_true, hr.cells (.inl hb), lc_length]
    have : Nat.ble (o + vs.length) n = true := Nat.ble_eq_true_of_le (by omega)
    rw [this, ha]
    rfl
  · rw [lc_set w1 ho hl h1 h2]
    rfl

theorem sto1_spec {R : Nat} {G : N5 QO} {P : Program} {t : TypeId} {x v : V} {a u : Value} {H : QH} {F : FW} {k : QH → Bool} (hr : HR R G H F) (hx : VQ x a) (hv : VQ v u) (hz : szOk P t 1 = true) (h : sto1 x v H k = true) :
    ∃ H' F', storeA P R t a u F = some F' ∧ HR R G H' F' ∧ k H' = true := by
  obtain ⟨q, o, rfl, h⟩ := asP_spec h
  obtain ⟨cs, n, e, hb, h⟩ := blkW_spec h
  obtain ⟨ho, h⟩ := lt_spec h
  have hs := isSc.of h
  obtain ⟨_, _, _, h⟩ := sc_spec h
  obtain ⟨w1, w2⟩ := hr.wfc (.inl hb)
  obtain ⟨cs', h, hcap, hg⟩ := cset_spec h (by omega)
  rw [putQ_eq] at h
  obtain ⟨F', h1, h2⟩ := hr.lay (o := o) (vs := [dec v]) (m := 1) hb (by omega) hcap rfl (by simp [hs.one]) (fun j hj hjo => by rw [hg j hj, if_neg (by omega)])
    (fun i hi => by
      obtain rfl : i = 0 := by omega
      rw [hg (o + 0) (by omega), if_pos (by omega)]
      exact ⟨hs, rfl⟩)
  refine ⟨_, F', ?_, h2, h⟩
  rw [hx.eq (by simp), hv.eq hs.bot]
  show (bif szOk P t (cellsV (dec v)).length then F.lay R ⟨q.num, o, none⟩ (cellsV (dec v)) else none) = some F'
  rw [hs.cells]
  show (bif szOk P t 1 then F.lay R ⟨q.num, o, none⟩ [dec v] else none) = some F'
  rw [hz, cond_true, h1]

theorem stoN_spec {R : Nat} {G : N5 QO} {P : Program} {t : TypeId} {m : Nat} {x v : V} {a u : Value} {H : QH} {F : FW} {k : QH → Bool} (hr : HR R G H F) (hx : VQ x a) (hv : VQ v u) (hz : szOk P t m = true) (h : stoN m x v H k = true) :
    ∃ H' F', storeA P R t a u F = some F' ∧ HR R G H' F' ∧ k H' = true := by
  obtain ⟨q, o, rfl, h⟩ := asP_spec h
  obtain ⟨cs, n, e, hb, h⟩ := blkW_spec h
  obtain ⟨ho, h⟩ := le_spec h
  have ho' : o + m ≤ n := ho
  obtain ⟨w1, w2⟩ := hr.wfc (.inl hb)
  obtain ⟨cs', h, hcap, hd, hbot, hl, ha, g1, g2⟩ := setsN_spec h (by omega)
  rw [putQ_eq] at h
  obtain ⟨F', h1, h2⟩ := hr.lay hb ho' hcap hl ha g1 g2
  refine ⟨_, F', ?_, h2, h⟩
  rw [hx.eq (by simp), hv.eq hbot, hd]
  show (bif szOk P t (decL v).length then F.lay R ⟨q.num, o, none⟩ (decL v) else none) = some F'
  rw [hl, hz, cond_true, h1]

/-! A new block: at the next place; or at one that was kept. -/

def pushQ (ob : QO) (H : QH) (k : Pt → QH → Bool) : Bool :=
  QH.rec (motive := fun _ => Bool) (fun r x j f => hset r x ob fun r' => psucc x fun x' => k x ⟨r', x', .cons x j, f⟩) H

theorem HR.push {R : Nat} {G : N5 QO} {H : QH} {F : FW} (hr : HR R G H F) (hR : R ≤ F.next) {ob : QO} {o : AObj} (hd : decO ob = some o) (hw : wfO ob) {k : Pt → QH → Bool} (h : pushQ ob H k = true) :
    ∃ H' F', F.push o = some F' ∧ HR R G H' F' ∧ F'.next = F.next + 1 ∧ k H.x H' = true ∧ H.x.num = F.next := by
  obtain ⟨r, x, jj, ff⟩ := H
  have hn : F.next = x.num := hr.next
  have h' : hset r x ob (fun r' => psucc x fun x' => k x ⟨r', x', .cons x jj, ff⟩) = true := h
  rw [hset_eq] at h'
  obtain ⟨x', hx', h'⟩ := psucc_spec h'
  have hfree := hr.free F.next (Nat.le_refl _)
  have hok : okN F.next = true := by rw [hn]; exact okN_num x
  have get : ∀ b, (F.heap.set F.next o).get b = if b = F.next then some o else F.heap.get b := fun b => T.get_set _ _ _ hok
  refine ⟨⟨hs r x ob, x', .cons x jj, ff⟩, ⟨F.heap.set F.next o, F.next + 1⟩, ?_, ?_, rfl, h', hn.symm⟩
  · simp only [FW.push, hfree, hok, cond_true]
  · refine ⟨by rw [hx', ← hn], fun q => ?_, fun q => ?_, fun q hb => ?_, fun b hb => ?_, fun q hj => ?_, hr.fact⟩
    · show (F.heap.set F.next o).get q.num = decO (hg (hs r x ob) q)
      rw [get]
      by_cases e : q = x
      · subst e; rw [if_pos hn.symm, hg_same, hd]
      · rw [if_neg (fun k => e (Pt.num_inj (k.trans hn))), hg_ne _ _ e]; exact hr.objs q
    · show wfO (hg (hs r x ob) q)
      by_cases e : q = x
      · subst e; rw [hg_same]; exact hw
      · rw [hg_ne _ _ e]; exact hr.wf q
    · have hb' : own (hg (hs r x ob) q) = true := hb
      by_cases e : q = x
      · subst e; rw [← hn]; exact hR
      · rw [hg_ne _ _ e] at hb'; exact hr.low _ hb'
    · show (F.heap.set F.next o).get b = none
      have hb' : F.next + 1 ≤ b := hb
      rw [get, if_neg (by omega)]
      exact hr.free b (by omega)
    · have hj1 : ¬ (q = x ∨ inP q jj) := hj
      show hg (hs r x ob) q = hg G q
      rw [hg_ne _ _ (fun e => hj1 (.inl e))]
      exact hr.jr q (fun e => hj1 (.inr e))

/-- At a place that was kept for it. -/
def layQ (q : Pt) (ob : QO) (H : QH) (k : QH → Bool) : Bool :=
  QH.rec (motive := fun _ => Bool) (fun r x j f => hget r q fun old => QO.rec (motive := fun _ => Bool) (hset r q ob fun r' => k ⟨r', x, .cons q j, f⟩) (fun _ _ _ => false) (fun _ _ => false) (fun _ _ _ => false) false (fun _ _ _ => false) old) H

theorem HR.layNew {R : Nat} {G : N5 QO} {H : QH} {F : FW} (hr : HR R G H F) {q : Pt} (hR : R ≤ q.num) (hlt : q.num < F.next) {ob : QO} {o : AObj} (hd : decO ob = some o) (hw : wfO ob) {k : QH → Bool} (h : layQ q ob H k = true) :
    ∃ H' F', FW.push ⟨F.heap, q.num⟩ o = some F' ∧ HR R G H' ⟨F'.heap, F.next⟩ ∧ k H' = true := by
  obtain ⟨r, x, jj, ff⟩ := H
  have h' : QO.rec (motive := fun _ => Bool) (hset r q ob fun r' => k ⟨r', x, .cons q jj, ff⟩) (fun _ _ _ => false) (fun _ _ => false) (fun _ _ _ => false) false (fun _ _ _ => false) (hg r q) = true := h
  have hq : F.heap.get q.num = decO (hg r q) := hr.objs q
  cases ho : hg r q
  case no =>
    rw [ho] at h' hq
    have h2 : hset r q ob (fun r' => k ⟨r', x, .cons q jj, ff⟩) = true := h'
    rw [hset_eq] at h2
    have hnone : F.heap.get q.num = none := hq
    have get : ∀ b, (F.heap.set q.num o).get b = if b = q.num then some o else F.heap.get b := fun b => T.get_set _ _ _ (okN_num q)
    refine ⟨⟨hs r q ob, x, .cons q jj, ff⟩, ⟨F.heap.set q.num o, q.num + 1⟩, ?_, ?_, h2⟩
    · simp only [FW.push, hnone, okN_num, cond_true]
    · refine ⟨hr.next, fun q' => ?_, fun q' => ?_, fun q' hb => ?_, fun b hb => ?_, fun q' hj => ?_, hr.fact⟩
      · show (F.heap.set q.num o).get q'.num = decO (hg (hs r q ob) q')
        rw [get]
        by_cases e : q' = q
        · subst e; rw [if_pos rfl, hg_same, hd]
        · rw [if_neg (fun k => e (Pt.num_inj k)), hg_ne _ _ e]; exact hr.objs q'
      · show wfO (hg (hs r q ob) q')
        by_cases e : q' = q
        · subst e; rw [hg_same]; exact hw
        · rw [hg_ne _ _ e]; exact hr.wf q'
      · have hb' : own (hg (hs r q ob) q') = true := hb
        by_cases e : q' = q
        · subst e; exact hR
        · rw [hg_ne _ _ e] at hb'; exact hr.low _ hb'
      · show (F.heap.set q.num o).get b = none
        have hb' : F.next ≤ b := hb
        rw [get, if_neg (by omega)]
        exact hr.free b hb'
      · have hj1 : ¬ (q' = q ∨ inP q' jj) := hj
        show hg (hs r q ob) q' = hg G q'
        rw [hg_ne _ _ (fun e => hj1 (.inl e))]
        exact hr.jr q' (fun e => hj1 (.inr e))
  all_goals (rw [ho] at h'; cases h')

end
end Go.Qm
