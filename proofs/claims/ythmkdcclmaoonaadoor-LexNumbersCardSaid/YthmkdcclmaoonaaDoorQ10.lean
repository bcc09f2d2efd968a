/- The quick machine's append, copy, and walk along a text. No conditions. -/
import Derived.Test.YthmkdcclmaoonaaDoorQ9
set_option linter.unusedVariables false
set_option linter.unusedSimpArgs false
set_option linter.unusedSectionVars false
set_option linter.constructorNameAsVariable false
namespace Go.Qm
open Go.Am
noncomputable section
variable [Rho]

/-- Room for so many. -/
def ensQ (hi : Nat) (cs : Cs V) (k : Cs V → Bool) : Bool :=
  leo hi cs.cap (k cs) (cgrow .bot cs fun c1 => leo hi c1.cap (k c1) (cgrow .bot c1 fun c2 => leo hi c2.cap (k c2) (cgrow .bot c2 fun c3 => le hi c3.cap (k c3))))

theorem ensQ_spec {hi : Nat} {cs : Cs V} {k : Cs V → Bool} (h : ensQ hi cs k = true) : ∃ c' : Cs V, hi ≤ c'.cap ∧ cs.cap ≤ c'.cap ∧ (∀ j, j < cs.cap → cget c' j = cget cs j) ∧ k c' = true := by
  rcases leo_spec h with ⟨h1, h⟩ | h
  · exact ⟨cs, h1, Nat.le_refl _, fun _ _ => rfl, h⟩
  obtain ⟨c1, h, e1, g1⟩ := cgrow_spec h
  rcases leo_spec h with ⟨h1, h⟩ | h
  · exact ⟨c1, h1, by omega, g1, h⟩
  obtain ⟨c2, h, e2, g2⟩ := cgrow_spec h
  rcases leo_spec h with ⟨h1, h⟩ | h
  · exact ⟨c2, h1, by omega, fun j hj => by rw [g2 j (by omega), g1 j hj], h⟩
  obtain ⟨c3, h, e3, g3⟩ := cgrow_spec h
  obtain ⟨h1, h⟩ := le_spec h
  exact ⟨c3, h1, by omega, fun j hj => by rw [g3 j (by omega), g2 j (by omega), g1 j hj], h⟩

/-- A text's bytes, as cells. -/
def strV : Nat → Nat → V
  | 0, _ => .nil
  | l + 1, n => .cons (.y (n % 256)) (strV l (n / 256))

def strK (l : Nat) : Nat → (V → Bool) → Bool :=
  Nat.rec (motive := fun _ => Nat → (V → Bool) → Bool) (fun _ k => k .nil) (fun _ ih n k => lit (Nat.mod n 256) fun b => lit (Nat.div n 256) fun m => ih m fun t => k (.cons (.y b) t)) l

theorem strK_eq : ∀ (l n : Nat) (k : V → Bool), strK l n k = k (strV l n)
  | 0, _, _ => rfl
  | l + 1, n, k => by
    show lit (Nat.mod n 256) (fun b => lit (Nat.div n 256) fun m => strK l m fun t => k (.cons (.y b) t)) = _
    rw [lit_eq, lit_eq, strK_eq l]
    rfl

theorem strV_dec : ∀ (l n : Nat), decL (strV l n) = (bytesN l n).map fun b => Value.int .u8 b.toNat
  | 0, _ => rfl
  | l + 1, n => by
    show dec (.y (n % 256)) :: decL (strV l (n / 256)) = Value.int .u8 (UInt8.ofNat (n % 256)).toNat :: (bytesN l (n / 256)).map _
    rw [strV_dec l]
    have : (UInt8.ofNat (n % 256)).toNat = n % 256 := by simp
    rw [this]
    rfl

def txV (t : Tx) : (V → Bool) → Bool := Tx.rec (motive := fun _ => (V → Bool) → Bool) (fun k => k .nil) (fun c l _ ih k => mkPo .u8 c l (fun b => ih fun t => k (.cons b t)) false) t
theorem txV_spec : ∀ {t : Tx} {k : V → Bool}, txV t k = true → ∃ r, decL r = (txv t).map (fun b => Value.int .u8 b.toNat) ∧ k r = true
  | .nil, k, h => ⟨.nil, rfl, h⟩
  | .cons c l t, k, h => by
    rcases mkPo_spec (f := fun b => txV t fun t => k (.cons b t)) h with ⟨b, h1, h2, h⟩ | h
    · obtain ⟨r, h3, h⟩ := txV_spec (t := t) h
      refine ⟨_, ?_, h⟩
      show dec b :: decL r = Value.int .u8 (UInt8.ofNat (c + dgv l)).toNat :: (txv t).map _
      have h1 : c + dgv l < 256 := h1
      have : (UInt8.ofNat (c + dgv l)).toNat = c + dgv l := by
        simp only [UInt8.toNat_ofNat', Nat.reducePow]
        omega
      rw [h2, h3, this]
    · cases h

/-- Is it a type of bytes? -/
def isU8 (P : Program) (e : TypeId) : Bool :=
  match P.underlying e with
  | some (.int .u8) => true
  | _ => false

/-- What is appended: how many, and its cells. -/
def srcQ (P : Program) (e size : Nat) (x : V) (H : QH) (k : Nat → V → Bool) : Bool :=
  V.rec (motive := fun _ => Bool) false (fun _ => false) (fun _ => false) (fun _ _ => false) (fun _ => false) (fun _ _ => false)
    (fun l n => Bool.rec (motive := fun _ => Bool) false (strK l n (k l)) (isU8 P e))
    (fun q o n _ => Bool.rec (motive := fun _ => Bool) (blk H q fun cs m _ => lit (Nat.mul n size) fun w => le (Nat.add o w) m (rowK cs w o (k n))) (k 0 .nil) (Nat.beq n 0))
    (fun c => Bool.rec (motive := fun _ => Bool) false (k 0 .nil) (Nat.beq c 1)) (fun _ => false) (fun _ _ _ _ _ => false) (fun _ _ _ => false) false (fun _ _ _ _ => false) (fun _ _ => false) (fun _ _ => false) x

theorem srcQ_spec {R : Nat} {G : N5 QO} {P : Program} {e size : Nat} {x : V} {v : Value} {H : QH} {F : FW} {k : Nat → V → Bool} (hr : HR R G H F) (hx : VQ x v) (h : srcQ P e size x H k = true) :
    ∃ n l, srcCells P F e size v = some (decL l) ∧ lenV v = n ∧ k n l = true := by
  cases x <;> first | (cases h; done) | skip
  · rename_i l n
    cases hu : isU8 P e with
    | false => simp only [srcQ, hu] at h; cases h
    | true =>
      simp only [srcQ, hu] at h
      rw [strK_eq] at h
      refine ⟨l, strV l n, ?_, ?_, h⟩
      · rw [hx.eq (by simp), dec_s, strV_dec]
        unfold isU8 at hu
        unfold srcCells
        split at hu
        · rename_i he
          simp only [he]
        · cases hu
      · rw [hx.eq (by simp), dec_s]
        exact bytesN_length _ _
  · rename_i q o n c
    cases hn : Nat.beq n 0 with
    | true =>
      simp only [srcQ, hn] at h
      have := Nat.eq_of_beq_eq_true hn
      subst this
      exact ⟨0, .nil, by rw [hx.eq (by simp), dec_l]; rfl, by rw [hx.eq (by simp), dec_l]; rfl, h⟩
    | false =>
      simp only [srcQ, hn] at h
      obtain ⟨cs, m, e', hb, h⟩ := blk_spec h
      rw [lit_eq] at h
      obtain ⟨h1, h⟩ := le_spec h
      rw [rowK_eq] at h
      refine ⟨n, rowV cs (Nat.mul n size) o, ?_, ?_, h⟩
      · rw [hx.eq (by simp), dec_l, (rowV_dec cs (Nat.mul n size) o m h1).1]
        cases n with
        | zero => cases hn
        | succ n =>
          show F.row ⟨q.num, o, none⟩ ((n + 1) * size) = _
          simp only [FW.row, hr.cells hb, lc_length]
          rw [Nat.ble_eq_true_of_le (show o + (n + 1) * size ≤ m from h1)]
          rfl
      · rw [hx.eq (by simp), dec_l]
        rfl
  · rename_i c
    cases hn : Nat.beq c 1 with
    | false => simp only [srcQ, hn] at h; cases h
    | true =>
      simp only [srcQ, hn] at h
      have := Nat.eq_of_beq_eq_true hn
      subst this
      exact ⟨0, .nil, by rw [hx.eq (by simp)]; rfl, by rw [hx.eq (by simp)]; rfl, h⟩

/-- A new block for a slice that has grown. -/
def grownQ (cs : Cs V) (m e n : Nat) (H : QH) (k : V → QH → Bool) : Bool :=
  pushQ (.c cs m e) H fun q H' => lit (Nat.succ (Nat.mul 2 n)) fun c => k (.l q 0 n c) H'

theorem grownQ_spec {R : Nat} {G : N5 QO} {cs : Cs V} {m e n : Nat} {H : QH} {F : FW} {l : List Value} {k : V → QH → Bool} (hr : HR R G H F) (hR : R ≤ F.next) (hl : lc cs m = l) (hw : m ≤ cs.cap ∧ ∀ i, i < m → isSc (cget cs i)) (h : grownQ cs m e n H k = true) :
    ∃ r H' F', grownA F l e n = some (dec r, F') ∧ HR R G H' F' ∧ F'.next = F.next + 1 ∧ k r H' = true := by
  obtain ⟨H', F', h1, h2, h3, h4, h5⟩ := hr.push hR (ob := .c cs m e) (o := .cells l e) (by show some (AObj.cells (lc cs m) e) = _; rw [hl]) hw h
  rw [lit_eq] at h4
  refine ⟨_, H', F', ?_, h2, h3, h4⟩
  unfold grownA
  simp only [h1]
  show some (Value.slice (some ⟨F.next, 0, none⟩) n (2 * n + 1), F') = some (Value.slice (some ⟨H.x.num, 0, none⟩) n (Nat.succ (Nat.mul 2 n)), F')
  rw [h5]
  rfl

/-- New ones behind so many old ones. -/
theorem lc_app {c c' : Cs V} {w n : Nat} {vs : List Value} {m : Nat} (hn : w ≤ c.cap) (hl : vs.length = m) (h0 : ∀ i, i < w → isSc (cget c i)) (h1 : ∀ j, j < c.cap → (j < w ∨ w + m ≤ j) → cget c' j = cget c j)
    (h2 : ∀ i, i < m → isSc (cget c' (w + i)) ∧ vs[i]? = some (dec (cget c' (w + i)))) : lc c' (w + m) = lc c w ++ vs ∧ ∀ i, i < w + m → isSc (cget c' i) := by
  constructor
  · apply List.ext_getElem?
    intro j
    by_cases hj : j < w
    · rw [lc_get c' (by omega), List.getElem?_append_left (by rw [lc_length]; exact hj), lc_get c hj, h1 j (by omega) (.inl hj)]
    · rw [List.getElem?_append_right (by rw [lc_length]; omega), lc_length]
      by_cases hk : j < w + m
      · rw [lc_get c' hk, (h2 (j - w) (by omega)).2, show w + (j - w) = j by omega]
      · rw [List.getElem?_eq_none (by rw [lc_length]; omega), List.getElem?_eq_none (by omega)]
  · intro i hi
    by_cases hj : i < w
    · rw [h1 i (by omega) (.inl hj)]; exact h0 i hj
    · have := (h2 (i - w) (by omega)).1
      rwa [show w + (i - w) = i by omega] at this

/-- To none: a row of its own. -/
def appNew (e size bytes m : Nat) (l : V) (H : QH) (k : V → QH → Bool) : Bool :=
  le (Nat.mul m bytes) 140737488355328 (lit (Nat.mul m size) fun w => ensQ w (.c1 (nfill .bot)) fun cs => setsN w l cs 0 fun cs' => grownQ cs' w e m H k)

/-- To a slice that has a block. -/
def appTo (e size bytes : Nat) (q : Pt) (o n c m : Nat) (l : V) (H : QH) (k : V → QH → Bool) : Bool :=
  lit (Nat.mul m size) fun w => leo (Nat.add n m) (Nat.div c 2)
    (blkW H q fun cs z e' => lit (Nat.add o (Nat.mul n size)) fun a => le (Nat.add a w) z (setsN w l cs a fun cs' => putQ H q (.c cs' z e') fun H' => lit (Nat.add n m) fun n' => k (.l q o n' c) H'))
    (le (Nat.mul (Nat.add n m) bytes) 140737488355328 (eq o 0 (Bool.rec (motive := fun _ => Bool)
      (blkW H q fun cs z e' => eq e' e (lit (Nat.mul n size) fun a => le a z (lt 1 c (ensQ (Nat.add a w) cs fun cs1 => setsN w l cs1 a fun cs' => putQ H q .dead fun H' => lit (Nat.add a w) fun b => lit (Nat.add n m) fun n' => grownQ cs' b e n' H' k))))
      (blk H q fun cs z e' => eq e' e (lit (Nat.mul n size) fun a => le a z (ensQ (Nat.add a w) cs fun cs1 => setsN w l cs1 a fun cs' => lit (Nat.add a w) fun b => lit (Nat.add n m) fun n' => grownQ cs' b e n' H k)))
      (Nat.beq (Nat.mod c 2) 0))))

theorem appNew_spec {R : Nat} {G : N5 QO} {e size bytes m : Nat} {l : V} {H : QH} {F : FW} {k : V → QH → Bool} (hr : HR R G H F) (hR : R ≤ F.next) (h : appNew e size bytes m l H k = true) :
    ∃ r H' F', (decL l).length = m * size ∧ (bif Nat.ble (m * bytes) 140737488355328 && (decL l).all oneC then grownA F (decL l) e m else none) = some (dec r, F') ∧ HR R G H' F' ∧ F'.next = F.next + 1 ∧ k r H' = true := by
  obtain ⟨h1, h⟩ := le_spec h
  rw [lit_eq] at h
  obtain ⟨cs, c1, _, _, h⟩ := ensQ_spec h
  obtain ⟨cs', h, hcap, _, _, hl, ha, g1, g2⟩ := setsN_spec h (by rw [Nat.zero_add]; exact c1)
  obtain ⟨e1, e2⟩ := lc_app (c := cs) (c' := cs') (w := 0) (n := 0) (vs := decL l) (m := Nat.mul m size) (Nat.zero_le _) hl (fun i hi => absurd hi (Nat.not_lt_zero _)) g1 g2
  rw [Nat.zero_add] at e1 e2
  have e3 : lc cs' (Nat.mul m size) = decL l := e1
  obtain ⟨r, H', F', f1, f2, f3, f4⟩ := grownQ_spec hr hR e3 ⟨by rw [hcap]; exact c1, e2⟩ h
  refine ⟨r, H', F', hl, ?_, f2, f3, f4⟩
  rw [Nat.ble_eq_true_of_le (show m * bytes ≤ 140737488355328 from h1), ha, Bool.and_self, cond_true]
  exact f1

theorem lc_take (cs : Cs V) {a z : Nat} (h : a ≤ z) : (lc cs z).take a = lc cs a := by
  apply List.ext_getElem?
  intro j
  rw [List.getElem?_take]
  by_cases hj : j < a
  · rw [if_pos hj, lc_get _ (by omega), lc_get _ hj]
  · rw [if_neg hj, List.getElem?_eq_none (by rw [lc_length]; omega)]

theorem appTo_spec {R : Nat} {G : N5 QO} {e size bytes : Nat} {q : Pt} {o n c m : Nat} {l : V} {H : QH} {F : FW} {k : V → QH → Bool} (hr : HR R G H F) (hR : R ≤ F.next) (h : appTo e size bytes q o n c m l H k = true) :
    ∃ r H' F', (decL l).length = m * size ∧ appendTo R e size bytes ⟨q.num, o, none⟩ n c m (decL l) F = some (dec r, F') ∧ HR R G H' F' ∧ F.next ≤ F'.next ∧ k r H' = true := by
  unfold appTo at h
  rw [lit_eq] at h
  unfold appendTo
  cases hroom : Nat.ble (n + m) (c / 2) with
  | true =>
    have h1 := Nat.le_of_ble_eq_true hroom
    have hx : blkW H q (fun cs z e' => lit (Nat.add o (Nat.mul n size)) fun a => le (Nat.add a (Nat.mul m size)) z (setsN (Nat.mul m size) l cs a fun cs' => putQ H q (.c cs' z e') fun H' => lit (Nat.add n m) fun n' => k (.l q o n' c) H')) = true := by
      unfold leo at h
      rw [show Nat.ble (Nat.add n m) (Nat.div c 2) = true from hroom] at h
      exact h
    obtain ⟨cs, z, e', hb, hx⟩ := blkW_spec hx
    rw [lit_eq] at hx
    obtain ⟨h2, hx⟩ := le_spec hx
    obtain ⟨w1, w2⟩ := hr.wfc (.inl hb)
    have h2' : o + n * size + m * size ≤ z := h2
    obtain ⟨cs', hx, hcap, _, _, hl, ha, g1, g2⟩ := setsN_spec hx (show o + n * size + m * size ≤ cs.cap by omega)
    rw [putQ_eq, lit_eq] at hx
    obtain ⟨F', f1, f2⟩ := hr.lay (o := o + n * size) hb h2' hcap hl ha g1 g2
    refine ⟨_, _, F', hl, ?_, f2, ?_, hx⟩
    · rw [cond_true]
      show (match F.lay R ⟨q.num, o + n * size, none⟩ (decL l) with | some H' => _ | none => none) = _
      rw [f1]
      rfl
    · have : F'.next = F.next := by rw [f2.next]; exact hr.next.symm
      omega
  | false =>
    have hx : (le (Nat.mul (Nat.add n m) bytes) 140737488355328 (eq o 0 (Bool.rec (motive := fun _ => Bool)
      (blkW H q fun cs z e' => eq e' e (lit (Nat.mul n size) fun a => le a z (lt 1 c (ensQ (Nat.add a (Nat.mul m size)) cs fun cs1 => setsN (Nat.mul m size) l cs1 a fun cs' => putQ H q .dead fun H' => lit (Nat.add a (Nat.mul m size)) fun b => lit (Nat.add n m) fun n' => grownQ cs' b e n' H' k))))
      (blk H q fun cs z e' => eq e' e (lit (Nat.mul n size) fun a => le a z (ensQ (Nat.add a (Nat.mul m size)) cs fun cs1 => setsN (Nat.mul m size) l cs1 a fun cs' => lit (Nat.add a (Nat.mul m size)) fun b => lit (Nat.add n m) fun n' => grownQ cs' b e n' H k)))
      (Nat.beq (Nat.mod c 2) 0)))) = true := by
      unfold leo at h
      rw [show Nat.ble (Nat.add n m) (Nat.div c 2) = false from hroom] at h
      exact h
    obtain ⟨h1, hx⟩ := le_spec hx
    obtain ⟨ho, hx⟩ := eq_spec hx
    subst ho
    rw [cond_false]
    cases hc : Nat.beq (c % 2) 0 with
    | true =>
      rw [show Nat.beq (Nat.mod c 2) 0 = true from hc] at hx
      obtain ⟨cs, z, e', hb, hx⟩ := blk_spec (k := fun cs z e' => eq e' e (lit (Nat.mul n size) fun a => le a z (ensQ (Nat.add a (Nat.mul m size)) cs fun cs1 => setsN (Nat.mul m size) l cs1 a fun cs' => lit (Nat.add a (Nat.mul m size)) fun b => lit (Nat.add n m) fun n' => grownQ cs' b e n' H k))) hx
      obtain ⟨he, hx⟩ := eq_spec hx
      subst he
      rw [lit_eq] at hx
      obtain ⟨h2, hx⟩ := le_spec hx
      have h2' : n * size ≤ z := h2
      obtain ⟨w1, w2⟩ := hr.wfc hb
      obtain ⟨cs1, c1, c2, c3, hx⟩ := ensQ_spec hx
      obtain ⟨cs', hx, hcap, _, _, hl, ha, g1, g2⟩ := setsN_spec hx c1
      rw [lit_eq, lit_eq] at hx
      obtain ⟨e1, e2⟩ := lc_app (c := cs1) (c' := cs') (w := n * size) (n := 0) (vs := decL l) (m := m * size) (by omega) hl (fun i hi => by rw [c3 i (by omega)]; exact w2 i (by omega)) g1 g2
      have e3 : lc cs1 (n * size) = (lc cs z).take (n * size) := by
        rw [lc_take _ h2']
        unfold lc
        apply List.map_congr_left
        intro i hi
        rw [c3 i (by have := List.mem_range.1 hi; omega)]
      have e4 : (lc cs1 (n * size)).all oneC = true := lc_all (fun i hi => by rw [c3 i (by omega)]; exact w2 i (by omega))
      obtain ⟨r, H', F', f1, f2, f3, f4⟩ := grownQ_spec (m := n * size + m * size) hr hR e1 ⟨by rw [hcap]; exact c1, e2⟩ hx
      refine ⟨r, H', F', hl, ?_, f2, by omega, f4⟩
      have hrow : F.row ⟨q.num, 0, none⟩ (n * size) = some (lc cs1 (n * size)) := by
        simp only [FW.row, hr.cells hb, lc_length]
        rw [Nat.ble_eq_true_of_le (show 0 + n * size ≤ z by omega), cond_true, List.drop_zero, e3]
      simp only [hrow, hr.cells hb]
      rw [show Nat.beq e' e' = true from by simp, cond_true, Nat.ble_eq_true_of_le (show (n + m) * bytes ≤ 140737488355328 from h1), e4, ha, Bool.and_self, Bool.and_self, cond_true, cond_true]
      exact f1
    | false =>
      rw [show Nat.beq (Nat.mod c 2) 0 = false from hc] at hx
      obtain ⟨cs, z, e', hb, hx⟩ := blkW_spec (k := fun cs z e' => eq e' e (lit (Nat.mul n size) fun a => le a z (lt 1 c (ensQ (Nat.add a (Nat.mul m size)) cs fun cs1 => setsN (Nat.mul m size) l cs1 a fun cs' => putQ H q .dead fun H' => lit (Nat.add a (Nat.mul m size)) fun b => lit (Nat.add n m) fun n' => grownQ cs' b e n' H' k)))) hx
      obtain ⟨he, hx⟩ := eq_spec hx
      subst he
      rw [lit_eq] at hx
      obtain ⟨h2, hx⟩ := le_spec hx
      obtain ⟨h3, hx⟩ := lt_spec hx
      have h2' : n * size ≤ z := h2
      obtain ⟨w1, w2⟩ := hr.wfc (.inl hb)
      obtain ⟨cs1, c1, c2, c3, hx⟩ := ensQ_spec hx
      obtain ⟨cs', hx, hcap, _, _, hl, ha, g1, g2⟩ := setsN_spec hx c1
      rw [putQ_eq, lit_eq, lit_eq] at hx
      have hr2 := hr.put hb rfl (ob := .dead) (x := .dead) rfl trivial
      obtain ⟨e1, e2⟩ := lc_app (c := cs1) (c' := cs') (w := n * size) (n := 0) (vs := decL l) (m := m * size) (by omega) hl (fun i hi => by rw [c3 i (by omega)]; exact w2 i (by omega)) g1 g2
      have e3 : lc cs1 (n * size) = (lc cs z).take (n * size) := by
        rw [lc_take _ h2']
        unfold lc
        apply List.map_congr_left
        intro i hi
        rw [c3 i (by have := List.mem_range.1 hi; omega)]
      have e4 : (lc cs1 (n * size)).all oneC = true := lc_all (fun i hi => by rw [c3 i (by omega)]; exact w2 i (by omega))
      obtain ⟨r, H', F', f1, f2, f3, f4⟩ := grownQ_spec (m := n * size + m * size) hr2 hR e1 ⟨by rw [hcap]; exact c1, e2⟩ hx
      refine ⟨r, H', F', hl, ?_, f2, by have : F'.next = F.next + 1 := f3; omega, f4⟩
      have hrow : F.row ⟨q.num, 0, none⟩ (n * size) = some (lc cs1 (n * size)) := by
        simp only [FW.row, hr.cells (.inl hb), lc_length]
        rw [Nat.ble_eq_true_of_le (show 0 + n * size ≤ z by omega), cond_true, List.drop_zero, e3]
      simp only [hrow, hr.cells (.inl hb)]
      rw [show Nat.beq e' e' = true from by simp, cond_true, Nat.ble_eq_true_of_le (show (n + m) * bytes ≤ 140737488355328 from h1), e4, ha, Bool.and_self, Bool.and_self, cond_true, cond_false,
        Nat.ble_eq_true_of_le (hr.low q (by rw [hb]; rfl)), okN_num, blt_true h3, Bool.and_self, Bool.and_self, cond_true]
      exact f1

structure A2 where
  f : V → V → QH → (V → QH → Bool) → Bool
def A2.bad : A2 := ⟨fun _ _ _ _ => false⟩

def appC (P : Program) (t t' : TypeId) : A2 :=
  match P.underlying t, P.underlying t' with
  | some (.slice e), some td =>
    (match P.info? e, (match td with | .slice _ => true | .string => true | _ => false) with
    | some i, true =>
      (match zeroA P e with
      | some z => bif Nat.beq z.length i.size && (Nat.blt 0 i.size && Nat.blt 0 i.bytes) then
          ⟨fun s x H k => srcQ P e i.size x H fun m l => Bool.rec (motive := fun _ => Bool)
            (asL s (appNew e i.size i.bytes m l H k) fun q o n c => appTo e i.size i.bytes q o n c m l H k)
            (eq (Nat.mul 0 i.size) 0 (asC l (asL s (k s H) fun _ _ _ _ => k s H) fun _ _ => false)) (Nat.beq m 0)⟩ else .bad
      | none => .bad)
    | _, _ => .bad)
  | _, _ => .bad

theorem appendA_of {P : Program} {R : Nat} {t t' e : TypeId} {td : TypeDesc} {i : TypeInfo} {z news : List Value} {a u : Value} {F : FW} (ht : P.underlying t = some (.slice e)) (ht' : P.underlying t' = some td) (htd : (∃ e', td = .slice e') ∨ td = .string)
    (hi : P.info? e = some i) (hz : zeroA P e = some z) (hn : srcCells P F e i.size u = some news) :
    appendA P R t t' a u F = bif Nat.beq z.length i.size && (Nat.blt 0 i.size && (Nat.blt 0 i.bytes && Nat.beq news.length (lenV u * i.size))) then
          (match lenV u with
          | 0 => (match a with
            | .slice _ _ _ => some (a, F)
            | _ => none)
          | m + 1 => (match a with
            | .slice none 0 0 => bif Nat.ble ((m + 1) * i.bytes) 140737488355328 && news.all oneC then grownA F news e (m + 1) else none
            | .slice (some b) n c => appendTo R e i.size i.bytes b n c (m + 1) news F
            | _ => none))
        else none := by
  rcases htd with ⟨e', rfl⟩ | rfl
  · unfold appendA; simp only [ht, ht', hi, hz, hn]; rfl
  · unfold appendA; simp only [ht, ht', hi, hz, hn]; rfl

theorem appC_spec {R : Nat} {G : N5 QO} {P : Program} {t t' : TypeId} {s x : V} {a u : Value} {H : QH} {F : FW} {k : V → QH → Bool} (hr : HR R G H F) (hR : R ≤ F.next) (hs : VQ s a) (hx : VQ x u) (h : (appC P t t').f s x H k = true) :
    ∃ r v H' F', appendA P R t t' a u F = some (v, F') ∧ VQ r v ∧ HR R G H' F' ∧ F.next ≤ F'.next ∧ k r H' = true := by
  unfold appC at h
  split at h
  · rename_i e td ht ht'
    split at h
    · rename_i i hi htd
      have htd' : (∃ e', td = .slice e') ∨ td = .string := by
        cases td <;> first | exact .inl ⟨_, rfl⟩ | exact .inr rfl | cases htd
      split at h
      · rename_i z hz
        cases hc : (Nat.beq z.length i.size && (Nat.blt 0 i.size && Nat.blt 0 i.bytes)) with
        | false => rw [hc] at h; cases h
        | true =>
          rw [hc, cond_true] at h
          simp only [Bool.and_eq_true] at hc
          obtain ⟨c1, c2, c3⟩ := hc
          obtain ⟨m, l, h1, h2, h⟩ := srcQ_spec hr hx h
          cases hm : Nat.beq m 0 with
          | true =>
            rw [hm] at h
            have := Nat.eq_of_beq_eq_true hm
            subst this
            obtain ⟨_, h⟩ := eq_spec h
            rcases asC_spec h with ⟨rfl, h⟩ | ⟨_, _, _, h⟩
            · have hk : k s H = true ∧ ∃ p n c, a = .slice p n c := by
                rcases asL_spec h with ⟨rfl, h⟩ | ⟨q, o, n, c, rfl, h⟩
                · exact ⟨h, _, _, _, hs.eq (by simp)⟩
                · exact ⟨h, _, _, _, hs.eq (by simp)⟩
              obtain ⟨hk, p, n, c, ha⟩ := hk
              refine ⟨s, a, H, F, ?_, hs, hr, Nat.le_refl _, hk⟩
              rw [appendA_of ht ht' htd' hi hz h1, h2, c1, c2, c3, show decL V.nil = [] from rfl, ha, Nat.zero_mul]
              rfl
            · cases h
          | false =>
            rw [hm] at h
            have h' : asL s (appNew e i.size i.bytes m l H k) (fun q o n c => appTo e i.size i.bytes q o n c m l H k) = true := h
            have hpos : ∃ m', m = m' + 1 := by cases m with
              | zero => cases hm
              | succ m' => exact ⟨m', rfl⟩
            obtain ⟨m', rfl⟩ := hpos
            rcases asL_spec h' with ⟨rfl, g⟩ | ⟨q, o, n, c, rfl, g⟩
            · obtain ⟨r, H', F', g1, g2, g3, g4, g5⟩ := appNew_spec hr hR g
              refine ⟨r, _, H', F', ?_, .inr rfl, g3, by omega, g5⟩
              rw [hs.eq (by simp), show dec (.n 1) = Value.slice none 0 0 from rfl]
              rw [appendA_of ht ht' htd' hi hz h1, h2, c1, c2, c3, g1, show Nat.beq ((m' + 1) * i.size) ((m' + 1) * i.size) = true from by simp]
              exact g2
            · obtain ⟨r, H', F', g1, g2, g3, g4, g5⟩ := appTo_spec hr hR g
              refine ⟨r, _, H', F', ?_, .inr rfl, g3, g4, g5⟩
              rw [hs.eq (by simp), dec_l]
              rw [appendA_of ht ht' htd' hi hz h1, h2, c1, c2, c3, g1, show Nat.beq ((m' + 1) * i.size) ((m' + 1) * i.size) = true from by simp]
              exact g2
      · cases h
    · cases h
  · cases h

/-! Copying. -/

def copGo (size : Nat) (q : Pt) (o : Nat) (H : QH) (k : V → QH → Bool) (p : Nat) (l : V) : Bool :=
  le p 9223372036854775807 (lit (Nat.mul p size) fun w => blkW H q fun cs z e' => le (Nat.add o w) z (setsN w l cs o fun cs' => putQ H q (.c cs' z e') fun H' => k (.i p) H'))

theorem copGo_spec {R : Nat} {G : N5 QO} {size : Nat} {q : Pt} {o p : Nat} {l : V} {H : QH} {F : FW} {k : V → QH → Bool} (hr : HR R G H F) (h : copGo size q o H k p l = true) :
    ∃ H' F', (decL l).length = p * size ∧ F.lay R ⟨q.num, o, none⟩ (decL l) = some F' ∧ dec (.i p) = .int .i64 (.ofNat p) ∧ HR R G H' F' ∧ F.next ≤ F'.next ∧ k (.i p) H' = true := by
  obtain ⟨h0, h⟩ := le_spec h
  rw [lit_eq] at h
  obtain ⟨cs, z, e', hb, h⟩ := blkW_spec h
  obtain ⟨h5, h⟩ := le_spec h
  have h5' : o + p * size ≤ z := h5
  obtain ⟨w1, w2⟩ := hr.wfc (.inl hb)
  obtain ⟨cs', h, hcap, _, _, hl, ha, g1, g2⟩ := setsN_spec h (show o + p * size ≤ cs.cap by omega)
  rw [putQ_eq] at h
  obtain ⟨F', f1, f2⟩ := hr.lay (o := o) hb h5' hcap hl ha g1 g2
  refine ⟨_, F', hl, f1, dec_len h0, f2, ?_, h⟩
  have h1 : F'.next = H.x.num := f2.next
  rw [h1, ← hr.next]
  exact Nat.le_refl _

def copC (P : Program) (t : TypeId) : A2 :=
  match P.underlying t with
  | some (.slice e) => (match P.info? e with
    | some i => ⟨fun d x H k => srcQ P e i.size x H fun m l => asL d (k (.i 0) H) fun q o n _ => Bool.rec (motive := fun _ => Bool)
        (leo m n (copGo i.size q o H k m l) (lt n m (lenS l fun z => eq z (Nat.mul m i.size) (lit (Nat.mul n i.size) fun w => takeC w l fun l' => copGo i.size q o H k n l')))) (k (.i 0) H) (Nat.beq n 0)⟩
    | none => .bad)
  | _ => .bad

theorem srcCells_some {P : Program} {F : FW} {e s : Nat} {v : Value} {l : List Value} (h : srcCells P F e s v = some l) : (∃ a n c, v = .slice a n c) ∨ ∃ b, v = .string b := by
  unfold srcCells at h
  split at h
  · exact .inl ⟨_, _, _, rfl⟩
  · exact .inl ⟨_, _, _, rfl⟩
  · exact .inl ⟨_, _, _, rfl⟩
  · exact .inr ⟨_, rfl⟩
  · cases h

theorem copC_spec {R : Nat} {G : N5 QO} {P : Program} {t : TypeId} {d x : V} {a u : Value} {H : QH} {F : FW} {k : V → QH → Bool} (hr : HR R G H F) (hd : VQ d a) (hx : VQ x u) (h : (copC P t).f d x H k = true) :
    ∃ r v H' F', copyA P R t a u F = some (v, F') ∧ VQ r v ∧ HR R G H' F' ∧ F.next ≤ F'.next ∧ k r H' = true := by
  unfold copC at h
  split at h
  · rename_i e ht
    split at h
    · rename_i i hi
      obtain ⟨m, l, h1, h2, h⟩ := srcQ_spec hr hx h
      have none0 : ∀ {p : Option Addr} {c : Nat}, a = .slice p 0 c → copyA P R t a u F = some (.int .i64 (.ofNat 0), F) := by
        intro p c ha
        rw [ha]
        unfold copyA
        rcases srcCells_some h1 with ⟨b, n, c', rfl⟩ | ⟨b, rfl⟩
        · simp only [ht, hi]
        · simp only [ht, hi]
      rcases asL_spec h with ⟨rfl, g0⟩ | ⟨q, o, n, c, rfl, g0⟩
      · exact ⟨.i 0, _, H, F, none0 (hd.eq (by simp)), .inr (dec_len (by omega)).symm, hr, Nat.le_refl _, g0⟩
      · clear h
        have h := g0
        cases hn : Nat.beq n 0 with
        | true =>
          rw [hn] at h
          have := Nat.eq_of_beq_eq_true hn
          subst this
          exact ⟨.i 0, _, H, F, none0 (hd.eq (by simp)), .inr (dec_len (by omega)).symm, hr, Nat.le_refl _, h⟩
        | false =>
          rw [hn] at h
          have h' : leo m n (copGo i.size q o H k m l) (lt n m (lenS l fun z => eq z (Nat.mul m i.size) (lit (Nat.mul n i.size) fun w => takeC w l fun l' => copGo i.size q o H k n l'))) = true := h
          have hpos : ∃ n', n = n' + 1 := by cases n with
            | zero => cases hn
            | succ n' => exact ⟨n', rfl⟩
          obtain ⟨n', rfl⟩ := hpos
          rw [hd.eq (by simp), dec_l]
          unfold copyA
          simp only [ht, hi, h1, h2]
          rcases leo_spec h' with ⟨h4, g⟩ | g
          · obtain ⟨H', F', g1, g2, g3, g4, g5, g6⟩ := copGo_spec hr g
            refine ⟨.i m, _, H', F', ?_, .inr g3.symm, g4, g5, g6⟩
            rw [g1, show Nat.beq (m * i.size) (m * i.size) = true from by simp, cond_true, Nat.min_eq_left h4, List.take_of_length_le (by omega), g2]
          · obtain ⟨h4, g⟩ := lt_spec g
            obtain ⟨_, _, g⟩ := lenS_spec g
            obtain ⟨h5, g⟩ := eq_spec g
            rw [lit_eq] at g
            obtain ⟨l', e1, _, _, e2, g⟩ := takeC_spec g
            obtain ⟨H', F', g1, g2, g3, g4, g5, g6⟩ := copGo_spec hr g
            have hlen : Nat.beq (decL l).length (m * i.size) = true := by
              have : (decL l).length = m * i.size := h5
              rw [this]; simp
            refine ⟨.i (n' + 1), _, H', F', ?_, .inr g3.symm, g4, g5, g6⟩
            rw [hlen, cond_true, Nat.min_eq_right (by omega), show (n' + 1) * i.size = Nat.mul (n' + 1) i.size from rfl, ← e1, g2]
    · cases h
  · cases h

/-! Along a text. -/

def rblk (H : QH) (q : Pt) (k : Nat → Nat → Nat → Bool) : Bool :=
  QH.rec (motive := fun _ => Bool) (fun r _ _ _ => hget r q fun ob => QO.rec (motive := fun _ => Bool) false (fun _ _ _ => false) (fun _ _ => false) k false (fun _ _ _ => false) ob) H

theorem rblk_spec {H : QH} {q : Pt} {k : Nat → Nat → Nat → Bool} (h : rblk H q k = true) : ∃ l n p, hg H.r q = .r l n p ∧ k l n p = true := by
  obtain ⟨r, x, jj, ff⟩ := H
  have h' : QO.rec (motive := fun _ => Bool) false (fun _ _ _ => false) (fun _ _ => false) k false (fun _ _ _ => false) (hg r q) = true := h
  show ∃ l n p, hg r q = .r l n p ∧ k l n p = true
  generalize hg r q = ob at *
  cases ob <;> first | exact ⟨_, _, _, rfl, h'⟩ | cases h'

def nextC : A2 := ⟨fun it _ H k => asP it fun q o => eq o 0 (rblk H q fun l n p => ltb p l
  (le p 9223372036854775807 (match Utf8.decode ⟨⟨bytesN l n⟩⟩ p with
    | (c, w) => putQ H q (.r l n (p + w)) fun H' => k (.t (.cons (.b true) (.cons (.i p) (.cons (.z .i32 c) .nil)))) H'))
  (k (.t (.cons (.b false) .nil)) H))⟩

theorem nextC_spec {R : Nat} {G : N5 QO} {it x : V} {a : Value} {H : QH} {F : FW} {k : V → QH → Bool} (hr : HR R G H F) (hi : VQ it a) (h : nextC.f it x H k = true) :
    ∃ r v H' F', nextA R a true F = some (v, F') ∧ VQ r v ∧ HR R G H' F' ∧ F.next ≤ F'.next ∧ k r H' = true := by
  obtain ⟨q, o, rfl, h⟩ := asP_spec h
  obtain ⟨rfl, h⟩ := eq_spec h
  obtain ⟨l, n, p, hb, h⟩ := rblk_spec h
  have hq := hr.objs q
  rw [hb] at hq
  have hq' : F.heap.get q.num = some (.iter ⟨⟨bytesN l n⟩⟩ p) := hq
  have hlow : Nat.ble R q.num = true := Nat.ble_eq_true_of_le (hr.low q (by rw [hb]; rfl))
  rw [hi.eq (by simp), dec_p]
  unfold nextA
  simp only [hq', hlow, okN_num, Bool.and_self, cond_true, bytesN_length]
  rcases ltb_spec h with ⟨h1, h⟩ | ⟨h1, h⟩
  · obtain ⟨h2, h⟩ := le_spec h
    rw [blt_true h1, cond_true]
    generalize Utf8.decode ⟨⟨bytesN l n⟩⟩ p = cw at *
    obtain ⟨c, w⟩ := cw
    have h' : putQ H q (.r l n (p + w)) (fun H' => k (.t (.cons (.b true) (.cons (.i p) (.cons (.z .i32 c) .nil)))) H') = true := h
    rw [putQ_eq] at h'
    refine ⟨_, _, _, _, rfl, .inr ?_, hr.put hb rfl (ob := .r l n (p + w)) rfl trivial, Nat.le_refl _, h'⟩
    show Value.tuple ⟨[.bool true, .int .i64 (.ofNat p), .int .i32 c]⟩ = Value.tuple ⟨[.bool true, dec (.i p), .int .i32 c]⟩
    rw [dec_len h2]
  · have : Nat.blt p l = false := by
      cases hb : Nat.blt p l with
      | false => rfl
      | true => rw [Nat.blt_eq] at hb; exact absurd hb h1
    rw [this, cond_false]
    exact ⟨_, _, H, F, rfl, .inr rfl, hr, Nat.le_refl _, h⟩

end
end Go.Qm
