/- The quick machine's operations that look: conversions, slices, lengths, maps, aggregates that are built. No conditions. -/
import Derived.Test.YthmkdcclmaoonaaDoorQ6
set_option linter.unusedVariables false
set_option linter.unusedSimpArgs false
set_option linter.unusedSectionVars false
set_option linter.constructorNameAsVariable false
namespace Go.Qm
open Go.Am
noncomputable section
variable [Rho]

/-! Conversions. -/

/-- The bytes of cells, as one number. -/
def catK (cs : Cs V) (m : Nat) : Nat → (Nat → Bool) → Bool :=
  Nat.rec (motive := fun _ => Nat → (Nat → Bool) → Bool) (fun _ k => k 0) (fun _ ih o k => ih (Nat.succ o) fun t =>
    V.rec (motive := fun _ => Bool) false (fun _ => false) (fun b => lit (Nat.add (Nat.mod b 256) (Nat.mul 256 t)) k) (fun _ _ => false) (fun _ => false) (fun _ _ => false) (fun _ _ => false) (fun _ _ _ _ => false) (fun _ => false) (fun _ => false) (fun _ _ _ _ _ => false) (fun _ _ _ => false) false (fun _ _ _ _ => false) (fun _ _ => false) (fun _ _ => false) (cget cs o)) m

theorem catK_spec {cs : Cs V} {n : Nat} : ∀ {m o : Nat} {k : Nat → Bool}, catK cs m o k = true → o + m ≤ n → ∃ t, bytesOf (((lc cs n).drop o).take m) = some (bytesN m t) ∧ k t = true
  | 0, o, k, h, _ => ⟨0, by rw [List.take_zero]; rfl, h⟩
  | m + 1, o, k, h, ho => by
    obtain ⟨t, h1, h2⟩ := catK_spec (cs := cs) (n := n) (m := m) (o := Nat.succ o) h (by rw [Nat.succ_eq_add_one]; omega)
    have hg : (lc cs n)[o]? = some (dec (cget cs o)) := lc_get cs (by omega)
    have e : (lc cs n).drop o = dec (cget cs o) :: (lc cs n).drop (o + 1) := by
      rw [List.drop_eq_getElem?_toList_append, hg]; rfl
    generalize cget cs o = x at *
    cases x <;> first | (cases h2; done) | skip
    rename_i b
    have h3 : lit (Nat.add (Nat.mod b 256) (Nat.mul 256 t)) k = true := h2
    rw [lit_eq] at h3
    refine ⟨_, ?_, h3⟩
    rw [e, List.take_succ_cons]
    show (match bytesOf (((lc cs n).drop (o + 1)).take m) with | some l => some (UInt8.ofNat (Int.ofNat b).toNat :: l) | none => none) = _
    rw [show ((lc cs n).drop (o + 1)).take m = ((lc cs n).drop (Nat.succ o)).take m from rfl, h1]
    show some (UInt8.ofNat b :: bytesN m t) = some (UInt8.ofNat ((b % 256 + 256 * t) % 256) :: bytesN m ((b % 256 + 256 * t) / 256))
    have e1 : (b % 256 + 256 * t) % 256 = b % 256 := by omega
    have e2 : (b % 256 + 256 * t) / 256 = t := by omega
    rw [e1, e2]
    have : UInt8.ofNat (b % 256) = UInt8.ofNat b := by
      apply UInt8.toNat_inj.1
      simp
    rw [this]

def convI (k : IntKind) : F1 :=
  match k with
  | .i64 => ⟨fun x c => V.rec (motive := fun _ => Bool) false (fun _ => c x) (fun n => c (.i n)) (fun k n => fall1 (fun v => match v with | .int _ n => some (.int .i64 (wrapF .i64 n)) | _ => none) x c) (fun _ => false) (fun _ _ => false) (fun _ _ => false) (fun _ _ _ _ => false) (fun _ => false) (fun _ => false) (fun _ _ _ _ _ => false) (fun _ _ _ => false) false (fun _ _ _ _ => false) (fun _ _ => false) (fun _ _ => false) x⟩
  | .u8 => ⟨fun x c => V.rec (motive := fun _ => Bool) false (fun n => lit (Nat.mod n 256) fun r => c (.y r)) (fun n => lit (Nat.mod n 256) fun r => c (.y r)) (fun k n => fall1 (fun v => match v with | .int _ n => some (.int .u8 (wrapF .u8 n)) | _ => none) x c) (fun _ => false) (fun _ _ => false) (fun _ _ => false) (fun _ _ _ _ => false) (fun _ => false) (fun _ => false) (fun _ _ _ _ _ => false) (fun _ _ _ => false) false (fun _ _ _ _ => false) (fun _ _ => false) (fun _ _ => false) x⟩
  | k => ⟨fun x c => fall1 (fun v => match v with | .int _ n => some (.int k (wrapF k n)) | _ => none) x c⟩

theorem wrap_sg (n : Nat) : IntKind.i64.wrap (sg n) = sg n := by rw [wrap64_eq]; unfold sg; omega
theorem wrap_nat (n : Nat) : IntKind.i64.wrap (Int.ofNat n) = sg n := by rw [wrap64_eq, show Int.ofNat n = (n : Int) from rfl]; unfold sg; omega
theorem wrap8_eq (z : Int) : IntKind.u8.wrap z = z % 256 := rfl

theorem convI_spec {kd : IntKind} {x : V} {a : Value} {k : V → Bool} (hx : VQ x a) (h : (convI kd).f x k = true) : ∃ r k' n, a = .int k' n ∧ Value.int kd (wrapF kd n) = dec r ∧ k r = true := by
  have fb : ∀ {kd : IntKind}, fall1 (fun v => match v with | .int _ n => some (.int kd (wrapF kd n)) | _ => none) x k = true → ∃ r k' n, a = .int k' n ∧ Value.int kd (wrapF kd n) = dec r ∧ k r = true := by
    intro kd h
    obtain ⟨r, h1, h2⟩ := fall1_spec hx h
    split at h1
    · rename_i k' n
      simp only [Option.some.injEq] at h1
      exact ⟨r, k', n, rfl, h1, h2⟩
    · cases h1
  unfold convI at h
  split at h
  · cases x <;> first | (cases h; done) | skip
    · rename_i n
      have h2 : k (.i n) = true := h
      refine ⟨.i n, .i64, sg n, hx.eq (by simp), ?_, h2⟩
      rw [wrapF_eq, dec_i, wrap_sg]
    · rename_i n
      have h2 : k (.i n) = true := h
      refine ⟨.i n, .u8, .ofNat n, hx.eq (by simp), ?_, h2⟩
      rw [wrapF_eq, dec_i, wrap_nat]
    · exact fb h
  · cases x <;> first | (cases h; done) | skip
    · rename_i n
      have h2 : lit (Nat.mod n 256) (fun r => k (.y r)) = true := h
      rw [lit_eq] at h2
      refine ⟨_, _, _, hx.eq (by simp), ?_, h2⟩
      rw [wrapF_eq, wrap8_eq]
      show Value.int .u8 (sg n % 256) = Value.int .u8 ((n % 256 : Nat) : Int)
      have e : sg n % 256 = ((n % 256 : Nat) : Int) := by unfold sg; omega
      rw [e]
    · rename_i n
      have h2 : lit (Nat.mod n 256) (fun r => k (.y r)) = true := h
      rw [lit_eq] at h2
      refine ⟨_, _, _, hx.eq (by simp), ?_, h2⟩
      rw [wrapF_eq, wrap8_eq]
      rfl
    · exact fb h
  · exact fb h

def convC (P : Program) (src dst : TypeId) : H1 :=
  match P.underlying src, P.underlying dst with
  | some (.int _), some (.int k) => ⟨fun x _ c => isq x (toSy x fun _ a => toPo a (fun n l => mkPo k n l c (c (.q (.i k) (.cv k a)))) (c (.q (.i k) (.cv k a)))) ((convI k).f x c)⟩
  | some .string, some .string => ⟨fun x _ c => isq x (toSt x fun _ => c x) (asS x fun _ _ => c x)⟩
  | some (.slice e), some .string => (match P.underlying e with
    | some (.int .u8) => ⟨fun x H c => asL x (c (.s 0 0)) fun q o n _ => blk H q fun cs m _ => le (Nat.add o n) m (catK cs n o fun t => c (.s n t))⟩
    | _ => .bad)
  | _, _ => .bad

theorem convC_spec {R : Nat} {G : N5 QO} {P : Program} {s d : TypeId} {x : V} {a : Value} {H : QH} {F : FW} {k : V → Bool} (hr : HR R G H F) (hx : VQ x a) (h : (convC P s d).f x H k = true) : ∃ r, convA P s d a F = some (dec r) ∧ k r = true := by
  unfold convC at h
  split at h
  · rename_i k1 k2 hs hd
    rcases isq_spec h with h | h
    · obtain ⟨kk, a, h1, h2, h⟩ := toSy_spec h
      rw [hx.eq h2, h1]
      have gen : k (.q (.i k2) (.cv k2 a)) = true → ∃ r, convA P s d (.int kk (iv a)) F = some (dec r) ∧ k r = true := by
        intro h
        refine ⟨_, ?_, h⟩
        unfold convA
        simp only [hs, hd]
        rfl
      rcases toPo_spec h with ⟨n, l, h3, h⟩ | h
      · rcases mkPo_spec h with ⟨r, h4, h5, h⟩ | h
        · refine ⟨r, ?_, h⟩
          unfold convA
          simp only [hs, hd, h3]
          rw [wrap_lim h4, h5]
        · exact gen h
      · exact gen h
    obtain ⟨r, k', n, h1, h2, h3⟩ := convI_spec hx h
    refine ⟨r, ?_, h3⟩
    subst h1
    unfold convA
    simp only [hs, hd]
    rw [h2]
  · rename_i hs hd
    rcases isq_spec h with h | h
    · obtain ⟨t, h1, h2, h⟩ := toSt_spec h
      refine ⟨_, ?_, h⟩
      rw [hx.eq h2, h1]
      unfold convA
      simp only [hs, hd]
    obtain ⟨l, n, rfl, g⟩ := asS_spec h
    refine ⟨_, ?_, g⟩
    rw [hx.eq (by simp)]
    unfold convA
    simp only [hs, hd, dec_s]
  · rename_i e hs hd
    split at h
    · rename_i he
      rcases asL_spec h with ⟨rfl, g⟩ | ⟨q, o, n, c, rfl, g⟩
      · refine ⟨_, ?_, g⟩
        rw [hx.eq (by simp), show dec (.n 1) = Value.slice none 0 0 from rfl]
        unfold convA
        simp only [hs, hd, he]
        rfl
      · clear h
        obtain ⟨cs, m, e', hb, h⟩ := blk_spec g
        obtain ⟨ho, h⟩ := le_spec h
        obtain ⟨t, h1, h⟩ := catK_spec (n := m) h ho
        refine ⟨_, ?_, h⟩
        rw [hx.eq (by simp), dec_l]
        unfold convA
        simp only [hs, hd, he]
        have : F.row ⟨q.num, o, none⟩ n = some (((lc cs m).drop o).take n) := by
          simp only [FW.row, hr.cells hb, lc_length]
          rw [Nat.ble_eq_true_of_le (show o + n ≤ m from ho)]
          rfl
        rw [this]
        simp only [h1]
        rfl
    · cases h
  · cases h

/-! Slices. -/

/-- A bound, or what stands for it. -/
def bndQ (d : Nat) (x : Option V) (k : Nat → Bool) : Bool :=
  match x with
  | none => k d
  | some x => asX x k

theorem bndQ_spec {d : Nat} {x : Option V} {a : Option Value} {k : Nat → Bool} (hx : ∀ v, x = some v → ∃ u, a = some u ∧ VQ v u) (hn : x = none → a = none) (h : bndQ d x k = true) : ∃ n, boundOf d a = some n ∧ k n = true := by
  cases x with
  | none => exact ⟨d, by rw [hn rfl]; rfl, h⟩
  | some x =>
    obtain ⟨u, hu, hv⟩ := hx x rfl
    obtain ⟨n, kd, hb, hd, h⟩ := asX_spec h
    refine ⟨n, ?_, h⟩
    rw [hu, hv.eq hb, hd]
    rfl

def sliceSQ (P : Program) (H : QH) (w : Nat) (q : Pt) (o c l h : Nat) (k : V → Bool) : Bool :=
  le l h (le h (Nat.div c 2) (ltb l (Nat.div c 2)
    (Bool.rec (motive := fun _ => Bool) (Bool.rec (motive := fun _ => Bool) (blk H q fun _ _ e => Bool.rec (motive := fun _ => Bool) false (lit (Nat.add o (Nat.mul l w)) fun a => lit (Nat.sub h l) fun b => lit (Nat.sub c (Nat.mul 2 l)) fun d => k (.l q a b d)) (szOk P e w)) (k (.l q o h c)) (Nat.beq l 0))
      (lit (Nat.add o (Nat.mul l w)) fun a => lit (Nat.sub h l) fun b => lit (Nat.sub c (Nat.mul 2 l)) fun d => k (.l q a b d)) (Nat.beq (Nat.mod c 2) 0))
    (Bool.rec (motive := fun _ => Bool) (k (.l q o 0 1)) (k (.l q o 0 0)) (Nat.beq (Nat.mod c 2) 0))))

theorem sliceSQ_spec {R : Nat} {G : N5 QO} {P : Program} {H : QH} {F : FW} (hr : HR R G H F) {w : Nat} {q : Pt} {o c l h : Nat} {k : V → Bool} (hk : sliceSQ P H w q o c l h k = true) : ∃ r, sliceS P F w ⟨q.num, o, none⟩ c l h = some (dec r) ∧ k r = true := by
  obtain ⟨h1, hk⟩ := le_spec hk
  obtain ⟨h2, hk⟩ := le_spec hk
  have h2' : h ≤ c / 2 := h2
  unfold sliceS
  rw [Nat.ble_eq_true_of_le h1, Nat.ble_eq_true_of_le h2', Option.isNone_none, Bool.and_self, Bool.and_self, cond_true]
  rcases ltb_spec hk with ⟨h3, hk⟩ | ⟨h3, hk⟩
  · have h3' : l < c / 2 := h3
    rw [blt_true h3', cond_true]
    cases he : Nat.beq (Nat.mod c 2) 0 with
    | true =>
      rw [he] at hk
      have hk2 : lit (Nat.add o (Nat.mul l w)) (fun a => lit (Nat.sub h l) fun b => lit (Nat.sub c (Nat.mul 2 l)) fun d => k (.l q a b d)) = true := hk
      simp only [lit_eq] at hk2
      refine ⟨_, ?_, hk2⟩
      rw [Bool.true_or, cond_true]
      rfl
    | false =>
      rw [he] at hk
      rw [Bool.false_or]
      cases hl : Nat.beq l 0 with
      | true =>
        rw [hl] at hk
        have hk2 : k (.l q o h c) = true := hk
        have := Nat.eq_of_beq_eq_true hl
        subst this
        refine ⟨_, ?_, hk2⟩
        rw [Bool.true_or, cond_true]
        show some (Value.slice (some ⟨q.num, o + 0 * w, none⟩) (h - 0) (c - 2 * 0)) = some (dec (.l q o h c))
        rw [Nat.zero_mul]
        rfl
      | false =>
        rw [hl] at hk
        obtain ⟨cs, n, e, hb, hk⟩ := blk_spec (k := fun _ _ e => Bool.rec (motive := fun _ => Bool) false (lit (Nat.add o (Nat.mul l w)) fun a => lit (Nat.sub h l) fun b => lit (Nat.sub c (Nat.mul 2 l)) fun d => k (.l q a b d)) (szOk P e w)) hk
        have hw : wdOk P F q.num w = szOk P e w := by
          have := hr.cells hb
          unfold wdOk
          unfold FW.cells at this
          split at this
          · simp only [Option.some.injEq, Prod.mk.injEq] at this
            rw [this.2]
          · cases this
        cases hz : szOk P e w with
        | false => simp only [hz] at hk; cases hk
        | true =>
          simp only [hz, lit_eq] at hk
          refine ⟨_, ?_, hk⟩
          rw [Bool.false_or, hw, hz, cond_true]
          rfl
  · have h3' : ¬ l < c / 2 := h3
    have : Nat.blt l (c / 2) = false := by
      cases hb : Nat.blt l (c / 2) with
      | false => rfl
      | true => rw [Nat.blt_eq] at hb; exact absurd hb h3'
    rw [this, cond_false]
    cases he : Nat.beq (Nat.mod c 2) 0 with
    | true =>
      rw [he] at hk
      exact ⟨.l q o 0 0, by rw [cond_true]; rfl, hk⟩
    | false =>
      rw [he] at hk
      exact ⟨.l q o 0 1, by rw [cond_false]; rfl, hk⟩

def sliceMQ (w : Nat) (q : Pt) (o c l h m : Nat) (k : V → Bool) : Bool :=
  le l h (le h m (le m (Nat.div c 2) (Bool.rec (motive := fun _ => Bool) (lit (Nat.sub h l) fun b => lit (Nat.mul 2 (Nat.sub m l)) fun d =>
    Bool.rec (motive := fun _ => Bool) (lit (Nat.add o (Nat.mul l w)) fun a => k (.l q a b d)) (k (.l q o b d)) (Nat.beq m l)) false (Nat.beq c 1))))

theorem sliceMQ_spec {w : Nat} {q : Pt} {o c l h m : Nat} {k : V → Bool} (hk : sliceMQ w q o c l h m k = true) : ∃ r, sliceM w ⟨q.num, o, none⟩ c l h m = some (dec r) ∧ k r = true := by
  obtain ⟨h1, hk⟩ := le_spec hk
  obtain ⟨h2, hk⟩ := le_spec hk
  obtain ⟨h3, hk⟩ := le_spec hk
  have h3' : m ≤ c / 2 := h3
  unfold sliceM
  rw [Nat.ble_eq_true_of_le h1, Nat.ble_eq_true_of_le h2, Nat.ble_eq_true_of_le h3', Option.isNone_none]
  cases hc : Nat.beq c 1 with
  | true => rw [hc] at hk; cases hk
  | false =>
    rw [hc] at hk
    have hk2 : lit (Nat.sub h l) (fun b => lit (Nat.mul 2 (Nat.sub m l)) fun d =>
      Bool.rec (motive := fun _ => Bool) (lit (Nat.add o (Nat.mul l w)) fun a => k (.l q a b d)) (k (.l q o b d)) (Nat.beq m l)) = true := hk
    simp only [lit_eq] at hk2
    rw [Bool.not_false, Bool.and_self, Bool.and_self, Bool.and_self, Bool.and_self, cond_true]
    cases hm : Nat.beq m l with
    | true =>
      rw [hm] at hk2
      exact ⟨_, by rw [cond_true]; rfl, hk2⟩
    | false =>
      rw [hm] at hk2
      exact ⟨_, by rw [cond_false]; rfl, hk2⟩

/-! Parts of texts of known length. -/

def takeT (n : Nat) : Tx → Tx := Nat.rec (motive := fun _ => Tx → Tx) (fun _ => .nil) (fun _ ih t => Tx.rec (motive := fun _ => Tx) .nil (fun c l r _ => .cons c l (ih r)) t) n
theorem takeT_spec : ∀ (n : Nat) (t : Tx), txv (takeT n t) = (txv t).take n
  | 0, t => by rw [List.take_zero]; rfl
  | n + 1, .nil => rfl
  | n + 1, .cons c l r => by
    show _ :: txv (takeT n r) = _ :: (txv r).take n
    rw [takeT_spec n r]
def dropT (n : Nat) : Tx → Tx := Nat.rec (motive := fun _ => Tx → Tx) (fun t => t) (fun _ ih t => Tx.rec (motive := fun _ => Tx) .nil (fun _ _ r _ => ih r) t) n
theorem dropT_spec : ∀ (n : Nat) (t : Tx), txv (dropT n t) = (txv t).drop n
  | 0, t => rfl
  | n + 1, .nil => rfl
  | n + 1, .cons c l r => dropT_spec n r

/-- Bytes that follow one another. -/
def runN (l : Nat) : Nat → Nat → Bool := Nat.rec (motive := fun _ => Nat → Nat → Bool) (fun _ _ => true) (fun _ ih n b => Bool.rec (motive := fun _ => Bool) false (ih (Nat.div n 256) (Nat.succ b)) (Nat.beq (Nat.mod n 256) b)) l
theorem runN_spec : ∀ {l n b : Nat}, runN l n b = true → ∀ i, i < l → (bytesN l n)[i]? = some (UInt8.ofNat (b + i))
  | 0, _, _, _, _, h => by omega
  | l + 1, n, b, h, i, hi => by
    have h' : Bool.rec (motive := fun _ => Bool) false (runN l (n / 256) (b + 1)) (Nat.beq (n % 256) b) = true := h
    cases hb : Nat.beq (n % 256) b with
    | false => rw [hb] at h'; cases h'
    | true =>
      rw [hb] at h'
      have e := Nat.eq_of_beq_eq_true hb
      cases i with
      | zero =>
        show (UInt8.ofNat (n % 256) :: bytesN l (n / 256))[0]? = _
        rw [e]
        rfl
      | succ i =>
        show (UInt8.ofNat (n % 256) :: bytesN l (n / 256))[i + 1]? = _
        rw [List.getElem?_cons_succ, runN_spec h' i (by omega), show b + 1 + i = b + (i + 1) by omega]

def issO (x : Option V) (s o : Bool) : Bool :=
  match x with
  | none => o
  | some x => isq x s o
theorem issO_spec {x : Option V} {s o : Bool} (h : issO x s o = true) : s = true ∨ o = true := by
  cases x with
  | none => exact .inr h
  | some x => exact isq_spec h

/-- One byte of a text of bytes that follow one another, at a place that is not known. -/
def sliP (l n : Nat) (lo hi : Option V) (k : V → Bool) : Bool :=
  match lo, hi with
  | some x, some y => toSy x fun _ a => toSy y fun _ b => toPo a (fun c1 l1 => toPo b (fun c2 l2 =>
      eq (Nat.succ c1) c2 (Bool.rec (motive := fun _ => Bool) false (lt (Nat.add c1 (topD l1)) l (Bool.rec (motive := fun _ => Bool) false (lit (Nat.add (Nat.mod n 256) c1) fun c => k (.q .s (.tx (.cons c l1 .nil)))) (runN l n (Nat.mod n 256)))) (syq (.po 0 l1) (.po 0 l2)))) false) false
  | _, _ => false

theorem sliP_spec {l n : Nat} {lo hi : Option V} {lo' hi' : Option Value} {k : V → Bool} (hlo : ∀ v, lo = some v → ∃ u, lo' = some u ∧ VQ v u) (hhi : ∀ v, hi = some v → ∃ u, hi' = some u ∧ VQ v u) (h : sliP l n lo hi k = true) :
    ∃ a b r, boundOf 0 lo' = some a ∧ boundOf l hi' = some b ∧ a ≤ b ∧ b ≤ l ∧ ((bytesN l n).drop a).take (b - a) = sv r ∧ k (.q .s r) = true := by
  unfold sliP at h
  split at h
  · rename_i x y
    obtain ⟨u, rfl, hu⟩ := hlo x rfl
    obtain ⟨w, rfl, hw⟩ := hhi y rfl
    obtain ⟨k1, a, h1, h2, h⟩ := toSy_spec h
    obtain ⟨k2, b, h3, h4, h⟩ := toSy_spec h
    rcases toPo_spec h with ⟨c1, l1, h5, h⟩ | h
    · rcases toPo_spec h with ⟨c2, l2, h6, h⟩ | h
      · obtain ⟨e, h⟩ := eq_spec h
        cases hs : syq (.po 0 l1) (.po 0 l2) with
        | false => rw [hs] at h; cases h
        | true =>
          rw [hs] at h
          have h : lt (Nat.add c1 (topD l1)) l (Bool.rec (motive := fun _ => Bool) false (lit (Nat.add (Nat.mod n 256) c1) fun c => k (.q .s (.tx (.cons c l1 .nil)))) (runN l n (Nat.mod n 256))) = true := h
          obtain ⟨hl, h⟩ := lt_spec h
          cases hn : runN l n (Nat.mod n 256) with
          | false => rw [hn] at h; cases h
          | true =>
            rw [hn] at h
            have h : lit (Nat.add (Nat.mod n 256) c1) (fun c => k (.q .s (.tx (.cons c l1 .nil)))) = true := h
            rw [lit_eq] at h
            have hk := h
            have ed := syq_spec hs
            simp only [Sy.po.injEq, true_and] at ed
            subst ed
            have hl : c1 + topD l1 < l := hl
            have ht := topD_spec l1
            refine ⟨c1 + dgv l1, c1 + dgv l1 + 1, _, ?_, ?_, by omega, by omega, ?_, hk⟩
            · rw [hu.eq h2, h1, h5]; rfl
            · rw [hw.eq h4, h3, h6, ← e, show Nat.succ c1 + dgv l1 = c1 + dgv l1 + 1 by omega]; rfl
            · rw [show c1 + dgv l1 + 1 - (c1 + dgv l1) = 1 by omega]
              have g := runN_spec hn (c1 + dgv l1) (by omega)
              show _ = [UInt8.ofNat (n % 256 + c1 + dgv l1)]
              rw [List.drop_eq_getElem?_toList_append, g]
              show [UInt8.ofNat (n % 256 + (c1 + dgv l1))] = _
              rw [Nat.add_assoc]
      · cases h
    · cases h
  · cases h

def sliT (t : Tx) (lo hi : Option V) (k : V → Bool) : Bool := bndQ 0 lo fun a => bndQ (lenT t) hi fun b => le a b (le b (lenT t) (txK (takeT (Nat.sub b a) (dropT a t)) fun r => k (.q .s (.tx r))))

structure S1 where
  f : V → Option V → Option V → Option V → QH → (V → Bool) → Bool
def S1.bad : S1 := ⟨fun _ _ _ _ _ _ => false⟩

def sliceC (P : Program) (t : TypeId) : S1 :=
  match P.underlying t with
  | some .string => ⟨fun x lo hi mx _ k => match mx with
    | none => isq x (toSt x fun t => toTx t (fun t => sliT t lo hi k) false) <| asS x fun l n => issO lo (sliP l n lo hi k) <| bndQ 0 lo fun a => bndQ l hi fun b => le a b (le b l (lit (Nat.sub b a) fun d => lit (Nat.mod (Nat.div n (Nat.pow 256 a)) (Nat.pow 256 d)) fun r => k (.s d r)))
    | some _ => false⟩
  | some (.slice e) => (match P.info? e with
    | some i => ⟨fun x lo hi mx H k => asL x
        (match mx with
        | none => bndQ 0 lo fun a => bndQ 0 hi fun b => eq a 0 (eq b 0 (k (.n 1)))
        | some _ => false)
        fun q o n c => bndQ 0 lo fun a => bndQ n hi fun b => (match mx with
        | none => sliceSQ P H i.size q o c a b k
        | some m => (match hi with
          | some _ => asX m fun m => sliceMQ i.size q o c a b m k
          | none => false))⟩
    | none => .bad)
  | some (.array n e) => (match P.info? e with
    | some i => bif Nat.ble n 1000000 then ⟨fun x lo hi mx H k => match mx with
      | none => asP x fun q o => bndQ 0 lo fun a => bndQ n hi fun b => sliceSQ P H i.size q o (Nat.mul 2 n) a b k
      | some _ => false⟩ else .bad
    | none => .bad)
  | _ => .bad

/-- An operand that may be there. -/
def OV (x : Option V) (a : Option Value) : Prop := (∀ v, x = some v → ∃ u, a = some u ∧ VQ v u) ∧ (x = none → a = none)

theorem sliceC_spec {R : Nat} {G : N5 QO} {P : Program} {t : TypeId} {x : V} {lo hi mx : Option V} {a : Value} {lo' hi' mx' : Option Value} {H : QH} {F : FW} {k : V → Bool} (hr : HR R G H F) (hx : VQ x a) (hlo : OV lo lo') (hhi : OV hi hi') (hmx : OV mx mx') (h : (sliceC P t).f x lo hi mx H k = true) :
    ∃ r, sliceA P t a lo' hi' mx' F = some (dec r) ∧ k r = true := by
  unfold sliceC at h
  split at h
  · rename_i hs
    cases mx with
    | some _ => cases h
    | none =>
      obtain rfl := hmx.2 rfl
      rcases isq_spec h with h | h
      · obtain ⟨w, g1, g2, h⟩ := toSt_spec h
        rcases toTx_spec h with ⟨w2, g3, h⟩ | h
        · obtain ⟨p, hp, h⟩ := bndQ_spec hlo.1 hlo.2 h
          obtain ⟨q, hq, h⟩ := bndQ_spec hhi.1 hhi.2 h
          obtain ⟨h1, h⟩ := le_spec h
          obtain ⟨h2, h⟩ := le_spec h
          rw [txK_eq] at h
          refine ⟨_, ?_, h⟩
          rw [hx.eq g2, g1]
          unfold sliceA
          have hle := lenT_spec w2
          simp only [hs, hp, g3, hle, hq, Nat.ble_eq_true_of_le h1, Nat.ble_eq_true_of_le h2, Bool.and_self, cond_true]
          show some (Value.string ⟨⟨((txv w2).drop p).take (q - p)⟩⟩) = some (Value.string ⟨⟨txv (takeT (q - p) (dropT p w2))⟩⟩)
          rw [takeT_spec, dropT_spec]
        · cases h
      obtain ⟨l, n, rfl, g⟩ := asS_spec h
      clear h
      rcases issO_spec g with g | g
      · obtain ⟨p, q, r, hp, hq, h1, h2, h3, h⟩ := sliP_spec hlo.1 hhi.1 g
        refine ⟨_, ?_, h⟩
        rw [hx.eq (by simp), dec_s]
        unfold sliceA
        simp only [hs, hp, bytesN_length, hq, Nat.ble_eq_true_of_le h1, Nat.ble_eq_true_of_le h2, Bool.and_self, cond_true, h3]
        rfl
      obtain ⟨p, hp, h⟩ := bndQ_spec hlo.1 hlo.2 g
      obtain ⟨q, hq, h⟩ := bndQ_spec hhi.1 hhi.2 h
      obtain ⟨h1, h⟩ := le_spec h
      obtain ⟨h2, h⟩ := le_spec h
      simp only [lit_eq] at h
      refine ⟨_, ?_, h⟩
      rw [hx.eq (by simp), dec_s]
      unfold sliceA
      simp only [hs, hp, bytesN_length, hq, Nat.ble_eq_true_of_le h1, Nat.ble_eq_true_of_le h2, Bool.and_self, cond_true]
      show some (Value.string ⟨⟨((bytesN l n).drop p).take (q - p)⟩⟩) = some (Value.string ⟨⟨bytesN (q - p) (n / 256 ^ p % 256 ^ (q - p))⟩⟩)
      rw [bytesN_drop, bytesN_take _ _ _ (by omega), bytesN_mod]
  · rename_i e hs
    split at h
    · rename_i i hi2
      rcases asL_spec h with ⟨rfl, g⟩ | ⟨q, o, n, c, rfl, g⟩
      · clear h
        cases mx with
        | some _ => cases g
        | none =>
          obtain rfl := hmx.2 rfl
          obtain ⟨p, hp, g1⟩ := bndQ_spec hlo.1 hlo.2 g
          obtain ⟨q, hq, g2⟩ := bndQ_spec hhi.1 hhi.2 g1
          obtain ⟨e1, g3⟩ := eq_spec g2
          obtain ⟨e2, g4⟩ := eq_spec g3
          subst e1 e2
          refine ⟨_, ?_, g4⟩
          rw [hx.eq (by simp), show dec (.n 1) = Value.slice none 0 0 from rfl]
          unfold sliceA
          simp only [hs, hi2, hp, hq]
      · clear h
        obtain ⟨p, hp, h⟩ := bndQ_spec hlo.1 hlo.2 g
        obtain ⟨b, hq, h⟩ := bndQ_spec hhi.1 hhi.2 h
        rw [hx.eq (by simp), dec_l]
        cases mx with
        | none =>
          obtain rfl := hmx.2 rfl
          obtain ⟨r, h1, h2⟩ := sliceSQ_spec hr h
          refine ⟨r, ?_, h2⟩
          unfold sliceA
          simp only [hs, hi2, hp, hq]
          exact h1
        | some m =>
          obtain ⟨m', rfl, hm⟩ := hmx.1 m rfl
          cases hi with
          | none => cases h
          | some hv =>
            obtain ⟨hv', rfl, _⟩ := hhi.1 hv rfl
            obtain ⟨j, kd, hb, hd, h⟩ := asX_spec h
            obtain ⟨r, h1, h2⟩ := sliceMQ_spec h
            refine ⟨r, ?_, h2⟩
            unfold sliceA
            simp only [hs, hi2, hp, hq]
            rw [hm.eq hb, hd]
            exact h1
    · cases h
  · rename_i n e hs
    split at h
    · rename_i i hi2
      cases hn : Nat.ble n 1000000 with
      | false => rw [hn] at h; cases h
      | true =>
        rw [hn, cond_true] at h
        cases mx with
        | some _ => cases h
        | none =>
          obtain rfl := hmx.2 rfl
          obtain ⟨q, o, rfl, g⟩ := asP_spec h
          clear h
          obtain ⟨p, hp, h⟩ := bndQ_spec hlo.1 hlo.2 g
          obtain ⟨b, hq, h⟩ := bndQ_spec hhi.1 hhi.2 h
          obtain ⟨r, h1, h2⟩ := sliceSQ_spec hr h
          refine ⟨r, ?_, h2⟩
          rw [hx.eq (by simp), dec_p]
          unfold sliceA
          simp only [hs, hi2, hp, hq, hn, cond_true]
          exact h1
    · cases h
  · cases h

end
end Go.Qm
