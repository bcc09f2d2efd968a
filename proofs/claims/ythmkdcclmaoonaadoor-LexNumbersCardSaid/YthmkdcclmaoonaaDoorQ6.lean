/- The quick machine's operations that look: fields, elements, texts, slices, aggregates. No conditions. -/
import Derived.Test.YthmkdcclmaoonaaDoorQ5
set_option linter.unusedVariables false
set_option linter.unusedSimpArgs false
set_option linter.unusedSectionVars false
set_option linter.constructorNameAsVariable false
namespace Go.Qm
open Go.Am
noncomputable section
variable [Rho]

theorem dec_p (q : Pt) (o : Nat) : dec (.p q o) = .pointer (some ⟨q.num, o, none⟩) := rfl
theorem dec_l (q : Pt) (o n c : Nat) : dec (.l q o n c) = .slice (some ⟨q.num, o, none⟩) n c := rfl
theorem dec_s (l n : Nat) : dec (.s l n) = .string ⟨⟨bytesN l n⟩⟩ := rfl
theorem dec_i (n : Nat) : dec (.i n) = .int .i64 (sg n) := rfl

/-- What makes one value of one. -/
structure F1 where
  f : V → (V → Bool) → Bool
structure F2 where
  f : V → V → (V → Bool) → Bool
/-- .. that looks at memory. -/
structure H1 where
  f : V → QH → (V → Bool) → Bool
def F1.bad : F1 := ⟨fun _ _ => false⟩
def F2.bad : F2 := ⟨fun _ _ _ => false⟩
def H1.bad : H1 := ⟨fun _ _ _ => false⟩

def pickQ (c a b : V) (k : V → Bool) : Bool := asB c fun t => Bool.rec (motive := fun _ => Bool) (k b) (k a) t

theorem pickQ_spec {c a b : V} {v u w : Value} {k : V → Bool} (hc : VQ c v) (ha : VQ a u) (hb : VQ b w) (h : pickQ c a b k = true) : ∃ r x, pickA v u w = some x ∧ VQ r x ∧ k r = true := by
  obtain ⟨t, rfl, h⟩ := asB_spec h
  rw [hc.eq (by simp)]
  cases t with
  | true => exact ⟨a, u, rfl, ha, h⟩
  | false => exact ⟨b, w, rfl, hb, h⟩

def nilQ (x : V) (k : V → Bool) : Bool :=
  V.rec (motive := fun _ => Bool) false (fun _ => false) (fun _ => false) (fun _ _ => false) (fun _ => false) (fun _ _ => k x) (fun _ _ => false) (fun _ _ _ _ => false) (fun _ => false) (fun _ => false) (fun _ _ _ _ _ => k x) (fun _ _ _ => false) false (fun _ _ _ _ => false) (fun _ _ => false) (fun _ _ => false) x

theorem nilQ_spec {x : V} {v : Value} {k : V → Bool} (hx : VQ x v) (h : nilQ x k = true) : ∃ r, nilA v = some (dec r) ∧ k r = true := by
  cases x <;> first | (cases h; done) | skip
  · exact ⟨_, by rw [hx.eq (by simp)]; rfl, h⟩
  · exact ⟨_, by rw [hx.eq (by simp)]; rfl, h⟩

/-! Loads. -/

def loadC (P : Program) (t : TypeId) : H1 :=
  bif someT P t then (bif aggT P t then ⟨fun x H k => asP x fun q o => blk H q fun cs n _ => le (Nat.add o (P.cellsOf t)) n (rowK cs (P.cellsOf t) o k)⟩
    else ⟨fun x H k => asP x fun q o => blk H q fun cs n _ => lt o n (k (cget cs o))⟩) else .bad

theorem loadC_spec {R : Nat} {G : N5 QO} {P : Program} {t : TypeId} {x : V} {a : Value} {H : QH} {F : FW} {k : V → Bool} (hr : HR R G H F) (hx : VQ x a) (h : (loadC P t).f x H k = true) : ∃ r, loadA P t a F = some (dec r) ∧ k r = true := by
  unfold loadC at h
  cases hs : someT P t with
  | false => rw [hs] at h; cases h
  | true =>
    rw [hs] at h
    cases hg : aggT P t with
    | false =>
      rw [hg] at h
      obtain ⟨q, o, rfl, h⟩ := asP_spec h
      obtain ⟨cs, n, e, hb, h⟩ := blk_spec h
      obtain ⟨ho, h⟩ := lt_spec h
      refine ⟨_, ?_, h⟩
      rw [hx.eq (by simp)]
      show (bif someT P t then (bif aggT P t then _ else F.cell ⟨q.num, o, none⟩) else none) = _
      rw [hs, hg]
      show F.cell ⟨q.num, o, none⟩ = _
      simp only [FW.cell, hr.cells hb]
      exact lc_get cs ho
    | true =>
      rw [hg] at h
      obtain ⟨q, o, rfl, h⟩ := asP_spec h
      obtain ⟨cs, n, e, hb, h⟩ := blk_spec h
      obtain ⟨ho, h⟩ := le_spec h
      rw [rowK_eq] at h
      refine ⟨_, ?_, h⟩
      rw [hx.eq (by simp)]
      show (bif someT P t then (bif aggT P t then (match F.row ⟨q.num, o, none⟩ (P.cellsOf t) with | some l => some (Value.agg ⟨l⟩) | none => none) else _) else none) = _
      rw [hs, hg, cond_true, cond_true]
      have : F.row ⟨q.num, o, none⟩ (P.cellsOf t) = some (((lc cs n).drop o).take (P.cellsOf t)) := by
        simp only [FW.row, hr.cells hb, lc_length]
        rw [Nat.ble_eq_true_of_le (show o + P.cellsOf t ≤ n from ho)]
        rfl
      rw [this, (rowV_dec cs (P.cellsOf t) o n ho).2]

/-! Addresses. -/

def fieldAddrC (P : Program) (s : TypeId) (f : Nat) : F1 :=
  match P.underlying s with
  | some (.struct fs) =>
    (match fs[f]? with
    | some fd => (match P.info? fd.type with
      | some fi => bif Nat.blt 0 fi.size then ⟨fun x k => asP x fun q o => lit (Nat.add o fd.offset) fun n => k (.p q n)⟩ else .bad
      | none => .bad)
    | none => .bad)
  | _ => .bad

theorem fieldAddrC_spec {P : Program} {s : TypeId} {f : Nat} {x : V} {a : Value} {k : V → Bool} (hx : VQ x a) (h : (fieldAddrC P s f).f x k = true) : ∃ r, fieldAddrA P s a f = some (dec r) ∧ k r = true := by
  unfold fieldAddrC at h
  split at h
  · rename_i fs hs
    split at h
    · rename_i fd hf
      split at h
      · rename_i fi hi
        cases hz : Nat.blt 0 fi.size with
        | false => rw [hz] at h; cases h
        | true =>
          rw [hz, cond_true] at h
          obtain ⟨q, o, rfl, h2⟩ := asP_spec h
          rw [lit_eq] at h2
          refine ⟨_, ?_, h2⟩
          rw [hx.eq (by simp), dec_p]
          unfold fieldAddrA
          simp only [hs, hf, hi, hz, Option.isNone_none, Bool.and_self, cond_true]
          rfl
      · cases h
    · cases h
  · cases h

/-- An index. -/
def asX (x : V) (k : Nat → Bool) : Bool := V.rec (motive := fun _ => Bool) false (fun n => le n 9223372036854775807 (k n)) (fun n => k n) (fun _ _ => false) (fun _ => false) (fun _ _ => false) (fun _ _ => false) (fun _ _ _ _ => false) (fun _ => false) (fun _ => false) (fun _ _ _ _ _ => false) (fun _ _ _ => false) false (fun _ _ _ _ => false) (fun _ _ => false) (fun _ _ => false) x

theorem asX_spec {x : V} {k : Nat → Bool} (h : asX x k = true) : ∃ n kd, x ≠ .bot ∧ dec x = .int kd (.ofNat n) ∧ k n = true := by
  cases x <;> first | (cases h; done) | skip
  · obtain ⟨h1, h2⟩ := le_spec h
    exact ⟨_, .i64, by simp, by show Value.int .i64 (sg _) = _; rw [sg_small (by omega)]; rfl, h2⟩
  · exact ⟨_, .u8, by simp, rfl, h⟩

def indexAddrC (P : Program) (t : TypeId) : F2 :=
  match P.underlying t with
  | some (.slice e) => (match P.info? e with
    | some ei => ⟨fun x ix k => asX ix fun i => asL x false fun q o n _ => lt i n (lit (Nat.add o (Nat.mul i ei.size)) fun r => k (.p q r))⟩
    | none => .bad)
  | some (.array n e) => (match P.info? e with
    | some ei => ⟨fun x ix k => asX ix fun i => asP x fun q o => lt i n (lit (Nat.add o (Nat.mul i ei.size)) fun r => k (.p q r))⟩
    | none => .bad)
  | _ => .bad

theorem blt_true {a b : Nat} (h : a < b) : Nat.blt a b = true := by rw [Nat.blt_eq]; exact h

theorem indexAddrC_spec {P : Program} {t : TypeId} {x ix : V} {a u : Value} {k : V → Bool} (hx : VQ x a) (hu : VQ ix u) (h : (indexAddrC P t).f x ix k = true) : ∃ r, indexAddrA P t a u = some (dec r) ∧ k r = true := by
  unfold indexAddrC at h
  split at h
  · rename_i e hs
    split at h
    · rename_i ei hi
      obtain ⟨i, kd, hb, hd, h⟩ := asX_spec h
      rcases asL_spec h with ⟨_, h⟩ | ⟨q, o, n, c, rfl, h⟩
      · cases h
      · obtain ⟨h1, h⟩ := lt_spec h
        rw [lit_eq] at h
        refine ⟨_, ?_, h⟩
        rw [hx.eq (by simp), hu.eq hb, hd, dec_l]
        unfold indexAddrA
        simp only [hs, hi, blt_true h1, Option.isNone_none, Bool.and_self, cond_true]
        rfl
    · cases h
  · rename_i n e hs
    split at h
    · rename_i ei hi
      obtain ⟨i, kd, hb, hd, h⟩ := asX_spec h
      obtain ⟨q, o, rfl, h⟩ := asP_spec h
      obtain ⟨h1, h⟩ := lt_spec h
      rw [lit_eq] at h
      refine ⟨_, ?_, h⟩
      rw [hx.eq (by simp), hu.eq hb, hd, dec_p]
      unfold indexAddrA
      simp only [hs, hi, blt_true h1, Option.isNone_none, Bool.and_self, cond_true]
      rfl
    · cases h
  · cases h

def nthT (i : Nat) : Tx → (Nat → Dg → Bool) → Bool := Nat.rec (motive := fun _ => Tx → (Nat → Dg → Bool) → Bool) (fun t k => Tx.rec (motive := fun _ => Bool) false (fun c l _ _ => k c l) t) (fun _ ih t k => Tx.rec (motive := fun _ => Bool) false (fun _ _ r _ => ih r k) t) i
theorem nthT_spec : ∀ {i : Nat} {t : Tx} {k : Nat → Dg → Bool}, nthT i t k = true → ∃ c l, (txv t)[i]? = some (UInt8.ofNat (c + dgv l)) ∧ k c l = true
  | 0, .nil, _, h => by cases h
  | 0, .cons c l r, k, h => ⟨c, l, rfl, h⟩
  | i + 1, .nil, _, h => by cases h
  | i + 1, .cons c l r, k, h => by
    obtain ⟨c', l', h1, h2⟩ := nthT_spec (i := i) (t := r) (k := k) h
    exact ⟨c', l', by show (_ :: txv r)[i + 1]? = _; rw [List.getElem?_cons_succ]; exact h1, h2⟩

def indexT (x ix : V) (k : V → Bool) : Bool := toSt x fun t => toTx t (fun t => asX ix fun i => nthT i t fun c l => mkPo .u8 c l k false) false

theorem indexT_spec {P : Program} {t : TypeId} {x ix : V} {a u : Value} {k : V → Bool} (hs : P.underlying t = some .string) (hx : VQ x a) (hu : VQ ix u) (h : indexT x ix k = true) : ∃ r, indexA P t a u = some (dec r) ∧ k r = true := by
  obtain ⟨s, h1, h2, h⟩ := toSt_spec h
  rcases toTx_spec h with ⟨w, h3, h⟩ | h
  · obtain ⟨i, kd, hb, hd, h⟩ := asX_spec h
    obtain ⟨c, l, h4, h⟩ := nthT_spec h
    rcases mkPo_spec h with ⟨r, h5, h6, h⟩ | h
    · refine ⟨r, ?_, h⟩
      rw [hx.eq h2, hu.eq hb, hd, h1]
      unfold indexA
      simp only [hs, h3, h4]
      have h5 : c + dgv l < 256 := h5
      have : (UInt8.ofNat (c + dgv l)).toNat = c + dgv l := by
        simp only [UInt8.toNat_ofNat', Nat.reducePow]
        omega
      rw [this, h6]
    · cases h
  · cases h

def indexC (P : Program) (t : TypeId) : F2 :=
  match P.underlying t with
  | some .string => ⟨fun x ix k => isq x (indexT x ix k) <| asX ix fun i => asS x fun l n => lt i l (lit (Nat.mod (Nat.div n (Nat.pow 256 i)) 256) fun r => k (.y r))⟩
  | _ => ⟨fun x ix k => fall2 (fun a b => indexA P t a b) x ix k⟩

theorem indexC_spec {P : Program} {t : TypeId} {x ix : V} {a u : Value} {k : V → Bool} (hx : VQ x a) (hu : VQ ix u) (h : (indexC P t).f x ix k = true) : ∃ r, indexA P t a u = some (dec r) ∧ k r = true := by
  unfold indexC at h
  split at h
  · rename_i hs
    rcases isq_spec h with h | h
    · exact indexT_spec hs hx hu h
    obtain ⟨i, kd, hb, hd, h⟩ := asX_spec h
    obtain ⟨l, n, rfl, h⟩ := asS_spec h
    obtain ⟨h1, h⟩ := lt_spec h
    rw [lit_eq] at h
    refine ⟨_, ?_, h⟩
    rw [hx.eq (by simp), hu.eq hb, hd, dec_s]
    unfold indexA
    simp only [hs, bytesN_get _ _ _ h1]
    have : (UInt8.ofNat (n / 256 ^ i % 256)).toNat = n / 256 ^ i % 256 := by simp
    rw [this]
    rfl
  · exact fall2_spec (f := fun a b => indexA P t a b) hx hu h

/-! Lists. -/

def dropC (n : Nat) : V → (V → Bool) → Bool := Nat.rec (motive := fun _ => V → (V → Bool) → Bool) (fun l k => asC l (k .nil) fun h t => k (.cons h t)) (fun _ ih l k => asC l false fun _ t => ih t k) n

theorem dropC_spec : ∀ {n : Nat} {l : V} {k : V → Bool}, dropC n l k = true → ∃ x, decL x = (decL l).drop n ∧ dec x = .agg ⟨decL x⟩ ∧ dec l = .agg ⟨decL l⟩ ∧ l ≠ .bot ∧ n ≤ (decL l).length ∧ k x = true
  | 0, l, k, h => by
    rcases asC_spec h with ⟨rfl, h⟩ | ⟨a, b, rfl, h⟩
    · exact ⟨_, rfl, rfl, rfl, by simp, Nat.zero_le _, h⟩
    · exact ⟨_, rfl, rfl, rfl, by simp, Nat.zero_le _, h⟩
  | n + 1, l, k, h => by
    rcases asC_spec h with ⟨_, h⟩ | ⟨a, b, rfl, h⟩
    · cases h
    · obtain ⟨x, h1, h2, _, _, h3, h4⟩ := dropC_spec (n := n) (l := b) (k := k) h
      exact ⟨x, h1, h2, rfl, by simp, by show n + 1 ≤ (dec a :: decL b).length; simpa using h3, h4⟩

def takeC (n : Nat) : V → (V → Bool) → Bool := Nat.rec (motive := fun _ => V → (V → Bool) → Bool) (fun _ k => k .nil) (fun _ ih l k => asC l false fun h t => ih t fun r => k (.cons h r)) n

theorem takeC_spec : ∀ {n : Nat} {l : V} {k : V → Bool}, takeC n l k = true → ∃ x, decL x = (decL l).take n ∧ dec x = .agg ⟨decL x⟩ ∧ x ≠ .bot ∧ n ≤ (decL l).length ∧ k x = true
  | 0, l, k, h => ⟨.nil, rfl, rfl, by simp, Nat.zero_le _, h⟩
  | n + 1, l, k, h => by
    rcases asC_spec h with ⟨_, h⟩ | ⟨a, b, rfl, h⟩
    · cases h
    · obtain ⟨x, h1, h2, _, h3, h4⟩ := takeC_spec (n := n) (l := b) (k := fun r => k (.cons a r)) h
      refine ⟨.cons a x, ?_, rfl, by simp, ?_, h4⟩
      · show dec a :: decL x = (dec a :: decL b).take (n + 1)
        rw [h1]; rfl
      · show n + 1 ≤ (dec a :: decL b).length
        simpa using h3

/-- A part of an aggregate. -/
def partC (P : Program) (t : TypeId) (off : Nat) : F1 :=
  bif someT P t then (bif aggT P t then ⟨fun x k => dropC off x fun y => takeC (P.cellsOf t) y k⟩ else ⟨fun x k => nthC off x k⟩) else .bad

theorem partC_spec {P : Program} {t : TypeId} {off : Nat} {x : V} {k : V → Bool} (h : (partC P t off).f x k = true) : ∃ r, partA P t (decL x) off = some (dec r) ∧ dec x = .agg ⟨decL x⟩ ∧ x ≠ .bot ∧ k r = true := by
  unfold partC at h
  cases hs : someT P t with
  | false => rw [hs] at h; cases h
  | true =>
    rw [hs, cond_true] at h
    cases hg : aggT P t with
    | false =>
      rw [hg, cond_false] at h
      obtain ⟨r, h1, h2, h3, h4⟩ := nthC_spec h
      exact ⟨r, by simp only [partA, hs, hg, cond_true, cond_false]; exact h1, h2, h3, h4⟩
    | true =>
      rw [hg, cond_true] at h
      obtain ⟨y, h1, _, h2, h3, h4, h⟩ := dropC_spec h
      obtain ⟨r, g1, g2, _, g3, h⟩ := takeC_spec h
      refine ⟨r, ?_, h2, h3, h⟩
      simp only [partA, hs, hg, cond_true]
      rw [h1, List.length_drop] at g3
      rw [Nat.ble_eq_true_of_le (show off + P.cellsOf t ≤ (decL x).length by omega), cond_true, g2, g1, h1]

def fieldC (P : Program) (s : TypeId) (f : Nat) : F1 :=
  match P.underlying s with
  | some (.struct fs) =>
    (match fs[f]? with
    | some fd => partC P fd.type fd.offset
    | none => .bad)
  | _ => .bad

theorem fieldC_spec {P : Program} {s : TypeId} {f : Nat} {x : V} {a : Value} {k : V → Bool} (hx : VQ x a) (h : (fieldC P s f).f x k = true) : ∃ r, fieldA P s a f = some (dec r) ∧ k r = true := by
  unfold fieldC at h
  split at h
  · rename_i fs hs
    split at h
    · rename_i fd hf
      obtain ⟨r, h1, h2, h3, h4⟩ := partC_spec h
      refine ⟨r, ?_, h4⟩
      rw [hx.eq h3, h2]
      unfold fieldA
      simp only [hs, hf]
      exact h1
    · cases h
  · cases h

def extractC (i : Nat) : F1 := ⟨fun x k => asT x fun l => nthC i l k⟩

theorem extractC_spec {i : Nat} {x : V} {a : Value} {k : V → Bool} (hx : VQ x a) (h : (extractC i).f x k = true) : ∃ r, extractA a i = some (dec r) ∧ k r = true := by
  obtain ⟨l, rfl, h⟩ := asT_spec h
  obtain ⟨r, h1, _, _, h2⟩ := nthC_spec h
  exact ⟨r, by rw [hx.eq (by simp)]; exact h1, h2⟩

/-! Interfaces, functions. -/

def ifaceC (P : Program) (t : TypeId) : F1 :=
  match P.underlying t with
  | some (.interface _) => .bad
  | some _ => ⟨fun x k => nb x (k (.e t x))⟩
  | none => .bad

theorem ifaceC_spec {P : Program} {t : TypeId} {x : V} {a : Value} {k : V → Bool} (hx : VQ x a) (h : (ifaceC P t).f x k = true) : ∃ r, ifaceA P t a = some (dec r) ∧ k r = true := by
  unfold ifaceC at h
  split at h
  · cases h
  · rename_i y hn hs
    obtain ⟨h1, h⟩ := nb_spec h
    refine ⟨_, ?_, h⟩
    rw [hx.eq h1]
    unfold ifaceA
    split
    · rename_i hs2
      rw [hs] at hs2
      simp only [Option.some.injEq] at hs2
      exact absurd hs2 (hn _)
    · rfl
    · rename_i hs2; rw [hs] at hs2; cases hs2
  · cases h

/-- Operands' values, as a list. -/
def listQ (L : Lay) (xs : List Operand) : En → (V → Bool) → Bool :=
  List.rec (motive := fun _ => En → (V → Bool) → Bool) (fun _ k => k .nil) (fun x _ ih e k => ih e fun t => nb ((rd L x).g e) (k (.cons ((rd L x).g e) t))) xs

theorem listQ_spec {lv : Nat → Bool} {L : Lay} {e : En} {tm : TM} (he : ER lv L e tm) : ∀ {xs : List Operand} {k : V → Bool}, listQ L xs e k = true → ∃ x, decL x = xs.map (ev lv tm) ∧ dec x = .agg ⟨decL x⟩ ∧ x ≠ .bot ∧ k x = true
  | [], k, h => ⟨.nil, rfl, rfl, by simp, h⟩
  | x :: xs, k, h => by
    obtain ⟨t, h1, _, _, h⟩ := listQ_spec he (xs := xs) h
    obtain ⟨h2, h⟩ := nb_spec h
    refine ⟨_, ?_, rfl, by simp, h⟩
    show dec _ :: decL t = _
    rw [h1, List.map_cons, ← (rd_spec he x).eq h2]

/-! Numbers of many. -/

theorem sg_lt' (m n : Nat) : sg m < sg n ↔ sh m < sh n := by rw [sg_lt]; unfold sh; exact Iff.rfl

def ltb (a b : Nat) (k o : Bool) : Bool := Bool.rec (motive := fun _ => Bool) o k (Nat.ble (Nat.succ a) b)

theorem ltb_spec {a b : Nat} {k o : Bool} (h : ltb a b k o = true) : (a < b ∧ k = true) ∨ (¬ a < b ∧ o = true) := by
  unfold ltb at h
  cases hb : Nat.ble (Nat.succ a) b with
  | true => rw [hb] at h; exact .inl ⟨Nat.le_of_ble_eq_true hb, h⟩
  | false => rw [hb] at h; exact .inr ⟨Nat.not_le_of_not_ble_eq_true (by rw [hb]; simp), h⟩

def more (m n : Nat) (k o : Bool) : Bool := ltb (sh m) (sh n) k o

theorem more_spec {m n : Nat} {k o : Bool} (h : more m n k o = true) : (sg m < sg n ∧ k = true) ∨ (¬ sg m < sg n ∧ o = true) := by
  rcases ltb_spec h with ⟨h1, h2⟩ | ⟨h1, h2⟩
  · exact .inl ⟨(sg_lt' m n).2 h1, h2⟩
  · exact .inr ⟨mt (sg_lt' m n).1 h1, h2⟩

def bestT (m n : Nat) (k : Nat → Bool) : Bool := more m n (k n) (k m)
def bestF (m n : Nat) (k : Nat → Bool) : Bool := more n m (k n) (k m)
def bestQ (isMax : Bool) (m n : Nat) (k : Nat → Bool) : Bool := Bool.rec (motive := fun _ => Bool) (bestF m n k) (bestT m n k) isMax

def maxS (L : Lay) (isMax : Bool) (xs : List Operand) : Sy → En → (V → Bool) → Bool :=
  List.rec (motive := fun _ => Sy → En → (V → Bool) → Bool) (fun m _ k => k (.q (.i .i64) m)) (fun x _ ih m e k => toSy ((rd L x).g e) fun kk n => kq kk .i64 (ih (Bool.rec (motive := fun _ => Sy) (.mx isMax m n) m (syq m n)) e k)) xs

def maxQ (L : Lay) (isMax : Bool) (xs : List Operand) : Nat → En → (V → Bool) → Bool :=
  match xs with
  | [] => fun m _ k => k (.i m)
  | x :: r => fun m e k => isq ((rd L x).g e) (maxS L isMax (x :: r) (.ci m) e k) (asI ((rd L x).g e) fun n => bestQ isMax m n fun s => maxQ L isMax r s e k)

theorem bestQ_spec {isMax : Bool} {m n : Nat} {k : Nat → Bool} (h : bestQ isMax m n k = true) :
    ∃ r, sg r = (bif isMax then (bif decide (sg n > sg m) then sg n else sg m) else (bif decide (sg n < sg m) then sg n else sg m)) ∧ k r = true := by
  cases isMax with
  | true =>
    have h0 : bestT m n k = true := h
    rcases more_spec h0 with ⟨h1, h2⟩ | ⟨h1, h2⟩
    · exact ⟨n, by rw [cond_true, decide_eq_true (show sg n > sg m from h1), cond_true], h2⟩
    · exact ⟨m, by rw [cond_true, decide_eq_false (show ¬ sg n > sg m from h1), cond_false], h2⟩
  | false =>
    have h0 : bestF m n k = true := h
    rcases more_spec h0 with ⟨h1, h2⟩ | ⟨h1, h2⟩
    · exact ⟨n, by rw [cond_false, decide_eq_true h1, cond_true], h2⟩
    · exact ⟨m, by rw [cond_false, decide_eq_false h1, cond_false], h2⟩

theorem maxS_spec {lv : Nat → Bool} {L : Lay} {e : En} {tm : TM} (he : ER lv L e tm) {isMax : Bool} : ∀ {xs : List Operand} {m : Sy} {k : V → Bool}, maxS L isMax xs m e k = true → ∃ r, maxA isMax (iv m) (xs.map (ev lv tm)) = some (dec r) ∧ k r = true
  | [], m, k, h => ⟨.q (.i .i64) m, rfl, h⟩
  | x :: xs, m, k, h => by
    replace h : (toSy ((rd L x).g e) fun kk n => kq kk .i64 (maxS L isMax xs (Bool.rec (motive := fun _ => Sy) (.mx isMax m n) m (syq m n)) e k)) = true := h
    obtain ⟨kk, n, h1, h2, h⟩ := toSy_spec h
    have g := kq_spec h
    clear h
    obtain ⟨rfl, h⟩ := g
    obtain ⟨s, h3, h4⟩ := maxS_spec he (xs := xs) h
    refine ⟨s, ?_, h4⟩
    have hv : ev lv tm x = .int .i64 (iv n) := by
      rw [(rd_spec he x).eq h2, h1]
    rw [List.map_cons, hv]
    unfold maxA
    rw [← h3]
    congr 1
    cases hs : syq m n with
    | false => rfl
    | true =>
      have e := syq_spec hs
      subst e
      show _ = iv m
      cases isMax <;> simp

theorem maxQ_spec {lv : Nat → Bool} {L : Lay} {e : En} {tm : TM} (he : ER lv L e tm) {isMax : Bool} : ∀ {xs : List Operand} {m : Nat} {k : V → Bool}, maxQ L isMax xs m e k = true → ∃ r, maxA isMax (sg m) (xs.map (ev lv tm)) = some (dec r) ∧ k r = true
  | [], m, k, h => ⟨.i m, rfl, h⟩
  | x :: xs, m, k, h => by
    rcases isq_spec h with h | h
    · exact maxS_spec he (m := .ci m) h
    obtain ⟨n, hn, h⟩ := asI_spec h
    obtain ⟨r, h1, h⟩ := bestQ_spec h
    obtain ⟨s, h2, h3⟩ := maxQ_spec he (xs := xs) h
    refine ⟨s, ?_, h3⟩
    have hv : ev lv tm x = .int .i64 (sg n) := by
      rw [(rd_spec he x).eq (by rw [hn]; simp), hn]; rfl
    rw [List.map_cons, hv]
    unfold maxA
    rw [← h1]
    exact h2

def maxMinQ (L : Lay) (isMax : Bool) (xs : List Operand) (e : En) (k : V → Bool) : Bool :=
  match xs with
  | [] => false
  | x :: xs => isq ((rd L x).g e) (toSy ((rd L x).g e) fun kk m => kq kk .i64 (maxS L isMax xs m e k)) (asI ((rd L x).g e) fun m => maxQ L isMax xs m e k)

theorem maxMinQ_spec {lv : Nat → Bool} {L : Lay} {e : En} {tm : TM} (he : ER lv L e tm) {isMax : Bool} {xs : List Operand} {k : V → Bool} (h : maxMinQ L isMax xs e k = true) : ∃ r, maxMinA isMax (xs.map (ev lv tm)) = some (dec r) ∧ k r = true := by
  cases xs with
  | nil => cases h
  | cons x xs =>
    rcases isq_spec h with h | h
    · obtain ⟨kk, m, h1, h2, h⟩ := toSy_spec h
      have g := kq_spec h
      clear h
      obtain ⟨rfl, h⟩ := g
      obtain ⟨r, h3, h4⟩ := maxS_spec he h
      refine ⟨r, ?_, h4⟩
      have hv : ev lv tm x = .int .i64 (iv m) := by rw [(rd_spec he x).eq h2, h1]
      rw [List.map_cons, hv]
      exact h3
    obtain ⟨m, hm, h⟩ := asI_spec h
    obtain ⟨r, h1, h2⟩ := maxQ_spec he h
    refine ⟨r, ?_, h2⟩
    have hv : ev lv tm x = .int .i64 (sg m) := by
      rw [(rd_spec he x).eq (by rw [hm]; simp), hm]; rfl
    rw [List.map_cons, hv]
    exact h1

end
end Go.Qm
