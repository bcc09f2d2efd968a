/- The quick machine's aggregates that are built, and its new blocks. No conditions. -/
import Derived.Test.YthmkdcclmaoonaaDoorQ8
set_option linter.unusedVariables false
set_option linter.unusedSimpArgs false
set_option linter.unusedSectionVars false
set_option linter.constructorNameAsVariable false
namespace Go.Qm
open Go.Am
noncomputable section
variable [Rho]

theorem nbot_dec {x : V} (h : x ≠ .bot) : nbot (dec x) = true := by
  cases x <;> first | rfl | exact absurd rfl h | skip
  · rename_i c
    show nbot (nilV c) = true
    unfold nilV
    split <;> rfl
  · rename_i kd u
    cases kd <;> rfl

/-- One cell, or a list of them. -/
def scl (x : V) (r l : Bool) : Bool := V.rec (motive := fun _ => Bool) false (fun _ => r) (fun _ => r) (fun _ _ => r) (fun _ => r) (fun _ _ => r) (fun _ _ => r) (fun _ _ _ _ => r) (fun _ => r) (fun _ => r) (fun _ _ _ _ _ => r) (fun _ _ _ => r) l (fun _ _ _ _ => l) (fun _ _ => false) (fun _ _ => r) x

theorem scl_spec {x : V} {r l : Bool} (h : scl x r l = true) : (isSc x ∧ r = true) ∨ ((x = .nil ∨ ∃ a b, x = .cons a b) ∧ l = true) := by
  cases x <;> first | (cases h; done) | exact .inl ⟨rfl, h⟩ | exact .inr ⟨.inl rfl, h⟩ | exact .inr ⟨.inr ⟨_, _, rfl⟩, h⟩

def repN (m : Nat) : V → V → (V → Bool) → Bool :=
  Nat.rec (motive := fun _ => V → V → (V → Bool) → Bool) (fun v l k => asC v (asC l (k .nil) fun h t => k (.cons h t)) fun _ _ => false) (fun _ ih v l k => asC v false fun a b => asC l false fun _ t => ih b t fun r => k (.cons a r)) m

/-- A list's value is a struct's. -/
def isL (x : V) : Prop := dec x = .agg ⟨decL x⟩ ∧ x ≠ .bot

theorem isL.nil : isL .nil := ⟨rfl, by simp⟩
theorem isL.cons (a b : V) : isL (.cons a b) := ⟨rfl, by simp⟩

theorem repN_spec : ∀ {m : Nat} {v l : V} {k : V → Bool}, repN m v l k = true → ∃ r, isL v ∧ (decL v).length = m ∧ m ≤ (decL l).length ∧ decL r = decL v ++ (decL l).drop m ∧ isL r ∧ k r = true
  | 0, v, l, k, h => by
    rcases asC_spec h with ⟨rfl, h⟩ | ⟨_, _, _, h⟩
    · rcases asC_spec h with ⟨rfl, h⟩ | ⟨a, b, rfl, h⟩
      · exact ⟨_, isL.nil, rfl, Nat.zero_le _, rfl, isL.nil, h⟩
      · exact ⟨_, isL.nil, rfl, Nat.zero_le _, rfl, isL.cons _ _, h⟩
    · cases h
  | m + 1, v, l, k, h => by
    rcases asC_spec h with ⟨_, h⟩ | ⟨a, b, rfl, h⟩
    · cases h
    · rcases asC_spec h with ⟨_, h⟩ | ⟨a', t, rfl, h⟩
      · cases h
      · obtain ⟨r, _, h1, h2, h3, _, h4⟩ := repN_spec (m := m) (v := b) (l := t) (k := fun r => k (.cons a r)) h
        refine ⟨.cons a r, isL.cons _ _, ?_, ?_, ?_, isL.cons _ _, h4⟩
        · show (dec a :: decL b).length = m + 1
          simp [h1]
        · show m + 1 ≤ (dec a' :: decL t).length
          simpa using h2
        · show dec a :: decL r = (dec a :: decL b) ++ (dec a' :: decL t).drop (m + 1)
          rw [h3, List.drop_succ_cons, List.cons_append]

/-- A thing of so many cells is laid at a list's head. -/
def putC (m : Nat) (v l : V) (k : V → Bool) : Bool := scl v (eq m 1 (asC l false fun _ t => k (.cons v t))) (repN m v l k)

theorem putC_spec {m : Nat} {v l : V} {u : Value} {k : V → Bool} (hv : VQ v u) (h : putC m v l k = true) : ∃ r, nbot u = true ∧ (cellsV u).length = m ∧ m ≤ (decL l).length ∧ decL r = cellsV u ++ (decL l).drop m ∧ isL r ∧ k r = true := by
  rcases scl_spec h with ⟨hs, h⟩ | ⟨_, h⟩
  · obtain ⟨rfl, h⟩ := eq_spec h
    rcases asC_spec h with ⟨_, h⟩ | ⟨a, t, rfl, h⟩
    · cases h
    · rw [hv.eq hs.bot, hs.cells]
      refine ⟨.cons v t, nbot_dec hs.bot, rfl, ?_, rfl, isL.cons _ _, h⟩
      show 1 ≤ (dec a :: decL t).length
      simp
  · obtain ⟨r, h1, h2, h3, h4, h5, h6⟩ := repN_spec h
    rw [hv.eq h1.2, h1.1]
    exact ⟨r, rfl, h2, h3, h4, h5, h6⟩

def downC (off : Nat) : V → (V → (V → Bool) → Bool) → (V → Bool) → Bool :=
  Nat.rec (motive := fun _ => V → (V → (V → Bool) → Bool) → (V → Bool) → Bool) (fun l f k => f l k) (fun _ ih l f k => asC l false fun h t => ih t f fun r => k (.cons h r)) off

theorem downC_spec : ∀ {off : Nat} {l : V} {f : V → (V → Bool) → Bool} {k : V → Bool}, downC off l f k = true → ∃ l0 k', decL l0 = (decL l).drop off ∧ off ≤ (decL l).length ∧ f l0 k' = true ∧
    ∀ r, isL r → k' r = true → ∃ r', decL r' = (decL l).take off ++ decL r ∧ isL r' ∧ k r' = true
  | 0, l, f, k, h => ⟨l, k, rfl, Nat.zero_le _, h, fun r hr hk => ⟨r, rfl, hr, hk⟩⟩
  | off + 1, l, f, k, h => by
    rcases asC_spec h with ⟨_, h⟩ | ⟨a, t, rfl, h⟩
    · cases h
    · obtain ⟨l0, k', h1, h2, h3, h4⟩ := downC_spec (off := off) (l := t) (f := f) (k := fun r => k (.cons a r)) h
      refine ⟨l0, k', h1, by show off + 1 ≤ (dec a :: decL t).length; simpa using h2, h3, fun r hr hk => ?_⟩
      obtain ⟨r', g1, g2, g3⟩ := h4 r hr hk
      exact ⟨.cons a r', by show dec a :: decL r' = (dec a :: decL t).take (off + 1) ++ decL r; rw [g1]; rfl, isL.cons _ _, g3⟩

def fillQ (L : Lay) (place : Nat → Option (Nat × Nat)) (parts : List (Nat × Operand)) : En → V → (V → Bool) → Bool :=
  List.rec (motive := fun _ => En → V → (V → Bool) → Bool) (fun _ c k => k c) (fun p _ ih e c k => match place p.1 with
    | some r => downC r.1 c (putC r.2 ((rd L p.2).g e)) fun c' => ih e c' k
    | none => false) parts

theorem fillQ_spec {lv : Nat → Bool} {L : Lay} {e : En} {tm : TM} (he : ER lv L e tm) {place : Nat → Option (Nat × Nat)} : ∀ {parts : List (Nat × Operand)} {c : V} {k : V → Bool}, isL c → fillQ L place parts e c k = true →
    ∃ r, fillA place (ev lv tm) (decL c) parts = some (decL r) ∧ isL r ∧ k r = true
  | [], c, k, hc, h => ⟨c, rfl, hc, h⟩
  | (i, x) :: rest, c, k, hc, h => by
    have h' : (match place i with
      | some r => downC r.1 c (putC r.2 ((rd L x).g e)) fun c' => fillQ L place rest e c' k
      | none => false) = true := h
    split at h'
    · rename_i r hp
      obtain ⟨l0, k', h1, h2, h3, h4⟩ := downC_spec h'
      obtain ⟨r1, g1, g2, g3, g4, g5, g6⟩ := putC_spec (rd_spec he x) h3
      obtain ⟨r2, f1, f2, f3⟩ := h4 r1 g5 g6
      obtain ⟨r3, e1, e2, e3⟩ := fillQ_spec he (parts := rest) f2 f3
      refine ⟨r3, ?_, e2, e3⟩
      obtain ⟨off, size⟩ := r
      rw [h1, List.length_drop] at g3
      simp only at h2 g2 g3 g4 f1
      unfold fillA
      simp only [hp, g1, g2]
      rw [show Nat.beq size size = true from by simp, Nat.ble_eq_true_of_le (show off + size ≤ (decL c).length by omega), Bool.and_self, Bool.and_self, cond_true]
      have : setC (decL c) off (cellsV (ev lv tm x)) = decL r2 := by
        unfold setC
        rw [f1, g4, h1, List.drop_drop, g2]
      rw [this]
      exact e1
    · cases h'

structure Bq where
  f : En → (V → Bool) → Bool
def Bq.bad : Bq := ⟨fun _ _ => false⟩

def buildC (P : Program) (L : Lay) (t : TypeId) (parts : List (Nat × Operand)) : Bq :=
  match P.underlying t with
  | some (.struct fs) => (match zeroA P t, placesA P fs.toList with
    | some z, some places => (match encL z with
      | some zv => ⟨fun e k => fillQ L (fun i => places[i]?) parts e (kvC zv).v k⟩
      | none => .bad)
    | _, _ => .bad)
  | some (.array _ el) => (match zeroA P t, P.info? el with
    | some z, some ei => (match encL z with
      | some zv => ⟨fun e k => fillQ L (fun i => some (i * ei.size, ei.size)) parts e (kvC zv).v k⟩
      | none => .bad)
    | _, _ => .bad)
  | _ => .bad

theorem buildC_spec {P : Program} {lv : Nat → Bool} {L : Lay} {e : En} {tm : TM} (he : ER lv L e tm) {t : TypeId} {parts : List (Nat × Operand)} {k : V → Bool} (h : (buildC P L t parts).f e k = true) : ∃ r, buildA P t parts (ev lv tm) = some (dec r) ∧ k r = true := by
  unfold buildC at h
  split at h
  · rename_i fs hs
    split at h
    · rename_i z places hz hp
      split at h
      · rename_i zv hzv
        obtain ⟨h1, h2, h3⟩ := encL_some hzv
        obtain ⟨r, g1, g2, g3⟩ := fillQ_spec he (c := (kvC zv).v) (by rw [kvC_eq]; exact ⟨by rw [h2, h1], h3⟩) h
        rw [kvC_eq, h1] at g1
        refine ⟨r, ?_, g3⟩
        unfold buildA
        simp only [hs, hz, hp, g1]
        rw [g2.1]
      · cases h
    · cases h
  · rename_i n el hs
    split at h
    · rename_i z ei hz hi
      split at h
      · rename_i zv hzv
        obtain ⟨h1, h2, h3⟩ := encL_some hzv
        obtain ⟨r, g1, g2, g3⟩ := fillQ_spec he (place := fun i => some (i * ei.size, ei.size)) (k := k) (c := (kvC zv).v) (by rw [kvC_eq]; exact ⟨by rw [h2, h1], h3⟩) h
        rw [kvC_eq, h1] at g1
        refine ⟨r, ?_, g3⟩
        unfold buildA
        simp only [hs, hz, hi, g1]
        rw [g2.1]
      · cases h
    · cases h
  · cases h

/-! Cells, all at once. -/

def of1 (f : Nat → V) (b : Nat) : N V := ⟨f b, f (b + 1), f (b + 2), f (b + 3), f (b + 4), f (b + 5), f (b + 6), f (b + 7), f (b + 8), f (b + 9), f (b + 10), f (b + 11), f (b + 12), f (b + 13), f (b + 14), f (b + 15)⟩
def ofN {α : Type} (g : Nat → N α) (w b : Nat) : N (N α) := ⟨g b, g (b + w), g (b + 2 * w), g (b + 3 * w), g (b + 4 * w), g (b + 5 * w), g (b + 6 * w), g (b + 7 * w), g (b + 8 * w), g (b + 9 * w), g (b + 10 * w), g (b + 11 * w), g (b + 12 * w), g (b + 13 * w), g (b + 14 * w), g (b + 15 * w)⟩

theorem ng_of1 (f : Nat → V) (b : Nat) (d : D) : ng d (of1 f b) = f (b + d.v) := by cases d <;> rfl
theorem ng_ofN {α : Type} (g : Nat → N α) (w b : Nat) (d : D) : ng d (ofN g w b) = g (b + d.v * w) := by
  cases d with
  | d0 => show g b = g (b + 0 * w); rw [Nat.zero_mul]; rfl
  | d1 => show g (b + w) = g (b + 1 * w); rw [Nat.one_mul]
  | _ => rfl

/-- Room for so many, filled. -/
def csOf (m : Nat) (f : Nat → V) : Cs V :=
  Bool.rec (motive := fun _ => Cs V) (Bool.rec (motive := fun _ => Cs V) (Bool.rec (motive := fun _ => Cs V) (.c4 (ofN (ofN (ofN (of1 f) 16) 256) 4096 0)) (.c3 (ofN (ofN (of1 f) 16) 256 0)) (Nat.ble m 4096)) (.c2 (ofN (of1 f) 16 0)) (Nat.ble m 256)) (.c1 (of1 f 0)) (Nat.ble m 16)

theorem csOf_spec (m : Nat) (f : Nat → V) (hm : m ≤ 65536) : m ≤ (csOf m f).cap ∧ ∀ i, i < (csOf m f).cap → cget (csOf m f) i = f i := by
  unfold csOf
  cases h1 : Nat.ble m 16 with
  | true =>
    refine ⟨Nat.le_of_ble_eq_true h1, fun i hi => ?_⟩
    have hi' : i < 16 := hi
    show ng (dig i) (of1 f 0) = f i
    rw [ng_of1, dig_v]
    congr 1; omega
  | false =>
    cases h2 : Nat.ble m 256 with
    | true =>
      refine ⟨Nat.le_of_ble_eq_true h2, fun i hi => ?_⟩
      have hi' : i < 256 := hi
      show ng (dig i) (ng (dig (i / 16)) (ofN (of1 f) 16 0)) = f i
      rw [ng_ofN, ng_of1, dig_v, dig_v]
      congr 1; omega
    | false =>
      cases h3 : Nat.ble m 4096 with
      | true =>
        refine ⟨Nat.le_of_ble_eq_true h3, fun i hi => ?_⟩
        have hi' : i < 4096 := hi
        show ng (dig i) (ng (dig (i / 16)) (ng (dig (i / 256)) (ofN (ofN (of1 f) 16) 256 0))) = f i
        rw [ng_ofN, ng_ofN, ng_of1, dig_v, dig_v, dig_v]
        congr 1; omega
      | false =>
        refine ⟨hm, fun i hi => ?_⟩
        have hi' : i < 65536 := hi
        show ng (dig i) (ng (dig (i / 16)) (ng (dig (i / 256)) (ng (dig (i / 4096)) (ofN (ofN (ofN (of1 f) 16) 256) 4096 0)))) = f i
        rw [ng_ofN, ng_ofN, ng_ofN, ng_of1, dig_v, dig_v, dig_v, dig_v]
        congr 1; omega

/-- A list's element. -/
def vnth (l : V) : Nat → V := V.rec (motive := fun _ => Nat → V) (fun _ => .bot) (fun _ _ => .bot) (fun _ _ => .bot) (fun _ _ _ => .bot) (fun _ _ => .bot) (fun _ _ _ => .bot) (fun _ _ _ => .bot) (fun _ _ _ _ _ => .bot) (fun _ _ => .bot) (fun _ _ => .bot) (fun _ _ _ _ _ _ => .bot) (fun _ _ _ _ => .bot) (fun _ => .bot) (fun h _ _ ih i => Nat.rec (motive := fun _ => V) h (fun j _ => ih j) i) (fun _ _ _ => .bot) (fun _ _ => (fun _ => .bot)) l

/-- How many, each of one cell. -/
def lenS (l : V) : (Nat → Bool) → Bool := V.rec (motive := fun _ => (Nat → Bool) → Bool) (fun _ => false) (fun _ _ => false) (fun _ _ => false) (fun _ _ _ => false) (fun _ _ => false) (fun _ _ _ => false) (fun _ _ _ => false) (fun _ _ _ _ _ => false) (fun _ _ => false) (fun _ _ => false) (fun _ _ _ _ _ _ => false) (fun _ _ _ _ => false) (fun k => k 0) (fun h _ _ ih k => sc h (ih fun n => k (Nat.succ n))) (fun _ _ _ => false) (fun _ _ => (fun _ => false)) l

theorem lenS_spec : ∀ {l : V} {k : Nat → Bool}, lenS l k = true → isL l ∧ (∀ i, i < (decL l).length → isSc (vnth l i) ∧ (decL l)[i]? = some (dec (vnth l i))) ∧ k (decL l).length = true
  | .nil, k, h => ⟨isL.nil, fun i hi => absurd hi (Nat.not_lt_zero _), h⟩
  | .cons a b, k, h => by
    have hs := isSc.of (r := lenS b fun n => k (Nat.succ n)) h
    obtain ⟨_, _, _, h⟩ := sc_spec (r := lenS b fun n => k (Nat.succ n)) h
    obtain ⟨_, h2, h3⟩ := lenS_spec (l := b) h
    refine ⟨isL.cons _ _, fun i hi => ?_, h3⟩
    cases i with
    | zero => exact ⟨hs, rfl⟩
    | succ i =>
      have hi' : i + 1 < (dec a :: decL b).length := hi
      have := h2 i (by simpa using hi')
      exact ⟨this.1, by show (dec a :: decL b)[i + 1]? = _; rw [List.getElem?_cons_succ]; exact this.2⟩
  | .bot, _, h => by cases h
  | .i _, _, h => by cases h
  | .y _, _, h => by cases h
  | .z _ _, _, h => by cases h
  | .b _, _, h => by cases h
  | .p _ _, _, h => by cases h
  | .s _ _, _, h => by cases h
  | .l _ _ _ _, _, h => by cases h
  | .n _, _, h => by cases h
  | .m _, _, h => by cases h
  | .f _ _ _, _, h => by cases h
  | .e _ _, _, h => by cases h
  | .t _, _, h => by cases h

/-- A block of a list's things. -/
theorem cells_of {l : V} (hm : (decL l).length ≤ 65536) (h : ∀ i, i < (decL l).length → isSc (vnth l i) ∧ (decL l)[i]? = some (dec (vnth l i))) :
    lc (csOf (decL l).length (vnth l)) (decL l).length = decL l ∧ (decL l).length ≤ (csOf (decL l).length (vnth l)).cap ∧ (∀ i, i < (decL l).length → isSc (cget (csOf (decL l).length (vnth l)) i)) ∧ (decL l).all oneC = true := by
  obtain ⟨h1, h2⟩ := csOf_spec (decL l).length (vnth l) hm
  have e : ∀ i, i < (decL l).length → cget (csOf (decL l).length (vnth l)) i = vnth l i := fun i hi => h2 i (by omega)
  have hl : lc (csOf (decL l).length (vnth l)) (decL l).length = decL l := by
    apply List.ext_getElem?
    intro i
    by_cases hi : i < (decL l).length
    · rw [lc_get _ hi, e i hi, (h i hi).2]
    · rw [List.getElem?_eq_none (by rw [lc_length]; omega), List.getElem?_eq_none (by omega)]
  have hsc : ∀ i, i < (decL l).length → isSc (cget (csOf (decL l).length (vnth l)) i) := fun i hi => by rw [e i hi]; exact (h i hi).1
  exact ⟨hl, h1, hsc, by rw [← hl]; exact lc_all hsc⟩

/-! New blocks. -/

structure Mq where
  f : En → (QO → (Pt → V) → Bool) → Bool
def Mq.bad : Mq := ⟨fun _ _ => false⟩

def ptQ (q : Pt) : V := .p q 0

/-- A block of a list's cells. -/
def boxL (t : Nat) (l : V) (c : QO → (Pt → V) → Bool) : Bool := lenS l fun n => le n 65536 (c (.c (csOf n (vnth l)) n t) ptQ)

theorem boxL_spec {t : Nat} {l : V} {c : QO → (Pt → V) → Bool} (h : boxL t l c = true) : ∃ ob, isL l ∧ (decL l).all oneC = true ∧ decO ob = some (.cells (decL l) t) ∧ wfO ob ∧ c ob ptQ = true := by
  obtain ⟨h1, h2, h3⟩ := lenS_spec h
  obtain ⟨h4, h3⟩ := le_spec h3
  obtain ⟨g1, g2, g3, g4⟩ := cells_of h4 h2
  exact ⟨.c (csOf (decL l).length (vnth l)) (decL l).length t, h1, g4, by show some (AObj.cells (lc _ _) t) = _; rw [g1], ⟨g2, g3⟩, h3⟩

def boxQ (t : Nat) (x : V) (c : QO → (Pt → V) → Bool) : Bool := scl x (c (.c (.c1 (nfill x)) 1 t) ptQ) (boxL t x c)

def allocC (P : Program) (t : TypeId) : Mq :=
  match zeroA P t with
  | some z => (match encL z with
    | some zv => ⟨fun _ c => boxL t (kvC zv).v c⟩
    | none => .bad)
  | none => .bad

/-- What a maker of blocks owes. -/
def MkS (lv : Nat → Bool) (L : Lay) (f : Ev → Option (AObj × (Nat → Value))) (q : Mq) : Prop :=
  ∀ tm e c, ER lv L e tm → q.f e c = true → ∃ ob val o fv, f (ev lv tm) = some (o, fv) ∧ decO ob = some o ∧ wfO ob ∧ own ob = true ∧ (∀ p : Pt, VQ (val p) (fv p.num)) ∧ c ob val = true

theorem own_cells {ob : QO} {l : List Value} {e : Nat} (h : ∃ cs n t, ob = .c cs n t) : own ob = true := by
  obtain ⟨_, _, _, rfl⟩ := h; rfl

theorem boxL_own {t : Nat} {l : V} {c : QO → (Pt → V) → Bool} (h : boxL t l c = true) : ∃ ob, isL l ∧ (decL l).all oneC = true ∧ decO ob = some (.cells (decL l) t) ∧ wfO ob ∧ own ob = true ∧ c ob ptQ = true := by
  obtain ⟨h1, h2, h3⟩ := lenS_spec h
  obtain ⟨h4, h3⟩ := le_spec h3
  obtain ⟨g1, g2, g3, g4⟩ := cells_of h4 h2
  exact ⟨.c (csOf (decL l).length (vnth l)) (decL l).length t, h1, g4, by show some (AObj.cells (lc _ _) t) = _; rw [g1], ⟨g2, g3⟩, rfl, h3⟩

theorem boxQ_spec {t : Nat} {x : V} {v : Value} (hx : VQ x v) {c : QO → (Pt → V) → Bool} (h : boxQ t x c = true) : ∃ ob, (cellsV v).all oneC = true ∧ decO ob = some (.cells (cellsV v) t) ∧ wfO ob ∧ own ob = true ∧ c ob ptQ = true := by
  rcases scl_spec h with ⟨hs, h⟩ | ⟨_, h⟩
  · rw [hx.eq hs.bot, hs.cells]
    have e : cget (.c1 (nfill x)) 0 = x := ng_fill _ _
    refine ⟨.c (.c1 (nfill x)) 1 t, by simp [hs.one], ?_, ⟨by show 1 ≤ 16; decide, fun i hi => ?_⟩, rfl, h⟩
    · show some (AObj.cells [dec (cget (.c1 (nfill x)) 0)] t) = _
      rw [e]
    · obtain rfl : i = 0 := by omega
      rw [e]; exact hs
  · obtain ⟨ob, h1, h2, h3, h4, h5, h6⟩ := boxL_own h
    rw [hx.eq h1.2, h1.1]
    exact ⟨ob, h2, h3, h4, h5, h6⟩

theorem allocC_spec {P : Program} {lv : Nat → Bool} {L : Lay} {t : TypeId} : MkS lv L (fun ρ => makeOp P ρ (.alloc t)) (allocC P t) := by
  intro tm e c he h
  unfold allocC at h
  split at h
  · rename_i z hz
    split at h
    · rename_i zv hzv
      have h' : boxL t (kvC zv).v c = true := h
      rw [kvC_eq] at h'
      obtain ⟨g1, _, _⟩ := encL_some hzv
      obtain ⟨ob, h1, h2, h3, h4, h5, h6⟩ := boxL_own h'
      rw [g1] at h2 h3
      refine ⟨ob, ptQ, _, ptrTo, ?_, h3, h4, h5, fun p => .inr rfl, h6⟩
      simp only [makeOp, hz, h2, cond_true]
    · cases h
  · cases h

def boxC (L : Lay) (t : TypeId) (x : Operand) : Mq := ⟨fun e c => boxQ t ((rd L x).g e) c⟩

theorem boxC_spec {P : Program} {lv : Nat → Bool} {L : Lay} {t : TypeId} {x : Operand} : MkS lv L (fun ρ => makeOp P ρ (.box t x)) (boxC L t x) := by
  intro tm e c he h
  obtain ⟨ob, h2, h3, h4, h5, h6⟩ := boxQ_spec (rd_spec he x) h
  refine ⟨ob, ptQ, _, ptrTo, ?_, h3, h4, h5, fun p => .inr rfl, h6⟩
  simp only [makeOp, h2, cond_true]

def mkMapC : Mq := ⟨fun _ c => c (.m .nil 0) .m⟩

theorem mkMapC_spec {P : Program} {lv : Nat → Bool} {L : Lay} {t : TypeId} : MkS lv L (fun ρ => makeOp P ρ (.makeMap t none)) mkMapC := by
  intro tm e c he h
  exact ⟨.m .nil 0, .m, .map [] 0, fun r => .map (some r), rfl, rfl, trivial, rfl, fun p => .inr rfl, h⟩

def rangeC (P : Program) (L : Lay) (t : TypeId) (x : Operand) : Mq :=
  match P.underlying t with
  | some .string => ⟨fun e c => asS ((rd L x).g e) fun l n => c (.r l n 0) ptQ⟩
  | _ => .bad

theorem rangeC_spec {P : Program} {lv : Nat → Bool} {L : Lay} {t : TypeId} {x : Operand} : MkS lv L (fun ρ => makeOp P ρ (.range t x)) (rangeC P L t x) := by
  intro tm e c he h
  unfold rangeC at h
  split at h
  · rename_i hs
    obtain ⟨l, n, hv, h⟩ := asS_spec h
    refine ⟨.r l n 0, ptQ, _, ptrTo, ?_, rfl, trivial, rfl, fun p => .inr rfl, h⟩
    have := (rd_spec he x).eq (by rw [hv]; simp)
    rw [hv] at this
    simp only [makeOp, hs, this, dec_s]
  · cases h

/-- A list again and again. -/
theorem zeros_len (z : List Value) : ∀ n, (zerosA z n).length = n * z.length
  | 0 => by simp [zerosA]
  | n + 1 => by simp only [zerosA, List.length_append, zeros_len z n]; rw [Nat.succ_mul]; omega

theorem zeros_get {z : List Value} : ∀ {n i : Nat}, i < n * z.length → (zerosA z n)[i]? = z[i % z.length]?
  | 0, i, h => by omega
  | n + 1, i, h => by
    simp only [zerosA]
    rw [Nat.succ_mul] at h
    by_cases hi : i < z.length
    · rw [List.getElem?_append_left hi, Nat.mod_eq_of_lt hi]
    · rw [List.getElem?_append_right (by omega), zeros_get (by omega)]
      congr 1
      rw [Nat.mod_eq_sub_mod (a := i) (by omega)]

def makeSliceC (P : Program) (L : Lay) (t : TypeId) (l c : Operand) : Mq :=
  match P.underlying t with
  | some (.slice e) => (match P.info? e, zeroA P e with
    | some i, some z => (match encL z with
      | some zv => bif Nat.beq z.length i.size && (Nat.blt 0 i.size && (Nat.blt 0 i.bytes && z.all oneC)) && (lenS zv fun _ => true) then
        ⟨fun en k => asI ((rd L l).g en) fun l => asI ((rd L c).g en) fun c => le c 9223372036854775807 (le l c (le (Nat.mul c i.bytes) 281474976710656 (lit (Nat.mul c i.size) fun n => le n 65536
          (k (.c (csOf n fun j => vnth (kvC zv).v (Nat.mod j i.size)) n e) fun q => .l q 0 l (Nat.mul 2 c)))))⟩ else .bad
      | none => .bad)
    | _, _ => .bad)
  | _ => .bad

theorem makeSliceC_spec {P : Program} {lv : Nat → Bool} {L : Lay} {t : TypeId} {l c : Operand} : MkS lv L (fun ρ => makeOp P ρ (.makeSlice t l c)) (makeSliceC P L t l c) := by
  intro tm e k he h
  unfold makeSliceC at h
  split at h
  · rename_i el hs
    split at h
    · rename_i i z hi hz
      split at h
      · rename_i zv hzv
        cases hc : (Nat.beq z.length i.size && (Nat.blt 0 i.size && (Nat.blt 0 i.bytes && z.all oneC)) && (lenS zv fun _ => true)) with
        | false => rw [hc] at h; cases h
        | true =>
          rw [hc, cond_true] at h
          simp only [Bool.and_eq_true] at hc
          obtain ⟨⟨c1, c2, c3, c4⟩, c5⟩ := hc
          obtain ⟨g1, _, _⟩ := encL_some hzv
          obtain ⟨_, g2, _⟩ := lenS_spec c5
          rw [g1] at g2
          obtain ⟨a, ha, h⟩ := asI_spec h
          obtain ⟨b, hb, h⟩ := asI_spec h
          obtain ⟨d0, h⟩ := le_spec h
          obtain ⟨d1, h⟩ := le_spec h
          obtain ⟨d2, h⟩ := le_spec h
          rw [lit_eq] at h
          obtain ⟨d3, h⟩ := le_spec h
          have va := (rd_spec he l).eq (by rw [ha]; simp)
          have vb := (rd_spec he c).eq (by rw [hb]; simp)
          rw [ha, dec_len (by omega)] at va
          rw [hb, dec_len (by omega)] at vb
          have ez : z.length = i.size := Nat.eq_of_beq_eq_true c1
          have hpos : 0 < i.size := by rw [Nat.blt_eq] at c2; exact c2
          obtain ⟨s1, s2⟩ := csOf_spec (Nat.mul b i.size) (fun j => vnth (kvC zv).v (Nat.mod j i.size)) d3
          rw [kvC_eq] at h s1 s2
          have hcell : ∀ j, j < b * i.size → cget (csOf (Nat.mul b i.size) fun j => vnth zv (Nat.mod j i.size)) j = vnth zv (j % i.size) := fun j hj => s2 j (Nat.lt_of_lt_of_le hj s1)
          have hmod : ∀ j, j % i.size < z.length := fun j => by rw [ez]; exact Nat.mod_lt _ hpos
          refine ⟨.c (csOf (Nat.mul b i.size) fun j => vnth zv (Nat.mod j i.size)) (Nat.mul b i.size) el, fun q => .l q 0 a (Nat.mul 2 b), _, fun r => .slice (some ⟨r, 0, none⟩) a (2 * b), ?_, rfl, ⟨s1, fun j hj => ?_⟩, rfl, fun p => .inr rfl, h⟩
          · have el2 : lc (csOf (Nat.mul b i.size) fun j => vnth zv (Nat.mod j i.size)) (Nat.mul b i.size) = zerosA z b := by
              apply List.ext_getElem?
              intro j
              by_cases hj : j < b * i.size
              · rw [lc_get (n := Nat.mul b i.size) _ hj, hcell j hj, zeros_get (by rw [ez]; exact hj), ez, (g2 (j % i.size) (hmod j)).2]
              · rw [List.getElem?_eq_none (by rw [lc_length]; exact Nat.not_lt.1 hj), List.getElem?_eq_none (by rw [zeros_len, ez]; exact Nat.not_lt.1 hj)]
            rw [el2]
            show makeSliceA P t (ev lv tm l) (ev lv tm c) = _
            rw [va, vb]
            unfold makeSliceA
            simp only [hs, hi, hz, c1, c2, c3, c4, Nat.ble_eq_true_of_le d1, Nat.ble_eq_true_of_le (show b * i.bytes ≤ 281474976710656 from d2), Bool.and_self, cond_true]
          · rw [hcell j hj]
            exact (g2 _ (hmod j)).1
      · cases h
    · cases h
  · cases h

def buildSliceC (P : Program) (L : Lay) (t : TypeId) (len : Nat) (parts : List (Nat × Operand)) : Mq :=
  match P.underlying t with
  | some (.slice e) => (match P.info? e, zeroA P e with
    | some i, some z => (match encL (zerosA z len) with
      | some zv => bif Nat.beq z.length i.size && (Nat.blt 0 i.size && Nat.ble (len * i.size) 16777216) then
        ⟨fun en k => fillQ L (fun k => some (k * i.size, i.size)) parts en (kvC zv).v fun l => boxL e l fun ob _ => k ob fun q => .l q 0 len (Nat.mul 2 len)⟩ else .bad
      | none => .bad)
    | _, _ => .bad)
  | _ => .bad

theorem buildSliceC_spec {P : Program} {lv : Nat → Bool} {L : Lay} {t : TypeId} {len : Nat} {parts : Array (Nat × Operand)} : MkS lv L (fun ρ => makeOp P ρ (.buildSlice t len parts)) (buildSliceC P L t len parts.toList) := by
  intro tm e k he h
  unfold buildSliceC at h
  split at h
  · rename_i el hs
    split at h
    · rename_i i z hi hz
      split at h
      · rename_i zv hzv
        cases hc : (Nat.beq z.length i.size && (Nat.blt 0 i.size && Nat.ble (len * i.size) 16777216)) with
        | false => rw [hc] at h; cases h
        | true =>
          rw [hc, cond_true] at h
          obtain ⟨g1, g2, g3⟩ := encL_some hzv
          obtain ⟨r, h1, h2, h3⟩ := fillQ_spec he (place := fun k => some (k * i.size, i.size)) (k := fun l => boxL el l fun ob _ => k ob fun q => .l q 0 len (Nat.mul 2 len)) (c := (kvC zv).v) (by rw [kvC_eq]; exact ⟨by rw [g2, g1], g3⟩) h
          rw [kvC_eq, g1] at h1
          obtain ⟨ob, _, f1, f2, f3, f4, f5⟩ := boxL_own h3
          refine ⟨ob, _, _, fun r => .slice (some ⟨r, 0, none⟩) len (2 * len), ?_, f2, f3, f4, fun p => .inr rfl, f5⟩
          show buildSliceA P t len parts.toList (ev lv tm) = _
          unfold buildSliceA
          simp only [hs, hi, hz, hc, cond_true, h1, f1]
      · cases h
    · cases h
  · cases h

end
end Go.Qm
