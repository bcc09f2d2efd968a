/- The quick machine's aggregates that are built, and its new blocks. The quick machine's append, copy, and walk along a text. The quick machine's single operations, made ready; a run of them in order. The quick machine's operations one behind the other. The quick machine's code: tests, blocks, loops; what it comes to the store's way comes to. The quick machine's open orders, functions and calls: what a call comes to, it comes to by the store. A run from the middle: the first two pieces of a function's text by the store's run, the rest quick. A table of a world, for the store's run and the quick one. A world that holds given variables; what a row's condition on its variables says of a world. No conditions. -/
import Derived.Test.YtjkhpjnhdijchaaQa
import Derived.Test.YtjkhpjnhdijchaaAb
import Derived.LaidHandle
import Derived.Lib.LaidTab
set_option linter.unusedVariables false
set_option linter.unusedSimpArgs false
set_option linter.unusedSectionVars false
set_option linter.constructorNameAsVariable false
namespace Go.Qm
open Go.Am
noncomputable section
variable [Rho]

theorem nbot_dec {x : V} (h : x ≠ .bot) : nbot (dec x) = true := by
  cases x <;> first | rfl | exact absurd rfl h | skip
  · rename_i c
    show nbot (nilV c) = true
    unfold nilV
    split <;> rfl
  · rename_i kd u
    cases kd <;> rfl

/-- One cell, or a list of them. -/
def scl (x : V) (r l : Bool) : Bool := V.rec (motive := fun _ => Bool) false (fun _ => r) (fun _ => r) (fun _ _ => r) (fun _ => r) (fun _ _ => r) (fun _ _ => r) (fun _ _ _ _ => r) (fun _ => r) (fun _ => r) (fun _ _ _ _ _ => r) (fun _ _ _ => r) l (fun _ _ _ _ => l) (fun _ _ => false) (fun _ _ => r) x

theorem scl_spec {x : V} {r l : Bool} (h : scl x r l = true) : (isSc x ∧ r = true) ∨ ((x = .nil ∨ ∃ a b, x = .cons a b) ∧ l = true) := by
  cases x <;> first | (cases h; done) | exact .inl ⟨rfl, h⟩ | exact .inr ⟨.inl rfl, h⟩ | exact .inr ⟨.inr ⟨_, _, rfl⟩, h⟩

def repN (m : Nat) : V → V → (V → Bool) → Bool :=
  Nat.rec (motive := fun _ => V → V → (V → Bool) → Bool) (fun v l k => asC v (asC l (k .nil) fun h t => k (.cons h t)) fun _ _ => false) (fun _ ih v l k => asC v false fun a b => asC l false fun _ t => ih b t fun r => k (.cons a r)) m

/-- A list's value is a struct's. -/
def isL (x : V) : Prop := dec x = .agg ⟨decL x⟩ ∧ x ≠ .bot

theorem isL.nil : isL .nil := ⟨rfl, by simp⟩
theorem isL.cons (a b : V) : isL (.cons a b) := ⟨rfl, by simp⟩

theorem repN_spec : ∀ {m : Nat} {v l : V} {k : V → Bool}, repN m v l k = true → ∃ r, isL v ∧ (decL v).length = m ∧ m ≤ (decL l).length ∧ decL r = decL v ++ (decL l).drop m ∧ isL r ∧ k r = true
  | 0, v, l, k, h => by
    rcases asC_spec h with ⟨rfl, h⟩ | ⟨_, _, _, h⟩
    · rcases asC_spec h with ⟨rfl, h⟩ | ⟨a, b, rfl, h⟩
      · exact ⟨_, isL.nil, rfl, Nat.zero_le _, rfl, isL.nil, h⟩
      · exact ⟨_, isL.nil, rfl, Nat.zero_le _, rfl, isL.cons _ _, h⟩
    · cases h
  | m + 1, v, l, k, h => by
    rcases asC_spec h with ⟨_, h⟩ | ⟨a, b, rfl, h⟩
    · cases h
    · rcases asC_spec h with ⟨_, h⟩ | ⟨a', t, rfl, h⟩
      · cases h
      · obtain ⟨r, _, h1, h2, h3, _, h4⟩ := repN_spec (m := m) (v := b) (l := t) (k := fun r => k (.cons a r)) h
        refine ⟨.cons a r, isL.cons _ _, ?_, ?_, ?_, isL.cons _ _, h4⟩
        · show (dec a :: decL b).length = m + 1
          simp [h1]
        · show m + 1 ≤ (dec a' :: decL t).length
          simpa using h2
        · show dec a :: decL r = (dec a :: decL b) ++ (dec a' :: decL t).drop (m + 1)
          rw [h3, List.drop_succ_cons, List.cons_append]

/-- A thing of so many cells is laid at a list's head. -/
def putC (m : Nat) (v l : V) (k : V → Bool) : Bool := scl v (eq m 1 (asC l false fun _ t => k (.cons v t))) (repN m v l k)

theorem putC_spec {m : Nat} {v l : V} {u : Value} {k : V → Bool} (hv : VQ v u) (h : putC m v l k = true) : ∃ r, nbot u = true ∧ (cellsV u).length = m ∧ m ≤ (decL l).length ∧ decL r = cellsV u ++ (decL l).drop m ∧ isL r ∧ k r = true := by
  rcases scl_spec h with ⟨hs, h⟩ | ⟨_, h⟩
  · obtain ⟨rfl, h⟩ := eq_spec h
    rcases asC_spec h with ⟨_, h⟩ | ⟨a, t, rfl, h⟩
    · cases h
    · rw [hv.eq hs.bot, hs.cells]
      refine ⟨.cons v t, nbot_dec hs.bot, rfl, ?_, rfl, isL.cons _ _, h⟩
      show 1 ≤ (dec a :: decL t).length
      simp
  · obtain ⟨r, h1, h2, h3, h4, h5, h6⟩ := repN_spec h
    rw [hv.eq h1.2, h1.1]
    exact ⟨r, rfl, h2, h3, h4, h5, h6⟩

def downC (off : Nat) : V → (V → (V → Bool) → Bool) → (V → Bool) → Bool :=
  Nat.rec (motive := fun _ => V → (V → (V → Bool) → Bool) → (V → Bool) → Bool) (fun l f k => f l k) (fun _ ih l f k => asC l false fun h t => ih t f fun r => k (.cons h r)) off

theorem downC_spec : ∀ {off : Nat} {l : V} {f : V → (V → Bool) → Bool} {k : V → Bool}, downC off l f k = true → ∃ l0 k', decL l0 = (decL l).drop off ∧ off ≤ (decL l).length ∧ f l0 k' = true ∧
    ∀ r, isL r → k' r = true → ∃ r', decL r' = (decL l).take off ++ decL r ∧ isL r' ∧ k r' = true
  | 0, l, f, k, h => ⟨l, k, rfl, Nat.zero_le _, h, fun r hr hk => ⟨r, rfl, hr, hk⟩⟩
  | off + 1, l, f, k, h => by
    rcases asC_spec h with ⟨_, h⟩ | ⟨a, t, rfl, h⟩
    · cases h
    · obtain ⟨l0, k', h1, h2, h3, h4⟩ := downC_spec (off := off) (l := t) (f := f) (k := fun r => k (.cons a r)) h
      refine ⟨l0, k', h1, by show off + 1 ≤ (dec a :: decL t).length; simpa using h2, h3, fun r hr hk => ?_⟩
      obtain ⟨r', g1, g2, g3⟩ := h4 r hr hk
      exact ⟨.cons a r', by show dec a :: decL r' = (dec a :: decL t).take (off + 1) ++ decL r; rw [g1]; rfl, isL.cons _ _, g3⟩

def fillQ (L : Lay) (place : Nat → Option (Nat × Nat)) (parts : List (Nat × Operand)) : En → V → (V → Bool) → Bool :=
  List.rec (motive := fun _ => En → V → (V → Bool) → Bool) (fun _ c k => k c) (fun p _ ih e c k => match place p.1 with
    | some r => downC r.1 c (putC r.2 ((rd L p.2).g e)) fun c' => ih e c' k
    | none => false) parts

theorem fillQ_spec {lv : Nat → Bool} {L : Lay} {e : En} {tm : TM} (he : ER lv L e tm) {place : Nat → Option (Nat × Nat)} : ∀ {parts : List (Nat × Operand)} {c : V} {k : V → Bool}, isL c → fillQ L place parts e c k = true →
    ∃ r, fillA place (ev lv tm) (decL c) parts = some (decL r) ∧ isL r ∧ k r = true
  | [], c, k, hc, h => ⟨c, rfl, hc, h⟩
  | (i, x) :: rest, c, k, hc, h => by
    have h' : (match place i with
      | some r => downC r.1 c (putC r.2 ((rd L x).g e)) fun c' => fillQ L place rest e c' k
      | none => false) = true := h
    split at h'
    · rename_i r hp
      obtain ⟨l0, k', h1, h2, h3, h4⟩ := downC_spec h'
      obtain ⟨r1, g1, g2, g3, g4, g5, g6⟩ := putC_spec (rd_spec he x) h3
      obtain ⟨r2, f1, f2, f3⟩ := h4 r1 g5 g6
      obtain ⟨r3, e1, e2, e3⟩ := fillQ_spec he (parts := rest) f2 f3
      refine ⟨r3, ?_, e2, e3⟩
      obtain ⟨off, size⟩ := r
      rw [h1, List.length_drop] at g3
      simp only at h2 g2 g3 g4 f1
      unfold fillA
      simp only [hp, g1, g2]
      rw [show Nat.beq size size = true from by simp, Nat.ble_eq_true_of_le (show off + size ≤ (decL c).length by omega), Bool.and_self, Bool.and_self, cond_true]
      have : setC (decL c) off (cellsV (ev lv tm x)) = decL r2 := by
        unfold setC
        rw [f1, g4, h1, List.drop_drop, g2]
      rw [this]
      exact e1
    · cases h'

structure Bq where
  f : En → (V → Bool) → Bool
def Bq.bad : Bq := ⟨fun _ _ => false⟩

def buildC (P : Program) (L : Lay) (t : TypeId) (parts : List (Nat × Operand)) : Bq :=
  match P.underlying t with
  | some (.struct fs) => (match zeroA P t, placesA P fs.toList with
    | some z, some places => (match encL z with
      | some zv => ⟨fun e k => fillQ L (fun i => places[i]?) parts e (kvC zv).v k⟩
      | none => .bad)
    | _, _ => .bad)
  | some (.array _ el) => (match zeroA P t, P.info? el with
    | some z, some ei => (match encL z with
      | some zv => ⟨fun e k => fillQ L (fun i => some (i * ei.size, ei.size)) parts e (kvC zv).v k⟩
      | none => .bad)
    | _, _ => .bad)
  | _ => .bad

theorem buildC_spec {P : Program} {lv : Nat → Bool} {L : Lay} {e : En} {tm : TM} (he : ER lv L e tm) {t : TypeId} {parts : List (Nat × Operand)} {k : V → Bool} (h : (buildC P L t parts).f e k = true) : ∃ r, buildA P t parts (ev lv tm) = some (dec r) ∧ k r = true := by
  unfold buildC at h
  split at h
  · rename_i fs hs
    split at h
    · rename_i z places hz hp
      split at h
      · rename_i zv hzv
        obtain ⟨h1, h2, h3⟩ := encL_some hzv
        obtain ⟨r, g1, g2, g3⟩ := fillQ_spec he (c := (kvC zv).v) (by rw [kvC_eq]; exact ⟨by rw [h2, h1], h3⟩) h
        rw [kvC_eq, h1] at g1
        refine ⟨r, ?_, g3⟩
        unfold buildA
        simp only [hs, hz, hp, g1]
        rw [g2.1]
      · cases h
    · cases h
  · rename_i n el hs
    split at h
    · rename_i z ei hz hi
      split at h
      · rename_i zv hzv
        obtain ⟨h1, h2, h3⟩ := encL_some hzv
        obtain ⟨r, g1, g2, g3⟩ := fillQ_spec he (place := fun i => some (i * ei.size, ei.size)) (k := k) (c := (kvC zv).v) (by rw [kvC_eq]; exact ⟨by rw [h2, h1], h3⟩) h
        rw [kvC_eq, h1] at g1
        refine ⟨r, ?_, g3⟩
        unfold buildA
        simp only [hs, hz, hi, g1]
        rw [g2.1]
      · cases h
    · cases h
  · cases h

/-! Cells, all at once. -/

def of1 (f : Nat → V) (b : Nat) : N V := ⟨f b, f (b + 1), f (b + 2), f (b + 3), f (b + 4), f (b + 5), f (b + 6), f (b + 7), f (b + 8), f (b + 9), f (b + 10), f (b + 11), f (b + 12), f (b + 13), f (b + 14), f (b + 15)⟩
def ofN {α : Type} (g : Nat → N α) (w b : Nat) : N (N α) := ⟨g b, g (b + w), g (b + 2 * w), g (b + 3 * w), g (b + 4 * w), g (b + 5 * w), g (b + 6 * w), g (b + 7 * w), g (b + 8 * w), g (b + 9 * w), g (b + 10 * w), g (b + 11 * w), g (b + 12 * w), g (b + 13 * w), g (b + 14 * w), g (b + 15 * w)⟩

theorem ng_of1 (f : Nat → V) (b : Nat) (d : D) : ng d (of1 f b) = f (b + d.v) := by cases d <;> rfl
theorem ng_ofN {α : Type} (g : Nat → N α) (w b : Nat) (d : D) : ng d (ofN g w b) = g (b + d.v * w) := by
  cases d with
  | d0 => show g b = g (b + 0 * w); rw [Nat.zero_mul]; rfl
  | d1 => show g (b + w) = g (b + 1 * w); rw [Nat.one_mul]
  | _ => rfl

/-- Room for so many, filled. -/
def csOf (m : Nat) (f : Nat → V) : Cs V :=
  Bool.rec (motive := fun _ => Cs V) (Bool.rec (motive := fun _ => Cs V) (Bool.rec (motive := fun _ => Cs V) (.c4 (ofN (ofN (ofN (of1 f) 16) 256) 4096 0)) (.c3 (ofN (ofN (of1 f) 16) 256 0)) (Nat.ble m 4096)) (.c2 (ofN (of1 f) 16 0)) (Nat.ble m 256)) (.c1 (of1 f 0)) (Nat.ble m 16)

theorem csOf_spec (m : Nat) (f : Nat → V) (hm : m ≤ 65536) : m ≤ (csOf m f).cap ∧ ∀ i, i < (csOf m f).cap → cget (csOf m f) i = f i := by
  unfold csOf
  cases h1 : Nat.ble m 16 with
  | true =>
    refine ⟨Nat.le_of_ble_eq_true h1, fun i hi => ?_⟩
    have hi' : i < 16 := hi
    show ng (dig i) (of1 f 0) = f i
    rw [ng_of1, dig_v]
    congr 1; omega
  | false =>
    cases h2 : Nat.ble m 256 with
    | true =>
      refine ⟨Nat.le_of_ble_eq_true h2, fun i hi => ?_⟩
      have hi' : i < 256 := hi
      show ng (dig i) (ng (dig (i / 16)) (ofN (of1 f) 16 0)) = f i
      rw [ng_ofN, ng_of1, dig_v, dig_v]
      congr 1; omega
    | false =>
      cases h3 : Nat.ble m 4096 with
      | true =>
        refine ⟨Nat.le_of_ble_eq_true h3, fun i hi => ?_⟩
        have hi' : i < 4096 := hi
        show ng (dig i) (ng (dig (i / 16)) (ng (dig (i / 256)) (ofN (ofN (of1 f) 16) 256 0))) = f i
        rw [ng_ofN, ng_ofN, ng_of1, dig_v, dig_v, dig_v]
        congr 1; omega
      | false =>
        refine ⟨hm, fun i hi => ?_⟩
        have hi' : i < 65536 := hi
        show ng (dig i) (ng (dig (i / 16)) (ng (dig (i / 256)) (ng (dig (i / 4096)) (ofN (ofN (ofN (of1 f) 16) 256) 4096 0)))) = f i
        rw [ng_ofN, ng_ofN, ng_ofN, ng_of1, dig_v, dig_v, dig_v, dig_v]
        congr 1; omega

/-- A list's element. -/
def vnth (l : V) : Nat → V := V.rec (motive := fun _ => Nat → V) (fun _ => .bot) (fun _ _ => .bot) (fun _ _ => .bot) (fun _ _ _ => .bot) (fun _ _ => .bot) (fun _ _ _ => .bot) (fun _ _ _ => .bot) (fun _ _ _ _ _ => .bot) (fun _ _ => .bot) (fun _ _ => .bot) (fun _ _ _ _ _ _ => .bot) (fun _ _ _ _ => .bot) (fun _ => .bot) (fun h _ _ ih i => Nat.rec (motive := fun _ => V) h (fun j _ => ih j) i) (fun _ _ _ => .bot) (fun _ _ => (fun _ => .bot)) l

/-- How many, each of one cell. -/
def lenS (l : V) : (Nat → Bool) → Bool := V.rec (motive := fun _ => (Nat → Bool) → Bool) (fun _ => false) (fun _ _ => false) (fun _ _ => false) (fun _ _ _ => false) (fun _ _ => false) (fun _ _ _ => false) (fun _ _ _ => false) (fun _ _ _ _ _ => false) (fun _ _ => false) (fun _ _ => false) (fun _ _ _ _ _ _ => false) (fun _ _ _ _ => false) (fun k => k 0) (fun h _ _ ih k => sc h (ih fun n => k (Nat.succ n))) (fun _ _ _ => false) (fun _ _ => (fun _ => false)) l

theorem lenS_spec : ∀ {l : V} {k : Nat → Bool}, lenS l k = true → isL l ∧ (∀ i, i < (decL l).length → isSc (vnth l i) ∧ (decL l)[i]? = some (dec (vnth l i))) ∧ k (decL l).length = true
  | .nil, k, h => ⟨isL.nil, fun i hi => absurd hi (Nat.not_lt_zero _), h⟩
  | .cons a b, k, h => by
    have hs := isSc.of (r := lenS b fun n => k (Nat.succ n)) h
    obtain ⟨_, _, _, h⟩ := sc_spec (r := lenS b fun n => k (Nat.succ n)) h
    obtain ⟨_, h2, h3⟩ := lenS_spec (l := b) h
    refine ⟨isL.cons _ _, fun i hi => ?_, h3⟩
    cases i with
    | zero => exact ⟨hs, rfl⟩
    | succ i =>
      have hi' : i + 1 < (dec a :: decL b).length := hi
      have := h2 i (by simpa using hi')
      exact ⟨this.1, by show (dec a :: decL b)[i + 1]? = _; rw [List.getElem?_cons_succ]; exact this.2⟩
  | .bot, _, h => by cases h
  | .i _, _, h => by cases h
  | .y _, _, h => by cases h
  | .z _ _, _, h => by cases h
  | .b _, _, h => by cases h
  | .p _ _, _, h => by cases h
  | .s _ _, _, h => by cases h
  | .l _ _ _ _, _, h => by cases h
  | .n _, _, h => by cases h
  | .m _, _, h => by cases h
  | .f _ _ _, _, h => by cases h
  | .e _ _, _, h => by cases h
  | .t _, _, h => by cases h

/-- A block of a list's things. -/
theorem cells_of {l : V} (hm : (decL l).length ≤ 65536) (h : ∀ i, i < (decL l).length → isSc (vnth l i) ∧ (decL l)[i]? = some (dec (vnth l i))) :
    lc (csOf (decL l).length (vnth l)) (decL l).length = decL l ∧ (decL l).length ≤ (csOf (decL l).length (vnth l)).cap ∧ (∀ i, i < (decL l).length → isSc (cget (csOf (decL l).length (vnth l)) i)) ∧ (decL l).all oneC = true := by
  obtain ⟨h1, h2⟩ := csOf_spec (decL l).length (vnth l) hm
  have e : ∀ i, i < (decL l).length → cget (csOf (decL l).length (vnth l)) i = vnth l i := fun i hi => h2 i (by omega)
  have hl : lc (csOf (decL l).length (vnth l)) (decL l).length = decL l := by
    apply List.ext_getElem?
    intro i
    by_cases hi : i < (decL l).length
    · rw [lc_get _ hi, e i hi, (h i hi).2]
    · rw [List.getElem?_eq_none (by rw [lc_length]; omega), List.getElem?_eq_none (by omega)]
  have hsc : ∀ i, i < (decL l).length → isSc (cget (csOf (decL l).length (vnth l)) i) := fun i hi => by rw [e i hi]; exact (h i hi).1
  exact ⟨hl, h1, hsc, by rw [← hl]; exact lc_all hsc⟩

/-! New blocks. -/

structure Mq where
  f : En → (QO → (Pt → V) → Bool) → Bool
def Mq.bad : Mq := ⟨fun _ _ => false⟩

def ptQ (q : Pt) : V := .p q 0

/-- A block of a list's cells. -/
def boxL (t : Nat) (l : V) (c : QO → (Pt → V) → Bool) : Bool := lenS l fun n => le n 65536 (c (.c (csOf n (vnth l)) n t) ptQ)

theorem boxL_spec {t : Nat} {l : V} {c : QO → (Pt → V) → Bool} (h : boxL t l c = true) : ∃ ob, isL l ∧ (decL l).all oneC = true ∧ decO ob = some (.cells (decL l) t) ∧ wfO ob ∧ c ob ptQ = true := by
  obtain ⟨h1, h2, h3⟩ := lenS_spec h
  obtain ⟨h4, h3⟩ := le_spec h3
  obtain ⟨g1, g2, g3, g4⟩ := cells_of h4 h2
  exact ⟨.c (csOf (decL l).length (vnth l)) (decL l).length t, h1, g4, by show some (AObj.cells (lc _ _) t) = _; rw [g1], ⟨g2, g3⟩, h3⟩

def boxQ (t : Nat) (x : V) (c : QO → (Pt → V) → Bool) : Bool := scl x (c (.c (.c1 (nfill x)) 1 t) ptQ) (boxL t x c)

def allocC (P : Program) (t : TypeId) : Mq :=
  match zeroA P t with
  | some z => (match encL z with
    | some zv => ⟨fun _ c => boxL t (kvC zv).v c⟩
    | none => .bad)
  | none => .bad

/-- What a maker of blocks owes. -/
def MkS (lv : Nat → Bool) (L : Lay) (f : Ev → Option (AObj × (Nat → Value))) (q : Mq) : Prop :=
  ∀ tm e c, ER lv L e tm → q.f e c = true → ∃ ob val o fv, f (ev lv tm) = some (o, fv) ∧ decO ob = some o ∧ wfO ob ∧ own ob = true ∧ (∀ p : Pt, VQ (val p) (fv p.num)) ∧ c ob val = true

theorem own_cells {ob : QO} {l : List Value} {e : Nat} (h : ∃ cs n t, ob = .c cs n t) : own ob = true := by
  obtain ⟨_, _, _, rfl⟩ := h; rfl

theorem boxL_own {t : Nat} {l : V} {c : QO → (Pt → V) → Bool} (h : boxL t l c = true) : ∃ ob, isL l ∧ (decL l).all oneC = true ∧ decO ob = some (.cells (decL l) t) ∧ wfO ob ∧ own ob = true ∧ c ob ptQ = true := by
  obtain ⟨h1, h2, h3⟩ := lenS_spec h
  obtain ⟨h4, h3⟩ := le_spec h3
  obtain ⟨g1, g2, g3, g4⟩ := cells_of h4 h2
  exact ⟨.c (csOf (decL l).length (vnth l)) (decL l).length t, h1, g4, by show some (AObj.cells (lc _ _) t) = _; rw [g1], ⟨g2, g3⟩, rfl, h3⟩

theorem boxQ_spec {t : Nat} {x : V} {v : Value} (hx : VQ x v) {c : QO → (Pt → V) → Bool} (h : boxQ t x c = true) : ∃ ob, (cellsV v).all oneC = true ∧ decO ob = some (.cells (cellsV v) t) ∧ wfO ob ∧ own ob = true ∧ c ob ptQ = true := by
  rcases scl_spec h with ⟨hs, h⟩ | ⟨_, h⟩
  · rw [hx.eq hs.bot, hs.cells]
    have e : cget (.c1 (nfill x)) 0 = x := ng_fill _ _
    refine ⟨.c (.c1 (nfill x)) 1 t, by simp [hs.one], ?_, ⟨by show 1 ≤ 16; decide, fun i hi => ?_⟩, rfl, h⟩
    · show some (AObj.cells [dec (cget (.c1 (nfill x)) 0)] t) = _
      rw [e]
    · obtain rfl : i = 0 := by omega
      rw [e]; exact hs
  · obtain ⟨ob, h1, h2, h3, h4, h5, h6⟩ := boxL_own h
    rw [hx.eq h1.2, h1.1]
    exact ⟨ob, h2, h3, h4, h5, h6⟩

theorem allocC_spec {P : Program} {lv : Nat → Bool} {L : Lay} {t : TypeId} : MkS lv L (fun ρ => makeOp P ρ (.alloc t)) (allocC P t) := by
  intro tm e c he h
  unfold allocC at h
  split at h
  · rename_i z hz
    split at h
    · rename_i zv hzv
      have h' : boxL t (kvC zv).v c = true := h
      rw [kvC_eq] at h'
      obtain ⟨g1, _, _⟩ := encL_some hzv
      obtain ⟨ob, h1, h2, h3, h4, h5, h6⟩ := boxL_own h'
      rw [g1] at h2 h3
      refine ⟨ob, ptQ, _, ptrTo, ?_, h3, h4, h5, fun p => .inr rfl, h6⟩
      simp only [makeOp, hz, h2, cond_true]
    · cases h
  · cases h

def boxC (L : Lay) (t : TypeId) (x : Operand) : Mq := ⟨fun e c => boxQ t ((rd L x).g e) c⟩

theorem boxC_spec {P : Program} {lv : Nat → Bool} {L : Lay} {t : TypeId} {x : Operand} : MkS lv L (fun ρ => makeOp P ρ (.box t x)) (boxC L t x) := by
  intro tm e c he h
  obtain ⟨ob, h2, h3, h4, h5, h6⟩ := boxQ_spec (rd_spec he x) h
  refine ⟨ob, ptQ, _, ptrTo, ?_, h3, h4, h5, fun p => .inr rfl, h6⟩
  simp only [makeOp, h2, cond_true]

def mkMapC : Mq := ⟨fun _ c => c (.m .nil 0) .m⟩

theorem mkMapC_spec {P : Program} {lv : Nat → Bool} {L : Lay} {t : TypeId} : MkS lv L (fun ρ => makeOp P ρ (.makeMap t none)) mkMapC := by
  intro tm e c he h
  exact ⟨.m .nil 0, .m, .map [] 0, fun r => .map (some r), rfl, rfl, trivial, rfl, fun p => .inr rfl, h⟩

def rangeC (P : Program) (L : Lay) (t : TypeId) (x : Operand) : Mq :=
  match P.underlying t with
  | some .string => ⟨fun e c => asS ((rd L x).g e) fun l n => c (.r l n 0) ptQ⟩
  | _ => .bad

theorem rangeC_spec {P : Program} {lv : Nat → Bool} {L : Lay} {t : TypeId} {x : Operand} : MkS lv L (fun ρ => makeOp P ρ (.range t x)) (rangeC P L t x) := by
  intro tm e c he h
  unfold rangeC at h
  split at h
  · rename_i hs
    obtain ⟨l, n, hv, h⟩ := asS_spec h
    refine ⟨.r l n 0, ptQ, _, ptrTo, ?_, rfl, trivial, rfl, fun p => .inr rfl, h⟩
    have := (rd_spec he x).eq (by rw [hv]; simp)
    rw [hv] at this
    simp only [makeOp, hs, this, dec_s]
  · cases h

/-- A list again and again. -/
theorem zeros_len (z : List Value) : ∀ n, (zerosA z n).length = n * z.length
  | 0 => by simp [zerosA]
  | n + 1 => by simp only [zerosA, List.length_append, zeros_len z n]; rw [Nat.succ_mul]; omega

theorem zeros_get {z : List Value} : ∀ {n i : Nat}, i < n * z.length → (zerosA z n)[i]? = z[i % z.length]?
  | 0, i, h => by omega
  | n + 1, i, h => by
    simp only [zerosA]
    rw [Nat.succ_mul] at h
    by_cases hi : i < z.length
    · rw [List.getElem?_append_left hi, Nat.mod_eq_of_lt hi]
    · rw [List.getElem?_append_right (by omega), zeros_get (by omega)]
      congr 1
      rw [Nat.mod_eq_sub_mod (a := i) (by omega)]

def makeSliceC (P : Program) (L : Lay) (t : TypeId) (l c : Operand) : Mq :=
  match P.underlying t with
  | some (.slice e) => (match P.info? e, zeroA P e with
    | some i, some z => (match encL z with
      | some zv => bif Nat.beq z.length i.size && (Nat.blt 0 i.size && (Nat.blt 0 i.bytes && z.all oneC)) && (lenS zv fun _ => true) then
        ⟨fun en k => asI ((rd L l).g en) fun l => asI ((rd L c).g en) fun c => le c 9223372036854775807 (le l c (le (Nat.mul c i.bytes) 281474976710656 (lit (Nat.mul c i.size) fun n => le n 65536
          (k (.c (csOf n fun j => vnth (kvC zv).v (Nat.mod j i.size)) n e) fun q => .l q 0 l (Nat.mul 2 c)))))⟩ else .bad
      | none => .bad)
    | _, _ => .bad)
  | _ => .bad

theorem makeSliceC_spec {P : Program} {lv : Nat → Bool} {L : Lay} {t : TypeId} {l c : Operand} : MkS lv L (fun ρ => makeOp P ρ (.makeSlice t l c)) (makeSliceC P L t l c) := by
  intro tm e k he h
  unfold makeSliceC at h
  split at h
  · rename_i el hs
    split at h
    · rename_i i z hi hz
      split at h
      · rename_i zv hzv
        cases hc : (Nat.beq z.length i.size && (Nat.blt 0 i.size && (Nat.blt 0 i.bytes && z.all oneC)) && (lenS zv fun _ => true)) with
        | false => rw [hc] at h; cases h
        | true =>
          rw [hc, cond_true] at h
          simp only [Bool.and_eq_true] at hc
          obtain ⟨⟨c1, c2, c3, c4⟩, c5⟩ := hc
          obtain ⟨g1, _, _⟩ := encL_some hzv
          obtain ⟨_, g2, _⟩ := lenS_spec c5
          rw [g1] at g2
          obtain ⟨a, ha, h⟩ := asI_spec h
          obtain ⟨b, hb, h⟩ := asI_spec h
          obtain ⟨d0, h⟩ := le_spec h
          obtain ⟨d1, h⟩ := le_spec h
          obtain ⟨d2, h⟩ := le_spec h
          rw [lit_eq] at h
          obtain ⟨d3, h⟩ := le_spec h
          have va := (rd_spec he l).eq (by rw [ha]; simp)
          have vb := (rd_spec he c).eq (by rw [hb]; simp)
          rw [ha, dec_len (by omega)] at va
          rw [hb, dec_len (by omega)] at vb
          have ez : z.length = i.size := Nat.eq_of_beq_eq_true c1
          have hpos : 0 < i.size := by rw [Nat.blt_eq] at c2; exact c2
          obtain ⟨s1, s2⟩ := csOf_spec (Nat.mul b i.size) (fun j => vnth (kvC zv).v (Nat.mod j i.size)) d3
          rw [kvC_eq] at h s1 s2
          have hcell : ∀ j, j < b * i.size → cget (csOf (Nat.mul b i.size) fun j => vnth zv (Nat.mod j i.size)) j = vnth zv (j % i.size) := fun j hj => s2 j (Nat.lt_of_lt_of_le hj s1)
          have hmod : ∀ j, j % i.size < z.length := fun j => by rw [ez]; exact Nat.mod_lt _ hpos
          refine ⟨.c (csOf (Nat.mul b i.size) fun j => vnth zv (Nat.mod j i.size)) (Nat.mul b i.size) el, fun q => .l q 0 a (Nat.mul 2 b), _, fun r => .slice (some ⟨r, 0, none⟩) a (2 * b), ?_, rfl, ⟨s1, fun j hj => ?_⟩, rfl, fun p => .inr rfl, h⟩
          · have el2 : lc (csOf (Nat.mul b i.size) fun j => vnth zv (Nat.mod j i.size)) (Nat.mul b i.size) = zerosA z b := by
              apply List.ext_getElem?
              intro j
              by_cases hj : j < b * i.size
              · rw [lc_get (n := Nat.mul b i.size) _ hj, hcell j hj, zeros_get (by rw [ez]; exact hj), ez, (g2 (j % i.size) (hmod j)).2]
              · rw [List.getElem?_eq_none (by rw [lc_length]; exact Nat.not_lt.1 hj), List.getElem?_eq_none (by rw [zeros_len, ez]; exact Nat.not_lt.1 hj)]
            rw [el2]
            show makeSliceA P t (ev lv tm l) (ev lv tm c) = _
            rw [va, vb]
            unfold makeSliceA
            simp only [hs, hi, hz, c1, c2, c3, c4, Nat.ble_eq_true_of_le d1, Nat.ble_eq_true_of_le (show b * i.bytes ≤ 281474976710656 from d2), Bool.and_self, cond_true]
          · rw [hcell j hj]
            exact (g2 _ (hmod j)).1
      · cases h
    · cases h
  · cases h

def buildSliceC (P : Program) (L : Lay) (t : TypeId) (len : Nat) (parts : List (Nat × Operand)) : Mq :=
  match P.underlying t with
  | some (.slice e) => (match P.info? e, zeroA P e with
    | some i, some z => (match encL (zerosA z len) with
      | some zv => bif Nat.beq z.length i.size && (Nat.blt 0 i.size && Nat.ble (len * i.size) 16777216) then
        ⟨fun en k => fillQ L (fun k => some (k * i.size, i.size)) parts en (kvC zv).v fun l => boxL e l fun ob _ => k ob fun q => .l q 0 len (Nat.mul 2 len)⟩ else .bad
      | none => .bad)
    | _, _ => .bad)
  | _ => .bad

theorem buildSliceC_spec {P : Program} {lv : Nat → Bool} {L : Lay} {t : TypeId} {len : Nat} {parts : Array (Nat × Operand)} : MkS lv L (fun ρ => makeOp P ρ (.buildSlice t len parts)) (buildSliceC P L t len parts.toList) := by
  intro tm e k he h
  unfold buildSliceC at h
  split at h
  · rename_i el hs
    split at h
    · rename_i i z hi hz
      split at h
      · rename_i zv hzv
        cases hc : (Nat.beq z.length i.size && (Nat.blt 0 i.size && Nat.ble (len * i.size) 16777216)) with
        | false => rw [hc] at h; cases h
        | true =>
          rw [hc, cond_true] at h
          obtain ⟨g1, g2, g3⟩ := encL_some hzv
          obtain ⟨r, h1, h2, h3⟩ := fillQ_spec he (place := fun k => some (k * i.size, i.size)) (k := fun l => boxL el l fun ob _ => k ob fun q => .l q 0 len (Nat.mul 2 len)) (c := (kvC zv).v) (by rw [kvC_eq]; exact ⟨by rw [g2, g1], g3⟩) h
          rw [kvC_eq, g1] at h1
          obtain ⟨ob, _, f1, f2, f3, f4, f5⟩ := boxL_own h3
          refine ⟨ob, _, _, fun r => .slice (some ⟨r, 0, none⟩) len (2 * len), ?_, f2, f3, f4, fun p => .inr rfl, f5⟩
          show buildSliceA P t len parts.toList (ev lv tm) = _
          unfold buildSliceA
          simp only [hs, hi, hz, hc, cond_true, h1, f1]
      · cases h
    · cases h
  · cases h

end
end Go.Qm

set_option linter.unusedVariables false
set_option linter.unusedSimpArgs false
set_option linter.unusedSectionVars false
set_option linter.constructorNameAsVariable false
namespace Go.Qm
open Go.Am
noncomputable section
variable [Rho]

/-- Room for so many. -/
def ensQ (hi : Nat) (cs : Cs V) (k : Cs V → Bool) : Bool :=
  leo hi cs.cap (k cs) (cgrow .bot cs fun c1 => leo hi c1.cap (k c1) (cgrow .bot c1 fun c2 => leo hi c2.cap (k c2) (cgrow .bot c2 fun c3 => le hi c3.cap (k c3))))

theorem ensQ_spec {hi : Nat} {cs : Cs V} {k : Cs V → Bool} (h : ensQ hi cs k = true) : ∃ c' : Cs V, hi ≤ c'.cap ∧ cs.cap ≤ c'.cap ∧ (∀ j, j < cs.cap → cget c' j = cget cs j) ∧ k c' = true := by
  rcases leo_spec h with ⟨h1, h⟩ | h
  · exact ⟨cs, h1, Nat.le_refl _, fun _ _ => rfl, h⟩
  obtain ⟨c1, h, e1, g1⟩ := cgrow_spec h
  rcases leo_spec h with ⟨h1, h⟩ | h
  · exact ⟨c1, h1, by omega, g1, h⟩
  obtain ⟨c2, h, e2, g2⟩ := cgrow_spec h
  rcases leo_spec h with ⟨h1, h⟩ | h
  · exact ⟨c2, h1, by omega, fun j hj => by rw [g2 j (by omega), g1 j hj], h⟩
  obtain ⟨c3, h, e3, g3⟩ := cgrow_spec h
  obtain ⟨h1, h⟩ := le_spec h
  exact ⟨c3, h1, by omega, fun j hj => by rw [g3 j (by omega), g2 j (by omega), g1 j hj], h⟩

/-- A text's bytes, as cells. -/
def strV : Nat → Nat → V
  | 0, _ => .nil
  | l + 1, n => .cons (.y (n % 256)) (strV l (n / 256))

def strK (l : Nat) : Nat → (V → Bool) → Bool :=
  Nat.rec (motive := fun _ => Nat → (V → Bool) → Bool) (fun _ k => k .nil) (fun _ ih n k => lit (Nat.mod n 256) fun b => lit (Nat.div n 256) fun m => ih m fun t => k (.cons (.y b) t)) l

theorem strK_eq : ∀ (l n : Nat) (k : V → Bool), strK l n k = k (strV l n)
  | 0, _, _ => rfl
  | l + 1, n, k => by
    show lit (Nat.mod n 256) (fun b => lit (Nat.div n 256) fun m => strK l m fun t => k (.cons (.y b) t)) = _
    rw [lit_eq, lit_eq, strK_eq l]
    rfl

theorem strV_dec : ∀ (l n : Nat), decL (strV l n) = (bytesN l n).map fun b => Value.int .u8 b.toNat
  | 0, _ => rfl
  | l + 1, n => by
    show dec (.y (n % 256)) :: decL (strV l (n / 256)) = Value.int .u8 (UInt8.ofNat (n % 256)).toNat :: (bytesN l (n / 256)).map _
    rw [strV_dec l]
    have : (UInt8.ofNat (n % 256)).toNat = n % 256 := by simp
    rw [this]
    rfl

/-- Is it a type of bytes? -/
def isU8 (P : Program) (e : TypeId) : Bool :=
  match P.underlying e with
  | some (.int .u8) => true
  | _ => false

/-- What is appended: how many, and its cells. -/
def srcQ (P : Program) (e size : Nat) (x : V) (H : QH) (k : Nat → V → Bool) : Bool :=
  V.rec (motive := fun _ => Bool) false (fun _ => false) (fun _ => false) (fun _ _ => false) (fun _ => false) (fun _ _ => false)
    (fun l n => Bool.rec (motive := fun _ => Bool) false (strK l n (k l)) (isU8 P e))
    (fun q o n _ => Bool.rec (motive := fun _ => Bool) (blk H q fun cs m _ => lit (Nat.mul n size) fun w => le (Nat.add o w) m (rowK cs w o (k n))) (k 0 .nil) (Nat.beq n 0))
    (fun c => Bool.rec (motive := fun _ => Bool) false (k 0 .nil) (Nat.beq c 1)) (fun _ => false) (fun _ _ _ _ _ => false) (fun _ _ _ => false) false (fun _ _ _ _ => false) (fun _ _ => false) (fun _ _ => false) x

theorem srcQ_spec {R : Nat} {G : N5 QO} {P : Program} {e size : Nat} {x : V} {v : Value} {H : QH} {F : FW} {k : Nat → V → Bool} (hr : HR R G H F) (hx : VQ x v) (h : srcQ P e size x H k = true) :
    ∃ n l, srcCells P F e size v = some (decL l) ∧ lenV v = n ∧ k n l = true := by
  cases x <;> first | (cases h; done) | skip
  · rename_i l n
    cases hu : isU8 P e with
    | false => simp only [srcQ, hu] at h; cases h
    | true =>
      simp only [srcQ, hu] at h
      rw [strK_eq] at h
      refine ⟨l, strV l n, ?_, ?_, h⟩
      · rw [hx.eq (by simp), dec_s, strV_dec]
        unfold isU8 at hu
        unfold srcCells
        split at hu
        · rename_i he
          simp only [he]
        · cases hu
      · rw [hx.eq (by simp), dec_s]
        exact bytesN_length _ _
  · rename_i q o n c
    cases hn : Nat.beq n 0 with
    | true =>
      simp only [srcQ, hn] at h
      have := Nat.eq_of_beq_eq_true hn
      subst this
      exact ⟨0, .nil, by rw [hx.eq (by simp), dec_l]; rfl, by rw [hx.eq (by simp), dec_l]; rfl, h⟩
    | false =>
      simp only [srcQ, hn] at h
      obtain ⟨cs, m, e', hb, h⟩ := blk_spec h
      rw [lit_eq] at h
      obtain ⟨h1, h⟩ := le_spec h
      rw [rowK_eq] at h
      refine ⟨n, rowV cs (Nat.mul n size) o, ?_, ?_, h⟩
      · rw [hx.eq (by simp), dec_l, (rowV_dec cs (Nat.mul n size) o m h1).1]
        cases n with
        | zero => cases hn
        | succ n =>
          show F.row ⟨q.num, o, none⟩ ((n + 1) * size) = _
          simp only [FW.row, hr.cells hb, lc_length]
          rw [Nat.ble_eq_true_of_le (show o + (n + 1) * size ≤ m from h1)]
          rfl
      · rw [hx.eq (by simp), dec_l]
        rfl
  · rename_i c
    cases hn : Nat.beq c 1 with
    | false => simp only [srcQ, hn] at h; cases h
    | true =>
      simp only [srcQ, hn] at h
      have := Nat.eq_of_beq_eq_true hn
      subst this
      exact ⟨0, .nil, by rw [hx.eq (by simp)]; rfl, by rw [hx.eq (by simp)]; rfl, h⟩

/-- A new block for a slice that has grown. -/
def grownQ (cs : Cs V) (m e n : Nat) (H : QH) (k : V → QH → Bool) : Bool :=
  pushQ (.c cs m e) H fun q H' => lit (Nat.succ (Nat.mul 2 n)) fun c => k (.l q 0 n c) H'

theorem grownQ_spec {R : Nat} {G : N5 QO} {cs : Cs V} {m e n : Nat} {H : QH} {F : FW} {l : List Value} {k : V → QH → Bool} (hr : HR R G H F) (hR : R ≤ F.next) (hl : lc cs m = l) (hw : m ≤ cs.cap ∧ ∀ i, i < m → isSc (cget cs i)) (h : grownQ cs m e n H k = true) :
    ∃ r H' F', grownA F l e n = some (dec r, F') ∧ HR R G H' F' ∧ F'.next = F.next + 1 ∧ k r H' = true := by
  obtain ⟨H', F', h1, h2, h3, h4, h5⟩ := hr.push hR (ob := .c cs m e) (o := .cells l e) (by show some (AObj.cells (lc cs m) e) = _; rw [hl]) hw h
  rw [lit_eq] at h4
  refine ⟨_, H', F', ?_, h2, h3, h4⟩
  unfold grownA
  simp only [h1]
  show some (Value.slice (some ⟨F.next, 0, none⟩) n (2 * n + 1), F') = some (Value.slice (some ⟨H.x.num, 0, none⟩) n (Nat.succ (Nat.mul 2 n)), F')
  rw [h5]
  rfl

/-- New ones behind so many old ones. -/
theorem lc_app {c c' : Cs V} {w n : Nat} {vs : List Value} {m : Nat} (hn : w ≤ c.cap) (hl : vs.length = m) (h0 : ∀ i, i < w → isSc (cget c i)) (h1 : ∀ j, j < c.cap → (j < w ∨ w + m ≤ j) → cget c' j = cget c j)
    (h2 : ∀ i, i < m → isSc (cget c' (w + i)) ∧ vs[i]? = some (dec (cget c' (w + i)))) : lc c' (w + m) = lc c w ++ vs ∧ ∀ i, i < w + m → isSc (cget c' i) := by
  constructor
  · apply List.ext_getElem?
    intro j
    by_cases hj : j < w
    · rw [lc_get c' (by omega), List.getElem?_append_left (by rw [lc_length]; exact hj), lc_get c hj, h1 j (by omega) (.inl hj)]
    · rw [List.getElem?_append_right (by rw [lc_length]; omega), lc_length]
      by_cases hk : j < w + m
      · rw [lc_get c' hk, (h2 (j - w) (by omega)).2, show w + (j - w) = j by omega]
      · rw [List.getElem?_eq_none (by rw [lc_length]; omega), List.getElem?_eq_none (by omega)]
  · intro i hi
    by_cases hj : i < w
    · rw [h1 i (by omega) (.inl hj)]; exact h0 i hj
    · have := (h2 (i - w) (by omega)).1
      rwa [show w + (i - w) = i by omega] at this

/-- To none: a row of its own. -/
def appNew (e size bytes m : Nat) (l : V) (H : QH) (k : V → QH → Bool) : Bool :=
  le (Nat.mul m bytes) 140737488355328 (lit (Nat.mul m size) fun w => ensQ w (.c1 (nfill .bot)) fun cs => setsN w l cs 0 fun cs' => grownQ cs' w e m H k)

/-- To a slice that has a block. -/
def appTo (e size bytes : Nat) (q : Pt) (o n c m : Nat) (l : V) (H : QH) (k : V → QH → Bool) : Bool :=
  lit (Nat.mul m size) fun w => leo (Nat.add n m) (Nat.div c 2)
    (blkW H q fun cs z e' => lit (Nat.add o (Nat.mul n size)) fun a => le (Nat.add a w) z (setsN w l cs a fun cs' => putQ H q (.c cs' z e') fun H' => lit (Nat.add n m) fun n' => k (.l q o n' c) H'))
    (le (Nat.mul (Nat.add n m) bytes) 140737488355328 (eq o 0 (Bool.rec (motive := fun _ => Bool)
      (blkW H q fun cs z e' => eq e' e (lit (Nat.mul n size) fun a => le a z (lt 1 c (ensQ (Nat.add a w) cs fun cs1 => setsN w l cs1 a fun cs' => putQ H q .dead fun H' => lit (Nat.add a w) fun b => lit (Nat.add n m) fun n' => grownQ cs' b e n' H' k))))
      (blk H q fun cs z e' => eq e' e (lit (Nat.mul n size) fun a => le a z (ensQ (Nat.add a w) cs fun cs1 => setsN w l cs1 a fun cs' => lit (Nat.add a w) fun b => lit (Nat.add n m) fun n' => grownQ cs' b e n' H k)))
      (Nat.beq (Nat.mod c 2) 0))))

theorem appNew_spec {R : Nat} {G : N5 QO} {e size bytes m : Nat} {l : V} {H : QH} {F : FW} {k : V → QH → Bool} (hr : HR R G H F) (hR : R ≤ F.next) (h : appNew e size bytes m l H k = true) :
    ∃ r H' F', (decL l).length = m * size ∧ (bif Nat.ble (m * bytes) 140737488355328 && (decL l).all oneC then grownA F (decL l) e m else none) = some (dec r, F') ∧ HR R G H' F' ∧ F'.next = F.next + 1 ∧ k r H' = true := by
  obtain ⟨h1, h⟩ := le_spec h
  rw [lit_eq] at h
  obtain ⟨cs, c1, _, _, h⟩ := ensQ_spec h
  obtain ⟨cs', h, hcap, _, _, hl, ha, g1, g2⟩ := setsN_spec h (by rw [Nat.zero_add]; exact c1)
  obtain ⟨e1, e2⟩ := lc_app (c := cs) (c' := cs') (w := 0) (n := 0) (vs := decL l) (m := Nat.mul m size) (Nat.zero_le _) hl (fun i hi => absurd hi (Nat.not_lt_zero _)) g1 g2
  rw [Nat.zero_add] at e1 e2
  have e3 : lc cs' (Nat.mul m size) = decL l := e1
  obtain ⟨r, H', F', f1, f2, f3, f4⟩ := grownQ_spec hr hR e3 ⟨by rw [hcap]; exact c1, e2⟩ h
  refine ⟨r, H', F', hl, ?_, f2, f3, f4⟩
  rw [Nat.ble_eq_true_of_le (show m * bytes ≤ 140737488355328 from h1), ha, Bool.and_self, cond_true]
  exact f1

theorem lc_take (cs : Cs V) {a z : Nat} (h : a ≤ z) : (lc cs z).take a = lc cs a := by
  apply List.ext_getElem?
  intro j
  rw [List.getElem?_take]
  by_cases hj : j < a
  · rw [if_pos hj, lc_get _ (by omega), lc_get _ hj]
  · rw [if_neg hj, List.getElem?_eq_none (by rw [lc_length]; omega)]

theorem appTo_spec {R : Nat} {G : N5 QO} {e size bytes : Nat} {q : Pt} {o n c m : Nat} {l : V} {H : QH} {F : FW} {k : V → QH → Bool} (hr : HR R G H F) (hR : R ≤ F.next) (h : appTo e size bytes q o n c m l H k = true) :
    ∃ r H' F', (decL l).length = m * size ∧ appendTo R e size bytes ⟨q.num, o, none⟩ n c m (decL l) F = some (dec r, F') ∧ HR R G H' F' ∧ F.next ≤ F'.next ∧ k r H' = true := by
  unfold appTo at h
  rw [lit_eq] at h
  unfold appendTo
  cases hroom : Nat.ble (n + m) (c / 2) with
  | true =>
    have h1 := Nat.le_of_ble_eq_true hroom
    have hx : blkW H q (fun cs z e' => lit (Nat.add o (Nat.mul n size)) fun a => le (Nat.add a (Nat.mul m size)) z (setsN (Nat.mul m size) l cs a fun cs' => putQ H q (.c cs' z e') fun H' => lit (Nat.add n m) fun n' => k (.l q o n' c) H')) = true := by
      unfold leo at h
      rw [show Nat.ble (Nat.add n m) (Nat.div c 2) = true from hroom] at h
      exact h
    obtain ⟨cs, z, e', hb, hx⟩ := blkW_spec hx
    rw [lit_eq] at hx
    obtain ⟨h2, hx⟩ := le_spec hx
    obtain ⟨w1, w2⟩ := hr.wfc (.inl hb)
    have h2' : o + n * size + m * size ≤ z := h2
    obtain ⟨cs', hx, hcap, _, _, hl, ha, g1, g2⟩ := setsN_spec hx (show o + n * size + m * size ≤ cs.cap by omega)
    rw [putQ_eq, lit_eq] at hx
    obtain ⟨F', f1, f2⟩ := hr.lay (o := o + n * size) hb h2' hcap hl ha g1 g2
    refine ⟨_, _, F', hl, ?_, f2, ?_, hx⟩
    · rw [cond_true]
      show (match F.lay R ⟨q.num, o + n * size, none⟩ (decL l) with | some H' => _ | none => none) = _
      rw [f1]
      rfl
    · have : F'.next = F.next := by rw [f2.next]; exact hr.next.symm
      omega
  | false =>
    have hx : (le (Nat.mul (Nat.add n m) bytes) 140737488355328 (eq o 0 (Bool.rec (motive := fun _ => Bool)
      (blkW H q fun cs z e' => eq e' e (lit (Nat.mul n size) fun a => le a z (lt 1 c (ensQ (Nat.add a (Nat.mul m size)) cs fun cs1 => setsN (Nat.mul m size) l cs1 a fun cs' => putQ H q .dead fun H' => lit (Nat.add a (Nat.mul m size)) fun b => lit (Nat.add n m) fun n' => grownQ cs' b e n' H' k))))
      (blk H q fun cs z e' => eq e' e (lit (Nat.mul n size) fun a => le a z (ensQ (Nat.add a (Nat.mul m size)) cs fun cs1 => setsN (Nat.mul m size) l cs1 a fun cs' => lit (Nat.add a (Nat.mul m size)) fun b => lit (Nat.add n m) fun n' => grownQ cs' b e n' H k)))
      (Nat.beq (Nat.mod c 2) 0)))) = true := by
      unfold leo at h
      rw [show Nat.ble (Nat.add n m) (Nat.div c 2) = false from hroom] at h
      exact h
    obtain ⟨h1, hx⟩ := le_spec hx
    obtain ⟨ho, hx⟩ := eq_spec hx
    subst ho
    rw [cond_false]
    cases hc : Nat.beq (c % 2) 0 with
    | true =>
      rw [show Nat.beq (Nat.mod c 2) 0 = true from hc] at hx
      obtain ⟨cs, z, e', hb, hx⟩ := blk_spec (k := fun cs z e' => eq e' e (lit (Nat.mul n size) fun a => le a z (ensQ (Nat.add a (Nat.mul m size)) cs fun cs1 => setsN (Nat.mul m size) l cs1 a fun cs' => lit (Nat.add a (Nat.mul m size)) fun b => lit (Nat.add n m) fun n' => grownQ cs' b e n' H k))) hx
      obtain ⟨he, hx⟩ := eq_spec hx
      subst he
      rw [lit_eq] at hx
      obtain ⟨h2, hx⟩ := le_spec hx
      have h2' : n * size ≤ z := h2
      obtain ⟨w1, w2⟩ := hr.wfc hb
      obtain ⟨cs1, c1, c2, c3, hx⟩ := ensQ_spec hx
      obtain ⟨cs', hx, hcap, _, _, hl, ha, g1, g2⟩ := setsN_spec hx c1
      rw [lit_eq, lit_eq] at hx
      obtain ⟨e1, e2⟩ := lc_app (c := cs1) (c' := cs') (w := n * size) (n := 0) (vs := decL l) (m := m * size) (by omega) hl (fun i hi => by rw [c3 i (by omega)]; exact w2 i (by omega)) g1 g2
      have e3 : lc cs1 (n * size) = (lc cs z).take (n * size) := by
        rw [lc_take _ h2']
        unfold lc
        apply List.map_congr_left
        intro i hi
        rw [c3 i (by have := List.mem_range.1 hi; omega)]
      have e4 : (lc cs1 (n * size)).all oneC = true := lc_all (fun i hi => by rw [c3 i (by omega)]; exact w2 i (by omega))
      obtain ⟨r, H', F', f1, f2, f3, f4⟩ := grownQ_spec (m := n * size + m * size) hr hR e1 ⟨by rw [hcap]; exact c1, e2⟩ hx
      refine ⟨r, H', F', hl, ?_, f2, by omega, f4⟩
      have hrow : F.row ⟨q.num, 0, none⟩ (n * size) = some (lc cs1 (n * size)) := by
        simp only [FW.row, hr.cells hb, lc_length]
        rw [Nat.ble_eq_true_of_le (show 0 + n * size ≤ z by omega), cond_true, List.drop_zero, e3]
      simp only [hrow, hr.cells hb]
      rw [show Nat.beq e' e' = true from by simp, cond_true, Nat.ble_eq_true_of_le (show (n + m) * bytes ≤ 140737488355328 from h1), e4, ha, Bool.and_self, Bool.and_self, cond_true, cond_true]
      exact f1
    | false =>
      rw [show Nat.beq (Nat.mod c 2) 0 = false from hc] at hx
      obtain ⟨cs, z, e', hb, hx⟩ := blkW_spec (k := fun cs z e' => eq e' e (lit (Nat.mul n size) fun a => le a z (lt 1 c (ensQ (Nat.add a (Nat.mul m size)) cs fun cs1 => setsN (Nat.mul m size) l cs1 a fun cs' => putQ H q .dead fun H' => lit (Nat.add a (Nat.mul m size)) fun b => lit (Nat.add n m) fun n' => grownQ cs' b e n' H' k)))) hx
      obtain ⟨he, hx⟩ := eq_spec hx
      subst he
      rw [lit_eq] at hx
      obtain ⟨h2, hx⟩ := le_spec hx
      obtain ⟨h3, hx⟩ := lt_spec hx
      have h2' : n * size ≤ z := h2
      obtain ⟨w1, w2⟩ := hr.wfc (.inl hb)
      obtain ⟨cs1, c1, c2, c3, hx⟩ := ensQ_spec hx
      obtain ⟨cs', hx, hcap, _, _, hl, ha, g1, g2⟩ := setsN_spec hx c1
      rw [putQ_eq, lit_eq, lit_eq] at hx
      have hr2 := hr.put hb rfl (ob := .dead) (x := .dead) rfl trivial
      obtain ⟨e1, e2⟩ := lc_app (c := cs1) (c' := cs') (w := n * size) (n := 0) (vs := decL l) (m := m * size) (by omega) hl (fun i hi => by rw [c3 i (by omega)]; exact w2 i (by omega)) g1 g2
      have e3 : lc cs1 (n * size) = (lc cs z).take (n * size) := by
        rw [lc_take _ h2']
        unfold lc
        apply List.map_congr_left
        intro i hi
        rw [c3 i (by have := List.mem_range.1 hi; omega)]
      have e4 : (lc cs1 (n * size)).all oneC = true := lc_all (fun i hi => by rw [c3 i (by omega)]; exact w2 i (by omega))
      obtain ⟨r, H', F', f1, f2, f3, f4⟩ := grownQ_spec (m := n * size + m * size) hr2 hR e1 ⟨by rw [hcap]; exact c1, e2⟩ hx
      refine ⟨r, H', F', hl, ?_, f2, by have : F'.next = F.next + 1 := f3; omega, f4⟩
      have hrow : F.row ⟨q.num, 0, none⟩ (n * size) = some (lc cs1 (n * size)) := by
        simp only [FW.row, hr.cells (.inl hb), lc_length]
        rw [Nat.ble_eq_true_of_le (show 0 + n * size ≤ z by omega), cond_true, List.drop_zero, e3]
      simp only [hrow, hr.cells (.inl hb)]
      rw [show Nat.beq e' e' = true from by simp, cond_true, Nat.ble_eq_true_of_le (show (n + m) * bytes ≤ 140737488355328 from h1), e4, ha, Bool.and_self, Bool.and_self, cond_true, cond_false,
        Nat.ble_eq_true_of_le (hr.low q (by rw [hb]; rfl)), okN_num, blt_true h3, Bool.and_self, Bool.and_self, cond_true]
      exact f1

structure A2 where
  f : V → V → QH → (V → QH → Bool) → Bool
def A2.bad : A2 := ⟨fun _ _ _ _ => false⟩

def appC (P : Program) (t t' : TypeId) : A2 :=
  match P.underlying t, P.underlying t' with
  | some (.slice e), some td =>
    (match P.info? e, (match td with | .slice _ => true | .string => true | _ => false) with
    | some i, true =>
      (match zeroA P e with
      | some z => bif Nat.beq z.length i.size && (Nat.blt 0 i.size && Nat.blt 0 i.bytes) then
          ⟨fun s x H k => srcQ P e i.size x H fun m l => Bool.rec (motive := fun _ => Bool)
            (asL s (appNew e i.size i.bytes m l H k) fun q o n c => appTo e i.size i.bytes q o n c m l H k)
            (eq (Nat.mul 0 i.size) 0 (asC l (asL s (k s H) fun _ _ _ _ => k s H) fun _ _ => false)) (Nat.beq m 0)⟩ else .bad
      | none => .bad)
    | _, _ => .bad)
  | _, _ => .bad

theorem appendA_of {P : Program} {R : Nat} {t t' e : TypeId} {td : TypeDesc} {i : TypeInfo} {z news : List Value} {a u : Value} {F : FW} (ht : P.underlying t = some (.slice e)) (ht' : P.underlying t' = some td) (htd : (∃ e', td = .slice e') ∨ td = .string)
    (hi : P.info? e = some i) (hz : zeroA P e = some z) (hn : srcCells P F e i.size u = some news) :
    appendA P R t t' a u F = bif Nat.beq z.length i.size && (Nat.blt 0 i.size && (Nat.blt 0 i.bytes && Nat.beq news.length (lenV u * i.size))) then
          (match lenV u with
          | 0 => (match a with
            | .slice _ _ _ => some (a, F)
            | _ => none)
          | m + 1 => (match a with
            | .slice none 0 0 => bif Nat.ble ((m + 1) * i.bytes) 140737488355328 && news.all oneC then grownA F news e (m + 1) else none
            | .slice (some b) n c => appendTo R e i.size i.bytes b n c (m + 1) news F
            | _ => none))
        else none := by
  rcases htd with ⟨e', rfl⟩ | rfl
  · unfold appendA; simp only [ht, ht', hi, hz, hn]; rfl
  · unfold appendA; simp only [ht, ht', hi, hz, hn]; rfl

theorem appC_spec {R : Nat} {G : N5 QO} {P : Program} {t t' : TypeId} {s x : V} {a u : Value} {H : QH} {F : FW} {k : V → QH → Bool} (hr : HR R G H F) (hR : R ≤ F.next) (hs : VQ s a) (hx : VQ x u) (h : (appC P t t').f s x H k = true) :
    ∃ r v H' F', appendA P R t t' a u F = some (v, F') ∧ VQ r v ∧ HR R G H' F' ∧ F.next ≤ F'.next ∧ k r H' = true := by
  unfold appC at h
  split at h
  · rename_i e td ht ht'
    split at h
    · rename_i i hi htd
      have htd' : (∃ e', td = .slice e') ∨ td = .string := by
        cases td <;> first | exact .inl ⟨_, rfl⟩ | exact .inr rfl | cases htd
      split at h
      · rename_i z hz
        cases hc : (Nat.beq z.length i.size && (Nat.blt 0 i.size && Nat.blt 0 i.bytes)) with
        | false => rw [hc] at h; cases h
        | true =>
          rw [hc, cond_true] at h
          simp only [Bool.and_eq_true] at hc
          obtain ⟨c1, c2, c3⟩ := hc
          obtain ⟨m, l, h1, h2, h⟩ := srcQ_spec hr hx h
          cases hm : Nat.beq m 0 with
          | true =>
            rw [hm] at h
            have := Nat.eq_of_beq_eq_true hm
            subst this
            obtain ⟨_, h⟩ := eq_spec h
            rcases asC_spec h with ⟨rfl, h⟩ | ⟨_, _, _, h⟩
            · have hk : k s H = true ∧ ∃ p n c, a = .slice p n c := by
                rcases asL_spec h with ⟨rfl, h⟩ | ⟨q, o, n, c, rfl, h⟩
                · exact ⟨h, _, _, _, hs.eq (by simp)⟩
                · exact ⟨h, _, _, _, hs.eq (by simp)⟩
              obtain ⟨hk, p, n, c, ha⟩ := hk
              refine ⟨s, a, H, F, ?_, hs, hr, Nat.le_refl _, hk⟩
              rw [appendA_of ht ht' htd' hi hz h1, h2, c1, c2, c3, show decL V.nil = [] from rfl, ha, Nat.zero_mul]
              rfl
            · cases h
          | false =>
            rw [hm] at h
            have h' : asL s (appNew e i.size i.bytes m l H k) (fun q o n c => appTo e i.size i.bytes q o n c m l H k) = true := h
            have hpos : ∃ m', m = m' + 1 := by cases m with
              | zero => cases hm
              | succ m' => exact ⟨m', rfl⟩
            obtain ⟨m', rfl⟩ := hpos
            rcases asL_spec h' with ⟨rfl, g⟩ | ⟨q, o, n, c, rfl, g⟩
            · obtain ⟨r, H', F', g1, g2, g3, g4, g5⟩ := appNew_spec hr hR g
              refine ⟨r, _, H', F', ?_, .inr rfl, g3, by omega, g5⟩
              rw [hs.eq (by simp), show dec (.n 1) = Value.slice none 0 0 from rfl]
              rw [appendA_of ht ht' htd' hi hz h1, h2, c1, c2, c3, g1, show Nat.beq ((m' + 1) * i.size) ((m' + 1) * i.size) = true from by simp]
              exact g2
            · obtain ⟨r, H', F', g1, g2, g3, g4, g5⟩ := appTo_spec hr hR g
              refine ⟨r, _, H', F', ?_, .inr rfl, g3, g4, g5⟩
              rw [hs.eq (by simp), dec_l]
              rw [appendA_of ht ht' htd' hi hz h1, h2, c1, c2, c3, g1, show Nat.beq ((m' + 1) * i.size) ((m' + 1) * i.size) = true from by simp]
              exact g2
      · cases h
    · cases h
  · cases h

/-! Copying. -/

def copGo (size : Nat) (q : Pt) (o : Nat) (H : QH) (k : V → QH → Bool) (p : Nat) (l : V) : Bool :=
  le p 9223372036854775807 (lit (Nat.mul p size) fun w => blkW H q fun cs z e' => le (Nat.add o w) z (setsN w l cs o fun cs' => putQ H q (.c cs' z e') fun H' => k (.i p) H'))

theorem copGo_spec {R : Nat} {G : N5 QO} {size : Nat} {q : Pt} {o p : Nat} {l : V} {H : QH} {F : FW} {k : V → QH → Bool} (hr : HR R G H F) (h : copGo size q o H k p l = true) :
    ∃ H' F', (decL l).length = p * size ∧ F.lay R ⟨q.num, o, none⟩ (decL l) = some F' ∧ dec (.i p) = .int .i64 (.ofNat p) ∧ HR R G H' F' ∧ F.next ≤ F'.next ∧ k (.i p) H' = true := by
  obtain ⟨h0, h⟩ := le_spec h
  rw [lit_eq] at h
  obtain ⟨cs, z, e', hb, h⟩ := blkW_spec h
  obtain ⟨h5, h⟩ := le_spec h
  have h5' : o + p * size ≤ z := h5
  obtain ⟨w1, w2⟩ := hr.wfc (.inl hb)
  obtain ⟨cs', h, hcap, _, _, hl, ha, g1, g2⟩ := setsN_spec h (show o + p * size ≤ cs.cap by omega)
  rw [putQ_eq] at h
  obtain ⟨F', f1, f2⟩ := hr.lay (o := o) hb h5' hcap hl ha g1 g2
  refine ⟨_, F', hl, f1, dec_len h0, f2, ?_, h⟩
  have h1 : F'.next = H.x.num := f2.next
  rw [h1, ← hr.next]
  exact Nat.le_refl _

def copC (P : Program) (t : TypeId) : A2 :=
  match P.underlying t with
  | some (.slice e) => (match P.info? e with
    | some i => ⟨fun d x H k => srcQ P e i.size x H fun m l => asL d (k (.i 0) H) fun q o n _ => Bool.rec (motive := fun _ => Bool)
        (leo m n (copGo i.size q o H k m l) (lt n m (lenS l fun z => eq z (Nat.mul m i.size) (lit (Nat.mul n i.size) fun w => takeC w l fun l' => copGo i.size q o H k n l')))) (k (.i 0) H) (Nat.beq n 0)⟩
    | none => .bad)
  | _ => .bad

theorem srcCells_some {P : Program} {F : FW} {e s : Nat} {v : Value} {l : List Value} (h : srcCells P F e s v = some l) : (∃ a n c, v = .slice a n c) ∨ ∃ b, v = .string b := by
  unfold srcCells at h
  split at h
  · exact .inl ⟨_, _, _, rfl⟩
  · exact .inl ⟨_, _, _, rfl⟩
  · exact .inl ⟨_, _, _, rfl⟩
  · exact .inr ⟨_, rfl⟩
  · cases h

theorem copC_spec {R : Nat} {G : N5 QO} {P : Program} {t : TypeId} {d x : V} {a u : Value} {H : QH} {F : FW} {k : V → QH → Bool} (hr : HR R G H F) (hd : VQ d a) (hx : VQ x u) (h : (copC P t).f d x H k = true) :
    ∃ r v H' F', copyA P R t a u F = some (v, F') ∧ VQ r v ∧ HR R G H' F' ∧ F.next ≤ F'.next ∧ k r H' = true := by
  unfold copC at h
  split at h
  · rename_i e ht
    split at h
    · rename_i i hi
      obtain ⟨m, l, h1, h2, h⟩ := srcQ_spec hr hx h
      have none0 : ∀ {p : Option Addr} {c : Nat}, a = .slice p 0 c → copyA P R t a u F = some (.int .i64 (.ofNat 0), F) := by
        intro p c ha
        rw [ha]
        unfold copyA
        rcases srcCells_some h1 with ⟨b, n, c', rfl⟩ | ⟨b, rfl⟩
        · simp only [ht, hi]
        · simp only [ht, hi]
      rcases asL_spec h with ⟨rfl, g0⟩ | ⟨q, o, n, c, rfl, g0⟩
      · exact ⟨.i 0, _, H, F, none0 (hd.eq (by simp)), .inr (dec_len (by omega)).symm, hr, Nat.le_refl _, g0⟩
      · clear h
        have h := g0
        cases hn : Nat.beq n 0 with
        | true =>
          rw [hn] at h
          have := Nat.eq_of_beq_eq_true hn
          subst this
          exact ⟨.i 0, _, H, F, none0 (hd.eq (by simp)), .inr (dec_len (by omega)).symm, hr, Nat.le_refl _, h⟩
        | false =>
          rw [hn] at h
          have h' : leo m n (copGo i.size q o H k m l) (lt n m (lenS l fun z => eq z (Nat.mul m i.size) (lit (Nat.mul n i.size) fun w => takeC w l fun l' => copGo i.size q o H k n l'))) = true := h
          have hpos : ∃ n', n = n' + 1 := by cases n with
            | zero => cases hn
            | succ n' => exact ⟨n', rfl⟩
          obtain ⟨n', rfl⟩ := hpos
          rw [hd.eq (by simp), dec_l]
          unfold copyA
          simp only [ht, hi, h1, h2]
          rcases leo_spec h' with ⟨h4, g⟩ | g
          · obtain ⟨H', F', g1, g2, g3, g4, g5, g6⟩ := copGo_spec hr g
            refine ⟨.i m, _, H', F', ?_, .inr g3.symm, g4, g5, g6⟩
            rw [g1, show Nat.beq (m * i.size) (m * i.size) = true from by simp, cond_true, Nat.min_eq_left h4, List.take_of_length_le (by omega), g2]
          · obtain ⟨h4, g⟩ := lt_spec g
            obtain ⟨_, _, g⟩ := lenS_spec g
            obtain ⟨h5, g⟩ := eq_spec g
            rw [lit_eq] at g
            obtain ⟨l', e1, _, _, e2, g⟩ := takeC_spec g
            obtain ⟨H', F', g1, g2, g3, g4, g5, g6⟩ := copGo_spec hr g
            have hlen : Nat.beq (decL l).length (m * i.size) = true := by
              have : (decL l).length = m * i.size := h5
              rw [this]; simp
            refine ⟨.i (n' + 1), _, H', F', ?_, .inr g3.symm, g4, g5, g6⟩
            rw [hlen, cond_true, Nat.min_eq_right (by omega), show (n' + 1) * i.size = Nat.mul (n' + 1) i.size from rfl, ← e1, g2]
    · cases h
  · cases h

/-! Along a text. -/

def rblk (H : QH) (q : Pt) (k : Nat → Nat → Nat → Bool) : Bool :=
  QH.rec (motive := fun _ => Bool) (fun r _ _ _ => hget r q fun ob => QO.rec (motive := fun _ => Bool) false (fun _ _ _ => false) (fun _ _ => false) k false (fun _ _ _ => false) ob) H

theorem rblk_spec {H : QH} {q : Pt} {k : Nat → Nat → Nat → Bool} (h : rblk H q k = true) : ∃ l n p, hg H.r q = .r l n p ∧ k l n p = true := by
  obtain ⟨r, x, jj, ff⟩ := H
  have h' : QO.rec (motive := fun _ => Bool) false (fun _ _ _ => false) (fun _ _ => false) k false (fun _ _ _ => false) (hg r q) = true := h
  show ∃ l n p, hg r q = .r l n p ∧ k l n p = true
  generalize hg r q = ob at *
  cases ob <;> first | exact ⟨_, _, _, rfl, h'⟩ | cases h'

def nextC : A2 := ⟨fun it _ H k => asP it fun q o => eq o 0 (rblk H q fun l n p => ltb p l
  (le p 9223372036854775807 (match Utf8.decode ⟨⟨bytesN l n⟩⟩ p with
    | (c, w) => putQ H q (.r l n (p + w)) fun H' => k (.t (.cons (.b true) (.cons (.i p) (.cons (.z .i32 c) .nil)))) H'))
  (k (.t (.cons (.b false) .nil)) H))⟩

theorem nextC_spec {R : Nat} {G : N5 QO} {it x : V} {a : Value} {H : QH} {F : FW} {k : V → QH → Bool} (hr : HR R G H F) (hi : VQ it a) (h : nextC.f it x H k = true) :
    ∃ r v H' F', nextA R a true F = some (v, F') ∧ VQ r v ∧ HR R G H' F' ∧ F.next ≤ F'.next ∧ k r H' = true := by
  obtain ⟨q, o, rfl, h⟩ := asP_spec h
  obtain ⟨rfl, h⟩ := eq_spec h
  obtain ⟨l, n, p, hb, h⟩ := rblk_spec h
  have hq := hr.objs q
  rw [hb] at hq
  have hq' : F.heap.get q.num = some (.iter ⟨⟨bytesN l n⟩⟩ p) := hq
  have hlow : Nat.ble R q.num = true := Nat.ble_eq_true_of_le (hr.low q (by rw [hb]; rfl))
  rw [hi.eq (by simp), dec_p]
  unfold nextA
  simp only [hq', hlow, okN_num, Bool.and_self, cond_true, bytesN_length]
  rcases ltb_spec h with ⟨h1, h⟩ | ⟨h1, h⟩
  · obtain ⟨h2, h⟩ := le_spec h
    rw [blt_true h1, cond_true]
    generalize Utf8.decode ⟨⟨bytesN l n⟩⟩ p = cw at *
    obtain ⟨c, w⟩ := cw
    have h' : putQ H q (.r l n (p + w)) (fun H' => k (.t (.cons (.b true) (.cons (.i p) (.cons (.z .i32 c) .nil)))) H') = true := h
    rw [putQ_eq] at h'
    refine ⟨_, _, _, _, rfl, .inr ?_, hr.put hb rfl (ob := .r l n (p + w)) rfl trivial, Nat.le_refl _, h'⟩
    show Value.tuple ⟨[.bool true, .int .i64 (.ofNat p), .int .i32 c]⟩ = Value.tuple ⟨[.bool true, dec (.i p), .int .i32 c]⟩
    rw [dec_len h2]
  · have : Nat.blt p l = false := by
      cases hb : Nat.blt p l with
      | false => rfl
      | true => rw [Nat.blt_eq] at hb; exact absurd hb h1
    rw [this, cond_false]
    exact ⟨_, _, H, F, rfl, .inr rfl, hr, Nat.le_refl _, h⟩

end
end Go.Qm

set_option linter.unusedVariables false
set_option linter.unusedSimpArgs false
set_option linter.unusedSectionVars false
set_option linter.constructorNameAsVariable false
namespace Go.Qm
open Go.Am
noncomputable section
variable [Rho]

/-- What is kept while code runs: calls, where it goes back to, the loops' heads. -/
inductive Lps where
  | nil
  | cons (f : En → QH → Bool) (r : Lps)

abbrev Kall := Nat → En → QH → (V → QH → Bool) → Bool

/-- States that are held against others. -/
inductive Al where
  | nil
  | cons (e : En) (H : QH) (r : Al)

structure Kx where
  call : Kall
  ret : V → QH → Bool
  lps : Lps
  al : Al

/-! What is not known is gone through both ways. -/

theorem HR.facts {R : Nat} {G : N5 QO} {H : QH} {F : FW} (h : HR R G H F) {f0 : Fc} (hf : Sat f0) : HR R G ⟨H.r, H.x, H.j, f0⟩ F := ⟨h.next, h.objs, h.wf, h.low, h.free, h.jr, hf⟩

structure Nm where
  t : Sy
  fl : Bool

/-- A truth in fewer words; turned round or not. -/
def nrm (t : Sy) : Nm :=
  match t with
  | .cm .neq a b => ⟨.cm .eql a b, true⟩
  | .cm .gtr a b => ⟨.cm .lss b a, false⟩
  | .cm .geq a b => ⟨.cm .lss a b, true⟩
  | .cm .leq a b => ⟨.cm .lss b a, true⟩
  | .no u => ⟨(nrm u).t, !(nrm u).fl⟩
  | t => ⟨t, false⟩

theorem nrm_ok (t : Sy) : bv t = Bool.xor (bv (nrm t).t) (nrm t).fl := by
  induction t with
  | cm o a b _ _ =>
    cases o <;> first | (show _ = Bool.xor (bv _) false; rw [Bool.xor_false]; rfl) | skip
    · show (iv a != iv b) = Bool.xor (iv a == iv b) true
      cases h : (iv a == iv b) <;> simp [bne, h]
    · show decide (iv a ≤ iv b) = Bool.xor (decide (iv b < iv a)) true
      by_cases h : iv b < iv a
      · rw [decide_eq_true h, decide_eq_false (by omega)]; rfl
      · rw [decide_eq_false h, decide_eq_true (by omega)]; rfl
    · show decide (iv a ≥ iv b) = Bool.xor (decide (iv a < iv b)) true
      by_cases h : iv a < iv b
      · rw [decide_eq_true h, decide_eq_false (by omega)]; rfl
      · rw [decide_eq_false h, decide_eq_true (by omega)]; rfl
  | no u ih =>
    show (!bv u) = Bool.xor (bv (nrm u).t) (!(nrm u).fl)
    rw [ih]
    cases bv (nrm u).t <;> cases (nrm u).fl <;> rfl
  | _ => show _ = Bool.xor (bv _) false; rw [Bool.xor_false]; rfl

def lookF (t : Sy) (f : Fc) (k : Bool → Bool) (o : Bool) : Bool := Fc.rec (motive := fun _ => Bool) o (fun u b _ ih => Bool.rec (motive := fun _ => Bool) ih (k b) (syq t u)) f

theorem lookF_spec {t : Sy} : ∀ {f : Fc} {k : Bool → Bool} {o : Bool}, Sat f → lookF t f k o = true → k (bv t) = true ∨ o = true
  | .nil, _, _, _, h => .inr h
  | .cons u b r, k, o, hs, h => by
    have h' : Bool.rec (motive := fun _ => Bool) (lookF t r k o) (k b) (syq t u) = true := h
    cases hb : syq t u with
    | false => rw [hb] at h'; exact lookF_spec hs.2 h'
    | true =>
      rw [hb] at h'
      rw [syq_spec hb, hs.1]
      exact .inl h'

def xr (a b : Bool) (k : Bool → Bool) : Bool := Bool.rec (motive := fun _ => Bool) (Bool.rec (motive := fun _ => Bool) (k false) (k true) b) (Bool.rec (motive := fun _ => Bool) (k true) (k false) b) a
theorem xr_eq (a b : Bool) (k : Bool → Bool) : xr a b k = k (Bool.xor a b) := by cases a <;> cases b <;> rfl

def addF (H : QH) (t : Sy) (b : Bool) (k : QH → Bool) : Bool := QH.rec (motive := fun _ => Bool) (fun r x j f => k ⟨r, x, j, .cons t b f⟩) H

def forkQ (t : Sy) (H : QH) (k : Bool → QH → Bool) : Bool :=
  Nm.rec (motive := fun _ => Bool) (fun u fl => lookF u H.f (fun b => xr b fl fun b => k b H) (Bool.rec (motive := fun _ => Bool) false (addF H u false fun H' => xr false fl fun b => k b H') (addF H u true fun H' => xr true fl fun b => k b H'))) (nrm t)

theorem forkQ_spec {R : Nat} {G : N5 QO} {H : QH} {F : FW} {t : Sy} {k : Bool → QH → Bool} (hr : HR R G H F) (h : forkQ t H k = true) : ∃ H', HR R G H' F ∧ k (bv t) H' = true := by
  have hn := nrm_ok t
  unfold forkQ at h
  generalize nrm t = m at h hn
  obtain ⟨u, fl⟩ := m
  replace h : lookF u H.f (fun b => xr b fl fun b => k b H) (Bool.rec (motive := fun _ => Bool) false (addF H u false fun H' => xr false fl fun b => k b H') (addF H u true fun H' => xr true fl fun b => k b H')) = true := h
  replace hn : bv t = Bool.xor (bv u) fl := hn
  rw [hn]
  rcases lookF_spec hr.fact h with h | h
  · rw [xr_eq] at h
    exact ⟨H, hr, h⟩
  · cases h1 : (addF H u true fun H' => xr true fl fun b => k b H') with
    | false => rw [h1] at h; cases h
    | true =>
      rw [h1] at h
      obtain ⟨r, x, j, f⟩ := H
      cases hu : bv u with
      | true =>
        refine ⟨⟨r, x, j, .cons u true f⟩, hr.facts ⟨hu, hr.fact⟩, ?_⟩
        have h1' : (xr true fl fun b => k b ⟨r, x, j, .cons u true f⟩) = true := h1
        rw [xr_eq] at h1'
        exact h1'
      | false =>
        refine ⟨⟨r, x, j, .cons u false f⟩, hr.facts ⟨hu, hr.fact⟩, ?_⟩
        have h2' : (xr false fl fun b => k b ⟨r, x, j, .cons u false f⟩) = true := h
        rw [xr_eq] at h2'
        exact h2'

/-- A truth, known or not. -/
def asBF (x : V) (H : QH) (k : Bool → QH → Bool) : Bool := isq x (toSb x fun t => forkQ t H k) (asB x fun b => k b H)

theorem asBF_spec {R : Nat} {G : N5 QO} {H : QH} {F : FW} {x : V} {v : Value} {k : Bool → QH → Bool} (hx : VQ x v) (hr : HR R G H F) (h : asBF x H k = true) : ∃ b H', v = .bool b ∧ HR R G H' F ∧ k b H' = true := by
  rcases isq_spec h with h | h
  · obtain ⟨t, h1, h2, h⟩ := toSb_spec h
    obtain ⟨H', h3, h4⟩ := forkQ_spec hr h
    exact ⟨_, H', by rw [hx.eq h2, h1], h3, h4⟩
  · obtain ⟨b, rfl, h⟩ := asB_spec h
    exact ⟨b, H, hx.eq (by simp), hr, h⟩

structure Oq where
  f : En → QH → (V → QH → Bool) → Bool
def Oq.bad : Oq := ⟨fun _ _ _ => false⟩

def opV (L : Lay) (e : En) (x : Option Operand) : Option V :=
  match x with
  | none => none
  | some x => some ((rd L x).g e)

/-- An interface value: of a type; or none. -/
def asE (x : V) (kn : Bool) (k : Nat → V → Bool) : Bool := V.rec (motive := fun _ => Bool) false (fun _ => false) (fun _ => false) (fun _ _ => false) (fun _ => false) (fun _ _ => false) (fun _ _ => false) (fun _ _ _ _ => false) (fun c => Bool.rec (motive := fun _ => Bool) false kn (Nat.beq c 4)) (fun _ => false) (fun _ _ _ _ _ => false) (fun t v _ => k t v) false (fun _ _ _ _ => false) (fun _ _ => false) (fun _ _ => false) x

theorem asE_spec {x : V} {kn : Bool} {k : Nat → V → Bool} (h : asE x kn k = true) : (x = .n 4 ∧ kn = true) ∨ ∃ t v, x = .e t v ∧ k t v = true := by
  cases x <;> first | exact .inr ⟨_, _, rfl, h⟩ | skip
  all_goals first | (rename_i c; cases hb : Nat.beq c 4 with
    | false => (simp only [asE, hb] at h; cases h)
    | true => (simp only [asE, hb] at h; have := Nat.eq_of_beq_eq_true hb; subst this; exact .inl ⟨rfl, h⟩)) | cases h

structure A1q where
  f : V → (V → Bool) → Bool

/-- What an assertion that fails hands on. -/
def failQ (P : Program) (t : TypeId) (ok : Bool) : A1q :=
  bif ok then (match zeroQ P t true with
    | some z => ⟨fun _ k => k z⟩
    | none => ⟨fun _ _ => false⟩) else ⟨fun _ _ => false⟩

theorem failQ_spec {P : Program} {t : TypeId} {ok : Bool} {x : V} {k : V → Bool} (h : (failQ P t ok).f x k = true) : ∃ r, (bif ok then foundA P t true none else none) = some (dec r) ∧ k r = true := by
  unfold failQ at h
  cases ok with
  | false => cases h
  | true =>
    simp only [cond_true] at h
    split at h
    · rename_i z hz
      exact ⟨z, zeroQ_spec hz, h⟩
    · cases h

def assertC (P : Program) (t : TypeId) (ok : Bool) : A1q :=
  match P.underlying t with
  | some (.interface want) => ⟨fun x k => asE x ((failQ P t ok).f x k) fun u v => Option.rec (motive := fun _ => Bool) false (fun b => Bool.rec (motive := fun _ => Bool) ((failQ P t ok).f x k)
      (Bool.rec (motive := fun _ => Bool) (k (.e u v)) (k (.t (.cons (.e u v) (.cons (.b true) .nil)))) ok) b) (hasA P u want)⟩
  | some _ => ⟨fun x k => asE x ((failQ P t ok).f x k) fun u v => Bool.rec (motive := fun _ => Bool) ((failQ P t ok).f x k)
      (Bool.rec (motive := fun _ => Bool) (k v) (k (.t (.cons v (.cons (.b true) .nil)))) ok) (Nat.beq u t)⟩
  | none => ⟨fun _ _ => false⟩

theorem assertC_spec {P : Program} {t : TypeId} {ok : Bool} {x : V} {a : Value} {k : V → Bool} (hx : VQ x a) (h : (assertC P t ok).f x k = true) : ∃ r, assertA P a t ok = some (dec r) ∧ k r = true := by
  unfold assertC at h
  unfold assertA
  split at h
  · rename_i want hu
    simp only [hu]
    rcases asE_spec h with ⟨rfl, h⟩ | ⟨u, v, rfl, h⟩
    · rw [hx.eq (by simp)]
      exact failQ_spec h
    · rw [hx.eq (by simp)]
      show ∃ r, (match hasA P u want with
        | some true => some (bif ok then .tuple ⟨[.iface u (dec v), .bool true]⟩ else .iface u (dec v))
        | some false => bif ok then foundA P t true none else none
        | none => none) = some (dec r) ∧ k r = true
      cases hh : hasA P u want with
      | none => rw [hh] at h; cases h
      | some b =>
        rw [hh] at h
        cases b with
        | false => exact failQ_spec h
        | true =>
          cases ok with
          | true => exact ⟨_, rfl, h⟩
          | false => exact ⟨_, rfl, h⟩
  · rename_i d hne hu
    simp only [hu]
    rcases asE_spec h with ⟨rfl, h⟩ | ⟨u, v, rfl, h⟩
    · rw [hx.eq (by simp)]
      obtain ⟨r, h1, h2⟩ := failQ_spec h
      refine ⟨r, ?_, h2⟩
      cases d <;> first | exact h1 | exact absurd rfl (hne _)
    · rw [hx.eq (by simp)]
      have goal : ∃ r, (bif Nat.beq u t then some (bif ok then .tuple ⟨[dec v, .bool true]⟩ else dec v) else bif ok then foundA P t true none else none) = some (dec r) ∧ k r = true := by
        cases hh : Nat.beq u t with
        | false => rw [hh] at h; exact failQ_spec h
        | true =>
          rw [hh] at h
          cases ok with
          | true => exact ⟨_, rfl, h⟩
          | false => exact ⟨_, rfl, h⟩
      obtain ⟨r, h1, h2⟩ := goal
      refine ⟨r, ?_, h2⟩
      cases d <;> first | exact h1 | exact absurd rfl (hne _)
  · cases h

def lookQ (P : Program) (L : Lay) (op : Op) : Oq :=
  match op with
  | .move x => ⟨fun e H k => k ((rd L x).g e) H⟩
  | .assign x => ⟨fun e H k => k ((rd L x).g e) H⟩
  | .pick c a b => ⟨fun e H k => asBF ((rd L c).g e) H fun t H => Bool.rec (motive := fun _ => Bool) (k ((rd L b).g e) H) (k ((rd L a).g e) H) t⟩
  | .load t a => ⟨fun e H k => (loadC P t).f ((rd L a).g e) H fun v => k v H⟩
  | .nilCheck x => ⟨fun e H k => nilQ ((rd L x).g e) fun v => k v H⟩
  | .binOp op t x y _ => ⟨fun e H k => binQ P op t x y ((rd L x).g e) ((rd L y).g e) fun v => k v H⟩
  | .unOp op _ x => ⟨fun e H k => unQ op ((rd L x).g e) fun v => k v H⟩
  | .convert s d x => ⟨fun e H k => (convC P s d).f ((rd L x).g e) H fun v => k v H⟩
  | .fieldAddr s x f => ⟨fun e H k => (fieldAddrC P s f).f ((rd L x).g e) fun v => k v H⟩
  | .field s x f => ⟨fun e H k => (fieldC P s f).f ((rd L x).g e) fun v => k v H⟩
  | .indexAddr t x i => ⟨fun e H k => (indexAddrC P t).f ((rd L x).g e) ((rd L i).g e) fun v => k v H⟩
  | .index t x i => ⟨fun e H k => (indexC P t).f ((rd L x).g e) ((rd L i).g e) fun v => k v H⟩
  | .extract x i => ⟨fun e H k => (extractC i).f ((rd L x).g e) fun v => k v H⟩
  | .build t parts => ⟨fun e H k => (buildC P L t parts.toList).f e fun v => k v H⟩
  | .slice t x lo hi mx => ⟨fun e H k => (sliceC P t).f ((rd L x).g e) (opV L e lo) (opV L e hi) (opV L e mx) H fun v => k v H⟩
  | .makeInterface t x => ⟨fun e H k => (ifaceC P t).f ((rd L x).g e) fun v => k v H⟩
  | .makeFunc fn fs cs => (match fn with
    | .func g => ⟨fun e H k => listQ L fs.toList e fun a => listQ L cs.toList e fun b => k (.f g a b) H⟩
    | _ => .bad)
  | .lookup t m k ok => ⟨fun e H c => (lookupC P t ok).f ((rd L m).g e) ((rd L k).g e) H fun v => c v H⟩
  | .typeAssert x _ t ok => ⟨fun e H k => (assertC P t ok).f ((rd L x).g e) fun v => k v H⟩
  | .call c => (match c.callee with
    | .builtin .len => (match c.args.toList, c.argTypes.toList with
      | [x], t :: _ => ⟨fun e H k => (lenC P t).f ((rd L x).g e) H fun v => k v H⟩
      | _, _ => .bad)
    | .builtin .max => ⟨fun e H k => maxMinQ L true c.args.toList e fun v => k v H⟩
    | .builtin .min => ⟨fun e H k => maxMinQ L false c.args.toList e fun v => k v H⟩
    | _ => .bad)
  | _ => .bad

theorem opV_ov {lv : Nat → Bool} {L : Lay} {e : En} {tm : TM} (he : ER lv L e tm) (x : Option Operand) : OV (opV L e x) (x.map (ev lv tm)) := by
  cases x with
  | none => exact ⟨fun v hv => (by cases hv), fun _ => rfl⟩
  | some x => exact ⟨fun v hv => (by cases hv; exact ⟨_, rfl, rd_spec he x⟩), fun hv => (by cases hv)⟩

theorem lookQ_spec {R : Nat} {G : N5 QO} {P : Program} {lv : Nat → Bool} {L : Lay} {e : En} {tm : TM} {H : QH} {F : FW} {op : Op} {f : Ev → FW → Option Value} {k : V → QH → Bool} (hc : compA P op = .look f) (he : ER lv L e tm) (hr : HR R G H F) (h : (lookQ P L op).f e H k = true) :
    ∃ r v H', f (ev lv tm) F = some v ∧ VQ r v ∧ HR R G H' F ∧ k r H' = true := by
  have one : ∀ {o : Option Value} {k' : V → Bool}, (∃ r, o = some (dec r) ∧ k' r = true) → (∀ r, k' r = true → k r H = true) → ∃ r v H', o = some v ∧ VQ r v ∧ HR R G H' F ∧ k r H' = true := by
    rintro o k' ⟨r, h1, h2⟩ h3
    exact ⟨r, _, H, h1, .inr rfl, hr, h3 r h2⟩
  cases op with
  | move x => cases hc; exact ⟨_, _, H, rfl, rd_spec he x, hr, h⟩
  | assign x => cases hc; exact ⟨_, _, H, rfl, rd_spec he x, hr, h⟩
  | pick c a b =>
    cases hc
    obtain ⟨t, H', h1, h2, h3⟩ := asBF_spec (k := fun t H => Bool.rec (motive := fun _ => Bool) (k ((rd L b).g e) H) (k ((rd L a).g e) H) t) (rd_spec he c) hr h
    cases t with
    | true => exact ⟨_, _, H', by show pickA (ev lv tm c) (ev lv tm a) (ev lv tm b) = _; rw [h1]; rfl, rd_spec he a, h2, h3⟩
    | false => exact ⟨_, _, H', by show pickA (ev lv tm c) (ev lv tm a) (ev lv tm b) = _; rw [h1]; rfl, rd_spec he b, h2, h3⟩
  | load t a => cases hc; exact one (k' := fun v => k v H) (loadC_spec hr (rd_spec he a) h) (fun _ h => h)
  | nilCheck x => cases hc; exact one (k' := fun v => k v H) (nilQ_spec (rd_spec he x) h) (fun _ h => h)
  | binOp op t x y t' => cases hc; exact one (k' := fun v => k v H) (binQ_spec (rd_spec he x) (rd_spec he y) h) (fun _ h => h)
  | unOp op t x => cases hc; exact one (k' := fun v => k v H) (unQ_spec (rd_spec he x) h) (fun _ h => h)
  | convert s d x =>
    simp only [compA] at hc
    cases hb : isBytesC P s d with
    | true => rw [hb] at hc; cases hc
    | false => rw [hb] at hc; cases hc; exact one (k' := fun v => k v H) (convC_spec hr (rd_spec he x) h) (fun _ h => h)
  | fieldAddr s x f => cases hc; exact one (k' := fun v => k v H) (fieldAddrC_spec (rd_spec he x) h) (fun _ h => h)
  | field s x f => cases hc; exact one (k' := fun v => k v H) (fieldC_spec (rd_spec he x) h) (fun _ h => h)
  | indexAddr t x i => cases hc; exact one (k' := fun v => k v H) (indexAddrC_spec (rd_spec he x) (rd_spec he i) h) (fun _ h => h)
  | index t x i => cases hc; exact one (k' := fun v => k v H) (indexC_spec (rd_spec he x) (rd_spec he i) h) (fun _ h => h)
  | extract x i => cases hc; exact one (k' := fun v => k v H) (extractC_spec (rd_spec he x) h) (fun _ h => h)
  | build t parts => cases hc; exact one (k' := fun v => k v H) (buildC_spec he h) (fun _ h => h)
  | slice t x lo hi mx => cases hc; exact one (k' := fun v => k v H) (sliceC_spec hr (rd_spec he x) (opV_ov he lo) (opV_ov he hi) (opV_ov he mx) h) (fun _ h => h)
  | makeInterface t x => cases hc; exact one (k' := fun v => k v H) (ifaceC_spec (rd_spec he x) h) (fun _ h => h)
  | makeFunc fn fs cs =>
    cases hc
    unfold lookQ at h
    simp only at h
    cases fn with
    | func g =>
      simp only at h
      obtain ⟨a, h1, _, _, h⟩ := listQ_spec he h
      obtain ⟨b, h2, _, _, h⟩ := listQ_spec he h
      refine ⟨_, _, H, rfl, .inr ?_, hr, h⟩
      show Value.func (.func g) ⟨fs.toList.map (ev lv tm)⟩ ⟨cs.toList.map (ev lv tm)⟩ = Value.func (.func g) ⟨decL a⟩ ⟨decL b⟩
      rw [h1, h2]
    | _ => cases h
  | lookup t m key ok => cases hc; exact one (k' := fun v => k v H) (lookupC_spec hr (rd_spec he m) (rd_spec he key) h) (fun _ h => h)
  | typeAssert x t t' ok => cases hc; exact one (k' := fun v => k v H) (assertC_spec (rd_spec he x) h) (fun _ h => h)
  | call c =>
    obtain ⟨callee, args, tys⟩ := c
    cases callee with
    | builtin b =>
      cases b with
      | len =>
        cases hc
        unfold lookQ at h
        simp only at h
        split at h
        · rename_i x t ts ha ht
          obtain ⟨r, h1, h2⟩ := lenC_spec hr (rd_spec he x) h
          refine ⟨r, _, H, ?_, .inr rfl, hr, h2⟩
          unfold callLookA
          simp only [ha, ht]
          exact h1
        · cases h
      | max => cases hc; exact one (k' := fun v => k v H) (maxMinQ_spec he h) (fun _ h => h)
      | min => cases hc; exact one (k' := fun v => k v H) (maxMinQ_spec he h) (fun _ h => h)
      | _ => cases hc
    | _ => cases hc
  | _ => cases hc

/-! Operations that make a block. -/

def makeQ (P : Program) (L : Lay) (op : Op) : Mq :=
  match op with
  | .alloc t => allocC P t
  | .box t x => boxC L t x
  | .makeSlice t l c => makeSliceC P L t l c
  | .buildSlice t n parts => buildSliceC P L t n parts.toList
  | .makeMap _ none => mkMapC
  | .range t x => rangeC P L t x
  | _ => .bad

theorem makeQ_spec {P : Program} {lv : Nat → Bool} {L : Lay} {op : Op} {f : Ev → Option (AObj × (Nat → Value))} (hc : compA P op = .make f) : MkS lv L f (makeQ P L op) := by
  cases op with
  | alloc t => cases hc; exact allocC_spec
  | box t x => cases hc; exact boxC_spec
  | makeSlice t l c => cases hc; exact makeSliceC_spec
  | buildSlice t n parts => cases hc; exact buildSliceC_spec
  | makeMap t r =>
    cases hc
    cases r with
    | none => exact mkMapC_spec
    | some x => intro tm e c he h; cases h
  | range t x => cases hc; exact rangeC_spec
  | call c =>
    obtain ⟨callee, args, tys⟩ := c
    cases callee with
    | builtin b => cases b <;> cases hc
    | _ => cases hc
  | convert s d x =>
    simp only [compA] at hc
    cases hb : isBytesC P s d with
    | true => rw [hb] at hc; cases hc
    | false => rw [hb] at hc; cases hc
  | _ => cases hc

/-! Operations that write. -/

def storeC (P : Program) (t : TypeId) : V → V → QH → (QH → Bool) → Bool := fun x v H k =>
  Bool.rec (motive := fun _ => Bool) (stoN (P.cellsOf t) x v H k) (scl v (sto1 x v H k) (stoN 1 x v H k)) (Nat.beq (P.cellsOf t) 1)

theorem szOk_cellsOf {P : Program} {t : TypeId} (h : (P.info? t).isSome = true) : szOk P t (P.cellsOf t) = true := by
  unfold szOk Program.cellsOf
  cases hi : P.info? t with
  | none => rw [hi] at h; cases h
  | some i => simp

def writeQ (P : Program) (L : Lay) (op : Op) : Oq :=
  match op with
  | .store t a x => bif (P.info? t).isSome then ⟨fun e H k => storeC P t ((rd L a).g e) ((rd L x).g e) H fun H' => k .bot H'⟩ else .bad
  | .mapUpdate t m k x => ⟨fun e H c => (updC P t).f ((rd L m).g e) ((rd L k).g e) ((rd L x).g e) H fun H' => c .bot H'⟩
  | .insert t m k x => ⟨fun e H c => (updC P t).f ((rd L m).g e) ((rd L k).g e) ((rd L x).g e) H fun H' => c .bot H'⟩
  | .call c => (match c.callee with
    | .builtin .append => (match c.args.toList, c.argTypes.toList with
      | [s, x], t :: t' :: _ => ⟨fun e H k => (appC P t t').f ((rd L s).g e) ((rd L x).g e) H k⟩
      | _, _ => .bad)
    | .builtin .copy => (match c.args.toList, c.argTypes.toList with
      | [s, x], t :: _ => ⟨fun e H k => (copC P t).f ((rd L s).g e) ((rd L x).g e) H k⟩
      | _, _ => .bad)
    | _ => .bad)
  | .convert _ d x => (match P.underlying d with
    | some (.slice el) => bif Nat.beq (P.cellsOf el) 1 then ⟨fun e H k => asS ((rd L x).g e) fun l n => strK l n fun tl => appNew el 1 1 l tl H k⟩ else .bad
    | _ => .bad)
  | .next it s => bif s then ⟨fun e H k => nextC.f ((rd L it).g e) .nil H k⟩ else .bad
  | _ => .bad

theorem storeC_spec {R : Nat} {G : N5 QO} {P : Program} {t : TypeId} {x v : V} {a u : Value} {H : QH} {F : FW} {k : QH → Bool} (hr : HR R G H F) (hx : VQ x a) (hv : VQ v u) (hi : (P.info? t).isSome = true) (h : storeC P t x v H k = true) :
    ∃ H' F', storeA P R t a u F = some F' ∧ HR R G H' F' ∧ k H' = true := by
  have hz := szOk_cellsOf hi
  unfold storeC at h
  cases h1 : Nat.beq (P.cellsOf t) 1 with
  | true =>
    rw [h1] at h
    rw [Nat.eq_of_beq_eq_true h1] at hz
    rcases scl_spec h with ⟨_, h⟩ | ⟨_, h⟩
    · exact sto1_spec hr hx hv hz h
    · exact stoN_spec hr hx hv hz h
  | false =>
    rw [h1] at h
    exact stoN_spec hr hx hv hz h

theorem storeA_next {R : Nat} {P : Program} {t : TypeId} {a u : Value} {F F' : FW} (h : storeA P R t a u F = some F') : F'.next = F.next := by
  unfold storeA at h
  split at h
  · obtain ⟨_, h⟩ := some_of_cond h
    unfold FW.lay at h
    split at h
    · cases h
    · obtain ⟨_, h⟩ := some_of_cond h
      split at h
      · obtain ⟨_, h⟩ := some_of_cond h
        simp only [Option.some.injEq] at h
        subst h
        rfl
      · cases h
  · cases h

theorem writeQ_spec {R : Nat} {G : N5 QO} {P : Program} {lv : Nat → Bool} {L : Lay} {e : En} {tm : TM} {H : QH} {F : FW} {op : Op} {f : Nat → Ev → FW → Option (Value × FW)} {k : V → QH → Bool} (hc : compA P op = .write f) (he : ER lv L e tm) (hr : HR R G H F) (hR : R ≤ F.next) (h : (writeQ P L op).f e H k = true) :
    ∃ r v H' F', f R (ev lv tm) F = some (v, F') ∧ VQ r v ∧ HR R G H' F' ∧ F.next ≤ F'.next ∧ k r H' = true := by
  have upd : ∀ {t : TypeId} {m key x : Operand}, (updC P t).f ((rd L m).g e) ((rd L key).g e) ((rd L x).g e) H (fun H' => k .bot H') = true →
      ∃ r v H' F', unit1 (mapUpdateA P R t (ev lv tm m) (ev lv tm key) (ev lv tm x) F) = some (v, F') ∧ VQ r v ∧ HR R G H' F' ∧ F.next ≤ F'.next ∧ k r H' = true := by
    intro t m key x h
    obtain ⟨H', F', h1, h2, h3, h4⟩ := updC_spec hr (rd_spec he m) (rd_spec he key) (rd_spec he x) h
    exact ⟨.bot, undef, H', F', by rw [h1]; rfl, .inl rfl, h2, by omega, h4⟩
  cases op with
  | store t a x =>
    cases hc
    unfold writeQ at h
    simp only at h
    cases hi : (P.info? t).isSome with
    | false => rw [hi] at h; cases h
    | true =>
      rw [hi, cond_true] at h
      obtain ⟨H', F', h1, h2, h3⟩ := storeC_spec hr (rd_spec he a) (rd_spec he x) hi h
      refine ⟨.bot, undef, H', F', ?_, .inl rfl, h2, by rw [storeA_next h1]; exact Nat.le_refl _, h3⟩
      show unit1 (storeA P R t (ev lv tm a) (ev lv tm x) F) = _
      rw [h1]; rfl
  | convert s d x =>
    simp only [compA] at hc
    cases hb : isBytesC P s d with
    | false => rw [hb] at hc; cases hc
    | true =>
      rw [hb] at hc
      simp only [cond_true, AI.write.injEq] at hc
      subst hc
      unfold writeQ at h
      simp only at h
      split at h
      · rename_i el hd
        cases h1 : Nat.beq (P.cellsOf el) 1 with
        | false => rw [h1] at h; cases h
        | true =>
          rw [h1, cond_true] at h
          obtain ⟨l, n, hx, h⟩ := asS_spec h
          rw [strK_eq] at h
          obtain ⟨r, H', F', g1, g2, g3, g4, g5⟩ := appNew_spec hr hR h
          obtain ⟨g6, g7⟩ := some_of_cond g2
          simp only [Bool.and_eq_true, Nat.mul_one] at g6
          have hle := Nat.le_of_ble_eq_true g6.1
          have hv := (rd_spec he x).eq (by rw [hx]; simp)
          rw [hx, dec_s] at hv
          refine ⟨r, dec r, H', F', ?_, .inr rfl, g3, by omega, g5⟩
          show bytesA P d (ev lv tm x) F = _
          rw [hv]
          unfold bytesA
          rw [hd]
          have hl : (bytesN l n).length = l := bytesN_length _ _
          rw [strV_dec] at g7
          have hb2 : Nat.ble l 281474976710656 = true := Nat.ble_eq_true_of_le (by omega)
          simp only [hl, hb2, h1, Bool.and_self, cond_true]
          exact g7
      · cases h
  | mapUpdate t m key x => cases hc; exact upd h
  | insert t m key x => cases hc; exact upd h
  | next it s =>
    cases hc
    cases s with
    | false => cases h
    | true => exact nextC_spec (x := .nil) hr (rd_spec he it) h
  | call c =>
    obtain ⟨callee, args, tys⟩ := c
    cases callee with
    | builtin b =>
      cases b with
      | copy =>
        cases hc
        unfold writeQ at h
        simp only at h
        split at h
        · rename_i s x t ts ha ht
          obtain ⟨r, v, H', F', h1, h2, h3, h4, h5⟩ := copC_spec hr (rd_spec he s) (rd_spec he x) h
          refine ⟨r, v, H', F', ?_, h2, h3, h4, h5⟩
          unfold callWriteA
          simp only [ha, ht]
          exact h1
        · cases h
      | append =>
        cases hc
        unfold writeQ at h
        simp only at h
        split at h
        · rename_i s x t t' ts ha ht
          obtain ⟨r, v, H', F', h1, h2, h3, h4, h5⟩ := appC_spec hr hR (rd_spec he s) (rd_spec he x) h
          refine ⟨r, v, H', F', ?_, h2, h3, h4, h5⟩
          unfold callWriteA
          simp only [ha, ht]
          exact h1
        · cases h
      | _ => first | (cases hc; done) | cases h
    | _ => first | (cases hc; done) | cases h
  | _ => first | (cases hc; done) | cases h

/-! Calls. -/

/-- Arguments, in order. -/
def argsQ (L : Lay) (xs : List Operand) : En → En → (En → Bool) → Bool :=
  List.rec (motive := fun _ => En → En → (En → Bool) → Bool) (fun _ tl k => k tl) (fun x _ ih e tl k => ih e tl fun t => k (.cons ((rd L x).g e) t)) xs

/-- A list's things, in order. -/
def capQ (l : V) : En → (En → Bool) → Bool := V.rec (motive := fun _ => En → (En → Bool) → Bool) (fun _ _ => false) (fun _ _ _ => false) (fun _ _ _ => false) (fun _ _ _ _ => false) (fun _ _ _ => false) (fun _ _ _ _ => false) (fun _ _ _ _ => false) (fun _ _ _ _ _ _ => false) (fun _ _ _ => false) (fun _ _ _ => false) (fun _ _ _ _ _ _ _ => false) (fun _ _ _ _ _ => false) (fun tl k => k tl) (fun h _ _ ih tl k => ih tl fun t => k (.cons h t)) (fun _ _ _ _ => false) (fun _ _ => (fun _ _ => false)) l

/-- What arguments say. -/
def AR : En → List Value → Prop
  | .nil, [] => True
  | .cons x t, v :: r => VQ x v ∧ AR t r
  | _, _ => False

theorem argsQ_spec {lv : Nat → Bool} {L : Lay} {e : En} {tm : TM} (he : ER lv L e tm) : ∀ {xs : List Operand} {tl : En} {vs : List Value} {k : En → Bool}, AR tl vs → argsQ L xs e tl k = true → ∃ a, AR a (xs.map (ev lv tm) ++ vs) ∧ k a = true
  | [], tl, vs, k, ht, h => ⟨tl, ht, h⟩
  | x :: xs, tl, vs, k, ht, h => by
    obtain ⟨a, h1, h2⟩ := argsQ_spec he (xs := xs) (k := fun t => k (.cons ((rd L x).g e) t)) ht h
    exact ⟨.cons ((rd L x).g e) a, ⟨rd_spec he x, h1⟩, h2⟩

theorem capQ_spec : ∀ {l : V} {tl : En} {vs : List Value} {k : En → Bool}, AR tl vs → capQ l tl k = true → ∃ a, AR a (decL l ++ vs) ∧ k a = true
  | .nil, tl, vs, k, ht, h => ⟨tl, ht, h⟩
  | .cons a b, tl, vs, k, ht, h => by
    obtain ⟨t, h1, h2⟩ := capQ_spec (l := b) (k := fun t => k (.cons a t)) ht h
    exact ⟨.cons a t, ⟨.inr rfl, h1⟩, h2⟩
  | .bot, _, _, _, _, h => by cases h
  | .i _, _, _, _, _, h => by cases h
  | .y _, _, _, _, _, h => by cases h
  | .z _ _, _, _, _, _, h => by cases h
  | .b _, _, _, _, _, h => by cases h
  | .p _ _, _, _, _, _, h => by cases h
  | .s _ _, _, _, _, _, h => by cases h
  | .l _ _ _ _, _, _, _, _, h => by cases h
  | .n _, _, _, _, _, h => by cases h
  | .m _, _, _, _, _, h => by cases h
  | .f _ _ _, _, _, _, _, h => by cases h
  | .e _ _, _, _, _, _, h => by cases h
  | .t _, _, _, _, _, h => by cases h

structure Cq1 where
  f : Kall → En → QH → (V → QH → Bool) → Bool
def Cq1.bad : Cq1 := ⟨fun _ _ _ _ => false⟩

def callQ (P : Program) (L : Lay) (c : Call) : Cq1 :=
  match c.callee with
  | .value x => ⟨fun call e H k => asF ((rd L x).g e) fun g a b => capQ b .nil fun tl => argsQ L c.args.toList e tl fun tl => capQ a tl fun en => call g en H k⟩
  | .invoke x name => ⟨fun call e H k => asE ((rd L x).g e) false fun t v => Option.rec (motive := fun _ => Bool) false (fun g => argsQ L c.args.toList e .nil fun tl => call g (.cons v tl) H k) (methodA P t name)⟩
  | _ => .bad

/-- What calls owe. -/
def CallOk (R : Nat) (call : CallF) (q : Kall) : Prop :=
  ∀ (G : N5 QO) g en vs H F k, AR en vs → HR R G H F → R ≤ F.next → q g en H k = true → ∃ r v H' F', call g vs F = some (v, F') ∧ VQ r v ∧ HR R G H' F' ∧ F.next ≤ F'.next ∧ k r H' = true

theorem callQ_spec {R : Nat} {G : N5 QO} {P : Program} {lv : Nat → Bool} {L : Lay} {e : En} {tm : TM} {H : QH} {F : FW} {c : Call} {call : CallF} {q : Kall} {k : V → QH → Bool} (hq : CallOk R call q) (he : ER lv L e tm) (hr : HR R G H F) (hR : R ≤ F.next) (h : (callQ P L c).f q e H k = true) :
    ∃ g vs r v H' F', calleeA P (ev lv tm) c = some (g, vs) ∧ call g vs F = some (v, F') ∧ VQ r v ∧ HR R G H' F' ∧ F.next ≤ F'.next ∧ k r H' = true := by
  unfold callQ at h
  split at h
  · rename_i x hcal
    obtain ⟨g, a, b, hx, h⟩ := asF_spec h
    obtain ⟨t1, a1, h⟩ := capQ_spec (tl := .nil) (vs := []) trivial h
    obtain ⟨t2, a2, h⟩ := argsQ_spec he a1 h
    obtain ⟨t3, a3, h⟩ := capQ_spec a2 h
    obtain ⟨r, v, H', F', h1, h2, h3, h4, h5⟩ := hq _ _ _ _ _ _ _ a3 hr hR h
    refine ⟨g, _, r, v, H', F', ?_, h1, h2, h3, h4, h5⟩
    have := (rd_spec he x).eq (by rw [hx]; simp)
    rw [hx] at this
    unfold calleeA
    simp only [hcal, this, List.append_nil]
    rfl
  · rename_i x name hcal
    rcases asE_spec h with ⟨_, h⟩ | ⟨t, v0, hx, h⟩
    · cases h
    · cases hm : methodA P t name with
      | none => rw [hm] at h; cases h
      | some g =>
        rw [hm] at h
        obtain ⟨t2, a2, h⟩ := argsQ_spec he (tl := .nil) (vs := []) trivial (k := fun tl => q g (.cons v0 tl) H k) h
        obtain ⟨r, v, H', F', h1, h2, h3, h4, h5⟩ := hq G g (.cons v0 t2) (dec v0 :: (c.args.toList.map (ev lv tm) ++ [])) _ _ _ ⟨.inr rfl, a2⟩ hr hR h
        refine ⟨g, _, r, v, H', F', ?_, h1, h2, h3, h4, h5⟩
        have := (rd_spec he x).eq (by rw [hx]; simp)
        rw [hx] at this
        have this' : ev lv tm x = .iface t (dec v0) := this
        unfold calleeA
        simp only [hcal, this', hm, List.append_nil]
  · cases h

end
end Go.Qm

set_option linter.unusedVariables false
set_option linter.unusedSimpArgs false
set_option linter.unusedSectionVars false
set_option linter.constructorNameAsVariable false
namespace Go.Qm
open Go.Am
noncomputable section
variable [Rho]

/-- Slots have numbers that may be. -/
def TmOk (tm : TM) : Prop := ∀ p ∈ tm.loc, okN p.1 = true

def dstOk (n : Nat) (d : Option Nat) : Bool :=
  match d with
  | none => true
  | some t => Nat.blt t n && okN t

def offL (t : Nat) (L : Lay) : Lay := L.map fun o => match o with
  | some u => bif Nat.beq u t then none else some u
  | none => none

def layPut (L : Lay) (d : Option Nat) : Lay :=
  match d with
  | none => L
  | some t => some t :: offL t L

def putE (d : Option Nat) (v : V) (e : En) : En :=
  match d with
  | none => e
  | some _ => .cons v e

theorem offL_get {t : Nat} {L : Lay} {i u : Nat} (h : (offL t L)[i]? = some (some u)) : L[i]? = some (some u) ∧ u ≠ t := by
  unfold offL at h
  rw [List.getElem?_map] at h
  cases hl : L[i]? with
  | none => rw [hl] at h; cases h
  | some o =>
    rw [hl] at h
    cases o with
    | none => simp at h
    | some w =>
      simp only [Option.map_some, Option.some.injEq] at h
      cases hb : Nat.beq w t with
      | true => rw [hb] at h; cases h
      | false =>
        rw [hb] at h
        simp only [cond_false, Option.some.injEq] at h
        subst h
        exact ⟨rfl, Nat.ne_of_beq_eq_false hb⟩

theorem put_spec {lv : Nat → Bool} {L : Lay} {e : En} {tm : TM} {n : Nat} {d : Option Nat} {x : V} {v : Value} {F : FW} (he : ER lv L e tm) (ht : TmOk tm) (hd : dstOk n d = true) (hv : VQ x v) :
    ∃ tm', finT tm (clampD n d) v F = some (tm', F) ∧ ER lv (layPut L d) (putE d x e) tm' ∧ TmOk tm' := by
  cases d with
  | none => exact ⟨tm, rfl, he, ht⟩
  | some t =>
    simp only [dstOk, Bool.and_eq_true] at hd
    refine ⟨tm.put t v, ?_, ?_, ?_⟩
    · unfold finT clampD putT
      simp only [hd.1, hd.2, cond_true]
    · apply ER.cons
      · intro i u hi
        obtain ⟨h1, h2⟩ := offL_get hi
        rw [put_val, if_neg h2]
        exact he i u h1
      · intro u hu
        simp only [Option.some.injEq] at hu
        subst hu
        rw [put_val, if_pos rfl]
        exact hv
    · intro p hp
      simp only [TM.put, List.mem_cons] at hp
      rcases hp with rfl | hp
      · exact hd.2
      · exact ht p hp

/-- How a new block is laid. -/
abbrev Mk := QO → QH → (Pt → QH → Bool) → Bool

structure Sq where
  f : Kall → Mk → En → QH → (V → QH → Bool) → Bool
def Sq.bad : Sq := ⟨fun _ _ _ _ _ => false⟩

/-- An operation that is wanted; 'mk': where its block lies. -/
def coreQ (P : Program) (L : Lay) (op : Op) : Sq :=
  match compA P op with
  | .look _ => ⟨fun _ _ e H k => (lookQ P L op).f e H k⟩
  | .make _ => ⟨fun _ mk e H k => (makeQ P L op).f e fun ob val => mk ob H fun q H' => k (val q) H'⟩
  | .write _ => ⟨fun _ _ e H k => (writeQ P L op).f e H k⟩
  | .call _ => (match op with
    | .call c => ⟨fun call _ e H k => (callQ P L c).f call e H k⟩
    | _ => .bad)

/-- Nothing was done: no value (a guard that looks at it does not hold). -/
def noneV : V := .t .nil
def gB (x : V) (kn : Bool) (k : Bool → Bool) : Bool := V.rec (motive := fun _ => Bool) false (fun _ => false) (fun _ => false) (fun _ _ => false) k (fun _ _ => false) (fun _ _ => false) (fun _ _ _ _ => false) (fun _ => false) (fun _ => false) (fun _ _ _ _ _ => false) (fun _ _ _ => false) false (fun _ _ _ _ => false) (fun _ _ => kn) (fun _ _ => false) x
theorem gB_spec {x : V} {kn : Bool} {k : Bool → Bool} (h : gB x kn k = true) : (∃ b, x = .b b ∧ k b = true) ∨ (∃ l, x = .t l ∧ kn = true) := by
  cases x <;> first | exact .inl ⟨_, rfl, h⟩ | exact .inr ⟨_, rfl, h⟩ | cases h

/-- A guard's truth, known or not; or nothing was done. -/
def gBF (x : V) (H : QH) (kn : Bool) (k : Bool → QH → Bool) : Bool := isq x (toSb x fun t => forkQ t H k) (gB x kn fun b => k b H)

theorem gBF_spec {R : Nat} {G : N5 QO} {H : QH} {F : FW} {x : V} {v : Value} {kn : Bool} {k : Bool → QH → Bool} (hx : VQ x v) (hr : HR R G H F) (h : gBF x H kn k = true) : (∃ b H', v = .bool b ∧ HR R G H' F ∧ k b H' = true) ∨ (∃ l, v = .tuple l ∧ kn = true) := by
  rcases isq_spec h with h | h
  · obtain ⟨t, h1, h2, h⟩ := toSb_spec h
    obtain ⟨H', h3, h4⟩ := forkQ_spec hr h
    exact .inl ⟨_, H', by rw [hx.eq h2, h1], h3, h4⟩
  · rcases gB_spec h with ⟨b, rfl, h⟩ | ⟨l, rfl, h⟩
    · exact .inl ⟨b, H, hx.eq (by simp), hr, h⟩
    · exact .inr ⟨_, hx.eq (by simp), h⟩

def gdQ (L : Lay) (g : AG) (s : Sq) : Sq :=
  match g with
  | .always => s
  | .never => ⟨fun _ _ _ H k => k noneV H⟩
  | .on t want => ⟨fun call mk e H k => gBF ((rd L (.tmp t)).g e) H (k noneV H) fun b H => Bool.rec (motive := fun _ => Bool) (k noneV H) (s.f call mk e H k) (bif want then b else !b)⟩

/-- What the making of a block owes. -/
def MkOk (R : Nat) (G : N5 QO) (mk : Mk) (id next : Nat) (F : FW) : Prop :=
  ∀ ob o H k, HR R G H F → decO ob = some o → wfO ob → own ob = true → mk ob H k = true → ∃ q H' F', q.num = id ∧ FW.push ⟨F.heap, id⟩ o = some F' ∧ HR R G H' ⟨F'.heap, next⟩ ∧ k q H' = true

theorem gdQ_spec {R : Nat} {G : N5 QO} {P : Program} {lv : Nat → Bool} {L : Lay} {e : En} {tm : TM} {H : QH} {F : FW} {n : Nat} {ops : Array Oper} {o : Oper} {call : CallF} {qc : Kall} {mk : Mk} {id next : Nat} {k : V → QH → Bool}
    (hq : CallOk R call qc) (he : ER lv L e tm) (ht : TmOk tm) (hd : dstOk n o.dst = true) (hr : HR R G H F) (hR : R ≤ F.next) (hmk : MkOk R G mk id next F) (hnext : F.next ≤ next)
    (h : (gdQ L (guardOf ops o) (coreQ P L o.op)).f qc mk e H k = true) :
    ∃ tm' F' H' v, Am.stepG lv R call false (compO P lv n ops o) id next tm F = some (tm', F') ∧ ER lv (layPut L o.dst) (putE o.dst v e) tm' ∧ TmOk tm' ∧ HR R G H' F' ∧ F.next ≤ F'.next ∧ k v H' = true := by
  have core : ∀ {H : QH} (hr : HR R G H F) (h : (coreQ P L o.op).f qc mk e H k = true), ∃ tm' F' H' v,
      (match (compA P o.op).toT lv with
        | .look f => finO tm (clampD n o.dst) (f tm F) F
        | .make f => finM tm (clampD n o.dst) (f tm) F id next
        | .write f => finW tm (clampD n o.dst) (f R tm F)
        | .call f => finC call false tm (clampD n o.dst) (f tm) F) = some (tm', F') ∧ ER lv (layPut L o.dst) (putE o.dst v e) tm' ∧ TmOk tm' ∧ HR R G H' F' ∧ F.next ≤ F'.next ∧ k v H' = true := by
    intro H hr h
    unfold coreQ at h
    cases hc : compA P o.op with
    | look f =>
      rw [hc] at h
      obtain ⟨r, v, H', h1, h2, hr', h3⟩ := lookQ_spec hc he hr h
      obtain ⟨tm', g1, g2, g3⟩ := put_spec (F := F) he ht hd h2
      refine ⟨tm', F, H', r, ?_, g2, g3, hr', Nat.le_refl _, h3⟩
      show finO tm (clampD n o.dst) (f (ev lv tm) F) F = _
      rw [h1]
      exact g1
    | make f =>
      rw [hc] at h
      obtain ⟨ob, val, ao, fv, h1, h2, h3, h4, h5, h⟩ := makeQ_spec hc tm e _ he h
      obtain ⟨q, H', F', e1, e2, e3, h⟩ := hmk ob ao H _ hr h2 h3 h4 h
      have hv := h5 q
      rw [e1] at hv
      obtain ⟨tm', g1, g2, g3⟩ := put_spec (F := ⟨F'.heap, next⟩) he ht hd hv
      refine ⟨tm', ⟨F'.heap, next⟩, H', val q, ?_, g2, g3, e3, hnext, h⟩
      show finM tm (clampD n o.dst) (f (ev lv tm)) F id next = _
      rw [h1]
      unfold finM
      simp only [e2]
      exact g1
    | write f =>
      rw [hc] at h
      obtain ⟨r, v, H', F', h1, h2, h3, h4, h5⟩ := writeQ_spec hc he hr hR h
      obtain ⟨tm', g1, g2, g3⟩ := put_spec (F := F') he ht hd h2
      refine ⟨tm', F', H', r, ?_, g2, g3, h3, h4, h5⟩
      show finW tm (clampD n o.dst) (f R (ev lv tm) F) = _
      rw [h1]
      exact g1
    | call f =>
      rw [hc] at h
      obtain ⟨_, c, hop, hf⟩ := kind_call hc
      rw [hop] at h
      obtain ⟨g, vs, r, v, H', F', h1, h2, h3, h4, h5, h6⟩ := callQ_spec hq he hr hR h
      obtain ⟨tm', g1, g2, g3⟩ := put_spec (F := F') he ht hd h3
      refine ⟨tm', F', H', r, ?_, g2, g3, h4, h5, h6⟩
      show finC call false tm (clampD n o.dst) (f (ev lv tm)) F = _
      rw [hf]
      unfold finC
      simp only [h1, h2, Bool.not_false, Bool.true_or, cond_true]
      exact g1
  have skip : ∀ {H : QH}, HR R G H F → k noneV H = true → ∃ tm' F' H' v, finT tm (clampD n o.dst) undef F = some (tm', F') ∧ ER lv (layPut L o.dst) (putE o.dst v e) tm' ∧ TmOk tm' ∧ HR R G H' F' ∧ F.next ≤ F'.next ∧ k v H' = true := by
    intro H hr h
    obtain ⟨tm', g1, g2, g3⟩ := put_spec (F := F) he ht hd (VQ.mk noneV : VQ noneV undef)
    exact ⟨tm', F, H, noneV, g1, g2, g3, hr, Nat.le_refl _, h⟩
  unfold Am.stepG compO
  simp only
  cases hg : guardOf ops o with
  | always =>
    rw [hg] at h
    obtain ⟨tm', F', H', v, h1, h2⟩ := core hr h
    exact ⟨tm', F', H', v, by simp only [AG.holds, cond_true]; exact h1, h2⟩
  | never =>
    rw [hg] at h
    obtain ⟨tm', F', H', v, h1, h2⟩ := skip hr h
    exact ⟨tm', F', H', v, by simp only [AG.holds, AG.sure, cond_true, cond_false]; exact h1, h2⟩
  | on t want =>
    rw [hg] at h
    rcases gBF_spec (kn := k noneV H) (k := fun b H => Bool.rec (motive := fun _ => Bool) (k noneV H) ((coreQ P L o.op).f qc mk e H k) (bif want then b else !b)) (rd_spec he (.tmp t)) hr h with ⟨b, H1, hv, hr1, h⟩ | ⟨l, hv, h⟩
    case inr =>
      have hv' : TM.val lv tm t = .tuple l := hv
      obtain ⟨tm', F', H', v, h1, h2⟩ := skip hr h
      refine ⟨tm', F', H', v, ?_, h2⟩
      simp only [AG.holds, AG.sure, hv', boolIs, nbot, cond_true, cond_false]
      exact h1
    have hv' : TM.val lv tm t = .bool b := hv
    cases hw : (bif want then b else !b) with
    | true =>
      rw [hw] at h
      obtain ⟨tm', F', H', v, h1, h2⟩ := core hr1 h
      refine ⟨tm', F', H', v, ?_, h2⟩
      simp only [AG.holds, hv', boolIs, hw, cond_true]
      exact h1
    | false =>
      rw [hw] at h
      obtain ⟨tm', F', H', v, h1, h2⟩ := skip hr1 h
      refine ⟨tm', F', H', v, ?_, h2⟩
      simp only [AG.holds, AG.sure, hv', boolIs, hw, nbot, cond_true, cond_false]
      exact h1

/-! A region in order. -/

structure Cq where
  f : Kx → En → QH → Bool
def Cq.bad : Cq := ⟨fun _ _ _ => false⟩

def mkSeq : Mk := fun ob H k => pushQ ob H k

theorem mkSeq_ok {R : Nat} {G : N5 QO} {F : FW} (hR : R ≤ F.next) : MkOk R G mkSeq F.next (F.next + 1) F := by
  intro ob o H k hr hd hw ho h
  obtain ⟨H', F', h1, h2, h3, h4, h5⟩ := hr.push hR hd hw h
  refine ⟨H.x, H', F', h5, h1, ?_, h4⟩
  rw [← h3]
  exact h2

def regQ (P : Program) (n : Nat) (ops : Array Oper) : List Oper → Lay → (Lay → Cq) → Cq
  | [], L, next => next L
  | o :: r, L, next => bif dstOk n o.dst then ⟨fun X e H => (gdQ L (guardOf ops o) (coreQ P L o.op)).f X.call mkSeq e H fun v H' => (regQ P n ops r (layPut L o.dst) next).f X (putE o.dst v e) H'⟩ else .bad

theorem regQ_spec {R : Nat} {G : N5 QO} {P : Program} {lv : Nat → Bool} {n : Nat} {ops : Array Oper} {call : CallF} {X : Kx} (hq : CallOk R call X.call) {next : Lay → Cq} : ∀ {l : List Oper} {L : Lay} {e : En} {tm : TM} {H : QH} {F : FW}, ER lv L e tm → TmOk tm → HR R G H F → R ≤ F.next → (regQ P n ops l L next).f X e H = true →
    ∃ tm' F', opsA lv R call (l.map (compO P lv n ops)) tm F = some (tm', F') ∧ TmOk tm' ∧ F.next ≤ F'.next ∧ ∃ L' e' H', ER lv L' e' tm' ∧ HR R G H' F' ∧ (next L').f X e' H' = true
  | [], L, e, tm, H, F, he, ht, hr, hR, h => ⟨tm, F, rfl, ht, Nat.le_refl _, L, e, H, he, hr, h⟩
  | o :: r, L, e, tm, H, F, he, ht, hr, hR, h => by
    unfold regQ at h
    cases hd : dstOk n o.dst with
    | false => rw [hd] at h; cases h
    | true =>
      rw [hd, cond_true] at h
      obtain ⟨tm1, F1, H1, v, h1, h2, h3, h4, h5, h6⟩ := gdQ_spec hq he ht hd hr hR (mkSeq_ok hR) (Nat.le_succ _) h
      obtain ⟨tm2, F2, g1, g2, g3, g4⟩ := regQ_spec hq h2 h3 h4 (Nat.le_trans hR h5) h6
      refine ⟨tm2, F2, ?_, g2, Nat.le_trans h5 g3, g4⟩
      show (match stepA lv R call (compO P lv n ops o) tm F with
        | some (tm', H') => opsA lv R call (r.map (compO P lv n ops)) tm' H'
        | none => none) = _
      unfold stepA
      rw [h1]
      exact g1

end
end Go.Qm

set_option linter.unusedVariables false
set_option linter.unusedSimpArgs false
set_option linter.unusedSectionVars false
set_option linter.constructorNameAsVariable false
namespace Go.Qm
open Go.Am
noncomputable section
variable [Rho]

/-! Which slots are wanted: nothing hangs on it but how far a run comes, and how quick. -/

def bitsL (m : Nat) : List Nat :=
  Nat.rec (motive := fun _ => Nat → Nat → List Nat) (fun _ _ => []) (fun _ ih m i => Nat.rec (motive := fun _ => List Nat) [] (fun _ _ => Bool.rec (motive := fun _ => List Nat) (ih (Nat.div m 2) (Nat.succ i)) (i :: ih (Nat.div m 2) (Nat.succ i)) (Nat.beq (Nat.mod m 2) 1)) m) 100000 m 0

def tmpM : Operand → Nat
  | .tmp t => bitN t
  | _ => 0

def usesM (o : Oper) : Nat := o.op.operands.toList.foldr (fun x m => Nat.lor (tmpM x) m) 0
def subM (a b : Nat) : Nat := Nat.xor a (Nat.land a b)
def regM (ops : List Oper) (lm : Nat) : Nat := ops.foldr (fun o m => Nat.lor (usesM o) (subM m (dstM o.dst))) lm

def resM : List ResultVar → Nat
  | [] => 0
  | .tmp t :: r => Nat.lor (bitN t) (resM r)
  | .cell q _ :: r => Nat.lor (bitN q) (resM r)

def liveC (rm : Nat) (c : Code) : Nat → (Nat → Nat) → Nat :=
  Code.rec (motive := fun _ => Nat → (Nat → Nat) → Nat)
    (fun lm _ => lm)
    (fun _ ops _ lm _ => regM ops.toList lm)
    (fun _ _ a b lm ex => a (b lm ex) ex)
    (fun x _ _ a b lm ex => Nat.lor (tmpM x) (Nat.lor (a lm ex) (b lm ex)))
    (fun id _ b lm ex => b lm fun i => Bool.rec (motive := fun _ => Nat) (ex i) lm (Nat.beq i id))
    (fun _ b _ ex => b 0 ex)
    (fun _ _ _ _ _ _ lm _ => lm)
    (fun id _ ex => ex id)
    (fun _ b lm ex => b lm ex)
    (fun _ lm _ => lm)
    (fun _ lm _ => lm)
    (fun _ _ => rm)
    (fun _ lm _ => lm) c

def endLay (lv : Nat → Bool) (lm : Nat) (L : Lay) : Lay := L.map fun o => match o with
  | some t => bif lv t && Nat.beq (Nat.land (bitN t) lm) (bitN t) then some t else none
  | none => none

theorem endLay_get {lv : Nat → Bool} {lm : Nat} {L : Lay} {i t : Nat} (h : (endLay lv lm L)[i]? = some (some t)) : L[i]? = some (some t) ∧ lv t = true := by
  unfold endLay at h
  rw [List.getElem?_map] at h
  cases hl : L[i]? with
  | none => rw [hl] at h; cases h
  | some o =>
    rw [hl] at h
    cases o with
    | none => simp at h
    | some w =>
      simp only [Option.map_some, Option.some.injEq] at h
      cases hb : (lv w && Nat.beq (Nat.land (bitN w) lm) (bitN w)) with
      | false => rw [hb] at h; cases h
      | true =>
        rw [hb] at h
        simp only [cond_true, Option.some.injEq] at h
        subst h
        simp only [Bool.and_eq_true] at hb
        exact ⟨rfl, hb.1⟩

theorem flush_val {lv : Nat → Bool} {tm : TM} (ht : TmOk tm) {t : Nat} (h : lv t = true) : TM.val lv (tm.flush lv) t = TM.val lv tm t := by
  have := flushL_get (lv := lv) tm.loc tm.out ht t
  rw [h, cond_true] at this
  show scanL [] (outV lv (flushL lv tm.loc tm.out) t) t = _
  show outV lv (flushL lv tm.loc tm.out) t = _
  rw [this]
  rfl

theorem ER.flush {lv : Nat → Bool} {lm : Nat} {L : Lay} {e : En} {tm : TM} (he : ER lv L e tm) (ht : TmOk tm) : ER lv (endLay lv lm L) e (tm.flush lv) ∧ TmOk (tm.flush lv) := by
  refine ⟨fun i t hi => ?_, fun p hp => by cases hp⟩
  obtain ⟨h1, h2⟩ := endLay_get hi
  rw [flush_val ht h2]
  exact he i t h1

/-! Slots in another order. -/

def packQ (L : Lay) (K : List Nat) : En → (En → Bool) → Bool :=
  List.rec (motive := fun _ => En → (En → Bool) → Bool) (fun _ k => k .nil) (fun t _ ih e k => ih e fun r => (rd L (.tmp t)).gk e fun v => k (.cons v r)) K

def nmL (K : List Nat) : Lay := K.map some

theorem packQ_spec {lv : Nat → Bool} {L : Lay} {e : En} {tm : TM} (he : ER lv L e tm) : ∀ {K : List Nat} {k : En → Bool}, packQ L K e k = true → ∃ e', ER lv (nmL K) e' tm ∧ k e' = true
  | [], k, h => ⟨.nil, fun i t hi => by simp [nmL] at hi, h⟩
  | t :: K, k, h => by
    obtain ⟨r, h1, h2⟩ := packQ_spec he (K := K) (k := fun r => (rd L (.tmp t)).gk e fun v => k (.cons v r)) h
    rw [rd_gk] at h2
    exact ⟨_, ER.cons h1 fun u hu => (by cases hu; exact rd_spec he (.tmp t)), h2⟩

def jumpQ (L : Lay) (K : List Nat) (nj : Cq) : Cq := ⟨fun X e H => packQ L K e fun e' => nj.f X e' H⟩

def finR (lv : Nat → Bool) (lm : Nat) (next : Lay → Cq) (L : Lay) : Cq :=
  Bool.rec (motive := fun _ => Cq) (jumpQ (endLay lv lm L) (bitsL lm) (next (nmL (bitsL lm)))) (next (endLay lv lm L)) (Nat.ble L.length 16)

/-! Results. -/

def ret1 (P : Program) (L : Lay) (r : ResultVar) : En → QH → (V → Bool) → Bool :=
  match r with
  | .tmp t => fun e _ k => k ((rd L (.tmp t)).g e)
  | .cell q t => fun e H k => (loadC P t).f ((rd L (.tmp q)).g e) H k

def retL (P : Program) (L : Lay) : List ResultVar → En → QH → (V → Bool) → Bool
  | [], _, _, k => k .nil
  | r :: rs, e, H, k => ret1 P L r e H fun v => nb v (retL P L rs e H fun l => k (.cons v l))

def retF (P : Program) (rs : List ResultVar) (L : Lay) (e : En) (H : QH) (k : V → QH → Bool) : Bool :=
  match rs with
  | [r] => ret1 P L r e H fun v => k v H
  | rs => retL P L rs e H fun l => k (.t l) H

theorem ret1_spec {R : Nat} {G : N5 QO} {P : Program} {lv : Nat → Bool} {L : Lay} {e : En} {tm : TM} {H : QH} {F : FW} (he : ER lv L e tm) (hr : HR R G H F) {r : ResultVar} {k : V → Bool} (h : ret1 P L r e H k = true) : ∃ x v, retOneA P lv tm F r = some v ∧ VQ x v ∧ k x = true := by
  cases r with
  | tmp t => exact ⟨_, _, rfl, rd_spec he (.tmp t), h⟩
  | cell q t =>
    obtain ⟨x, h1, h2⟩ := loadC_spec hr (rd_spec he (.tmp q)) h
    exact ⟨x, _, h1, .inr rfl, h2⟩

theorem retL_spec {R : Nat} {G : N5 QO} {P : Program} {lv : Nat → Bool} {L : Lay} {e : En} {tm : TM} {H : QH} {F : FW} (he : ER lv L e tm) (hr : HR R G H F) : ∀ {rs : List ResultVar} {k : V → Bool}, retL P L rs e H k = true → ∃ l, retAllA P lv tm F rs = some (decL l) ∧ k l = true
  | [], k, h => ⟨.nil, rfl, h⟩
  | r :: rs, k, h => by
    obtain ⟨x, v, h1, h2, h⟩ := ret1_spec he hr (k := fun v => nb v (retL P L rs e H fun l => k (.cons v l))) h
    obtain ⟨h3, h⟩ := nb_spec h
    obtain ⟨l, h4, h5⟩ := retL_spec he hr (rs := rs) h
    refine ⟨.cons x l, ?_, h5⟩
    unfold retAllA
    rw [h1, h4, h2.eq h3]
    rfl

theorem retAll_len {P : Program} {lv : Nat → Bool} {tm : TM} {F : FW} : ∀ {rs : List ResultVar} {l : List Value}, retAllA P lv tm F rs = some l → l.length = rs.length
  | [], l, h => by simp only [retAllA, Option.some.injEq] at h; subst h; rfl
  | r :: rs, l, h => by
    unfold retAllA at h
    split at h
    · rename_i u us hu hus
      simp only [Option.some.injEq] at h
      subst h
      simp [retAll_len hus]
    · cases h

theorem retF_spec {R : Nat} {G : N5 QO} {P : Program} {lv : Nat → Bool} {L : Lay} {e : En} {tm : TM} {H : QH} {F : FW} (he : ER lv L e tm) (hr : HR R G H F) {rs : List ResultVar} {k : V → QH → Bool} (h : retF P rs L e H k = true) :
    ∃ x l, retAllA P lv tm F rs = some l ∧ VQ x (tupA l) ∧ k x H = true := by
  unfold retF at h
  split at h
  · rename_i r
    obtain ⟨x, v, h1, h2, h3⟩ := ret1_spec he hr (k := fun v => k v H) h
    refine ⟨x, [v], ?_, h2, h3⟩
    unfold retAllA
    rw [h1]
    rfl
  · rename_i hrs
    obtain ⟨l, h1, h2⟩ := retL_spec he hr (k := fun l => k (.t l) H) h
    refine ⟨.t l, decL l, h1, .inr ?_, h2⟩
    have this : ∀ v, decL l ≠ [v] := by
      intro v hv
      have h3 := retAll_len h1
      rw [hv] at h3
      obtain ⟨r, hr1⟩ := List.length_eq_one_iff.1 h3.symm
      exact hrs r hr1
    show tupA (decL l) = Value.tuple ⟨decL l⟩
    unfold tupA
    split
    · rename_i v hv; exact absurd hv (this v)
    · rfl

/-! Loops' heads. -/

def popX (X : Kx) : Kx := ⟨X.call, X.ret, Lps.rec (motive := fun _ => Lps) .nil (fun _ t _ => t) X.lps, X.al⟩
def pushX (f : En → QH → Bool) (X : Kx) : Kx := ⟨X.call, X.ret, .cons f X.lps, X.al⟩
def again (X : Kx) (e : En) (H : QH) : Bool := Lps.rec (motive := fun _ => Bool) false (fun f _ _ => f e H) X.lps

def rnd (f : (En → QH → Bool) → En → QH → Bool) (m : Nat) : En → QH → Bool := Nat.rec (motive := fun _ => En → QH → Bool) (fun _ _ => false) (fun _ ih e H => f ih e H) m

/-- Code, made ready. -/
def comp (P : Program) (lv : Nat → Bool) (n rm : Nat) (rs : List ResultVar) (drw : Array Oper → Lay → (Lay → Cq) → Cq) (c : Code) : Lay → Nat → (Nat → Nat) → (Lay → Cq) → (Nat → Lay → Cq) → Cq :=
  Code.rec (motive := fun _ => Lay → Nat → (Nat → Nat) → (Lay → Cq) → (Nat → Lay → Cq) → Cq)
    (fun L _ _ next _ => next L)
    (fun _ ops d L lm _ next _ => Bool.rec (motive := fun _ => Cq) (regQ P n ops ops.toList L (finR lv lm next)) (drw ops L (finR lv lm next)) d)
    (fun _ b ca cb L lm em next ex => ca L (liveC rm b lm em) em (fun L' => cb L' lm em next ex) ex)
    (fun x _ _ ca cb L lm em next ex => ⟨fun X e H => asBF ((rd L x).g e) H fun t H => Bool.rec (motive := fun _ => Bool)
      ((cb L lm em (fun L' => jumpQ L' (bitsL lm) (next (nmL (bitsL lm)))) ex).f X e H) ((ca L lm em (fun L' => jumpQ L' (bitsL lm) (next (nmL (bitsL lm)))) ex).f X e H) t⟩)
    (fun id _ cb L lm em next ex => cb L lm (fun i => Bool.rec (motive := fun _ => Nat) (em i) lm (Nat.beq i id)) (fun L' => jumpQ L' (bitsL lm) (next (nmL (bitsL lm))))
      (fun i => Bool.rec (motive := fun _ => Lay → Cq) (ex i) (fun L' => jumpQ L' (bitsL lm) (next (nmL (bitsL lm)))) (Nat.beq i id)))
    (fun b cb L _ em _ ex => ⟨fun X e H => packQ L (bitsL (liveC rm b 0 em)) e fun e' => rnd (fun ih e H =>
      (cb (nmL (bitsL (liveC rm b 0 em))) (liveC rm b 0 em) em (fun L' => ⟨fun X e H => packQ L' (bitsL (liveC rm b 0 em)) e fun e' => again X e' H⟩) (fun i L' => ⟨fun X e H => (ex i L').f (popX X) e H⟩)).f (pushX ih X) e H) 1000000 e' H⟩)
    (fun _ _ _ _ _ _ _ _ _ _ _ => .bad)
    (fun id L _ _ _ ex => ex id L)
    (fun _ _ _ _ _ _ _ => .bad)
    (fun _ _ _ _ _ _ => .bad)
    (fun _ _ _ _ _ _ => .bad)
    (fun L _ _ _ _ => ⟨fun X e H => retF P rs L e H X.ret⟩)
    (fun _ _ _ _ _ _ => .bad) c

/-! What code comes to. -/

def Out (P : Program) (lv : Nat → Bool) (rs : List ResultVar) (R : Nat) (G : N5 QO) (X : Kx) (next : Lay → Cq) (ex : Nat → Lay → Cq) (xo : XO) (tm : TM) (F : FW) : Prop :=
  ∃ L e H, ER lv L e tm ∧ HR R G H F ∧ (match xo with
    | .norm => (next L).f X e H = true
    | .exit id => (ex id L).f X e H = true
    | .ret => retF P rs L e H X.ret = true)

def Come (P : Program) (lv : Nat → Bool) (rs : List ResultVar) (R : Nat) (G : N5 QO) (X : Kx) (next : Lay → Cq) (ex : Nat → Lay → Cq) (F : FW) (r : CR) : Prop :=
  ∃ xo tm' F', r = some (xo, tm', F') ∧ TmOk tm' ∧ F.next ≤ F'.next ∧ Out P lv rs R G X next ex xo tm' F'

theorem Come.norm {P : Program} {lv : Nat → Bool} {rs : List ResultVar} {R : Nat} {G : N5 QO} {X : Kx} {next : Lay → Cq} {ex : Nat → Lay → Cq} {F : FW} {tm : TM} {L : Lay} {e : En} {H : QH} {F' : FW} (he : ER lv L e tm) (ht : TmOk tm) (hr : HR R G H F') (hn : F.next ≤ F'.next) (h : (next L).f X e H = true) :
    Come P lv rs R G X next ex F (some (.norm, tm, F')) := ⟨.norm, tm, F', rfl, ht, hn, L, e, H, he, hr, h⟩

theorem finR_spec {lv : Nat → Bool} {lm : Nat} {next : Lay → Cq} {L : Lay} {X : Kx} {e : En} {H : QH} {tm : TM} (he : ER lv L e tm) (ht : TmOk tm) (h : (finR lv lm next L).f X e H = true) :
    ∃ L' e', ER lv L' e' (tm.flush lv) ∧ (next L').f X e' H = true := by
  obtain ⟨h1, _⟩ := he.flush ht (lm := lm)
  unfold finR at h
  cases hb : Nat.ble L.length 16 with
  | true => rw [hb] at h; exact ⟨_, e, h1, h⟩
  | false =>
    rw [hb] at h
    obtain ⟨e', h2, h3⟩ := packQ_spec h1 (K := bitsL lm) h
    exact ⟨_, e', h2, h3⟩

/-- Regions whose order is open. -/
def DrawOk (P : Program) (lv : Nat → Bool) (n R : Nat) (call : Nat → CallF) (drw : Array Oper → Lay → (Lay → Cq) → Cq) : Prop :=
  ∀ (G : N5 QO) (ops : Array Oper) (lm : Nat) (next : Lay → Cq) (L : Lay) (X : Kx) (e : En) (H : QH) (tm : TM) (F : FW), CallOk R (call R) X.call → ER lv L e tm → TmOk tm → HR R G H F → R ≤ F.next → (drw ops L (finR lv lm next)).f X e H = true →
    ∃ tm' F' L' e' H', regionS P lv n call R ops true tm F = some (.norm, tm', F') ∧ TmOk tm' ∧ F.next ≤ F'.next ∧ ER lv L' e' tm' ∧ HR R G H' F' ∧ (next L').f X e' H' = true

/-! Rounds. -/

/-- So many rounds, till it is left. -/
def iterA (body : TM → FW → CR) : Nat → TM → FW → CR
  | 0, _, _ => none
  | j + 1, tm, H => match body tm H with
    | some (.norm, tm', H') => iterA body j tm' H'
    | r => r

def itR (body : TM → FW → CR) : Nat → TM → FW → Option (Option XO × St)
  | 0, tm, H => some (none, tm, H)
  | m + 1, tm, H => againS (roundS (body tm H)) (itR body m)

theorem againS_assoc (r : Option (Option XO × St)) (f g : TM → FW → Option (Option XO × St)) : againS (againS r f) g = againS r fun tm H => againS (f tm H) g := by
  cases r with
  | none => rfl
  | some p => obtain ⟨o, tm, H⟩ := p; cases o <;> rfl

theorem itR_add (body : TM → FW → CR) : ∀ (a b : Nat) (tm : TM) (H : FW), itR body (a + b) tm H = againS (itR body a tm H) (itR body b)
  | 0, b, tm, H => by rw [Nat.zero_add]; rfl
  | a + 1, b, tm, H => by
    rw [show a + 1 + b = (a + b) + 1 by omega]
    show againS (roundS (body tm H)) (itR body (a + b)) = againS (againS (roundS (body tm H)) (itR body a)) (itR body b)
    rw [againS_assoc]
    congr 1
    funext tm H
    exact itR_add body a b tm H

theorem loopP_itR (body : TM → FW → CR) : ∀ (k : Nat) (tm : TM) (H : FW), loopP body k tm H = itR body (2 ^ k) tm H
  | 0, tm, H => by
    show roundS (body tm H) = againS (roundS (body tm H)) (itR body 0)
    cases body tm H with
    | none => rfl
    | some p => obtain ⟨o, tm, H⟩ := p; cases o <;> rfl
  | k + 1, tm, H => by
    show againS (loopP body k tm H) (loopP body k) = _
    rw [show 2 ^ (k + 1) = 2 ^ k + 2 ^ k by rw [Nat.pow_succ]; omega, itR_add, loopP_itR body k]
    congr 1
    funext tm H
    exact loopP_itR body k tm H

theorem iterA_itR (body : TM → FW → CR) : ∀ (j m : Nat) (tm : TM) (H : FW) (x : XO) (s : St), x ≠ .norm → iterA body j tm H = some (x, s) → j ≤ m → itR body m tm H = some (some x, s)
  | 0, _, _, _, _, _, _, h, _ => by cases h
  | j + 1, 0, _, _, _, _, _, _, hm => by omega
  | j + 1, m + 1, tm, H, x, s, hx, h, hm => by
    unfold iterA at h
    show againS (roundS (body tm H)) (itR body m) = _
    split at h
    · rename_i tm' H' hb
      rw [hb]
      exact iterA_itR body j m tm' H' x s hx h (by omega)
    · rename_i hb
      rw [h]
      cases x with
      | norm => exact absurd rfl hx
      | ret => rfl
      | exit id => rfl

theorem loopS_iter {body : TM → FW → CR} {j : Nat} {tm : TM} {H : FW} {x : XO} {s : St} (hx : x ≠ .norm) (h : iterA body j tm H = some (x, s)) (hj : j ≤ 1000000) : loopS (loopP body 20 tm H) = some (x, s) := by
  rw [loopP_itR, iterA_itR body j (2 ^ 20) tm H x s hx h (Nat.le_trans hj (by decide))]
  rfl

theorem comp_sound {P : Program} {lv : Nat → Bool} {n rm : Nat} {rs : List ResultVar} {drw : Array Oper → Lay → (Lay → Cq) → Cq} {R : Nat} {G : N5 QO} {call : Nat → CallF} (hd : DrawOk P lv n R call drw) (c : Code) :
    ∀ (L : Lay) (lm : Nat) (em : Nat → Nat) (next : Lay → Cq) (ex : Nat → Lay → Cq) (X : Kx) (e : En) (H : QH) (tm : TM) (F : FW), CallOk R (call R) X.call → ER lv L e tm → TmOk tm → HR R G H F → R ≤ F.next →
      (comp P lv n rm rs drw c L lm em next ex).f X e H = true → Come P lv rs R G X next ex F (codeA P lv n call R c tm F) := by
  induction c with
  | skip =>
    intro L lm em next ex X e H tm F hq he ht hr hR h
    exact Come.norm he ht hr (Nat.le_refl _) h
  | region id ops d =>
    intro L lm em next ex X e H tm F hq he ht hr hR h
    cases d with
    | false =>
      have h' : (regQ P n ops ops.toList L (finR lv lm next)).f X e H = true := h
      obtain ⟨tm', F', h1, h2, h3, L', e', H', h4, h5, h6⟩ := regQ_spec hq he ht hr hR h'
      obtain ⟨L2, e2, g1, g2⟩ := finR_spec h4 h2 h6
      have : codeA P lv n call R (.region id ops false) tm F = some (.norm, tm'.flush lv, F') := by
        show normS (flushS lv (opsA lv R (call R) (compL P lv n ops) tm F)) = _
        rw [show compL P lv n ops = ops.toList.map (compO P lv n ops) from rfl, h1]
        rfl
      rw [this]
      exact Come.norm g1 (h4.flush (lm := 0) h2).2 h5 h3 g2
    | true =>
      have h' : (drw ops L (finR lv lm next)).f X e H = true := h
      obtain ⟨tm', F', L', e', H', h1, h2, h3, h4, h5, h6⟩ := hd G ops lm next L X e H tm F hq he ht hr hR h'
      have : codeA P lv n call R (.region id ops true) tm F = some (.norm, tm', F') := h1
      rw [this]
      exact Come.norm h4 h2 h5 h3 h6
  | seq a b iha ihb =>
    intro L lm em next ex X e H tm F hq he ht hr hR h
    obtain ⟨xo, tm1, F1, h1, h2, h3, L1, e1, H1, h4, h5, h6⟩ := iha L (liveC rm b lm em) em _ ex X e H tm F hq he ht hr hR h
    have hs : codeA P lv n call R (.seq a b) tm F = seqS (codeA P lv n call R a tm F) (codeA P lv n call R b) := rfl
    rw [hs, h1]
    cases xo with
    | norm =>
      obtain ⟨yo, tm2, F2, g1, g2, g3, g4⟩ := ihb L1 lm em next ex X e1 H1 tm1 F1 hq h4 h2 h5 (Nat.le_trans hR h3) h6
      exact ⟨yo, tm2, F2, g1, g2, Nat.le_trans h3 g3, g4⟩
    | ret => exact ⟨.ret, tm1, F1, rfl, h2, h3, L1, e1, H1, h4, h5, h6⟩
    | exit i => exact ⟨.exit i, tm1, F1, rfl, h2, h3, L1, e1, H1, h4, h5, h6⟩
  | cond x a b iha ihb =>
    intro L lm em next ex X e H tm F hq he ht hr hR h
    obtain ⟨t, H2, hv, hr2, h⟩ := asBF_spec (k := fun t H => Bool.rec (motive := fun _ => Bool) ((comp P lv n rm rs drw b L lm em (fun L' => jumpQ L' (bitsL lm) (next (nmL (bitsL lm)))) ex).f X e H) ((comp P lv n rm rs drw a L lm em (fun L' => jumpQ L' (bitsL lm) (next (nmL (bitsL lm)))) ex).f X e H) t) (rd_spec he x) hr h
    have hs : codeA P lv n call R (.cond x a b) tm F = condS (ev lv tm x) (codeA P lv n call R a tm F) (codeA P lv n call R b tm F) := rfl
    have fin : ∀ {r : CR}, Come P lv rs R G X (fun L' => jumpQ L' (bitsL lm) (next (nmL (bitsL lm)))) ex F r → Come P lv rs R G X next ex F r := by
      rintro r ⟨xo, tm1, F1, h1, h2, h3, L1, e1, H1, h4, h5, h6⟩
      cases xo with
      | norm =>
        obtain ⟨e2, g1, g2⟩ := packQ_spec h4 h6
        exact ⟨.norm, tm1, F1, h1, h2, h3, _, e2, H1, g1, h5, g2⟩
      | ret => exact ⟨.ret, tm1, F1, h1, h2, h3, L1, e1, H1, h4, h5, h6⟩
      | exit i => exact ⟨.exit i, tm1, F1, h1, h2, h3, L1, e1, H1, h4, h5, h6⟩
    rw [hs, hv]
    cases t with
    | true => exact fin (iha L lm em _ ex X e H2 tm F hq he ht hr2 hR h)
    | false => exact fin (ihb L lm em _ ex X e H2 tm F hq he ht hr2 hR h)
  | block id b ihb =>
    intro L lm em next ex X e H tm F hq he ht hr hR h
    obtain ⟨xo, tm1, F1, h1, h2, h3, L1, e1, H1, h4, h5, h6⟩ := ihb L lm _ _ _ X e H tm F hq he ht hr hR h
    have hs : codeA P lv n call R (.block id b) tm F = blockS id (codeA P lv n call R b tm F) := rfl
    rw [hs, h1]
    cases xo with
    | norm =>
      obtain ⟨e2, g1, g2⟩ := packQ_spec h4 h6
      exact ⟨.norm, tm1, F1, rfl, h2, h3, _, e2, H1, g1, h5, g2⟩
    | ret => exact ⟨.ret, tm1, F1, rfl, h2, h3, L1, e1, H1, h4, h5, h6⟩
    | exit i =>
      have h6' : ((Bool.rec (motive := fun _ => Lay → Cq) (ex i) (fun L' => jumpQ L' (bitsL lm) (next (nmL (bitsL lm)))) (Nat.beq i id) : Lay → Cq) L1).f X e1 H1 = true := h6
      show Come P lv rs R G X next ex F (bif Nat.beq i id then some (.norm, tm1, F1) else some (.exit i, tm1, F1))
      cases hb : Nat.beq i id with
      | true =>
        rw [hb] at h6'
        obtain ⟨e2, g1, g2⟩ := packQ_spec h4 h6'
        exact ⟨.norm, tm1, F1, rfl, h2, h3, _, e2, H1, g1, h5, g2⟩
      | false =>
        rw [hb] at h6'
        exact ⟨.exit i, tm1, F1, rfl, h2, h3, L1, e1, H1, h4, h5, h6'⟩
  | loop b ihb =>
    intro L lm em next ex X e H tm F hq he ht hr hR h
    obtain ⟨e', h1, h2⟩ := packQ_spec he h
    have key : ∀ (m : Nat) (e : En) (H : QH) (tm : TM) (F : FW), ER lv (nmL (bitsL (liveC rm b 0 em))) e tm → TmOk tm → HR R G H F → R ≤ F.next →
        rnd (fun ih e H => (comp P lv n rm rs drw b (nmL (bitsL (liveC rm b 0 em))) (liveC rm b 0 em) em (fun L' => ⟨fun X e H => packQ L' (bitsL (liveC rm b 0 em)) e fun e' => again X e' H⟩) (fun i L' => ⟨fun X e H => (ex i L').f (popX X) e H⟩)).f (pushX ih X) e H) m e H = true →
        ∃ j xo tm' F', j ≤ m ∧ xo ≠ .norm ∧ iterA (codeA P lv n call R b) j tm F = some (xo, tm', F') ∧ TmOk tm' ∧ F.next ≤ F'.next ∧ Out P lv rs R G X next ex xo tm' F' := by
      intro m
      induction m with
      | zero => intro e H tm F _ _ _ _ h; cases h
      | succ m ihm =>
        intro e H tm F he ht hr hR h
        obtain ⟨xo, tm1, F1, h1, h2, h3, L1, e1, H1, h4, h5, h6⟩ := ihb _ _ _ _ _ (pushX _ X) e H tm F hq he ht hr hR h
        cases xo with
        | norm =>
          obtain ⟨e2, g1, g2⟩ := packQ_spec h4 h6
          obtain ⟨j, yo, tm2, F2, k1, k2, k3, k4, k5, k6⟩ := ihm e2 H1 tm1 F1 g1 h2 h5 (Nat.le_trans hR h3) g2
          exact ⟨j + 1, yo, tm2, F2, by omega, k2, by unfold iterA; rw [h1]; exact k3, k4, Nat.le_trans h3 k5, k6⟩
        | ret => exact ⟨1, .ret, tm1, F1, by omega, by simp, by unfold iterA; rw [h1], h2, h3, L1, e1, H1, h4, h5, h6⟩
        | exit i => exact ⟨1, .exit i, tm1, F1, by omega, by simp, by unfold iterA; rw [h1], h2, h3, L1, e1, H1, h4, h5, h6⟩
    obtain ⟨j, xo, tm1, F1, k1, k2, k3, k4, k5, k6⟩ := key 1000000 e' H tm F h1 ht hr hR h2
    have hs : codeA P lv n call R (.loop b) tm F = loopS (loopP (codeA P lv n call R b) 20 tm F) := rfl
    rw [hs, loopS_iter k2 k3 k1]
    exact ⟨xo, tm1, F1, rfl, k4, k5, k6⟩
  | exit id =>
    intro L lm em next ex X e H tm F hq he ht hr hR h
    exact ⟨.exit id, tm, F, rfl, ht, Nat.le_refl _, L, e, H, he, hr, h⟩
  | ret =>
    intro L lm em next ex X e H tm F hq he ht hr hR h
    exact ⟨.ret, tm, F, rfl, ht, Nat.le_refl _, L, e, H, he, hr, h⟩
  | _ => intros; rename_i h; cases h

end
end Go.Qm

set_option linter.unusedVariables false
set_option linter.unusedSimpArgs false
set_option linter.unusedSectionVars false
set_option linter.constructorNameAsVariable false
namespace Go.Qm
open Go.Am
noncomputable section
variable [Rho]

/-- So many places further on. -/
def padN (m : Nat) : Pt → (Pt → Bool) → Bool := Nat.rec (motive := fun _ => Pt → (Pt → Bool) → Bool) (fun q k => k q) (fun _ ih q k => psucc q fun q' => ih q' k) m

theorem padN_spec : ∀ {m : Nat} {q : Pt} {k : Pt → Bool}, padN m q k = true → ∃ q', q'.num = q.num + m ∧ k q' = true
  | 0, q, k, h => ⟨q, rfl, h⟩
  | m + 1, q, k, h => by
    obtain ⟨q1, h1, h2⟩ := psucc_spec (k := fun q' => padN m q' k) h
    obtain ⟨q2, h3, h4⟩ := padN_spec (m := m) h2
    exact ⟨q2, by omega, h4⟩

def mkAt (j : Nat) (q0 : Pt) : Mk := fun ob H k => padN j q0 fun q => layQ q ob H fun H' => k q H'

theorem mkAt_ok {R : Nat} {G : N5 QO} {F : FW} {j : Nat} {q0 : Pt} (hR : R ≤ q0.num) (hj : q0.num + j < F.next) : MkOk R G (mkAt j q0) (q0.num + j) F.next F := by
  intro ob o H k hr hd hw ho h
  obtain ⟨q, hq, h⟩ := padN_spec (k := fun q => layQ q ob H fun H' => k q H') h
  obtain ⟨H', F', h1, h2, h3⟩ := hr.layNew (q := q) (by omega) (by omega) hd hw h
  rw [hq] at h1
  exact ⟨q, H', F', hq, h1, h2, h3⟩

structure Dq where
  f : Kx → Pt → En → QH → Bool
def Dq.bad : Dq := ⟨fun _ _ _ _ => false⟩

def isLook (P : Program) (op : Op) : Bool :=
  match compA P op with
  | .look _ => true
  | _ => false

/-- One operation of an open region, and what comes behind. -/
def stepD (P : Program) (n : Nat) (ops : Array Oper) (j : Nat) (look : Bool) (L : Lay) (ih : Lay → Dq) : Dq :=
  match ops.toList[j]? with
  | some o => bif dstOk n o.dst && (!look || isLook P o.op) then ⟨fun X q e H => (gdQ L (guardOf ops o) (coreQ P L o.op)).f X.call (mkAt j q) e H fun v H' => (ih (layPut L o.dst)).f X q (putE o.dst v e) H'⟩ else .bad
  | none => .bad

/-! Are two states the same? -/

def ksN (kd : Ks) : Nat :=
  match kd with
  | .i k => kc k
  | .b => 10
  | .s => 11
theorem ksN_inj {a b : Ks} (h : ksN a = ksN b) : a = b := by
  have hk : ∀ k : IntKind, kc k < 10 := by intro k; cases k <;> decide
  cases a <;> cases b <;> first | rfl | (rename_i k; have := hk k; simp only [ksN] at h; omega) | (simp only [ksN] at h; rw [kc_inj h]) | (simp [ksN] at h)

/-- Two values that say the same. -/
def veq (x : V) : V → Bool :=
  V.rec (motive := fun _ => V → Bool) (fun _ => false)
    (fun n y => asI y fun m => Nat.beq n m)
    (fun n y => V.rec (motive := fun _ => Bool) false (fun _ => false) (fun m => Nat.beq n m) (fun _ _ => false) (fun _ => false) (fun _ _ => false) (fun _ _ => false) (fun _ _ _ _ => false) (fun _ => false) (fun _ => false) (fun _ _ _ _ _ => false) (fun _ _ _ => false) false (fun _ _ _ _ => false) (fun _ _ => false) (fun _ _ => false) y)
    (fun k n y => V.rec (motive := fun _ => Bool) false (fun _ => false) (fun _ => false) (fun k' n' => decide (k = k') && decide (n = n')) (fun _ => false) (fun _ _ => false) (fun _ _ => false) (fun _ _ _ _ => false) (fun _ => false) (fun _ => false) (fun _ _ _ _ _ => false) (fun _ _ _ => false) false (fun _ _ _ _ => false) (fun _ _ => false) (fun _ _ => false) y)
    (fun b y => asB y fun c => Bool.rec (motive := fun _ => Bool) (Bool.rec (motive := fun _ => Bool) true false c) c b)
    (fun q o y => asP y fun q' o' => Bool.rec (motive := fun _ => Bool) false (Nat.beq o o') (Nat.beq q.num q'.num))
    (fun l n y => asS y fun l' n' => Bool.rec (motive := fun _ => Bool) false (Nat.beq n n') (Nat.beq l l'))
    (fun q o n c y => asL y false fun q' o' n' c' => Bool.rec (motive := fun _ => Bool) false (Bool.rec (motive := fun _ => Bool) false (Bool.rec (motive := fun _ => Bool) false (Nat.beq c c') (Nat.beq n n')) (Nat.beq o o')) (Nat.beq q.num q'.num))
    (fun c y => V.rec (motive := fun _ => Bool) false (fun _ => false) (fun _ => false) (fun _ _ => false) (fun _ => false) (fun _ _ => false) (fun _ _ => false) (fun _ _ _ _ => false) (fun c' => Nat.beq c c') (fun _ => false) (fun _ _ _ _ _ => false) (fun _ _ _ => false) false (fun _ _ _ _ => false) (fun _ _ => false) (fun _ _ => false) y)
    (fun q y => asM y false fun q' => Nat.beq q.num q'.num)
    (fun g _ _ ia ib y => asF y fun g' a' b' => Bool.rec (motive := fun _ => Bool) false (Bool.rec (motive := fun _ => Bool) false (ib b') (ia a')) (Nat.beq g g'))
    (fun t _ ih y => V.rec (motive := fun _ => Bool) false (fun _ => false) (fun _ => false) (fun _ _ => false) (fun _ => false) (fun _ _ => false) (fun _ _ => false) (fun _ _ _ _ => false) (fun _ => false) (fun _ => false) (fun _ _ _ _ _ => false) (fun t' v' _ => Bool.rec (motive := fun _ => Bool) false (ih v') (Nat.beq t t')) false (fun _ _ _ _ => false) (fun _ _ => false) (fun _ _ => false) y)
    (fun y => asC y true fun _ _ => false)
    (fun _ _ ia ib y => asC y false fun a' b' => Bool.rec (motive := fun _ => Bool) false (ib b') (ia a'))
    (fun _ ih y => asT y ih)
    (fun kd t y => V.rec (motive := fun _ => Bool) false (fun _ => false) (fun _ => false) (fun _ _ => false) (fun _ => false) (fun _ _ => false) (fun _ _ => false) (fun _ _ _ _ => false) (fun _ => false) (fun _ => false) (fun _ _ _ _ _ => false) (fun _ _ _ => false) false (fun _ _ _ _ => false) (fun _ _ => false) (fun kd' t' => Bool.rec (motive := fun _ => Bool) false (syq t t') (Nat.beq (ksN kd) (ksN kd'))) y) x

theorem and_of {a b : Bool} (h : Bool.rec (motive := fun _ => Bool) false b a = true) : a = true ∧ b = true := by
  cases a with
  | false => cases h
  | true => exact ⟨rfl, h⟩

theorem veq_spec : ∀ (x y : V), veq x y = true → x = y ∧ x ≠ .bot
  | .bot, _, h => by cases h
  | .i n, y, h => by
    obtain ⟨m, rfl, h⟩ := asI_spec (k := fun m => Nat.beq n m) h
    exact ⟨by rw [Nat.eq_of_beq_eq_true h], by simp⟩
  | .y n, y, h => by
    cases y <;> first | (cases h; done) | exact ⟨by rw [Nat.eq_of_beq_eq_true (m := _) h], by simp⟩
  | .z k n, y, h => by
    cases y <;> first | (cases h; done) | skip
    rename_i k' n'
    have h' : (decide (k = k') && decide (n = n')) = true := h
    simp only [Bool.and_eq_true, decide_eq_true_eq] at h'
    obtain ⟨rfl, rfl⟩ := h'
    exact ⟨rfl, by simp⟩
  | .b b, y, h => by
    obtain ⟨c, rfl, h⟩ := asB_spec (k := fun c => Bool.rec (motive := fun _ => Bool) (Bool.rec (motive := fun _ => Bool) true false c) c b) h
    cases b <;> cases c <;> first | (cases h; done) | exact ⟨rfl, by simp⟩
  | .p q o, y, h => by
    obtain ⟨q', o', rfl, h⟩ := asP_spec (k := fun q' o' => Bool.rec (motive := fun _ => Bool) false (Nat.beq o o') (Nat.beq q.num q'.num)) h
    obtain ⟨h1, h2⟩ := and_of h
    exact ⟨by rw [Pt.num_inj (Nat.eq_of_beq_eq_true h1), Nat.eq_of_beq_eq_true h2], by simp⟩
  | .s l n, y, h => by
    obtain ⟨l', n', rfl, h⟩ := asS_spec (k := fun l' n' => Bool.rec (motive := fun _ => Bool) false (Nat.beq n n') (Nat.beq l l')) h
    obtain ⟨h1, h2⟩ := and_of h
    exact ⟨by rw [Nat.eq_of_beq_eq_true h1, Nat.eq_of_beq_eq_true h2], by simp⟩
  | .l q o n c, y, h => by
    rcases asL_spec (kn := false) (k := fun q' o' n' c' => Bool.rec (motive := fun _ => Bool) false (Bool.rec (motive := fun _ => Bool) false (Bool.rec (motive := fun _ => Bool) false (Nat.beq c c') (Nat.beq n n')) (Nat.beq o o')) (Nat.beq q.num q'.num)) h with ⟨_, h⟩ | ⟨q', o', n', c', rfl, h⟩
    · cases h
    · obtain ⟨h1, h⟩ := and_of h
      obtain ⟨h2, h⟩ := and_of h
      obtain ⟨h3, h4⟩ := and_of h
      exact ⟨by rw [Pt.num_inj (Nat.eq_of_beq_eq_true h1), Nat.eq_of_beq_eq_true h2, Nat.eq_of_beq_eq_true h3, Nat.eq_of_beq_eq_true h4], by simp⟩
  | .n c, y, h => by
    cases y <;> first | (cases h; done) | exact ⟨by rw [Nat.eq_of_beq_eq_true (m := _) h], by simp⟩
  | .m q, y, h => by
    rcases asM_spec (kn := false) (k := fun q' => Nat.beq q.num q'.num) h with ⟨_, h⟩ | ⟨q', rfl, h⟩
    · cases h
    · exact ⟨by rw [Pt.num_inj (Nat.eq_of_beq_eq_true h)], by simp⟩
  | .f g a b, y, h => by
    obtain ⟨g', a', b', rfl, h⟩ := asF_spec (k := fun g' a' b' => Bool.rec (motive := fun _ => Bool) false (Bool.rec (motive := fun _ => Bool) false (veq b b') (veq a a')) (Nat.beq g g')) h
    obtain ⟨h1, h⟩ := and_of h
    obtain ⟨h2, h3⟩ := and_of h
    exact ⟨by rw [Nat.eq_of_beq_eq_true h1, (veq_spec a a' h2).1, (veq_spec b b' h3).1], by simp⟩
  | .e t v, y, h => by
    cases y <;> first | (cases h; done) | skip
    rename_i t' v'
    obtain ⟨h1, h2⟩ := and_of (a := Nat.beq t t') (b := veq v v') h
    exact ⟨by rw [Nat.eq_of_beq_eq_true h1, (veq_spec v v' h2).1], by simp⟩
  | .nil, y, h => by
    rcases asC_spec (kn := true) (k := fun _ _ => false) h with ⟨rfl, _⟩ | ⟨_, _, _, h⟩
    · exact ⟨rfl, by simp⟩
    · cases h
  | .cons a b, y, h => by
    rcases asC_spec (kn := false) (k := fun a' b' => Bool.rec (motive := fun _ => Bool) false (veq b b') (veq a a')) h with ⟨_, h⟩ | ⟨a', b', rfl, h⟩
    · cases h
    · obtain ⟨h1, h2⟩ := and_of h
      exact ⟨by rw [(veq_spec a a' h1).1, (veq_spec b b' h2).1], by simp⟩
  | .t l, y, h => by
    obtain ⟨l', rfl, h⟩ := asT_spec (k := veq l) h
    exact ⟨by rw [(veq_spec l l' h).1], by simp⟩
  | .q kd t, y, h => by
    cases y <;> first | (cases h; done) | skip
    rename_i kd' t'
    obtain ⟨h1, h2⟩ := and_of (a := Nat.beq (ksN kd) (ksN kd')) (b := syq t t') h
    exact ⟨by rw [ksN_inj (Nat.eq_of_beq_eq_true h1), syq_spec h2], by simp⟩

def meq (a : ME) : ME → Bool :=
  ME.rec (motive := fun _ => ME → Bool) (fun b => ME.rec (motive := fun _ => Bool) true (fun _ _ _ _ _ => false) b)
    (fun k v n _ ih b => ME.rec (motive := fun _ => Bool) false (fun k' v' n' r' _ => Bool.rec (motive := fun _ => Bool) false (Bool.rec (motive := fun _ => Bool) false (Bool.rec (motive := fun _ => Bool) false (ih r') (Nat.beq n n')) (veq v v')) (veq k k')) b) a

theorem meq_spec : ∀ (a b : ME), meq a b = true → a = b
  | .nil, b, h => by cases b <;> first | rfl | cases h
  | .cons k v n r, b, h => by
    cases b with
    | nil => cases h
    | cons k' v' n' r' =>
      obtain ⟨h1, h⟩ := and_of (a := veq k k') (b := Bool.rec (motive := fun _ => Bool) false (Bool.rec (motive := fun _ => Bool) false (meq r r') (Nat.beq n n')) (veq v v')) h
      obtain ⟨h2, h⟩ := and_of h
      obtain ⟨h3, h4⟩ := and_of h
      rw [(veq_spec _ _ h1).1, (veq_spec _ _ h2).1, Nat.eq_of_beq_eq_true h3, meq_spec r r' h4]

def ceq (a b : Cs V) (n : Nat) : Bool := Nat.rec (motive := fun _ => Bool) true (fun m ih => Bool.rec (motive := fun _ => Bool) false ih (veq (cget a m) (cget b m))) n

theorem ceq_spec {a b : Cs V} : ∀ {n : Nat}, ceq a b n = true → ∀ i, i < n → cget a i = cget b i
  | 0, _, i, hi => by omega
  | n + 1, h, i, hi => by
    obtain ⟨h1, h2⟩ := and_of (a := veq (cget a n) (cget b n)) (b := ceq a b n) h
    by_cases he : i = n
    · subst he; exact (veq_spec _ _ h1).1
    · exact ceq_spec h2 i (by omega)

def qoeq (a b : QO) : Bool :=
  QO.rec (motive := fun _ => Bool) (QO.rec (motive := fun _ => Bool) true (fun _ _ _ => false) (fun _ _ => false) (fun _ _ _ => false) false (fun _ _ _ => false) b)
    (fun cs n e => QO.rec (motive := fun _ => Bool) false (fun cs' n' e' => Bool.rec (motive := fun _ => Bool) false (Bool.rec (motive := fun _ => Bool) false (ceq cs cs' n) (Nat.beq e e')) (Nat.beq n n')) (fun _ _ => false) (fun _ _ _ => false) false (fun _ _ _ => false) b)
    (fun es k => QO.rec (motive := fun _ => Bool) false (fun _ _ _ => false) (fun es' k' => Bool.rec (motive := fun _ => Bool) false (meq es es') (Nat.beq k k')) (fun _ _ _ => false) false (fun _ _ _ => false) b)
    (fun l n p => QO.rec (motive := fun _ => Bool) false (fun _ _ _ => false) (fun _ _ => false) (fun l' n' p' => Bool.rec (motive := fun _ => Bool) false (Bool.rec (motive := fun _ => Bool) false (Nat.beq p p') (Nat.beq n n')) (Nat.beq l l')) false (fun _ _ _ => false) b)
    (QO.rec (motive := fun _ => Bool) false (fun _ _ _ => false) (fun _ _ => false) (fun _ _ _ => false) true (fun _ _ _ => false) b)
    (fun _ _ _ => false) a

theorem qoeq_spec {a b : QO} (h : qoeq a b = true) : decO a = decO b := by
  cases a with
  | no => cases b <;> first | rfl | cases h
  | c cs n e =>
    cases b <;> first | (cases h; done) | skip
    rename_i cs' n' e'
    obtain ⟨h1, h⟩ := and_of (a := Nat.beq n n') (b := Bool.rec (motive := fun _ => Bool) false (ceq cs cs' n) (Nat.beq e e')) h
    obtain ⟨h2, h3⟩ := and_of h
    obtain rfl := Nat.eq_of_beq_eq_true h1
    obtain rfl := Nat.eq_of_beq_eq_true h2
    show some (AObj.cells (lc cs n) e) = some (AObj.cells (lc cs' n) e)
    have : lc cs n = lc cs' n := by
      unfold lc
      apply List.map_congr_left
      intro i hi
      rw [ceq_spec h3 i (List.mem_range.1 hi)]
    rw [this]
  | m es k =>
    cases b <;> first | (cases h; done) | skip
    rename_i es' k'
    obtain ⟨h1, h2⟩ := and_of (a := Nat.beq k k') (b := meq es es') h
    rw [Nat.eq_of_beq_eq_true h1, meq_spec _ _ h2]
  | r l n p =>
    cases b <;> first | (cases h; done) | skip
    rename_i l' n' p'
    obtain ⟨h1, h⟩ := and_of (a := Nat.beq l l') (b := Bool.rec (motive := fun _ => Bool) false (Nat.beq p p') (Nat.beq n n')) h
    obtain ⟨h2, h3⟩ := and_of h
    rw [Nat.eq_of_beq_eq_true h1, Nat.eq_of_beq_eq_true h2, Nat.eq_of_beq_eq_true h3]
  | dead => cases b <;> first | rfl | cases h
  | g => cases h

def cmpJ (r1 r2 : N5 QO) (j : PL) : Bool := PL.rec (motive := fun _ => Bool) true (fun q _ ih => Bool.rec (motive := fun _ => Bool) false ih (qoeq (hg r1 q) (hg r2 q))) j

theorem cmpJ_spec {r1 r2 : N5 QO} : ∀ {j : PL}, cmpJ r1 r2 j = true → ∀ q, inP q j → decO (hg r1 q) = decO (hg r2 q)
  | .nil, _, q, hq => hq.elim
  | .cons p r, h, q, hq => by
    obtain ⟨h1, h2⟩ := and_of (a := qoeq (hg r1 p) (hg r2 p)) (b := cmpJ r1 r2 r) h
    rcases hq with rfl | hq
    · exact qoeq_spec h1
    · exact cmpJ_spec h2 q hq

def cmpE (L1 L2 : Lay) (e1 e2 : En) (ts : List Nat) : Bool := List.rec (motive := fun _ => Bool) true (fun t _ ih => Bool.rec (motive := fun _ => Bool) false ih (veq ((rd L1 (.tmp t)).g e1) ((rd L2 (.tmp t)).g e2))) ts

theorem cmpE_spec {lv : Nat → Bool} {L1 L2 : Lay} {e1 e2 : En} {tm1 tm2 : TM} (h1 : ER lv L1 e1 tm1) (h2 : ER lv L2 e2 tm2) : ∀ {ts : List Nat}, cmpE L1 L2 e1 e2 ts = true → ∀ t ∈ ts, TM.val lv tm1 t = TM.val lv tm2 t
  | [], _, t, ht => by cases ht
  | u :: ts, h, t, ht => by
    obtain ⟨g1, g2⟩ := and_of (a := veq ((rd L1 (.tmp u)).g e1) ((rd L2 (.tmp u)).g e2)) (b := cmpE L1 L2 e1 e2 ts) h
    rcases List.mem_cons.1 ht with rfl | ht
    · obtain ⟨k1, k2⟩ := veq_spec _ _ g1
      have v1 : TM.val lv tm1 t = _ := (rd_spec h1 (.tmp t)).eq k2
      have v2 : TM.val lv tm2 t = _ := (rd_spec h2 (.tmp t)).eq (by rw [← k1]; exact k2)
      rw [v1, v2, k1]
    · exact cmpE_spec h1 h2 g2 t ht

def cmpS (L1 L2 : Lay) (e1 e2 : En) (H1 H2 : QH) (ts : List Nat) (k : Bool) : Bool :=
  eq H1.x.num H2.x.num (Bool.rec (motive := fun _ => Bool) false (Bool.rec (motive := fun _ => Bool) false (Bool.rec (motive := fun _ => Bool) false k (cmpJ H1.r H2.r H2.j)) (cmpJ H1.r H2.r H1.j)) (cmpE L1 L2 e1 e2 ts))

/-! Orders. -/

def nilJ (H : QH) : QH := ⟨H.r, H.x, .nil, H.f⟩
/-- The same with what was decided since. -/
def nilF (H H1 : QH) : QH := ⟨H.r, H.x, .nil, H1.f⟩
def appJ (a b : PL) : (PL → Bool) → Bool := PL.rec (motive := fun _ => (PL → Bool) → Bool) (fun k => k b) (fun q _ ih k => ih fun r => k (.cons q r)) a
def pushA (e : En) (H : QH) (X : Kx) : Kx := ⟨X.call, X.ret, X.lps, .cons e H X.al⟩
def popA (X : Kx) (k : En → QH → Kx → Bool) : Bool := Al.rec (motive := fun _ => Bool) false (fun e H r _ => k e H ⟨X.call, X.ret, X.lps, r⟩) X.al

theorem appJ_spec : ∀ {a b : PL} {k : PL → Bool}, appJ a b k = true → ∃ c, (∀ q, inP q a ∨ inP q b → inP q c) ∧ k c = true
  | .nil, b, k, h => ⟨b, fun q hq => hq.resolve_left id, h⟩
  | .cons p r, b, k, h => by
    obtain ⟨c, h1, h2⟩ := appJ_spec (a := r) (b := b) (k := fun r => k (.cons p r)) h
    refine ⟨.cons p c, fun q hq => ?_, h2⟩
    rcases hq with (rfl | hq) | hq
    · exact .inl rfl
    · exact .inr (h1 q (.inl hq))
    · exact .inr (h1 q (.inr hq))

/-- Slots that live beyond and are written. -/
def dsts (lv : Nat → Bool) (ops : Array Oper) : List Nat := ops.toList.filterMap fun o => match o.dst with
  | some t => bif lv t then some t else none
  | none => none

/-- One order, and then the others, from the same state; all must come to the same. -/
def altD (ts : List Nat) (L : Lay) (one other : (Lay → Dq) → Dq) (next : Lay → Dq) : Dq :=
  ⟨fun X q e H => (one fun L1 => ⟨fun X q e1 H1 => popA X fun e0 H0 _ => (other fun L2 => ⟨fun X q e2 H2 => popA X fun e1 H1 X => popA X fun _ H0 X =>
    cmpS L1 L2 e1 e2 H1 H2 ts (appJ H1.j H0.j fun j => (next L1).f X q e1 ⟨H1.r, H1.x, j, H1.f⟩)⟩).f (pushA e1 H1 X) q e0 (nilF H0 H1)⟩).f (pushA e H X) q e (nilJ H)⟩

def planQ (P : Program) (lv : Nat → Bool) (n : Nat) (ops : Array Oper) (p : Plan) : (Lay → Dq) → Lay → Dq :=
  Plan.rec (motive := fun _ => (Lay → Dq) → Lay → Dq) (fun next L => next L)
    (fun j _ ih next L => stepD P n ops j true L (ih next))
    (fun j _ other ih io next L => bif isStop other then stepD P n ops j false L (ih next) else altD (dsts lv ops) L (fun nx => stepD P n ops j false L (ih nx)) (fun nx => io nx L) next)
    (fun _ _ => .bad) p

def finD (lv : Nat → Bool) (lm : Nat) (next : Lay → Cq) (L : Lay) : Dq := ⟨fun X _ e H => (finR lv lm next L).f X e H⟩

def drawQ (P : Program) (lv : Nat → Bool) (n : Nat) (ops : Array Oper) (L : Lay) (next : Lay → Cq) : Cq :=
  match planA P false ops with
  | some p => bif P.follows .mixedOrders && Region.noSelect ops then ⟨fun X e H => QH.rec (motive := fun _ => Bool) (fun r x j f => padN ops.size x fun x' => (planQ P lv n ops p (fun L => ⟨fun X _ e H => (next L).f X e H⟩) L).f X x e ⟨r, x', j, f⟩) H⟩ else .bad
  | none => .bad

theorem stepG_look_same {lv : Nat → Bool} {R : Nat} {P : Program} {n : Nat} {ops : Array Oper} {o : Oper} {call : CallF} {id next : Nat} {tm : TM} {F : FW} (h : isLook P o.op = true) :
    Am.stepG lv R call true (compO P lv n ops o) id next tm F = Am.stepG lv R call false (compO P lv n ops o) id next tm F := by
  unfold Am.stepG compO
  unfold isLook at h
  split at h
  · rename_i f hf
    rw [hf]
    rfl
  · cases h

theorem finT_frame {lv : Nat → Bool} {tm tm' : TM} {n : Nat} {d : Option Nat} {v : Value} {F F' : FW} (h : finT tm (clampD n d) v F = some (tm', F')) {t : Nat} (ht : d ≠ some t) : TM.val lv tm' t = TM.val lv tm t := by
  unfold finT at h
  split at h
  · rename_i tm1 hp
    simp only [Option.some.injEq, Prod.mk.injEq] at h
    obtain ⟨rfl, _⟩ := h
    unfold putT clampD at hp
    cases d with
    | none => simp only [Option.some.injEq] at hp; subst hp; rfl
    | some u =>
      simp only at hp
      obtain ⟨hok, hp⟩ := some_of_cond hp
      simp only [Option.some.injEq] at hp
      subst hp
      rw [put_val, if_neg]
      intro e
      cases hb : Nat.blt u n with
      | true => rw [hb] at e; exact ht (by rw [e]; rfl)
      | false =>
        rw [hb] at hok
        exact absurd hok (by show ¬ okN 1099511627770 = true; decide)
  · cases h

theorem stepG_frame {lv : Nat → Bool} {R : Nat} {P : Program} {n : Nat} {ops : Array Oper} {o : Oper} {call : CallF} {look : Bool} {id next : Nat} {tm tm' : TM} {F F' : FW} (h : Am.stepG lv R call look (compO P lv n ops o) id next tm F = some (tm', F')) {t : Nat} (ht : o.dst ≠ some t) : TM.val lv tm' t = TM.val lv tm t := by
  unfold Am.stepG compO at h
  simp only at h
  cases hg : (guardOf ops o).holds lv tm with
  | true =>
    rw [hg, cond_true] at h
    cases hc : (compA P o.op).toT lv with
    | look f =>
      rw [hc] at h
      simp only at h
      unfold finO at h
      split at h
      · exact finT_frame h ht
      · cases h
    | make f =>
      rw [hc] at h
      simp only at h
      unfold finM at h
      split at h
      · split at h
        · exact finT_frame h ht
        · cases h
      · cases h
    | write f =>
      rw [hc] at h
      simp only at h
      unfold finW at h
      split at h
      · exact finT_frame h ht
      · cases h
    | call f =>
      rw [hc] at h
      simp only at h
      unfold finC at h
      split at h
      · split at h
        · obtain ⟨_, h⟩ := some_of_cond h
          exact finT_frame h ht
        · cases h
      · cases h
  | false =>
    rw [hg, cond_false] at h
    obtain ⟨_, h⟩ := some_of_cond h
    exact finT_frame h ht

/-- All but some slots are as they were. -/
def Same (lv : Nat → Bool) (ops : Array Oper) (tm tm' : TM) : Prop := ∀ t, lv t = true → t ∉ dsts lv ops → TM.val lv tm' t = TM.val lv tm t

theorem dsts_mem {lv : Nat → Bool} {ops : Array Oper} {j : Nat} {o : Oper} {t : Nat} (ho : ops.toList[j]? = some o) (hd : o.dst = some t) (hl : lv t = true) : t ∈ dsts lv ops := by
  unfold dsts
  rw [List.mem_filterMap]
  exact ⟨o, List.mem_of_getElem? ho, by rw [hd]; simp only [hl, cond_true]⟩

theorem stepD_spec {R : Nat} {G : N5 QO} {P : Program} {lv : Nat → Bool} {n : Nat} {ops : Array Oper} {call : CallF} {j : Nat} {look : Bool} {L : Lay} {ih : Lay → Dq} {X : Kx} {q0 : Pt} {e : En} {H : QH} {tm : TM} {F : FW}
    (hq : CallOk R call X.call) (he : ER lv L e tm) (ht : TmOk tm) (hr : HR R G H F) (hR : R ≤ q0.num) (hb : q0.num + ops.size ≤ F.next) (h : (stepD P n ops j look L ih).f X q0 e H = true) :
    ∃ tm' F' L' e' H', stepX lv R call q0.num (compL P lv n ops) j look tm F = some (tm', F') ∧ ER lv L' e' tm' ∧ TmOk tm' ∧ HR R G H' F' ∧ F.next ≤ F'.next ∧ Same lv ops tm tm' ∧ (ih L').f X q0 e' H' = true := by
  unfold stepD at h
  split at h
  · rename_i o ho
    cases hd : (dstOk n o.dst && (!look || isLook P o.op)) with
    | false => rw [hd] at h; cases h
    | true =>
      rw [hd, cond_true] at h
      simp only [Bool.and_eq_true] at hd
      have hj : j < ops.size := by
        have := (List.getElem?_eq_some_iff.1 ho).1
        simpa using this
      obtain ⟨tm', F', H', v, h1, h2, h3, h4, h5, h6⟩ := gdQ_spec (n := n) hq he ht hd.1 hr (by omega) (mkAt_ok (j := j) hR (by omega)) (Nat.le_refl _) h
      refine ⟨tm', F', _, _, H', ?_, h2, h3, h4, h5, fun t hl hm => stepG_frame h1 (fun hd => hm (dsts_mem ho hd hl)), h6⟩
      unfold stepX
      have hl : (compL P lv n ops)[j]? = some (compO P lv n ops o) := by
        unfold compL
        rw [List.getElem?_map, ho]
        rfl
      rw [hl]
      cases look with
      | false => exact h1
      | true =>
        have hk : isLook P o.op = true := by simpa using hd.2
        show Am.stepG lv R call true (compO P lv n ops o) (q0.num + j) F.next tm F = _
        rw [stepG_look_same hk]
        exact h1
  · cases h

theorem HR.nilJ {R : Nat} {G : N5 QO} {H : QH} {F : FW} (hr : HR R G H F) : HR R H.r (nilJ H) F := ⟨hr.next, hr.objs, hr.wf, hr.low, hr.free, fun _ _ => rfl, hr.fact⟩

theorem HR.join {R : Nat} {G : N5 QO} {H H1 : QH} {F F1 : FW} {j : PL} (hr : HR R G H F) (h1 : HR R H.r H1 F1) (hj : ∀ q, inP q H1.j ∨ inP q H.j → inP q j) : HR R G ⟨H1.r, H1.x, j, H1.f⟩ F1 := by
  refine ⟨h1.next, h1.objs, h1.wf, h1.low, h1.free, fun q hq => ?_, h1.fact⟩
  show hg H1.r q = hg G q
  rw [h1.jr q (fun k => hq (hj q (.inl k)))]
  exact hr.jr q (fun k => hq (hj q (.inr k)))

theorem heap_same {R : Nat} {r0 : N5 QO} {H1 H2 : QH} {F1 F2 : FW} (h1 : HR R r0 H1 F1) (h2 : HR R r0 H2 F2) (c1 : cmpJ H1.r H2.r H1.j = true) (c2 : cmpJ H1.r H2.r H2.j = true) (b : Nat) : F1.heap.get b = F2.heap.get b := by
  by_cases hb : b < 1048576
  · have e : (Pt.of b).num = b := Pt.of_num hb
    have o1 := h1.objs (Pt.of b)
    have o2 := h2.objs (Pt.of b)
    rw [e] at o1 o2
    rw [o1, o2]
    by_cases k1 : inP (Pt.of b) H1.j
    · exact cmpJ_spec c1 _ k1
    · by_cases k2 : inP (Pt.of b) H2.j
      · exact cmpJ_spec c2 _ k2
      · rw [h1.jr _ k1, h2.jr _ k2]
  · have n1 := H1.x.num_lt
    have n2 := H2.x.num_lt
    rw [h1.free b (by rw [h1.next]; omega), h2.free b (by rw [h2.next]; omega)]

theorem flush_not {lv : Nat → Bool} {tm : TM} (ht : TmOk tm) {t : Nat} (h : lv t = false) : TM.val lv (tm.flush lv) t = Am.bot := by
  have := flushL_get (lv := lv) tm.loc tm.out ht t
  rw [h, cond_false] at this
  exact this

theorem planQ_spec {R : Nat} {P : Program} {lv : Nat → Bool} {n : Nat} {ops : Array Oper} {call : CallF} {q0 : Pt} (hR : R ≤ q0.num) (p : Plan) :
    ∀ {G : N5 QO} {X : Kx} {next : Lay → Dq} {L : Lay} {e : En} {H : QH} {tm : TM} {F : FW}, CallOk R call X.call → ER lv L e tm → TmOk tm → HR R G H F → q0.num + ops.size ≤ F.next → (planQ P lv n ops p next L).f X q0 e H = true →
      ∃ tm' F' L' e' H', runPlan lv (stepX lv R call q0.num (compL P lv n ops)) p tm F = some (tm'.flush lv, F') ∧ TmOk tm' ∧ F.next ≤ F'.next ∧ ER lv L' e' tm' ∧ HR R G H' F' ∧ Same lv ops tm tm' ∧ (next L').f X q0 e' H' = true := by
  induction p with
  | done =>
    intro G X next L e H tm F hq he ht hr hb h
    exact ⟨tm, F, L, e, H, rfl, ht, Nat.le_refl _, he, hr, fun _ _ _ => rfl, h⟩
  | look j r ih =>
    intro G X next L e H tm F hq he ht hr hb h
    obtain ⟨tm1, F1, L1, e1, H1, h1, h2, h3, h4, h5, hs, h6⟩ := stepD_spec hq he ht hr hR hb h
    obtain ⟨tm2, F2, L2, e2, H2, g1, g2, g3, g4, g5, gs, g6⟩ := ih hq h2 h3 h4 (Nat.le_trans hb h5) h6
    refine ⟨tm2, F2, L2, e2, H2, ?_, g2, Nat.le_trans h5 g3, g4, g5, fun t a b => (gs t a b).trans (hs t a b), g6⟩
    show goS (stepX lv R call q0.num (compL P lv n ops) j true tm F) (runPlan lv _ r) = _
    rw [h1]
    exact g1
  | alt j r other ih io =>
    intro G X next L e H tm F hq he ht hr hb h
    have one : ∀ {G : N5 QO} {X : Kx} {nx : Lay → Dq} {H : QH}, CallOk R call X.call → HR R G H F → (stepD P n ops j false L (planQ P lv n ops r nx)).f X q0 e H = true →
        ∃ tm' F' L' e' H', goS (stepX lv R call q0.num (compL P lv n ops) j false tm F) (runPlan lv (stepX lv R call q0.num (compL P lv n ops)) r) = some (tm'.flush lv, F') ∧ TmOk tm' ∧ F.next ≤ F'.next ∧ ER lv L' e' tm' ∧ HR R G H' F' ∧ Same lv ops tm tm' ∧ (nx L').f X q0 e' H' = true := by
      intro G X nx H hq hr h
      obtain ⟨tm1, F1, L1, e1, H1, h1, h2, h3, h4, h5, hs, h6⟩ := stepD_spec hq he ht hr hR hb h
      obtain ⟨tm2, F2, L2, e2, H2, g1, g2, g3, g4, g5, gs, g6⟩ := ih hq h2 h3 h4 (Nat.le_trans hb h5) h6
      refine ⟨tm2, F2, L2, e2, H2, ?_, g2, Nat.le_trans h5 g3, g4, g5, fun t a b => (gs t a b).trans (hs t a b), g6⟩
      rw [h1]
      exact g1
    have h' : (bif isStop other then stepD P n ops j false L (planQ P lv n ops r next) else altD (dsts lv ops) L (fun nx => stepD P n ops j false L (planQ P lv n ops r nx)) (fun nx => planQ P lv n ops other nx L) next).f X q0 e H = true := h
    cases hs : isStop other with
    | true =>
      rw [hs, cond_true] at h'
      obtain ⟨tm2, F2, L2, e2, H2, g1, g2⟩ := one hq hr h'
      refine ⟨tm2, F2, L2, e2, H2, ?_, g2⟩
      show altS lv (isStop other) (goS (stepX lv R call q0.num (compL P lv n ops) j false tm F) (runPlan lv _ r)) (runPlan lv _ other tm F) = _
      rw [g1, hs]
      rfl
    | false =>
      rw [hs, cond_false] at h'
      have h1 : (stepD P n ops j false L (planQ P lv n ops r _)).f (pushA e H X) q0 e (nilJ H) = true := h'
      obtain ⟨tm1, F1, L1, e1, H1, a1, a2, a3, a4, a5, a6, a7⟩ := one (X := pushA e H X) hq hr.nilJ h1
      have h2 : (planQ P lv n ops other _ L).f (pushA e1 H1 (pushA e H X)) q0 e (nilF H H1) = true := a7
      obtain ⟨tm2, F2, L2, e2, H2, b1, b2, b3, b4, b5, b6, b7⟩ := io (X := pushA e1 H1 (pushA e H X)) hq he ht (hr.nilJ.facts a5.fact : HR R H.r (nilF H H1) F) hb h2
      have h3 : cmpS L1 L2 e1 e2 H1 H2 (dsts lv ops) (appJ H1.j H.j fun j => (next L1).f X q0 e1 ⟨H1.r, H1.x, j, H1.f⟩) = true := b7
      obtain ⟨c1, h3⟩ := eq_spec h3
      obtain ⟨c2, h3⟩ := and_of h3
      obtain ⟨c3, h3⟩ := and_of h3
      obtain ⟨c4, h3⟩ := and_of h3
      obtain ⟨jj, d1, d2⟩ := appJ_spec h3
      refine ⟨tm1, F1, L1, e1, ⟨H1.r, H1.x, jj, H1.f⟩, ?_, a2, a3, a4, hr.join a5 d1, a6, d2⟩
      show altS lv (isStop other) (goS (stepX lv R call q0.num (compL P lv n ops) j false tm F) (runPlan lv _ r)) (runPlan lv _ other tm F) = _
      rw [a1, b1, hs]
      have same : Am.sameS lv (tm1.flush lv, F1) (tm2.flush lv, F2) := by
        refine ⟨fun t => ?_, rfl, fun b => heap_same a5 b5 c3 c4 b, ?_⟩
        · show TM.val lv (tm1.flush lv) t = TM.val lv (tm2.flush lv) t
          cases hl : lv t with
          | false => rw [flush_not a2 hl, flush_not b2 hl]
          | true =>
            rw [flush_val a2 hl, flush_val b2 hl]
            by_cases hm : t ∈ dsts lv ops
            · exact cmpE_spec a4 b4 c2 t hm
            · rw [a6 t hl hm, b6 t hl hm]
        · show F1.next = F2.next
          rw [a5.next, b5.next, c1]
      unfold altS
      simp only [cond_false]
      rw [@decide_eq_true _ (Classical.propDecidable _) same, cond_true]
  | stop => intro G X next L e H tm F hq he ht hr hb h; cases h

theorem drawQ_ok {P : Program} {lv : Nat → Bool} {n R : Nat} {call : Nat → CallF} : DrawOk P lv n R call (drawQ P lv n) := by
  intro G ops lm next L X e H tm F hq he ht hr hR h
  unfold drawQ at h
  split at h
  · rename_i p hp
    cases hm : (P.follows .mixedOrders && Region.noSelect ops) with
    | false => rw [hm] at h; cases h
    | true =>
      rw [hm, cond_true] at h
      obtain ⟨r, x, jj, ff⟩ := H
      obtain ⟨x', hx, h⟩ := padN_spec (k := fun x' => (planQ P lv n ops p (fun L => ⟨fun X _ e H => (finR lv lm next L).f X e H⟩) L).f X x e ⟨r, x', jj, ff⟩) h
      have hn : F.next = x.num := hr.next
      have hr2 : HR R G ⟨r, x', jj, ff⟩ ⟨F.heap, F.next + ops.size⟩ := ⟨by show F.next + ops.size = x'.num; omega, hr.objs, hr.wf, hr.low, fun b hb => hr.free b (by have hb' : F.next + ops.size ≤ b := hb; omega), hr.jr, hr.fact⟩
      obtain ⟨tm1, F', L1, e1, H', h1, h2, h3, h4, h5, _, h6⟩ := planQ_spec (call := call R) (q0 := x) (by omega) p hq he ht hr2 (by show x.num + ops.size ≤ F.next + ops.size; omega) h
      obtain ⟨L', e', g1, g2⟩ := finR_spec h4 h2 (lm := lm) h6
      refine ⟨tm1.flush lv, F', L', e', H', ?_, (h4.flush (lm := 0) h2).2, by have : F.next + ops.size ≤ F'.next := h3; omega, g1, h5, g2⟩
      unfold regionS
      rw [cond_true, hm, cond_true]
      unfold regionX
      rw [hp]
      show normS (runPlan lv (stepX lv R (call R) F.next (compL P lv n ops)) p tm ⟨F.heap, F.next + ops.size⟩) = _
      rw [hn] at h1 ⊢
      rw [h1]
      rfl
  · cases h

/-! Functions. -/

structure Fq where
  f : Kall → En → QH → (V → QH → Bool) → Bool
def Fq.bad : Fq := ⟨fun _ _ _ _ => false⟩

def lenLe (e : En) : Nat → Bool := En.rec (motive := fun _ => Nat → Bool) (fun _ => true) (fun _ _ ih n => Nat.rec (motive := fun _ => Bool) false (fun m _ => ih m) n) e

theorem lenLe_spec : ∀ {e : En} {vs : List Value} {n : Nat}, AR e vs → lenLe e n = true → vs.length ≤ n
  | .nil, [], n, _, _ => Nat.zero_le _
  | .cons x t, v :: r, 0, _, h => by cases h
  | .cons x t, v :: r, n + 1, ha, h => by
    have := lenLe_spec (e := t) (vs := r) (n := n) ha.2 h
    simp only [List.length_cons]; omega
  | .nil, _ :: _, _, ha, _ => ha.elim
  | .cons _ _, [], _, ha, _ => ha.elim

theorem AR.get : ∀ {e : En} {vs : List Value} (i : Nat), AR e vs → (i < vs.length → VQ (nthF i e) (vs.getD i undef)) ∧ (vs.length ≤ i → nthF i e = .bot)
  | .nil, [], i, _ => ⟨fun h => absurd h (Nat.not_lt_zero _), fun _ => nthF_nil i⟩
  | .cons x t, v :: r, 0, ha => ⟨fun _ => ha.1, fun h => by simp at h⟩
  | .cons x t, v :: r, i + 1, ha => by
    obtain ⟨h1, h2⟩ := AR.get (e := t) (vs := r) i ha.2
    exact ⟨fun h => by rw [List.getD_cons_succ]; exact h1 (by simpa using h), fun h => h2 (by simpa using h)⟩
  | .nil, _ :: _, _, ha => ha.elim
  | .cons _ _, [], _, ha => ha.elim

def argL (lv : Nat → Bool) (k : Nat) : Lay := (List.range k).map fun i => bif lv i then some i else none

theorem argL_er {lv : Nat → Bool} {k : Nat} {e : En} {vs : List Value} (ha : AR e vs) (hlen : vs.length ≤ 1000000) : ER lv (argL lv k) e ((argsT vs 0 ⟨[], .nil⟩).flush lv) ∧ TmOk ((argsT vs 0 ⟨[], .nil⟩).flush lv) := by
  have hok : TmOk (argsT vs 0 ⟨[], .nil⟩) := by
    have key : ∀ (vs : List Value) (i : Nat) (tm : TM), i + vs.length ≤ 1000000 → TmOk tm → TmOk (argsT vs i tm) := by
      intro vs
      induction vs with
      | nil => intro i tm _ h; exact h
      | cons v r ih =>
        intro i tm hi h
        simp only [List.length_cons] at hi
        refine ih (i + 1) (tm.put i v) (by omega) ?_
        intro p hp
        simp only [TM.put, List.mem_cons] at hp
        rcases hp with rfl | hp
        · show okN i = true
          unfold okN
          rw [Nat.blt_eq]
          omega
        · exact h p hp
    exact key vs 0 _ (by omega) (fun p hp => by cases hp)
  refine ⟨fun i t hi => ?_, fun p hp => by cases hp⟩
  unfold argL at hi
  rw [List.getElem?_map] at hi
  cases hr : (List.range k)[i]? with
  | none => rw [hr] at hi; cases hi
  | some j =>
    rw [hr] at hi
    have hj : j = i := by
      obtain ⟨h1, h2⟩ := List.getElem?_eq_some_iff.1 hr
      simpa using h2.symm
    subst hj
    cases hl : lv j with
    | false => rw [Option.map_some, hl] at hi; cases hi
    | true =>
      rw [Option.map_some, hl] at hi
      simp only [cond_true, Option.some.injEq] at hi
      subst hi
      rw [flush_val hok hl, argsT_get]
      obtain ⟨h1, h2⟩ := AR.get j ha
      by_cases hlt : j < vs.length
      · rw [if_pos ⟨Nat.zero_le _, by omega⟩]
        exact h1 hlt
      · exact .inl (h2 (by omega))

def retK (k : V → QH → Bool) : Lps := .nil

/-- A function's text, made ready. -/
def bodyQ (P : Program) (fn : Func) (c : Code) : Cq :=
  comp P (lvOf fn c) fn.ntmps (resM fn.results.toList) fn.results.toList (drawQ P (lvOf fn c) fn.ntmps) c (argL (lvOf fn c) (Nat.succ (Nat.add fn.params.size 8))) (resM fn.results.toList) (fun _ => 0)
    (fun L => ⟨fun X e H => retF P fn.results.toList L e H X.ret⟩) (fun _ _ => .bad)

def ext2 (n : Nat) (en : En) (k : V → Bool) : Bool :=
  En.rec (motive := fun _ => Bool) false (fun x t _ => En.rec (motive := fun _ => Bool) false (fun y t _ => En.rec (motive := fun _ => Bool) (fall2 (fun a b => extA n [a, b]) x y k) (fun _ _ _ => false) t) t) en

/-- What is known of a function, quick. -/
structure Kq where
  f : En → QH → (V → QH → Bool) → Bool

/-- One whose result alone is known. -/
def Kq.look (f : En → (V → Bool) → Bool) : Kq := ⟨fun en H k => f en fun u => k u H⟩

/-- The table says what is known. -/
structure TOk (E : Env) (T : FuncId → Option Kq) : Prop where
  kn : ∀ g q, T g = some q → E.ss g = none → ∀ (R : Nat) (G : N5 QO) en vs H F k, AR en vs → HR R G H F → q.f en H k = true → ∃ u v H', E.kn g vs = some v ∧ VQ u v ∧ HR R G H' F ∧ k u H' = true
  ss : ∀ g q s, T g = some q → E.ss g = some s → ∀ (R : Nat) (G : N5 QO) en vs H F k, AR en vs → HR R G H F → R ≤ F.next → q.f en H k = true → ∃ u v H' F', s.f R vs F = some (v, F') ∧ VQ u v ∧ HR R G H' F' ∧ F.next ≤ F'.next ∧ k u H' = true
  no : ∀ g vs, T g = none → E.kn g vs = none

def funQ (P : Program) (E : Env) (T : FuncId → Option Kq) (g : FuncId) : Fq :=
  match E.ss g with
  | some _ => (match T g with
    | some q => ⟨fun _ en H k => q.f en H k⟩
    | none => .bad)
  | none => (match P.funcs[g]? with
  | some fn => bif !(fn.name == "runtime.NumGoroutine") then (match fn.body with
    | some c => (match T g with
      | some q => ⟨fun _ en H k => q.f en H k⟩
      | none => ⟨fun call en H k => Bool.rec (motive := fun _ => Bool) false (Bool.rec (motive := fun _ => Bool) false ((bodyQ P fn c).f ⟨call, k, .nil, .nil⟩ en H) (Nat.ble fn.ntmps 1000000)) (lenLe en fn.ntmps)⟩)
    | none => ⟨fun _ en H k => ext2 (E.ext g) en fun v => k v H⟩) else .bad
  | none => .bad)

def callN (P : Program) (E : Env) (T : FuncId → Option Kq) (f : Nat) : Kall := Nat.rec (motive := fun _ => Kall) (fun _ _ _ _ => false) (fun _ ih g en H k => (funQ P E T g).f ih en H k) f

theorem callN_ok {P : Program} {E : Env} {T : FuncId → Option Kq} (hT : TOk E T) {R : Nat} : ∀ (f : Nat), CallOk R (callA P E f R) (callN P E T f)
  | 0 => fun G g en vs H F k _ _ _ h => by cases h
  | f + 1 => by
    intro G g en vs H F k ha hr hR h
    have h' : (funQ P E T g).f (callN P E T f) en H k = true := h
    show ∃ r v H' F', callS P E (callA P E f) R g vs F = some (v, F') ∧ _
    unfold funQ at h'
    unfold callS
    cases hss : E.ss g with
    | some s =>
      rw [hss] at h'
      simp only at h'
      split at h'
      · rename_i q hv
        obtain ⟨u, v, H', F', h1, h2, h3, h4, h5⟩ := hT.ss g q s hv hss R G en vs H F k ha hr hR h'
        exact ⟨u, v, H', F', h1, h2, h3, h4, h5⟩
      · cases h'
    | none =>
    rw [hss] at h'
    simp only at h' ⊢
    split at h'
    · rename_i fn hfn
      rw [hfn]
      cases hname : (!(fn.name == "runtime.NumGoroutine")) with
      | false => rw [hname] at h'; cases h'
      | true =>
        rw [hname, cond_true] at h'
        simp only [hname, cond_true]
        unfold bodyS
        split at h'
        · rename_i c hc
          simp only [hc]
          split at h'
          · rename_i q hv
            obtain ⟨u, v, H', h1, h2, hr', h3⟩ := hT.kn g q hv hss R G en vs H F k ha hr h'
            simp only [h1]
            exact ⟨u, v, H', F, rfl, h2, hr', Nat.le_refl _, h3⟩
          · rename_i hv
            simp only [hT.no g vs hv]
            have h2 : Bool.rec (motive := fun _ => Bool) false (Bool.rec (motive := fun _ => Bool) false ((bodyQ P fn c).f ⟨callN P E T f, k, .nil, .nil⟩ en H) (Nat.ble fn.ntmps 1000000)) (lenLe en fn.ntmps) = true := h'
            cases hl : lenLe en fn.ntmps with
            | false => rw [hl] at h2; cases h2
            | true =>
              rw [hl] at h2
              cases hm : Nat.ble fn.ntmps 1000000 with
              | false => rw [hm] at h2; cases h2
              | true =>
                rw [hm] at h2
                have hlen := lenLe_spec ha hl
                have hmax := Nat.le_of_ble_eq_true hm
                rw [Nat.ble_eq_true_of_le hlen, Nat.ble_eq_true_of_le (show vs.length ≤ 1000000 by omega), Bool.and_self, cond_true]
                obtain ⟨he, ht⟩ := argL_er (lv := lvOf fn c) (k := Nat.succ (Nat.add fn.params.size 8)) ha (by omega)
                obtain ⟨xo, tm', F', h3, h4, h5, L', e', H', h6, h7, h8⟩ := comp_sound (call := callA P E f) drawQ_ok c _ _ _ _ _ ⟨callN P E T f, k, .nil, .nil⟩ _ H _ F (callN_ok hT f) he ht hr hR h2
                rw [h3]
                have fin : retF P fn.results.toList L' e' H' k = true → ∃ r v H'' F'', retS P (lvOf fn c) fn.results.toList (some (XO.norm, tm', F')) = some (v, F'') ∧ VQ r v ∧ HR R G H'' F'' ∧ F.next ≤ F''.next ∧ k r H'' = true := by
                  intro g
                  obtain ⟨x, l, g1, g2, g3⟩ := retF_spec h6 h7 g
                  refine ⟨x, tupA l, H', F', ?_, g2, h7, h5, g3⟩
                  unfold retS
                  simp only [g1]
                cases xo with
                | norm => exact fin h8
                | ret =>
                  obtain ⟨r, v, H2, F2, g1, g2⟩ := fin h8
                  exact ⟨r, v, H2, F2, g1, g2⟩
                | exit i => cases h8
        · rename_i hc
          simp only [hc]
          have h2 : ext2 (E.ext g) en (fun v => k v H) = true := h'
          cases en with
          | nil => cases h2
          | cons x t =>
            cases t with
            | nil => cases h2
            | cons y t =>
              cases t with
              | cons z t => cases h2
              | nil =>
                cases vs with
                | nil => exact ha.elim
                | cons v vs =>
                  cases vs with
                  | nil => exact ha.2.elim
                  | cons u vs =>
                    cases vs with
                    | cons _ _ => exact ha.2.2.elim
                    | nil =>
                      obtain ⟨r, g1, g2⟩ := fall2_spec (f := fun a b => extA (E.ext g) [a, b]) (k := fun v => k v H) ha.1 ha.2.1 h2
                      have g1' : extA (E.ext g) [v, u] = some (dec r) := g1
                      rw [g1']
                      exact ⟨r, _, H, F, rfl, .inr rfl, hr, Nat.le_refl _, g2⟩
    · cases h'

/-! A run from nothing. -/

def H0 : QH := ⟨hfill .no, ⟨.d0, .d0, .d2, .d5, .d8⟩, .nil, .nil⟩

theorem H0_ok : HR 600 (hfill .no) H0 ⟨.nil, 600⟩ := by
  refine ⟨by decide, fun q => ?_, fun q => ?_, fun q h => ?_, fun b _ => rfl, fun q _ => rfl, trivial⟩
  · show none = decO (hg (hfill .no) q)
    rw [hg_fill]; rfl
  · show wfO (hg (hfill .no) q)
    rw [hg_fill]; trivial
  · have h' : own (hg (hfill .no) q) = true := h
    rw [hg_fill] at h'; cases h'

/-- It is true. -/
def isB (v : V) (_ : QH) : Bool := asB v fun b => b

theorem isT_of {P : Program} {E : Env} {T : FuncId → Option Kq} (hT : TOk E T) {f : Nat} {g : FuncId} {en : En} {vs : List Value} (ha : AR en vs) (h : callN P E T f g en H0 isB = true) : isT (callA P E f 600 g vs ⟨.nil, 600⟩) = true := by
  obtain ⟨r, v, H', F', h1, h2, _, _, h3⟩ := callN_ok (P := P) (E := E) (R := 600) hT f (hfill .no) g en vs H0 ⟨.nil, 600⟩ isB ha H0_ok (Nat.le_refl _) h
  obtain ⟨b, rfl, hb⟩ := asB_spec h3
  subst hb
  rw [h1, h2.eq (by simp)]
  rfl

/-- Nothing is known. -/
def T0 : FuncId → Option Kq := fun _ => none
theorem T0_ok : TOk E0 T0 := ⟨fun _ _ h => (by cases h), fun _ _ _ h => (by cases h), fun _ _ _ => rfl⟩

/-- One function without arguments comes to true. -/
def kTrue : Kq := .look fun en c => En.rec (motive := fun _ => Bool) (c (.b true)) (fun _ _ _ => false) en
def T1 (k : FuncId) : FuncId → Option Kq := fun g => Bool.rec (motive := fun _ => Option Kq) none (some kTrue) (Nat.beq g k)
theorem T1_ok (k : FuncId) : TOk (E1 k) (T1 k) := by
  refine ⟨fun g q h _ R G en vs H F c ha hr hq => ?_, fun _ _ _ _ h => (by cases h), fun g vs h => ?_⟩
  · unfold T1 at h
    cases hb : Nat.beq g k with
    | false => rw [hb] at h; cases h
    | true =>
      rw [hb] at h
      simp only [Option.some.injEq] at h
      subst h
      cases en with
      | cons x t => cases hq
      | nil =>
        cases vs with
        | cons _ _ => exact ha.elim
        | nil =>
          refine ⟨.b true, .bool true, H, ?_, .inr rfl, hr, hq⟩
          show (bif Nat.beq g k && true then some (Value.bool true) else none) = _
          rw [hb]
          rfl
  · unfold T1 at h
    cases hb : Nat.beq g k with
    | true => rw [hb] at h; cases h
    | false =>
      show (bif Nat.beq g k && vs.isEmpty then some (Value.bool true) else none) = none
      rw [hb]
      rfl

/-! A run from tables. -/

theorem start_num : (600 : Nat) = (⟨.d0, .d0, .d2, .d5, .d8⟩ : Pt).num := by decide


/-- A store with tables to be read: the number of each, its cells. -/
def tabsF : List (Pt × Cs V × Nat × Nat) → FW
  | [] => ⟨.nil, 600⟩
  | (q, cs, n, e) :: r => ⟨(tabsF r).heap.set q.num (.cells (lc cs n) e), 600⟩

def tabsQ (l : List (Pt × Cs V × Nat × Nat)) (k : N5 QO → Bool) : Bool :=
  List.rec (motive := fun _ => (N5 QO → Bool) → Bool) (fun k => k (hfill .no)) (fun p _ ih k => ih fun r => hset r p.1 (.g p.2.1 p.2.2.1 p.2.2.2) k) l k

/-- Each is there once, below 600, and is of cells. -/
def tabsOk : List (Pt × Cs V × Nat × Nat) → Prop
  | [] => True
  | (q, cs, n, e) :: r => q.num < 600 ∧ (tabsF r).heap.get q.num = none ∧ (n ≤ cs.cap ∧ ∀ i, i < n → isSc (cget cs i)) ∧ tabsOk r

theorem tabs_rec : ∀ {l : List (Pt × Cs V × Nat × Nat)} {k : N5 QO → Bool}, tabsOk l → tabsQ l k = true → ∃ r, k r = true ∧ HR 600 r ⟨r, ⟨.d0, .d0, .d2, .d5, .d8⟩, .nil, .nil⟩ (tabsF l)
  | [], k, _, h => ⟨hfill .no, h, H0_ok⟩
  | (q, cs, n, e) :: l, k, ho, h => by
    obtain ⟨h1, h2, h3, h4⟩ := ho
    obtain ⟨r, g1, g2⟩ := tabs_rec (l := l) (k := fun r => hset r q (.g cs n e) k) h4 h
    rw [hset_eq] at g1
    refine ⟨_, g1, ?_⟩
    have get : ∀ b, ((tabsF l).heap.set q.num (.cells (lc cs n) e)).get b = if b = q.num then some (.cells (lc cs n) e) else (tabsF l).heap.get b := fun b => T.get_set _ _ _ (okN_num q)
    refine ⟨start_num, fun q' => ?_, fun q' => ?_, fun q' hb => ?_, fun b hb => ?_, fun q' _ => rfl, trivial⟩
    · show ((tabsF l).heap.set q.num (.cells (lc cs n) e)).get q'.num = decO (hg (hs r q (.g cs n e)) q')
      rw [get]
      by_cases he : q' = q
      · subst he; rw [if_pos rfl, hg_same]; rfl
      · rw [if_neg (fun k => he (Pt.num_inj k)), hg_ne _ _ he]; exact g2.objs q'
    · show wfO (hg (hs r q (.g cs n e)) q')
      by_cases he : q' = q
      · subst he; rw [hg_same]; exact h3
      · rw [hg_ne _ _ he]; exact g2.wf q'
    · have hb' : own (hg (hs r q (.g cs n e)) q') = true := hb
      by_cases he : q' = q
      · subst he; rw [hg_same] at hb'; cases hb'
      · rw [hg_ne _ _ he] at hb'; exact g2.low _ hb'
    · show ((tabsF l).heap.set q.num (.cells (lc cs n) e)).get b = none
      have hb' : 600 ≤ b := hb
      rw [get, if_neg (by omega)]
      have : (tabsF l).next = 600 := by cases l <;> rfl
      exact g2.free b (by omega)

/-- A run from tables, to the end. -/
def callT (P : Program) (E : Env) (T : FuncId → Option Kq) (l : List (Pt × Cs V × Nat × Nat)) (f : Nat) (g : FuncId) (en : En) (k : V → QH → Bool) : Bool :=
  tabsQ l fun r => callN P E T f g en ⟨r, ⟨.d0, .d0, .d2, .d5, .d8⟩, .nil, .nil⟩ k

/-- .. of which something is known. -/
def callF (P : Program) (E : Env) (T : FuncId → Option Kq) (l : List (Pt × Cs V × Nat × Nat)) (f0 : Fc) (f : Nat) (g : FuncId) (en : En) (k : V → QH → Bool) : Bool :=
  tabsQ l fun r => callN P E T f g en ⟨r, ⟨.d0, .d0, .d2, .d5, .d8⟩, .nil, f0⟩ k

theorem callF_spec {P : Program} {E : Env} {T : FuncId → Option Kq} {l : List (Pt × Cs V × Nat × Nat)} (hT : TOk E T) (hl : tabsOk l) {f0 : Fc} (hf : Sat f0) {f : Nat} {g : FuncId} {en : En} {vs : List Value} {k : V → QH → Bool} (ha : AR en vs) (h : callF P E T l f0 f g en k = true) :
    ∃ x v F', callA P E f 600 g vs (tabsF l) = some (v, F') ∧ VQ x v ∧ ∃ G H, HR 600 G H F' ∧ k x H = true := by
  obtain ⟨r, h1, h2⟩ := tabs_rec hl h
  have hn : (tabsF l).next = 600 := by cases l <;> rfl
  obtain ⟨x, v, H', F', g1, g2, g3, _, g5⟩ := callN_ok (P := P) (E := E) (R := 600) hT f r g en vs _ (tabsF l) k ha (h2.facts hf) (by rw [hn]; exact Nat.le_refl _) h1
  exact ⟨x, v, F', g1, g2, r, H', g3, g5⟩

theorem callT_spec {P : Program} {E : Env} {T : FuncId → Option Kq} {l : List (Pt × Cs V × Nat × Nat)} (hT : TOk E T) (hl : tabsOk l) {f : Nat} {g : FuncId} {en : En} {vs : List Value} {k : V → QH → Bool} (ha : AR en vs) (h : callT P E T l f g en k = true) :
    ∃ x v F', callA P E f 600 g vs (tabsF l) = some (v, F') ∧ VQ x v ∧ ∃ G H, HR 600 G H F' ∧ k x H = true := by
  obtain ⟨r, h1, h2⟩ := tabs_rec hl h
  have hn : (tabsF l).next = 600 := by cases l <;> rfl
  obtain ⟨x, v, H', F', g1, g2, g3, _, g5⟩ := callN_ok (P := P) (E := E) (R := 600) hT f r g en vs _ (tabsF l) k ha h2 (by rw [hn]; exact Nat.le_refl _) h1
  exact ⟨x, v, F', g1, g2, r, H', g3, g5⟩

theorem isT_from {P : Program} {E : Env} {T : FuncId → Option Kq} {l : List (Pt × Cs V × Nat × Nat)} (hT : TOk E T) (hl : tabsOk l) {f : Nat} {g : FuncId} {en : En} {vs : List Value} (ha : AR en vs) (h : callT P E T l f g en isB = true) : isT (callA P E f 600 g vs (tabsF l)) = true := by
  obtain ⟨x, v, F', h1, h2, G, H, _, h3⟩ := callT_spec hT hl ha h
  obtain ⟨b, rfl, hb⟩ := asB_spec h3
  subst hb
  rw [h1, h2.eq (by simp)]
  rfl

end
end Go.Qm

set_option linter.unusedVariables false
set_option linter.unusedSimpArgs false
set_option linter.unusedSectionVars false
set_option linter.constructorNameAsVariable false
namespace Go.Qm
open Go.Am
noncomputable section
variable [Rho]

def tmOf : CR → TM
  | some (_, tm, _) => tm
  | none => ⟨[], .nil⟩

/-- A function's rest, made ready. -/
def restQ (P : Program) (fn : Func) (c b : Code) (L : Lay) : Cq :=
  comp P (lvOf fn c) fn.ntmps (resM fn.results.toList) fn.results.toList (drawQ P (lvOf fn c) fn.ntmps) b L (resM fn.results.toList) (fun _ => 0)
    (fun L => ⟨fun X e H => retF P fn.results.toList L e H X.ret⟩) (fun _ _ => .bad)

theorem seq_mid {P : Program} {lv : Nat → Bool} {n : Nat} {call : Nat → CallF} {R : Nat} {r0 r1 b : Code} {tm0 tm1 : TM} {F0 F1 : FW}
    (h : codeA P lv n call R (.seq r0 (.seq r1 .skip)) tm0 F0 = some (.norm, tm1, F1)) : codeA P lv n call R (.seq r0 (.seq r1 b)) tm0 F0 = codeA P lv n call R b tm1 F1 := by
  have h' : seqS (codeA P lv n call R r0 tm0 F0) (fun tm H => seqS (codeA P lv n call R r1 tm H) (fun tm H => some (.norm, tm, H))) = some (.norm, tm1, F1) := h
  show seqS (codeA P lv n call R r0 tm0 F0) (fun tm H => seqS (codeA P lv n call R r1 tm H) (codeA P lv n call R b)) = _
  cases h0 : codeA P lv n call R r0 tm0 F0 with
  | none => rw [h0] at h'; cases h'
  | some p =>
    obtain ⟨x, tmA, HA⟩ := p
    rw [h0] at h'
    cases x with
    | norm =>
      have h2 : seqS (codeA P lv n call R r1 tmA HA) (fun tm H => some (.norm, tm, H)) = some (.norm, tm1, F1) := h'
      show seqS (codeA P lv n call R r1 tmA HA) (codeA P lv n call R b) = _
      cases h1 : codeA P lv n call R r1 tmA HA with
      | none => rw [h1] at h2; cases h2
      | some p =>
        obtain ⟨x, tmB, HB⟩ := p
        rw [h1] at h2
        cases x with
        | norm => cases h2; rfl
        | ret => cases h2
        | exit i => cases h2
    | ret => cases h'
    | exit i => cases h'

theorem isT_mid {P : Program} {E : Env} {T : FuncId → Option Kq} {l : List (Pt × Cs V × Nat × Nat)} (hT : TOk E T) (ht : tabsOk l) {f : Nat} {g : FuncId} {fn : Func} {c r0 r1 b : Code} {vs : List Value} {tm1 : TM} {L : Lay} {e : En} (hss : E.ss g = none)
    (hfn : P.funcs[g]? = some fn) (hname : (fn.name == "runtime.NumGoroutine") = false) (hb : fn.body = some c) (hc : c = .seq r0 (.seq r1 b)) (hk : E.kn g vs = none) (hl : (Nat.ble vs.length fn.ntmps && Nat.ble vs.length 1000000) = true)
    (hrun : codeA P (lvOf fn c) fn.ntmps (callA P E f) 600 (.seq r0 (.seq r1 .skip)) ((argsT vs 0 ⟨[], .nil⟩).flush (lvOf fn c)) (tabsF l) = some (.norm, tm1, tabsF l)) (hloc : tm1.loc = [])
    (he : ER (lvOf fn c) L e tm1) (h : (tabsQ l fun r => (restQ P fn c b L).f ⟨callN P E T f, isB, .nil, .nil⟩ e ⟨r, ⟨.d0, .d0, .d2, .d5, .d8⟩, .nil, .nil⟩) = true) : isT (callA P E (f + 1) 600 g vs (tabsF l)) = true := by
  obtain ⟨r, k1, k2⟩ := tabs_rec ht h
  have hn : (tabsF l).next = 600 := by cases l <;> rfl
  obtain ⟨xo, tm', F', h3, h4, h5, L', e', H', h6, h7, h8⟩ := comp_sound (call := callA P E f) (R := 600) drawQ_ok b _ _ _ _ _ ⟨callN P E T f, isB, .nil, .nil⟩ _ _ tm1 (tabsF l) (callN_ok hT f) he (fun p hp => by rw [hloc] at hp; cases hp) k2 (by rw [hn]; exact Nat.le_refl _) k1
  have hcode : codeA P (lvOf fn c) fn.ntmps (callA P E f) 600 c ((argsT vs 0 ⟨[], .nil⟩).flush (lvOf fn c)) (tabsF l) = some (xo, tm', F') := by
    rw [← h3, ← seq_mid hrun, ← hc]
  show isT (callS P E (callA P E f) 600 g vs (tabsF l)) = true
  unfold callS
  rw [hss]
  simp only
  rw [hfn]
  simp only [hname, Bool.not_false, cond_true]
  unfold bodyS
  simp only [hb, hk, hl, cond_true, hcode]
  have fin : retF P fn.results.toList L' e' H' isB = true → isT (retS P (lvOf fn c) fn.results.toList (some (XO.norm, tm', F'))) = true := by
    intro g
    obtain ⟨x, l, g1, g2, g3⟩ := retF_spec h6 h7 g
    obtain ⟨b, rfl, hb⟩ := asB_spec g3
    subst hb
    unfold retS
    simp only [g1]
    rw [g2.eq (by simp)]
    rfl
  cases xo with
  | norm => exact fin h8
  | ret => exact fin h8
  | exit i => cases h8

end
end Go.Qm

set_option linter.unusedVariables false
set_option linter.unusedSimpArgs false
set_option linter.unusedSectionVars false
set_option linter.constructorNameAsVariable false
namespace Go.Qm
open Go.Am Go.RowKit
noncomputable section
variable [Rho]

/-- The world's variable holds these things. -/
def TabAt (w : World) (g n : Nat) (f : Nat → V) (e : TypeId) : Prop := w.heap[g]? = some (.cells ((List.range n).map fun i => dec (f i)).toArray e (0, 0))

theorem TabAt.below {w w' : World} {g n : Nat} {f : Nat → V} {e : TypeId} (h : TabAt w g n f e) (hb : Below w.heap.size w w') : TabAt w' g n f e := by
  have hlt : g < w.heap.size := (Array.getElem?_eq_some_iff.1 h).1
  unfold TabAt at *
  rw [hb.block g hlt]
  exact h

theorem lc_csOf {n : Nat} (f : Nat → V) (hn : n ≤ 65536) : lc (csOf n f) n = (List.range n).map fun i => dec (f i) := by
  obtain ⟨h1, h2⟩ := csOf_spec n f hn
  unfold lc
  apply List.map_congr_left
  intro i hi
  rw [h2 i (Nat.lt_of_lt_of_le (List.mem_range.1 hi) h1)]

theorem TabAt.or {w : World} {g n : Nat} {f : Nat → V} {e : TypeId} (h : TabAt w g n f e) (hn : n ≤ 65536) (β : Bm) (wd : Nat) (hf : ∀ i, i < n → VR β (dec (f i)) (dec (f i))) : OR β w ⟨g, 0, n, wd⟩ (.cells (lc (csOf n f) n) e) := by
  rw [lc_csOf f hn]
  refine ⟨_, ⟨(0, 0), h, .zero _ _⟩, ⟨by simp, by simp⟩, fun i v hv => ?_⟩
  have hi : i < n := by
    have := (List.getElem?_eq_some_iff.1 hv).1
    simpa using this
  have hv' : dec (f i) = v := by simpa [hi] using hv
  subst hv'
  exact ⟨dec (f i), by simp [hi], hf i hi⟩

theorem tab_sc {n : Nat} {f : Nat → V} (hn : n ≤ 65536) (hf : ∀ i, i < n → isSc (f i)) : n ≤ (csOf n f).cap ∧ ∀ i, i < n → isSc (cget (csOf n f) i) := by
  obtain ⟨h1, h2⟩ := csOf_spec n f hn
  refine ⟨h1, fun i hi => ?_⟩
  rw [h2 i (Nat.lt_of_lt_of_le hi h1)]
  exact hf i hi

/-- 64 bits as they were told, by a greater number. -/
def low (x m : Int) : Int := wrapF .i64 ((wrapF .u64 x).tmod (wrapF .u64 m))

theorem low_spec (x : Int) (m : Nat) (h0 : 0 < m) (hm : m < 9223372036854775808) : ∃ a : Nat, a < m ∧ low x m = (a : Int) := by
  have hu : wrapF .u64 (m : Int) = (m : Int) := by
    rw [wrapF_eq, IntKind.wrap_u64]
    omega
  have hx : 0 ≤ wrapF .u64 x := by rw [wrapF_eq, IntKind.wrap_u64]; omega
  refine ⟨(wrapF .u64 x % (m : Int)).toNat, ?_, ?_⟩
  · have := Int.emod_lt_of_pos (wrapF .u64 x) (b := (m : Int)) (by omega)
    omega
  · unfold low
    rw [hu, Int.tmod_eq_emod_of_nonneg hx]
    have h1 := Int.emod_lt_of_pos (wrapF .u64 x) (b := (m : Int)) (by omega)
    have h2 := Int.emod_nonneg (wrapF .u64 x) (b := (m : Int)) (by omega)
    rw [wrapF_eq, wrap64_eq]
    omega

end
end Go.Qm

set_option linter.unusedVariables false
set_option linter.unusedSimpArgs false
set_option linter.unusedSectionVars false
set_option linter.constructorNameAsVariable false
namespace Go.Qm
open Go.Am Go.RowKit
variable [Rho]

/-! A world with variables laid: each datum as cells, what it points to in new blocks. -/

def litC : Lit → Value
  | .bool b => .bool b
  | .int k n => .int k n
  | .string bs => .string ⟨bs.toArray⟩
  | _ => undef

/-- Cells of a datum of a type; 'nm': a type by its name. -/
def layD (P : Program) (nm : String → TypeId) : Nat → TypeId → DataW Unit → Array Obj → List Value × Array Obj
  | 0, _, _, h => ([], h)
  | n + 1, t, d, h =>
    let many := fun (ts : List TypeId) (ds : List (DataW Unit)) (h : Array Obj) => (ts.zip ds).foldl (fun (acc : List Value × Array Obj) x => match layD P nm n x.1 x.2 acc.2 with
      | (cs, h') => (acc.1 ++ cs, h')) ([], h)
    match d, P.underlying t with
    | .lit l, _ => ([litC l], h)
    | .nil, some (.slice _) => ([.slice none 0 0], h)
    | .nil, some (.map _ _) => ([.map none], h)
    | .nil, some (.interface _) => ([.nilIface], h)
    | .nil, some (.func _ _ _) => ([.nilFunc], h)
    | .nil, _ => ([.pointer none], h)
    | .ptr d, some (.pointer e) => (match layD P nm n e d h with
      | (cs, h') => ([.pointer (some ⟨h'.size, 0, none⟩)], h'.push (.cells cs.toArray e (0, 0))))
    | .slice es _, some (.slice e) => (match many (es.map fun _ => e) es h with
      | (cs, h') => ([.slice (some ⟨h'.size, 0, none⟩) es.length es.length], h'.push (.cells cs.toArray e (0, 0))))
    | .agg ds, some (.struct fs) => many (fs.toList.map (·.type)) ds h
    | .agg ds, some (.array _ e) => many (ds.map fun _ => e) ds h
    | .iface s (.agg [.ptr (.lit (.string x))]), some (.interface _) => (match String.fromUTF8? ⟨x.toArray⟩ with
      | some name => ([.iface (nm s) (.agg #[typeHandle P (nm name)])], h)
      | none => ([], h))
    | .iface s d, some (.interface _) => (match layD P nm n (nm s) d h with
      | (cs, h') => ([.iface (nm s) (match cs with | [v] => v | _ => .agg cs.toArray)], h'))
    | _, _ => ([], h)

def fillC (l : List Value) : Go.Obj → Go.Obj
  | .cells _ t frozen => .cells l.toArray t frozen
  | o => o

def layAll (P : Program) (nm : String → TypeId) : List (String × DataW Unit) → Array Obj → Array Obj
  | [], h => h
  | (n, d) :: r, h => match P.globalNamed n with
    | some g => (match layD P nm 12 (((P.globals[g]?).map (·.type)).getD 0) d h with
      | (cs, h') => layAll P nm r (h'.modify g (fillC cs)))
    | none => layAll P nm r h

/-- A world with these variables laid. -/
noncomputable def layWorld (P : Program) (nm : String → TypeId) (l : List (String × DataW Unit)) (os : Os) : World :=
  { World.holding P os ⟨#[], #[], []⟩ with heap := layAll P nm l (World.holding P os ⟨#[], #[], []⟩).heap }

/-! What the condition says. -/

theorem laidVars_mem {P : Program} {w : World} : ∀ {l : List (String × DataW Unit)} {ps : List MemPlace} {n : String} {d : DataW Unit}, DataW.LaidVars P w l ps → (n, d) ∈ l →
    ∃ g t cs fuel p, P.globalNamed n = some g ∧ (P.globals[g]?).map (·.type) = some t ∧ w.var? P n = some cs ∧ DataW.trod (fun _ => ()) P w 0 (fun _ => true) false fuel t cs.toList = some (d, p) ∧ ∀ x ∈ MemPlace.row ⟨g, 0, none⟩ cs.size ++ p, x ∈ ps
  | [], _, _, _, _, h => by cases h
  | (n', d') :: r, ps, n, d, hl, h => by
    obtain ⟨g, t, cs, fuel, p, q, h1, h2, h3, h4, h5, rfl⟩ := hl
    rcases List.mem_cons.1 h with h | h
    · cases h
      exact ⟨g, t, cs, fuel, p, h1, h2, h3, h4, fun x hx => List.mem_append_left _ hx⟩
    · obtain ⟨g', t', cs', fuel', p', k1, k2, k3, k4, k5⟩ := laidVars_mem h5 h
      exact ⟨g', t', cs', fuel', p', k1, k2, k3, k4, fun x hx => List.mem_append_right _ (k5 x hx)⟩

/-- A table of numbers. -/
theorem tab_of_laid {P : Program} {w : World} {l : List (String × DataW Unit)} {name : String} {k : IntKind} {zs : List Int} {g : Nat} {t e : TypeId} {n : Nat} (h : laidMet P l w) (hm : (name, Lib.tabData k zs) ∈ l)
    (hg : P.globalNamed name = some g) (hty : (P.globals[g]?).map (·.type) = some t) (ht : P.underlying t = some (.array n e)) (he : P.underlying e = some (.int k)) (hce : P.cellsOf e = 1) (hct : P.cellsOf t = n) (hz : 0 < zs.length) :
    ∃ ty, w.heap[g]? = some (.cells (zs.map fun z => Value.int k z).toArray ty (0, 0)) := by
  obtain ⟨ps, h1, _, h3⟩ := h
  obtain ⟨g', t', cs, fuel, p, k1, k2, k3, k4, k5⟩ := laidVars_mem h1 hm
  obtain rfl := Option.some.inj (hg.symm.trans k1)
  obtain rfl := Option.some.inj (hty.symm.trans k2)
  have e1 := Lib.cells_of_tab ht he hce hct k4
  have hsz : 0 < cs.size := by
    have : cs.toList.length = zs.length := by rw [e1]; simp
    have : cs.size = zs.length := by simpa using this
    omega
  obtain ⟨⟨c, ty, hc⟩, _⟩ := h3 g 0 (k5 _ (List.mem_append_left _ (by
    unfold MemPlace.row
    rw [List.mem_map]
    exact ⟨0, by simpa using hsz, rfl⟩)))
  refine ⟨ty, ?_⟩
  unfold World.var? at k3
  rw [hg] at k3
  simp only [Option.bind_some, hc] at k3
  simp only [Option.some.injEq] at k3
  subst k3
  rw [hc, ← e1]

/-- The handle of a type that a variable holds. -/
theorem handle_of_laid {P : Program} {w : World} {l : List (String × DataW Unit)} {x : String × DataW Unit} {name : List UInt8} {g u ty : Nat} (h : laidMetH P l w) (hx : x ∈ l.filter fun x => x.2.handleName?.isSome) (hf : x.2.funcsIn? = none) (hn : x.2.handleName? = some name)
    (hu : (P.cutTypes.find? (·.1 == "internal/reflectlite.rtype")).map (·.2) = some u) (hone : ((List.range P.types.size).filter fun t => P.rowNamed t name) = [ty]) (hg : P.globalNamed x.1 = some g) :
    w.cell? ⟨g, 0, none⟩ = some (.iface u (.agg #[typeHandle P ty])) := by
  have h' : handlesMet P (l.filter fun x => x.2.handleName?.isSome) w := by
    unfold laidMetH at h
    generalize (l.filter fun x => x.2.handleName?.isSome) = fl at *
    cases fl with
    | nil => cases hx
    | cons a r => exact h.2
  have h2 := h' x hx
  rw [hf] at h2
  obtain ⟨name', u', ty', e1, e2, e3, e4, e5⟩ := h2
  obtain rfl := Option.some.inj (hn.symm.trans e1)
  obtain rfl := Option.some.inj (hu.symm.trans e2)
  have hm : ty' ∈ (List.range P.types.size).filter fun t => P.rowNamed t name := List.mem_filter.2 ⟨List.mem_range.2 e3, e4⟩
  rw [hone] at hm
  obtain rfl := List.mem_singleton.1 hm
  have := World.var?_cell hg e5 0
  simpa using this

/-- The other variables. -/
theorem plain_of_laid {P : Program} {w : World} {l : List (String × DataW Unit)} (h : laidMetH P l w) : laidMet P (l.filter fun x => x.2.handleName?.isNone) w := by
  unfold laidMetH at h
  generalize hfl : (l.filter fun x => x.2.handleName?.isSome) = fl at h
  cases fl with
  | nil =>
    have e : (l.filter fun x => x.2.handleName?.isNone) = l := by
      rw [List.filter_eq_self]
      intro x hx
      have := (List.filter_eq_nil_iff.1 hfl) x hx
      cases hn : x.2.handleName? with
      | none => rfl
      | some s => rw [hn] at this; exact absurd rfl this
    rw [e]
    exact h
  | cons a as => exact h.1

end Go.Qm
