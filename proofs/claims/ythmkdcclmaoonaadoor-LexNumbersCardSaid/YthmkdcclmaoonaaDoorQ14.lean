/- The quick machine's open orders, functions and calls: what a call comes to, it comes to by the store. No conditions. -/
import Derived.Test.YthmkdcclmaoonaaDoorQ13
import Derived.Test.YthmkdcclmaoonaaDoorA17
set_option linter.unusedVariables false
set_option linter.unusedSimpArgs false
set_option linter.unusedSectionVars false
set_option linter.constructorNameAsVariable false
namespace Go.Qm
open Go.Am
noncomputable section
variable [Rho]

/-- So many places further on. -/
def padN (m : Nat) : Pt → (Pt → Bool) → Bool := Nat.rec (motive := fun _ => Pt → (Pt → Bool) → Bool) (fun q k => k q) (fun _ ih q k => psucc q fun q' => ih q' k) m

theorem padN_spec : ∀ {m : Nat} {q : Pt} {k : Pt → Bool}, padN m q k = true → ∃ q', q'.num = q.num + m ∧ k q' = true
  | 0, q, k, h => ⟨q, rfl, h⟩
  | m + 1, q, k, h => by
    obtain ⟨q1, h1, h2⟩ := psucc_spec (k := fun q' => padN m q' k) h
    obtain ⟨q2, h3, h4⟩ := padN_spec (m := m) h2
    exact ⟨q2, by omega, h4⟩

def mkAt (j : Nat) (q0 : Pt) : Mk := fun ob H k => padN j q0 fun q => layQ q ob H fun H' => k q H'

theorem mkAt_ok {R : Nat} {G : N5 QO} {F : FW} {j : Nat} {q0 : Pt} (hR : R ≤ q0.num) (hj : q0.num + j < F.next) : MkOk R G (mkAt j q0) (q0.num + j) F.next F := by
  intro ob o H k hr hd hw ho h
  obtain ⟨q, hq, h⟩ := padN_spec (k := fun q => layQ q ob H fun H' => k q H') h
  obtain ⟨H', F', h1, h2, h3⟩ := hr.layNew (q := q) (by omega) (by omega) hd hw h
  rw [hq] at h1
  exact ⟨q, H', F', hq, h1, h2, h3⟩

structure Dq where
  f : Kx → Pt → En → QH → Bool
def Dq.bad : Dq := ⟨fun _ _ _ _ => false⟩

def isLook (P : Program) (op : Op) : Bool :=
  match compA P op with
  | .look _ => true
  | _ => false

/-- One operation of an open region, and what comes behind. -/
def stepD (P : Program) (n : Nat) (ops : Array Oper) (j : Nat) (look : Bool) (L : Lay) (ih : Lay → Dq) : Dq :=
  match ops.toList[j]? with
  | some o => bif dstOk n o.dst && (!look || isLook P o.op) then ⟨fun X q e H => (gdQ L (guardOf ops o) (coreQ P L o.op)).f X.call (mkAt j q) e H fun v H' => (ih (layPut L o.dst)).f X q (putE o.dst v e) H'⟩ else .bad
  | none => .bad

/-! Are two states the same? -/

def ksN (kd : Ks) : Nat :=
  match kd with
  | .i k => kc k
  | .b => 10
  | .s => 11
theorem ksN_inj {a b : Ks} (h : ksN a = ksN b) : a = b := by
  have hk : ∀ k : IntKind, kc k < 10 := by intro k; cases k <;> decide
  cases a <;> cases b <;> first | rfl | (rename_i k; have := hk k; simp only [ksN] at h; omega) | (simp only [ksN] at h; rw [kc_inj h]) | (simp [ksN] at h)

/-- Two values that say the same. -/
def veq (x : V) : V → Bool :=
  V.rec (motive := fun _ => V → Bool) (fun _ => false)
    (fun n y => asI y fun m => Nat.beq n m)
    (fun n y => V.rec (motive := fun _ => Bool) false (fun _ => false) (fun m => Nat.beq n m) (fun _ _ => false) (fun _ => false) (fun _ _ => false) (fun _ _ => false) (fun _ _ _ _ => false) (fun _ => false) (fun _ => false) (fun _ _ _ _ _ => false) (fun _ _ _ => false) false (fun _ _ _ _ => false) (fun _ _ => false) (fun _ _ => false) y)
    (fun k n y => V.rec (motive := fun _ => Bool) false (fun _ => false) (fun _ => false) (fun k' n' => decide (k = k') && decide (n = n')) (fun _ => false) (fun _ _ => false) (fun _ _ => false) (fun _ _ _ _ => false) (fun _ => false) (fun _ => false) (fun _ _ _ _ _ => false) (fun _ _ _ => false) false (fun _ _ _ _ => false) (fun _ _ => false) (fun _ _ => false) y)
    (fun b y => asB y fun c => Bool.rec (motive := fun _ => Bool) (Bool.rec (motive := fun _ => Bool) true false c) c b)
    (fun q o y => asP y fun q' o' => Bool.rec (motive := fun _ => Bool) false (Nat.beq o o') (Nat.beq q.num q'.num))
    (fun l n y => asS y fun l' n' => Bool.rec (motive := fun _ => Bool) false (Nat.beq n n') (Nat.beq l l'))
    (fun q o n c y => asL y false fun q' o' n' c' => Bool.rec (motive := fun _ => Bool) false (Bool.rec (motive := fun _ => Bool) false (Bool.rec (motive := fun _ => Bool) false (Nat.beq c c') (Nat.beq n n')) (Nat.beq o o')) (Nat.beq q.num q'.num))
    (fun c y => V.rec (motive := fun _ => Bool) false (fun _ => false) (fun _ => false) (fun _ _ => false) (fun _ => false) (fun _ _ => false) (fun _ _ => false) (fun _ _ _ _ => false) (fun c' => Nat.beq c c') (fun _ => false) (fun _ _ _ _ _ => false) (fun _ _ _ => false) false (fun _ _ _ _ => false) (fun _ _ => false) (fun _ _ => false) y)
    (fun q y => asM y false fun q' => Nat.beq q.num q'.num)
    (fun g _ _ ia ib y => asF y fun g' a' b' => Bool.rec (motive := fun _ => Bool) false (Bool.rec (motive := fun _ => Bool) false (ib b') (ia a')) (Nat.beq g g'))
    (fun t _ ih y => V.rec (motive := fun _ => Bool) false (fun _ => false) (fun _ => false) (fun _ _ => false) (fun _ => false) (fun _ _ => false) (fun _ _ => false) (fun _ _ _ _ => false) (fun _ => false) (fun _ => false) (fun _ _ _ _ _ => false) (fun t' v' _ => Bool.rec (motive := fun _ => Bool) false (ih v') (Nat.beq t t')) false (fun _ _ _ _ => false) (fun _ _ => false) (fun _ _ => false) y)
    (fun y => asC y true fun _ _ => false)
    (fun _ _ ia ib y => asC y false fun a' b' => Bool.rec (motive := fun _ => Bool) false (ib b') (ia a'))
    (fun _ ih y => asT y ih)
    (fun kd t y => V.rec (motive := fun _ => Bool) false (fun _ => false) (fun _ => false) (fun _ _ => false) (fun _ => false) (fun _ _ => false) (fun _ _ => false) (fun _ _ _ _ => false) (fun _ => false) (fun _ => false) (fun _ _ _ _ _ => false) (fun _ _ _ => false) false (fun _ _ _ _ => false) (fun _ _ => false) (fun kd' t' => Bool.rec (motive := fun _ => Bool) false (syq t t') (Nat.beq (ksN kd) (ksN kd'))) y) x

theorem and_of {a b : Bool} (h : Bool.rec (motive := fun _ => Bool) false b a = true) : a = true ∧ b = true := by
  cases a with
  | false => cases h
  | true => exact ⟨rfl, h⟩

theorem veq_spec : ∀ (x y : V), veq x y = true → x = y ∧ x ≠ .bot
  | .bot, _, h => by cases h
  | .i n, y, h => by
    obtain ⟨m, rfl, h⟩ := asI_spec (k := fun m => Nat.beq n m) h
    exact ⟨by rw [Nat.eq_of_beq_eq_true h], by simp⟩
  | .y n, y, h => by
    cases y <;> first | (cases h; done) | exact ⟨by rw [Nat.eq_of_beq_eq_true (m := _) h], by simp⟩
  | .z k n, y, h => by
    cases y <;> first | (cases h; done) | skip
    rename_i k' n'
    have h' : (decide (k = k') && decide (n = n')) = true := h
    simp only [Bool.and_eq_true, decide_eq_true_eq] at h'
    obtain ⟨rfl, rfl⟩ := h'
    exact ⟨rfl, by simp⟩
  | .b b, y, h => by
    obtain ⟨c, rfl, h⟩ := asB_spec (k := fun c => Bool.rec (motive := fun _ => Bool) (Bool.rec (motive := fun _ => Bool) true false c) c b) h
    cases b <;> cases c <;> first | (cases h; done) | exact ⟨rfl, by simp⟩
  | .p q o, y, h => by
    obtain ⟨q', o', rfl, h⟩ := asP_spec (k := fun q' o' => Bool.rec (motive := fun _ => Bool) false (Nat.beq o o') (Nat.beq q.num q'.num)) h
    obtain ⟨h1, h2⟩ := and_of h
    exact ⟨by rw [Pt.num_inj (Nat.eq_of_beq_eq_true h1), Nat.eq_of_beq_eq_true h2], by simp⟩
  | .s l n, y, h => by
    obtain ⟨l', n', rfl, h⟩ := asS_spec (k := fun l' n' => Bool.rec (motive := fun _ => Bool) false (Nat.beq n n') (Nat.beq l l')) h
    obtain ⟨h1, h2⟩ := and_of h
    exact ⟨by rw [Nat.eq_of_beq_eq_true h1, Nat.eq_of_beq_eq_true h2], by simp⟩
  | .l q o n c, y, h => by
    rcases asL_spec (kn := false) (k := fun q' o' n' c' => Bool.rec (motive := fun _ => Bool) false (Bool.rec (motive := fun _ => Bool) false (Bool.rec (motive := fun _ => Bool) false (Nat.beq c c') (Nat.beq n n')) (Nat.beq o o')) (Nat.beq q.num q'.num)) h with ⟨_, h⟩ | ⟨q', o', n', c', rfl, h⟩
    · cases h
    · obtain ⟨h1, h⟩ := and_of h
      obtain ⟨h2, h⟩ := and_of h
      obtain ⟨h3, h4⟩ := and_of h
      exact ⟨by rw [Pt.num_inj (Nat.eq_of_beq_eq_true h1), Nat.eq_of_beq_eq_true h2, Nat.eq_of_beq_eq_true h3, Nat.eq_of_beq_eq_true h4], by simp⟩
  | .n c, y, h => by
    cases y <;> first | (cases h; done) | exact ⟨by rw [Nat.eq_of_beq_eq_true (m := _) h], by simp⟩
  | .m q, y, h => by
    rcases asM_spec (kn := false) (k := fun q' => Nat.beq q.num q'.num) h with ⟨_, h⟩ | ⟨q', rfl, h⟩
    · cases h
    · exact ⟨by rw [Pt.num_inj (Nat.eq_of_beq_eq_true h)], by simp⟩
  | .f g a b, y, h => by
    obtain ⟨g', a', b', rfl, h⟩ := asF_spec (k := fun g' a' b' => Bool.rec (motive := fun _ => Bool) false (Bool.rec (motive := fun _ => Bool) false (veq b b') (veq a a')) (Nat.beq g g')) h
    obtain ⟨h1, h⟩ := and_of h
    obtain ⟨h2, h3⟩ := and_of h
    exact ⟨by rw [Nat.eq_of_beq_eq_true h1, (veq_spec a a' h2).1, (veq_spec b b' h3).1], by simp⟩
  | .e t v, y, h => by
    cases y <;> first | (cases h; done) | skip
    rename_i t' v'
    obtain ⟨h1, h2⟩ := and_of (a := Nat.beq t t') (b := veq v v') h
    exact ⟨by rw [Nat.eq_of_beq_eq_true h1, (veq_spec v v' h2).1], by simp⟩
  | .nil, y, h => by
    rcases asC_spec (kn := true) (k := fun _ _ => false) h with ⟨rfl, _⟩ | ⟨_, _, _, h⟩
    · exact ⟨rfl, by simp⟩
    · cases h
  | .cons a b, y, h => by
    rcases asC_spec (kn := false) (k := fun a' b' => Bool.rec (motive := fun _ => Bool) false (veq b b') (veq a a')) h with ⟨_, h⟩ | ⟨a', b', rfl, h⟩
    · cases h
    · obtain ⟨h1, h2⟩ := and_of h
      exact ⟨by rw [(veq_spec a a' h1).1, (veq_spec b b' h2).1], by simp⟩
  | .t l, y, h => by
    obtain ⟨l', rfl, h⟩ := asT_spec (k := veq l) h
    exact ⟨by rw [(veq_spec l l' h).1], by simp⟩
  | .q kd t, y, h => by
    cases y <;> first | (cases h; done) | skip
    rename_i kd' t'
    obtain ⟨h1, h2⟩ := and_of (a := Nat.beq (ksN kd) (ksN kd')) (b := syq t t') h
    exact ⟨by rw [ksN_inj (Nat.eq_of_beq_eq_true h1), syq_spec h2], by simp⟩

def meq (a : ME) : ME → Bool :=
  ME.rec (motive := fun _ => ME → Bool) (fun b => ME.rec (motive := fun _ => Bool) true (fun _ _ _ _ _ => false) b)
    (fun k v n _ ih b => ME.rec (motive := fun _ => Bool) false (fun k' v' n' r' _ => Bool.rec (motive := fun _ => Bool) false (Bool.rec (motive := fun _ => Bool) false (Bool.rec (motive := fun _ => Bool) false (ih r') (Nat.beq n n')) (veq v v')) (veq k k')) b) a

theorem meq_spec : ∀ (a b : ME), meq a b = true → a = b
  | .nil, b, h => by cases b <;> first | rfl | cases h
  | .cons k v n r, b, h => by
    cases b with
    | nil => cases h
    | cons k' v' n' r' =>
      obtain ⟨h1, h⟩ := and_of (a := veq k k') (b := Bool.rec (motive := fun _ => Bool) false (Bool.rec (motive := fun _ => Bool) false (meq r r') (Nat.beq n n')) (veq v v')) h
      obtain ⟨h2, h⟩ := and_of h
      obtain ⟨h3, h4⟩ := and_of h
      rw [(veq_spec _ _ h1).1, (veq_spec _ _ h2).1, Nat.eq_of_beq_eq_true h3, meq_spec r r' h4]

def ceq (a b : Cs V) (n : Nat) : Bool := Nat.rec (motive := fun _ => Bool) true (fun m ih => Bool.rec (motive := fun _ => Bool) false ih (veq (cget a m) (cget b m))) n

theorem ceq_spec {a b : Cs V} : ∀ {n : Nat}, ceq a b n = true → ∀ i, i < n → cget a i = cget b i
  | 0, _, i, hi => by omega
  | n + 1, h, i, hi => by
    obtain ⟨h1, h2⟩ := and_of (a := veq (cget a n) (cget b n)) (b := ceq a b n) h
    by_cases he : i = n
    · subst he; exact (veq_spec _ _ h1).1
    · exact ceq_spec h2 i (by omega)

def qoeq (a b : QO) : Bool :=
  QO.rec (motive := fun _ => Bool) (QO.rec (motive := fun _ => Bool) true (fun _ _ _ => false) (fun _ _ => false) (fun _ _ _ => false) false (fun _ _ _ => false) b)
    (fun cs n e => QO.rec (motive := fun _ => Bool) false (fun cs' n' e' => Bool.rec (motive := fun _ => Bool) false (Bool.rec (motive := fun _ => Bool) false (ceq cs cs' n) (Nat.beq e e')) (Nat.beq n n')) (fun _ _ => false) (fun _ _ _ => false) false (fun _ _ _ => false) b)
    (fun es k => QO.rec (motive := fun _ => Bool) false (fun _ _ _ => false) (fun es' k' => Bool.rec (motive := fun _ => Bool) false (meq es es') (Nat.beq k k')) (fun _ _ _ => false) false (fun _ _ _ => false) b)
    (fun l n p => QO.rec (motive := fun _ => Bool) false (fun _ _ _ => false) (fun _ _ => false) (fun l' n' p' => Bool.rec (motive := fun _ => Bool) false (Bool.rec (motive := fun _ => Bool) false (Nat.beq p p') (Nat.beq n n')) (Nat.beq l l')) false (fun _ _ _ => false) b)
    (QO.rec (motive := fun _ => Bool) false (fun _ _ _ => false) (fun _ _ => false) (fun _ _ _ => false) true (fun _ _ _ => false) b)
    (fun _ _ _ => false) a

theorem qoeq_spec {a b : QO} (h : qoeq a b = true) : decO a = decO b := by
  cases a with
  | no => cases b <;> first | rfl | cases h
  | c cs n e =>
    cases b <;> first | (cases h; done) | skip
    rename_i cs' n' e'
    obtain ⟨h1, h⟩ := and_of (a := Nat.beq n n') (b := Bool.rec (motive := fun _ => Bool) false (ceq cs cs' n) (Nat.beq e e')) h
    obtain ⟨h2, h3⟩ := and_of h
    obtain rfl := Nat.eq_of_beq_eq_true h1
    obtain rfl := Nat.eq_of_beq_eq_true h2
    show some (AObj.cells (lc cs n) e) = some (AObj.cells (lc cs' n) e)
    have : lc cs n = lc cs' n := by
      unfold lc
      apply List.map_congr_left
      intro i hi
      rw [ceq_spec h3 i (List.mem_range.1 hi)]
    rw [this]
  | m es k =>
    cases b <;> first | (cases h; done) | skip
    rename_i es' k'
    obtain ⟨h1, h2⟩ := and_of (a := Nat.beq k k') (b := meq es es') h
    rw [Nat.eq_of_beq_eq_true h1, meq_spec _ _ h2]
  | r l n p =>
    cases b <;> first | (cases h; done) | skip
    rename_i l' n' p'
    obtain ⟨h1, h⟩ := and_of (a := Nat.beq l l') (b := Bool.rec (motive := fun _ => Bool) false (Nat.beq p p') (Nat.beq n n')) h
    obtain ⟨h2, h3⟩ := and_of h
    rw [Nat.eq_of_beq_eq_true h1, Nat.eq_of_beq_eq_true h2, Nat.eq_of_beq_eq_true h3]
  | dead => cases b <;> first | rfl | cases h
  | g => cases h

def cmpJ (r1 r2 : N5 QO) (j : PL) : Bool := PL.rec (motive := fun _ => Bool) true (fun q _ ih => Bool.rec (motive := fun _ => Bool) false ih (qoeq (hg r1 q) (hg r2 q))) j

theorem cmpJ_spec {r1 r2 : N5 QO} : ∀ {j : PL}, cmpJ r1 r2 j = true → ∀ q, inP q j → decO (hg r1 q) = decO (hg r2 q)
  | .nil, _, q, hq => hq.elim
  | .cons p r, h, q, hq => by
    obtain ⟨h1, h2⟩ := and_of (a := qoeq (hg r1 p) (hg r2 p)) (b := cmpJ r1 r2 r) h
    rcases hq with rfl | hq
    · exact qoeq_spec h1
    · exact cmpJ_spec h2 q hq

def cmpE (L1 L2 : Lay) (e1 e2 : En) (ts : List Nat) : Bool := List.rec (motive := fun _ => Bool) true (fun t _ ih => Bool.rec (motive := fun _ => Bool) false ih (veq ((rd L1 (.tmp t)).g e1) ((rd L2 (.tmp t)).g e2))) ts

theorem cmpE_spec {lv : Nat → Bool} {L1 L2 : Lay} {e1 e2 : En} {tm1 tm2 : TM} (h1 : ER lv L1 e1 tm1) (h2 : ER lv L2 e2 tm2) : ∀ {ts : List Nat}, cmpE L1 L2 e1 e2 ts = true → ∀ t ∈ ts, TM.val lv tm1 t = TM.val lv tm2 t
  | [], _, t, ht => by cases ht
  | u :: ts, h, t, ht => by
    obtain ⟨g1, g2⟩ := and_of (a := veq ((rd L1 (.tmp u)).g e1) ((rd L2 (.tmp u)).g e2)) (b := cmpE L1 L2 e1 e2 ts) h
    rcases List.mem_cons.1 ht with rfl | ht
    · obtain ⟨k1, k2⟩ := veq_spec _ _ g1
      have v1 : TM.val lv tm1 t = _ := (rd_spec h1 (.tmp t)).eq k2
      have v2 : TM.val lv tm2 t = _ := (rd_spec h2 (.tmp t)).eq (by rw [← k1]; exact k2)
      rw [v1, v2, k1]
    · exact cmpE_spec h1 h2 g2 t ht

def cmpS (L1 L2 : Lay) (e1 e2 : En) (H1 H2 : QH) (ts : List Nat) (k : Bool) : Bool :=
  eq H1.x.num H2.x.num (Bool.rec (motive := fun _ => Bool) false (Bool.rec (motive := fun _ => Bool) false (Bool.rec (motive := fun _ => Bool) false k (cmpJ H1.r H2.r H2.j)) (cmpJ H1.r H2.r H1.j)) (cmpE L1 L2 e1 e2 ts))

/-! Orders. -/

def nilJ (H : QH) : QH := ⟨H.r, H.x, .nil, H.f⟩
/-- The same with what was decided since. -/
def nilF (H H1 : QH) : QH := ⟨H.r, H.x, .nil, H1.f⟩
def appJ (a b : PL) : (PL → Bool) → Bool := PL.rec (motive := fun _ => (PL → Bool) → Bool) (fun k => k b) (fun q _ ih k => ih fun r => k (.cons q r)) a
def pushA (e : En) (H : QH) (X : Kx) : Kx := ⟨X.call, X.ret, X.lps, .cons e H X.al⟩
def popA (X : Kx) (k : En → QH → Kx → Bool) : Bool := Al.rec (motive := fun _ => Bool) false (fun e H r _ => k e H ⟨X.call, X.ret, X.lps, r⟩) X.al

theorem appJ_spec : ∀ {a b : PL} {k : PL → Bool}, appJ a b k = true → ∃ c, (∀ q, inP q a ∨ inP q b → inP q c) ∧ k c = true
  | .nil, b, k, h => ⟨b, fun q hq => hq.resolve_left id, h⟩
  | .cons p r, b, k, h => by
    obtain ⟨c, h1, h2⟩ := appJ_spec (a := r) (b := b) (k := fun r => k (.cons p r)) h
    refine ⟨.cons p c, fun q hq => ?_, h2⟩
    rcases hq with (rfl | hq) | hq
    · exact .inl rfl
    · exact .inr (h1 q (.inl hq))
    · exact .inr (h1 q (.inr hq))

/-- Slots that live beyond and are written. -/
def dsts (lv : Nat → Bool) (ops : Array Oper) : List Nat := ops.toList.filterMap fun o => match o.dst with
  | some t => bif lv t then some t else none
  | none => none

/-- One order, and then the others, from the same state; all must come to the same. -/
def altD (ts : List Nat) (L : Lay) (one other : (Lay → Dq) → Dq) (next : Lay → Dq) : Dq :=
  ⟨fun X q e H => (one fun L1 => ⟨fun X q e1 H1 => popA X fun e0 H0 _ => (other fun L2 => ⟨fun X q e2 H2 => popA X fun e1 H1 X => popA X fun _ H0 X =>
    cmpS L1 L2 e1 e2 H1 H2 ts (appJ H1.j H0.j fun j => (next L1).f X q e1 ⟨H1.r, H1.x, j, H1.f⟩)⟩).f (pushA e1 H1 X) q e0 (nilF H0 H1)⟩).f (pushA e H X) q e (nilJ H)⟩

def planQ (P : Program) (lv : Nat → Bool) (n : Nat) (ops : Array Oper) (p : Plan) : (Lay → Dq) → Lay → Dq :=
  Plan.rec (motive := fun _ => (Lay → Dq) → Lay → Dq) (fun next L => next L)
    (fun j _ ih next L => stepD P n ops j true L (ih next))
    (fun j _ other ih io next L => bif isStop other then stepD P n ops j false L (ih next) else altD (dsts lv ops) L (fun nx => stepD P n ops j false L (ih nx)) (fun nx => io nx L) next)
    (fun _ _ => .bad) p

def finD (lv : Nat → Bool) (lm : Nat) (next : Lay → Cq) (L : Lay) : Dq := ⟨fun X _ e H => (finR lv lm next L).f X e H⟩

def drawQ (P : Program) (lv : Nat → Bool) (n : Nat) (ops : Array Oper) (L : Lay) (next : Lay → Cq) : Cq :=
  match planA P false ops with
  | some p => bif P.follows .mixedOrders && Region.noSelect ops then ⟨fun X e H => QH.rec (motive := fun _ => Bool) (fun r x j f => padN ops.size x fun x' => (planQ P lv n ops p (fun L => ⟨fun X _ e H => (next L).f X e H⟩) L).f X x e ⟨r, x', j, f⟩) H⟩ else .bad
  | none => .bad

theorem stepG_look_same {lv : Nat → Bool} {R : Nat} {P : Program} {n : Nat} {ops : Array Oper} {o : Oper} {call : CallF} {id next : Nat} {tm : TM} {F : FW} (h : isLook P o.op = true) :
    Am.stepG lv R call true (compO P lv n ops o) id next tm F = Am.stepG lv R call false (compO P lv n ops o) id next tm F := by
  unfold Am.stepG compO
  unfold isLook at h
  split at h
  · rename_i f hf
    rw [hf]
    rfl
  · cases h

theorem finT_frame {lv : Nat → Bool} {tm tm' : TM} {n : Nat} {d : Option Nat} {v : Value} {F F' : FW} (h : finT tm (clampD n d) v F = some (tm', F')) {t : Nat} (ht : d ≠ some t) : TM.val lv tm' t = TM.val lv tm t := by
  unfold finT at h
  split at h
  · rename_i tm1 hp
    simp only [Option.some.injEq, Prod.mk.injEq] at h
    obtain ⟨rfl, _⟩ := h
    unfold putT clampD at hp
    cases d with
    | none => simp only [Option.some.injEq] at hp; subst hp; rfl
    | some u =>
      simp only at hp
      obtain ⟨hok, hp⟩ := some_of_cond hp
      simp only [Option.some.injEq] at hp
      subst hp
      rw [put_val, if_neg]
      intro e
      cases hb : Nat.blt u n with
      | true => rw [hb] at e; exact ht (by rw [e]; rfl)
      | false =>
        rw [hb] at hok
        exact absurd hok (by show ¬ okN 1099511627770 = true; decide)
  · cases h

theorem stepG_frame {lv : Nat → Bool} {R : Nat} {P : Program} {n : Nat} {ops : Array Oper} {o : Oper} {call : CallF} {look : Bool} {id next : Nat} {tm tm' : TM} {F F' : FW} (h : Am.stepG lv R call look (compO P lv n ops o) id next tm F = some (tm', F')) {t : Nat} (ht : o.dst ≠ some t) : TM.val lv tm' t = TM.val lv tm t := by
  unfold Am.stepG compO at h
  simp only at h
  cases hg : (guardOf ops o).holds lv tm with
  | true =>
    rw [hg, cond_true] at h
    cases hc : (compA P o.op).toT lv with
    | look f =>
      rw [hc] at h
      simp only at h
      unfold finO at h
      split at h
      · exact finT_frame h ht
      · cases h
    | make f =>
      rw [hc] at h
      simp only at h
      unfold finM at h
      split at h
      · split at h
        · exact finT_frame h ht
        · cases h
      · cases h
    | write f =>
      rw [hc] at h
      simp only at h
      unfold finW at h
      split at h
      · exact finT_frame h ht
      · cases h
    | call f =>
      rw [hc] at h
      simp only at h
      unfold finC at h
      split at h
      · split at h
        · obtain ⟨_, h⟩ := some_of_cond h
          exact finT_frame h ht
        · cases h
      · cases h
  | false =>
    rw [hg, cond_false] at h
    obtain ⟨_, h⟩ := some_of_cond h
    exact finT_frame h ht

/-- All but some slots are as they were. -/
def Same (lv : Nat → Bool) (ops : Array Oper) (tm tm' : TM) : Prop := ∀ t, lv t = true → t ∉ dsts lv ops → TM.val lv tm' t = TM.val lv tm t

theorem dsts_mem {lv : Nat → Bool} {ops : Array Oper} {j : Nat} {o : Oper} {t : Nat} (ho : ops.toList[j]? = some o) (hd : o.dst = some t) (hl : lv t = true) : t ∈ dsts lv ops := by
  unfold dsts
  rw [List.mem_filterMap]
  exact ⟨o, List.mem_of_getElem? ho, by rw [hd]; simp only [hl, cond_true]⟩

theorem stepD_spec {R : Nat} {G : N5 QO} {P : Program} {lv : Nat → Bool} {n : Nat} {ops : Array Oper} {call : CallF} {j : Nat} {look : Bool} {L : Lay} {ih : Lay → Dq} {X : Kx} {q0 : Pt} {e : En} {H : QH} {tm : TM} {F : FW}
    (hq : CallOk R call X.call) (he : ER lv L e tm) (ht : TmOk tm) (hr : HR R G H F) (hR : R ≤ q0.num) (hb : q0.num + ops.size ≤ F.next) (h : (stepD P n ops j look L ih).f X q0 e H = true) :
    ∃ tm' F' L' e' H', stepX lv R call q0.num (compL P lv n ops) j look tm F = some (tm', F') ∧ ER lv L' e' tm' ∧ TmOk tm' ∧ HR R G H' F' ∧ F.next ≤ F'.next ∧ Same lv ops tm tm' ∧ (ih L').f X q0 e' H' = true := by
  unfold stepD at h
  split at h
  · rename_i o ho
    cases hd : (dstOk n o.dst && (!look || isLook P o.op)) with
    | false => rw [hd] at h; cases h
    | true =>
      rw [hd, cond_true] at h
      simp only [Bool.and_eq_true] at hd
      have hj : j < ops.size := by
        have := (List.getElem?_eq_some_iff.1 ho).1
        simpa using this
      obtain ⟨tm', F', H', v, h1, h2, h3, h4, h5, h6⟩ := gdQ_spec (n := n) hq he ht hd.1 hr (by omega) (mkAt_ok (j := j) hR (by omega)) (Nat.le_refl _) h
      refine ⟨tm', F', _, _, H', ?_, h2, h3, h4, h5, fun t hl hm => stepG_frame h1 (fun hd => hm (dsts_mem ho hd hl)), h6⟩
      unfold stepX
      have hl : (compL P lv n ops)[j]? = some (compO P lv n ops o) := by
        unfold compL
        rw [List.getElem?_map, ho]
        rfl
      rw [hl]
      cases look with
      | false => exact h1
      | true =>
        have hk : isLook P o.op = true := by simpa using hd.2
        show Am.stepG lv R call true (compO P lv n ops o) (q0.num + j) F.next tm F = _
        rw [stepG_look_same hk]
        exact h1
  · cases h

theorem HR.nilJ {R : Nat} {G : N5 QO} {H : QH} {F : FW} (hr : HR R G H F) : HR R H.r (nilJ H) F := ⟨hr.next, hr.objs, hr.wf, hr.low, hr.free, fun _ _ => rfl, hr.fact⟩

theorem HR.join {R : Nat} {G : N5 QO} {H H1 : QH} {F F1 : FW} {j : PL} (hr : HR R G H F) (h1 : HR R H.r H1 F1) (hj : ∀ q, inP q H1.j ∨ inP q H.j → inP q j) : HR R G ⟨H1.r, H1.x, j, H1.f⟩ F1 := by
  refine ⟨h1.next, h1.objs, h1.wf, h1.low, h1.free, fun q hq => ?_, h1.fact⟩
  show hg H1.r q = hg G q
  rw [h1.jr q (fun k => hq (hj q (.inl k)))]
  exact hr.jr q (fun k => hq (hj q (.inr k)))

theorem heap_same {R : Nat} {r0 : N5 QO} {H1 H2 : QH} {F1 F2 : FW} (h1 : HR R r0 H1 F1) (h2 : HR R r0 H2 F2) (c1 : cmpJ H1.r H2.r H1.j = true) (c2 : cmpJ H1.r H2.r H2.j = true) (b : Nat) : F1.heap.get b = F2.heap.get b := by
  by_cases hb : b < 1048576
  · have e : (Pt.of b).num = b := Pt.of_num hb
    have o1 := h1.objs (Pt.of b)
    have o2 := h2.objs (Pt.of b)
    rw [e] at o1 o2
    rw [o1, o2]
    by_cases k1 : inP (Pt.of b) H1.j
    · exact cmpJ_spec c1 _ k1
    · by_cases k2 : inP (Pt.of b) H2.j
      · exact cmpJ_spec c2 _ k2
      · rw [h1.jr _ k1, h2.jr _ k2]
  · have n1 := H1.x.num_lt
    have n2 := H2.x.num_lt
    rw [h1.free b (by rw [h1.next]; omega), h2.free b (by rw [h2.next]; omega)]

theorem flush_not {lv : Nat → Bool} {tm : TM} (ht : TmOk tm) {t : Nat} (h : lv t = false) : TM.val lv (tm.flush lv) t = Am.bot := by
  have := flushL_get (lv := lv) tm.loc tm.out ht t
  rw [h, cond_false] at this
  exact this

theorem planQ_spec {R : Nat} {P : Program} {lv : Nat → Bool} {n : Nat} {ops : Array Oper} {call : CallF} {q0 : Pt} (hR : R ≤ q0.num) (p : Plan) :
    ∀ {G : N5 QO} {X : Kx} {next : Lay → Dq} {L : Lay} {e : En} {H : QH} {tm : TM} {F : FW}, CallOk R call X.call → ER lv L e tm → TmOk tm → HR R G H F → q0.num + ops.size ≤ F.next → (planQ P lv n ops p next L).f X q0 e H = true →
      ∃ tm' F' L' e' H', runPlan lv (stepX lv R call q0.num (compL P lv n ops)) p tm F = some (tm'.flush lv, F') ∧ TmOk tm' ∧ F.next ≤ F'.next ∧ ER lv L' e' tm' ∧ HR R G H' F' ∧ Same lv ops tm tm' ∧ (next L').f X q0 e' H' = true := by
  induction p with
  | done =>
    intro G X next L e H tm F hq he ht hr hb h
    exact ⟨tm, F, L, e, H, rfl, ht, Nat.le_refl _, he, hr, fun _ _ _ => rfl, h⟩
  | look j r ih =>
    intro G X next L e H tm F hq he ht hr hb h
    obtain ⟨tm1, F1, L1, e1, H1, h1, h2, h3, h4, h5, hs, h6⟩ := stepD_spec hq he ht hr hR hb h
    obtain ⟨tm2, F2, L2, e2, H2, g1, g2, g3, g4, g5, gs, g6⟩ := ih hq h2 h3 h4 (Nat.le_trans hb h5) h6
    refine ⟨tm2, F2, L2, e2, H2, ?_, g2, Nat.le_trans h5 g3, g4, g5, fun t a b => (gs t a b).trans (hs t a b), g6⟩
    show goS (stepX lv R call q0.num (compL P lv n ops) j true tm F) (runPlan lv _ r) = _
    rw [h1]
    exact g1
  | alt j r other ih io =>
    intro G X next L e H tm F hq he ht hr hb h
    have one : ∀ {G : N5 QO} {X : Kx} {nx : Lay → Dq} {H : QH}, CallOk R call X.call → HR R G H F → (stepD P n ops j false L (planQ P lv n ops r nx)).f X q0 e H = true →
        ∃ tm' F' L' e' H', goS (stepX lv R call q0.num (compL P lv n ops) j false tm F) (runPlan lv (stepX lv R call q0.num (compL P lv n ops)) r) = some (tm'.flush lv, F') ∧ TmOk tm' ∧ F.next ≤ F'.next ∧ ER lv L' e' tm' ∧ HR R G H' F' ∧ Same lv ops tm tm' ∧ (nx L').f X q0 e' H' = true := by
      intro G X nx H hq hr h
      obtain ⟨tm1, F1, L1, e1, H1, h1, h2, h3, h4, h5, hs, h6⟩ := stepD_spec hq he ht hr hR hb h
      obtain ⟨tm2, F2, L2, e2, H2, g1, g2, g3, g4, g5, gs, g6⟩ := ih hq h2 h3 h4 (Nat.le_trans hb h5) h6
      refine ⟨tm2, F2, L2, e2, H2, ?_, g2, Nat.le_trans h5 g3, g4, g5, fun t a b => (gs t a b).trans (hs t a b), g6⟩
      rw [h1]
      exact g1
    have h' : (bif isStop other then stepD P n ops j false L (planQ P lv n ops r next) else altD (dsts lv ops) L (fun nx => stepD P n ops j false L (planQ P lv n ops r nx)) (fun nx => planQ P lv n ops other nx L) next).f X q0 e H = true := h
    cases hs : isStop other with
    | true =>
      rw [hs, cond_true] at h'
      obtain ⟨tm2, F2, L2, e2, H2, g1, g2⟩ := one hq hr h'
      refine ⟨tm2, F2, L2, e2, H2, ?_, g2⟩
      show altS lv (isStop other) (goS (stepX lv R call q0.num (compL P lv n ops) j false tm F) (runPlan lv _ r)) (runPlan lv _ other tm F) = _
      rw [g1, hs]
      rfl
    | false =>
      rw [hs, cond_false] at h'
      have h1 : (stepD P n ops j false L (planQ P lv n ops r _)).f (pushA e H X) q0 e (nilJ H) = true := h'
      obtain ⟨tm1, F1, L1, e1, H1, a1, a2, a3, a4, a5, a6, a7⟩ := one (X := pushA e H X) hq hr.nilJ h1
      have h2 : (planQ P lv n ops other _ L).f (pushA e1 H1 (pushA e H X)) q0 e (nilF H H1) = true := a7
      obtain ⟨tm2, F2, L2, e2, H2, b1, b2, b3, b4, b5, b6, b7⟩ := io (X := pushA e1 H1 (pushA e H X)) hq he ht (hr.nilJ.facts a5.fact : HR R H.r (nilF H H1) F) hb h2
      have h3 : cmpS L1 L2 e1 e2 H1 H2 (dsts lv ops) (appJ H1.j H.j fun j => (next L1).f X q0 e1 ⟨H1.r, H1.x, j, H1.f⟩) = true := b7
      obtain ⟨c1, h3⟩ := eq_spec h3
      obtain ⟨c2, h3⟩ := and_of h3
      obtain ⟨c3, h3⟩ := and_of h3
      obtain ⟨c4, h3⟩ := and_of h3
      obtain ⟨jj, d1, d2⟩ := appJ_spec h3
      refine ⟨tm1, F1, L1, e1, ⟨H1.r, H1.x, jj, H1.f⟩, ?_, a2, a3, a4, hr.join a5 d1, a6, d2⟩
      show altS lv (isStop other) (goS (stepX lv R call q0.num (compL P lv n ops) j false tm F) (runPlan lv _ r)) (runPlan lv _ other tm F) = _
      rw [a1, b1, hs]
      have same : Am.sameS lv (tm1.flush lv, F1) (tm2.flush lv, F2) := by
        refine ⟨fun t => ?_, rfl, fun b => heap_same a5 b5 c3 c4 b, ?_⟩
        · show TM.val lv (tm1.flush lv) t = TM.val lv (tm2.flush lv) t
          cases hl : lv t with
          | false => rw [flush_not a2 hl, flush_not b2 hl]
          | true =>
            rw [flush_val a2 hl, flush_val b2 hl]
            by_cases hm : t ∈ dsts lv ops
            · exact cmpE_spec a4 b4 c2 t hm
            · rw [a6 t hl hm, b6 t hl hm]
        · show F1.next = F2.next
          rw [a5.next, b5.next, c1]
      unfold altS
      simp only [cond_false]
      rw [@decide_eq_true _ (Classical.propDecidable _) same, cond_true]
  | stop => intro G X next L e H tm F hq he ht hr hb h; cases h

theorem drawQ_ok {P : Program} {lv : Nat → Bool} {n R : Nat} {call : Nat → CallF} : DrawOk P lv n R call (drawQ P lv n) := by
  intro G ops lm next L X e H tm F hq he ht hr hR h
  unfold drawQ at h
  split at h
  · rename_i p hp
    cases hm : (P.follows .mixedOrders && Region.noSelect ops) with
    | false => rw [hm] at h; cases h
    | true =>
      rw [hm, cond_true] at h
      obtain ⟨r, x, jj, ff⟩ := H
      obtain ⟨x', hx, h⟩ := padN_spec (k := fun x' => (planQ P lv n ops p (fun L => ⟨fun X _ e H => (finR lv lm next L).f X e H⟩) L).f X x e ⟨r, x', jj, ff⟩) h
      have hn : F.next = x.num := hr.next
      have hr2 : HR R G ⟨r, x', jj, ff⟩ ⟨F.heap, F.next + ops.size⟩ := ⟨by show F.next + ops.size = x'.num; omega, hr.objs, hr.wf, hr.low, fun b hb => hr.free b (by have hb' : F.next + ops.size ≤ b := hb; omega), hr.jr, hr.fact⟩
      obtain ⟨tm1, F', L1, e1, H', h1, h2, h3, h4, h5, _, h6⟩ := planQ_spec (call := call R) (q0 := x) (by omega) p hq he ht hr2 (by show x.num + ops.size ≤ F.next + ops.size; omega) h
      obtain ⟨L', e', g1, g2⟩ := finR_spec h4 h2 (lm := lm) h6
      refine ⟨tm1.flush lv, F', L', e', H', ?_, (h4.flush (lm := 0) h2).2, by have : F.next + ops.size ≤ F'.next := h3; omega, g1, h5, g2⟩
      unfold regionS
      rw [cond_true, hm, cond_true]
      unfold regionX
      rw [hp]
      show normS (runPlan lv (stepX lv R (call R) F.next (compL P lv n ops)) p tm ⟨F.heap, F.next + ops.size⟩) = _
      rw [hn] at h1 ⊢
      rw [h1]
      rfl
  · cases h

/-! Functions. -/

structure Fq where
  f : Kall → En → QH → (V → QH → Bool) → Bool
def Fq.bad : Fq := ⟨fun _ _ _ _ => false⟩

def lenLe (e : En) : Nat → Bool := En.rec (motive := fun _ => Nat → Bool) (fun _ => true) (fun _ _ ih n => Nat.rec (motive := fun _ => Bool) false (fun m _ => ih m) n) e

theorem lenLe_spec : ∀ {e : En} {vs : List Value} {n : Nat}, AR e vs → lenLe e n = true → vs.length ≤ n
  | .nil, [], n, _, _ => Nat.zero_le _
  | .cons x t, v :: r, 0, _, h => by cases h
  | .cons x t, v :: r, n + 1, ha, h => by
    have := lenLe_spec (e := t) (vs := r) (n := n) ha.2 h
    simp only [List.length_cons]; omega
  | .nil, _ :: _, _, ha, _ => ha.elim
  | .cons _ _, [], _, ha, _ => ha.elim

theorem AR.get : ∀ {e : En} {vs : List Value} (i : Nat), AR e vs → (i < vs.length → VQ (nthF i e) (vs.getD i undef)) ∧ (vs.length ≤ i → nthF i e = .bot)
  | .nil, [], i, _ => ⟨fun h => absurd h (Nat.not_lt_zero _), fun _ => nthF_nil i⟩
  | .cons x t, v :: r, 0, ha => ⟨fun _ => ha.1, fun h => by simp at h⟩
  | .cons x t, v :: r, i + 1, ha => by
    obtain ⟨h1, h2⟩ := AR.get (e := t) (vs := r) i ha.2
    exact ⟨fun h => by rw [List.getD_cons_succ]; exact h1 (by simpa using h), fun h => h2 (by simpa using h)⟩
  | .nil, _ :: _, _, ha => ha.elim
  | .cons _ _, [], _, ha => ha.elim

def argL (lv : Nat → Bool) (k : Nat) : Lay := (List.range k).map fun i => bif lv i then some i else none

theorem argL_er {lv : Nat → Bool} {k : Nat} {e : En} {vs : List Value} (ha : AR e vs) (hlen : vs.length ≤ 1000000) : ER lv (argL lv k) e ((argsT vs 0 ⟨[], .nil⟩).flush lv) ∧ TmOk ((argsT vs 0 ⟨[], .nil⟩).flush lv) := by
  have hok : TmOk (argsT vs 0 ⟨[], .nil⟩) := by
    have key : ∀ (vs : List Value) (i : Nat) (tm : TM), i + vs.length ≤ 1000000 → TmOk tm → TmOk (argsT vs i tm) := by
      intro vs
      induction vs with
      | nil => intro i tm _ h; exact h
      | cons v r ih =>
        intro i tm hi h
        simp only [List.length_cons] at hi
        refine ih (i + 1) (tm.put i v) (by omega) ?_
        intro p hp
        simp only [TM.put, List.mem_cons] at hp
        rcases hp with rfl | hp
        · show okN i = true
          unfold okN
          rw [Nat.blt_eq]
          omega
        · exact h p hp
    exact key vs 0 _ (by omega) (fun p hp => by cases hp)
  refine ⟨fun i t hi => ?_, fun p hp => by cases hp⟩
  unfold argL at hi
  rw [List.getElem?_map] at hi
  cases hr : (List.range k)[i]? with
  | none => rw [hr] at hi; cases hi
  | some j =>
    rw [hr] at hi
    have hj : j = i := by
      obtain ⟨h1, h2⟩ := List.getElem?_eq_some_iff.1 hr
      simpa using h2.symm
    subst hj
    cases hl : lv j with
    | false => rw [Option.map_some, hl] at hi; cases hi
    | true =>
      rw [Option.map_some, hl] at hi
      simp only [cond_true, Option.some.injEq] at hi
      subst hi
      rw [flush_val hok hl, argsT_get]
      obtain ⟨h1, h2⟩ := AR.get j ha
      by_cases hlt : j < vs.length
      · rw [if_pos ⟨Nat.zero_le _, by omega⟩]
        exact h1 hlt
      · exact .inl (h2 (by omega))

def retK (k : V → QH → Bool) : Lps := .nil

/-- A function's text, made ready. -/
def bodyQ (P : Program) (fn : Func) (c : Code) : Cq :=
  comp P (lvOf fn c) fn.ntmps (resM fn.results.toList) fn.results.toList (drawQ P (lvOf fn c) fn.ntmps) c (argL (lvOf fn c) (Nat.succ (Nat.add fn.params.size 8))) (resM fn.results.toList) (fun _ => 0)
    (fun L => ⟨fun X e H => retF P fn.results.toList L e H X.ret⟩) (fun _ _ => .bad)

def ext2 (n : Nat) (en : En) (k : V → Bool) : Bool :=
  En.rec (motive := fun _ => Bool) false (fun x t _ => En.rec (motive := fun _ => Bool) false (fun y t _ => En.rec (motive := fun _ => Bool) (fall2 (fun a b => extA n [a, b]) x y k) (fun _ _ _ => false) t) t) en

/-- What is known of a function, quick. -/
structure Kq where
  f : En → QH → (V → QH → Bool) → Bool

/-- One whose result alone is known. -/
def Kq.look (f : En → (V → Bool) → Bool) : Kq := ⟨fun en H k => f en fun u => k u H⟩

/-- The table says what is known. -/
structure TOk (E : Env) (T : FuncId → Option Kq) : Prop where
  kn : ∀ g q, T g = some q → E.ss g = none → ∀ (R : Nat) (G : N5 QO) en vs H F k, AR en vs → HR R G H F → q.f en H k = true → ∃ u v H', E.kn g vs = some v ∧ VQ u v ∧ HR R G H' F ∧ k u H' = true
  ss : ∀ g q s, T g = some q → E.ss g = some s → ∀ (R : Nat) (G : N5 QO) en vs H F k, AR en vs → HR R G H F → R ≤ F.next → q.f en H k = true → ∃ u v H' F', s.f R vs F = some (v, F') ∧ VQ u v ∧ HR R G H' F' ∧ F.next ≤ F'.next ∧ k u H' = true
  no : ∀ g vs, T g = none → E.kn g vs = none

def funQ (P : Program) (E : Env) (T : FuncId → Option Kq) (g : FuncId) : Fq :=
  match E.ss g with
  | some _ => (match T g with
    | some q => ⟨fun _ en H k => q.f en H k⟩
    | none => .bad)
  | none => (match P.funcs[g]? with
  | some fn => bif !(fn.name == "runtime.NumGoroutine") then (match fn.body with
    | some c => (match T g with
      | some q => ⟨fun _ en H k => q.f en H k⟩
      | none => ⟨fun call en H k => Bool.rec (motive := fun _ => Bool) false (Bool.rec (motive := fun _ => Bool) false ((bodyQ P fn c).f ⟨call, k, .nil, .nil⟩ en H) (Nat.ble fn.ntmps 1000000)) (lenLe en fn.ntmps)⟩)
    | none => ⟨fun _ en H k => ext2 (E.ext g) en fun v => k v H⟩) else .bad
  | none => .bad)

def callN (P : Program) (E : Env) (T : FuncId → Option Kq) (f : Nat) : Kall := Nat.rec (motive := fun _ => Kall) (fun _ _ _ _ => false) (fun _ ih g en H k => (funQ P E T g).f ih en H k) f

theorem callN_ok {P : Program} {E : Env} {T : FuncId → Option Kq} (hT : TOk E T) {R : Nat} : ∀ (f : Nat), CallOk R (callA P E f R) (callN P E T f)
  | 0 => fun G g en vs H F k _ _ _ h => by cases h
  | f + 1 => by
    intro G g en vs H F k ha hr hR h
    have h' : (funQ P E T g).f (callN P E T f) en H k = true := h
    show ∃ r v H' F', callS P E (callA P E f) R g vs F = some (v, F') ∧ _
    unfold funQ at h'
    unfold callS
    cases hss : E.ss g with
    | some s =>
      rw [hss] at h'
      simp only at h'
      split at h'
      · rename_i q hv
        obtain ⟨u, v, H', F', h1, h2, h3, h4, h5⟩ := hT.ss g q s hv hss R G en vs H F k ha hr hR h'
        exact ⟨u, v, H', F', h1, h2, h3, h4, h5⟩
      · cases h'
    | none =>
    rw [hss] at h'
    simp only at h' ⊢
    split at h'
    · rename_i fn hfn
      rw [hfn]
      cases hname : (!(fn.name == "runtime.NumGoroutine")) with
      | false => rw [hname] at h'; cases h'
      | true =>
        rw [hname, cond_true] at h'
        simp only [hname, cond_true]
        unfold bodyS
        split at h'
        · rename_i c hc
          simp only [hc]
          split at h'
          · rename_i q hv
            obtain ⟨u, v, H', h1, h2, hr', h3⟩ := hT.kn g q hv hss R G en vs H F k ha hr h'
            simp only [h1]
            exact ⟨u, v, H', F, rfl, h2, hr', Nat.le_refl _, h3⟩
          · rename_i hv
            simp only [hT.no g vs hv]
            have h2 : Bool.rec (motive := fun _ => Bool) false (Bool.rec (motive := fun _ => Bool) false ((bodyQ P fn c).f ⟨callN P E T f, k, .nil, .nil⟩ en H) (Nat.ble fn.ntmps 1000000)) (lenLe en fn.ntmps) = true := h'
            cases hl : lenLe en fn.ntmps with
            | false => rw [hl] at h2; cases h2
            | true =>
              rw [hl] at h2
              cases hm : Nat.ble fn.ntmps 1000000 with
              | false => rw [hm] at h2; cases h2
              | true =>
                rw [hm] at h2
                have hlen := lenLe_spec ha hl
                have hmax := Nat.le_of_ble_eq_true hm
                rw [Nat.ble_eq_true_of_le hlen, Nat.ble_eq_true_of_le (show vs.length ≤ 1000000 by omega), Bool.and_self, cond_true]
                obtain ⟨he, ht⟩ := argL_er (lv := lvOf fn c) (k := Nat.succ (Nat.add fn.params.size 8)) ha (by omega)
                obtain ⟨xo, tm', F', h3, h4, h5, L', e', H', h6, h7, h8⟩ := comp_sound (call := callA P E f) drawQ_ok c _ _ _ _ _ ⟨callN P E T f, k, .nil, .nil⟩ _ H _ F (callN_ok hT f) he ht hr hR h2
                rw [h3]
                have fin : retF P fn.results.toList L' e' H' k = true → ∃ r v H'' F'', retS P (lvOf fn c) fn.results.toList (some (XO.norm, tm', F')) = some (v, F'') ∧ VQ r v ∧ HR R G H'' F'' ∧ F.next ≤ F''.next ∧ k r H'' = true := by
                  intro g
                  obtain ⟨x, l, g1, g2, g3⟩ := retF_spec h6 h7 g
                  refine ⟨x, tupA l, H', F', ?_, g2, h7, h5, g3⟩
                  unfold retS
                  simp only [g1]
                cases xo with
                | norm => exact fin h8
                | ret =>
                  obtain ⟨r, v, H2, F2, g1, g2⟩ := fin h8
                  exact ⟨r, v, H2, F2, g1, g2⟩
                | exit i => cases h8
        · rename_i hc
          simp only [hc]
          have h2 : ext2 (E.ext g) en (fun v => k v H) = true := h'
          cases en with
          | nil => cases h2
          | cons x t =>
            cases t with
            | nil => cases h2
            | cons y t =>
              cases t with
              | cons z t => cases h2
              | nil =>
                cases vs with
                | nil => exact ha.elim
                | cons v vs =>
                  cases vs with
                  | nil => exact ha.2.elim
                  | cons u vs =>
                    cases vs with
                    | cons _ _ => exact ha.2.2.elim
                    | nil =>
                      obtain ⟨r, g1, g2⟩ := fall2_spec (f := fun a b => extA (E.ext g) [a, b]) (k := fun v => k v H) ha.1 ha.2.1 h2
                      have g1' : extA (E.ext g) [v, u] = some (dec r) := g1
                      rw [g1']
                      exact ⟨r, _, H, F, rfl, .inr rfl, hr, Nat.le_refl _, g2⟩
    · cases h'

/-! A run from nothing. -/

def H0 : QH := ⟨hfill .no, ⟨.d0, .d0, .d2, .d5, .d8⟩, .nil, .nil⟩

theorem H0_ok : HR 600 (hfill .no) H0 ⟨.nil, 600⟩ := by
  refine ⟨by decide, fun q => ?_, fun q => ?_, fun q h => ?_, fun b _ => rfl, fun q _ => rfl, trivial⟩
  · show none = decO (hg (hfill .no) q)
    rw [hg_fill]; rfl
  · show wfO (hg (hfill .no) q)
    rw [hg_fill]; trivial
  · have h' : own (hg (hfill .no) q) = true := h
    rw [hg_fill] at h'; cases h'

/-- It is true. -/
def isB (v : V) (_ : QH) : Bool := asB v fun b => b

theorem isT_of {P : Program} {E : Env} {T : FuncId → Option Kq} (hT : TOk E T) {f : Nat} {g : FuncId} {en : En} {vs : List Value} (ha : AR en vs) (h : callN P E T f g en H0 isB = true) : isT (callA P E f 600 g vs ⟨.nil, 600⟩) = true := by
  obtain ⟨r, v, H', F', h1, h2, _, _, h3⟩ := callN_ok (P := P) (E := E) (R := 600) hT f (hfill .no) g en vs H0 ⟨.nil, 600⟩ isB ha H0_ok (Nat.le_refl _) h
  obtain ⟨b, rfl, hb⟩ := asB_spec h3
  subst hb
  rw [h1, h2.eq (by simp)]
  rfl

/-- Nothing is known. -/
def T0 : FuncId → Option Kq := fun _ => none
theorem T0_ok : TOk E0 T0 := ⟨fun _ _ h => (by cases h), fun _ _ _ h => (by cases h), fun _ _ _ => rfl⟩

/-- One function without arguments comes to true. -/
def kTrue : Kq := .look fun en c => En.rec (motive := fun _ => Bool) (c (.b true)) (fun _ _ _ => false) en
def T1 (k : FuncId) : FuncId → Option Kq := fun g => Bool.rec (motive := fun _ => Option Kq) none (some kTrue) (Nat.beq g k)
theorem T1_ok (k : FuncId) : TOk (E1 k) (T1 k) := by
  refine ⟨fun g q h _ R G en vs H F c ha hr hq => ?_, fun _ _ _ _ h => (by cases h), fun g vs h => ?_⟩
  · unfold T1 at h
    cases hb : Nat.beq g k with
    | false => rw [hb] at h; cases h
    | true =>
      rw [hb] at h
      simp only [Option.some.injEq] at h
      subst h
      cases en with
      | cons x t => cases hq
      | nil =>
        cases vs with
        | cons _ _ => exact ha.elim
        | nil =>
          refine ⟨.b true, .bool true, H, ?_, .inr rfl, hr, hq⟩
          show (bif Nat.beq g k && true then some (Value.bool true) else none) = _
          rw [hb]
          rfl
  · unfold T1 at h
    cases hb : Nat.beq g k with
    | true => rw [hb] at h; cases h
    | false =>
      show (bif Nat.beq g k && vs.isEmpty then some (Value.bool true) else none) = none
      rw [hb]
      rfl

/-! A run from tables. -/

theorem start_num : (600 : Nat) = (⟨.d0, .d0, .d2, .d5, .d8⟩ : Pt).num := by decide


/-- A store with tables to be read: the number of each, its cells. -/
def tabsF : List (Pt × Cs V × Nat × Nat) → FW
  | [] => ⟨.nil, 600⟩
  | (q, cs, n, e) :: r => ⟨(tabsF r).heap.set q.num (.cells (lc cs n) e), 600⟩

def tabsQ (l : List (Pt × Cs V × Nat × Nat)) (k : N5 QO → Bool) : Bool :=
  List.rec (motive := fun _ => (N5 QO → Bool) → Bool) (fun k => k (hfill .no)) (fun p _ ih k => ih fun r => hset r p.1 (.g p.2.1 p.2.2.1 p.2.2.2) k) l k

/-- Each is there once, below 600, and is of cells. -/
def tabsOk : List (Pt × Cs V × Nat × Nat) → Prop
  | [] => True
  | (q, cs, n, e) :: r => q.num < 600 ∧ (tabsF r).heap.get q.num = none ∧ (n ≤ cs.cap ∧ ∀ i, i < n → isSc (cget cs i)) ∧ tabsOk r

theorem tabs_rec : ∀ {l : List (Pt × Cs V × Nat × Nat)} {k : N5 QO → Bool}, tabsOk l → tabsQ l k = true → ∃ r, k r = true ∧ HR 600 r ⟨r, ⟨.d0, .d0, .d2, .d5, .d8⟩, .nil, .nil⟩ (tabsF l)
  | [], k, _, h => ⟨hfill .no, h, H0_ok⟩
  | (q, cs, n, e) :: l, k, ho, h => by
    obtain ⟨h1, h2, h3, h4⟩ := ho
    obtain ⟨r, g1, g2⟩ := tabs_rec (l := l) (k := fun r => hset r q (.g cs n e) k) h4 h
    rw [hset_eq] at g1
    refine ⟨_, g1, ?_⟩
    have get : ∀ b, ((tabsF l).heap.set q.num (.cells (lc cs n) e)).get b = if b = q.num then some (.cells (lc cs n) e) else (tabsF l).heap.get b := fun b => T.get_set _ _ _ (okN_num q)
    refine ⟨start_num, fun q' => ?_, fun q' => ?_, fun q' hb => ?_, fun b hb => ?_, fun q' _ => rfl, trivial⟩
    · show ((tabsF l).heap.set q.num (.cells (lc cs n) e)).get q'.num = decO (hg (hs r q (.g cs n e)) q')
      rw [get]
      by_cases he : q' = q
      · subst he; rw [if_pos rfl, hg_same]; rfl
      · rw [if_neg (fun k => he (Pt.num_inj k)), hg_ne _ _ he]; exact g2.objs q'
    · show wfO (hg (hs r q (.g cs n e)) q')
      by_cases he : q' = q
      · subst he; rw [hg_same]; exact h3
      · rw [hg_ne _ _ he]; exact g2.wf q'
    · have hb' : own (hg (hs r q (.g cs n e)) q') = true := hb
      by_cases he : q' = q
      · subst he; rw [hg_same] at hb'; cases hb'
      · rw [hg_ne _ _ he] at hb'; exact g2.low _ hb'
    · show ((tabsF l).heap.set q.num (.cells (lc cs n) e)).get b = none
      have hb' : 600 ≤ b := hb
      rw [get, if_neg (by omega)]
      have : (tabsF l).next = 600 := by cases l <;> rfl
      exact g2.free b (by omega)

/-- A run from tables, to the end. -/
def callT (P : Program) (E : Env) (T : FuncId → Option Kq) (l : List (Pt × Cs V × Nat × Nat)) (f : Nat) (g : FuncId) (en : En) (k : V → QH → Bool) : Bool :=
  tabsQ l fun r => callN P E T f g en ⟨r, ⟨.d0, .d0, .d2, .d5, .d8⟩, .nil, .nil⟩ k

/-- .. of which something is known. -/
def callF (P : Program) (E : Env) (T : FuncId → Option Kq) (l : List (Pt × Cs V × Nat × Nat)) (f0 : Fc) (f : Nat) (g : FuncId) (en : En) (k : V → QH → Bool) : Bool :=
  tabsQ l fun r => callN P E T f g en ⟨r, ⟨.d0, .d0, .d2, .d5, .d8⟩, .nil, f0⟩ k

theorem callF_spec {P : Program} {E : Env} {T : FuncId → Option Kq} {l : List (Pt × Cs V × Nat × Nat)} (hT : TOk E T) (hl : tabsOk l) {f0 : Fc} (hf : Sat f0) {f : Nat} {g : FuncId} {en : En} {vs : List Value} {k : V → QH → Bool} (ha : AR en vs) (h : callF P E T l f0 f g en k = true) :
    ∃ x v F', callA P E f 600 g vs (tabsF l) = some (v, F') ∧ VQ x v ∧ ∃ G H, HR 600 G H F' ∧ k x H = true := by
  obtain ⟨r, h1, h2⟩ := tabs_rec hl h
  have hn : (tabsF l).next = 600 := by cases l <;> rfl
  obtain ⟨x, v, H', F', g1, g2, g3, _, g5⟩ := callN_ok (P := P) (E := E) (R := 600) hT f r g en vs _ (tabsF l) k ha (h2.facts hf) (by rw [hn]; exact Nat.le_refl _) h1
  exact ⟨x, v, F', g1, g2, r, H', g3, g5⟩

theorem callT_spec {P : Program} {E : Env} {T : FuncId → Option Kq} {l : List (Pt × Cs V × Nat × Nat)} (hT : TOk E T) (hl : tabsOk l) {f : Nat} {g : FuncId} {en : En} {vs : List Value} {k : V → QH → Bool} (ha : AR en vs) (h : callT P E T l f g en k = true) :
    ∃ x v F', callA P E f 600 g vs (tabsF l) = some (v, F') ∧ VQ x v ∧ ∃ G H, HR 600 G H F' ∧ k x H = true := by
  obtain ⟨r, h1, h2⟩ := tabs_rec hl h
  have hn : (tabsF l).next = 600 := by cases l <;> rfl
  obtain ⟨x, v, H', F', g1, g2, g3, _, g5⟩ := callN_ok (P := P) (E := E) (R := 600) hT f r g en vs _ (tabsF l) k ha h2 (by rw [hn]; exact Nat.le_refl _) h1
  exact ⟨x, v, F', g1, g2, r, H', g3, g5⟩

theorem isT_from {P : Program} {E : Env} {T : FuncId → Option Kq} {l : List (Pt × Cs V × Nat × Nat)} (hT : TOk E T) (hl : tabsOk l) {f : Nat} {g : FuncId} {en : En} {vs : List Value} (ha : AR en vs) (h : callT P E T l f g en isB = true) : isT (callA P E f 600 g vs (tabsF l)) = true := by
  obtain ⟨x, v, F', h1, h2, G, H, _, h3⟩ := callT_spec hT hl ha h
  obtain ⟨b, rfl, hb⟩ := asB_spec h3
  subst hb
  rw [h1, h2.eq (by simp)]
  rfl

end
end Go.Qm
