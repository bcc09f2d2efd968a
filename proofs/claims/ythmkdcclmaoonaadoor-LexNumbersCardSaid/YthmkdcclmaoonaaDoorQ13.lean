/- The quick machine's code: tests, blocks, loops; what it comes to the store's way comes to. No conditions. -/
import Derived.Test.YthmkdcclmaoonaaDoorQ12
set_option linter.unusedVariables false
set_option linter.unusedSimpArgs false
set_option linter.unusedSectionVars false
set_option linter.constructorNameAsVariable false
namespace Go.Qm
open Go.Am
noncomputable section
variable [Rho]

/-! Which slots are wanted: nothing hangs on it but how far a run comes, and how quick. -/

def bitsL (m : Nat) : List Nat :=
  Nat.rec (motive := fun _ => Nat → Nat → List Nat) (fun _ _ => []) (fun _ ih m i => Nat.rec (motive := fun _ => List Nat) [] (fun _ _ => Bool.rec (motive := fun _ => List Nat) (ih (Nat.div m 2) (Nat.succ i)) (i :: ih (Nat.div m 2) (Nat.succ i)) (Nat.beq (Nat.mod m 2) 1)) m) 100000 m 0

def tmpM : Operand → Nat
  | .tmp t => bitN t
  | _ => 0

def usesM (o : Oper) : Nat := o.op.operands.toList.foldr (fun x m => Nat.lor (tmpM x) m) 0
def subM (a b : Nat) : Nat := Nat.xor a (Nat.land a b)
def regM (ops : List Oper) (lm : Nat) : Nat := ops.foldr (fun o m => Nat.lor (usesM o) (subM m (dstM o.dst))) lm

def resM : List ResultVar → Nat
  | [] => 0
  | .tmp t :: r => Nat.lor (bitN t) (resM r)
  | .cell q _ :: r => Nat.lor (bitN q) (resM r)

def liveC (rm : Nat) (c : Code) : Nat → (Nat → Nat) → Nat :=
  Code.rec (motive := fun _ => Nat → (Nat → Nat) → Nat)
    (fun lm _ => lm)
    (fun _ ops _ lm _ => regM ops.toList lm)
    (fun _ _ a b lm ex => a (b lm ex) ex)
    (fun x _ _ a b lm ex => Nat.lor (tmpM x) (Nat.lor (a lm ex) (b lm ex)))
    (fun id _ b lm ex => b lm fun i => Bool.rec (motive := fun _ => Nat) (ex i) lm (Nat.beq i id))
    (fun _ b _ ex => b 0 ex)
    (fun _ _ _ _ _ _ lm _ => lm)
    (fun id _ ex => ex id)
    (fun _ b lm ex => b lm ex)
    (fun _ lm _ => lm)
    (fun _ lm _ => lm)
    (fun _ _ => rm)
    (fun _ lm _ => lm) c

def endLay (lv : Nat → Bool) (lm : Nat) (L : Lay) : Lay := L.map fun o => match o with
  | some t => bif lv t && Nat.beq (Nat.land (bitN t) lm) (bitN t) then some t else none
  | none => none

theorem endLay_get {lv : Nat → Bool} {lm : Nat} {L : Lay} {i t : Nat} (h : (endLay lv lm L)[i]? = some (some t)) : L[i]? = some (some t) ∧ lv t = true := by
  unfold endLay at h
  rw [List.getElem?_map] at h
  cases hl : L[i]? with
  | none => rw [hl] at h; cases h
  | some o =>
    rw [hl] at h
    cases o with
    | none => simp at h
    | some w =>
      simp only [Option.map_some, Option.some.injEq] at h
      cases hb : (lv w && Nat.beq (Nat.land (bitN w) lm) (bitN w)) with
      | false => rw [hb] at h; cases h
      | true =>
        rw [hb] at h
        simp only [cond_true, Option.some.injEq] at h
        subst h
        simp only [Bool.and_eq_true] at hb
        exact ⟨rfl, hb.1⟩

theorem flush_val {lv : Nat → Bool} {tm : TM} (ht : TmOk tm) {t : Nat} (h : lv t = true) : TM.val lv (tm.flush lv) t = TM.val lv tm t := by
  have := flushL_get (lv := lv) tm.loc tm.out ht t
  rw [h, cond_true] at this
  show scanL [] (outV lv (flushL lv tm.loc tm.out) t) t = _
  show outV lv (flushL lv tm.loc tm.out) t = _
  rw [this]
  rfl

theorem ER.flush {lv : Nat → Bool} {lm : Nat} {L : Lay} {e : En} {tm : TM} (he : ER lv L e tm) (ht : TmOk tm) : ER lv (endLay lv lm L) e (tm.flush lv) ∧ TmOk (tm.flush lv) := by
  refine ⟨fun i t hi => ?_, fun p hp => by cases hp⟩
  obtain ⟨h1, h2⟩ := endLay_get hi
  rw [flush_val ht h2]
  exact he i t h1

/-! Slots in another order. -/

def packQ (L : Lay) (K : List Nat) : En → (En → Bool) → Bool :=
  List.rec (motive := fun _ => En → (En → Bool) → Bool) (fun _ k => k .nil) (fun t _ ih e k => ih e fun r => (rd L (.tmp t)).gk e fun v => k (.cons v r)) K

def nmL (K : List Nat) : Lay := K.map some

theorem packQ_spec {lv : Nat → Bool} {L : Lay} {e : En} {tm : TM} (he : ER lv L e tm) : ∀ {K : List Nat} {k : En → Bool}, packQ L K e k = true → ∃ e', ER lv (nmL K) e' tm ∧ k e' = true
  | [], k, h => ⟨.nil, fun i t hi => by simp [nmL] at hi, h⟩
  | t :: K, k, h => by
    obtain ⟨r, h1, h2⟩ := packQ_spec he (K := K) (k := fun r => (rd L (.tmp t)).gk e fun v => k (.cons v r)) h
    rw [rd_gk] at h2
    exact ⟨_, ER.cons h1 fun u hu => (by cases hu; exact rd_spec he (.tmp t)), h2⟩

def jumpQ (L : Lay) (K : List Nat) (nj : Cq) : Cq := ⟨fun X e H => packQ L K e fun e' => nj.f X e' H⟩

def finR (lv : Nat → Bool) (lm : Nat) (next : Lay → Cq) (L : Lay) : Cq :=
  Bool.rec (motive := fun _ => Cq) (jumpQ (endLay lv lm L) (bitsL lm) (next (nmL (bitsL lm)))) (next (endLay lv lm L)) (Nat.ble L.length 16)

/-! Results. -/

def ret1 (P : Program) (L : Lay) (r : ResultVar) : En → QH → (V → Bool) → Bool :=
  match r with
  | .tmp t => fun e _ k => k ((rd L (.tmp t)).g e)
  | .cell q t => fun e H k => (loadC P t).f ((rd L (.tmp q)).g e) H k

def retL (P : Program) (L : Lay) : List ResultVar → En → QH → (V → Bool) → Bool
  | [], _, _, k => k .nil
  | r :: rs, e, H, k => ret1 P L r e H fun v => nb v (retL P L rs e H fun l => k (.cons v l))

def retF (P : Program) (rs : List ResultVar) (L : Lay) (e : En) (H : QH) (k : V → QH → Bool) : Bool :=
  match rs with
  | [r] => ret1 P L r e H fun v => k v H
  | rs => retL P L rs e H fun l => k (.t l) H

theorem ret1_spec {R : Nat} {G : N5 QO} {P : Program} {lv : Nat → Bool} {L : Lay} {e : En} {tm : TM} {H : QH} {F : FW} (he : ER lv L e tm) (hr : HR R G H F) {r : ResultVar} {k : V → Bool} (h : ret1 P L r e H k = true) : ∃ x v, retOneA P lv tm F r = some v ∧ VQ x v ∧ k x = true := by
  cases r with
  | tmp t => exact ⟨_, _, rfl, rd_spec he (.tmp t), h⟩
  | cell q t =>
    obtain ⟨x, h1, h2⟩ := loadC_spec hr (rd_spec he (.tmp q)) h
    exact ⟨x, _, h1, .inr rfl, h2⟩

theorem retL_spec {R : Nat} {G : N5 QO} {P : Program} {lv : Nat → Bool} {L : Lay} {e : En} {tm : TM} {H : QH} {F : FW} (he : ER lv L e tm) (hr : HR R G H F) : ∀ {rs : List ResultVar} {k : V → Bool}, retL P L rs e H k = true → ∃ l, retAllA P lv tm F rs = some (decL l) ∧ k l = true
  | [], k, h => ⟨.nil, rfl, h⟩
  | r :: rs, k, h => by
    obtain ⟨x, v, h1, h2, h⟩ := ret1_spec he hr (k := fun v => nb v (retL P L rs e H fun l => k (.cons v l))) h
    obtain ⟨h3, h⟩ := nb_spec h
    obtain ⟨l, h4, h5⟩ := retL_spec he hr (rs := rs) h
    refine ⟨.cons x l, ?_, h5⟩
    unfold retAllA
    rw [h1, h4, h2.eq h3]
    rfl

theorem retAll_len {P : Program} {lv : Nat → Bool} {tm : TM} {F : FW} : ∀ {rs : List ResultVar} {l : List Value}, retAllA P lv tm F rs = some l → l.length = rs.length
  | [], l, h => by simp only [retAllA, Option.some.injEq] at h; subst h; rfl
  | r :: rs, l, h => by
    unfold retAllA at h
    split at h
    · rename_i u us hu hus
      simp only [Option.some.injEq] at h
      subst h
      simp [retAll_len hus]
    · cases h

theorem retF_spec {R : Nat} {G : N5 QO} {P : Program} {lv : Nat → Bool} {L : Lay} {e : En} {tm : TM} {H : QH} {F : FW} (he : ER lv L e tm) (hr : HR R G H F) {rs : List ResultVar} {k : V → QH → Bool} (h : retF P rs L e H k = true) :
    ∃ x l, retAllA P lv tm F rs = some l ∧ VQ x (tupA l) ∧ k x H = true := by
  unfold retF at h
  split at h
  · rename_i r
    obtain ⟨x, v, h1, h2, h3⟩ := ret1_spec he hr (k := fun v => k v H) h
    refine ⟨x, [v], ?_, h2, h3⟩
    unfold retAllA
    rw [h1]
    rfl
  · rename_i hrs
    obtain ⟨l, h1, h2⟩ := retL_spec he hr (k := fun l => k (.t l) H) h
    refine ⟨.t l, decL l, h1, .inr ?_, h2⟩
    have this : ∀ v, decL l ≠ [v] := by
      intro v hv
      have h3 := retAll_len h1
      rw [hv] at h3
      obtain ⟨r, hr1⟩ := List.length_eq_one_iff.1 h3.symm
      exact hrs r hr1
    show tupA (decL l) = Value.tuple ⟨decL l⟩
    unfold tupA
    split
    · rename_i v hv; exact absurd hv (this v)
    · rfl

/-! Loops' heads. -/

def popX (X : Kx) : Kx := ⟨X.call, X.ret, Lps.rec (motive := fun _ => Lps) .nil (fun _ t _ => t) X.lps, X.al⟩
def pushX (f : En → QH → Bool) (X : Kx) : Kx := ⟨X.call, X.ret, .cons f X.lps, X.al⟩
def again (X : Kx) (e : En) (H : QH) : Bool := Lps.rec (motive := fun _ => Bool) false (fun f _ _ => f e H) X.lps

def rnd (f : (En → QH → Bool) → En → QH → Bool) (m : Nat) : En → QH → Bool := Nat.rec (motive := fun _ => En → QH → Bool) (fun _ _ => false) (fun _ ih e H => f ih e H) m

/-- Code, made ready. -/
def comp (P : Program) (lv : Nat → Bool) (n rm : Nat) (rs : List ResultVar) (drw : Array Oper → Lay → (Lay → Cq) → Cq) (c : Code) : Lay → Nat → (Nat → Nat) → (Lay → Cq) → (Nat → Lay → Cq) → Cq :=
  Code.rec (motive := fun _ => Lay → Nat → (Nat → Nat) → (Lay → Cq) → (Nat → Lay → Cq) → Cq)
    (fun L _ _ next _ => next L)
    (fun _ ops d L lm _ next _ => Bool.rec (motive := fun _ => Cq) (regQ P n ops ops.toList L (finR lv lm next)) (drw ops L (finR lv lm next)) d)
    (fun _ b ca cb L lm em next ex => ca L (liveC rm b lm em) em (fun L' => cb L' lm em next ex) ex)
    (fun x _ _ ca cb L lm em next ex => ⟨fun X e H => asBF ((rd L x).g e) H fun t H => Bool.rec (motive := fun _ => Bool)
      ((cb L lm em (fun L' => jumpQ L' (bitsL lm) (next (nmL (bitsL lm)))) ex).f X e H) ((ca L lm em (fun L' => jumpQ L' (bitsL lm) (next (nmL (bitsL lm)))) ex).f X e H) t⟩)
    (fun id _ cb L lm em next ex => cb L lm (fun i => Bool.rec (motive := fun _ => Nat) (em i) lm (Nat.beq i id)) (fun L' => jumpQ L' (bitsL lm) (next (nmL (bitsL lm))))
      (fun i => Bool.rec (motive := fun _ => Lay → Cq) (ex i) (fun L' => jumpQ L' (bitsL lm) (next (nmL (bitsL lm)))) (Nat.beq i id)))
    (fun b cb L _ em _ ex => ⟨fun X e H => packQ L (bitsL (liveC rm b 0 em)) e fun e' => rnd (fun ih e H =>
      (cb (nmL (bitsL (liveC rm b 0 em))) (liveC rm b 0 em) em (fun L' => ⟨fun X e H => packQ L' (bitsL (liveC rm b 0 em)) e fun e' => again X e' H⟩) (fun i L' => ⟨fun X e H => (ex i L').f (popX X) e H⟩)).f (pushX ih X) e H) 1000000 e' H⟩)
    (fun _ _ _ _ _ _ _ _ _ _ _ => .bad)
    (fun id L _ _ _ ex => ex id L)
    (fun _ _ _ _ _ _ _ => .bad)
    (fun _ _ _ _ _ _ => .bad)
    (fun _ _ _ _ _ _ => .bad)
    (fun L _ _ _ _ => ⟨fun X e H => retF P rs L e H X.ret⟩)
    (fun _ _ _ _ _ _ => .bad) c

/-! What code comes to. -/

def Out (P : Program) (lv : Nat → Bool) (rs : List ResultVar) (R : Nat) (G : N5 QO) (X : Kx) (next : Lay → Cq) (ex : Nat → Lay → Cq) (xo : XO) (tm : TM) (F : FW) : Prop :=
  ∃ L e H, ER lv L e tm ∧ HR R G H F ∧ (match xo with
    | .norm => (next L).f X e H = true
    | .exit id => (ex id L).f X e H = true
    | .ret => retF P rs L e H X.ret = true)

def Come (P : Program) (lv : Nat → Bool) (rs : List ResultVar) (R : Nat) (G : N5 QO) (X : Kx) (next : Lay → Cq) (ex : Nat → Lay → Cq) (F : FW) (r : CR) : Prop :=
  ∃ xo tm' F', r = some (xo, tm', F') ∧ TmOk tm' ∧ F.next ≤ F'.next ∧ Out P lv rs R G X next ex xo tm' F'

theorem Come.norm {P : Program} {lv : Nat → Bool} {rs : List ResultVar} {R : Nat} {G : N5 QO} {X : Kx} {next : Lay → Cq} {ex : Nat → Lay → Cq} {F : FW} {tm : TM} {L : Lay} {e : En} {H : QH} {F' : FW} (he : ER lv L e tm) (ht : TmOk tm) (hr : HR R G H F') (hn : F.next ≤ F'.next) (h : (next L).f X e H = true) :
    Come P lv rs R G X next ex F (some (.norm, tm, F')) := ⟨.norm, tm, F', rfl, ht, hn, L, e, H, he, hr, h⟩

theorem finR_spec {lv : Nat → Bool} {lm : Nat} {next : Lay → Cq} {L : Lay} {X : Kx} {e : En} {H : QH} {tm : TM} (he : ER lv L e tm) (ht : TmOk tm) (h : (finR lv lm next L).f X e H = true) :
    ∃ L' e', ER lv L' e' (tm.flush lv) ∧ (next L').f X e' H = true := by
  obtain ⟨h1, _⟩ := he.flush ht (lm := lm)
  unfold finR at h
  cases hb : Nat.ble L.length 16 with
  | true => rw [hb] at h; exact ⟨_, e, h1, h⟩
  | false =>
    rw [hb] at h
    obtain ⟨e', h2, h3⟩ := packQ_spec h1 (K := bitsL lm) h
    exact ⟨_, e', h2, h3⟩

/-- Regions whose order is open. -/
def DrawOk (P : Program) (lv : Nat → Bool) (n R : Nat) (call : Nat → CallF) (drw : Array Oper → Lay → (Lay → Cq) → Cq) : Prop :=
  ∀ (G : N5 QO) (ops : Array Oper) (lm : Nat) (next : Lay → Cq) (L : Lay) (X : Kx) (e : En) (H : QH) (tm : TM) (F : FW), CallOk R (call R) X.call → ER lv L e tm → TmOk tm → HR R G H F → R ≤ F.next → (drw ops L (finR lv lm next)).f X e H = true →
    ∃ tm' F' L' e' H', regionS P lv n call R ops true tm F = some (.norm, tm', F') ∧ TmOk tm' ∧ F.next ≤ F'.next ∧ ER lv L' e' tm' ∧ HR R G H' F' ∧ (next L').f X e' H' = true

/-! Rounds. -/

/-- So many rounds, till it is left. -/
def iterA (body : TM → FW → CR) : Nat → TM → FW → CR
  | 0, _, _ => none
  | j + 1, tm, H => match body tm H with
    | some (.norm, tm', H') => iterA body j tm' H'
    | r => r

def itR (body : TM → FW → CR) : Nat → TM → FW → Option (Option XO × St)
  | 0, tm, H => some (none, tm, H)
  | m + 1, tm, H => againS (roundS (body tm H)) (itR body m)

theorem againS_assoc (r : Option (Option XO × St)) (f g : TM → FW → Option (Option XO × St)) : againS (againS r f) g = againS r fun tm H => againS (f tm H) g := by
  cases r with
  | none => rfl
  | some p => obtain ⟨o, tm, H⟩ := p; cases o <;> rfl

theorem itR_add (body : TM → FW → CR) : ∀ (a b : Nat) (tm : TM) (H : FW), itR body (a + b) tm H = againS (itR body a tm H) (itR body b)
  | 0, b, tm, H => by rw [Nat.zero_add]; rfl
  | a + 1, b, tm, H => by
    rw [show a + 1 + b = (a + b) + 1 by omega]
    show againS (roundS (body tm H)) (itR body (a + b)) = againS (againS (roundS (body tm H)) (itR body a)) (itR body b)
    rw [againS_assoc]
    congr 1
    funext tm H
    exact itR_add body a b tm H

theorem loopP_itR (body : TM → FW → CR) : ∀ (k : Nat) (tm : TM) (H : FW), loopP body k tm H = itR body (2 ^ k) tm H
  | 0, tm, H => by
    show roundS (body tm H) = againS (roundS (body tm H)) (itR body 0)
    cases body tm H with
    | none => rfl
    | some p => obtain ⟨o, tm, H⟩ := p; cases o <;> rfl
  | k + 1, tm, H => by
    show againS (loopP body k tm H) (loopP body k) = _
    rw [show 2 ^ (k + 1) = 2 ^ k + 2 ^ k by rw [Nat.pow_succ]; omega, itR_add, loopP_itR body k]
    congr 1
    funext tm H
    exact loopP_itR body k tm H

theorem iterA_itR (body : TM → FW → CR) : ∀ (j m : Nat) (tm : TM) (H : FW) (x : XO) (s : St), x ≠ .norm → iterA body j tm H = some (x, s) → j ≤ m → itR body m tm H = some (some x, s)
  | 0, _, _, _, _, _, _, h, _ => by cases h
  | j + 1, 0, _, _, _, _, _, _, hm => by omega
  | j + 1, m + 1, tm, H, x, s, hx, h, hm => by
    unfold iterA at h
    show againS (roundS (body tm H)) (itR body m) = _
    split at h
    · rename_i tm' H' hb
      rw [hb]
      exact iterA_itR body j m tm' H' x s hx h (by omega)
    · rename_i hb
      rw [h]
      cases x with
      | norm => exact absurd rfl hx
      | ret => rfl
      | exit id => rfl

theorem loopS_iter {body : TM → FW → CR} {j : Nat} {tm : TM} {H : FW} {x : XO} {s : St} (hx : x ≠ .norm) (h : iterA body j tm H = some (x, s)) (hj : j ≤ 1000000) : loopS (loopP body 20 tm H) = some (x, s) := by
  rw [loopP_itR, iterA_itR body j (2 ^ 20) tm H x s hx h (Nat.le_trans hj (by decide))]
  rfl

theorem comp_sound {P : Program} {lv : Nat → Bool} {n rm : Nat} {rs : List ResultVar} {drw : Array Oper → Lay → (Lay → Cq) → Cq} {R : Nat} {G : N5 QO} {call : Nat → CallF} (hd : DrawOk P lv n R call drw) (c : Code) :
    ∀ (L : Lay) (lm : Nat) (em : Nat → Nat) (next : Lay → Cq) (ex : Nat → Lay → Cq) (X : Kx) (e : En) (H : QH) (tm : TM) (F : FW), CallOk R (call R) X.call → ER lv L e tm → TmOk tm → HR R G H F → R ≤ F.next →
      (comp P lv n rm rs drw c L lm em next ex).f X e H = true → Come P lv rs R G X next ex F (codeA P lv n call R c tm F) := by
  induction c with
  | skip =>
    intro L lm em next ex X e H tm F hq he ht hr hR h
    exact Come.norm he ht hr (Nat.le_refl _) h
  | region id ops d =>
    intro L lm em next ex X e H tm F hq he ht hr hR h
    cases d with
    | false =>
      have h' : (regQ P n ops ops.toList L (finR lv lm next)).f X e H = true := h
      obtain ⟨tm', F', h1, h2, h3, L', e', H', h4, h5, h6⟩ := regQ_spec hq he ht hr hR h'
      obtain ⟨L2, e2, g1, g2⟩ := finR_spec h4 h2 h6
      have : codeA P lv n call R (.region id ops false) tm F = some (.norm, tm'.flush lv, F') := by
        show normS (flushS lv (opsA lv R (call R) (compL P lv n ops) tm F)) = _
        rw [show compL P lv n ops = ops.toList.map (compO P lv n ops) from rfl, h1]
        rfl
      rw [this]
      exact Come.norm g1 (h4.flush (lm := 0) h2).2 h5 h3 g2
    | true =>
      have h' : (drw ops L (finR lv lm next)).f X e H = true := h
      obtain ⟨tm', F', L', e', H', h1, h2, h3, h4, h5, h6⟩ := hd G ops lm next L X e H tm F hq he ht hr hR h'
      have : codeA P lv n call R (.region id ops true) tm F = some (.norm, tm', F') := h1
      rw [this]
      exact Come.norm h4 h2 h5 h3 h6
  | seq a b iha ihb =>
    intro L lm em next ex X e H tm F hq he ht hr hR h
    obtain ⟨xo, tm1, F1, h1, h2, h3, L1, e1, H1, h4, h5, h6⟩ := iha L (liveC rm b lm em) em _ ex X e H tm F hq he ht hr hR h
    have hs : codeA P lv n call R (.seq a b) tm F = seqS (codeA P lv n call R a tm F) (codeA P lv n call R b) := rfl
    rw [hs, h1]
    cases xo with
    | norm =>
      obtain ⟨yo, tm2, F2, g1, g2, g3, g4⟩ := ihb L1 lm em next ex X e1 H1 tm1 F1 hq h4 h2 h5 (Nat.le_trans hR h3) h6
      exact ⟨yo, tm2, F2, g1, g2, Nat.le_trans h3 g3, g4⟩
    | ret => exact ⟨.ret, tm1, F1, rfl, h2, h3, L1, e1, H1, h4, h5, h6⟩
    | exit i => exact ⟨.exit i, tm1, F1, rfl, h2, h3, L1, e1, H1, h4, h5, h6⟩
  | cond x a b iha ihb =>
    intro L lm em next ex X e H tm F hq he ht hr hR h
    obtain ⟨t, H2, hv, hr2, h⟩ := asBF_spec (k := fun t H => Bool.rec (motive := fun _ => Bool) ((comp P lv n rm rs drw b L lm em (fun L' => jumpQ L' (bitsL lm) (next (nmL (bitsL lm)))) ex).f X e H) ((comp P lv n rm rs drw a L lm em (fun L' => jumpQ L' (bitsL lm) (next (nmL (bitsL lm)))) ex).f X e H) t) (rd_spec he x) hr h
    have hs : codeA P lv n call R (.cond x a b) tm F = condS (ev lv tm x) (codeA P lv n call R a tm F) (codeA P lv n call R b tm F) := rfl
    have fin : ∀ {r : CR}, Come P lv rs R G X (fun L' => jumpQ L' (bitsL lm) (next (nmL (bitsL lm)))) ex F r → Come P lv rs R G X next ex F r := by
      rintro r ⟨xo, tm1, F1, h1, h2, h3, L1, e1, H1, h4, h5, h6⟩
      cases xo with
      | norm =>
        obtain ⟨e2, g1, g2⟩ := packQ_spec h4 h6
        exact ⟨.norm, tm1, F1, h1, h2, h3, _, e2, H1, g1, h5, g2⟩
      | ret => exact ⟨.ret, tm1, F1, h1, h2, h3, L1, e1, H1, h4, h5, h6⟩
      | exit i => exact ⟨.exit i, tm1, F1, h1, h2, h3, L1, e1, H1, h4, h5, h6⟩
    rw [hs, hv]
    cases t with
    | true => exact fin (iha L lm em _ ex X e H2 tm F hq he ht hr2 hR h)
    | false => exact fin (ihb L lm em _ ex X e H2 tm F hq he ht hr2 hR h)
  | block id b ihb =>
    intro L lm em next ex X e H tm F hq he ht hr hR h
    obtain ⟨xo, tm1, F1, h1, h2, h3, L1, e1, H1, h4, h5, h6⟩ := ihb L lm _ _ _ X e H tm F hq he ht hr hR h
    have hs : codeA P lv n call R (.block id b) tm F = blockS id (codeA P lv n call R b tm F) := rfl
    rw [hs, h1]
    cases xo with
    | norm =>
      obtain ⟨e2, g1, g2⟩ := packQ_spec h4 h6
      exact ⟨.norm, tm1, F1, rfl, h2, h3, _, e2, H1, g1, h5, g2⟩
    | ret => exact ⟨.ret, tm1, F1, rfl, h2, h3, L1, e1, H1, h4, h5, h6⟩
    | exit i =>
      have h6' : ((Bool.rec (motive := fun _ => Lay → Cq) (ex i) (fun L' => jumpQ L' (bitsL lm) (next (nmL (bitsL lm)))) (Nat.beq i id) : Lay → Cq) L1).f X e1 H1 = true := h6
      show Come P lv rs R G X next ex F (bif Nat.beq i id then some (.norm, tm1, F1) else some (.exit i, tm1, F1))
      cases hb : Nat.beq i id with
      | true =>
        rw [hb] at h6'
        obtain ⟨e2, g1, g2⟩ := packQ_spec h4 h6'
        exact ⟨.norm, tm1, F1, rfl, h2, h3, _, e2, H1, g1, h5, g2⟩
      | false =>
        rw [hb] at h6'
        exact ⟨.exit i, tm1, F1, rfl, h2, h3, L1, e1, H1, h4, h5, h6'⟩
  | loop b ihb =>
    intro L lm em next ex X e H tm F hq he ht hr hR h
    obtain ⟨e', h1, h2⟩ := packQ_spec he h
    have key : ∀ (m : Nat) (e : En) (H : QH) (tm : TM) (F : FW), ER lv (nmL (bitsL (liveC rm b 0 em))) e tm → TmOk tm → HR R G H F → R ≤ F.next →
        rnd (fun ih e H => (comp P lv n rm rs drw b (nmL (bitsL (liveC rm b 0 em))) (liveC rm b 0 em) em (fun L' => ⟨fun X e H => packQ L' (bitsL (liveC rm b 0 em)) e fun e' => again X e' H⟩) (fun i L' => ⟨fun X e H => (ex i L').f (popX X) e H⟩)).f (pushX ih X) e H) m e H = true →
        ∃ j xo tm' F', j ≤ m ∧ xo ≠ .norm ∧ iterA (codeA P lv n call R b) j tm F = some (xo, tm', F') ∧ TmOk tm' ∧ F.next ≤ F'.next ∧ Out P lv rs R G X next ex xo tm' F' := by
      intro m
      induction m with
      | zero => intro e H tm F _ _ _ _ h; cases h
      | succ m ihm =>
        intro e H tm F he ht hr hR h
        obtain ⟨xo, tm1, F1, h1, h2, h3, L1, e1, H1, h4, h5, h6⟩ := ihb _ _ _ _ _ (pushX _ X) e H tm F hq he ht hr hR h
        cases xo with
        | norm =>
          obtain ⟨e2, g1, g2⟩ := packQ_spec h4 h6
          obtain ⟨j, yo, tm2, F2, k1, k2, k3, k4, k5, k6⟩ := ihm e2 H1 tm1 F1 g1 h2 h5 (Nat.le_trans hR h3) g2
          exact ⟨j + 1, yo, tm2, F2, by omega, k2, by unfold iterA; rw [h1]; exact k3, k4, Nat.le_trans h3 k5, k6⟩
        | ret => exact ⟨1, .ret, tm1, F1, by omega, by simp, by unfold iterA; rw [h1], h2, h3, L1, e1, H1, h4, h5, h6⟩
        | exit i => exact ⟨1, .exit i, tm1, F1, by omega, by simp, by unfold iterA; rw [h1], h2, h3, L1, e1, H1, h4, h5, h6⟩
    obtain ⟨j, xo, tm1, F1, k1, k2, k3, k4, k5, k6⟩ := key 1000000 e' H tm F h1 ht hr hR h2
    have hs : codeA P lv n call R (.loop b) tm F = loopS (loopP (codeA P lv n call R b) 20 tm F) := rfl
    rw [hs, loopS_iter k2 k3 k1]
    exact ⟨xo, tm1, F1, rfl, k4, k5, k6⟩
  | exit id =>
    intro L lm em next ex X e H tm F hq he ht hr hR h
    exact ⟨.exit id, tm, F, rfl, ht, Nat.le_refl _, L, e, H, he, hr, h⟩
  | ret =>
    intro L lm em next ex X e H tm F hq he ht hr hR h
    exact ⟨.ret, tm, F, rfl, ht, Nat.le_refl _, L, e, H, he, hr, h⟩
  | _ => intros; rename_i h; cases h

end
end Go.Qm
