/- The quick machine's single operations, made ready; a run of them in order. No conditions. -/
import Derived.Test.YthmkdcclmaoonaaDoorQ10
import Derived.Test.YthmkdcclmaoonaaDoorA16
set_option linter.unusedVariables false
set_option linter.unusedSimpArgs false
set_option linter.unusedSectionVars false
set_option linter.constructorNameAsVariable false
namespace Go.Qm
open Go.Am
noncomputable section
variable [Rho]

/-- What is kept while code runs: calls, where it goes back to, the loops' heads. -/
inductive Lps where
  | nil
  | cons (f : En → QH → Bool) (r : Lps)

abbrev Kall := Nat → En → QH → (V → QH → Bool) → Bool

/-- States that are held against others. -/
inductive Al where
  | nil
  | cons (e : En) (H : QH) (r : Al)

structure Kx where
  call : Kall
  ret : V → QH → Bool
  lps : Lps
  al : Al

/-! What is not known is gone through both ways. -/

theorem HR.facts {R : Nat} {G : N5 QO} {H : QH} {F : FW} (h : HR R G H F) {f0 : Fc} (hf : Sat f0) : HR R G ⟨H.r, H.x, H.j, f0⟩ F := ⟨h.next, h.objs, h.wf, h.low, h.free, h.jr, hf⟩

structure Nm where
  t : Sy
  fl : Bool

/-- A truth in fewer words; turned round or not. -/
def nrm (t : Sy) : Nm :=
  match t with
  | .cm .neq a b => ⟨.cm .eql a b, true⟩
  | .cm .gtr a b => ⟨.cm .lss b a, false⟩
  | .cm .geq a b => ⟨.cm .lss a b, true⟩
  | .cm .leq a b => ⟨.cm .lss b a, true⟩
  | .no u => ⟨(nrm u).t, !(nrm u).fl⟩
  | t => ⟨t, false⟩

theorem nrm_ok (t : Sy) : bv t = Bool.xor (bv (nrm t).t) (nrm t).fl := by
  induction t with
  | cm o a b _ _ =>
    cases o <;> first | (show _ = Bool.xor (bv _) false; rw [Bool.xor_false]; rfl) | skip
    · show (iv a != iv b) = Bool.xor (iv a == iv b) true
      cases h : (iv a == iv b) <;> simp [bne, h]
    · show decide (iv a ≤ iv b) = Bool.xor (decide (iv b < iv a)) true
      by_cases h : iv b < iv a
      · rw [decide_eq_true h, decide_eq_false (by omega)]; rfl
      · rw [decide_eq_false h, decide_eq_true (by omega)]; rfl
    · show decide (iv a ≥ iv b) = Bool.xor (decide (iv a < iv b)) true
      by_cases h : iv a < iv b
      · rw [decide_eq_true h, decide_eq_false (by omega)]; rfl
      · rw [decide_eq_false h, decide_eq_true (by omega)]; rfl
  | no u ih =>
    show (!bv u) = Bool.xor (bv (nrm u).t) (!(nrm u).fl)
    rw [ih]
    cases bv (nrm u).t <;> cases (nrm u).fl <;> rfl
  | _ => show _ = Bool.xor (bv _) false; rw [Bool.xor_false]; rfl

def lookF (t : Sy) (f : Fc) (k : Bool → Bool) (o : Bool) : Bool := Fc.rec (motive := fun _ => Bool) o (fun u b _ ih => Bool.rec (motive := fun _ => Bool) ih (k b) (syq t u)) f

theorem lookF_spec {t : Sy} : ∀ {f : Fc} {k : Bool → Bool} {o : Bool}, Sat f → lookF t f k o = true → k (bv t) = true ∨ o = true
  | .nil, _, _, _, h => .inr h
  | .cons u b r, k, o, hs, h => by
    have h' : Bool.rec (motive := fun _ => Bool) (lookF t r k o) (k b) (syq t u) = true := h
    cases hb : syq t u with
    | false => rw [hb] at h'; exact lookF_spec hs.2 h'
    | true =>
      rw [hb] at h'
      rw [syq_spec hb, hs.1]
      exact .inl h'

def xr (a b : Bool) (k : Bool → Bool) : Bool := Bool.rec (motive := fun _ => Bool) (Bool.rec (motive := fun _ => Bool) (k false) (k true) b) (Bool.rec (motive := fun _ => Bool) (k true) (k false) b) a
theorem xr_eq (a b : Bool) (k : Bool → Bool) : xr a b k = k (Bool.xor a b) := by cases a <;> cases b <;> rfl

def addF (H : QH) (t : Sy) (b : Bool) (k : QH → Bool) : Bool := QH.rec (motive := fun _ => Bool) (fun r x j f => k ⟨r, x, j, .cons t b f⟩) H

def forkQ (t : Sy) (H : QH) (k : Bool → QH → Bool) : Bool :=
  Nm.rec (motive := fun _ => Bool) (fun u fl => lookF u H.f (fun b => xr b fl fun b => k b H) (Bool.rec (motive := fun _ => Bool) false (addF H u false fun H' => xr false fl fun b => k b H') (addF H u true fun H' => xr true fl fun b => k b H'))) (nrm t)

theorem forkQ_spec {R : Nat} {G : N5 QO} {H : QH} {F : FW} {t : Sy} {k : Bool → QH → Bool} (hr : HR R G H F) (h : forkQ t H k = true) : ∃ H', HR R G H' F ∧ k (bv t) H' = true := by
  have hn := nrm_ok t
  unfold forkQ at h
  generalize nrm t = m at h hn
  obtain ⟨u, fl⟩ := m
  replace h : lookF u H.f (fun b => xr b fl fun b => k b H) (Bool.rec (motive := fun _ => Bool) false (addF H u false fun H' => xr false fl fun b => k b H') (addF H u true fun H' => xr true fl fun b => k b H')) = true := h
  replace hn : bv t = Bool.xor (bv u) fl := hn
  rw [hn]
  rcases lookF_spec hr.fact h with h | h
  · rw [xr_eq] at h
    exact ⟨H, hr, h⟩
  · cases h1 : (addF H u true fun H' => xr true fl fun b => k b H') with
    | false => rw [h1] at h; cases h
    | true =>
      rw [h1] at h
      obtain ⟨r, x, j, f⟩ := H
      cases hu : bv u with
      | true =>
        refine ⟨⟨r, x, j, .cons u true f⟩, hr.facts ⟨hu, hr.fact⟩, ?_⟩
        have h1' : (xr true fl fun b => k b ⟨r, x, j, .cons u true f⟩) = true := h1
        rw [xr_eq] at h1'
        exact h1'
      | false =>
        refine ⟨⟨r, x, j, .cons u false f⟩, hr.facts ⟨hu, hr.fact⟩, ?_⟩
        have h2' : (xr false fl fun b => k b ⟨r, x, j, .cons u false f⟩) = true := h
        rw [xr_eq] at h2'
        exact h2'

/-- A truth, known or not. -/
def asBF (x : V) (H : QH) (k : Bool → QH → Bool) : Bool := isq x (toSb x fun t => forkQ t H k) (asB x fun b => k b H)

theorem asBF_spec {R : Nat} {G : N5 QO} {H : QH} {F : FW} {x : V} {v : Value} {k : Bool → QH → Bool} (hx : VQ x v) (hr : HR R G H F) (h : asBF x H k = true) : ∃ b H', v = .bool b ∧ HR R G H' F ∧ k b H' = true := by
  rcases isq_spec h with h | h
  · obtain ⟨t, h1, h2, h⟩ := toSb_spec h
    obtain ⟨H', h3, h4⟩ := forkQ_spec hr h
    exact ⟨_, H', by rw [hx.eq h2, h1], h3, h4⟩
  · obtain ⟨b, rfl, h⟩ := asB_spec h
    exact ⟨b, H, hx.eq (by simp), hr, h⟩

structure Oq where
  f : En → QH → (V → QH → Bool) → Bool
def Oq.bad : Oq := ⟨fun _ _ _ => false⟩

def opV (L : Lay) (e : En) (x : Option Operand) : Option V :=
  match x with
  | none => none
  | some x => some ((rd L x).g e)

/-- An interface value: of a type; or none. -/
def asE (x : V) (kn : Bool) (k : Nat → V → Bool) : Bool := V.rec (motive := fun _ => Bool) false (fun _ => false) (fun _ => false) (fun _ _ => false) (fun _ => false) (fun _ _ => false) (fun _ _ => false) (fun _ _ _ _ => false) (fun c => Bool.rec (motive := fun _ => Bool) false kn (Nat.beq c 4)) (fun _ => false) (fun _ _ _ _ _ => false) (fun t v _ => k t v) false (fun _ _ _ _ => false) (fun _ _ => false) (fun _ _ => false) x

theorem asE_spec {x : V} {kn : Bool} {k : Nat → V → Bool} (h : asE x kn k = true) : (x = .n 4 ∧ kn = true) ∨ ∃ t v, x = .e t v ∧ k t v = true := by
  cases x <;> first | exact .inr ⟨_, _, rfl, h⟩ | skip
  all_goals first | (rename_i c; cases hb : Nat.beq c 4 with
    | false => (simp only [asE, hb] at h; cases h)
    | true => (simp only [asE, hb] at h; have := Nat.eq_of_beq_eq_true hb; subst this; exact .inl ⟨rfl, h⟩)) | cases h

structure A1q where
  f : V → (V → Bool) → Bool

/-- What an assertion that fails hands on. -/
def failQ (P : Program) (t : TypeId) (ok : Bool) : A1q :=
  bif ok then (match zeroQ P t true with
    | some z => ⟨fun _ k => k z⟩
    | none => ⟨fun _ _ => false⟩) else ⟨fun _ _ => false⟩

theorem failQ_spec {P : Program} {t : TypeId} {ok : Bool} {x : V} {k : V → Bool} (h : (failQ P t ok).f x k = true) : ∃ r, (bif ok then foundA P t true none else none) = some (dec r) ∧ k r = true := by
  unfold failQ at h
  cases ok with
  | false => cases h
  | true =>
    simp only [cond_true] at h
    split at h
    · rename_i z hz
      exact ⟨z, zeroQ_spec hz, h⟩
    · cases h

def assertC (P : Program) (t : TypeId) (ok : Bool) : A1q :=
  match P.underlying t with
  | some (.interface want) => ⟨fun x k => asE x ((failQ P t ok).f x k) fun u v => Option.rec (motive := fun _ => Bool) false (fun b => Bool.rec (motive := fun _ => Bool) ((failQ P t ok).f x k)
      (Bool.rec (motive := fun _ => Bool) (k (.e u v)) (k (.t (.cons (.e u v) (.cons (.b true) .nil)))) ok) b) (hasA P u want)⟩
  | some _ => ⟨fun x k => asE x ((failQ P t ok).f x k) fun u v => Bool.rec (motive := fun _ => Bool) ((failQ P t ok).f x k)
      (Bool.rec (motive := fun _ => Bool) (k v) (k (.t (.cons v (.cons (.b true) .nil)))) ok) (Nat.beq u t)⟩
  | none => ⟨fun _ _ => false⟩

theorem assertC_spec {P : Program} {t : TypeId} {ok : Bool} {x : V} {a : Value} {k : V → Bool} (hx : VQ x a) (h : (assertC P t ok).f x k = true) : ∃ r, assertA P a t ok = some (dec r) ∧ k r = true := by
  unfold assertC at h
  unfold assertA
  split at h
  · rename_i want hu
    simp only [hu]
    rcases asE_spec h with ⟨rfl, h⟩ | ⟨u, v, rfl, h⟩
    · rw [hx.eq (by simp)]
      exact failQ_spec h
    · rw [hx.eq (by simp)]
      show ∃ r, (match hasA P u want with
        | some true => some (bif ok then .tuple ⟨[.iface u (dec v), .bool true]⟩ else .iface u (dec v))
        | some false => bif ok then foundA P t true none else none
        | none => none) = some (dec r) ∧ k r = true
      cases hh : hasA P u want with
      | none => rw [hh] at h; cases h
      | some b =>
        rw [hh] at h
        cases b with
        | false => exact failQ_spec h
        | true =>
          cases ok with
          | true => exact ⟨_, rfl, h⟩
          | false => exact ⟨_, rfl, h⟩
  · rename_i d hne hu
    simp only [hu]
    rcases asE_spec h with ⟨rfl, h⟩ | ⟨u, v, rfl, h⟩
    · rw [hx.eq (by simp)]
      obtain ⟨r, h1, h2⟩ := failQ_spec h
      refine ⟨r, ?_, h2⟩
      cases d <;> first | exact h1 | exact absurd rfl (hne _)
    · rw [hx.eq (by simp)]
      have goal : ∃ r, (bif Nat.beq u t then some (bif ok then .tuple ⟨[dec v, .bool true]⟩ else dec v) else bif ok then foundA P t true none else none) = some (dec r) ∧ k r = true := by
        cases hh : Nat.beq u t with
        | false => rw [hh] at h; exact failQ_spec h
        | true =>
          rw [hh] at h
          cases ok with
          | true => exact ⟨_, rfl, h⟩
          | false => exact ⟨_, rfl, h⟩
      obtain ⟨r, h1, h2⟩ := goal
      refine ⟨r, ?_, h2⟩
      cases d <;> first | exact h1 | exact absurd rfl (hne _)
  · cases h

def lookQ (P : Program) (L : Lay) (op : Op) : Oq :=
  match op with
  | .move x => ⟨fun e H k => k ((rd L x).g e) H⟩
  | .assign x => ⟨fun e H k => k ((rd L x).g e) H⟩
  | .pick c a b => ⟨fun e H k => asBF ((rd L c).g e) H fun t H => Bool.rec (motive := fun _ => Bool) (k ((rd L b).g e) H) (k ((rd L a).g e) H) t⟩
  | .load t a => ⟨fun e H k => (loadC P t).f ((rd L a).g e) H fun v => k v H⟩
  | .nilCheck x => ⟨fun e H k => nilQ ((rd L x).g e) fun v => k v H⟩
  | .binOp op t x y _ => ⟨fun e H k => binQ P op t x y ((rd L x).g e) ((rd L y).g e) fun v => k v H⟩
  | .unOp op _ x => ⟨fun e H k => unQ op ((rd L x).g e) fun v => k v H⟩
  | .convert s d x => ⟨fun e H k => (convC P s d).f ((rd L x).g e) H fun v => k v H⟩
  | .fieldAddr s x f => ⟨fun e H k => (fieldAddrC P s f).f ((rd L x).g e) fun v => k v H⟩
  | .field s x f => ⟨fun e H k => (fieldC P s f).f ((rd L x).g e) fun v => k v H⟩
  | .indexAddr t x i => ⟨fun e H k => (indexAddrC P t).f ((rd L x).g e) ((rd L i).g e) fun v => k v H⟩
  | .index t x i => ⟨fun e H k => (indexC P t).f ((rd L x).g e) ((rd L i).g e) fun v => k v H⟩
  | .extract x i => ⟨fun e H k => (extractC i).f ((rd L x).g e) fun v => k v H⟩
  | .build t parts => ⟨fun e H k => (buildC P L t parts.toList).f e fun v => k v H⟩
  | .slice t x lo hi mx => ⟨fun e H k => (sliceC P t).f ((rd L x).g e) (opV L e lo) (opV L e hi) (opV L e mx) H fun v => k v H⟩
  | .makeInterface t x => ⟨fun e H k => (ifaceC P t).f ((rd L x).g e) fun v => k v H⟩
  | .makeFunc fn fs cs => (match fn with
    | .func g => ⟨fun e H k => listQ L fs.toList e fun a => listQ L cs.toList e fun b => k (.f g a b) H⟩
    | _ => .bad)
  | .lookup t m k ok => ⟨fun e H c => (lookupC P t ok).f ((rd L m).g e) ((rd L k).g e) H fun v => c v H⟩
  | .typeAssert x _ t ok => ⟨fun e H k => (assertC P t ok).f ((rd L x).g e) fun v => k v H⟩
  | .call c => (match c.callee with
    | .builtin .len => (match c.args.toList, c.argTypes.toList with
      | [x], t :: _ => ⟨fun e H k => (lenC P t).f ((rd L x).g e) H fun v => k v H⟩
      | _, _ => .bad)
    | .builtin .max => ⟨fun e H k => maxMinQ L true c.args.toList e fun v => k v H⟩
    | .builtin .min => ⟨fun e H k => maxMinQ L false c.args.toList e fun v => k v H⟩
    | _ => .bad)
  | _ => .bad

theorem opV_ov {lv : Nat → Bool} {L : Lay} {e : En} {tm : TM} (he : ER lv L e tm) (x : Option Operand) : OV (opV L e x) (x.map (ev lv tm)) := by
  cases x with
  | none => exact ⟨fun v hv => (by cases hv), fun _ => rfl⟩
  | some x => exact ⟨fun v hv => (by cases hv; exact ⟨_, rfl, rd_spec he x⟩), fun hv => (by cases hv)⟩

theorem lookQ_spec {R : Nat} {G : N5 QO} {P : Program} {lv : Nat → Bool} {L : Lay} {e : En} {tm : TM} {H : QH} {F : FW} {op : Op} {f : Ev → FW → Option Value} {k : V → QH → Bool} (hc : compA P op = .look f) (he : ER lv L e tm) (hr : HR R G H F) (h : (lookQ P L op).f e H k = true) :
    ∃ r v H', f (ev lv tm) F = some v ∧ VQ r v ∧ HR R G H' F ∧ k r H' = true := by
  have one : ∀ {o : Option Value} {k' : V → Bool}, (∃ r, o = some (dec r) ∧ k' r = true) → (∀ r, k' r = true → k r H = true) → ∃ r v H', o = some v ∧ VQ r v ∧ HR R G H' F ∧ k r H' = true := by
    rintro o k' ⟨r, h1, h2⟩ h3
    exact ⟨r, _, H, h1, .inr rfl, hr, h3 r h2⟩
  cases op with
  | move x => cases hc; exact ⟨_, _, H, rfl, rd_spec he x, hr, h⟩
  | assign x => cases hc; exact ⟨_, _, H, rfl, rd_spec he x, hr, h⟩
  | pick c a b =>
    cases hc
    obtain ⟨t, H', h1, h2, h3⟩ := asBF_spec (k := fun t H => Bool.rec (motive := fun _ => Bool) (k ((rd L b).g e) H) (k ((rd L a).g e) H) t) (rd_spec he c) hr h
    cases t with
    | true => exact ⟨_, _, H', by show pickA (ev lv tm c) (ev lv tm a) (ev lv tm b) = _; rw [h1]; rfl, rd_spec he a, h2, h3⟩
    | false => exact ⟨_, _, H', by show pickA (ev lv tm c) (ev lv tm a) (ev lv tm b) = _; rw [h1]; rfl, rd_spec he b, h2, h3⟩
  | load t a => cases hc; exact one (k' := fun v => k v H) (loadC_spec hr (rd_spec he a) h) (fun _ h => h)
  | nilCheck x => cases hc; exact one (k' := fun v => k v H) (nilQ_spec (rd_spec he x) h) (fun _ h => h)
  | binOp op t x y t' => cases hc; exact one (k' := fun v => k v H) (binQ_spec (rd_spec he x) (rd_spec he y) h) (fun _ h => h)
  | unOp op t x => cases hc; exact one (k' := fun v => k v H) (unQ_spec (rd_spec he x) h) (fun _ h => h)
  | convert s d x =>
    simp only [compA] at hc
    cases hb : isBytesC P s d with
    | true => rw [hb] at hc; cases hc
    | false => rw [hb] at hc; cases hc; exact one (k' := fun v => k v H) (convC_spec hr (rd_spec he x) h) (fun _ h => h)
  | fieldAddr s x f => cases hc; exact one (k' := fun v => k v H) (fieldAddrC_spec (rd_spec he x) h) (fun _ h => h)
  | field s x f => cases hc; exact one (k' := fun v => k v H) (fieldC_spec (rd_spec he x) h) (fun _ h => h)
  | indexAddr t x i => cases hc; exact one (k' := fun v => k v H) (indexAddrC_spec (rd_spec he x) (rd_spec he i) h) (fun _ h => h)
  | index t x i => cases hc; exact one (k' := fun v => k v H) (indexC_spec (rd_spec he x) (rd_spec he i) h) (fun _ h => h)
  | extract x i => cases hc; exact one (k' := fun v => k v H) (extractC_spec (rd_spec he x) h) (fun _ h => h)
  | build t parts => cases hc; exact one (k' := fun v => k v H) (buildC_spec he h) (fun _ h => h)
  | slice t x lo hi mx => cases hc; exact one (k' := fun v => k v H) (sliceC_spec hr (rd_spec he x) (opV_ov he lo) (opV_ov he hi) (opV_ov he mx) h) (fun _ h => h)
  | makeInterface t x => cases hc; exact one (k' := fun v => k v H) (ifaceC_spec (rd_spec he x) h) (fun _ h => h)
  | makeFunc fn fs cs =>
    cases hc
    unfold lookQ at h
    simp only at h
    cases fn with
    | func g =>
      simp only at h
      obtain ⟨a, h1, _, _, h⟩ := listQ_spec he h
      obtain ⟨b, h2, _, _, h⟩ := listQ_spec he h
      refine ⟨_, _, H, rfl, .inr ?_, hr, h⟩
      show Value.func (.func g) ⟨fs.toList.map (ev lv tm)⟩ ⟨cs.toList.map (ev lv tm)⟩ = Value.func (.func g) ⟨decL a⟩ ⟨decL b⟩
      rw [h1, h2]
    | _ => cases h
  | lookup t m key ok => cases hc; exact one (k' := fun v => k v H) (lookupC_spec hr (rd_spec he m) (rd_spec he key) h) (fun _ h => h)
  | typeAssert x t t' ok => cases hc; exact one (k' := fun v => k v H) (assertC_spec (rd_spec he x) h) (fun _ h => h)
  | call c =>
    obtain ⟨callee, args, tys⟩ := c
    cases callee with
    | builtin b =>
      cases b with
      | len =>
        cases hc
        unfold lookQ at h
        simp only at h
        split at h
        · rename_i x t ts ha ht
          obtain ⟨r, h1, h2⟩ := lenC_spec hr (rd_spec he x) h
          refine ⟨r, _, H, ?_, .inr rfl, hr, h2⟩
          unfold callLookA
          simp only [ha, ht]
          exact h1
        · cases h
      | max => cases hc; exact one (k' := fun v => k v H) (maxMinQ_spec he h) (fun _ h => h)
      | min => cases hc; exact one (k' := fun v => k v H) (maxMinQ_spec he h) (fun _ h => h)
      | _ => cases hc
    | _ => cases hc
  | _ => cases hc

/-! Operations that make a block. -/

def makeQ (P : Program) (L : Lay) (op : Op) : Mq :=
  match op with
  | .alloc t => allocC P t
  | .box t x => boxC L t x
  | .makeSlice t l c => makeSliceC P L t l c
  | .buildSlice t n parts => buildSliceC P L t n parts.toList
  | .makeMap _ none => mkMapC
  | .range t x => rangeC P L t x
  | _ => .bad

theorem makeQ_spec {P : Program} {lv : Nat → Bool} {L : Lay} {op : Op} {f : Ev → Option (AObj × (Nat → Value))} (hc : compA P op = .make f) : MkS lv L f (makeQ P L op) := by
  cases op with
  | alloc t => cases hc; exact allocC_spec
  | box t x => cases hc; exact boxC_spec
  | makeSlice t l c => cases hc; exact makeSliceC_spec
  | buildSlice t n parts => cases hc; exact buildSliceC_spec
  | makeMap t r =>
    cases hc
    cases r with
    | none => exact mkMapC_spec
    | some x => intro tm e c he h; cases h
  | range t x => cases hc; exact rangeC_spec
  | call c =>
    obtain ⟨callee, args, tys⟩ := c
    cases callee with
    | builtin b => cases b <;> cases hc
    | _ => cases hc
  | convert s d x =>
    simp only [compA] at hc
    cases hb : isBytesC P s d with
    | true => rw [hb] at hc; cases hc
    | false => rw [hb] at hc; cases hc
  | _ => cases hc

/-! Operations that write. -/

def storeC (P : Program) (t : TypeId) : V → V → QH → (QH → Bool) → Bool := fun x v H k =>
  Bool.rec (motive := fun _ => Bool) (stoN (P.cellsOf t) x v H k) (scl v (sto1 x v H k) (stoN 1 x v H k)) (Nat.beq (P.cellsOf t) 1)

theorem szOk_cellsOf {P : Program} {t : TypeId} (h : (P.info? t).isSome = true) : szOk P t (P.cellsOf t) = true := by
  unfold szOk Program.cellsOf
  cases hi : P.info? t with
  | none => rw [hi] at h; cases h
  | some i => simp

def writeQ (P : Program) (L : Lay) (op : Op) : Oq :=
  match op with
  | .store t a x => bif (P.info? t).isSome then ⟨fun e H k => storeC P t ((rd L a).g e) ((rd L x).g e) H fun H' => k .bot H'⟩ else .bad
  | .mapUpdate t m k x => ⟨fun e H c => (updC P t).f ((rd L m).g e) ((rd L k).g e) ((rd L x).g e) H fun H' => c .bot H'⟩
  | .insert t m k x => ⟨fun e H c => (updC P t).f ((rd L m).g e) ((rd L k).g e) ((rd L x).g e) H fun H' => c .bot H'⟩
  | .call c => (match c.callee with
    | .builtin .append => (match c.args.toList, c.argTypes.toList with
      | [s, x], t :: t' :: _ => ⟨fun e H k => (appC P t t').f ((rd L s).g e) ((rd L x).g e) H k⟩
      | _, _ => .bad)
    | .builtin .copy => (match c.args.toList, c.argTypes.toList with
      | [s, x], t :: _ => ⟨fun e H k => (copC P t).f ((rd L s).g e) ((rd L x).g e) H k⟩
      | _, _ => .bad)
    | _ => .bad)
  | .convert _ d x => (match P.underlying d with
    | some (.slice el) => bif Nat.beq (P.cellsOf el) 1 then ⟨fun e H k => isq ((rd L x).g e) (toSt ((rd L x).g e) fun t => toTx t (fun t => txV t fun tl => appNew el 1 1 (lenT t) tl H k) false) <| asS ((rd L x).g e) fun l n => strK l n fun tl => appNew el 1 1 l tl H k⟩ else .bad
    | _ => .bad)
  | .next it s => bif s then ⟨fun e H k => nextC.f ((rd L it).g e) .nil H k⟩ else .bad
  | _ => .bad

theorem storeC_spec {R : Nat} {G : N5 QO} {P : Program} {t : TypeId} {x v : V} {a u : Value} {H : QH} {F : FW} {k : QH → Bool} (hr : HR R G H F) (hx : VQ x a) (hv : VQ v u) (hi : (P.info? t).isSome = true) (h : storeC P t x v H k = true) :
    ∃ H' F', storeA P R t a u F = some F' ∧ HR R G H' F' ∧ k H' = true := by
  have hz := szOk_cellsOf hi
  unfold storeC at h
  cases h1 : Nat.beq (P.cellsOf t) 1 with
  | true =>
    rw [h1] at h
    rw [Nat.eq_of_beq_eq_true h1] at hz
    rcases scl_spec h with ⟨_, h⟩ | ⟨_, h⟩
    · exact sto1_spec hr hx hv hz h
    · exact stoN_spec hr hx hv hz h
  | false =>
    rw [h1] at h
    exact stoN_spec hr hx hv hz h

theorem storeA_next {R : Nat} {P : Program} {t : TypeId} {a u : Value} {F F' : FW} (h : storeA P R t a u F = some F') : F'.next = F.next := by
  unfold storeA at h
  split at h
  · obtain ⟨_, h⟩ := some_of_cond h
    unfold FW.lay at h
    split at h
    · cases h
    · obtain ⟨_, h⟩ := some_of_cond h
      split at h
      · obtain ⟨_, h⟩ := some_of_cond h
        simp only [Option.some.injEq] at h
        subst h
        rfl
      · cases h
  · cases h

theorem writeQ_spec {R : Nat} {G : N5 QO} {P : Program} {lv : Nat → Bool} {L : Lay} {e : En} {tm : TM} {H : QH} {F : FW} {op : Op} {f : Nat → Ev → FW → Option (Value × FW)} {k : V → QH → Bool} (hc : compA P op = .write f) (he : ER lv L e tm) (hr : HR R G H F) (hR : R ≤ F.next) (h : (writeQ P L op).f e H k = true) :
    ∃ r v H' F', f R (ev lv tm) F = some (v, F') ∧ VQ r v ∧ HR R G H' F' ∧ F.next ≤ F'.next ∧ k r H' = true := by
  have upd : ∀ {t : TypeId} {m key x : Operand}, (updC P t).f ((rd L m).g e) ((rd L key).g e) ((rd L x).g e) H (fun H' => k .bot H') = true →
      ∃ r v H' F', unit1 (mapUpdateA P R t (ev lv tm m) (ev lv tm key) (ev lv tm x) F) = some (v, F') ∧ VQ r v ∧ HR R G H' F' ∧ F.next ≤ F'.next ∧ k r H' = true := by
    intro t m key x h
    obtain ⟨H', F', h1, h2, h3, h4⟩ := updC_spec hr (rd_spec he m) (rd_spec he key) (rd_spec he x) h
    exact ⟨.bot, undef, H', F', by rw [h1]; rfl, .inl rfl, h2, by omega, h4⟩
  cases op with
  | store t a x =>
    cases hc
    unfold writeQ at h
    simp only at h
    cases hi : (P.info? t).isSome with
    | false => rw [hi] at h; cases h
    | true =>
      rw [hi, cond_true] at h
      obtain ⟨H', F', h1, h2, h3⟩ := storeC_spec hr (rd_spec he a) (rd_spec he x) hi h
      refine ⟨.bot, undef, H', F', ?_, .inl rfl, h2, by rw [storeA_next h1]; exact Nat.le_refl _, h3⟩
      show unit1 (storeA P R t (ev lv tm a) (ev lv tm x) F) = _
      rw [h1]; rfl
  | convert s d x =>
    simp only [compA] at hc
    cases hb : isBytesC P s d with
    | false => rw [hb] at hc; cases hc
    | true =>
      rw [hb] at hc
      simp only [cond_true, AI.write.injEq] at hc
      subst hc
      unfold writeQ at h
      simp only at h
      split at h
      · rename_i el hd
        cases h1 : Nat.beq (P.cellsOf el) 1 with
        | false => rw [h1] at h; cases h
        | true =>
          rw [h1, cond_true] at h
          rcases isq_spec h with h | h
          · obtain ⟨w, q1, q2, h⟩ := toSt_spec h
            rcases toTx_spec h with ⟨w2, q3, h⟩ | h
            · obtain ⟨tl, q4, h⟩ := txV_spec h
              obtain ⟨r, H', F', g1, g2, g3, g4, g5⟩ := appNew_spec hr hR h
              obtain ⟨g6, g7⟩ := some_of_cond g2
              simp only [Bool.and_eq_true, Nat.mul_one] at g6
              have hle := Nat.le_of_ble_eq_true g6.1
              have hv := (rd_spec he x).eq q2
              rw [q1] at hv
              refine ⟨r, dec r, H', F', ?_, .inr rfl, g3, by omega, g5⟩
              show bytesA P d (ev lv tm x) F = _
              rw [hv]
              unfold bytesA
              rw [hd]
              rw [q4] at g7
              have hb2 : Nat.ble (lenT w2) 281474976710656 = true := Nat.ble_eq_true_of_le (by omega)
              simp only [q3, lenT_spec, hb2, h1, Bool.and_self, cond_true]
              exact g7
            · cases h
          obtain ⟨l, n, hx, h⟩ := asS_spec h
          rw [strK_eq] at h
          obtain ⟨r, H', F', g1, g2, g3, g4, g5⟩ := appNew_spec hr hR h
          obtain ⟨g6, g7⟩ := some_of_cond g2
          simp only [Bool.and_eq_true, Nat.mul_one] at g6
          have hle := Nat.le_of_ble_eq_true g6.1
          have hv := (rd_spec he x).eq (by rw [hx]; simp)
          rw [hx, dec_s] at hv
          refine ⟨r, dec r, H', F', ?_, .inr rfl, g3, by omega, g5⟩
          show bytesA P d (ev lv tm x) F = _
          rw [hv]
          unfold bytesA
          rw [hd]
          have hl : (bytesN l n).length = l := bytesN_length _ _
          rw [strV_dec] at g7
          have hb2 : Nat.ble l 281474976710656 = true := Nat.ble_eq_true_of_le (by omega)
          simp only [hl, hb2, h1, Bool.and_self, cond_true]
          exact g7
      · cases h
  | mapUpdate t m key x => cases hc; exact upd h
  | insert t m key x => cases hc; exact upd h
  | next it s =>
    cases hc
    cases s with
    | false => cases h
    | true => exact nextC_spec (x := .nil) hr (rd_spec he it) h
  | call c =>
    obtain ⟨callee, args, tys⟩ := c
    cases callee with
    | builtin b =>
      cases b with
      | copy =>
        cases hc
        unfold writeQ at h
        simp only at h
        split at h
        · rename_i s x t ts ha ht
          obtain ⟨r, v, H', F', h1, h2, h3, h4, h5⟩ := copC_spec hr (rd_spec he s) (rd_spec he x) h
          refine ⟨r, v, H', F', ?_, h2, h3, h4, h5⟩
          unfold callWriteA
          simp only [ha, ht]
          exact h1
        · cases h
      | append =>
        cases hc
        unfold writeQ at h
        simp only at h
        split at h
        · rename_i s x t t' ts ha ht
          obtain ⟨r, v, H', F', h1, h2, h3, h4, h5⟩ := appC_spec hr hR (rd_spec he s) (rd_spec he x) h
          refine ⟨r, v, H', F', ?_, h2, h3, h4, h5⟩
          unfold callWriteA
          simp only [ha, ht]
          exact h1
        · cases h
      | _ => first | (cases hc; done) | cases h
    | _ => first | (cases hc; done) | cases h
  | _ => first | (cases hc; done) | cases h

/-! Calls. -/

/-- Arguments, in order. -/
def argsQ (L : Lay) (xs : List Operand) : En → En → (En → Bool) → Bool :=
  List.rec (motive := fun _ => En → En → (En → Bool) → Bool) (fun _ tl k => k tl) (fun x _ ih e tl k => ih e tl fun t => k (.cons ((rd L x).g e) t)) xs

/-- A list's things, in order. -/
def capQ (l : V) : En → (En → Bool) → Bool := V.rec (motive := fun _ => En → (En → Bool) → Bool) (fun _ _ => false) (fun _ _ _ => false) (fun _ _ _ => false) (fun _ _ _ _ => false) (fun _ _ _ => false) (fun _ _ _ _ => false) (fun _ _ _ _ => false) (fun _ _ _ _ _ _ => false) (fun _ _ _ => false) (fun _ _ _ => false) (fun _ _ _ _ _ _ _ => false) (fun _ _ _ _ _ => false) (fun tl k => k tl) (fun h _ _ ih tl k => ih tl fun t => k (.cons h t)) (fun _ _ _ _ => false) (fun _ _ => (fun _ _ => false)) l

/-- What arguments say. -/
def AR : En → List Value → Prop
  | .nil, [] => True
  | .cons x t, v :: r => VQ x v ∧ AR t r
  | _, _ => False

theorem argsQ_spec {lv : Nat → Bool} {L : Lay} {e : En} {tm : TM} (he : ER lv L e tm) : ∀ {xs : List Operand} {tl : En} {vs : List Value} {k : En → Bool}, AR tl vs → argsQ L xs e tl k = true → ∃ a, AR a (xs.map (ev lv tm) ++ vs) ∧ k a = true
  | [], tl, vs, k, ht, h => ⟨tl, ht, h⟩
  | x :: xs, tl, vs, k, ht, h => by
    obtain ⟨a, h1, h2⟩ := argsQ_spec he (xs := xs) (k := fun t => k (.cons ((rd L x).g e) t)) ht h
    exact ⟨.cons ((rd L x).g e) a, ⟨rd_spec he x, h1⟩, h2⟩

theorem capQ_spec : ∀ {l : V} {tl : En} {vs : List Value} {k : En → Bool}, AR tl vs → capQ l tl k = true → ∃ a, AR a (decL l ++ vs) ∧ k a = true
  | .nil, tl, vs, k, ht, h => ⟨tl, ht, h⟩
  | .cons a b, tl, vs, k, ht, h => by
    obtain ⟨t, h1, h2⟩ := capQ_spec (l := b) (k := fun t => k (.cons a t)) ht h
    exact ⟨.cons a t, ⟨.inr rfl, h1⟩, h2⟩
  | .bot, _, _, _, _, h => by cases h
  | .i _, _, _, _, _, h => by cases h
  | .y _, _, _, _, _, h => by cases h
  | .z _ _, _, _, _, _, h => by cases h
  | .b _, _, _, _, _, h => by cases h
  | .p _ _, _, _, _, _, h => by cases h
  | .s _ _, _, _, _, _, h => by cases h
  | .l _ _ _ _, _, _, _, _, h => by cases h
  | .n _, _, _, _, _, h => by cases h
  | .m _, _, _, _, _, h => by cases h
  | .f _ _ _, _, _, _, _, h => by cases h
  | .e _ _, _, _, _, _, h => by cases h
  | .t _, _, _, _, _, h => by cases h

structure Cq1 where
  f : Kall → En → QH → (V → QH → Bool) → Bool
def Cq1.bad : Cq1 := ⟨fun _ _ _ _ => false⟩

def callQ (P : Program) (L : Lay) (c : Call) : Cq1 :=
  match c.callee with
  | .value x => ⟨fun call e H k => asF ((rd L x).g e) fun g a b => capQ b .nil fun tl => argsQ L c.args.toList e tl fun tl => capQ a tl fun en => call g en H k⟩
  | .invoke x name => ⟨fun call e H k => asE ((rd L x).g e) false fun t v => Option.rec (motive := fun _ => Bool) false (fun g => argsQ L c.args.toList e .nil fun tl => call g (.cons v tl) H k) (methodA P t name)⟩
  | _ => .bad

/-- What calls owe. -/
def CallOk (R : Nat) (call : CallF) (q : Kall) : Prop :=
  ∀ (G : N5 QO) g en vs H F k, AR en vs → HR R G H F → R ≤ F.next → q g en H k = true → ∃ r v H' F', call g vs F = some (v, F') ∧ VQ r v ∧ HR R G H' F' ∧ F.next ≤ F'.next ∧ k r H' = true

theorem callQ_spec {R : Nat} {G : N5 QO} {P : Program} {lv : Nat → Bool} {L : Lay} {e : En} {tm : TM} {H : QH} {F : FW} {c : Call} {call : CallF} {q : Kall} {k : V → QH → Bool} (hq : CallOk R call q) (he : ER lv L e tm) (hr : HR R G H F) (hR : R ≤ F.next) (h : (callQ P L c).f q e H k = true) :
    ∃ g vs r v H' F', calleeA P (ev lv tm) c = some (g, vs) ∧ call g vs F = some (v, F') ∧ VQ r v ∧ HR R G H' F' ∧ F.next ≤ F'.next ∧ k r H' = true := by
  unfold callQ at h
  split at h
  · rename_i x hcal
    obtain ⟨g, a, b, hx, h⟩ := asF_spec h
    obtain ⟨t1, a1, h⟩ := capQ_spec (tl := .nil) (vs := []) trivial h
    obtain ⟨t2, a2, h⟩ := argsQ_spec he a1 h
    obtain ⟨t3, a3, h⟩ := capQ_spec a2 h
    obtain ⟨r, v, H', F', h1, h2, h3, h4, h5⟩ := hq _ _ _ _ _ _ _ a3 hr hR h
    refine ⟨g, _, r, v, H', F', ?_, h1, h2, h3, h4, h5⟩
    have := (rd_spec he x).eq (by rw [hx]; simp)
    rw [hx] at this
    unfold calleeA
    simp only [hcal, this, List.append_nil]
    rfl
  · rename_i x name hcal
    rcases asE_spec h with ⟨_, h⟩ | ⟨t, v0, hx, h⟩
    · cases h
    · cases hm : methodA P t name with
      | none => rw [hm] at h; cases h
      | some g =>
        rw [hm] at h
        obtain ⟨t2, a2, h⟩ := argsQ_spec he (tl := .nil) (vs := []) trivial (k := fun tl => q g (.cons v0 tl) H k) h
        obtain ⟨r, v, H', F', h1, h2, h3, h4, h5⟩ := hq G g (.cons v0 t2) (dec v0 :: (c.args.toList.map (ev lv tm) ++ [])) _ _ _ ⟨.inr rfl, a2⟩ hr hR h
        refine ⟨g, _, r, v, H', F', ?_, h1, h2, h3, h4, h5⟩
        have := (rd_spec he x).eq (by rw [hx]; simp)
        rw [hx] at this
        have this' : ev lv tm x = .iface t (dec v0) := this
        unfold calleeA
        simp only [hcal, this', hm, List.append_nil]
  · cases h

end
end Go.Qm
