/- The quick machine's operations one behind the other. No conditions. -/
import Derived.Test.YthmkdcclmaoonaaDoorQ11
set_option linter.unusedVariables false
set_option linter.unusedSimpArgs false
set_option linter.unusedSectionVars false
set_option linter.constructorNameAsVariable false
namespace Go.Qm
open Go.Am
noncomputable section
variable [Rho]

/-- Slots have numbers that may be. -/
def TmOk (tm : TM) : Prop := ∀ p ∈ tm.loc, okN p.1 = true

def dstOk (n : Nat) (d : Option Nat) : Bool :=
  match d with
  | none => true
  | some t => Nat.blt t n && okN t

def offL (t : Nat) (L : Lay) : Lay := L.map fun o => match o with
  | some u => bif Nat.beq u t then none else some u
  | none => none

def layPut (L : Lay) (d : Option Nat) : Lay :=
  match d with
  | none => L
  | some t => some t :: offL t L

def putE (d : Option Nat) (v : V) (e : En) : En :=
  match d with
  | none => e
  | some _ => .cons v e

theorem offL_get {t : Nat} {L : Lay} {i u : Nat} (h : (offL t L)[i]? = some (some u)) : L[i]? = some (some u) ∧ u ≠ t := by
  unfold offL at h
  rw [List.getElem?_map] at h
  cases hl : L[i]? with
  | none => rw [hl] at h; cases h
  | some o =>
    rw [hl] at h
    cases o with
    | none => simp at h
    | some w =>
      simp only [Option.map_some, Option.some.injEq] at h
      cases hb : Nat.beq w t with
      | true => rw [hb] at h; cases h
      | false =>
        rw [hb] at h
        simp only [cond_false, Option.some.injEq] at h
        subst h
        exact ⟨rfl, Nat.ne_of_beq_eq_false hb⟩

theorem put_spec {lv : Nat → Bool} {L : Lay} {e : En} {tm : TM} {n : Nat} {d : Option Nat} {x : V} {v : Value} {F : FW} (he : ER lv L e tm) (ht : TmOk tm) (hd : dstOk n d = true) (hv : VQ x v) :
    ∃ tm', finT tm (clampD n d) v F = some (tm', F) ∧ ER lv (layPut L d) (putE d x e) tm' ∧ TmOk tm' := by
  cases d with
  | none => exact ⟨tm, rfl, he, ht⟩
  | some t =>
    simp only [dstOk, Bool.and_eq_true] at hd
    refine ⟨tm.put t v, ?_, ?_, ?_⟩
    · unfold finT clampD putT
      simp only [hd.1, hd.2, cond_true]
    · apply ER.cons
      · intro i u hi
        obtain ⟨h1, h2⟩ := offL_get hi
        rw [put_val, if_neg h2]
        exact he i u h1
      · intro u hu
        simp only [Option.some.injEq] at hu
        subst hu
        rw [put_val, if_pos rfl]
        exact hv
    · intro p hp
      simp only [TM.put, List.mem_cons] at hp
      rcases hp with rfl | hp
      · exact hd.2
      · exact ht p hp

/-- How a new block is laid. -/
abbrev Mk := QO → QH → (Pt → QH → Bool) → Bool

structure Sq where
  f : Kall → Mk → En → QH → (V → QH → Bool) → Bool
def Sq.bad : Sq := ⟨fun _ _ _ _ _ => false⟩

/-- An operation that is wanted; 'mk': where its block lies. -/
def coreQ (P : Program) (L : Lay) (op : Op) : Sq :=
  match compA P op with
  | .look _ => ⟨fun _ _ e H k => (lookQ P L op).f e H k⟩
  | .make _ => ⟨fun _ mk e H k => (makeQ P L op).f e fun ob val => mk ob H fun q H' => k (val q) H'⟩
  | .write _ => ⟨fun _ _ e H k => (writeQ P L op).f e H k⟩
  | .call _ => (match op with
    | .call c => ⟨fun call _ e H k => (callQ P L c).f call e H k⟩
    | _ => .bad)

/-- Nothing was done: no value (a guard that looks at it does not hold). -/
def noneV : V := .t .nil
def gB (x : V) (kn : Bool) (k : Bool → Bool) : Bool := V.rec (motive := fun _ => Bool) false (fun _ => false) (fun _ => false) (fun _ _ => false) k (fun _ _ => false) (fun _ _ => false) (fun _ _ _ _ => false) (fun _ => false) (fun _ => false) (fun _ _ _ _ _ => false) (fun _ _ _ => false) false (fun _ _ _ _ => false) (fun _ _ => kn) (fun _ _ => false) x
theorem gB_spec {x : V} {kn : Bool} {k : Bool → Bool} (h : gB x kn k = true) : (∃ b, x = .b b ∧ k b = true) ∨ (∃ l, x = .t l ∧ kn = true) := by
  cases x <;> first | exact .inl ⟨_, rfl, h⟩ | exact .inr ⟨_, rfl, h⟩ | cases h

/-- A guard's truth, known or not; or nothing was done. -/
def gBF (x : V) (H : QH) (kn : Bool) (k : Bool → QH → Bool) : Bool := isq x (toSb x fun t => forkQ t H k) (gB x kn fun b => k b H)

theorem gBF_spec {R : Nat} {G : N5 QO} {H : QH} {F : FW} {x : V} {v : Value} {kn : Bool} {k : Bool → QH → Bool} (hx : VQ x v) (hr : HR R G H F) (h : gBF x H kn k = true) : (∃ b H', v = .bool b ∧ HR R G H' F ∧ k b H' = true) ∨ (∃ l, v = .tuple l ∧ kn = true) := by
  rcases isq_spec h with h | h
  · obtain ⟨t, h1, h2, h⟩ := toSb_spec h
    obtain ⟨H', h3, h4⟩ := forkQ_spec hr h
    exact .inl ⟨_, H', by rw [hx.eq h2, h1], h3, h4⟩
  · rcases gB_spec h with ⟨b, rfl, h⟩ | ⟨l, rfl, h⟩
    · exact .inl ⟨b, H, hx.eq (by simp), hr, h⟩
    · exact .inr ⟨_, hx.eq (by simp), h⟩

def gdQ (L : Lay) (g : AG) (s : Sq) : Sq :=
  match g with
  | .always => s
  | .never => ⟨fun _ _ _ H k => k noneV H⟩
  | .on t want => ⟨fun call mk e H k => gBF ((rd L (.tmp t)).g e) H (k noneV H) fun b H => Bool.rec (motive := fun _ => Bool) (k noneV H) (s.f call mk e H k) (bif want then b else !b)⟩

/-- What the making of a block owes. -/
def MkOk (R : Nat) (G : N5 QO) (mk : Mk) (id next : Nat) (F : FW) : Prop :=
  ∀ ob o H k, HR R G H F → decO ob = some o → wfO ob → own ob = true → mk ob H k = true → ∃ q H' F', q.num = id ∧ FW.push ⟨F.heap, id⟩ o = some F' ∧ HR R G H' ⟨F'.heap, next⟩ ∧ k q H' = true

theorem gdQ_spec {R : Nat} {G : N5 QO} {P : Program} {lv : Nat → Bool} {L : Lay} {e : En} {tm : TM} {H : QH} {F : FW} {n : Nat} {ops : Array Oper} {o : Oper} {call : CallF} {qc : Kall} {mk : Mk} {id next : Nat} {k : V → QH → Bool}
    (hq : CallOk R call qc) (he : ER lv L e tm) (ht : TmOk tm) (hd : dstOk n o.dst = true) (hr : HR R G H F) (hR : R ≤ F.next) (hmk : MkOk R G mk id next F) (hnext : F.next ≤ next)
    (h : (gdQ L (guardOf ops o) (coreQ P L o.op)).f qc mk e H k = true) :
    ∃ tm' F' H' v, Am.stepG lv R call false (compO P lv n ops o) id next tm F = some (tm', F') ∧ ER lv (layPut L o.dst) (putE o.dst v e) tm' ∧ TmOk tm' ∧ HR R G H' F' ∧ F.next ≤ F'.next ∧ k v H' = true := by
  have core : ∀ {H : QH} (hr : HR R G H F) (h : (coreQ P L o.op).f qc mk e H k = true), ∃ tm' F' H' v,
      (match (compA P o.op).toT lv with
        | .look f => finO tm (clampD n o.dst) (f tm F) F
        | .make f => finM tm (clampD n o.dst) (f tm) F id next
        | .write f => finW tm (clampD n o.dst) (f R tm F)
        | .call f => finC call false tm (clampD n o.dst) (f tm) F) = some (tm', F') ∧ ER lv (layPut L o.dst) (putE o.dst v e) tm' ∧ TmOk tm' ∧ HR R G H' F' ∧ F.next ≤ F'.next ∧ k v H' = true := by
    intro H hr h
    unfold coreQ at h
    cases hc : compA P o.op with
    | look f =>
      rw [hc] at h
      obtain ⟨r, v, H', h1, h2, hr', h3⟩ := lookQ_spec hc he hr h
      obtain ⟨tm', g1, g2, g3⟩ := put_spec (F := F) he ht hd h2
      refine ⟨tm', F, H', r, ?_, g2, g3, hr', Nat.le_refl _, h3⟩
      show finO tm (clampD n o.dst) (f (ev lv tm) F) F = _
      rw [h1]
      exact g1
    | make f =>
      rw [hc] at h
      obtain ⟨ob, val, ao, fv, h1, h2, h3, h4, h5, h⟩ := makeQ_spec hc tm e _ he h
      obtain ⟨q, H', F', e1, e2, e3, h⟩ := hmk ob ao H _ hr h2 h3 h4 h
      have hv := h5 q
      rw [e1] at hv
      obtain ⟨tm', g1, g2, g3⟩ := put_spec (F := ⟨F'.heap, next⟩) he ht hd hv
      refine ⟨tm', ⟨F'.heap, next⟩, H', val q, ?_, g2, g3, e3, hnext, h⟩
      show finM tm (clampD n o.dst) (f (ev lv tm)) F id next = _
      rw [h1]
      unfold finM
      simp only [e2]
      exact g1
    | write f =>
      rw [hc] at h
      obtain ⟨r, v, H', F', h1, h2, h3, h4, h5⟩ := writeQ_spec hc he hr hR h
      obtain ⟨tm', g1, g2, g3⟩ := put_spec (F := F') he ht hd h2
      refine ⟨tm', F', H', r, ?_, g2, g3, h3, h4, h5⟩
      show finW tm (clampD n o.dst) (f R (ev lv tm) F) = _
      rw [h1]
      exact g1
    | call f =>
      rw [hc] at h
      obtain ⟨_, c, hop, hf⟩ := kind_call hc
      rw [hop] at h
      obtain ⟨g, vs, r, v, H', F', h1, h2, h3, h4, h5, h6⟩ := callQ_spec hq he hr hR h
      obtain ⟨tm', g1, g2, g3⟩ := put_spec (F := F') he ht hd h3
      refine ⟨tm', F', H', r, ?_, g2, g3, h4, h5, h6⟩
      show finC call false tm (clampD n o.dst) (f (ev lv tm)) F = _
      rw [hf]
      unfold finC
      simp only [h1, h2, Bool.not_false, Bool.true_or, cond_true]
      exact g1
  have skip : ∀ {H : QH}, HR R G H F → k noneV H = true → ∃ tm' F' H' v, finT tm (clampD n o.dst) undef F = some (tm', F') ∧ ER lv (layPut L o.dst) (putE o.dst v e) tm' ∧ TmOk tm' ∧ HR R G H' F' ∧ F.next ≤ F'.next ∧ k v H' = true := by
    intro H hr h
    obtain ⟨tm', g1, g2, g3⟩ := put_spec (F := F) he ht hd (VQ.mk noneV : VQ noneV undef)
    exact ⟨tm', F, H, noneV, g1, g2, g3, hr, Nat.le_refl _, h⟩
  unfold Am.stepG compO
  simp only
  cases hg : guardOf ops o with
  | always =>
    rw [hg] at h
    obtain ⟨tm', F', H', v, h1, h2⟩ := core hr h
    exact ⟨tm', F', H', v, by simp only [AG.holds, cond_true]; exact h1, h2⟩
  | never =>
    rw [hg] at h
    obtain ⟨tm', F', H', v, h1, h2⟩ := skip hr h
    exact ⟨tm', F', H', v, by simp only [AG.holds, AG.sure, cond_true, cond_false]; exact h1, h2⟩
  | on t want =>
    rw [hg] at h
    rcases gBF_spec (kn := k noneV H) (k := fun b H => Bool.rec (motive := fun _ => Bool) (k noneV H) ((coreQ P L o.op).f qc mk e H k) (bif want then b else !b)) (rd_spec he (.tmp t)) hr h with ⟨b, H1, hv, hr1, h⟩ | ⟨l, hv, h⟩
    case inr =>
      have hv' : TM.val lv tm t = .tuple l := hv
      obtain ⟨tm', F', H', v, h1, h2⟩ := skip hr h
      refine ⟨tm', F', H', v, ?_, h2⟩
      simp only [AG.holds, AG.sure, hv', boolIs, nbot, cond_true, cond_false]
      exact h1
    have hv' : TM.val lv tm t = .bool b := hv
    cases hw : (bif want then b else !b) with
    | true =>
      rw [hw] at h
      obtain ⟨tm', F', H', v, h1, h2⟩ := core hr1 h
      refine ⟨tm', F', H', v, ?_, h2⟩
      simp only [AG.holds, hv', boolIs, hw, cond_true]
      exact h1
    | false =>
      rw [hw] at h
      obtain ⟨tm', F', H', v, h1, h2⟩ := skip hr1 h
      refine ⟨tm', F', H', v, ?_, h2⟩
      simp only [AG.holds, AG.sure, hv', boolIs, hw, nbot, cond_true, cond_false]
      exact h1

/-! A region in order. -/

structure Cq where
  f : Kx → En → QH → Bool
def Cq.bad : Cq := ⟨fun _ _ _ => false⟩

def mkSeq : Mk := fun ob H k => pushQ ob H k

theorem mkSeq_ok {R : Nat} {G : N5 QO} {F : FW} (hR : R ≤ F.next) : MkOk R G mkSeq F.next (F.next + 1) F := by
  intro ob o H k hr hd hw ho h
  obtain ⟨H', F', h1, h2, h3, h4, h5⟩ := hr.push hR hd hw h
  refine ⟨H.x, H', F', h5, h1, ?_, h4⟩
  rw [← h3]
  exact h2

def regQ (P : Program) (n : Nat) (ops : Array Oper) : List Oper → Lay → (Lay → Cq) → Cq
  | [], L, next => next L
  | o :: r, L, next => bif dstOk n o.dst then ⟨fun X e H => (gdQ L (guardOf ops o) (coreQ P L o.op)).f X.call mkSeq e H fun v H' => (regQ P n ops r (layPut L o.dst) next).f X (putE o.dst v e) H'⟩ else .bad

theorem regQ_spec {R : Nat} {G : N5 QO} {P : Program} {lv : Nat → Bool} {n : Nat} {ops : Array Oper} {call : CallF} {X : Kx} (hq : CallOk R call X.call) {next : Lay → Cq} : ∀ {l : List Oper} {L : Lay} {e : En} {tm : TM} {H : QH} {F : FW}, ER lv L e tm → TmOk tm → HR R G H F → R ≤ F.next → (regQ P n ops l L next).f X e H = true →
    ∃ tm' F', opsA lv R call (l.map (compO P lv n ops)) tm F = some (tm', F') ∧ TmOk tm' ∧ F.next ≤ F'.next ∧ ∃ L' e' H', ER lv L' e' tm' ∧ HR R G H' F' ∧ (next L').f X e' H' = true
  | [], L, e, tm, H, F, he, ht, hr, hR, h => ⟨tm, F, rfl, ht, Nat.le_refl _, L, e, H, he, hr, h⟩
  | o :: r, L, e, tm, H, F, he, ht, hr, hR, h => by
    unfold regQ at h
    cases hd : dstOk n o.dst with
    | false => rw [hd] at h; cases h
    | true =>
      rw [hd, cond_true] at h
      obtain ⟨tm1, F1, H1, v, h1, h2, h3, h4, h5, h6⟩ := gdQ_spec hq he ht hd hr hR (mkSeq_ok hR) (Nat.le_succ _) h
      obtain ⟨tm2, F2, g1, g2, g3, g4⟩ := regQ_spec hq h2 h3 h4 (Nat.le_trans hR h5) h6
      refine ⟨tm2, F2, ?_, g2, Nat.le_trans h5 g3, g4⟩
      show (match stepA lv R call (compO P lv n ops o) tm F with
        | some (tm', H') => opsA lv R call (r.map (compO P lv n ops)) tm' H'
        | none => none) = _
      unfold stepA
      rw [h1]
      exact g1

end
end Go.Qm
