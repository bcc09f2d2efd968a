/- Regions whose order is open: what only looks may be taken first. No conditions. -/
import Derived.Test.YthmkdcclmaoonaaDoorA13
set_option linter.unusedVariables false
set_option linter.unusedSimpArgs false
namespace Go.Am
open Go.RowKit

section
variable {P : Program} {ops : Array Oper} {md : Region.Mode} {cls : Nat → Nat}

/-- Operation i comes up, and writes to nothing that there is; behind it there may be more blocks. -/
def xOp0 (P : Program) (ops : Array Oper) (i : Nat) (K : Act → World → Prop) (a : Act) (w : World) : Prop :=
  match ops[i]? with
  | none => ∀ w', Up w w' → K a w'
  | some o => if Region.wanted o (yielded ops a.tmps) then xop P o a w fun v w' => Up w w' ∧ ∀ w'', Up w' w'' → K (a.put o.dst v) w''
      else ∀ w', Up w w' → K (a.put o.dst undef) w'

/-- Operation i, by its class: 0: it looks at slots alone; 1: it writes to nothing that there is; else: any. -/
def xOp (P : Program) (ops : Array Oper) (c : Nat) (Q : Exit → Act → World → Prop) (i : Nat) (K : Act → World → Prop) (a : Act) (w : World) : Prop :=
  match c with
  | 0 => ∃ o v, ops[i]? = some o ∧ Yields P ops o v a ∧ K (a.put o.dst v) w
  | 1 => xOp0 P ops i K a w
  | _ => wpOp P ops Q i K a w

def xAny (P : Program) (md : Region.Mode) (ops : Array Oper) (cls : Nat → Nat) (Q : Exit → Act → World → Prop) : Nat → Array Bool → Act → World → Prop
  | 0, listed, a, w => Region.ready md ops listed = [] ∧ Q .normal a w
  | fuel + 1, listed, a, w =>
    (Region.ready md ops listed = [] → Q .normal a w) ∧
    ∀ i ∈ Region.ready md ops listed, xOp P ops (cls i) Q i (xAny P md ops cls Q fuel (listed.setIfInBounds i true)) a w

theorem wpOp_of_x0 {Q : Exit → Act → World → Prop} {i : Nat} {K K' : Act → World → Prop} {a : Act} {w : World} (h : ∀ a w, K a w → K' a w) (hx : xOp0 P ops i K a w) : wpOp P ops Q i K' a w := by
  unfold xOp0 at hx
  unfold wpOp
  split
  · rename_i ho; simp only [ho] at hx; exact h _ _ (hx w (Up.refl w))
  · rename_i o ho
    simp only [ho] at hx
    split
    · rename_i hw
      simp only [hw, if_true] at hx
      left
      unfold xop at hx
      unfold Oper.wp
      generalize (execOp a.eval o).run P w = r at *
      cases r with
      | ok n w' =>
        cases n <;> simp only [xupon] at hx <;> simp only [Oper.upon]
        case value v => exact h _ _ (hx.2 w' (Up.refl _))
        case skip => exact h _ _ (hx.2 w' (Up.refl _))
        case enter f args =>
          refine hx.mono fun e w'' ⟨v, he, hk⟩ => ?_
          subst he
          exact h _ _ (hk.2 w'' (Up.refl _))
      | halt x w' => simp only [xupon] at hx
    · rename_i hw; simp only [hw] at hx; exact h _ _ (hx w (Up.refl w))

theorem wpOp_of_xop {Q : Exit → Act → World → Prop} {i : Nat} {o : Oper} {K : Act → World → Prop} {a : Act} {w : World} (ho : ops[i]? = some o)
    (h : (Region.wanted o (yielded ops a.tmps) = true ∧ xop P o a w fun u w' => K (a.put o.dst u) w') ∨ (Region.wanted o (yielded ops a.tmps) = false ∧ K (a.put o.dst undef) w)) : wpOp P ops Q i K a w := by
  unfold wpOp
  simp only [ho]
  rcases h with ⟨hw, hx⟩ | ⟨hw, hk⟩
  · rw [if_pos hw]
    left
    unfold xop at hx
    unfold Oper.wp
    generalize (execOp a.eval o).run P w = r at *
    cases r with
    | ok n w' =>
      cases n <;> simp only [xupon] at hx <;> simp only [Oper.upon]
      case value v => exact hx
      case skip => exact hx
      case enter f args =>
        refine hx.mono fun e w'' ⟨v, he, hk⟩ => ?_
        subst he
        exact hk
    | halt x w' => simp only [xupon] at hx
  · rw [if_neg (by rw [hw]; simp)]
    exact hk

theorem wpOp_of_x {Q : Exit → Act → World → Prop} {c i : Nat} {K K' : Act → World → Prop} {a : Act} {w : World} (h : ∀ a w, K a w → K' a w) (hx : xOp P ops c Q i K a w) : wpOp P ops Q i K' a w := by
  unfold xOp at hx
  split at hx
  · obtain ⟨o, v, ho, hy, hk⟩ := hx
    exact hy.wpOp ho (h _ _ hk)
  · exact wpOp_of_x0 h hx
  · exact wpOp_mono h hx

theorem wpAny_of_x {Q : Exit → Act → World → Prop} : ∀ (fuel : Nat) (listed : Array Bool) (a : Act) (w : World),
    xAny P md ops cls Q fuel listed a w → wpAny P md ops Q fuel listed a w
  | 0, _, _, _, h => ⟨h.1, h.2⟩
  | fuel + 1, _, _, _, h => ⟨fun h0 => h.1 h0, fun i hi => wpOp_of_x (fun a' w' h' => wpAny_of_x fuel _ a' w' h') (h.2 i hi)⟩

/-- In whatever world with more blocks, this operation yields this value, and leaves what there is. -/
def YQ (P : Program) (ops : Array Oper) (o : Oper) (v : Value) (a : Act) (w : World) : Prop :=
  (Region.wanted o (yielded ops a.tmps) = true ∧ ∀ w2, Up w w2 → xop P o a w2 fun u w3 => u = v ∧ Up w2 w3) ∨
  (Region.wanted o (yielded ops a.tmps) = false ∧ v = undef)

theorem YQ.up {o : Oper} {v : Value} {a : Act} {w w' : World} (h : YQ P ops o v a w) (hw : Up w w') : YQ P ops o v a w' := by
  rcases h with ⟨h1, h2⟩ | h
  · exact .inl ⟨h1, fun w2 h => h2 w2 (hw.trans h)⟩
  · exact .inr h

theorem YQ.of_same {o : Oper} {v : Value} {a a' : Act} {w : World} (hy : YQ P ops o v a w) (he : execOp a'.eval o = execOp a.eval o)
    (hw : Region.wanted o (yielded ops a'.tmps) = Region.wanted o (yielded ops a.tmps)) : YQ P ops o v a' w := by
  unfold YQ xop at *
  rw [he, hw]
  exact hy

theorem Yields.one {o : Oper} {v u : Value} {a : Act} (w : World) (h : Yields P ops o v a) (k : Yields P ops o u a) : u = v := by
  rcases h with ⟨h1, h2⟩ | ⟨h1, rfl⟩ <;> rcases k with ⟨k1, k2⟩ | ⟨k1, rfl⟩
  · have := (h2 w).symm.trans (k2 w)
    simp only [Result.ok.injEq, Next.value.injEq] at this
    exact this.1.symm
  · rw [h1] at k1; cases k1
  · rw [h1] at k1; cases k1
  · rfl

/-- The operation oj, that does not hang on oi, before oi instead of behind it. -/
theorem xOp_put {j : Nat} {oi oj : Oper} {v : Value} (hj : ops[j]? = some oj) (hap : oi.apart ops oj = true)
    (hsj : ∀ cs b, oj.op ≠ .select cs b) {K : Act → World → Prop} {a : Act} {w : World}
    (h : xOp0 P ops j K (a.put oi.dst v) w) : xOp0 P ops j (fun a' w' => Up w w' ∧ (∃ u, a' = a.put oj.dst u) ∧ K (a'.put oi.dst v) w') a w := by
  obtain ⟨h1, h2, _⟩ := Oper.apart_spec hap
  unfold xOp0 at *
  simp only [hj] at *
  rw [wanted_put oj a oi.dst v h1] at h
  split
  · rename_i hw
    simp only [hw, if_true] at h
    unfold xop at *
    rw [execOp_put oj hsj a oi.dst v h1] at h
    generalize (execOp a.eval oj).run P w = r at *
    have hh : ∀ u w', (Up w w' ∧ ∀ w'', Up w' w'' → K ((a.put oi.dst v).put oj.dst u) w'') →
        Up w w' ∧ ∀ w'', Up w' w'' → Up w w'' ∧ (∃ u', a.put oj.dst u = a.put oj.dst u') ∧ K ((a.put oj.dst u).put oi.dst v) w'' := by
      intro u w' ⟨g1, g2⟩
      exact ⟨g1, fun w'' hw'' => ⟨g1.trans hw'', ⟨u, rfl⟩, by rw [← Act.put_comm a v u h2]; exact g2 w'' hw''⟩⟩
    cases r with
    | ok n w' =>
      cases n <;> simp only [xupon] at h ⊢
      case value u => exact hh u w' h
      case skip => exact hh undef w' h
      case enter f args => exact h.mono fun e w'' ⟨u, he, hk⟩ => ⟨u, he, hh u w'' hk⟩
    | halt x w' => simp only [xupon] at h
  · rename_i hw
    simp only [hw] at h
    exact fun w' hw' => ⟨hw', ⟨undef, rfl⟩, by rw [← Act.put_comm a v undef h2]; exact h w' hw'⟩

/-- One of class 0, before oi instead of behind it. -/
theorem yields_put {oi oj : Oper} {u v : Value} (hap : oi.apart ops oj = true) (hsj : ∀ cs b, oj.op ≠ .select cs b) {K : Act → World → Prop} {a : Act} {w : World}
    (hy : Yields P ops oj u (a.put oi.dst v)) (hk : K ((a.put oi.dst v).put oj.dst u) w) : Yields P ops oj u a ∧ K ((a.put oj.dst u).put oi.dst v) w := by
  obtain ⟨h1, h2, _⟩ := Oper.apart_spec hap
  exact ⟨hy.of_same (execOp_put oj hsj a oi.dst v h1).symm (wanted_put oj a oi.dst v h1).symm, by rw [← Act.put_comm a v u h2]; exact hk⟩

/-- What xOp0 gives, in each world with more blocks. -/
theorem x0_step {j : Nat} {oj : Oper} {K K' : Act → World → Prop} {a : Act} {w : World} (hj : ops[j]? = some oj) (h : ∀ u w'', Up w w'' → K (a.put oj.dst u) w'' → K' (a.put oj.dst u) w'')
    (hx : xOp0 P ops j K a w) : xOp0 P ops j K' a w := by
  unfold xOp0 at *
  simp only [hj] at *
  split
  · rename_i hw
    simp only [hw, if_true] at hx
    exact xop_mono (fun u w' ⟨g1, g2⟩ => ⟨g1, fun w'' hw'' => h u w'' (g1.trans hw'') (g2 w'' hw'')⟩) hx
  · rename_i hw
    simp only [hw] at hx
    exact fun w' hw' => h undef w' hw' (hx w' hw')

theorem not_after {i : Nat} {oj : Oper} {listed : Array Bool} (hall : ∀ e ∈ oj.after, Region.binds md e = true → listed.getD e.on false = true) (hr : i ∈ Region.ready md ops listed) :
    ∀ e ∈ oj.after, Region.binds md e = true → e.on ≠ i := fun e he hb heq => by
  have h1 := hall e he hb
  have h0 := (mem_ready.1 hr).1
  rw [heq] at h1
  rcases Nat.lt_or_ge i listed.size with h' | h'
  · simp [h'] at h0 h1; rw [h0] at h1; cases h1
  · simp [Array.getElem?_eq_none h'] at h1

/-- One that looks at slots alone may be taken first, if each other one that is still to come waits for it or is apart from it. -/
theorem xAny_first0 {Q : Exit → Act → World → Prop} (hQ : ∀ c a w, ¬ Q (.panic c) a w) {i : Nat} {oi : Oper} {v : Value} (hi : ops[i]? = some oi) (hsel : ∀ (j : Nat) (o : Oper) cs b, ops[j]? = some o → o.op ≠ .select cs b) (hc : cls i = 0) :
    ∀ (fuel : Nat) (listed : Array Bool) (a : Act) (w : World),
      (∀ j oj, ops[j]? = some oj → j ≠ i → listed.getD j true = false → (∀ e ∈ oj.after, Region.binds md e = true → e.on ≠ i) → oi.apart ops oj = true) →
      i ∈ Region.ready md ops listed → Yields P ops oi v a →
      xAny P md ops cls Q fuel (listed.setIfInBounds i true) (a.put oi.dst v) w → xAny P md ops cls Q (fuel + 1) listed a w := by
  intro fuel
  have self : ∀ (fuel : Nat) (listed : Array Bool) (a : Act) (w : World), Yields P ops oi v a → xAny P md ops cls Q fuel (listed.setIfInBounds i true) (a.put oi.dst v) w →
      xOp P ops (cls i) Q i (xAny P md ops cls Q fuel (listed.setIfInBounds i true)) a w := by
    intro fuel listed a w hy H
    rw [hc]
    exact ⟨oi, v, hi, hy, H⟩
  induction fuel with
  | zero =>
    intro listed a w _ hr hy H
    refine ⟨fun h => (by rw [h] at hr; cases hr), fun j hj => ?_⟩
    by_cases hji : j = i
    · subst hji; exact self _ _ _ _ hy H
    · have := ready_mono hj hji
      rw [H.1] at this
      cases this
  | succ fuel ih =>
    intro listed a w hfree hr hy H
    refine ⟨fun h => (by rw [h] at hr; cases hr), fun j hj => ?_⟩
    by_cases hji : j = i
    · subst hji; exact self _ _ _ _ hy H
    · have h1 := H.2 j (ready_mono hj hji)
      obtain ⟨hjun, oj, hoj, hall⟩ := mem_ready.1 hj
      have hap := hfree j oj hoj hji hjun (not_after hall hr)
      have hfree' : ∀ k ok, ops[k]? = some ok → k ≠ i → (listed.setIfInBounds j true).getD k true = false →
          (∀ e ∈ ok.after, Region.binds md e = true → e.on ≠ i) → oi.apart ops ok = true := fun k ok hk hki hun hno => by
        refine hfree k ok hk hki ?_ hno
        by_cases hjk : j = k
        · subst hjk; exact hjun
        · rw [getD_set_ne true hjk] at hun; exact hun
      obtain ⟨_, _, h3⟩ := Oper.apart_spec hap
      have go : ∀ a' w', Yields P ops oi v a' → xAny P md ops cls Q fuel ((listed.setIfInBounds i true).setIfInBounds j true) (a'.put oi.dst v) w' →
          xAny P md ops cls Q (fuel + 1) (listed.setIfInBounds j true) a' w' := by
        intro a' w' hy' hk
        refine ih (listed.setIfInBounds j true) _ w' hfree' (ready_mono hr (Ne.symm hji)) hy' ?_
        rw [Array.setIfInBounds_comm _ _ hji]
        exact hk
      have keep : ∀ u, Yields P ops oi v (a.put oj.dst u) := fun u =>
        hy.of_same (execOp_put oi (fun cs b => hsel i oi cs b hi) a oj.dst u h3) (wanted_put oi a oj.dst u h3)
      unfold xOp at h1 ⊢
      split at h1
      · obtain ⟨o', u, ho', hyj, hk⟩ := h1
        rw [hoj] at ho'
        simp only [Option.some.injEq] at ho'
        subst ho'
        obtain ⟨y1, k1⟩ := yields_put (K := xAny P md ops cls Q fuel ((listed.setIfInBounds i true).setIfInBounds j true)) hap (fun cs b => hsel j oj cs b hoj) hyj hk
        exact ⟨oj, u, hoj, y1, go _ _ (keep u) k1⟩
      · have h2 := xOp_put hoj hap (fun cs b => hsel j oj cs b hoj) h1
        exact x0_step hoj (fun u w'' _ ⟨_, _, hk⟩ => go _ _ (keep u) hk) h2
      · have h2 := wpOp_put hoj hap (fun cs b => hsel i oi cs b hi) (fun cs b => hsel j oj cs b hoj) (fun c a w h => absurd h (hQ c _ w)) hy h1
        exact wpOp_mono (fun a' w' ⟨hy', hk⟩ => go a' w' hy' hk) h2

/-- One that only looks may be taken first, if each other one that is still to come waits for it, or is apart from it and writes nothing. -/
theorem xAny_first1 {Q : Exit → Act → World → Prop} {i : Nat} {oi : Oper} {v : Value} (hi : ops[i]? = some oi) (hsel : ∀ (j : Nat) (o : Oper) cs b, ops[j]? = some o → o.op ≠ .select cs b) (hc : cls i = 1) :
    ∀ (fuel : Nat) (listed : Array Bool) (a : Act) (w : World),
      (∀ j oj, ops[j]? = some oj → j ≠ i → listed.getD j true = false → (∀ e ∈ oj.after, Region.binds md e = true → e.on ≠ i) → oi.apart ops oj = true ∧ cls j < 2) →
      i ∈ Region.ready md ops listed → YQ P ops oi v a w →
      (∀ w', Up w w' → xAny P md ops cls Q fuel (listed.setIfInBounds i true) (a.put oi.dst v) w') → xAny P md ops cls Q (fuel + 1) listed a w := by
  intro fuel
  have self : ∀ (fuel : Nat) (listed : Array Bool) (a : Act) (w : World), YQ P ops oi v a w → (∀ w', Up w w' → xAny P md ops cls Q fuel (listed.setIfInBounds i true) (a.put oi.dst v) w') →
      xOp P ops (cls i) Q i (xAny P md ops cls Q fuel (listed.setIfInBounds i true)) a w := by
    intro fuel listed a w hy H
    rw [hc]
    show xOp0 P ops i _ a w
    unfold xOp0
    simp only [hi]
    rcases hy with ⟨hw, hv⟩ | ⟨hw, rfl⟩
    · simp only [hw, if_true]
      refine xop_mono (fun u w' ⟨e, hu⟩ => ?_) (hv w (Up.refl w))
      subst e
      exact ⟨hu, fun w'' hw'' => H w'' (hu.trans hw'')⟩
    · simp only [hw, Bool.false_eq_true, if_false]
      exact H
  induction fuel with
  | zero =>
    intro listed a w _ hr hy H
    refine ⟨fun h => (by rw [h] at hr; cases hr), fun j hj => ?_⟩
    by_cases hji : j = i
    · subst hji; exact self _ _ _ _ hy H
    · have := ready_mono hj hji
      rw [(H w (Up.refl w)).1] at this
      cases this
  | succ fuel ih =>
    intro listed a w hfree hr hy H
    refine ⟨fun h => (by rw [h] at hr; cases hr), fun j hj => ?_⟩
    by_cases hji : j = i
    · subst hji; exact self _ _ _ _ hy H
    · obtain ⟨hjun, oj, hoj, hall⟩ := mem_ready.1 hj
      obtain ⟨hap, hcj⟩ := hfree j oj hoj hji hjun (not_after hall hr)
      have hfree' : ∀ k ok, ops[k]? = some ok → k ≠ i → (listed.setIfInBounds j true).getD k true = false →
          (∀ e ∈ ok.after, Region.binds md e = true → e.on ≠ i) → oi.apart ops ok = true ∧ cls k < 2 := fun k ok hk hki hun hno => by
        refine hfree k ok hk hki ?_ hno
        by_cases hjk : j = k
        · subst hjk; exact hjun
        · rw [getD_set_ne true hjk] at hun; exact hun
      obtain ⟨_, _, h3⟩ := Oper.apart_spec hap
      have go : ∀ u w', Up w w' → (∀ w'', Up w' w'' → xAny P md ops cls Q fuel ((listed.setIfInBounds i true).setIfInBounds j true) ((a.put oj.dst u).put oi.dst v) w'') →
          xAny P md ops cls Q (fuel + 1) (listed.setIfInBounds j true) (a.put oj.dst u) w' := by
        intro u w' hw' hk
        refine ih (listed.setIfInBounds j true) _ w' hfree' (ready_mono hr (Ne.symm hji)) ((hy.up hw').of_same (execOp_put oi (fun cs b => hsel i oi cs b hi) a oj.dst u h3) (wanted_put oi a oj.dst u h3)) ?_
        rw [Array.setIfInBounds_comm _ _ hji]
        exact hk
      have h1 := fun w' hw' => (H w' hw').2 j (ready_mono hj hji)
      have hcases : cls j = 0 ∨ cls j = 1 := by omega
      rcases hcases with h0 | h0
      · rw [h0] at h1 ⊢
        obtain ⟨o', u, ho', hyj, _⟩ := h1 w (Up.refl w)
        rw [hoj] at ho'
        simp only [Option.some.injEq] at ho'
        subst ho'
        have hall' : ∀ w', Up w w' → Yields P ops oj u a ∧ xAny P md ops cls Q fuel ((listed.setIfInBounds i true).setIfInBounds j true) ((a.put oj.dst u).put oi.dst v) w' := by
          intro w' hw'
          obtain ⟨o2, u2, ho2, hy2, hk2⟩ := h1 w' hw'
          rw [hoj] at ho2
          simp only [Option.some.injEq] at ho2
          subst ho2
          have := Yields.one w hyj hy2
          subst this
          exact yields_put (K := xAny P md ops cls Q fuel ((listed.setIfInBounds i true).setIfInBounds j true)) hap (fun cs b => hsel j oj cs b hoj) hy2 hk2
        exact ⟨oj, u, hoj, (hall' w (Up.refl w)).1, go u w (Up.refl w) fun w'' hw'' => (hall' w'' hw'').2⟩
      · rw [h0] at h1 ⊢
        have h2 := xOp_put hoj hap (fun cs b => hsel j oj cs b hoj) (h1 w (Up.refl w))
        -- behind j, in each world with more blocks
        have h4 : xOp0 P ops j (fun a' w' => ∀ w'', Up w' w'' → ∃ u, a' = a.put oj.dst u ∧ xAny P md ops cls Q fuel ((listed.setIfInBounds i true).setIfInBounds j true) ((a.put oj.dst u).put oi.dst v) w'') a w := by
          unfold xOp0 at h2 ⊢
          simp only [hoj] at h2 ⊢
          have fin : ∀ u w'', (∀ w3, Up w'' w3 → (∃ u', a.put oj.dst u = a.put oj.dst u') ∧ xAny P md ops cls Q fuel ((listed.setIfInBounds i true).setIfInBounds j true) ((a.put oj.dst u).put oi.dst v) w3) →
              ∀ w3, Up w'' w3 → ∃ u', a.put oj.dst u = a.put oj.dst u' ∧ xAny P md ops cls Q fuel ((listed.setIfInBounds i true).setIfInBounds j true) ((a.put oj.dst u').put oi.dst v) w3 :=
            fun u w'' hk w3 hw3 => ⟨u, rfl, (hk w3 hw3).2⟩
          split
          · rename_i hw
            simp only [hw, if_true] at h2
            exact xop_mono (fun u w' ⟨g1, g2⟩ => ⟨g1, fun w'' hw'' => fin u w'' fun w3 hw3 => (g2 w3 (hw''.trans hw3)).2⟩) h2
          · rename_i hw
            simp only [hw] at h2
            exact fun w' hw' => fin undef w' fun w3 hw3 => (h2 w3 (hw'.trans hw3)).2
        refine x0_step hoj (fun u w'' hw'' hk => go u w'' hw'' fun w3 hw3 => ?_) h4
        obtain ⟨u', he, hx⟩ := hk w3 hw3
        rw [he]
        exact hx

end
end Go.Am
