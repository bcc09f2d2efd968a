/- Regions, by the store's run. No conditions. -/
import Derived.Test.YteiagnkoagfdaaaGreatDoorA14
namespace Go.Am
open Go.RowKit

/-! What is the same is the same. -/

theorem beqA_eq {a b : Option Addr} (h : beqA a b = true) : a = b := by
  unfold beqA at h
  split at h
  · rfl
  · rename_i a b
    simp only [Bool.and_eq_true] at h
    obtain ⟨h1, h2, h3, h4⟩ := h
    have h1 := Nat.eq_of_beq_eq_true h1
    have h2 := Nat.eq_of_beq_eq_true h2
    cases a; cases b
    simp_all
  · cases h

theorem beqL_eq {f : Value → Value → Bool} (hf : ∀ a b, f a b = true → a = b) : ∀ {l m : List Value}, beqL f l m = true → l = m
  | [], [], _ => rfl
  | a :: l, b :: m, h => by
    simp only [beqL, Bool.and_eq_true] at h
    rw [hf _ _ h.1, beqL_eq hf h.2]
  | [], _ :: _, h => by simp [beqL] at h
  | _ :: _, [], h => by simp [beqL] at h

theorem beqV_eq : ∀ (n : Nat) (v v' : Value), beqV n v v' = true → v = v' := by
  intro n
  induction n with
  | zero =>
    intro v v' h
    unfold beqV at h
    split at h <;> first | cases h | skip
    · simp only [beq_iff_eq] at h; rw [h]
    · simp only [Bool.and_eq_true, decide_eq_true_eq] at h; rw [h.1, h.2]
    · simp only [decide_eq_true_eq] at h
      congr 1
      exact ByteArray.ext (Array.ext' h)
    · rw [beqA_eq h]
    · simp only [Bool.and_eq_true] at h
      rw [beqA_eq h.1, Nat.eq_of_beq_eq_true h.2.1, Nat.eq_of_beq_eq_true h.2.2]
    · rfl
    · rw [Nat.eq_of_beq_eq_true h]
    · rfl
    · rfl
    all_goals omega
  | succ n ih =>
    intro v v' h
    have arr : ∀ {a b : Array Value}, beqL (beqV n) a.toList b.toList = true → a = b := fun h => Array.ext' (beqL_eq ih h)
    unfold beqV at h
    split at h <;> first | cases h | skip
    · simp only [beq_iff_eq] at h; rw [h]
    · simp only [Bool.and_eq_true, decide_eq_true_eq] at h; rw [h.1, h.2]
    · simp only [decide_eq_true_eq] at h
      congr 1
      exact ByteArray.ext (Array.ext' h)
    · rw [beqA_eq h]
    · simp only [Bool.and_eq_true] at h
      rw [beqA_eq h.1, Nat.eq_of_beq_eq_true h.2.1, Nat.eq_of_beq_eq_true h.2.2]
    · rfl
    · rw [Nat.eq_of_beq_eq_true h]
    · rfl
    · rfl
    · rename_i k _ _ _ _ _ _ hk
      cases hk
      simp only [Bool.and_eq_true, decide_eq_true_eq] at h
      rw [h.1, arr h.2.1, arr h.2.2]
    · rename_i k _ _ _ _ hk
      cases hk
      simp only [Bool.and_eq_true] at h
      rw [Nat.eq_of_beq_eq_true h.1, ih _ _ h.2]
    · rename_i k _ _ hk
      cases hk
      rw [arr h]
    · rename_i k _ _ hk
      cases hk
      rw [arr h]

theorem beqE_eq : ∀ {l m : List MapEntry}, beqE l m = true → l = m
  | [], [], _ => rfl
  | a :: l, b :: m, h => by
    simp only [beqE, Bool.and_eq_true] at h
    obtain ⟨h1, h2, h3, h4⟩ := h
    rw [beqE_eq h4]
    have e1 := beqV_eq _ _ _ h1
    have e2 := beqV_eq _ _ _ h2
    have e3 := Nat.eq_of_beq_eq_true h3
    cases a; cases b
    simp_all
  | [], _ :: _, h => by simp [beqE] at h
  | _ :: _, [], h => by simp [beqE] at h

theorem beqO_eq {a b : AObj} (h : beqO a b = true) : a = b := by
  unfold beqO at h
  split at h
  · simp only [Bool.and_eq_true] at h
    rw [beqL_eq (beqV_eq 20) h.1, Nat.eq_of_beq_eq_true h.2]
  · simp only [Bool.and_eq_true] at h
    rw [beqE_eq h.1, Nat.eq_of_beq_eq_true h.2]
  · simp only [Bool.and_eq_true, decide_eq_true_eq] at h
    rw [Nat.eq_of_beq_eq_true h.2]
    congr 1
    exact ByteArray.ext (Array.ext' h.1)
  · rfl
  · cases h

theorem beqT_eq {α : Type} {f : α → α → Bool} (hf : ∀ a b, f a b = true → a = b) : ∀ {s t : T α}, beqT f s t = true → s = t
  | .nil, .nil, _ => rfl
  | .node v l r, .node v' l' r', h => by
    simp only [beqT, Bool.and_eq_true] at h
    obtain ⟨h1, h2, h3⟩ := h
    rw [beqT_eq hf h2, beqT_eq hf h3]
    congr 1
    cases v <;> cases v' <;> simp only [beqN] at h1 <;> first | rfl | cases h1 | rw [hf _ _ h1]
  | .nil, .node .., h => by simp [beqT] at h
  | .node .., .nil, h => by simp [beqT] at h

theorem beqS_eq {s s' : St} (h : beqS s s' = true) : s = s' := by
  unfold beqS at h
  simp only [Bool.and_eq_true] at h
  obtain ⟨h1, h2, h3⟩ := h
  have e1 := beqT_eq (beqV_eq 20) h1
  have e2 := beqT_eq (fun a b => beqO_eq) h2
  have e3 := Nat.eq_of_beq_eq_true h3
  obtain ⟨tm, hp, nx⟩ := s
  obtain ⟨tm', hp', nx'⟩ := s'
  simp_all

/-! Orders. -/

theorem altsOf_run {step : Nat → Bool → TM → FW → Option St} {f : Nat → Option Plan} {tm : TM} {H : FW} {s : St} : ∀ {l : List Nat} {p : Plan}, altsOf f l = some p → runPlan step p tm H = some s →
    ∀ j ∈ l, ∃ r, f j = some r ∧ goS (step j false tm H) (runPlan step r) = some s
  | [], p, h, hr, j, hj => by cases hj
  | i :: l, p, h, hr, j, hj => by
    unfold altsOf at h
    split at h
    · rename_i r p' hf ha
      simp only [Option.some.injEq] at h
      subst h
      have hr' : altS (isStop p') (goS (step i false tm H) (runPlan step r)) (runPlan step p' tm H) = some s := hr
      unfold altS at hr'
      split at hr'
      · rename_i s1 hs1
        cases hst : isStop p' with
        | true =>
          rw [hst, cond_true] at hr'
          simp only [Option.some.injEq] at hr'
          subst hr'
          have hl : l = [] := by
            cases l with
            | nil => rfl
            | cons i2 l2 =>
              unfold altsOf at ha
              split at ha
              · simp only [Option.some.injEq] at ha
                subst ha
                cases hst
              · cases ha
          subst hl
          have : j = i := by simpa using hj
          subst this
          exact ⟨r, hf, hs1⟩
        | false =>
          rw [hst, cond_false] at hr'
          split at hr'
          · rename_i s2 hs2
            obtain ⟨hb, hr'⟩ := some_of_cond hr'
            simp only [Option.some.injEq] at hr'
            have := beqS_eq hb
            subst hr'
            rcases List.mem_cons.1 hj with rfl | hj
            · exact ⟨r, hf, hs1⟩
            · exact altsOf_run ha (by rw [hs2, this]) j hj
          · cases hr'
      · cases hr'
    · cases h

def clsA (calls : Bool) (ops : Array Oper) (i : Nat) : Nat :=
  match ops[i]? with
  | some o => (match kindA o.op with
    | 0 => 0
    | 1 => 1
    | 2 => 1
    | 4 => bif calls then 1 else 2
    | _ => 2)
  | none => 2

section
variable {P : Program} {R n : Nat} {F : Nat → World → Prop} {ops : Array Oper} {calls : Bool} {call : CallF}

theorem compL_get {j : Nat} {o : Oper} (ho : ops[j]? = some o) : (compL P n ops)[j]? = some (compO P n ops o) := by
  unfold compL
  rw [List.getElem?_map, Array.getElem?_toList, ho]
  rfl

theorem freeX_spec {W : Nat → Bool} {i : Nat} {oi : Oper} {listed : Array Bool} (hi : ops[i]? = some oi) (h : freeX ops W listed i = true) (j : Nat) (oj : Oper)
    (hj : ops[j]? = some oj) (hne : j ≠ i) (hun : listed.getD j true = false) (hno : ∀ e ∈ oj.after, Region.binds .any e = true → e.on ≠ i) :
    oi.apart ops oj = true ∧ (kindA oi.op = 0 ∨ W j = false) := by
  simp only [freeX, hi, List.all_eq_true, List.mem_range] at h
  have h1 := h j (Array.getElem?_eq_some_iff.1 hj).1
  simp only [hj, Bool.or_eq_true, beq_iff_eq, hne, false_or, hun, Bool.false_eq_true] at h1
  rcases h1 with h1 | h1
  · obtain ⟨e, he, hb⟩ := Array.any_eq_true'.1 h1
    simp only [Bool.and_eq_true, beq_iff_eq] at hb
    exact absurd hb.2 (hno e he hb.1)
  · simp only [Bool.and_eq_true, Bool.or_eq_true, beq_iff_eq, Bool.not_eq_true'] at h1
    exact h1

theorem kind_lt (op : Op) : kindA op < 5 := by
  cases op <;> first | (simp only [kindA]; omega) | skip
  rename_i c
  obtain ⟨callee, args, tys⟩ := c
  cases callee with
  | builtin b => cases b <;> simp [kindA]
  | _ => simp [kindA]

theorem wr_cls {j : Nat} (h : wr calls ops j = false) : clsA calls ops j < 2 := by
  unfold wr at h
  unfold clsA
  split
  · rename_i o ho
    rw [ho] at h
    simp only at h
    split at h
    · cases h
    · rename_i h4
      rw [h4]
      have : calls = true := by simpa using h
      rw [this]
      decide
    · rename_i h3 h4
      have hk : kindA o.op = 0 ∨ kindA o.op = 1 ∨ kindA o.op = 2 := by
        have h5 := kind_lt o.op
        have h3 : kindA o.op ≠ 3 := h3
        have h4 : kindA o.op ≠ 4 := h4
        omega
      rcases hk with hk | hk | hk <;> rw [hk] <;> first | exact Nat.zero_lt_two | exact Nat.one_lt_two
  · rename_i ho
    rw [ho] at h
    cases h

theorem plan_sound (hcall : CallGood P R calls call) (hF : ∀ R' w0, F R' w0 → R' ≤ R) (hsel : Region.noSelect ops = true) {Q : Exit → Act → World → Prop} (hQ : ∀ c a w, ¬ Q (.panic c) a w) {base : Nat} (hbase : 512 ≤ base) :
    ∀ (fuel : Nat) (listed : Array Bool) (p : Plan), planFrom calls ops fuel listed = some p → ∀ (tm : TM) (H : FW) (a : Act) (w : World) (β : Bm) (tm' : TM) (H' : FW), SR P F n β tm H a w → R ≤ H.next → base + ops.size ≤ H.next →
      runPlan (stepX R call base (compL P n ops)) p tm H = some (tm', H') → (∀ a' w' β', BLe β β' → SR P F n β' tm' H' a' w' → Q .normal a' w') →
      (Lo H' ∧ H.next ≤ H'.next) ∧ xAny P .any ops (clsA calls ops) Q fuel listed a w
  | 0, listed, p, hp, tm, H, a, w, β, tm', H', hs, hR, hb, hrun, hk => by
    unfold planFrom at hp
    obtain ⟨he, hp⟩ := some_of_cond hp
    simp only [Option.some.injEq] at hp
    subst hp
    have hrun' : some (tm, H) = some (tm', H') := hrun
    simp only [Option.some.injEq, Prod.mk.injEq] at hrun'
    obtain ⟨rfl, rfl⟩ := hrun'
    exact ⟨⟨hs.lo, Nat.le_refl _⟩, by simpa using he, hk a w β (BLe.refl _) hs⟩
  | fuel + 1, listed, p, hp, tm, H, a, w, β, tm', H', hs, hR, hb, hrun, hk => by
    unfold planFrom at hp
    cases hl : Region.ready .any ops listed with
    | nil =>
      have hrd := hl
      rw [hl] at hp
      simp only [Option.some.injEq] at hp
      subst hp
      have hrun' : some (tm, H) = some (tm', H') := hrun
      simp only [Option.some.injEq, Prod.mk.injEq] at hrun'
      obtain ⟨rfl, rfl⟩ := hrun'
      exact ⟨⟨hs.lo, Nat.le_refl _⟩, fun _ => hk a w β (BLe.refl _) hs, fun i hi => by rw [hrd] at hi; cases hi⟩
    | cons x xs =>
      rw [hl] at hp
      simp only at hp
      split at hp
      · rename_i j hfind
        have hmem := List.mem_of_find?_eq_some hfind
        have hfirst := List.find?_some hfind
        split at hp
        · rename_i r hr
          simp only [Option.some.injEq] at hp
          subst hp
          have hrun' : goS (stepX R call base (compL P n ops) j true tm H) (runPlan (stepX R call base (compL P n ops)) r) = some (tm', H') := hrun
          unfold firstOk at hfirst
          rw [Bool.and_eq_true] at hfirst
          obtain ⟨hkind, hfree⟩ := hfirst
          cases ho : ops[j]? with
          | none => rw [ho] at hkind; cases hkind
          | some o =>
            rw [ho] at hkind
            simp only at hkind
            have hget := compL_get (P := P) (n := n) ho
            unfold stepX at hrun'
            rw [hget] at hrun'
            simp only at hrun'
            cases hst : stepG R call true (compO P n ops o) (base + j) H.next tm H with
            | none => rw [hst] at hrun'; cases hrun'
            | some st =>
              obtain ⟨tm1, H1⟩ := st
              rw [hst] at hrun'
              have hrun2 : runPlan (stepX R call base (compL P n ops)) r tm1 H1 = some (tm', H') := hrun'
              have hsp := freeX_spec ho hfree
              have first1 : clsA calls ops j = 1 → kindA o.op ≠ 0 → (H1 = H ∧ ∃ u, ((Region.wanted o (yielded ops a.tmps) = true ∧ ∀ w', Up w w' → xop P o a w' fun x w'' => x = u ∧ Up w' w'') ∨ (Region.wanted o (yielded ops a.tmps) = false ∧ u = undef)) ∧ Fm β tm1 (a.put o.dst u) n) →
                  (Lo H' ∧ H.next ≤ H'.next) ∧ xAny P .any ops (clsA calls ops) Q (fuel + 1) listed a w := by
                rintro hc hk0 ⟨rfl, u, hy, hfm⟩
                have hnext := fun w' (hw' : Up w w') => plan_sound hcall hF hsel hQ hbase fuel _ r hr tm1 H1 (a.put o.dst u) w' β tm' H' ⟨hfm, hs.wr.up hw', hs.lo⟩ hR hb hrun2 hk
                refine ⟨(hnext w (Up.refl w)).1, ?_⟩
                refine xAny_first1 ho (Region.noSelect_spec hsel) hc fuel listed a w (fun k ok hk' hne hun hno => ?_) (by rw [hl]; exact hmem) hy fun w' hw' => (hnext w' hw').2
                obtain ⟨h1, h2⟩ := hsp k ok hk' hne hun hno
                exact ⟨h1, wr_cls (h2.resolve_left hk0)⟩
              split at hkind
              · rename_i hk0
                obtain ⟨rfl, u, hy, hfm⟩ := stepG_look hs (.inl hk0) hst
                have hnext := plan_sound hcall hF hsel hQ hbase fuel _ r hr tm1 H1 (a.put o.dst u) w β tm' H' ⟨hfm, hs.wr, hs.lo⟩ hR hb hrun2 hk
                refine ⟨hnext.1, ?_⟩
                have hyy : Yields P ops o u a := by
                  rcases hy with ⟨h1, h2⟩ | h
                  · exact .inl ⟨h1, fun w' => h2 w' (.inl (by rw [hk0]; rfl))⟩
                  · exact .inr h
                exact xAny_first0 hQ ho (Region.noSelect_spec hsel) (by unfold clsA; rw [ho]; simp only [hk0]) fuel listed a w (fun k ok hk' hne hun hno => (hsp k ok hk' hne hun hno).1) (by rw [hl]; exact hmem) hyy hnext.2
              · rename_i hk1
                refine first1 (by unfold clsA; rw [ho]; simp only [hk1]) (by omega) ?_
                obtain ⟨h1, u, hy, hfm⟩ := stepG_look hs (.inr hk1) hst
                refine ⟨h1, u, ?_, hfm⟩
                rcases hy with ⟨g1, g2⟩ | h
                · refine .inl ⟨g1, fun w' hw' => ?_⟩
                  unfold xop
                  rw [g2 w' (.inr hw')]
                  exact ⟨rfl, Up.refl _⟩
                · exact .inr h
              · rename_i hk4
                subst hkind
                exact first1 (by unfold clsA; rw [ho]; simp only [hk4]; rfl) (by omega) (stepG_quiet hcall hF hR hs hk4 hst)
              · cases hkind
        · cases hp
      · rename_i hnf
        have hrds : ∀ j ∈ Region.ready .any ops listed, (Lo H' ∧ H.next ≤ H'.next) ∧ xOp P ops (clsA calls ops j) Q j (xAny P .any ops (clsA calls ops) Q fuel (listed.setIfInBounds j true)) a w := by
          intro j hj
          obtain ⟨hjun, o, ho, _⟩ := mem_ready.1 hj
          rw [hl] at hj
          obtain ⟨r, hr, hgo⟩ := altsOf_run hp hrun j hj
          have hget := compL_get (P := P) (n := n) ho
          unfold stepX at hgo
          rw [hget] at hgo
          simp only at hgo
          cases hst : stepG R call false (compO P n ops o) (base + j) H.next tm H with
          | none => rw [hst] at hgo; cases hgo
          | some st =>
            obtain ⟨tm1, H1⟩ := st
            rw [hst] at hgo
            have hrun2 : runPlan (stepX R call base (compL P n ops)) r tm1 H1 = some (tm', H') := hgo
            have hjlt := (Array.getElem?_eq_some_iff.1 ho).1
            obtain ⟨⟨hlo1, hn1⟩, hx⟩ := stepG_sound hcall hF hR hs (id := base + j) (next := H.next) (by omega) (Nat.le_refl _) (by omega) hst
            have hnext := fun a' w' β' hle hs' => plan_sound hcall hF hsel hQ hbase fuel _ r hr tm1 H1 a' w' β' tm' H' hs' (Nat.le_trans hR hn1) (Nat.le_trans hb hn1) hrun2 (fun a2 w2 β2 hb2 hs2 => hk a2 w2 β2 (BLe.trans hle hb2) hs2)
            by_cases hk0 : kindA o.op = 0
            · obtain ⟨rfl, u, hy, hfm⟩ := stepG_look hs (.inl hk0) hst
              have hc : clsA calls ops j = 0 := by unfold clsA; rw [ho]; simp only [hk0]
              have hnx := hnext (a.put o.dst u) w β (BLe.refl _) ⟨hfm, hs.wr, hs.lo⟩
              refine ⟨⟨hnx.1.1, Nat.le_trans hn1 hnx.1.2⟩, ?_⟩
              rw [hc]
              refine ⟨o, u, ho, ?_, hnx.2⟩
              rcases hy with ⟨h1, h2⟩ | h
              · exact .inl ⟨h1, fun w' => h2 w' (.inl (by rw [hk0]; rfl))⟩
              · exact .inr h
            · -- the pure part: by any end
              have pure1 : (∀ a' w' β', BLe β β' → SR P F n β' tm1 H1 a' w' → (Lo H' ∧ H.next ≤ H'.next)) := fun a' w' β' hle hs' => by
                have := (hnext a' w' β' hle hs').1
                exact ⟨this.1, Nat.le_trans hn1 this.2⟩
              have hpure : Lo H' ∧ H.next ≤ H'.next := by
                rcases hx with ⟨_, hx⟩ | ⟨_, hx⟩
                · unfold xop at hx
                  generalize (execOp a.eval o).run P w = rr at hx
                  cases rr with
                  | ok nn w' =>
                    cases nn <;> simp only [xupon] at hx
                    case value v => obtain ⟨_, β', hle, hs'⟩ := hx; exact pure1 _ _ _ hle hs'
                    case skip => obtain ⟨_, β', hle, hs'⟩ := hx; exact pure1 _ _ _ hle hs'
                    case enter f args =>
                      obtain ⟨e, w'', fr, ⟨v, _, _, β', hle, hs'⟩, _⟩ := hx []
                      exact pure1 _ _ _ hle hs'
                  | halt x w' => simp only [xupon] at hx
                · exact pure1 _ _ _ (BLe.refl _) hx
              refine ⟨hpure, ?_⟩
              have hcls : clsA calls ops j = 1 ∧ (kindA o.op = 1 ∨ kindA o.op = 2 ∨ (kindA o.op = 4 ∧ calls = true)) ∨ clsA calls ops j = 2 := by
                unfold clsA
                rw [ho]
                simp only
                split
                · rename_i h; exact absurd h hk0
                · rename_i h; exact .inl ⟨rfl, .inl h⟩
                · rename_i h; exact .inl ⟨rfl, .inr (.inl h)⟩
                · rename_i h
                  cases calls with
                  | true => exact .inl ⟨rfl, .inr (.inr ⟨h, rfl⟩)⟩
                  | false => exact .inr rfl
                · exact .inr rfl
              rcases hcls with ⟨hc, hup⟩ | hc
              · rw [hc]
                show xOp0 P ops j _ a w
                unfold xOp0
                simp only [ho]
                rcases hx with ⟨hw, hx⟩ | ⟨hw, hx⟩
                · rw [if_pos hw]
                  exact xop_mono (fun u w' ⟨hq, β', hle, hs'⟩ => ⟨hq hup, fun w'' hw'' => (hnext _ _ β' hle (hs'.up hw'')).2⟩) hx
                · rw [if_neg (by rw [hw]; simp)]
                  exact fun w' hw' => (hnext _ _ β (BLe.refl _) (hx.up hw')).2
              · rw [hc]
                show wpOp P ops Q j _ a w
                refine wpOp_of_xop ho ?_
                rcases hx with ⟨hw, hx⟩ | ⟨hw, hx⟩
                · exact .inl ⟨hw, xop_mono (fun u w' ⟨_, β', hle, hs'⟩ => (hnext _ _ β' hle hs').2) hx⟩
                · exact .inr ⟨hw, (hnext _ _ β (BLe.refl _) hx).2⟩
        have hne : ∃ j, j ∈ Region.ready .any ops listed := ⟨x, by rw [hl]; simp⟩
        obtain ⟨j, hj⟩ := hne
        exact ⟨(hrds j hj).1, fun h0 => (by rw [h0] at hj; cases hj), fun i hi => (hrds i hi).2⟩

end
end Go.Am
