/- Code and calls, by the store's run. No conditions. -/
import Derived.Test.YthmkdcclmaoonaaDoorA15
import Derived.LoopN
import Derived.Laws.Externs
set_option linter.unusedVariables false
set_option linter.unusedSimpArgs false
namespace Go.Am
open Go.RowKit

section
variable {I : World → Prop} {P : Program} {R n : Nat} {lv : Nat → Bool} {F : Nat → World → Prop} {ops : Array Oper} {calls : Bool} {call : CallF}

/-- Operations one behind the other. -/
theorem opsA_sound (hcall : CallGood P I R false call) (hF : FOk I F R) {Q : Exit → Act → World → Prop} : ∀ (l : List Oper) (tm : TM) (H : FW) (a : Act) (w : World) (β : Bm) (tm' : TM) (H' : FW), SR P F lv n β tm H a w → R ≤ H.next →
    opsA lv R call (l.map (compO P lv n ops)) tm H = some (tm', H') → (∀ a' w' β', BLe β β' → SR P F lv n β' tm' H' a' w' → Q .normal a' w') → ((Lo H' ∧ H.next ≤ H'.next) ∧ wpList P ops Q l a w)
  | [], tm, H, a, w, β, tm', H', hs, hR, h, hk => by
    have h' : some (tm, H) = some (tm', H') := h
    simp only [Option.some.injEq, Prod.mk.injEq] at h'
    obtain ⟨rfl, rfl⟩ := h'
    exact ⟨⟨hs.lo, Nat.le_refl _⟩, hk a w β (BLe.refl _) hs⟩
  | o :: l, tm, H, a, w, β, tm', H', hs, hR, h, hk => by
    have h' : (match stepA lv R call (compO P lv n ops o) tm H with
      | some (tm', H') => opsA lv R call (l.map (compO P lv n ops)) tm' H'
      | none => none) = some (tm', H') := h
    split at h'
    · rename_i tm1 H1 hst
      unfold stepA at hst
      obtain ⟨⟨hlo1, hn1⟩, hx⟩ := stepG_sound hcall hF hR hs (id := H.next) (next := H.next + 1) hs.lo.big (Nat.le_succ _) (Nat.lt_succ_self _) hst
      have hnext := fun a' w' β' hle hs' => opsA_sound hcall hF (Q := Q) l tm1 H1 a' w' β' tm' H' hs' (Nat.le_trans hR hn1) h' (fun a2 w2 β2 hb2 hs2 => hk a2 w2 β2 (BLe.trans hle hb2) hs2)
      have pure1 : (∀ a' w' β', BLe β β' → SR P F lv n β' tm1 H1 a' w' → (Lo H' ∧ H.next ≤ H'.next)) := fun a' w' β' hle hs' => by
        have := (hnext a' w' β' hle hs').1
        exact ⟨this.1, Nat.le_trans hn1 this.2⟩
      refine ⟨?_, ?_⟩
      · rcases hx with ⟨_, hx⟩ | ⟨_, hx⟩
        · unfold xop at hx
          generalize (execOp a.eval o).run P w = rr at hx
          cases rr with
          | ok nn w' =>
            cases nn <;> simp only [xupon] at hx
            case value v => obtain ⟨_, β', hle, hs'⟩ := hx; exact pure1 _ _ _ hle hs'
            case skip => obtain ⟨_, β', hle, hs'⟩ := hx; exact pure1 _ _ _ hle hs'
            case enter f args =>
              obtain ⟨e, w'', fr, ⟨v, _, _, β', hle, hs'⟩, _⟩ := hx []
              exact pure1 _ _ _ hle hs'
          | halt x w' => simp only [xupon] at hx
        · exact pure1 _ _ _ (BLe.refl _) hx
      · show (if Region.wanted o (yielded ops a.tmps) then o.wp P a w (wpList P ops Q l) Q ∨ (o.asks P a w ∧ LetsOut Q) else wpList P ops Q l (a.put o.dst undef) w)
        rcases hx with ⟨hw, hx⟩ | ⟨hw, hx⟩
        · rw [if_pos hw]
          left
          have hx' := xop_mono (fun u w' ⟨_, β', hle, hs'⟩ => (hnext _ _ β' hle hs').2) hx
          unfold xop at hx'
          unfold Oper.wp
          generalize (execOp a.eval o).run P w = r at hx'
          cases r with
          | ok nn w' =>
            cases nn <;> simp only [xupon] at hx' <;> simp only [Oper.upon]
            case value v => exact hx'
            case skip => exact hx'
            case enter f args =>
              refine hx'.mono fun e w'' ⟨v, he, hk⟩ => ?_
              subst he
              exact hk
          | halt x w' => simp only [xupon] at hx'
        · rw [if_neg (by rw [hw]; simp)]
          exact (hnext _ _ β (BLe.refl _) hx).2
    · cases h'

def exitOf : XO → Exit
  | .norm => .normal
  | .ret => .ret
  | .exit id => .exit id

def PostA (P : Program) (F : Nat → World → Prop) (lv : Nat → Bool) (n : Nat) (β : Bm) (x : XO) (tm : TM) (H : FW) : Exit → Act → World → Prop := fun e a w => e = exitOf x ∧ ∃ β', BLe β β' ∧ SR P F lv n β' tm H a w

theorem PostA.mono {β β' : Bm} {x : XO} {tm : TM} {H : FW} (hb : BLe β β') {e : Exit} {a : Act} {w : World} (h : PostA P F lv n β' x tm H e a w) : PostA P F lv n β x tm H e a w := by
  obtain ⟨h1, β2, h2, h3⟩ := h
  exact ⟨h1, β2, BLe.trans hb h2, h3⟩

theorem regionX_sound (hcall : CallGood P I R calls call) (hF : FOk I F R) (hsel : Region.noSelect ops = true) (hm : P.follows .mixedOrders = true) {p : Plan} (hp : planA P calls ops = some p) {id : Nat} {tm : TM} {H : FW} {a : Act} {w : World} {β : Bm} {tm' : TM} {H' : FW}
    (hs : SR P F lv n β tm H a w) (hR : R ≤ H.next) (h : runPlan lv (stepX lv R call H.next (compL P lv n ops)) p tm ⟨H.heap, H.next + ops.size⟩ = some (tm', H')) :
    (Lo H' ∧ H.next ≤ H'.next) ∧ (Code.region id ops true).wp P (PostA P F lv n β .norm tm' H') a w := by
  have hs' : SR P F lv n β tm ⟨H.heap, H.next + ops.size⟩ a { w with drawn := w.drawn + 1 } :=
    ⟨hs.fm, (hs.wr.up (w' := w.drew) (Below.refl _ _).drew).next, ⟨Nat.le_trans hs.lo.big (Nat.le_add_right _ _), fun o ho => hs.lo.out o (Nat.le_trans (Nat.le_add_right _ _) ho)⟩⟩
  obtain ⟨h1, h2⟩ := plan_sound hcall hF hsel (Q := PostA P F lv n β .norm tm' H') (fun c a w h => by cases h.1) hs.lo.big ops.size _ p (planA_ok hp) tm ⟨H.heap, H.next + ops.size⟩ a _ β tm' H' hs' (Nat.le_trans hR (Nat.le_add_right _ _)) (Nat.le_refl _) h
    (fun a' w' β' hle hs2 => ⟨rfl, β', hle, hs2⟩)
  exact ⟨⟨h1.1, Nat.le_trans (Nat.le_add_right _ _) h1.2⟩, wp_region_any hm (wpAny_of_x _ _ _ _ h2)⟩

theorem wp_witness {c : Code} {Q : Exit → Act → World → Prop} {a : Act} {w : World} (h : c.wp P Q a w) : ∃ e a' w', Q e a' w' := by
  obtain ⟨e, a', w', hq, _⟩ := h default [] []
  exact ⟨e, a', w', hq⟩

variable {cl : Nat → CallF}

/-- What the store's run says of a piece of code. -/
def CodeGood (P : Program) (lv : Nat → Bool) (n : Nat) (cl : Nat → CallF) (R : Nat) (F : Nat → World → Prop) (c : Code) : Prop :=
  ∀ (tm : TM) (H : FW) (a : Act) (w : World) (β : Bm) (x : XO) (tm' : TM) (H' : FW), SR P F lv n β tm H a w → R ≤ H.next → codeA P lv n cl R c tm H = some (x, tm', H') →
    (Lo H' ∧ H.next ≤ H'.next) ∧ c.wp P (PostA P F lv n β x tm' H') a w

theorem CodeGood.witness {c : Code} (hc : CodeGood P lv n cl R F c) {tm : TM} {H : FW} {a : Act} {w : World} {β : Bm} {x : XO} {tm' : TM} {H' : FW} (hs : SR P F lv n β tm H a w) (hR : R ≤ H.next) (h : codeA P lv n cl R c tm H = some (x, tm', H')) :
    ∃ a' w' β', BLe β β' ∧ SR P F lv n β' tm' H' a' w' := by
  obtain ⟨_, h2⟩ := hc tm H a w β x tm' H' hs hR h
  obtain ⟨e, a', w', _, β', h3, h4⟩ := wp_witness h2
  exact ⟨a', w', β', h3, h4⟩

theorem region_good (hcall : ∀ R, CallGood P I R false (cl R)) (hF : FOk I F R) (id : Nat) (ops : Array Oper) (d : Bool) : CodeGood P lv n cl R F (.region id ops d) := by
  intro tm H a w β x tm' H' hs hR h
  have h' : regionS P lv n cl R ops d tm H = some (x, tm', H') := h
  unfold regionS at h'
  cases d with
  | true =>
    rw [cond_true] at h'
    obtain ⟨hg, h'⟩ := some_of_cond h'
    rw [Bool.and_eq_true] at hg
    unfold normS at h'
    split at h'
    · rename_i s hrx
      simp only [Option.some.injEq, Prod.mk.injEq] at h'
      obtain ⟨rfl, rfl⟩ := h'
      unfold regionX at hrx
      split at hrx
      · rename_i p hp
        exact regionX_sound (hcall R) hF hg.2 hg.1 hp hs hR hrx
      · split at hrx
        · rename_i p hp
          exact regionX_sound (quiet_good (R := R) hcall) hF hg.2 hg.1 hp hs hR hrx
        · cases hrx
    · cases h'
  | false =>
    rw [cond_false] at h'
    cases hrx : opsA lv R (cl R) (compL P lv n ops) tm H with
    | none => rw [hrx] at h'; cases h'
    | some s =>
      obtain ⟨tm1, H1⟩ := s
      rw [hrx] at h'
      simp only [flushS, normS, Option.some.injEq, Prod.mk.injEq] at h'
      obtain ⟨rfl, rfl, rfl⟩ := h'
      obtain ⟨h1, h2⟩ := opsA_sound (ops := ops) (hcall R) hF (Q := PostA P F lv n β .norm (tm1.flush lv) H1) ops.toList tm H a w β tm1 H1 hs hR hrx (fun a' w' β' hle hs2 => ⟨rfl, β', hle, hs2.flush⟩)
      exact ⟨h1, wp_region_list h2⟩

theorem seq_good {c d : Code} (hc : CodeGood P lv n cl R F c) (hd : CodeGood P lv n cl R F d) : CodeGood P lv n cl R F (.seq c d) := by
  intro tm H a w β x tm' H' hs hR h
  have h' : seqS (codeA P lv n cl R c tm H) (codeA P lv n cl R d) = some (x, tm', H') := h
  unfold seqS at h'
  cases hca : codeA P lv n cl R c tm H with
  | none => rw [hca] at h'; cases h'
  | some q =>
    obtain ⟨y, tm1, H1⟩ := q
    rw [hca] at h'
    obtain ⟨h1, h2⟩ := hc tm H a w β y tm1 H1 hs hR hca
    cases y with
    | norm =>
      simp only at h'
      obtain ⟨a1, w1, β1, hb1, hs1⟩ := hc.witness hs hR hca
      have hd1 := hd tm1 H1 a1 w1 β1 x tm' H' hs1 (Nat.le_trans hR h1.2) h'
      refine ⟨⟨hd1.1.1, Nat.le_trans h1.2 hd1.1.2⟩, wp_seq (Code.wp_mono (fun e a2 w2 he => ?_) h2)⟩
      obtain ⟨rfl, β2, hb2, hs2⟩ := he
      exact Code.wp_mono (fun e a3 w3 h3 => h3.mono hb2) (hd tm1 H1 a2 w2 β2 x tm' H' hs2 (Nat.le_trans hR h1.2) h').2
    | ret =>
      simp only [Option.some.injEq, Prod.mk.injEq] at h'
      obtain ⟨rfl, rfl, rfl⟩ := h'
      refine ⟨h1, wp_seq (Code.wp_mono (fun e a2 w2 he => ?_) h2)⟩
      obtain ⟨rfl, he⟩ := he
      exact ⟨rfl, he⟩
    | exit id =>
      simp only [Option.some.injEq, Prod.mk.injEq] at h'
      obtain ⟨rfl, rfl, rfl⟩ := h'
      refine ⟨h1, wp_seq (Code.wp_mono (fun e a2 w2 he => ?_) h2)⟩
      obtain ⟨rfl, he⟩ := he
      exact ⟨rfl, he⟩

theorem cond_good {y : Operand} {c d : Code} (hc : CodeGood P lv n cl R F c) (hd : CodeGood P lv n cl R F d) : CodeGood P lv n cl R F (.cond y c d) := by
  intro tm H a w β x tm' H' hs hR h
  have h' : condS (ev lv tm y) (codeA P lv n cl R c tm H) (codeA P lv n cl R d tm H) = some (x, tm', H') := h
  have hv := ev_rel hs.wr hs.fm y
  unfold condS at h'
  split at h'
  · rename_i hy
    rw [hy] at hv
    generalize hq : a.eval y = q at hv
    cases hv
    obtain ⟨h1, h2⟩ := hc tm H a w β x tm' H' hs hR h'
    exact ⟨h1, wp_cond hq (by simpa using h2)⟩
  · rename_i hy
    rw [hy] at hv
    generalize hq : a.eval y = q at hv
    cases hv
    obtain ⟨h1, h2⟩ := hd tm H a w β x tm' H' hs hR h'
    exact ⟨h1, wp_cond hq (by simpa using h2)⟩
  · cases h'

theorem block_good {id : Nat} {c : Code} (hc : CodeGood P lv n cl R F c) : CodeGood P lv n cl R F (.block id c) := by
  intro tm H a w β x tm' H' hs hR h
  have h' : blockS id (codeA P lv n cl R c tm H) = some (x, tm', H') := h
  unfold blockS at h'
  cases hca : codeA P lv n cl R c tm H with
  | none => rw [hca] at h'; cases h'
  | some q =>
    obtain ⟨y, tm1, H1⟩ := q
    rw [hca] at h'
    obtain ⟨h1, h2⟩ := hc tm H a w β y tm1 H1 hs hR hca
    cases y with
    | exit i =>
      simp only at h'
      cases hb : Nat.beq i id with
      | true =>
        rw [hb, cond_true] at h'
        simp only [Option.some.injEq, Prod.mk.injEq] at h'
        obtain ⟨rfl, rfl, rfl⟩ := h'
        have := Nat.eq_of_beq_eq_true hb
        subst this
        refine ⟨h1, wp_block (Code.wp_mono (fun e a2 w2 he => ?_) h2)⟩
        obtain ⟨rfl, he⟩ := he
        show (if i = i then _ else _)
        rw [if_pos rfl]
        exact ⟨rfl, he⟩
      | false =>
        rw [hb, cond_false] at h'
        simp only [Option.some.injEq, Prod.mk.injEq] at h'
        obtain ⟨rfl, rfl, rfl⟩ := h'
        refine ⟨h1, wp_block (Code.wp_mono (fun e a2 w2 he => ?_) h2)⟩
        obtain ⟨rfl, he⟩ := he
        show (if i = id then _ else _)
        rw [if_neg (fun e => by subst e; simp at hb)]
        exact ⟨rfl, he⟩
    | norm =>
      simp only [Option.some.injEq, Prod.mk.injEq] at h'
      obtain ⟨rfl, rfl, rfl⟩ := h'
      refine ⟨h1, wp_block (Code.wp_mono (fun e a2 w2 he => ?_) h2)⟩
      obtain ⟨rfl, he⟩ := he
      exact ⟨rfl, he⟩
    | ret =>
      simp only [Option.some.injEq, Prod.mk.injEq] at h'
      obtain ⟨rfl, rfl, rfl⟩ := h'
      refine ⟨h1, wp_block (Code.wp_mono (fun e a2 w2 he => ?_) h2)⟩
      obtain ⟨rfl, he⟩ := he
      exact ⟨rfl, he⟩

/-- Rounds of a loop. -/
theorem loopP_good {c : Code} (hc : CodeGood P lv n cl R F c) : ∀ (k : Nat) (tm : TM) (H : FW) (a : Act) (w : World) (β : Bm), SR P F lv n β tm H a w → R ≤ H.next → ∀ (y : Option XO) (tm' : TM) (H' : FW), loopP (codeA P lv n cl R c) k tm H = some (y, tm', H') →
    (Lo H' ∧ H.next ≤ H'.next) ∧ (∃ a' w' β', BLe β β' ∧ SR P F lv n β' tm' H' a' w') ∧ y ≠ some .norm ∧
    ∀ (N : Nat) (Q : Exit → Act → World → Prop), (∀ a' w' β', BLe β β' → SR P F lv n β' tm' H' a' w' → (match y with
      | none => Code.rounds P c Q N a' w'
      | some x => Q (exitOf x) a' w')) → Code.rounds P c Q (2 ^ k + N) a w
  | 0, tm, H, a, w, β, hs, hR, y, tm', H', h => by
    have h' : roundS (codeA P lv n cl R c tm H) = some (y, tm', H') := h
    unfold roundS at h'
    cases hca : codeA P lv n cl R c tm H with
    | none => rw [hca] at h'; cases h'
    | some q =>
      obtain ⟨x, tm1, H1⟩ := q
      rw [hca] at h'
      obtain ⟨h1, h2⟩ := hc tm H a w β x tm1 H1 hs hR hca
      have hwit := hc.witness hs hR hca
      have pw : ∀ N, 2 ^ 0 + N = N + 1 := fun N => by omega
      cases x with
      | norm =>
        simp only [Option.some.injEq, Prod.mk.injEq] at h'
        obtain ⟨rfl, rfl, rfl⟩ := h'
        refine ⟨h1, hwit, by simp, fun N Q hk => ?_⟩
        rw [pw, rounds_succ]
        refine Code.wp_mono (fun e a2 w2 he => ?_) h2
        obtain ⟨rfl, β2, hb2, hs2⟩ := he
        exact hk a2 w2 β2 hb2 hs2
      | ret =>
        simp only [Option.some.injEq, Prod.mk.injEq] at h'
        obtain ⟨rfl, rfl, rfl⟩ := h'
        refine ⟨h1, hwit, by simp, fun N Q hk => ?_⟩
        rw [pw, rounds_succ]
        refine Code.wp_mono (fun e a2 w2 he => ?_) h2
        obtain ⟨rfl, β2, hb2, hs2⟩ := he
        exact hk a2 w2 β2 hb2 hs2
      | exit id =>
        simp only [Option.some.injEq, Prod.mk.injEq] at h'
        obtain ⟨rfl, rfl, rfl⟩ := h'
        refine ⟨h1, hwit, by simp, fun N Q hk => ?_⟩
        rw [pw, rounds_succ]
        refine Code.wp_mono (fun e a2 w2 he => ?_) h2
        obtain ⟨rfl, β2, hb2, hs2⟩ := he
        exact hk a2 w2 β2 hb2 hs2
  | k + 1, tm, H, a, w, β, hs, hR, y, tm', H', h => by
    have h' : againS (loopP (codeA P lv n cl R c) k tm H) (loopP (codeA P lv n cl R c) k) = some (y, tm', H') := h
    unfold againS at h'
    have pw : ∀ N, 2 ^ (k + 1) + N = 2 ^ k + (2 ^ k + N) := fun N => by rw [Nat.pow_succ]; omega
    cases hca : loopP (codeA P lv n cl R c) k tm H with
    | none => rw [hca] at h'; cases h'
    | some q =>
      obtain ⟨z, tm1, H1⟩ := q
      rw [hca] at h'
      obtain ⟨h1, ⟨a1, w1, β1, hb1, hs1⟩, hnn, h2⟩ := loopP_good hc k tm H a w β hs hR z tm1 H1 hca
      cases z with
      | none =>
        simp only at h'
        obtain ⟨g1, ⟨a3, w3, β3, hb3, hs3⟩, gn, _⟩ := loopP_good hc k tm1 H1 a1 w1 β1 hs1 (Nat.le_trans hR h1.2) y tm' H' h'
        refine ⟨⟨g1.1, Nat.le_trans h1.2 g1.2⟩, ⟨a3, w3, β3, BLe.trans hb1 hb3, hs3⟩, gn, fun N Q hk => ?_⟩
        rw [pw]
        refine h2 _ Q fun a2 w2 β2 hb2 hs2 => ?_
        obtain ⟨_, _, _, g2⟩ := loopP_good hc k tm1 H1 a2 w2 β2 hs2 (Nat.le_trans hR h1.2) y tm' H' h'
        exact g2 N Q fun a4 w4 β4 hb4 hs4 => hk a4 w4 β4 (BLe.trans hb2 hb4) hs4
      | some x =>
        simp only [Option.some.injEq, Prod.mk.injEq] at h'
        obtain ⟨rfl, rfl, rfl⟩ := h'
        refine ⟨h1, ⟨a1, w1, β1, hb1, hs1⟩, hnn, fun N Q hk => ?_⟩
        rw [pw]
        exact h2 _ Q hk

theorem loop_good {c : Code} (hc : CodeGood P lv n cl R F c) : CodeGood P lv n cl R F (.loop c) := by
  intro tm H a w β x tm' H' hs hR h
  have h' : loopS (loopP (codeA P lv n cl R c) 20 tm H) = some (x, tm', H') := h
  unfold loopS at h'
  split at h'
  · rename_i y s hl
    simp only [Option.some.injEq, Prod.mk.injEq] at h'
    obtain ⟨rfl, rfl⟩ := h'
    obtain ⟨h1, _, _, h2⟩ := loopP_good hc 20 tm H a w β hs hR (some y) tm' H' hl
    exact ⟨h1, wp_loop_rounds _ (h2 0 _ fun a' w' β' hb hs' => ⟨rfl, β', hb, hs'⟩)⟩
  · cases h'

theorem code_good (hcall : ∀ R, CallGood P I R false (cl R)) (hF : FOk I F R) : ∀ c : Code, CodeGood P lv n cl R F c := by
  intro c
  induction c with
  | skip =>
    intro tm H a w β x tm' H' hs hR h
    have h' : some (XO.norm, tm, H) = some (x, tm', H') := h
    simp only [Option.some.injEq, Prod.mk.injEq] at h'
    obtain ⟨rfl, rfl, rfl⟩ := h'
    exact ⟨⟨hs.lo, Nat.le_refl _⟩, wp_skip ⟨rfl, β, BLe.refl _, hs⟩⟩
  | region id ops d => exact region_good hcall hF id ops d
  | seq c d hc hd => exact seq_good hc hd
  | cond y c d hc hd => exact cond_good hc hd
  | block id c hc => exact block_good hc
  | loop c hc => exact loop_good hc
  | exit id =>
    intro tm H a w β x tm' H' hs hR h
    have h' : some (XO.exit id, tm, H) = some (x, tm', H') := h
    simp only [Option.some.injEq, Prod.mk.injEq] at h'
    obtain ⟨rfl, rfl, rfl⟩ := h'
    exact ⟨⟨hs.lo, Nat.le_refl _⟩, wp_exit ⟨rfl, β, BLe.refl _, hs⟩⟩
  | ret =>
    intro tm H a w β x tm' H' hs hR h
    have h' : some (XO.ret, tm, H) = some (x, tm', H') := h
    simp only [Option.some.injEq, Prod.mk.injEq] at h'
    obtain ⟨rfl, rfl, rfl⟩ := h'
    exact ⟨⟨hs.lo, Nat.le_refl _⟩, wp_ret ⟨rfl, β, BLe.refl _, hs⟩⟩
  | _ =>
    intro tm H a w β x tm' H' hs hR h
    cases h

/-! Results. -/

def retOne (a : Act) : ResultVar → Sem Value
  | .tmp t => pure (a.tmps.getD t undef)
  | .cell q t => do loadVar t (← asAddr (a.tmps.getD q undef))

theorem retAllA_sound {tm : TM} {H : FW} {a : Act} {w : World} {β : Bm} (hs : SR P F lv n β tm H a w) : ∀ {rs : List ResultVar} {l : List Value}, retAllA P lv tm H rs = some l →
    ∃ us, (rs.mapM (retOne a)).run P w = .ok us w ∧ VRs β l us ∧ us.length = rs.length
  | [], l, h => by
    simp only [retAllA, Option.some.injEq] at h
    subst h
    exact ⟨[], rfl, .nil, rfl⟩
  | v :: r, l, h => by
    unfold retAllA at h
    split at h
    · rename_i u us h1 h2
      simp only [Option.some.injEq] at h
      subst h
      obtain ⟨vs, g1, g2, g3⟩ := retAllA_sound hs h2
      have key : ∃ x, (retOne a v).run P w = .ok x w ∧ VR β u x := by
        cases v with
        | tmp t =>
          simp only [retOneA, Option.some.injEq] at h1
          subst h1
          exact ⟨_, rfl, hs.fm.vals t⟩
        | cell q t =>
          simp only [retOneA] at h1
          have hq := hs.fm.vals q
          obtain ⟨x, hx, hr⟩ := loadA_sound hs.wr hq h1
          refine ⟨x, ?_, hr⟩
          have hx := hx w (.inr (Below.refl _ _))
          unfold loadA at h1
          split at h1
          · rename_i ad hvq
            rw [hvq] at hq
            obtain ⟨k, _, _, hp⟩ := hq.ptr_inv
            rw [hp] at hx
            simp only [retOne, hp]
            exact hx
          · cases h1
      obtain ⟨x, hx, hr⟩ := key
      refine ⟨x :: vs, ?_, .cons hr g2, by simp [g3]⟩
      rw [List.mapM_cons, Sem.run_bind, hx, Result.andThen_ok, Sem.run_bind, g1]
      rfl
    · cases h

theorem results_sound {tm : TM} {H : FW} {a : Act} {w : World} {β : Bm} (hs : SR P F lv n β tm H a w) {fn : Func} {l : List Value} (h : retAllA P lv tm H fn.results.toList = some l) :
    ∃ v, (results fn a.tmps).run P w = .ok v w ∧ VR β (tupA l) v := by
  obtain ⟨us, h1, h2, h3⟩ := retAllA_sound hs h
  have hres : results fn a.tmps = (do
      let vs ← fn.results.mapM (retOne a)
      pure (if h : vs.size = 1 then vs[0] else .tuple vs)) := by
    unfold results
    congr 1
  have hm : (fn.results.mapM (retOne a)).run P w = .ok us.toArray w := by
    rw [Array.mapM_eq_mapM_toList, Sem.run_map, h1]
    rfl
  rw [hres, Sem.run_bind, hm, Result.andThen_ok]
  cases h2 with
  | nil => exact ⟨_, rfl, .tuple .nil⟩
  | cons hv hvs =>
    cases hvs with
    | nil => exact ⟨_, rfl, hv⟩
    | cons hv' hvs' =>
      refine ⟨.tuple _, ?_, .tuple (.cons hv (.cons hv' hvs'))⟩
      rw [dif_neg (by simp)]
      rfl

/-! Calls. -/

theorem argsT_get : ∀ (vs : List Value) (i : Nat) (tm : TM), ∀ t, TM.val lv (argsT vs i tm) t = if i ≤ t ∧ t < i + vs.length then vs.getD (t - i) undef else TM.val lv tm t
  | [], i, tm, t => by
    rw [if_neg (by simp)]
    rfl
  | v :: r, i, tm, t => by
    simp only [List.length_cons]
    show TM.val lv (argsT r (i + 1) (tm.put i v)) t = _
    rw [argsT_get r (i + 1)]
    by_cases h1 : i + 1 ≤ t ∧ t < i + 1 + r.length
    · rw [if_pos h1, if_pos (by omega), show t - i = (t - (i + 1)) + 1 by omega, List.getD_cons_succ]
    · rw [if_neg h1, put_val]
      by_cases e : t = i
      · subst e
        rw [if_pos rfl, if_pos (by omega)]
        simp
      · rw [if_neg e, if_neg (by omega)]

theorem argsT_oks : ∀ (vs : List Value) (i : Nat) (tm : TM), i + vs.length ≤ 1000000 → (∀ p ∈ tm.loc, okN p.1 = true) → ∀ p ∈ (argsT vs i tm).loc, okN p.1 = true
  | [], _, _, _, h => h
  | v :: r, i, tm, hl, h => by
    simp only [List.length_cons] at hl
    refine argsT_oks r (i + 1) _ (by omega) fun p hp => ?_
    rcases List.mem_cons.1 hp with rfl | hp
    · show Nat.blt i 1099511627770 = true
      rw [Nat.blt_eq]; omega
    · exact h p hp

theorem val_empty (t : Nat) : TM.val lv ⟨[], .nil⟩ t = bot := by
  show outV lv .nil t = bot
  unfold outV
  cases lv t <;> rfl

/-- What is known as a whole of a function is true. -/
def SmGood (P : Program) (I : World → Prop) (R : Nat) (g : FuncId) (s : Sm) : Prop :=
  ∀ (F : Nat → World → Prop) (β : Bm) (H : FW) (w : World) (vs us : List Value) (v : Value) (H' : FW), FOk I F R → R ≤ H.next → Lo H → WR P F β H w → VRs β vs us → s.f R vs H = some (v, H') →
    (Lo H' ∧ H.next ≤ H'.next) ∧ xupon P (fun u w' => (false = true → Up w w') ∧ ∃ β', VR β' v u ∧ BLe β β' ∧ WR P F β' H' w') ((callFunc g us.toArray).run P w)

theorem SmGood.weaken {P : Program} {I J : World → Prop} {R : Nat} {g : FuncId} {s : Sm} (h : SmGood P J R g s) (hij : ∀ w, I w → J w) : SmGood P I R g s :=
  fun F β H w vs us v H' hF => h F β H w vs us v H' ⟨hF.1, by obtain ⟨R1, w1, f1, f2⟩ := hF.2; exact ⟨R1, w1, f1, hij _ f2⟩⟩

/-- What is known of functions is true. -/
structure EnvGood (P : Program) (I : World → Prop) (E : Env) : Prop where
  st : ∀ w w', I w → Below w.heap.size w w' → I w'
  ss : ∀ g s, E.ss g = some s → ∀ R, SmGood P I R g s
  kn : ∀ g vs v, E.kn g vs = some v → vs.all flatC = true ∧ plainV v = true ∧ ∀ w, I w → Calls P g vs.toArray w fun e w' => e = .returned v ∧ Up w w'
  ext : ∀ g vs v, (∃ fn, P.funcs[g]? = some fn ∧ fn.body = none) → extA (E.ext g) vs = some v → ∀ w, I w → (callFunc g vs.toArray).run P w = .ok (.value v) w

theorem extA_rel {k : Nat} {vs us : List Value} {v : Value} {β : Bm} (h : extA k vs = some v) (hr : VRs β vs us) : us = vs ∧ VR β v v := by
  unfold extA at h
  split at h
  · simp only [Option.some.injEq] at h; subst h
    cases hr with
    | cons h1 h2 => cases h2 with
      | cons h2 h3 => cases h3; cases h1; cases h2; exact ⟨rfl, .int _ _⟩
  · simp only [Option.some.injEq] at h; subst h
    cases hr with
    | cons h1 h2 => cases h2 with
      | cons h2 h3 => cases h3; cases h1; cases h2; exact ⟨rfl, .int _ _⟩
  · obtain ⟨_, h⟩ := some_of_cond h
    simp only [Option.some.injEq] at h; subst h
    cases hr with
    | cons h1 h2 => cases h2 with
      | cons h2 h3 => cases h3; cases h1; cases h2; exact ⟨rfl, .int _ _⟩
  · cases h

theorem run_enter {f : FuncId} {fn : Func} {c : Code} (hf : P.funcs[f]? = some fn) (hname : (fn.name == "runtime.NumGoroutine") = false) (hb : fn.body = some c) (vs : Array Value) (w : World) :
    (callFunc f vs).run P w = .ok (.enter f vs) w := by
  unfold callFunc
  rw [Sem.run_bind, run_program, Result.andThen_ok, hf]
  have h3 : fn.body.isNone = false := by rw [hb]; rfl
  simp only [hname, h3, Bool.false_eq_true, if_false]
  rfl

theorem call_good {E : Env} (hE : EnvGood P I E) (hcl : ∀ R, CallGood P I R false (cl R)) (R : Nat) : CallGood P I R false (fun g vs H => callS P E cl R g vs H) := by
  intro F β H w g vs us v H' hF hR hlo hw hus h
  have h : callS P E cl R g vs H = some (v, H') := h
  unfold callS at h
  cases hss : E.ss g with
  | some s =>
    rw [hss] at h
    exact hE.ss g s hss R F β H w vs us v H' hF hR hlo hw hus h
  | none =>
  rw [hss] at h
  simp only at h
  split at h
  · rename_i fn hfn
    obtain ⟨hname, h⟩ := some_of_cond h
    have hname : (fn.name == "runtime.NumGoroutine") = false := by simpa using hname
    unfold bodyS at h
    cases hb : fn.body with
    | none =>
      rw [hb] at h
      simp only at h
      split at h
      · rename_i u he
        simp only [Option.some.injEq, Prod.mk.injEq] at h
        obtain ⟨rfl, rfl⟩ := h
        obtain ⟨rfl, hv⟩ := extA_rel he hus
        refine ⟨⟨hlo, Nat.le_refl _⟩, ?_⟩
        have hIw : I w := by obtain ⟨R1, w1, f1, f2⟩ := hF.2; exact hE.st w1 w f2 (hw.frame R1 w1 f1)
        rw [hE.ext g _ _ ⟨fn, hfn, hb⟩ he w hIw]
        exact ⟨fun h => (by cases h), β, hv, BLe.refl _, hw⟩
      · cases h
    | some c =>
      rw [hb] at h
      simp only at h
      rw [run_enter hfn hname hb]
      cases hkn : E.kn g vs with
      | some u =>
        rw [hkn] at h
        simp only at h
        simp only [Option.some.injEq, Prod.mk.injEq] at h
        obtain ⟨rfl, rfl⟩ := h
        obtain ⟨hfl, hpl, hc⟩ := hE.kn g _ _ hkn
        obtain rfl := flats_eq hfl hus
        have hIw : I w := by obtain ⟨R1, w1, f1, f2⟩ := hF.2; exact hE.st w1 w f2 (hw.frame R1 w1 f1)
        refine ⟨⟨hlo, Nat.le_refl _⟩, (hc w hIw).mono fun e w' ⟨he, hu⟩ => ⟨_, he, fun h => (by cases h), β, plain_self hpl, BLe.refl _, hw.up hu⟩⟩
      | none =>
        rw [hkn] at h
        simp only at h
        obtain ⟨hg, h⟩ := some_of_cond h
        rw [Bool.and_eq_true] at hg
        have hg1 := Nat.le_of_ble_eq_true hg.1
        have hg2 := Nat.le_of_ble_eq_true hg.2
        have hul := hus.length
        have hstart0 : SR P F (lvOf fn c) fn.ntmps β (argsT vs 0 ⟨[], .nil⟩) H { tmps := us.toArray ++ Array.replicate (fn.ntmps - us.toArray.size) undef, defers := [] } w := by
          refine ⟨⟨fun t => ?_, argsT_oks vs 0 _ (by omega) (fun p hp => by cases hp), by simp; omega, rfl⟩, hw, hlo⟩
          rw [argsT_get vs 0]
          by_cases ht : t < vs.length
          · rw [if_pos (by omega), Nat.sub_zero]
            obtain ⟨u, hu, hru⟩ := hus.get (List.getElem?_eq_getElem ht)
            have e1 : vs.getD t undef = vs[t] := by simp [List.getD, List.getElem?_eq_getElem ht]
            have e2 : (us.toArray ++ Array.replicate (fn.ntmps - us.toArray.size) undef).getD t undef = u := by
              rw [Array.getD_eq_getD_getElem?, Array.getElem?_append_left (by simp; omega)]
              simp [hu]
            rw [e1, e2]; exact hru
          · rw [if_neg (by omega), val_empty]
            exact .any
        have hstart := hstart0.flush
        unfold retS at h
        cases hca : codeA P (lvOf fn c) fn.ntmps cl R c ((argsT vs 0 ⟨[], .nil⟩).flush (lvOf fn c)) H with
        | none => rw [hca] at h; cases h
        | some q =>
          obtain ⟨x, tm', H1⟩ := q
          rw [hca] at h
          obtain ⟨h1, h2⟩ := code_good hcl hF c _ H _ w β x tm' H1 hstart hR hca
          have fin : (match retAllA P (lvOf fn c) tm' H1 fn.results.toList with
              | some l => some (tupA l, H1)
              | none => none) = some (v, H') → (exitOf x = .normal ∨ exitOf x = .ret) →
              (Lo H' ∧ H.next ≤ H'.next) ∧ Calls P g us.toArray w fun e w' => ∃ u, e = .returned u ∧ ((false = true → Up w w') ∧ ∃ β', VR β' v u ∧ BLe β β' ∧ WR P F β' H' w') := by
            intro h hx
            split at h
            · rename_i l hl
              simp only [Option.some.injEq, Prod.mk.injEq] at h
              obtain ⟨rfl, rfl⟩ := h
              refine ⟨h1, calls_of_wp hfn hb (Code.wp_mono (fun e a' w' he => ?_) h2)⟩
              obtain ⟨rfl, β', hb', hs'⟩ := he
              obtain ⟨u, hu, hru⟩ := results_sound (P := P) hs' hl
              have hpost : a'.defers = [] ∧ ∃ v', (results fn a'.tmps).run P w' = .ok v' w' ∧ ∃ u, Ending.returned v' = .returned u ∧ ((false = true → Up w w') ∧ ∃ β', VR β' (tupA l) u ∧ BLe β β' ∧ WR P F β' H1 w') :=
                ⟨hs'.fm.defers, u, hu, u, rfl, fun h => (by cases h), β', hru, hb', hs'.wr⟩
              rcases hx with hx | hx <;> rw [hx] <;> exact hpost
            · cases h
          cases x with
          | norm => exact fin h (.inl rfl)
          | ret => exact fin h (.inr rfl)
          | exit id => cases h
  · cases h

/-- Calls are as the store says. -/
theorem callA_good {E : Env} (hE : EnvGood P I E) : ∀ (f R : Nat), CallGood P I R false (callA P E f R)
  | 0, R => by intro F β H w g vs us v H' _ _ _ _ _ h; cases h
  | f + 1, R => call_good hE (fun R => callA_good hE f R) R

/-- A function's call, from a world of which the store says something: what it gives back, by the store; nothing that was there is written. -/
theorem calls_from {E : Env} (hE : EnvGood P I E) {f : Nat} {g : FuncId} {vs us : List Value} {v : Value} {H0 H' : FW} {β0 : Bm} (hc : callA P E f 600 g vs H0 = some (v, H')) (hf : ∃ fn c, P.funcs[g]? = some fn ∧ (fn.name == "runtime.NumGoroutine") = false ∧ fn.body = some c)
    (w : World) (hI : I w) (hlo : Lo H0) (hn : 600 ≤ H0.next) (hw : WR P (fun R' w0 => R' = 600 ∧ w0 = w) β0 H0 w) (hus : VRs β0 vs us) : Calls P g us.toArray w fun e w' => ∃ u, e = .returned u ∧ Up w w' ∧ ∃ β, BLe β0 β ∧ VR β v u ∧ WR P (fun R' w0 => R' = 600 ∧ w0 = w) β H' w' := by
  obtain ⟨fn, c, h1, h2, h3⟩ := hf
  obtain ⟨_, hx⟩ := callA_good hE f 600 _ _ H0 w g vs us v H' ⟨fun R' w0 h => by rw [h.1]; exact Nat.le_refl _, 600, w, ⟨rfl, rfl⟩, hI⟩ hn hlo hw hus hc
  rw [run_enter h1 h2 h3] at hx
  exact Calls.mono hx fun e w' ⟨u, he, _, β', hv, hb, hw'⟩ => ⟨u, he, hw'.frame 600 w ⟨rfl, rfl⟩, β', hb, hv, hw'⟩

/-- A world of which the store says nothing but where its variables lie: how great each is, and its elements' width. -/
def base0 (sz wd : Nat → Nat) : Bm := fun o => if o < 512 then some ⟨o, 0, sz o, wd o⟩ else none

theorem WR.base0 (sz wd : Nat → Nat) (w : World) : WR P (fun R' w0 => R' = 600 ∧ w0 = w) (Am.base0 sz wd) ⟨.nil, 600⟩ w := by
  refine ⟨fun g hg => ⟨⟨g, 0, sz g, wd g⟩, by simp [Am.base0, hg], rfl, rfl⟩, fun o ho _ => by simp [Am.base0]; omega, fun o x h => ?_, fun o o' x x' k k' h => ?_, fun R' w0 _ o x k h => ?_, fun R' w0 h => ?_, fun o c e k h => ?_⟩
  · have h' : none = some x := h
    cases h'
  · have h' : none = some x := h
    cases h'
  · have h' : none = some x := h
    cases h'
  · obtain ⟨_, rfl⟩ := h; exact Below.refl _ _
  · have h' : none = some (AObj.cells c e) := h
    cases h'

/-- One more block that the world holds, to be read. -/
theorem WR.tab {β : Bm} {H : FW} {w : World} {o : Nat} {k : Pl} {x : AObj} (h : WR P (fun R' w0 => R' = 600 ∧ w0 = w) β H w) (ho : H.heap.get o = none) (hlt : o < 600) (hb : β o = none ∧ 512 ≤ o ∨ β o = some k)
    (hno : ∀ o' x' k', H.heap.get o' = some x' → x'.live = true → β o' = some k' → k'.b ≠ k.b) (hx : OR (bset β o k) w k x) (hwd : ∀ c e, x = .cells c e → k.wd = P.cellsOf e) : WR P (fun R' w0 => R' = 600 ∧ w0 = w) (bset β o k) ⟨H.heap.set o x, H.next⟩ w := by
  have hok : okN o = true := by unfold okN; rw [Nat.blt_eq]; omega
  have get : ∀ o', (H.heap.set o x).get o' = if o' = o then some x else H.heap.get o' := fun o' => T.get_set _ _ _ hok
  have old : ∀ o', o' ≠ o → bset β o k o' = β o' := fun o' he => by simp [bset, he]
  have hle : BLe β (bset β o k) := by
    rcases hb with ⟨hb, _⟩ | hb
    · exact bset_le hb
    · intro o' k' hk'
      by_cases e : o' = o
      · subst e; rw [bset_same, ← hb]; exact hk'
      · rw [old _ e]; exact hk'
  refine ⟨fun g hg => ?_, fun o' h5' hg => ?_, fun o' y hy => ?_, ?_, fun R w0 hF o' y k' hy hl hR hk' => ?_, h.frame, fun o' c e k' hy hk' => ?_⟩
  · obtain ⟨kg, h1, h2, h3⟩ := h.gl g hg
    exact ⟨kg, hle _ _ h1, h2, h3⟩
  · simp only [get] at hg
    split at hg
    · cases hg
    · rename_i e; rw [old _ e]; exact h.fresh _ h5' hg
  · simp only [get] at hy
    split at hy
    · rename_i e
      simp only [Option.some.injEq] at hy
      subst hy; subst e
      exact ⟨k, bset_same _ _ _, hx⟩
    · rename_i e
      obtain ⟨k', hk', ho'⟩ := h.objs _ _ hy
      exact ⟨k', by rw [old _ e]; exact hk', ho'.keep hle fun _ => rfl⟩
  · intro o1 o2 x1 x2 k1 k2 g1 g2 l1 l2 hne hk1 hk2
    simp only [get] at g1 g2
    split at g1
    · rename_i e1
      subst e1
      rw [bset_same] at hk1
      simp only [Option.some.injEq] at hk1
      subst hk1
      split at g2
      · rename_i e2; exact absurd e2.symm hne
      · rename_i e2
        rw [old _ e2] at hk2
        exact fun e => hno _ _ _ g2 l2 hk2 e.symm
    · rename_i e1
      rw [old _ e1] at hk1
      split at g2
      · rename_i e2
        subst e2
        rw [bset_same] at hk2
        simp only [Option.some.injEq] at hk2
        subst hk2
        exact hno _ _ _ g1 l1 hk1
      · rename_i e2
        rw [old _ e2] at hk2
        exact h.inj _ _ _ _ _ _ g1 g2 l1 l2 hne hk1 hk2
  · simp only [get] at hy
    split at hy
    · have := hF.1
      omega
    · rename_i e
      rw [old _ e] at hk'
      exact h.mine R w0 hF o' y k' hy hl hR hk'
  · simp only [get] at hy
    split at hy
    · rename_i e1
      subst e1
      rw [bset_same] at hk'
      simp only [Option.some.injEq] at hk' hy
      subst hk'
      exact hwd c e hy
    · rename_i e1
      rw [old _ e1] at hk'
      exact h.wide _ _ _ _ hy hk'

/-- A function's call, from a world: what it gives back, by the store; nothing that was there is written. -/
theorem calls_by {E : Env} (hE : EnvGood P I E) {f : Nat} {g : FuncId} {vs us : List Value} {v : Value} {H' : FW} (hc : callA P E f 600 g vs ⟨.nil, 600⟩ = some (v, H')) (hf : ∃ fn c, P.funcs[g]? = some fn ∧ (fn.name == "runtime.NumGoroutine") = false ∧ fn.body = some c)
    (hus : ∀ β, VRs β vs us) (w : World) (hI : I w) : Calls P g us.toArray w fun e w' => ∃ u, e = .returned u ∧ Up w w' ∧ ∃ β, VR β v u := by
  refine Calls.mono (calls_from hE hc hf w hI ⟨by decide, fun o _ => rfl⟩ (Nat.le_refl _) (WR.base0 (fun _ => 0) (fun _ => 0) w) (hus _)) fun e w' ⟨u, he, hu, β', _, hv, _⟩ => ⟨u, he, hu, β', hv⟩

end
end Go.Am
