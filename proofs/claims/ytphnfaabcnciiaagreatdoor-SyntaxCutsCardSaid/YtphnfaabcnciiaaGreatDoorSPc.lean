/- The parser's types and statements, side by side. No conditions. -/
import Derived.Test.YtphnfaabcnciiaaGreatDoorSPb
import Derived.Test.YtphnfaabcnciiaaGreatDoorGc
set_option linter.unusedVariables false
set_option linter.unusedSimpArgs false
set_option linter.unusedSectionVars false
namespace Go.Proofs.YtphnfaabcnciiaaGreatDoor
open Go Go.Dl
namespace Side
variable {c : Side}
theorem lw {α : Type} [Par α] {Q : α → Prop} {o o' : Option α} (h : c.Sim c.Broken Q o o') : c.Sim c.Gone Q o o' := h.mono (fun _ g => g.1) fun _ g => g
theorem L19 (hc : c.Good) {p : S65} (h : c.Ok p) (K : Nat) (d : Int) (hK : 64 * c.nu p + 121 ≤ K) : c.Sim c.Gone (fun a => c.Mv true p a.2) (fnS (F19 K p d)) ((c.XX p).bind fun q => fnS (F19 K q d)) := (exprs hc K).1 p d h hK
theorem L74 (hc : c.Good) {p : S65} (h : c.Ok p) (K : Nat) (d : Int) (hK : 64 * c.nu p + 111 ≤ K) : c.Sim c.Broken (fun a => c.Mv true p a.2) (fnS (F74 K p d)) ((c.XX p).bind fun q => fnS (F74 K q d)) := (exprs hc K).2.2.2.1 p d h hK
theorem L75 (hc : c.Good) {p : S65} (h : c.Ok p) (K : Nat) (e : S25) (d : Int) (hK : 64 * c.nu p + 110 ≤ K) : c.Sim c.Broken (fun a => c.Mv true p a.2) (fnS (F75 K p e d)) ((c.XX p).bind fun q => fnS (F75 K q e d)) := (exprs hc K).2.2.2.2 p e d h hK
theorem L111 (hc : c.Good) {p : S65} (h : c.Ok p) (K : Nat) (hK : 101 < K) : c.Sim c.Gone (fun a => c.Mv true p a.2) (fnS (F111 K p)) ((c.XX p).bind fun q => fnS (F111 K q)) := by
  unfold F111
  refine sim_fnS (sim_tok hc h rfl ?_)
  simp only [blk_bind, blk_ite, blockS_lr, blockS_r, bindS_l, bindS_r, F128, fnS_l, Option.bind_some]
  refine sim_eyeE (eye_cond (g := true) (kind_eye hc h K 1 (by decide))) fun b0 a0 => sim_ite (fun hb => ?_) fun hb => ?_
  · exact sim_last (lw (L72 hc h K)) fun a ha => ⟨Sum.inl (_, a.2), rfl, rfl, ha, rfl⟩
  refine sim_eyeE (eye_cond (g := true) (is_eye hc h K _ (by simp) (by omega))) fun b1 a1 => sim_ite (fun hb => ?_) fun hb => ?_
  · have ha : c.Act p := a1 hb
    obtain ⟨i, hi⟩ := idx_some K [([84, 79, 78] : Bytes), ([84, 79, 70] : Bytes), ([84, 80] : Bytes), ([67, 84, 85] : Bytes), ([67, 84, 68] : Bytes), ([82, 95, 84, 82, 73, 71] : Bytes), ([70, 95, 84, 82, 73, 71] : Bytes)] (c.cur p).fText (by simp) (by omega)
    have e : ∀ q : S65, (c.tk (c.cur p)).fText = (c.cur p).fText := fun _ => rfl
    simp only [condM_t, e p, hi, Option.bind_some]
    exact sim_act ha (b := Sum.inl (_, adv p)) (adv_mv hc h ha) (by show Sum.inl (_, adv (c.ph p)) = _; rw [adv_ph hc h]; rfl)
  refine sim_accept hc h (by omega) (fun _ p1 h1 => ?_) ?_
  · exact sim_ret (b := Sum.inl ((_ : S91), p1)) h1 rfl (fun g => g)
  simp only [Bool.false_eq_true, if_false]
  refine sim_accept hc h (by omega) (fun _ p1 h1 => ?_) ?_
  · simp only [if_true]
    exact sim_last (lw (L72 hc h1.ok K)) fun a ha => ⟨Sum.inl (_, a.2), rfl, rfl, h1.trans ha, rfl⟩
  simp only [Bool.false_eq_true, if_false]
  refine sim_accept hc h (by omega) (fun _ p1 h1 => ?_) ?_
  · simp only [if_true]
    refine sim_call1 (L93 hc h1.ok K _ (by simp) (by simp) (by omega)) fun p2 h2 => ?_
    refine sim_call2 rfl (fun _ g => g.1) (L70 hc h2.ok K) fun v p3 h3 => ?_
    dsimp only at h3 ⊢
    exact sim_last (lw (L93 hc h3.ok K _ (by simp) (by simp) (by omega))) fun a ha => ⟨Sum.inl (_, a), rfl, rfl, ((h1.trans h2).trans h3).trans ha, rfl⟩
  simp only [Bool.false_eq_true, if_false]
  refine sim_call1 (L93 hc h K _ (by simp) (by simp) (by omega)) fun p1 h1 => ?_
  refine sim_accept hc h1.ok (by omega) (fun _ p2 h2 => ?_) ?_
  · simp only [Bool.not_true, Bool.false_eq_true, if_false]
    refine sim_call2 rfl (fun _ g => g.1) (L112 hc h2.ok K (by omega)) fun v p3 h3 => ?_
    dsimp only at h3 ⊢
    refine sim_call1 (L93 hc h3.ok K _ (by simp) (by simp) (by omega)) fun p4 h4 => ?_
    refine sim_call2 rfl (fun _ g => g.1) (L112 hc h4.ok K (by omega)) fun v2 p5 h5 => ?_
    dsimp only at h5 ⊢
    exact sim_last (lw (L93 hc h5.ok K _ (by simp) (by simp) (by omega))) fun a ha => ⟨Sum.inl (_, a), rfl, rfl, ((((h1.trans h2).trans h3).trans h4).trans h5).trans ha, rfl⟩
  · simp only [Bool.not_false, if_true]
    exact sim_ret (b := Sum.inl ((_ : S91), p1)) h1 rfl (fun g => g)
theorem L129 (hc : c.Good) {p : S65} (h : c.Ok p) (K : Nat) (hK : 64 * c.nu p + 130 ≤ K) : c.Sim c.Gone (fun a => c.Mv true p a.2) (fnS (F129 K p)) ((c.XX p).bind fun q => fnS (F129 K q)) := by
  unfold F129
  refine sim_fnS ?_
  simp only [blk_bind, blk_ite, blockS_lr, blockS_r, bindS_l, bindS_r]
  refine sim_call2 rfl (fun _ g => g.1) (L72 hc h K) fun v p1 h1 => ?_
  dsimp only at h1 ⊢
  have n1 := h1.nu
  refine sim_accept hc h1.ok (by omega) (fun _ p2 h2 => ?_) ?_
  · simp only [if_true]
    have n2 := h2.nu
    exact sim_last (L19 hc h2.ok K 1 (by omega)) fun a ha => ⟨Sum.inl (_, a.2), rfl, rfl, (h1.trans h2).trans ha, rfl⟩
  simp only [Bool.false_eq_true, if_false]
  refine sim_accept hc h1.ok (by omega) (fun _ p2 h2 => ?_) ?_
  · simp only [if_true]
    have n2 := h2.nu
    exact sim_last (L19 hc h2.ok K 1 (by omega)) fun a ha => ⟨Sum.inl (_, a.2), rfl, rfl, (h1.trans h2).trans ha, rfl⟩
  simp only [Bool.false_eq_true, if_false]
  refine sim_accept hc h1.ok (by omega) (fun _ p2 h2 => ?_) ?_
  · simp only [if_true]
    have n2 := h2.nu
    refine sim_call2 rfl (fun _ g => g) (L19 hc h2.ok K 1 (by omega)) fun v3 p3 h3 => ?_
    dsimp only at h3 ⊢
    have n3 := h3.nu
    refine sim_call1 (L93 hc h3.ok K _ (by simp) (by simp) (by omega)) fun p4 h4 => ?_
    have n4 := h4.nu
    exact sim_last (L19 hc h4.ok K 1 (by omega)) fun a ha => ⟨Sum.inl (_, a.2), rfl, rfl, (((h1.trans h2).trans h3).trans h4).trans ha, rfl⟩
  simp only [Bool.false_eq_true, if_false]
  refine sim_eyeE (eye_cond (g := true) (is_eye hc h1.ok K _ (by simp) (by omega))) fun b0 a0 => sim_ite (fun hb => ?_) fun hb => ?_
  · exact sim_last (lw (L75 hc h1.ok K _ 1 (by omega))) fun a ha => ⟨Sum.inl (_, a.2), rfl, rfl, h1.trans ha, rfl⟩
  exact sim_last (lw (L20 hc h1.ok K)) fun a ha => ⟨Sum.inl (_, a), rfl, rfl, h1.trans ha.1, rfl⟩
def P97 (c : Side) (K : Nat) : Prop := ∀ p d (l : List Bytes), c.Ok p → l.length ≤ 100 → 64 * c.nu p + 200 ≤ K → c.Sim c.Gone (fun a => c.Mv false p a.2) (fnS (F97 K p d l)) ((c.XX p).bind fun q => fnS (F97 K q d l))
def P115 (c : Side) (K : Nat) : Prop := ∀ p d, c.Ok p → 64 * c.nu p + 199 ≤ K → c.Sim c.Broken (fun a => c.Mv true p a.2) (fnS (F115 K p d)) ((c.XX p).bind fun q => fnS (F115 K q d))
def P130 (c : Side) (K : Nat) : Prop := ∀ p d, c.Ok p → 64 * c.nu p + 240 ≤ K → c.Sim c.Broken (fun a => c.Mv true p a.2) (fnS (F130 K p d)) ((c.XX p).bind fun q => fnS (F130 K q d))
def P131 (c : Side) (K : Nat) : Prop := ∀ p d, c.Ok p → 64 * c.nu p + 240 ≤ K → c.Sim c.Broken (fun a => c.Mv true p a.2) (fnS (F131 K p d)) ((c.XX p).bind fun q => fnS (F131 K q d))
def P132 (c : Side) (K : Nat) : Prop := ∀ p d, c.Ok p → 64 * c.nu p + 240 ≤ K → c.Sim c.Broken (fun a => c.Mv true p a.2) (fnS (F132 K p d)) ((c.XX p).bind fun q => fnS (F132 K q d))
def P141 (c : Side) (K : Nat) : Prop := ∀ p d (t : Bytes), c.Ok p → 64 * c.nu p + 202 ≤ K → c.Sim c.Broken (fun a => c.Mv true p a.2) (fnS (F141 K p d t)) ((c.XX p).bind fun q => fnS (F141 K q d t))
theorem S141 (hc : c.Good) (K : Nat) (h97 : P97 c K) : P141 c (K + 1) := by
  intro p d t h hK
  simp only [F141]
  refine sim_fnS ?_
  simp only [bnd_bind, bnd_ite, bindS_r]
  refine sim_accept hc h (by omega) (fun _ p1 h1 => ?_) ?_
  · simp only [if_true]
    have n1 := h1.nu
    refine sim_call2 rfl (fun _ g => g) (h97 p1 _ _ h1.ok (by simp) (by omega)) fun v p2 h2 => ?_
    dsimp only at h2 ⊢
    exact sim_last (L93 hc h2.ok K _ (by simp) (by simp) (by omega)) fun a ha => ⟨Sum.inl (_, a), rfl, rfl, (h1.trans h2).trans ha, rfl⟩
  · simp only [Bool.false_eq_true, if_false]
    exact sim_last (L93 hc h K _ (by simp) (by simp) (by omega)) fun a ha => ⟨Sum.inl (_, a), rfl, rfl, ha, rfl⟩
theorem S132 (hc : c.Good) (K : Nat) (h97 : P97 c K) : P132 c (K + 1) := by
  intro p d h hK
  simp only [F132]
  refine sim_fnS ?_
  refine sim_call2 rfl (fun _ g => g.1) (L72 hc h K) fun v1 p1 h1 => ?_
  dsimp only at h1 ⊢
  have n1 := h1.nu
  refine sim_call1 (L93 hc h1.ok K _ (by simp) (by simp) (by omega)) fun p2 h2 => ?_
  have n2 := h2.nu
  refine sim_call2 rfl (fun _ g => g) (L19 hc h2.ok K 1 (by omega)) fun v3 p3 h3 => ?_
  dsimp only at h3 ⊢
  have n3 := h3.nu
  refine sim_call1 (L93 hc h3.ok K _ (by simp) (by simp) (by omega)) fun p4 h4 => ?_
  have n4 := h4.nu
  refine sim_call2 rfl (fun _ g => g) (L19 hc h4.ok K 1 (by omega)) fun v5 p5 h5 => ?_
  dsimp only at h5 ⊢
  have n5 := h5.nu
  refine sim_call1 (L93 hc h5.ok K _ (by simp) (by simp) (by omega)) fun p6 h6 => ?_
  have n6 := h6.nu
  refine sim_call2 rfl (fun _ g => g.1) (L112 hc h6.ok K (by omega)) fun v7 p7 h7 => ?_
  dsimp only at h7 ⊢
  have n7 := h7.nu
  refine sim_call1 (L93 hc h7.ok K _ (by simp) (by simp) (by omega)) fun p8 h8 => ?_
  have n8 := h8.nu
  refine sim_call2 rfl (fun _ g => g) (h97 p8 _ _ h8.ok (by simp) (by omega)) fun v9 p9 h9 => ?_
  dsimp only at h9 ⊢
  exact sim_last (L93 hc h9.ok K _ (by simp) (by simp) (by omega)) fun a ha => ⟨Sum.inl (_, a), rfl, rfl, ((((((((h1.trans h2).trans h3).trans h4).trans h5).trans h6).trans h7).trans h8).trans h9).trans ha, rfl⟩
theorem S97 (hc : c.Good) (K : Nat) (h115 : P115 c K) : P97 c (K + 1) := by
  intro p d l h hl hK
  simp only [F97]
  refine sim_fnS ?_
  obtain ⟨v, hv⟩ := has_some K l [48] hl (by omega)
  refine sim_eyeE (eye_cond (g := true) (begins_eye hc h K (by omega))) fun b1 a1 => ?_
  refine sim_eyeE (eye_cond (g := !b1) (is_eye hc h K _ hl (by omega))) fun b2 a2 => ?_
  refine sim_eye (Eye.cond (g := !(b1 || b2)) (d := default) (f := fun _ => fnS (F60 K l [48])) (b := v) ⟨hv, fun _ => hv⟩) ?_
  generalize (if (!(b1 || b2)) = true then v else default) = b3
  refine sim_eyeE (eye_cond (g := b3 && (!(b1 || b2))) (integer_eye hc h K (by omega))) fun b4 a4 => ?_
  refine sim_bndS (Qa := fun _ => False) (Qt := fun t => c.Mv false p t) (sim_ite (fun hb => ?_) fun hb => ?_) (fun a ha => ha.elim) fun p1 h1 => ?_
  · have ha : c.Act p := eye_or (eye_or a1 a2) (fun hx => a4 (by rw [Bool.and_eq_true] at hx; exact hx.2)) hb
    exact sim_last (L38 hc h ha K d) fun a ha => ⟨Sum.inr a, rfl, rfl, ha, rfl⟩
  · exact sim_ret (b := Sum.inr p) (Mv.refl h) rfl (fun g => g)
  have n1 := h1.nu
  refine sim_bndS (Qa := fun _ => False) (Qt := fun (t : S65 × List S122) => c.Mv false p t.1) (sim_blkS (sim_mapInl (Qa := QS (fun (t : S65 × List S122) => c.Mv false p t.1) (fun _ => False)) (sim_iterP [] (fun t => c.nu t.1) (fun t => c.Mv false p t.1 ∧ t.2.length + c.nu t.1 ≤ c.nu p) (fun p4 l4 hi => ?_) K ⟨h1, by simp; omega⟩ (by dsimp only; omega)))) (fun a ha => ha.elim) fun t ht => ?_
  · obtain ⟨h4, hl⟩ := hi
    dsimp only at h4 hl ⊢
    have n4 := h4.nu
    refine sim_eyeE (eye_cond (g := true) (begins_eye hc h4.ok K (by omega))) fun b5 a5 => sim_ite (fun hb => ?_) fun hb => ?_
    · have ha := a5 hb
      have np := ha.nu
      simp only [blk_bind]
      refine sim_call (L30 hc h4.ok ha K _ _) fun p5 h5 => ?_
      have n5 := h5.nu
      refine sim_call2 rfl (fun _ g => g.1) (h115 p5 _ h5.ok (by omega)) fun v p6 h6 => ?_
      dsimp only at h6 ⊢
      have n6 := h6.nu_lt
      have hn := nu_le hc h
      refine sim_bndS (Qa := fun _ => False) (Qt := fun (t : S65 × List S122) => t = (p6, l4 ++ [v])) (sim_blkS (sim_chk (room_le (by simp; omega)) (sim_ret (b := Sum.inr (p6, l4 ++ [v])) rfl rfl (fun g => g)))) (fun a ha => ha.elim) fun t ht => ?_
      subst ht
      rw [XX_pair]
      exact sim_ret (b := Sum.inr (p6, l4 ++ [v])) ⟨⟨(h4.trans h5).trans h6.weak, by simp; omega⟩, by dsimp only; omega⟩ rfl (fun g => g)
    · exact sim_ret (b := Sum.inl (Sum.inl (p4, l4))) h4 rfl (fun g => g)
  · obtain ⟨p4, l4⟩ := t
    rw [XX_pair]
    exact sim_ret (b := Sum.inl (l4, p4)) ht rfl (fun g => g)
theorem S115 (hc : c.Good) (K : Nat) (h97 : P97 c K) (h130 : P130 c K) (h131 : P131 c K) (h132 : P132 c K) : P115 c (K + 1) := by
  intro p d h hK
  simp only [F115]
  refine sim_fnS ?_
  refine sim_bndS (Qa := fun _ => False) (Qt := fun (t : S65 × Int × Int × Bytes × List S25 × List (List Int) × List (List S122)) => c.Mv false p t.1) (sim_blkS ?_) (fun a ha => ha.elim) fun t ht => ?_
  · refine sim_eyeE (eye_cond (g := true) (kind_eye hc h K 1 (by decide))) fun b0 a0 => sim_ite (fun hb => ?_) fun hb => ?_
    · exact sim_last (L129 hc h K (by omega)) fun a ha => ⟨Sum.inr (a.2, _), rfl, rfl, ha.weak, rfl⟩
    refine sim_eyeE (eye_cond (g := true) (is_eye hc h K _ (by simp) (by omega))) fun b1 a1 => sim_ite (fun hb => ?_) fun hb => ?_
    · exact sim_last (lw (L74 hc h K 1 (by omega))) fun a ha => ⟨Sum.inr (a.2, _), rfl, rfl, ha.weak, rfl⟩
    refine sim_accept hc h (by omega) (fun ha p1 h1 => ?_) ?_
    · simp only [if_true]
      have np := ha.nu
      have n1 := h1.nu_lt
      exact sim_last (lw (h130 p1 d h1.ok (by omega))) fun a ha => ⟨Sum.inr (a.2, _), rfl, rfl, (h1.trans ha).weak, rfl⟩
    simp only [Bool.false_eq_true, if_false]
    refine sim_accept hc h (by omega) (fun ha p1 h1 => ?_) ?_
    · simp only [if_true]
      have np := ha.nu
      have n1 := h1.nu_lt
      exact sim_last (lw (h131 p1 d h1.ok (by omega))) fun a ha => ⟨Sum.inr (a.2, _), rfl, rfl, (h1.trans ha).weak, rfl⟩
    simp only [Bool.false_eq_true, if_false]
    refine sim_accept hc h (by omega) (fun ha p1 h1 => ?_) ?_
    · simp only [if_true]
      have np := ha.nu
      have n1 := h1.nu_lt
      refine sim_call2 rfl (fun _ g => g) (L19 hc h1.ok K 1 (by omega)) fun v2 p2 h2 => ?_
      dsimp only at h2 ⊢
      have n2 := h2.nu
      refine sim_call1 (L93 hc h2.ok K _ (by simp) (by simp) (by omega)) fun p3 h3 => ?_
      have n3 := h3.nu
      refine sim_call2 rfl (fun _ g => g) (h97 p3 _ _ h3.ok (by simp) (by omega)) fun v4 p4 h4 => ?_
      dsimp only at h4 ⊢
      exact sim_last (lw (L93 hc h4.ok K _ (by simp) (by simp) (by omega))) fun a ha => ⟨Sum.inr (a, _), rfl, rfl, ((((h1.trans h2).trans h3).trans h4).trans ha).weak, rfl⟩
    simp only [Bool.false_eq_true, if_false]
    refine sim_accept hc h (by omega) (fun ha p1 h1 => ?_) ?_
    · simp only [if_true]
      have np := ha.nu
      have n1 := h1.nu_lt
      exact sim_last (lw (h132 p1 d h1.ok (by omega))) fun a ha => ⟨Sum.inr (a.2, _), rfl, rfl, (h1.trans ha).weak, rfl⟩
    simp only [Bool.false_eq_true, if_false]
    refine sim_accept hc h (by omega) (fun ha p1 h1 => ?_) ?_
    · simp only [if_true]
      have n1 := h1.nu
      refine sim_eyeE (eye_cond (g := true) (is_eye hc h1.ok K _ (by simp) (by omega))) fun b1 a1 => sim_ite (fun hb => ?_) fun hb => ?_
      · exact sim_last (L19 hc h1.ok K 1 (by omega)) fun a ha => ⟨Sum.inr (a.2, _), rfl, rfl, (h1.trans ha).weak, rfl⟩
      · exact sim_ret (b := Sum.inr (p1, _)) h1.weak rfl (fun g => g)
    simp only [Bool.false_eq_true, if_false]
    refine sim_accept hc h (by omega) (fun ha p1 h1 => ?_) ?_
    · exact sim_ret (b := Sum.inr (p1, _)) h1.weak rfl (fun g => g)
    simp only [Bool.false_eq_true, if_false]
    refine sim_accept hc h (by omega) (fun ha p1 h1 => ?_) ?_
    · simp only [if_true]
      have n1 := h1.nu
      refine sim_call2 rfl (fun _ g => g.1) (L72 hc h1.ok K) fun v2 p2 h2 => ?_
      dsimp only at h2 ⊢
      have n2 := h2.nu
      refine sim_call1 (L93 hc h2.ok K _ (by simp) (by simp) (by omega)) fun p3 h3 => ?_
      have n3 := h3.nu
      refine sim_call2 rfl (fun _ g => g) (L19 hc h3.ok K 1 (by omega)) fun v4 p4 h4 => ?_
      dsimp only at h4 ⊢
      have n4 := h4.nu
      refine sim_call1 (L93 hc h4.ok K _ (by simp) (by simp) (by omega)) fun p5 h5 => ?_
      have n5 := h5.nu
      refine sim_call2 rfl (fun _ g => g) (L19 hc h5.ok K 1 (by omega)) fun v6 p6 h6 => ?_
      dsimp only at h6 ⊢
      exact sim_last (lw (L93 hc h6.ok K _ (by simp) (by simp) (by omega))) fun a ha => ⟨Sum.inr (a, _), rfl, rfl, ((((((h1.trans h2).trans h3).trans h4).trans h5).trans h6).trans ha).weak, rfl⟩
    simp only [Bool.false_eq_true, if_false]
    exact sim_ret (b := Sum.inr (p, _)) (Mv.refl h) rfl (fun g => g)
  · obtain ⟨p1, v⟩ := t
    rw [XX_pair]
    dsimp only at ht ⊢
    exact sim_last (L93 hc ht.ok K _ (by simp) (by simp) (by omega)) fun a ha => ⟨Sum.inl (_, a), rfl, rfl, ht.trans ha, rfl⟩
theorem S130 (hc : c.Good) (K : Nat) (h97 : P97 c K) (h141 : P141 c K) : P130 c (K + 1) := by
  intro p d h hK
  simp only [F130]
  refine sim_fnS ?_
  have hn := nu_le hc h
  refine sim_bndS (Qa := fun _ => False) (Qt := fun (t : S65 × List S25 × List (List S122)) => c.Mv false p t.1 ∧ t.2.2.length + c.nu t.1 ≤ c.nu p) (sim_blkS (sim_mapInl (Qa := QS (fun (t : S65 × List S25 × List (List S122)) => c.Mv false p t.1 ∧ t.2.2.length + c.nu t.1 ≤ c.nu p) (fun _ => False)) (sim_iterP ([], [], true) (fun t => c.nu t.1) (fun t => c.Mv false p t.1 ∧ t.2.1.length + c.nu t.1 ≤ c.nu p ∧ t.2.2.1.length + c.nu t.1 ≤ c.nu p) (fun p4 b4 hi => ?_) K ⟨Mv.refl h, by simp, by simp⟩ (by dsimp only; omega)))) (fun a ha => ha.elim) fun t ht => ?_
  · obtain ⟨l, m, more⟩ := b4
    obtain ⟨h4, hl, hm⟩ := hi
    dsimp only at h4 hl hm ⊢
    have n4 := h4.nu
    refine sim_eye (Eye.cond (g := more) (d := default) (ok_eye K)) ?_
    refine sim_ite (fun hmo => ?_) fun hmo => ?_
    · have he : p4.ferr = [] := by
        cases more
        · cases hmo
        · simpa using hmo
      have np := nu_pos (c := c) he
      refine sim_bndS (Qa := fun _ => False) (Qt := fun (t : S65 × List S25 × List (List S122)) => c.Mv true p4 t.1 ∧ t.2.1.length = l.length + 1 ∧ t.2.2.length = m.length + 1) (sim_blkS ?_) (fun a ha => ha.elim) fun t ht => ?_
      · refine sim_call2 rfl (fun _ g => g) (L19 hc h4.ok K 1 (by omega)) fun v p5 h5 => ?_
        dsimp only at h5 ⊢
        have n5 := h5.nu
        refine sim_chk (room_le (by simp; omega)) ?_
        refine sim_call1 (L93 hc h5.ok K _ (by simp) (by simp) (by omega)) fun p6 h6 => ?_
        have n6 := h6.nu
        refine sim_call2 rfl (fun _ g => g) (h97 p6 _ _ h6.ok (by simp) (by omega)) fun w p7 h7 => ?_
        dsimp only at h7 ⊢
        have n7 := h7.nu
        refine sim_chk (room_le (by simp; omega)) ?_
        refine sim_eyeE (eye_cond (g := true) (is_eye hc h7.ok K _ (by simp) (by omega))) fun b1 a1 => sim_ite (fun hb => ?_) fun hb => ?_
        · exact sim_last (L30 hc h7.ok (a1 hb) K _ _) fun a ha => ⟨Sum.inr (a, l ++ [v], m ++ [w]), rfl, rfl, ⟨((h5.trans h6).trans h7).trans ha, by simp, by simp⟩, rfl⟩
        · exact sim_ret (b := Sum.inr (p7, l ++ [v], m ++ [w])) ⟨(h5.trans h6).trans h7, by simp, by simp⟩ rfl (fun g => g)
      · obtain ⟨p5, l5, m5⟩ := t
        obtain ⟨h5, hl5, hm5⟩ := ht
        rw [XX_pair]
        dsimp only at h5 hl5 hm5 ⊢
        have n5 := h5.nu_lt
        refine sim_accept hc h5.ok (by omega) (fun _ p6 h6 => ?_) ?_
        · have n6 := h6.nu
          exact sim_ret (b := Sum.inr (p6, l5, m5, true)) ⟨⟨((h4.trans h5).trans h6).weak, by dsimp only; omega, by dsimp only; omega⟩, by dsimp only; omega⟩ rfl (fun g => g)
        · exact sim_ret (b := Sum.inr (p5, l5, m5, false)) ⟨⟨(h4.trans h5).weak, by dsimp only; omega, by dsimp only; omega⟩, by dsimp only; omega⟩ rfl (fun g => g)
    · exact sim_ret (b := Sum.inl (Sum.inl (p4, l, m))) ⟨h4, hm⟩ rfl (fun g => g)
  · obtain ⟨p4, l4, m4⟩ := t
    obtain ⟨h4, hm⟩ := ht
    rw [XX_pair]
    dsimp only at h4 hm ⊢
    have n4 := h4.nu
    exact sim_last (h141 p4 d _ h4.ok (by omega)) fun a ha => ⟨Sum.inl (_, a.2), (chk_t (room_le (by simp; omega))).trans rfl, (chk_t (room_le (by simp; omega))).trans rfl, h4.trans ha, rfl⟩
theorem S131 (hc : c.Good) (K : Nat) (h97 : P97 c K) (h141 : P141 c K) : P131 c (K + 1) := by
  intro p d h hK
  simp only [F131]
  refine sim_fnS ?_
  have hn := nu_le hc h
  refine sim_call2 rfl (fun _ g => g) (L19 hc h K 1 (by omega)) fun v1 p1 h1 => ?_
  dsimp only at h1 ⊢
  refine sim_call1 (L93 hc h1.ok K _ (by simp) (by simp) (by omega)) fun p2 h2 => ?_
  have h20 := h1.trans h2
  have n2 := h20.nu
  refine sim_bndS (Qa := fun _ => False) (Qt := fun (t : S65 × List (List Int) × List (List S122)) => c.Mv true p t.1 ∧ t.2.2.length + c.nu t.1 ≤ c.nu p) (sim_blkS (sim_mapInl (Qa := QS (fun (t : S65 × List (List Int) × List (List S122)) => c.Mv true p t.1 ∧ t.2.2.length + c.nu t.1 ≤ c.nu p) (fun _ => False)) (sim_iterP ([], []) (fun t => c.nu t.1) (fun t => c.Mv true p t.1 ∧ t.2.1.length + c.nu t.1 ≤ c.nu p ∧ t.2.2.length + c.nu t.1 ≤ c.nu p) (fun p4 b4 hi => ?_) K ⟨h20, by simp; omega, by simp; omega⟩ (by dsimp only; omega)))) (fun a ha => ha.elim) fun t ht => ?_
  · obtain ⟨l, m⟩ := b4
    obtain ⟨h4, hl, hm⟩ := hi
    dsimp only at h4 hl hm ⊢
    have n4 := h4.nu
    refine sim_eyeE (eye_cond (g := true) (integer_eye hc h4.ok K (by omega))) fun b1 a1 => sim_ite (fun hb => ?_) fun hb => ?_
    · have ha := a1 hb
      have np := ha.nu
      refine sim_bndS (Qa := fun _ => False) (Qt := fun (t : S65 × List (List Int) × List (List S122)) => c.Mv true p4 t.1 ∧ t.2.1.length = l.length + 1 ∧ t.2.2.length = m.length + 1) (sim_blkS ?_) (fun a ha => ha.elim) fun t ht => ?_
      · refine sim_call (L30 hc h4.ok ha K _ _) fun p5 h5 => ?_
        have n5 := h5.nu
        refine sim_bndS (Qa := fun _ => False) (Qt := fun (t : S65 × List Int) => c.Mv false p4 t.1) (sim_blkS (sim_mapInl (Qa := QS (fun (t : S65 × List Int) => c.Mv false p4 t.1) (fun _ => False)) (sim_iterP ([], true) (fun t => c.nu t.1) (fun t => c.Mv false p4 t.1 ∧ t.2.1.length + c.nu t.1 ≤ c.nu p4) (fun p6 b6 hi6 => ?_) K ⟨h5, by simp; omega⟩ (by dsimp only; omega)))) (fun a ha => ha.elim) fun t ht => ?_
        · obtain ⟨k6, more⟩ := b6
          obtain ⟨h6, hk6⟩ := hi6
          dsimp only at h6 hk6 ⊢
          have n6 := h6.nu
          refine sim_eye (Eye.cond (g := more) (d := default) (ok_eye K)) ?_
          refine sim_ite (fun hmo => ?_) fun hmo => ?_
          · have he : p6.ferr = [] := by
              cases more
              · cases hmo
              · simpa using hmo
            have np6 := nu_pos (c := c) he
            refine sim_bndS (Qa := fun _ => False) (Qt := fun (t : S65 × List Int) => c.Mv true p6 t.1 ∧ t.2.length = k6.length + 1) (sim_blkS ?_) (fun a ha => ha.elim) fun t ht => ?_
            · refine sim_eyeE (eye_cond (g := true) (integer_eye hc h6.ok K (by omega))) fun b2 a2 => ?_
              refine sim_bndS (Qa := fun _ => False) (Qt := fun t => c.Mv false p6 t) (sim_ite (fun hb => ?_) fun hb => ?_) (fun a ha => ha.elim) fun p7 h7 => ?_
              · exact sim_last (L30 hc h6.ok (a2 hb) K _ _) fun a ha => ⟨Sum.inr a, rfl, rfl, ha, rfl⟩
              · exact sim_ret (b := Sum.inr p6) (Mv.refl h6.ok) rfl (fun g => g)
              refine sim_call2 rfl (fun _ g => g.1) (L112 hc h7.ok K (by omega)) fun v8 p8 h8 => ?_
              dsimp only at h8 ⊢
              refine sim_chk (room_le (by simp; omega)) ?_
              exact sim_ret (b := Sum.inr (p8, k6 ++ [v8])) ⟨h7.trans h8, by simp⟩ rfl (fun g => g)
            · obtain ⟨p7, k7⟩ := t
              obtain ⟨h7, hk7⟩ := ht
              rw [XX_pair]
              dsimp only at h7 hk7 ⊢
              have n7 := h7.nu_lt
              refine sim_accept hc h7.ok (by omega) (fun _ p8 h8 => ?_) ?_
              · have n8 := h8.nu
                exact sim_ret (b := Sum.inr (p8, k7, true)) ⟨⟨((h6.trans h7).trans h8).weak, by dsimp only; omega⟩, by dsimp only; omega⟩ rfl (fun g => g)
              · exact sim_ret (b := Sum.inr (p7, k7, false)) ⟨⟨(h6.trans h7).weak, by dsimp only; omega⟩, by dsimp only; omega⟩ rfl (fun g => g)
          · exact sim_ret (b := Sum.inl (Sum.inl (p6, k6))) h6 rfl (fun g => g)
        · obtain ⟨p6, k6⟩ := t
          rw [XX_pair]
          dsimp only at ht ⊢
          have n6 := ht.nu
          refine sim_call1 (L93 hc ht.ok K _ (by simp) (by simp) (by omega)) fun p7 h7 => ?_
          have n7 := h7.nu
          refine sim_chk (room_le (by simp; omega)) ?_
          refine sim_call2 rfl (fun _ g => g) (h97 p7 _ _ h7.ok (by simp) (by omega)) fun w p8 h8 => ?_
          dsimp only at h8 ⊢
          refine sim_chk (room_le (by simp; omega)) ?_
          exact sim_ret (b := Sum.inr (p8, l ++ [k6], m ++ [w])) ⟨(ht.trans h7).trans h8, by simp, by simp⟩ rfl (fun g => g)
      · obtain ⟨p5, l5, m5⟩ := t
        obtain ⟨h5, hl5, hm5⟩ := ht
        rw [XX_pair]
        dsimp only at h5 hl5 hm5 ⊢
        have n5 := h5.nu_lt
        exact sim_ret (b := Sum.inr (p5, l5, m5)) ⟨⟨h4.trans h5, by dsimp only; omega, by dsimp only; omega⟩, by dsimp only; omega⟩ rfl (fun g => g)
    · exact sim_ret (b := Sum.inl (Sum.inl (p4, l, m))) ⟨h4, hm⟩ rfl (fun g => g)
  · obtain ⟨p4, l4, m4⟩ := t
    obtain ⟨h4, hm⟩ := ht
    rw [XX_pair]
    dsimp only at h4 hm ⊢
    have n4 := h4.nu
    exact sim_last (h141 p4 d _ h4.ok (by omega)) fun a ha => ⟨Sum.inl (_, a.2), (chk_t (room_le (by simp; omega))).trans rfl, (chk_t (room_le (by simp; omega))).trans rfl, h4.trans ha, rfl⟩
theorem stmts (hc : c.Good) : ∀ K, P97 c K ∧ P115 c K ∧ P130 c K ∧ P131 c K ∧ P132 c K ∧ P141 c K
  | 0 => ⟨fun p d l h hl hK => absurd hK (by omega), fun p d h hK => absurd hK (by omega), fun p d h hK => absurd hK (by omega), fun p d h hK => absurd hK (by omega), fun p d h hK => absurd hK (by omega), fun p d t h hK => absurd hK (by omega)⟩
  | K + 1 => by
    obtain ⟨h97, h115, h130, h131, h132, h141⟩ := stmts hc K
    exact ⟨S97 hc K h115, S115 hc K h97 h130 h131 h132, S130 hc K h97 h141, S131 hc K h97 h141, S132 hc K h97, S141 hc K h97⟩
theorem L97 (hc : c.Good) {p : S65} (h : c.Ok p) (K : Nat) (d : Int) (l : List Bytes) (hl : l.length ≤ 100) (hK : 64 * c.nu p + 200 ≤ K) : c.Sim c.Gone (fun a => c.Mv false p a.2) (fnS (F97 K p d l)) ((c.XX p).bind fun q => fnS (F97 K q d l)) := (stmts hc K).1 p d l h hl hK
end Side
end Go.Proofs.YtphnfaabcnciiaaGreatDoor
