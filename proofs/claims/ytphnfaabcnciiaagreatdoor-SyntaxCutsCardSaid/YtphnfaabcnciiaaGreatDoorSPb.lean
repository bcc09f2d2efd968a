/- The parser's expressions, side by side. No conditions. -/
import Derived.Test.YtphnfaabcnciiaaGreatDoorSPa
import Derived.Test.YtphnfaabcnciiaaGreatDoorGb
set_option linter.unusedVariables false
set_option linter.unusedSimpArgs false
set_option linter.unusedSectionVars false
namespace Go.Proofs.YtphnfaabcnciiaaGreatDoor
open Go Go.Dl
namespace Side
variable {c : Side}
theorem blk_bind {A T U X : Type} {o : Option X} {k : X → Option ((T ⊕ A) ⊕ T)} {k2 : T → Option (A ⊕ U)} : bindS (blockS (o.bind k)) k2 = o.bind fun b => bindS (blockS (k b)) k2 := by cases o <;> rfl
theorem blk_ite {A T U : Type} {P : Prop} [Decidable P] {a b : Option ((T ⊕ A) ⊕ T)} {k2 : T → Option (A ⊕ U)} : bindS (blockS (if P then a else b)) k2 = if P then bindS (blockS a) k2 else bindS (blockS b) k2 := by split <;> rfl
theorem bnd_bind {A T U X : Type} {o : Option X} {k : X → Option (A ⊕ T)} {k2 : T → Option (A ⊕ U)} : bindS (o.bind k) k2 = o.bind fun b => bindS (k b) k2 := by cases o <;> rfl
theorem bnd_ite {A T U : Type} {P : Prop} [Decidable P] {a b : Option (A ⊕ T)} {k2 : T → Option (A ⊕ U)} : bindS (if P then a else b) k2 = if P then bindS a k2 else bindS b k2 := by split <;> rfl
section
variable {β γ : Type} [Par β] {G : S65 → Prop} {Q : β → Prop} {p : S65}
theorem sim_call1 {f' : S65 → Option S65} {Q1 : S65 → Prop} {o : Option S65} {k k' : S65 → Option β} (h : c.Sim c.Broken Q1 o ((c.XX p).bind f')) (hk : ∀ a, Q1 a → c.Sim G Q (k a) ((c.XX a).bind k')) : c.Sim G Q (o.bind k) ((c.XX p).bind fun q => (f' q).bind k') :=
  sim_call (h.mono (fun _ g => g.1) fun _ g => g) hk
theorem sim_call2 [i : Par (γ × S65)] (hi : i = ⟨fun a => a.2, fun g a => (a.1, g a.2)⟩) {f' : S65 → Option (γ × S65)} {Q1 : γ × S65 → Prop} {o : Option (γ × S65)} {k k' : γ × S65 → Option β} {H : S65 → Prop} (hH : ∀ p, H p → c.Gone p) (h : c.Sim H Q1 o ((c.XX p).bind f')) (hk : ∀ v a, Q1 (v, a) → c.Sim G Q (k (v, a)) ((c.XX a).bind fun q => k' (v, q))) : c.Sim G Q (o.bind k) ((c.XX p).bind fun q => (f' q).bind k') := by
  refine sim_call (h.mono hH fun _ g => g) fun a ha => ?_
  obtain ⟨v, a⟩ := a
  rw [XX_snd _ _ _ hi]
  exact hk v a ha
theorem sim_iterP {A β : Type} [Par A] {Qa : A → Prop} (b : β) {f : S65 × β → Option (A ⊕ (S65 × β))} (μ : S65 × β → Nat) (Inv : S65 × β → Prop) (h : ∀ p b, Inv (p, b) → c.Sim c.Gone (QS Qa (fun t' => Inv t' ∧ μ t' < μ (p, b))) (f (p, b)) ((c.XX p).bind fun q => f (q, b)))
    (K : Nat) (hi : Inv (p, b)) (hk : μ (p, b) < K) : c.Sim c.Gone Qa (iter K f (p, b)) ((c.XX p).bind fun q => iter K f (q, b)) := by
  rw [← XX_pair p b (iter K f)]
  refine sim_iter μ Inv (fun t ht => ?_) K _ hi hk
  obtain ⟨p', b'⟩ := t
  rw [XX_pair]
  exact h p' b' ht
end
theorem sim_acceptH {β : Type} [Par β] {G : S65 → Prop} {Q : β → Prop} {p : S65} {K : Nat} {t : Bytes} {k : Bool × S65 → Option β} {k' : Bool × S65 → Option β} (hc : c.Good) (h : c.Ok p) (hk : 100 < K)
    (ht : c.Mv true p (adv p) → c.Sim G Q (k (true, adv p)) (k' (true, c.ph (adv p))))
    (hf : c.Sim G Q (k (false, p)) ((c.XX p).bind fun q => k' (false, q))) :
    c.Sim G Q ((fnS (F39 K p t)).bind k) ((c.XX p).bind fun q => (fnS (F39 K q t)).bind k') := by
  obtain ⟨b, e, a⟩ := is_eye hc h K [t] (by simp) hk
  have e1 := e.1
  dsimp only at e1
  cases b with
  | true =>
    have hp : fnS (F39 K p t) = some (true, adv p) := by
      unfold F39
      rw [condM_t, e1, Option.bind_some]
      rfl
    have e2 := e.2 (a rfl).not_gone
    dsimp only at e2
    have hq : fnS (F39 K (c.ph p) t) = some (true, adv (c.ph p)) := by
      unfold F39
      rw [condM_t, e2, Option.bind_some]
      rfl
    rw [hp, Option.bind_some, XX_not (α := S65) (a rfl).not_gone, Option.bind_some, show Par.up c.ph p = c.ph p from rfl, hq, Option.bind_some, adv_ph hc h]
    exact ht (adv_mv hc h (a rfl))
  | false =>
    have hp : fnS (F39 K p t) = some (false, p) := by
      unfold F39
      rw [condM_t, e1, Option.bind_some]
      rfl
    rw [hp, Option.bind_some]
    refine sim_start (fun g => ?_) (fun g => ?_)
    · rw [XX_gone (α := S65) g] at hf; exact hf
    · have e2 := e.2 g
      dsimp only at e2
      have hq : fnS (F39 K (c.ph p) t) = some (false, c.ph p) := by
        unfold F39
        rw [condM_t, e2, Option.bind_some]
        rfl
      rw [hq, Option.bind_some]
      rw [XX_not (α := S65) g] at hf
      exact hf
theorem nu_pos {p : S65} (h : p.ferr = []) : 1 ≤ c.nu p := by unfold nu; rw [if_pos h]; omega
theorem nu_le (hc : c.Good) {p : S65} (h : c.Ok p) : c.nu p ≤ 100001 := by
  have := hc.small
  have := h.lo
  unfold nu
  split <;> omega
def P19 (c : Side) (K : Nat) : Prop := ∀ p d, c.Ok p → 64 * c.nu p + 121 ≤ K → c.Sim c.Gone (fun a => c.Mv true p a.2) (fnS (F19 K p d)) ((c.XX p).bind fun q => fnS (F19 K q d))
def P40 (c : Side) (K : Nat) : Prop := ∀ p d, c.Ok p → 64 * c.nu p + 120 ≤ K → c.Sim c.Gone (fun a => c.Mv true p a.2) (fnS (F40 K p d)) ((c.XX p).bind fun q => fnS (F40 K q d))
def P73 (c : Side) (K : Nat) : Prop := ∀ p d (l r : Bytes), c.Ok p → 64 * c.nu p + 110 ≤ K → 122 ≤ K → c.Sim c.Broken (fun a => c.Mv true p a.2) (fnS (F73 K p d l r)) ((c.XX p).bind fun q => fnS (F73 K q d l r))
def P74 (c : Side) (K : Nat) : Prop := ∀ p d, c.Ok p → 64 * c.nu p + 111 ≤ K → c.Sim c.Broken (fun a => c.Mv true p a.2) (fnS (F74 K p d)) ((c.XX p).bind fun q => fnS (F74 K q d))
def P75 (c : Side) (K : Nat) : Prop := ∀ p e d, c.Ok p → 64 * c.nu p + 110 ≤ K → c.Sim c.Broken (fun a => c.Mv true p a.2) (fnS (F75 K p e d)) ((c.XX p).bind fun q => fnS (F75 K q e d))
theorem S19 (hc : c.Good) (K : Nat) (h40 : P40 c K) : P19 c (K + 1) := by
  intro p d h hK
  simp only [F19]
  refine sim_fnS ?_
  refine sim_eyeE (eye_cond (g := true) (is_eye hc h K _ (by simp) (by omega))) fun b1 a1 => ?_
  refine sim_eyeE (eye_cond (g := !b1) (opens_eye hc h K (by omega))) fun b2 a2 => ?_
  refine sim_bndS (Qa := fun _ => False) (Qt := fun t => c.Mv false p t) (sim_ite (fun hb => ?_) fun hb => ?_) (fun a ha => ha.elim) fun p1 h1 => ?_
  · exact sim_last (L38 hc h (eye_or a1 a2 hb) K d) fun a ha => ⟨(Sum.inr a : (S25 × S65) ⊕ S65), rfl, rfl, ha, rfl⟩
  · exact sim_ret (b := (Sum.inr p : (S25 × S65) ⊕ S65)) (Mv.refl h) rfl (fun g => g)
  have n1 := h1.nu
  simp only [blk_bind, blk_ite, blockS_lr, blockS_r, bindS_l, bindS_r]
  refine sim_accept hc h1.ok (by omega) (fun _ p2 h2 => ?_) ?_
  · simp only [if_true]
    have n2 := h2.nu
    exact sim_last (h40 p2 d h2.ok (by omega)) fun a ha => ⟨Sum.inl (_, a.2), rfl, rfl, (h1.trans h2).trans ha, rfl⟩
  simp only [Bool.false_eq_true, if_false]
  refine sim_accept hc h1.ok (by omega) (fun _ p2 h2 => ?_) ?_
  · simp only [if_true]
    have n2 := h2.nu
    exact sim_last (h40 p2 d h2.ok (by omega)) fun a ha => ⟨Sum.inl (_, a.2), rfl, rfl, (h1.trans h2).trans ha, rfl⟩
  simp only [Bool.false_eq_true, if_false]
  refine sim_call2 rfl (fun _ g => g) (h40 p1 d h1.ok (by omega)) fun v p2 h2 => ?_
  dsimp only at h2 ⊢
  have n2 := h2.nu
  refine sim_tok hc h2.ok rfl ?_
  simp only [F41, fnS_l, Option.bind_some]
  refine sim_eyeE (eye_cond (g := true) (is_eye hc h2.ok K _ (by simp) (by omega))) fun b3 a3 => ?_
  refine sim_ite (fun hb => ?_) fun hb => ?_
  · exact sim_ret (b := Sum.inl (v, p2)) (h1.trans h2) rfl (fun g => g)
  have ha : c.Act p2 := a3 (by simpa using hb)
  obtain ⟨i, hi⟩ := idx_some K [([43] : Bytes), ([45] : Bytes), ([42] : Bytes), ([47] : Bytes), ([77, 79, 68] : Bytes), ([61] : Bytes), ([60, 62] : Bytes), ([60] : Bytes), ([60, 61] : Bytes), ([62] : Bytes), ([62, 61] : Bytes), ([65, 78, 68] : Bytes), ([79, 82] : Bytes), ([88, 79, 82] : Bytes)] (c.cur p2).fText (by simp) (by omega)
  have e : ∀ q : S65, (c.tk (c.cur p2)).fText = (c.cur p2).fText := fun _ => rfl
  simp only [condM_t, e p2, hi, Option.bind_some]
  have h3 := adv_mv hc h2.ok ha
  have n3 := h3.nu
  refine sim_adv hc h2.ok ha (g := fun q => (fnS (F40 K q d)).bind fun (r21 : S25 × S65) => some (Sum.inl ((⟨9, IntKind.i64.wrap (i + 1), [], [], [v, r21.1]⟩ : S25), r21.2) : (S25 × S65) ⊕ (S25 × S65))) ?_
  exact sim_last (h40 (adv p2) d h3.ok (by omega)) fun a ha => ⟨Sum.inl (_, a.2), rfl, rfl, ((h1.trans h2).trans h3).trans ha, rfl⟩
theorem S73 (hc : c.Good) (K : Nat) (h19 : P19 c K) : P73 c (K + 1) := by
  intro p d l r h hK hK2
  simp only [F73]
  refine sim_fnS ?_
  refine sim_call1 (L93 hc h K _ (by simp) (by simp) (by omega)) fun p1 h1 => ?_
  have n1 := h1.nu_lt
  refine sim_call2 rfl (fun _ g => g) (h19 p1 _ h1.ok (by omega)) fun v p2 h2 => ?_
  dsimp only at h2 ⊢
  exact sim_last (L93 hc h2.ok K _ (by simp) (by simp) (by omega)) fun a ha => ⟨Sum.inl (v, a), rfl, rfl, (h1.trans h2).trans ha, rfl⟩
theorem S74 (hc : c.Good) (K : Nat) (h75 : P75 c K) : P74 c (K + 1) := by
  intro p d h hK
  simp only [F74]
  refine sim_fnS ?_
  simp only [bnd_bind, bnd_ite, bindS_r]
  refine sim_accept hc h (by omega) (fun _ p1 h1 => ?_) ?_
  · simp only [Bool.not_true, Bool.false_eq_true, if_false]
    have n1 := h1.nu
    exact sim_last (h75 p1 _ d h1.ok (by omega)) fun a ha => ⟨Sum.inl (a.1, a.2), rfl, rfl, h1.trans ha, rfl⟩
  · simp only [Bool.not_false, if_true]
    refine sim_call1 (L93 hc h K _ (by simp) (by simp) (by omega)) fun p1 h1 => ?_
    have n1 := h1.nu
    exact sim_last (h75 p1 _ d h1.ok (by omega)) fun a ha => ⟨Sum.inl (a.1, a.2), rfl, rfl, h1.trans ha, rfl⟩
theorem S75 (hc : c.Good) (K : Nat) (h19 : P19 c K) : P75 c (K + 1) := by
  intro p e d h hK
  simp only [F75]
  refine sim_fnS ?_
  refine sim_call1 (L93 hc h K _ (by simp) (by simp) (by omega)) fun p1 h1 => ?_
  have n1 := h1.nu_lt
  refine sim_call2 rfl (fun _ g => g.1) (L72 hc h1.ok K) fun v p2 h2 => ?_
  have n2 := h2.nu
  dsimp only at h2 n2 ⊢
  refine sim_call1 (L93 hc h2.ok K _ (by simp) (by simp) (by omega)) fun p3 h3 => ?_
  have n3 := h3.nu
  refine sim_acceptH hc h3.ok (by omega) (fun h4 => ?_) ?_
  · exact ⟨Sum.inl ((⟨e.fKind, e.fN, e.fName, v, []⟩ : S25), adv p3), rfl, h1.trans (h2.trans (h3.trans h4)), fun _ => rfl⟩
  simp only [Bool.false_eq_true, if_false]
  have h30 := (h1.trans h2).trans h3
  refine sim_bndS (Qa := fun _ => False) (Qt := fun (t : S65 × List S25) => c.Mv true p t.1) (sim_blkS (sim_mapInl (Qa := QS (fun (t : S65 × List S25) => c.Mv true p t.1) (fun _ => False)) (sim_iterP ([], true) (fun t => c.nu t.1) (fun t => c.Mv true p t.1 ∧ t.2.1.length + c.nu t.1 ≤ c.nu p) (fun p4 b4 hi => ?_) K ⟨h30, by simp; omega⟩ (by dsimp only; omega)))) (fun a ha => ha.elim) fun t ht => ?_
  · obtain ⟨l, more⟩ := b4
    obtain ⟨h4, hl⟩ := hi
    have n4 := h4.nu_lt
    dsimp only at h4 hl n4 ⊢
    refine sim_eye (Eye.cond (g := more) (d := default) (ok_eye K)) ?_
    refine sim_ite (fun hm => ?_) fun hm => ?_
    · have he : p4.ferr = [] := by
        cases more
        · cases hm
        · simpa using hm
      have np := nu_pos (c := c) he
      refine sim_bndS (Qa := fun _ => False) (Qt := fun t => c.Mv true p4 t.1 ∧ t.2.length = l.length + 1) (sim_blkS (sim_letV fun x => ?_)) (fun a ha => ha.elim) fun t ht => ?_
      · refine sim_eyeE (eye_cond (g := x) (is_eye hc h4.ok K _ (by simp) (by omega))) fun b1 a1 => ?_
        refine sim_eyeE (eye_cond (g := (!b1) && x) (opens_eye hc h4.ok K (by omega))) fun b2 a2 => ?_
        refine sim_bndS (Qa := fun _ => False) (Qt := fun t => c.Mv false p4 t) (sim_ite (fun hb => ?_) fun hb => ?_) (fun a ha => ha.elim) fun p5 h5 => ?_
        · have ha : c.Act p4 := by
            rw [Bool.and_eq_true] at hb
            exact eye_or a1 a2 hb.2
          exact sim_last ((L20' hc h4.ok K 5 (by decide) (by decide) ha.not_gone).mono (fun _ g => g.1) fun _ g => g) fun a ha => ⟨Sum.inr a, rfl, rfl, ha.1.weak, rfl⟩
        · exact sim_ret (b := Sum.inr p4) (Mv.refl h4.ok) rfl (fun g => g)
        have n5 := h5.nu
        refine sim_call2 rfl (fun _ g => g) (h19 p5 _ h5.ok (by omega)) fun v p6 h6 => ?_
        dsimp only at h6 ⊢
        have hn := nu_le hc h
        refine sim_chk (room_le (by simp; omega)) ?_
        exact sim_ret (b := Sum.inr (p6, l ++ [v])) ⟨h5.trans h6, by simp⟩ rfl (fun g => g)
      · obtain ⟨p5, l5⟩ := t
        obtain ⟨h5, hl5⟩ := ht
        have n5 := h5.nu_lt
        rw [XX_pair]
        dsimp only at h5 hl5 n5 ⊢
        refine sim_accept hc h5.ok (by omega) (fun _ p6 h6 => ?_) ?_
        · have n6 := h6.nu
          exact sim_ret (b := Sum.inr (p6, l5, true)) ⟨⟨(h4.trans h5).trans h6, by dsimp only; omega⟩, by dsimp only; omega⟩ rfl (fun g => g)
        · exact sim_ret (b := Sum.inr (p5, l5, false)) ⟨⟨h4.trans h5, by dsimp only; omega⟩, by dsimp only; omega⟩ rfl (fun g => g)
    · exact sim_ret (b := Sum.inl (Sum.inl (p4, l))) h4 rfl (fun g => g)
  · obtain ⟨p4, l4⟩ := t
    rw [XX_pair]
    dsimp only at ht ⊢
    exact sim_last (L93 hc ht.ok K _ (by simp) (by simp) (by omega)) fun a ha => ⟨Sum.inl (_, a), rfl, rfl, ht.trans ha, rfl⟩
theorem S40 (hc : c.Good) (K : Nat) (h73 : P73 c K) (h74 : P74 c K) (h75 : P75 c K) : P40 c (K + 1) := by
  intro p d h hK
  simp only [F40]
  refine sim_fnS (sim_tok hc h rfl ?_)
  simp only [blk_bind, blk_ite, blockS_lr, blockS_r, bindS_l, bindS_r]
  refine sim_eyeE (eye_cond (g := true) (kind_eye hc h K 3 (by decide))) fun b0 a0 => sim_ite (fun hb => ?_) fun hb => ?_
  · exact sim_last ((L70 hc h K).mono (fun _ g => g.1) fun _ g => g) fun a ha => ⟨Sum.inl (_, a.2), rfl, rfl, ha, rfl⟩
  refine sim_accept hc h (by omega) (fun _ p1 h1 => ?_) ?_
  · exact sim_ret (b := Sum.inl ((_ : S25), p1)) h1 rfl (fun g => g)
  simp only [Bool.false_eq_true, if_false]
  refine sim_accept hc h (by omega) (fun _ p1 h1 => ?_) ?_
  · exact sim_ret (b := Sum.inl ((_ : S25), p1)) h1 rfl (fun g => g)
  simp only [Bool.false_eq_true, if_false]
  refine sim_accept hc h (by omega) (fun _ p1 h1 => ?_) ?_
  · exact sim_ret (b := Sum.inl ((_ : S25), p1)) h1 rfl (fun g => g)
  simp only [Bool.false_eq_true, if_false]
  refine sim_accept hc h (by omega) (fun _ p1 h1 => ?_) ?_
  · simp only [if_true]
    exact sim_last ((L71 hc h1.ok K (by omega)).mono (fun _ g => g.1) fun _ g => g) fun a ha => ⟨Sum.inl (_, a.2), rfl, rfl, h1.trans ha, rfl⟩
  simp only [Bool.false_eq_true, if_false]
  refine sim_accept hc h (by omega) (fun _ p1 h1 => ?_) ?_
  · simp only [if_true]
    exact sim_last ((L71 hc h1.ok K (by omega)).mono (fun _ g => g.1) fun _ g => g) fun a ha => ⟨Sum.inl (_, a.2), rfl, rfl, h1.trans ha, rfl⟩
  simp only [Bool.false_eq_true, if_false]
  refine sim_accept hc h (by omega) (fun _ p1 h1 => ?_) ?_
  · simp only [if_true]
    exact sim_last ((L71 hc h1.ok K (by omega)).mono (fun _ g => g.1) fun _ g => g) fun a ha => ⟨Sum.inl (_, a.2), rfl, rfl, h1.trans ha, rfl⟩
  simp only [Bool.false_eq_true, if_false]
  refine sim_accept hc h (by omega) (fun ha p1 h1 => ?_) ?_
  · simp only [if_true]
    have np := ha.nu
    have n1 := h1.nu_lt
    refine sim_call2 rfl (fun _ g => g.1) (L72 hc h1.ok K) fun v p2 h2 => ?_
    dsimp only at h2 ⊢
    have n2 := h2.nu
    exact sim_last ((h73 p2 d _ _ h2.ok (by omega) (by omega)).mono (fun _ g => g.1) fun _ g => g) fun a ha => ⟨Sum.inl (_, a.2), rfl, rfl, (h1.trans h2).trans ha, rfl⟩
  simp only [Bool.false_eq_true, if_false]
  refine sim_eyeE (eye_cond (g := true) (is_eye hc h K _ (by simp) (by omega))) fun b1 a1 => sim_ite (fun hb => ?_) fun hb => ?_
  · have np := (a1 hb).nu
    exact sim_last ((h73 p d _ _ h (by omega) (by omega)).mono (fun _ g => g.1) fun _ g => g) fun a ha => ⟨Sum.inl (a.1, a.2), rfl, rfl, ha, rfl⟩
  refine sim_eyeE (eye_cond (g := true) (is_eye hc h K _ (by simp) (by omega))) fun b2 a2 => sim_ite (fun hb => ?_) fun hb => ?_
  · exact sim_last ((h74 p d h (by omega)).mono (fun _ g => g.1) fun _ g => g) fun a ha => ⟨Sum.inl (a.1, a.2), rfl, rfl, ha, rfl⟩
  refine sim_call2 rfl (fun _ g => g.1) (L72 hc h K) fun v p2 h2 => ?_
  dsimp only at h2 ⊢
  have n2 := h2.nu
  refine sim_eyeE (eye_cond (g := true) (is_eye hc h2.ok K _ (by simp) (by omega))) fun b3 a3 => sim_ite (fun hb => ?_) fun hb => ?_
  · have np := (a3 hb).nu
    exact sim_last ((h73 p2 d _ _ h2.ok (by omega) (by omega)).mono (fun _ g => g.1) fun _ g => g) fun a ha => ⟨Sum.inl (_, a.2), rfl, rfl, h2.trans ha, rfl⟩
  refine sim_eyeE (eye_cond (g := true) (is_eye hc h2.ok K _ (by simp) (by omega))) fun b4 a4 => sim_ite (fun hb => ?_) fun hb => ?_
  · exact sim_last ((h75 p2 _ d h2.ok (by omega)).mono (fun _ g => g.1) fun _ g => g) fun a ha => ⟨Sum.inl (a.1, a.2), rfl, rfl, h2.trans ha, rfl⟩
  exact sim_ret (b := Sum.inl ((_ : S25), p2)) h2 rfl (fun g => g)
theorem exprs (hc : c.Good) : ∀ K, P19 c K ∧ P40 c K ∧ P73 c K ∧ P74 c K ∧ P75 c K
  | 0 => ⟨fun p d h hK => absurd hK (by omega), fun p d h hK => absurd hK (by omega), fun p d l r h hK => absurd hK (by omega), fun p d h hK => absurd hK (by omega), fun p e d h hK => absurd hK (by omega)⟩
  | K + 1 => by
    obtain ⟨h19, h40, h73, h74, h75⟩ := exprs hc K
    exact ⟨S19 hc K h40, S40 hc K h73 h74 h75, S73 hc K h19, S74 hc K h75, S75 hc K h19⟩
end Side
end Go.Proofs.YtphnfaabcnciiaaGreatDoor
