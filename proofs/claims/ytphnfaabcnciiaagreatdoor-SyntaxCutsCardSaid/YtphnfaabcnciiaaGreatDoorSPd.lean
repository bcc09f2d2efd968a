/- The parser's declarations, side by side. No conditions. -/
import Derived.Test.YtphnfaabcnciiaaGreatDoorSPc
import Derived.Test.YtphnfaabcnciiaaGreatDoorGd
set_option linter.unusedVariables false
set_option linter.unusedSimpArgs false
set_option linter.unusedSectionVars false
namespace Go.Proofs.YtphnfaabcnciiaaGreatDoor
open Go Go.Dl
namespace Side
variable {c : Side}
theorem sim_accB {A T U : Type} [Par A] [Par T] [Par U] {G : S65 → Prop} {Q : A ⊕ U → Prop} {Qt : T → Prop} {p : S65} {K : Nat} {t : Bytes} {X X' : Bool × S65 → Option (A ⊕ T)} {k k' : T → Option (A ⊕ U)}
    (h : c.Sim c.Gone (QS (fun _ => False) Qt) ((fnS (F39 K p t)).bind X) ((c.XX p).bind fun q => (fnS (F39 K q t)).bind X')) (hk : ∀ t, Qt t → c.Sim G Q (k t) ((c.XX t).bind k')) :
    c.Sim G Q ((fnS (F39 K p t)).bind fun r => bindS (X r) k) ((c.XX p).bind fun q => (fnS (F39 K q t)).bind fun r => bindS (X' r) k') := by
  have g := sim_bndS h (fun a ha => ha.elim) hk
  simp only [bnd_bind] at g
  exact g
theorem L110 (hc : c.Good) {p : S65} (h : c.Ok p) (K : Nat) (hK : 64 * c.nu p + 200 ≤ K) : c.Sim c.Broken (fun a => c.Mv true p a.2) (fnS (F110 K p)) ((c.XX p).bind fun q => fnS (F110 K q)) := by
  unfold F110
  refine sim_fnS ?_
  have hn := nu_le hc h
  refine sim_call1 (L93 hc h K _ (by simp) (by simp) (by omega)) fun p1 h1 => ?_
  have n1 := h1.nu
  refine sim_acceptH hc h1.ok (by omega) (fun h2 => ?_) ?_
  · exact ⟨Sum.inl ([], adv p1), rfl, h1.trans h2, fun _ => rfl⟩
  simp only [Bool.false_eq_true, if_false]
  refine sim_bndS (Qa := fun _ => False) (Qt := fun (t : S65 × List S118) => c.Mv true p t.1) (sim_blkS (sim_mapInl (Qa := QS (fun (t : S65 × List S118) => c.Mv true p t.1) (fun _ => False)) (sim_iterP ([], true) (fun t => c.nu t.1) (fun t => c.Mv true p t.1 ∧ t.2.1.length + c.nu t.1 ≤ c.nu p) (fun p4 b4 hi => ?_) K ⟨h1, by simp; omega⟩ (by dsimp only; omega)))) (fun a ha => ha.elim) fun t ht => ?_
  · obtain ⟨l, more⟩ := b4
    obtain ⟨h4, hl⟩ := hi
    dsimp only at h4 hl ⊢
    have n4 := h4.nu
    refine sim_eye (Eye.cond (g := more) (d := default) (ok_eye K)) ?_
    refine sim_ite (fun hm => ?_) fun hm => ?_
    · have he : p4.ferr = [] := by
        cases more
        · cases hm
        · simpa using hm
      have np := nu_pos (c := c) he
      refine sim_bndS (Qa := fun _ => False) (Qt := fun (t : S65 × List S118) => c.Mv true p4 t.1 ∧ t.2.length = l.length + 1) (sim_blkS ?_) (fun a ha => ha.elim) fun t ht => ?_
      · refine sim_eyeE (eye_cond (g := true) (kind_eye hc h4.ok K 1 (by decide))) fun b1 a1 => ?_
        refine sim_bndS (Qa := fun _ => False) (Qt := fun t => c.Mv false p4 t) (sim_ite (fun hb => ?_) fun hb => ?_) (fun a ha => ha.elim) fun p5 h5 => ?_
        · exact sim_last (L30 hc h4.ok (a1 hb) K _ _) fun a ha => ⟨Sum.inr a, rfl, rfl, ha, rfl⟩
        · exact sim_ret (b := Sum.inr p4) (Mv.refl h4.ok) rfl (fun g => g)
        refine sim_call2 rfl (fun _ g => g.1) (L72 hc h5.ok K) fun v6 p6 h6 => ?_
        dsimp only at h6 ⊢
        refine sim_call1 (L93 hc h6.ok K _ (by simp) (by simp) (by omega)) fun p7 h7 => ?_
        refine sim_call2 rfl (fun _ g => g) (L111 hc h7.ok K (by omega)) fun v8 p8 h8 => ?_
        dsimp only at h8 ⊢
        refine sim_chk (room_le (by simp; omega)) ?_
        exact sim_ret (b := Sum.inr (p8, l ++ [_])) ⟨((h5.trans h6).trans h7).trans h8, by simp⟩ rfl (fun g => g)
      · obtain ⟨p5, l5⟩ := t
        obtain ⟨h5, hl5⟩ := ht
        rw [XX_pair]
        dsimp only at h5 hl5 ⊢
        have n5 := h5.nu_lt
        refine sim_accept hc h5.ok (by omega) (fun _ p6 h6 => ?_) ?_
        · have n6 := h6.nu
          exact sim_ret (b := Sum.inr (p6, l5, true)) ⟨⟨(h4.trans h5).trans h6, by dsimp only; omega⟩, by dsimp only; omega⟩ rfl (fun g => g)
        · exact sim_ret (b := Sum.inr (p5, l5, false)) ⟨⟨h4.trans h5, by dsimp only; omega⟩, by dsimp only; omega⟩ rfl (fun g => g)
    · exact sim_ret (b := Sum.inl (Sum.inl (p4, l))) h4 rfl (fun g => g)
  · obtain ⟨p4, l4⟩ := t
    rw [XX_pair]
    dsimp only at ht ⊢
    exact sim_last (L93 hc ht.ok K _ (by simp) (by simp) (by omega)) fun a ha => ⟨Sum.inl (_, a), rfl, rfl, ht.trans ha, rfl⟩
theorem L95 (hc : c.Good) {p : S65} (h : c.Ok p) (K : Nat) (hK : 64 * c.nu p + 200 ≤ K) : c.Sim c.Gone (fun a => c.Mv false p a.2) (fnS (F95 K p)) ((c.XX p).bind fun q => fnS (F95 K q)) := by
  unfold F95
  refine sim_fnS ?_
  have hn := nu_le hc h
  refine sim_bndS (Qa := fun _ => False) (Qt := fun (t : S65 × List S118) => c.Mv false p t.1) (sim_blkS (sim_mapInl (Qa := QS (fun (t : S65 × List S118) => c.Mv false p t.1) (fun _ => False)) (sim_iterP [] (fun t => c.nu t.1) (fun t => c.Mv false p t.1 ∧ t.2.length + c.nu t.1 ≤ c.nu p) (fun p4 l4 hi => ?_) K ⟨Mv.refl h, by simp⟩ (by dsimp only; omega)))) (fun a ha => ha.elim) fun t ht => ?_
  · obtain ⟨h4, hl⟩ := hi
    dsimp only at h4 hl ⊢
    have n4 := h4.nu
    refine sim_eyeE (eye_cond (g := true) (is_eye hc h4.ok K _ (by simp) (by omega))) fun b5 a5 => sim_ite (fun hb => ?_) fun hb => ?_
    · have ha := a5 hb
      have np := ha.nu
      refine sim_bndS (Qa := fun _ => False) (Qt := fun (t : S65 × List S118) => c.Mv true p4 t.1 ∧ t.2.length = l4.length + 1) (sim_blkS ?_) (fun a ha => ha.elim) fun t ht => ?_
      · refine sim_call (L30 hc h4.ok ha K _ _) fun p5 h5 => ?_
        refine sim_call1 (L93 hc h5.ok K _ (by simp) (by simp) (by omega)) fun p6 h6 => ?_
        refine sim_call2 rfl (fun _ g => g.1) (L72 hc h6.ok K) fun v7 p7 h7 => ?_
        dsimp only at h7 ⊢
        refine sim_call1 (L93 hc h7.ok K _ (by simp) (by simp) (by omega)) fun p8 h8 => ?_
        refine sim_call2 rfl (fun _ g => g) (L111 hc h8.ok K (by omega)) fun v9 p9 h9 => ?_
        dsimp only at h9 ⊢
        have g9 := (((h5.trans h6).trans h7).trans h8).trans h9
        refine sim_accB (Qt := fun (t : S65 × Int) => c.Mv true p4 t.1) (sim_accept hc h9.ok (by omega) (fun _ p10 h10 => ?_) ?_) fun t ht => ?_
        · simp only [if_true]
          exact sim_last (lw (L112 hc h10.ok K (by omega))) fun a ha => ⟨Sum.inr (a.2, _), rfl, rfl, (g9.trans h10).trans ha, rfl⟩
        · exact sim_ret (b := Sum.inr (p9, _)) g9 rfl (fun g => g)
        obtain ⟨p10, v10⟩ := t
        rw [XX_pair]
        dsimp only at ht ⊢
        refine sim_accB (Qt := fun (t : S65 × Int × Int) => c.Mv true p4 t.1) (sim_accept hc ht.ok (by omega) (fun _ p11 h11 => ?_) ?_) fun t ht => ?_
        · simp only [if_true]
          refine sim_accB (Qt := fun (t : S65 × Int) => c.Mv true p4 t.1) (sim_accept hc h11.ok (by omega) (fun _ p12 h12 => ?_) ?_) fun t ht2 => ?_
          · exact sim_ret (b := Sum.inr (p12, _)) ((ht.trans h11).trans h12) rfl (fun g => g)
          · simp only [Bool.not_false, if_true]
            exact sim_last (lw (L93 hc h11.ok K _ (by simp) (by simp) (by omega))) fun a ha => ⟨Sum.inr (a, _), rfl, rfl, (ht.trans h11).trans ha, rfl⟩
          obtain ⟨p13, v13⟩ := t
          rw [XX_pair]
          dsimp only at ht2 ⊢
          exact sim_last (lw (L70 hc ht2.ok K)) fun a ha => ⟨Sum.inr (a.2, _), rfl, rfl, ht2.trans ha, rfl⟩
        · exact sim_ret (b := Sum.inr (p10, _)) ht rfl (fun g => g)
        obtain ⟨p14, v14⟩ := t
        rw [XX_pair]
        dsimp only at ht ⊢
        refine sim_call1 (L93 hc ht.ok K _ (by simp) (by simp) (by omega)) fun p15 h15 => ?_
        refine sim_chk (room_le (by simp; omega)) ?_
        exact sim_ret (b := Sum.inr (p15, l4 ++ [_])) ⟨ht.trans h15, by simp⟩ rfl (fun g => g)
      · obtain ⟨p5, l5⟩ := t
        obtain ⟨h5, hl5⟩ := ht
        rw [XX_pair]
        dsimp only at h5 hl5 ⊢
        have n5 := h5.nu_lt
        exact sim_ret (b := Sum.inr (p5, l5)) ⟨⟨(h4.trans h5).weak, by dsimp only; omega⟩, by dsimp only; omega⟩ rfl (fun g => g)
    · exact sim_ret (b := Sum.inl (Sum.inl (p4, l4))) h4 rfl (fun g => g)
  · obtain ⟨p4, l4⟩ := t
    rw [XX_pair]
    exact sim_ret (b := Sum.inl (l4, p4)) ht rfl (fun g => g)
theorem L94 (hc : c.Good) {p : S65} (h : c.Ok p) (K : Nat) (m : S93) (hK : 64 * c.nu p + 200 ≤ K) : c.Sim c.Broken (fun a => c.Mv true p a.1) (fnS (F94 K p m)) ((c.XX p).bind fun q => fnS (F94 K q m)) := by
  unfold F94
  refine sim_fnS ?_
  refine sim_call2 rfl (fun _ g => g.1) (L72 hc h K) fun v1 p1 h1 => ?_
  dsimp only at h1 ⊢
  have n1 := h1.nu
  refine sim_call2 rfl (fun _ g => g.1) (L110 hc h1.ok K (by omega)) fun v2 p2 h2 => ?_
  dsimp only at h2 ⊢
  have g2 := h1.trans h2
  refine sim_accB (Qt := fun (t : S65 × S93) => c.Mv true p t.1) (sim_accept hc h2.ok (by omega) (fun _ p3 h3 => ?_) ?_) fun t ht => ?_
  · simp only [if_true]
    exact sim_last (L111 hc h3.ok K (by omega)) fun a ha => ⟨Sum.inr (a.2, _), rfl, rfl, (g2.trans h3).trans ha, rfl⟩
  · exact sim_ret (b := Sum.inr (p2, _)) g2 rfl (fun g => g)
  obtain ⟨p4, v4⟩ := t
  rw [XX_pair]
  dsimp only at ht ⊢
  exact sim_last (L93 hc ht.ok K _ (by simp) (by simp) (by omega)) fun a ha => ⟨Sum.inr (a, _), rfl, rfl, ht.trans ha, rfl⟩
theorem sim_call3 {β γ : Type} [Par β] {G : S65 → Prop} {Q : β → Prop} {p : S65} {f' : S65 → Option (S65 × γ)} {Q1 : S65 × γ → Prop} {o : Option (S65 × γ)} {k k' : S65 × γ → Option β} (h : c.Sim c.Broken Q1 o ((c.XX p).bind f')) (hk : ∀ v a, Q1 (a, v) → c.Sim G Q (k (a, v)) ((c.XX a).bind fun q => k' (q, v))) : c.Sim G Q (o.bind k) ((c.XX p).bind fun q => (f' q).bind k') := by
  refine sim_call (lw h) fun a ha => ?_
  obtain ⟨a, v⟩ := a
  rw [XX_pair]
  exact hk v a ha
theorem sim_acceptV {β : Type} [Par β] {G : S65 → Prop} {Q : β → Prop} {p : S65} {K : Nat} {t : Bytes} {k k' : Bool × S65 → Option β} (hc : c.Good) (h : c.Ok p) (hk : 100 < K) (hb : ∀ b p1, c.Mv false p p1 → c.Sim G Q (k (b, p1)) ((c.XX p1).bind fun q => k' (b, q))) :
    c.Sim G Q ((fnS (F39 K p t)).bind k) ((c.XX p).bind fun q => (fnS (F39 K q t)).bind k') :=
  sim_accept hc h hk (fun _ p1 h1 => hb true p1 h1.weak) (hb false p (Mv.refl h))
theorem L96 (hc : c.Good) {p : S65} (h : c.Ok p) (K : Nat) (hK : 64 * c.nu p + 200 ≤ K) : c.Sim c.Broken (fun a => c.Mv true p a.2) (fnS (F96 K p)) ((c.XX p).bind fun q => fnS (F96 K q)) := by
  unfold F96
  refine sim_fnS ?_
  refine sim_call1 (L93 hc h K _ (by simp) (by simp) (by omega)) fun p1 h1 => ?_
  refine sim_acceptV hc h1.ok (by omega) fun b2 p2 h2 => ?_
  dsimp only
  refine sim_acceptV hc h2.ok (by omega) fun b3 p3 h3 => ?_
  dsimp only
  refine sim_acceptV hc h3.ok (by omega) fun b4 p4 h4 => ?_
  have g4 := ((h1.trans h2).trans h3).trans h4
  have n4 := g4.nu
  dsimp only
  refine sim_call3 (L94 hc h4.ok K _ (by omega)) fun v5 p5 h5 => ?_
  dsimp only at h5 ⊢
  have g5 := g4.trans h5
  have n5 := g5.nu
  refine sim_call2 rfl (fun _ g => g) (L95 hc h5.ok K (by omega)) fun v6 p6 h6 => ?_
  dsimp only at h6 ⊢
  have g6 := g5.trans h6
  have n6 := g6.nu
  refine sim_call2 rfl (fun _ g => g) (L97 hc h6.ok K _ _ (by simp) (by omega)) fun v7 p7 h7 => ?_
  dsimp only at h7 ⊢
  exact sim_last (L93 hc h7.ok K _ (by simp) (by simp) (by omega)) fun a ha => ⟨Sum.inl (_, a), rfl, rfl, (g6.trans h7).trans ha, rfl⟩
theorem L63 (hc : c.Good) {p : S65} (h : c.Ok p) (K : Nat) (hK : 64 * c.nu p + 200 ≤ K) : c.Sim c.Broken (fun a => c.Mv true p a.2) (fnS (F63 K p)) ((c.XX p).bind fun q => fnS (F63 K q)) := by
  unfold F63
  refine sim_fnS ?_
  refine sim_call1 (L93 hc h K _ (by simp) (by simp) (by omega)) fun p1 h1 => ?_
  refine sim_call2 rfl (fun _ g => g.1) (L72 hc h1.ok K) fun v2 p2 h2 => ?_
  dsimp only at h2 ⊢
  refine sim_call1 (L93 hc h2.ok K _ (by simp) (by simp) (by omega)) fun p3 h3 => ?_
  have g3 := (h1.trans h2).trans h3
  have n3 := g3.nu
  refine sim_call2 rfl (fun _ g => g) (L95 hc h3.ok K (by omega)) fun v4 p4 h4 => ?_
  dsimp only at h4 ⊢
  have g4 := g3.trans h4
  have n4 := g4.nu
  refine sim_call2 rfl (fun _ g => g) (L97 hc h4.ok K _ _ (by simp) (by omega)) fun v5 p5 h5 => ?_
  dsimp only at h5 ⊢
  exact sim_last (L93 hc h5.ok K _ (by simp) (by simp) (by omega)) fun a ha => ⟨Sum.inl (_, a), rfl, rfl, (g4.trans h5).trans ha, rfl⟩
theorem L64 (hc : c.Good) {p : S65} (h : c.Ok p) (K : Nat) (hK : 101 < K) : c.Sim c.Broken (fun a => c.Mv true p a.2) (fnS (F64 K p)) ((c.XX p).bind fun q => fnS (F64 K q)) := by
  unfold F64
  refine sim_fnS ?_
  refine sim_call1 (L93 hc h K _ (by simp) (by simp) (by omega)) fun p1 h1 => ?_
  refine sim_call2 rfl (fun _ g => g.1) (L72 hc h1.ok K) fun v2 p2 h2 => ?_
  dsimp only at h2 ⊢
  refine sim_call1 (L93 hc h2.ok K _ (by simp) (by simp) (by omega)) fun p3 h3 => ?_
  refine sim_call2 rfl (fun _ g => g.1) (L70 hc h3.ok K) fun v4 p4 h4 => ?_
  dsimp only at h4 ⊢
  refine sim_call1 (L93 hc h4.ok K _ (by simp) (by simp) (by omega)) fun p5 h5 => ?_
  refine sim_call2 rfl (fun _ g => g.1) (L70 hc h5.ok K) fun v6 p6 h6 => ?_
  dsimp only at h6 ⊢
  refine sim_call1 (L93 hc h6.ok K _ (by simp) (by simp) (by omega)) fun p7 h7 => ?_
  refine sim_call2 rfl (fun _ g => g.1) (L72 hc h7.ok K) fun v8 p8 h8 => ?_
  dsimp only at h8 ⊢
  exact sim_last (L93 hc h8.ok K _ (by simp) (by simp) (by omega)) fun a ha => ⟨Sum.inl (_, a), rfl, rfl, (((((((h1.trans h2).trans h3).trans h4).trans h5).trans h6).trans h7).trans h8).trans ha, rfl⟩
theorem L61 (hc : c.Good) {p : S65} (h : c.Ok p) (K : Nat) (hK : 64 * c.nu p + 200 ≤ K) : c.Sim c.Broken (fun a => c.Mv true p a.2) (fnS (F61 K p)) ((c.XX p).bind fun q => fnS (F61 K q)) := by
  unfold F61
  refine sim_fnS ?_
  have hn := nu_le hc h
  refine sim_call1 (L93 hc h K _ (by simp) (by simp) (by omega)) fun p1 h1 => ?_
  refine sim_call2 rfl (fun _ g => g.1) (L72 hc h1.ok K) fun v2 p2 h2 => ?_
  dsimp only at h2 ⊢
  refine sim_call1 (L93 hc h2.ok K _ (by simp) (by simp) (by omega)) fun p3 h3 => ?_
  have g3 := (h1.trans h2).trans h3
  have n3 := g3.nu
  refine sim_bndS (Qa := fun _ => False) (Qt := fun (t : S65 × List S93) => c.Mv true p t.1) (sim_blkS (sim_mapInl (Qa := QS (fun (t : S65 × List S93) => c.Mv true p t.1) (fun _ => False)) (sim_iterP [] (fun t => c.nu t.1) (fun t => c.Mv true p t.1 ∧ t.2.length + c.nu t.1 ≤ c.nu p) (fun p4 l4 hi => ?_) K ⟨g3, by simp; omega⟩ (by dsimp only; omega)))) (fun a ha => ha.elim) fun t ht => ?_
  · obtain ⟨h4, hl⟩ := hi
    dsimp only at h4 hl ⊢
    have n4 := h4.nu
    refine sim_eyeE (eye_cond (g := true) (is_eye hc h4.ok K _ (by simp) (by omega))) fun b5 a5 => sim_ite (fun hb => ?_) fun hb => ?_
    · have ha := a5 hb
      have np := ha.nu
      refine sim_bndS (Qa := fun _ => False) (Qt := fun (t : S65 × List S93) => c.Mv true p4 t.1 ∧ t.2.length = l4.length + 1) (sim_blkS ?_) (fun a ha => ha.elim) fun t ht => ?_
      · refine sim_call (L30 hc h4.ok ha K _ _) fun p5 h5 => ?_
        have n5 := h5.nu
        refine sim_call1 (L93 hc h5.ok K _ (by simp) (by simp) (by omega)) fun p6 h6 => ?_
        have n6 := h6.nu
        refine sim_call3 (L94 hc h6.ok K _ (by omega)) fun v7 p7 h7 => ?_
        dsimp only at h7 ⊢
        refine sim_chk (room_le (by simp; omega)) ?_
        exact sim_ret (b := Sum.inr (p7, l4 ++ [_])) ⟨(h5.trans h6).trans h7, by simp⟩ rfl (fun g => g)
      · obtain ⟨p5, l5⟩ := t
        obtain ⟨h5, hl5⟩ := ht
        rw [XX_pair]
        dsimp only at h5 hl5 ⊢
        have n5 := h5.nu_lt
        exact sim_ret (b := Sum.inr (p5, l5)) ⟨⟨h4.trans h5, by dsimp only; omega⟩, by dsimp only; omega⟩ rfl (fun g => g)
    · exact sim_ret (b := Sum.inl (Sum.inl (p4, l4))) h4 rfl (fun g => g)
  · obtain ⟨p4, l4⟩ := t
    rw [XX_pair]
    dsimp only at ht ⊢
    exact sim_last (L93 hc ht.ok K _ (by simp) (by simp) (by omega)) fun a ha => ⟨Sum.inl (_, a), rfl, rfl, ht.trans ha, rfl⟩
theorem L62 (hc : c.Good) {p : S65} (h : c.Ok p) (K : Nat) (hK : 64 * c.nu p + 200 ≤ K) : c.Sim c.Broken (fun a => c.Mv true p a.2) (fnS (F62 K p)) ((c.XX p).bind fun q => fnS (F62 K q)) := by
  unfold F62
  refine sim_fnS ?_
  have hn := nu_le hc h
  refine sim_call1 (L93 hc h K _ (by simp) (by simp) (by omega)) fun p1 h1 => ?_
  refine sim_acceptV hc h1.ok (by omega) fun b2 p2 h2 => ?_
  dsimp only
  refine sim_acceptV hc h2.ok (by omega) fun b3 p3 h3 => ?_
  dsimp only
  refine sim_call2 rfl (fun _ g => g.1) (L72 hc h3.ok K) fun v4 p4 h4 => ?_
  dsimp only at h4 ⊢
  have g4 := ((h1.trans h2).trans h3).trans h4
  refine sim_accB (Qt := fun (t : S65 × Bytes) => c.Mv true p t.1) (sim_accept hc h4.ok (by omega) (fun _ p5 h5 => ?_) ?_) fun t ht => ?_
  · simp only [if_true]
    exact sim_last (lw (L72 hc h5.ok K)) fun a ha => ⟨Sum.inr (a.2, _), rfl, rfl, (g4.trans h5).trans ha, rfl⟩
  · exact sim_ret (b := Sum.inr (p4, _)) g4 rfl (fun g => g)
  obtain ⟨p5, v5⟩ := t
  rw [XX_pair]
  dsimp only at ht ⊢
  refine sim_accB (Qt := fun (t : S65 × List Bytes) => c.Mv true p t.1) (sim_accept hc ht.ok (by omega) (fun _ p6 h6 => ?_) ?_) fun t ht => ?_
  · simp only [if_true]
    have n6 := (ht.trans h6).nu
    refine sim_bndS (Qa := fun _ => False) (Qt := fun (t : S65 × List Bytes) => c.Mv true p t.1) (sim_blkS (sim_mapInl (Qa := QS (fun (t : S65 × List Bytes) => c.Mv true p t.1) (fun _ => False)) (sim_iterP ([], true) (fun t => c.nu t.1) (fun t => c.Mv true p t.1 ∧ t.2.1.length + c.nu t.1 ≤ c.nu p) (fun p4 b4 hi => ?_) K ⟨ht.trans h6, by simp; omega⟩ (by dsimp only; omega)))) (fun a ha => ha.elim) fun t ht => ?_
    · obtain ⟨l, more⟩ := b4
      obtain ⟨h4, hl⟩ := hi
      dsimp only at h4 hl ⊢
      have n4 := h4.nu
      refine sim_eye (Eye.cond (g := more) (d := default) (ok_eye K)) ?_
      refine sim_ite (fun hm => ?_) fun hm => ?_
      · have he : p4.ferr = [] := by
          cases more
          · cases hm
          · simpa using hm
        have np := nu_pos (c := c) he
        refine sim_bndS (Qa := fun _ => False) (Qt := fun (t : S65 × List Bytes) => c.Mv true p4 t.1 ∧ t.2.length = l.length + 1) (sim_blkS ?_) (fun a ha => ha.elim) fun t ht => ?_
        · refine sim_eyeE (eye_cond (g := true) (kind_eye hc h4.ok K 1 (by decide))) fun b1 a1 => ?_
          refine sim_bndS (Qa := fun _ => False) (Qt := fun t => c.Mv false p4 t) (sim_ite (fun hb => ?_) fun hb => ?_) (fun a ha => ha.elim) fun p5 h5 => ?_
          · exact sim_last (L30 hc h4.ok (a1 hb) K _ _) fun a ha => ⟨Sum.inr a, rfl, rfl, ha, rfl⟩
          · exact sim_ret (b := Sum.inr p4) (Mv.refl h4.ok) rfl (fun g => g)
          refine sim_call2 rfl (fun _ g => g.1) (L72 hc h5.ok K) fun v6 p6 h6 => ?_
          dsimp only at h6 ⊢
          refine sim_chk (room_le (by simp; omega)) ?_
          exact sim_ret (b := Sum.inr (p6, l ++ [_])) ⟨h5.trans h6, by simp⟩ rfl (fun g => g)
        · obtain ⟨p5, l5⟩ := t
          obtain ⟨h5, hl5⟩ := ht
          rw [XX_pair]
          dsimp only at h5 hl5 ⊢
          have n5 := h5.nu_lt
          refine sim_accept hc h5.ok (by omega) (fun _ p6 h6 => ?_) ?_
          · have n6 := h6.nu
            exact sim_ret (b := Sum.inr (p6, l5, true)) ⟨⟨(h4.trans h5).trans h6, by dsimp only; omega⟩, by dsimp only; omega⟩ rfl (fun g => g)
          · exact sim_ret (b := Sum.inr (p5, l5, false)) ⟨⟨h4.trans h5, by dsimp only; omega⟩, by dsimp only; omega⟩ rfl (fun g => g)
      · exact sim_ret (b := Sum.inl (Sum.inl (p4, l))) h4 rfl (fun g => g)
    · obtain ⟨p7, l7⟩ := t
      rw [XX_pair]
      exact sim_ret (b := Sum.inr (p7, l7)) ht rfl (fun g => g)
  · exact sim_ret (b := Sum.inr (p5, [])) ht rfl (fun g => g)
  obtain ⟨p6, v6⟩ := t
  rw [XX_pair]
  dsimp only at ht ⊢
  refine sim_call1 (L93 hc ht.ok K _ (by simp) (by simp) (by omega)) fun p7 h7 => ?_
  have g7 := ht.trans h7
  have n7 := g7.nu
  refine sim_call2 rfl (fun _ g => g) (L95 hc h7.ok K (by omega)) fun v8 p8 h8 => ?_
  dsimp only at h8 ⊢
  have g8 := g7.trans h8
  have n8 := g8.nu
  refine sim_bndS (Qa := fun _ => False) (Qt := fun (t : S65 × List S93) => c.Mv true p t.1) (sim_blkS (sim_mapInl (Qa := QS (fun (t : S65 × List S93) => c.Mv true p t.1) (fun _ => False)) (sim_iterP [] (fun t => c.nu t.1) (fun t => c.Mv true p t.1 ∧ t.2.length + c.nu t.1 ≤ c.nu p) (fun p4 l4 hi => ?_) K ⟨g8, by simp; omega⟩ (by dsimp only; omega)))) (fun a ha => ha.elim) fun t ht => ?_
  · obtain ⟨h4, hl⟩ := hi
    dsimp only at h4 hl ⊢
    have n4 := h4.nu
    refine sim_eyeE (eye_cond (g := true) (is_eye hc h4.ok K _ (by simp) (by omega))) fun b5 a5 => sim_ite (fun hb => ?_) fun hb => ?_
    · have ha := a5 hb
      have np := ha.nu
      refine sim_bndS (Qa := fun _ => False) (Qt := fun (t : S65 × List S93) => c.Mv true p4 t.1 ∧ t.2.length = l4.length + 1) (sim_blkS ?_) (fun a ha => ha.elim) fun t ht => ?_
      · refine sim_call (L30 hc h4.ok ha K _ _) fun p5 h5 => ?_
        have n5 := h5.nu
        refine sim_call2 rfl (fun _ g => g.1) (L96 hc h5.ok K (by omega)) fun v7 p7 h7 => ?_
        dsimp only at h7 ⊢
        refine sim_chk (room_le (by simp; omega)) ?_
        exact sim_ret (b := Sum.inr (p7, l4 ++ [_])) ⟨h5.trans h7, by simp⟩ rfl (fun g => g)
      · obtain ⟨p5, l5⟩ := t
        obtain ⟨h5, hl5⟩ := ht
        rw [XX_pair]
        dsimp only at h5 hl5 ⊢
        have n5 := h5.nu_lt
        exact sim_ret (b := Sum.inr (p5, l5)) ⟨⟨h4.trans h5, by dsimp only; omega⟩, by dsimp only; omega⟩ rfl (fun g => g)
    · exact sim_ret (b := Sum.inl (Sum.inl (p4, l4))) h4 rfl (fun g => g)
  · obtain ⟨p4, l4⟩ := t
    rw [XX_pair]
    dsimp only at ht ⊢
    exact sim_last (L93 hc ht.ok K _ (by simp) (by simp) (by omega)) fun a ha => ⟨Sum.inl (_, a), rfl, rfl, ht.trans ha, rfl⟩
theorem L32 (hc : c.Good) {p : S65} (h : c.Ok p) (K : Nat) (hK : 64 * c.nu p + 200 ≤ K) : c.Sim c.Broken (fun a => c.Mv true p a.2) (fnS (F32 K p)) ((c.XX p).bind fun q => fnS (F32 K q)) := by
  unfold F32
  refine sim_fnS ?_
  simp only [blk_bind, blk_ite, blockS_lr, blockS_r, bindS_l, bindS_r]
  refine sim_eyeE (eye_cond (g := true) (is_eye hc h K _ (by simp) (by omega))) fun b1 a1 => sim_ite (fun hb => ?_) fun hb => ?_
  · exact sim_last (L61 hc h K hK) fun a ha => ⟨Sum.inl (a.1, a.2), rfl, rfl, ha, rfl⟩
  refine sim_eyeE (eye_cond (g := true) (is_eye hc h K _ (by simp) (by omega))) fun b1 a1 => sim_ite (fun hb => ?_) fun hb => ?_
  · exact sim_last (L62 hc h K hK) fun a ha => ⟨Sum.inl (a.1, a.2), rfl, rfl, ha, rfl⟩
  refine sim_eyeE (eye_cond (g := true) (is_eye hc h K _ (by simp) (by omega))) fun b1 a1 => sim_ite (fun hb => ?_) fun hb => ?_
  · exact sim_last (L63 hc h K hK) fun a ha => ⟨Sum.inl (a.1, a.2), rfl, rfl, ha, rfl⟩
  exact sim_last (L64 hc h K (by omega)) fun a ha => ⟨Sum.inl (a.1, a.2), rfl, rfl, ha, rfl⟩
end Side
end Go.Proofs.YtphnfaabcnciiaaGreatDoor
