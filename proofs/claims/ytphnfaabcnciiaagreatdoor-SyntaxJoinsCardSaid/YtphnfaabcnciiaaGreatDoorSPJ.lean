/- A run on the second text, and that on both. No conditions. -/
import Derived.Test.YtphnfaabcnciiaaGreatDoorPC
set_option linter.unusedVariables false
set_option linter.unusedSimpArgs false
set_option linter.unusedSectionVars false
namespace Go.Proofs.YtphnfaabcnciiaaGreatDoor
open Go Go.Dl
theorem has_eq (K : Nat) (l : List Bytes) (x : Bytes) (hl : l.length ≤ 100) (hK : 100 < K) : fnS (F60 K l x) = some (decide (x ∈ l)) := by
  obtain ⟨i, h1, h2⟩ := index_eq K l x (by omega) (by omega)
  unfold F60
  rw [h1]
  show some (decide (i ≥ 0)) = _
  rw [decide_eq_decide.2 h2]
namespace Side
variable {c : Side}
theorem is_eq {p : S65} (h : c.Ok p) (ha : c.Act p) {K : Nat} (hK : 100 < K) (l : List Bytes) (hl : l.length ≤ 100) : fnS (F29 K p l) = some ((((c.cur p).fKind == 2) || ((c.cur p).fKind == 4)) && decide ((c.cur p).fText ∈ l)) := by
  unfold F29 letV
  have e0 : fnS (F21 K p) = some true := by unfold F21; rw [ha.1]; rfl
  simp only [tok_p h K, fnS_l, Option.bind_some, e0, Bool.true_and, has_eq K l _ hl hK]
  cases (((c.cur p).fKind == 2) || ((c.cur p).fKind == 4)) <;> rfl
theorem decl_bad (hc : c.Good) {p : S65} (h : c.Ok p) (ha : c.Act p) {K : Nat} (hK : 101 < K) (hb : fnS (F29 K p heads) = some false) {d : S60} {p' : S65} (hd : fnS (F32 K p) = some (d, p')) : p'.ferr ≠ [] := by
  have h1 : ∀ w ∈ heads, fnS (F29 K p [w]) = some false := by
    intro w hw
    rw [is_eq h ha (by omega) _ (by decide)] at hb
    rw [is_eq h ha (by omega) _ (by simp)]
    simp only [Option.some.injEq, Bool.and_eq_false_iff, decide_eq_false_iff_not] at hb ⊢
    rcases hb with hb | hb
    · exact .inl hb
    · exact .inr fun hm => hb (by rw [List.mem_singleton] at hm; rw [hm]; exact hw)
  have e1 := h1 [73, 78, 84, 69, 82, 70, 65, 67, 69] (by decide)
  have e2 := h1 [67, 76, 65, 83, 83] (by decide)
  have e3 := h1 [80, 82, 79, 71, 82, 65, 77] (by decide)
  have e4 := h1 [84, 65, 83, 75] (by decide)
  have hw : ∃ q, fnS (F93 K p ([[84, 65, 83, 75]] : List Bytes)) = some q ∧ c.Mv true p q ∧ q.ferr ≠ [] := by
    obtain ⟨q, g1, g2, _⟩ := L93 hc h K ([[84, 65, 83, 75]] : List Bytes) (by simp) (by simp) (by omega)
    refine ⟨q, g1, g2, ?_⟩
    have e : fnS (F93 K p ([[84, 65, 83, 75]] : List Bytes)) = some ⟨p.ftokens, p.fi, p.fend, [(3, (c.cur p).fAt)]⟩ := by
      obtain ⟨k, rfl⟩ : ∃ k, K = (k + 1) + 1 := ⟨K - 2, by omega⟩
      have hwc : wantC (k + 1 + 1) p [84, 65, 83, 75] = some ⟨p.ftokens, p.fi, p.fend, [(3, (c.cur p).fAt)]⟩ := by
        unfold wantC F39
        simp only [condM_t, e4, Option.bind_some, Bool.not_false, if_true, fnS_l]
        unfold F20
        rw [if_pos (by rw [ha.1]; rfl)]
        simp only [tok_p h, condM_t, fnS_l, Option.bind_some]
        unfold F27
        simp only [fnS_l, fnS_r, Option.bind_some]
      rw [want_eq]
      have := want_it (k + 1 + 1) ([[84, 65, 83, 75]] : List Bytes) (by simp) p 0 (by simp) (k + 1)
      rw [show ((0 : Nat) : Int) = 0 from rfl] at this
      rw [this]
      have e0 : ([[84, 65, 83, 75]] : List Bytes).getD 0 default = [84, 65, 83, 75] := rfl
      rw [e0, hwc, Option.bind_some]
      unfold iter
      rw [wantB_end _ _ _ _ (by simp)]
      rfl
    rw [e] at g1
    cases g1
    simp
  obtain ⟨p1, w1, m1, x1⟩ := hw
  have h64 : fnS (F64 K p) = some (d, p') := by
    rw [← hd]
    unfold F32
    simp only [condM_t, e1, e2, e3, Option.bind_some, Bool.false_eq_true, if_false, blockS_r, bindS_r]
    cases fnS (F64 K p) <;> rfl
  have keep : ∀ {s : Bool} {a b : S65}, c.Mv s a b → a.ferr ≠ [] → b.ferr ≠ [] := fun hm ha => by rw [(hm.er ha).2]; exact ha
  unfold F64 at h64
  rw [w1, Option.bind_some] at h64
  obtain ⟨⟨v2, p2⟩, z2, m2, _⟩ := L72 hc m1.ok K
  rw [z2, Option.bind_some] at h64
  obtain ⟨p3, z3, m3, _⟩ := L93 hc m2.ok K ([[40], [73, 78, 84, 69, 82, 86, 65, 76]] : List Bytes) (by simp) (by simp) (by omega)
  dsimp only at h64 m2
  rw [z3, Option.bind_some] at h64
  obtain ⟨⟨v4, p4⟩, z4, m4, _⟩ := L70 hc m3.ok K
  rw [z4, Option.bind_some] at h64
  dsimp only at h64 m4
  obtain ⟨p5, z5, m5, _⟩ := L93 hc m4.ok K ([[44], [80, 82, 73, 79, 82, 73, 84, 89]] : List Bytes) (by simp) (by simp) (by omega)
  rw [z5, Option.bind_some] at h64
  obtain ⟨⟨v6, p6⟩, z6, m6, _⟩ := L70 hc m5.ok K
  rw [z6, Option.bind_some] at h64
  dsimp only at h64 m6
  obtain ⟨p7, z7, m7, _⟩ := L93 hc m6.ok K ([[41], [58]] : List Bytes) (by simp) (by simp) (by omega)
  rw [z7, Option.bind_some] at h64
  obtain ⟨⟨v8, p8⟩, z8, m8, _⟩ := L72 hc m7.ok K
  rw [z8, Option.bind_some] at h64
  dsimp only at h64 m8
  obtain ⟨p9, z9, m9, _⟩ := L93 hc m8.ok K ([[59]] : List Bytes) (by simp) (by simp) (by omega)
  rw [z9, Option.bind_some] at h64
  simp only [fnS_l, Option.some.injEq, Prod.mk.injEq] at h64
  rw [← h64.2]
  exact keep m9 (keep m8 (keep m7 (keep m6 (keep m5 (keep m4 (keep m3 (keep m2 x1)))))))
theorem parB_full (hc : c.Good) (hs : c.suf = []) {p : S65} (h : c.Ok p) (ha : c.Act p) {K : Nat} (hK : 64 * c.nu p + 200 ≤ K) (hb : fnS (F29 K p heads) = some true) (u' : List S60) (pl' : List Int) (h12 : 12 ≤ u'.length) (hu : u'.length ≤ 1000000) (hpl : pl'.length ≤ 1000000) :
    ∃ x y z, parB K (c.ph p, u', pl') = some (.inr (x, y, z)) ∧ x.ferr = [(5, c.rho (c.cur p).fAt)] := by
  obtain ⟨b, e, _⟩ := is_eye hc h K heads (by decide) (by omega)
  have eb : b = true := by
    have := e.1
    dsimp only at this
    rw [hb] at this
    simpa using this.symm
  subst eb
  have hmv := bad_mv hc h ha
  have hng : ¬ c.Gone (c.bad p) := fun g => g.1 hs
  have hn := hmv.nu
  obtain ⟨⟨d, p'⟩, h1, h2, h3⟩ := L32 hc hmv.ok K (by omega)
  rw [XX_not (α := S65) (a := c.bad p) hng, Option.bind_some] at h3
  have h3 : fnS (F32 K (c.ph (c.bad p))) = some (d, c.ph p') := h3 fun g => g.1.1 hs
  refine ⟨c.ph p', u' ++ [d], pl' ++ [c.rho (c.cur (c.bad p)).fAt], ?_, ?_⟩
  · unfold parB
    have e0 : fnS (F21 K (c.ph p)) = some true := by unfold F21; show some (!errS (c.er p.ferr)) = _; rw [ha.1]; rfl
    have hl : decide (((c.ph p).fi : Int) < (Int.ofNat (c.ph p).ftokens.length)) = true := by
      have := ha.2
      simp [ph]; omega
    have e1 := e.2 ha.not_gone
    dsimp only at e1
    simp only [e0, hl, e1, condM_t, Option.bind_some, letV, Bool.and_self, if_true]
    rw [room_q hc h ha K (Int.ofNat u'.length), if_pos (by simp; omega)]
    simp only [Option.bind_some, bindS_r, tok_q hc hmv.ok K hng, fnS_l]
    rw [chk_t (room_le (by simp; omega)), chk_nil, h3, Option.bind_some, chk_t (room_le (by simp; omega)), chk_nil]
    rfl
  · have h5 : p'.ferr = [(5, (c.cur p).fAt)] := (h2.er (by show [(5, (c.cur p).fAt)] ≠ []; simp)).2
    show c.er p'.ferr = _
    rw [h5]; rfl
theorem ph_end {p : S65} (hs : c.suf = []) (h : c.Ok p) (ha : AtEnd p) : ¬ ((c.ph p).ferr = [] ∧ (c.ph p).fi < (c.ph p).ftokens.length) := by
  rintro ⟨g1, g2⟩
  refine ha ⟨er_nil.1 g1, ?_⟩
  rw [h.tok]
  simp only [ph, hs, List.length_append, List.length_map, List.length_nil] at g2
  omega
theorem join_loop (hc : c.Good) (hs : c.suf = []) {K : Nat} (hK : 64 * (c.T.length + 1) + 200 ≤ K) (wA : List S60) : ∀ (n k : Nat) (p : S65) (u : List S60) (l l' : List Int), c.Ok p → c.nu p < n → n ≤ k → u.length + c.nu p ≤ 200000 → l.length + c.nu p ≤ 200000 → l'.length + c.nu p ≤ 200000 → wA.length + u.length ≤ 12 →
    ∃ q w m, iter k (parB K) (p, u, l) = some (.inl (q, u ++ w, l ++ m)) ∧ w.length = m.length ∧ c.Ok q ∧ AtEnd q ∧ (q.ferr = [] →
      (wA.length + u.length + w.length ≤ 12 ∧ iter k (parB K) (c.ph p, wA ++ u, l') = some (.inl (c.ph q, wA ++ u ++ w, l' ++ m.map c.rho))) ∨
      (12 < wA.length + u.length + w.length ∧ ∃ x y z, iter k (parB K) (c.ph p, wA ++ u, l') = some (.inl (x, y, z)) ∧ x.ferr = [(5, c.rho (m.getD (12 - (wA.length + u.length)) default))]))
  | 0, _, _, _, _, _, _, hn, _, _, _, _, _ => absurd hn (by omega)
  | n + 1, 0, _, _, _, _, _, _, hk, _, _, _, _ => absurd hk (by omega)
  | n + 1, k + 1, p, u, l, l', h, hn, hk, hu, hl, hl', h12 => by
    by_cases ha : p.ferr = [] ∧ p.fi < p.ftokens.length
    · have a1 : c.Act p := ⟨ha.1, by rw [← h.tok]; exact ha.2⟩
      have n1 := nu_T h
      obtain ⟨b, d, q, a, hbe, s1, v1, ab, hbf, w1⟩ := parB_act hc h a1 (K := K) (by omega) u l (by omega) (by omega)
      have hlt : c.nu q < c.nu p := by
        rcases v1.nu_lt with g | ⟨g, _⟩
        · exact g
        · have := a1.nu; omega
      by_cases hf : wA.length + u.length < 12
      · obtain ⟨r, w, m, t1, t2, t3, t4, t5⟩ := join_loop hc hs hK wA n k q (u ++ [d]) (l ++ [a]) (l' ++ [c.rho a]) v1.ok (by omega) (by omega) (by simp; omega) (by simp; omega) (by simp; omega) (by simp; omega)
        refine ⟨r, d :: w, a :: m, by unfold iter; rw [s1]; dsimp only; rw [t1]; simp, by simp [t2], t3, t4, fun hr => ?_⟩
        have w1 := w1 (wA ++ u) l' (by simp; omega) (by simp; omega) (by omega) fun g => g.1.1 hs
        rcases t5 hr with ⟨z1, z2⟩ | ⟨z1, x, y, z, z2, z3⟩
        · left
          refine ⟨by simp at z1 ⊢; omega, ?_⟩
          unfold iter; rw [w1]; dsimp only
          rw [List.append_assoc wA u [d], z2]; simp
        · right
          refine ⟨by simp at z1 ⊢; omega, x, y, z, ?_, ?_⟩
          · unfold iter; rw [w1]; dsimp only
            rw [List.append_assoc wA u [d], z2]
          · rw [z3, show 12 - (wA.length + u.length) = (12 - (wA.length + (u ++ [d]).length)) + 1 by simp; omega]
            rfl
      · obtain ⟨r, w, m, t1, t2, t3, t4, _⟩ := tot_loop hc hK n k q (u ++ [d]) (l ++ [a]) v1.ok (by omega) (by omega) (by simp; omega) (by simp; omega)
        refine ⟨r, d :: w, a :: m, by unfold iter; rw [s1]; dsimp only; rw [t1]; simp, by simp [t2], t3, t4, fun hr => .inr ⟨by simp; omega, ?_⟩⟩
        have hq : q.ferr = [] := by
          by_cases hq : q.ferr = []
          · exact hq
          · exfalso
            obtain ⟨k', rfl⟩ : ∃ k', k = k' + 1 := ⟨k - 1, by omega⟩
            have : iter (k' + 1) (parB K) (q, u ++ [d], l ++ [a]) = some (.inl (q, u ++ [d], l ++ [a])) := by unfold iter; rw [parB_end K _ _ (fun g => hq g.1)]
            rw [this] at t1
            simp only [Option.some.injEq, Sum.inl.injEq, Prod.mk.injEq] at t1
            rw [← t1.1] at hr
            exact hq hr
        have hbt : b = true := by
          cases b
          · exact absurd hq (decl_bad hc h a1 (by omega) hbe (hbf rfl))
          · rfl
        subst hbt
        obtain ⟨x, y, z, z1, z2⟩ := parB_full hc hs h a1 (K := K) (by omega) hbe (wA ++ u) l' (by simp; omega) (by simp; omega) (by omega)
        refine ⟨x, y, z, ?_, ?_⟩
        · unfold iter; rw [z1]; dsimp only
          obtain ⟨k', rfl⟩ : ∃ k', k = k' + 1 := ⟨k - 1, by omega⟩
          unfold iter
          rw [parB_end K _ _ (fun g => by rw [z2] at g; simp at g)]
        · rw [z2, show 12 - (wA.length + u.length) = 0 by omega, ab]; rfl
    · refine ⟨p, [], [], by unfold iter; rw [parB_end K u l ha]; simp, rfl, h, ha, fun hr => .inl ⟨by simpa using h12, ?_⟩⟩
      unfold iter
      rw [parB_end K _ _ (ph_end hs h ha)]
      simp
end Side
end Go.Proofs.YtphnfaabcnciiaaGreatDoor
