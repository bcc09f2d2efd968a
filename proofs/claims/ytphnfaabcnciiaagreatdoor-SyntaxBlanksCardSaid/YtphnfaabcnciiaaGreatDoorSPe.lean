/- The parser's loop over declarations, side by side. Two texts of the same tokens have the same tree. No conditions. -/
import Derived.Test.YtphnfaabcnciiaaGreatDoorSPd
import Derived.Test.YtphnfaabcnciiaaGreatDoorSa
import Derived.Test.YtphnfaabcnciiaaGreatDoorLW
set_option linter.unusedVariables false
set_option linter.unusedSimpArgs false
set_option linter.unusedSectionVars false
namespace Go.Proofs.YtphnfaabcnciiaaGreatDoor
open Go Go.Dl

abbrev PSt := S65 × (List S60) × (List Int)
abbrev heads : List Bytes := [[73, 78, 84, 69, 82, 70, 65, 67, 69], [67, 76, 65, 83, 83], [80, 82, 79, 71, 82, 65, 77], [84, 65, 83, 75]]
def parB (K : Nat) (u75 : PSt) : Option ((PSt ⊕ (S44 × (List Int) × Err)) ⊕ PSt) := ((condM true (fnS (F21 K u75.1)) default).bind (fun r94 => (letV (r94 && (decide ((u75.1.fi : Int) < (Int.ofNat u75.1.ftokens.length)))) (fun (x95 : Bool) => (if x95 = true then (bindS (blockS ((condM true (fnS (F29 K u75.1 heads)) default).bind (fun r104 => (bindS (if r104 = true then ((fnS (F30 K u75.1 (Int.ofNat u75.2.1.length) 12)).bind (fun r107 => (some (.inr (r107))))) else (some (.inr (u75.1)))) (fun (u106 : S65) => ((condM true (fnS (F31 K u106)) default).bind (fun r108 => (chk [room ((u75.2.2.length + ([r108.fAt].length)) * 8)] ((fnS (F32 K u106)).bind (fun r109 => (chk [room ((u75.2.1.length + ([r109.1].length)) * 160)] (some (.inr (r109.2, (u75.2.1 ++ [r109.1]), (u75.2.2 ++ [r108.fAt]))))))))))))))) (fun (u103 : S65 × (List S60) × (List Int)) => (some (.inr (u103.1, u103.2.1, u103.2.2))))) else (some (.inl (Sum.inl (u75.1, u75.2.1, u75.2.2)))))))))

theorem F13_eq (K : Nat) (a0 : Bytes) : F13 K a0 = (fnS (F18 K a0)).bind fun r1 => bindS (blockS ((iter K (parB K) (r1, [], [])).map .inl)) (fun (u56 : PSt) => ((condM true (fnS (F21 K u56.1)) default).bind (fun r111 => (if (!r111) = true then (some (.inl ((⟨[]⟩ : S44), [], u56.1.ferr))) else (some (.inl ((⟨u56.2.1⟩ : S44), u56.2.2, ([] : Err)))))))) := rfl

namespace Side
variable {c : Side}

/-- A parser at a wrong token. -/
noncomputable def bad (c : Side) (p : S65) : S65 := ⟨p.ftokens, p.fi, p.fend, [(5, (c.cur p).fAt)]⟩

theorem bad_mv (hc : c.Good) {p : S65} (h : c.Ok p) (ha : c.Act p) : c.Mv false p (c.bad p) := by
  have hat := cur_at hc h
  refine ⟨⟨h.tok, h.en, h.lo, h.hi, .inr ⟨5, (c.cur p).fAt, rfl, by omega, by omega, hat.1, hat.2⟩, fun g => absurd (show c.Gone p from ⟨g.1, g.2⟩) ha.not_gone⟩, Int.le_refl _, fun g => absurd ha.1 g, fun h => by cases h⟩

theorem room_p (hc : c.Good) {p : S65} (h : c.Ok p) (ha : c.Act p) (K : Nat) (m : Int) : fnS (F30 K p m 12) = some (if 12 ≤ m then c.bad p else p) := by
  unfold F30
  by_cases hm : 12 ≤ m
  · rw [if_pos (by simpa using hm), if_pos hm]
    have e : fnS (F20 K p 5) = some (c.bad p) := by
      unfold F20
      rw [if_pos (by rw [ha.1]; rfl)]
      simp only [tok_p h K, condM_t, fnS_l, Option.bind_some]
      unfold F27
      simp only [fnS_l, fnS_r, Option.bind_some]
      rfl
    rw [e]; rfl
  · rw [if_neg (by simpa using hm), if_neg hm]; rfl

theorem room_q (hc : c.Good) {p : S65} (h : c.Ok p) (ha : c.Act p) (K : Nat) (m : Int) : fnS (F30 K (c.ph p) m 12) = some (c.ph (if 12 ≤ m then c.bad p else p)) := by
  unfold F30
  by_cases hm : 12 ≤ m
  · rw [if_pos (by simpa using hm), if_pos hm]
    have e : fnS (F20 K (c.ph p) 5) = some (c.ph (c.bad p)) := by
      unfold F20
      rw [if_pos (by show (!errS (c.er p.ferr)) = true; rw [ha.1]; rfl)]
      simp only [tok_q hc h K ha.not_gone, condM_t, fnS_l, Option.bind_some]
      unfold F27
      simp only [fnS_l, fnS_r, Option.bind_some]
      rfl
    rw [e]; rfl
  · rw [if_neg (by simpa using hm), if_neg hm]; rfl

/-- The loop is at its end. -/
theorem parB_end {p : S65} (K : Nat) (u : List S60) (pl : List Int) (h : ¬ (p.ferr = [] ∧ p.fi < p.ftokens.length)) : parB K (p, u, pl) = some (.inl (.inl (p, u, pl))) := by
  unfold parB F21
  simp only [condM_t, fnS_l, Option.bind_some, letV, errS_iff]
  rw [if_neg]
  simpa [Classical.not_and_iff_not_or_not] using h

theorem room_ifp {A : Type} (hc : c.Good) {p : S65} (h : c.Ok p) (ha : c.Act p) (K : Nat) (m : Nat) (b : Bool) : (if b = true then ((fnS (F30 K p (Int.ofNat m) 12)).bind (fun r107 => (some (.inr (r107))))) else (some (.inr p)) : Option (A ⊕ S65)) = some (.inr (if (b = true ∧ 12 ≤ m) then c.bad p else p)) := by
  have e : ((12 : Int) ≤ Int.ofNat m) ↔ 12 ≤ m := by constructor <;> intro h <;> simp at * <;> omega
  cases b
  · simp
  · simp only [if_true, true_and, room_p hc h ha, Option.bind_some, e]
theorem room_ifq {A : Type} (hc : c.Good) {p : S65} (h : c.Ok p) (ha : c.Act p) (K : Nat) (m : Nat) (b : Bool) : (if b = true then ((fnS (F30 K (c.ph p) (Int.ofNat m) 12)).bind (fun r107 => (some (.inr (r107))))) else (some (.inr (c.ph p))) : Option (A ⊕ S65)) = some (.inr (c.ph (if (b = true ∧ 12 ≤ m) then c.bad p else p))) := by
  have e : ((12 : Int) ≤ Int.ofNat m) ↔ 12 ≤ m := by constructor <;> intro h <;> simp at * <;> omega
  cases b
  · simp
  · simp only [if_true, true_and, room_q hc h ha, Option.bind_some, e]

/-- A declaration. -/
theorem parB_act (hc : c.Good) {p : S65} (h : c.Ok p) (ha : c.Act p) {K : Nat} (hK : 64 * c.nu p + 200 ≤ K) (u : List S60) (pl : List Int) (hu : u.length ≤ 1000000) (hpl : pl.length ≤ 1000000) :
    ∃ d p' a, parB K (p, u, pl) = some (.inr (p', u ++ [d], pl ++ [a])) ∧ c.Mv true p p' ∧
      ∀ u' pl', (12 ≤ u'.length ↔ 12 ≤ u.length) → u'.length ≤ 1000000 → pl'.length ≤ 1000000 → ¬ c.Broken p' → parB K (c.ph p, u', pl') = some (.inr (c.ph p', u' ++ [d], pl' ++ [c.rho a])) := by
  obtain ⟨b, e, _⟩ := is_eye hc h K heads (by decide) (by omega)
  obtain ⟨q, hq⟩ : ∃ q, q = if (b = true ∧ 12 ≤ u.length) then c.bad p else p := ⟨_, rfl⟩
  have hmv : c.Mv false p q := by
    rw [hq]; split
    · exact bad_mv hc h ha
    · exact Mv.refl h
  have hfi : q.fi = p.fi := by rw [hq]; split <;> rfl
  have hng : ¬ c.Gone q := fun g => ha.not_gone ⟨g.1, by rw [← hfi]; exact g.2⟩
  have hn := hmv.nu
  obtain ⟨⟨d, p'⟩, h1, h2, h3⟩ := L32 hc hmv.ok K (by omega)
  rw [XX_not (α := S65) hng, Option.bind_some] at h3
  refine ⟨d, p', (c.cur q).fAt, ?_, by have := hmv.trans h2; simpa using this, ?_⟩
  · unfold parB
    have e0 : fnS (F21 K p) = some true := by unfold F21; rw [ha.1]; rfl
    have hl : decide ((p.fi : Int) < (Int.ofNat p.ftokens.length)) = true := by rw [h.tok]; simpa using ha.2
    have e1 := e.1
    dsimp only at e1
    simp only [e0, hl, e1, condM_t, Option.bind_some, letV, Bool.and_self, if_true]
    rw [room_ifp hc h ha, ← hq]
    simp only [bindS_r, tok_p hmv.ok K, fnS_l, Option.bind_some]
    rw [chk_t (room_le (by simp; omega)), chk_nil, h1, Option.bind_some, chk_t (room_le (by simp; omega)), chk_nil]
    rfl
  · intro u' pl' hcnt hu' hpl' hb
    have h3 : fnS (F32 K (c.ph q)) = some (d, c.ph p') := h3 hb
    unfold parB
    have e0 : fnS (F21 K (c.ph p)) = some true := by unfold F21; show some (!errS (c.er p.ferr)) = _; rw [ha.1]; rfl
    have hl : decide (((c.ph p).fi : Int) < (Int.ofNat (c.ph p).ftokens.length)) = true := by
      have := ha.2
      simp [ph]; omega
    have e1 := e.2 ha.not_gone
    dsimp only at e1
    simp only [e0, hl, e1, condM_t, Option.bind_some, letV, Bool.and_self, if_true]
    rw [room_ifq hc h ha, show (if (b = true ∧ 12 ≤ u'.length) then c.bad p else p) = q by rw [hq]; simp only [hcnt]]
    simp only [bindS_r, tok_q hc hmv.ok K hng, fnS_l, Option.bind_some]
    rw [chk_t (room_le (by simp; omega)), chk_nil, h3, Option.bind_some, chk_t (room_le (by simp; omega)), chk_nil]
    rfl
end Side
end Go.Proofs.YtphnfaabcnciiaaGreatDoor

set_option linter.unusedVariables false
set_option linter.unusedSimpArgs false
set_option linter.unusedSectionVars false
namespace Go.Proofs.YtphnfaabcnciiaaGreatDoor
open Go Go.Dl

/-- Where tokens stand does not matter. -/
def flat (T : List S41) (e : Int) : Side := ⟨T, e, [], [], fun _ => 0, 0⟩

namespace Side
theorem flat_good {T : List S41} {e : Int} (h : T.length ≤ 100000) (h0 : ∀ t ∈ T, 0 ≤ t.fAt ∧ t.fAt ≤ e) (he : 0 ≤ e) : (flat T e).Good := ⟨by simpa [flat] using h, fun _ => rfl, h0, he⟩
theorem flat_gone {T : List S41} {e : Int} (p : S65) : ¬ (flat T e).Gone p := fun g => g.1 rfl

theorem nu_T {c : Side} {p : S65} (h : c.Ok p) : c.nu p ≤ c.T.length + 1 := by
  unfold nu
  split
  · have := h.lo; omega
  · omega
theorem two_loops {T1 T2 : List S41} {e1 e2 : Int} (g1 : (flat T1 e1).Good) (g2 : (flat T2 e2).Good) (hl : T1.length = T2.length) {K : Nat} (hK : 64 * (T1.length + 1) + 200 ≤ K) :
    ∀ (n k : Nat) (p1 p2 : S65) (u : List S60) (l1 l2 : List Int), (flat T1 e1).Ok p1 → (flat T2 e2).Ok p2 → (flat T1 e1).ph p1 = (flat T2 e2).ph p2 → (flat T1 e1).nu p1 < n → n ≤ k → u.length + (flat T1 e1).nu p1 ≤ 200000 → l1.length = u.length → l2.length = u.length →
    ∃ q1 q2 u' m1 m2, iter k (parB K) (p1, u, l1) = some (.inl (q1, u', m1)) ∧ iter k (parB K) (p2, u, l2) = some (.inl (q2, u', m2)) ∧ m1.length = m2.length ∧ (flat T1 e1).ph q1 = (flat T2 e2).ph q2
  | 0, _, _, _, _, _, _, _, _, _, hn, _, _, _, _ => absurd hn (by omega)
  | n + 1, 0, _, _, _, _, _, _, _, _, _, hk, _, _, _ => absurd hk (by omega)
  | n + 1, k + 1, p1, p2, u, l1, l2, h1, h2, hR, hn, hk, hu, hl1, hl2 => by
    have hfi : p1.fi = p2.fi := by
      have := congrArg S65.fi hR
      simpa [ph, flat] using this
    have her : p1.ferr = [] ↔ p2.ferr = [] := by
      have := congrArg S65.ferr hR
      simp only [ph, er] at this
      cases ha : p1.ferr <;> cases hb : p2.ferr <;> rw [ha, hb] at this <;> simp at this ⊢
    by_cases ha : p1.ferr = [] ∧ p1.fi < p1.ftokens.length
    · have a1 : (flat T1 e1).Act p1 := ⟨ha.1, by rw [← h1.tok]; exact ha.2⟩
      have a2 : (flat T2 e2).Act p2 := ⟨her.1 ha.1, by rw [← hfi]; show p1.fi < T2.length; rw [← hl]; exact a1.2⟩
      have n1 : (flat T1 e1).nu p1 ≤ T1.length + 1 := nu_T h1
      have n2 : (flat T2 e2).nu p2 ≤ T2.length + 1 := nu_T h2
      obtain ⟨d1, q1, b1, s1, v1, w1⟩ := parB_act g1 h1 a1 (K := K) (by omega) u l1 (by omega) (by omega)
      obtain ⟨d2, q2, b2, s2, v2, w2⟩ := parB_act g2 h2 a2 (K := K) (by omega) u l2 (by omega) (by omega)
      have w1 := w1 u [] Iff.rfl (by omega) (by simp) fun g => flat_gone _ g.1
      have w2 := w2 u [] Iff.rfl (by omega) (by simp) fun g => flat_gone _ g.1
      rw [hR, w2] at w1
      simp only [Option.some.injEq, Sum.inr.injEq, Prod.mk.injEq] at w1
      obtain ⟨hR', hd, _⟩ := w1
      have hd : d2 = d1 := by simpa using hd
      subst hd
      have hlt : (flat T1 e1).nu q1 < (flat T1 e1).nu p1 := by
        rcases v1.nu_lt with g | ⟨g, _⟩
        · exact g
        · have := a1.nu; omega
      obtain ⟨r1, r2, u', m1, m2, t1, t2, t3, t4⟩ := two_loops g1 g2 hl hK n k q1 q2 (u ++ [d2]) (l1 ++ [b1]) (l2 ++ [b2]) v1.ok v2.ok hR'.symm (by omega) (by omega) (by simp; omega) (by simp; omega) (by simp; omega)
      refine ⟨r1, r2, u', m1, m2, ?_, ?_, t3, t4⟩
      · unfold iter; rw [s1]; exact t1
      · unfold iter; rw [s2]; exact t2
    · have hb : ¬ (p2.ferr = [] ∧ p2.fi < p2.ftokens.length) := by
        rw [h2.tok, ← her, ← hfi]
        rw [h1.tok] at ha
        show ¬ (p1.ferr = [] ∧ p1.fi < T2.length)
        rw [← hl]; exact ha
      refine ⟨p1, p2, u, l1, l2, ?_, ?_, by omega, hR⟩
      · unfold iter; rw [parB_end K u l1 ha]
      · unfold iter; rw [parB_end K u l2 hb]
end Side

theorem F18_eq (K : Nat) (hK : 200000 < K) (s : Bytes) {t : List S41} (h : lx.allF s = (t, [])) : fnS (F18 K s) = some ⟨t, 0, Int.ofNat s.length, []⟩ := by
  unfold F18
  rw [all_eqA K s hK, h]
  rfl

/-- The same tokens, the same tree. -/
theorem two_parses (K : Nat) (hK : 200000 < K) (s b : Bytes) {t1 t2 : List S41} (h1 : lx.allF s = (t1, [])) (h2 : lx.allF b = (t2, [])) (hl1 : t1.length ≤ 1500)
    (p1 : ∀ t ∈ t1, 0 ≤ t.fAt ∧ t.fAt ≤ (s.length : Int)) (p2 : ∀ t ∈ t2, 0 ≤ t.fAt ∧ t.fAt ≤ (b.length : Int))
    (hs : t1.map (fun t => (⟨t.fKind, t.fText, t.fN, 0⟩ : S41)) = t2.map (fun t => (⟨t.fKind, t.fText, t.fN, 0⟩ : S41))) :
    ∃ u m1 m2 c1 c2, fnS (F13 K s) = some (u, m1, c1) ∧ fnS (F13 K b) = some (u, m2, c2) ∧ m1.length = m2.length ∧ (c1.headD (0, 0)).1 = (c2.headD (0, 0)).1 := by
  have hl : t1.length = t2.length := by have := congrArg List.length hs; simpa using this
  have g1 : (flat t1 s.length).Good := Side.flat_good (by omega) p1 (by omega)
  have g2 : (flat t2 b.length).Good := Side.flat_good (by omega) p2 (by omega)
  have o1 : (flat t1 s.length).Ok ⟨t1, 0, Int.ofNat s.length, []⟩ := ⟨rfl, rfl, Int.le_refl _, by show (0 : Int) ≤ t1.length; omega, .inl rfl, fun _ => .inl rfl⟩
  have o2 : (flat t2 b.length).Ok ⟨t2, 0, Int.ofNat b.length, []⟩ := ⟨rfl, rfl, Int.le_refl _, by show (0 : Int) ≤ t2.length; omega, .inl rfl, fun _ => .inl rfl⟩
  have hR : (flat t1 s.length).ph ⟨t1, 0, Int.ofNat s.length, []⟩ = (flat t2 b.length).ph ⟨t2, 0, Int.ofNat b.length, []⟩ := by
    have e : ∀ (T : List S41) (e : Int) (E : Int), (flat T e).ph ⟨T, 0, E, []⟩ = ⟨T.map (fun t => (⟨t.fKind, t.fText, t.fN, 0⟩ : S41)), 0, 0, []⟩ := by
      intro T e E
      simp [Side.ph, flat, Side.er, Side.tk]
    rw [e, e, hs]
  have n1 := Side.nu_T o1
  obtain ⟨q1, q2, u, m1, m2, r1, r2, r3, r4⟩ := Side.two_loops g1 g2 hl (K := K) (by omega) (t1.length + 2) K _ _ [] [] [] o1 o2 hR (by have : (flat t1 s.length).T.length = t1.length := rfl; omega) (by omega) (by have : (flat t1 s.length).T.length = t1.length := rfl; rw [List.length_nil]; omega) rfl rfl
  have her := congrArg S65.ferr r4
  simp only [Side.ph, Side.er, flat] at her
  have hc : (q1.ferr.headD (0, 0)).1 = (q2.ferr.headD (0, 0)).1 := by
    cases ha : q1.ferr <;> cases hb : q2.ferr <;> rw [ha, hb] at her <;> simp at her ⊢
    exact her.1
  rw [F13_eq, F13_eq, F18_eq K hK s h1, F18_eq K hK b h2, Option.bind_some, Option.bind_some, r1, r2]
  simp only [Option.map_some, blockS_ll, bindS_r, condM_t]
  unfold F21
  simp only [fnS_l, Option.bind_some, Side.errS_iff]
  cases ha : q1.ferr with
  | nil =>
    have hb : q2.ferr = [] := by
      rw [ha] at her
      simpa using her.symm
    rw [hb]
    exact ⟨⟨u⟩, m1, m2, [], [], rfl, rfl, r3, rfl⟩
  | cons x l =>
    have hb : ∃ y r, q2.ferr = y :: r := by
      rw [ha] at her
      cases hq : q2.ferr with
      | nil => rw [hq] at her; cases her
      | cons y r => exact ⟨y, r, rfl⟩
    obtain ⟨y, r, hb⟩ := hb
    rw [ha, hb] at hc
    rw [hb]
    exact ⟨⟨[]⟩, [], [], x :: l, y :: r, rfl, rfl, rfl, hc⟩
end Go.Proofs.YtphnfaabcnciiaaGreatDoor
