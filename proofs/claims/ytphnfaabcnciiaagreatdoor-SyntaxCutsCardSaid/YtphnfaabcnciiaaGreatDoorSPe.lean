/- The parser's loop over declarations, side by side. Two texts of the same tokens have the same tree. The parser's loop: it ends; a run on the first tokens and the run on all. No conditions. -/
import Derived.Test.YtphnfaabcnciiaaGreatDoorSPd
import Derived.Test.YtphnfaabcnciiaaGreatDoorSa
import Derived.Test.YtphnfaabcnciiaaGreatDoorLW
set_option linter.unusedVariables false
set_option linter.unusedSimpArgs false
set_option linter.unusedSectionVars false
namespace Go.Proofs.YtphnfaabcnciiaaGreatDoor
open Go Go.Dl
abbrev PSt := S65 × (List S60) × (List Int)
abbrev heads : List Bytes := [[73, 78, 84, 69, 82, 70, 65, 67, 69], [67, 76, 65, 83, 83], [80, 82, 79, 71, 82, 65, 77], [84, 65, 83, 75]]
def parB (K : Nat) (u75 : PSt) : Option ((PSt ⊕ (S44 × (List Int) × Err)) ⊕ PSt) := ((condM true (fnS (F21 K u75.1)) default).bind (fun r94 => (letV (r94 && (decide ((u75.1.fi : Int) < (Int.ofNat u75.1.ftokens.length)))) (fun (x95 : Bool) => (if x95 = true then (bindS (blockS ((condM true (fnS (F29 K u75.1 heads)) default).bind (fun r104 => (bindS (if r104 = true then ((fnS (F30 K u75.1 (Int.ofNat u75.2.1.length) 12)).bind (fun r107 => (some (.inr (r107))))) else (some (.inr (u75.1)))) (fun (u106 : S65) => ((condM true (fnS (F31 K u106)) default).bind (fun r108 => (chk [room ((u75.2.2.length + ([r108.fAt].length)) * 8)] ((fnS (F32 K u106)).bind (fun r109 => (chk [room ((u75.2.1.length + ([r109.1].length)) * 160)] (some (.inr (r109.2, (u75.2.1 ++ [r109.1]), (u75.2.2 ++ [r108.fAt]))))))))))))))) (fun (u103 : S65 × (List S60) × (List Int)) => (some (.inr (u103.1, u103.2.1, u103.2.2))))) else (some (.inl (Sum.inl (u75.1, u75.2.1, u75.2.2)))))))))
theorem F13_eq (K : Nat) (a0 : Bytes) : F13 K a0 = (fnS (F18 K a0)).bind fun r1 => bindS (blockS ((iter K (parB K) (r1, [], [])).map .inl)) (fun (u56 : PSt) => ((condM true (fnS (F21 K u56.1)) default).bind (fun r111 => (if (!r111) = true then (some (.inl ((⟨[]⟩ : S44), [], u56.1.ferr))) else (some (.inl ((⟨u56.2.1⟩ : S44), u56.2.2, ([] : Err)))))))) := rfl
namespace Side
variable {c : Side}
noncomputable def bad (c : Side) (p : S65) : S65 := ⟨p.ftokens, p.fi, p.fend, [(5, (c.cur p).fAt)]⟩
theorem bad_mv (hc : c.Good) {p : S65} (h : c.Ok p) (ha : c.Act p) : c.Mv false p (c.bad p) := by
  have hat := cur_at hc h
  refine ⟨⟨h.tok, h.en, h.lo, h.hi, .inr ⟨5, (c.cur p).fAt, rfl, by omega, by omega, hat.1, hat.2⟩, fun g => absurd (show c.Gone p from ⟨g.1, g.2⟩) ha.not_gone⟩, Int.le_refl _, fun g => absurd ha.1 g, fun h => by cases h⟩
theorem room_p (hc : c.Good) {p : S65} (h : c.Ok p) (ha : c.Act p) (K : Nat) (m : Int) : fnS (F30 K p m 12) = some (if 12 ≤ m then c.bad p else p) := by
  unfold F30
  by_cases hm : 12 ≤ m
  · rw [if_pos (by simpa using hm), if_pos hm]
    have e : fnS (F20 K p 5) = some (c.bad p) := by
      unfold F20
      rw [if_pos (by rw [ha.1]; rfl)]
      simp only [tok_p h K, condM_t, fnS_l, Option.bind_some]
      unfold F27
      simp only [fnS_l, fnS_r, Option.bind_some]
      rfl
    rw [e]; rfl
  · rw [if_neg (by simpa using hm), if_neg hm]; rfl
theorem room_q (hc : c.Good) {p : S65} (h : c.Ok p) (ha : c.Act p) (K : Nat) (m : Int) : fnS (F30 K (c.ph p) m 12) = some (c.ph (if 12 ≤ m then c.bad p else p)) := by
  unfold F30
  by_cases hm : 12 ≤ m
  · rw [if_pos (by simpa using hm), if_pos hm]
    have e : fnS (F20 K (c.ph p) 5) = some (c.ph (c.bad p)) := by
      unfold F20
      rw [if_pos (by show (!errS (c.er p.ferr)) = true; rw [ha.1]; rfl)]
      simp only [tok_q hc h K ha.not_gone, condM_t, fnS_l, Option.bind_some]
      unfold F27
      simp only [fnS_l, fnS_r, Option.bind_some]
      rfl
    rw [e]; rfl
  · rw [if_neg (by simpa using hm), if_neg hm]; rfl
theorem parB_end {p : S65} (K : Nat) (u : List S60) (pl : List Int) (h : ¬ (p.ferr = [] ∧ p.fi < p.ftokens.length)) : parB K (p, u, pl) = some (.inl (.inl (p, u, pl))) := by
  unfold parB F21
  simp only [condM_t, fnS_l, Option.bind_some, letV, errS_iff]
  rw [if_neg]
  simpa [Classical.not_and_iff_not_or_not] using h
theorem room_ifp {A : Type} (hc : c.Good) {p : S65} (h : c.Ok p) (ha : c.Act p) (K : Nat) (m : Nat) (b : Bool) : (if b = true then ((fnS (F30 K p (Int.ofNat m) 12)).bind (fun r107 => (some (.inr (r107))))) else (some (.inr p)) : Option (A ⊕ S65)) = some (.inr (if (b = true ∧ 12 ≤ m) then c.bad p else p)) := by
  have e : ((12 : Int) ≤ Int.ofNat m) ↔ 12 ≤ m := by constructor <;> intro h <;> simp at * <;> omega
  cases b
  · simp
  · simp only [if_true, true_and, room_p hc h ha, Option.bind_some, e]
theorem room_ifq {A : Type} (hc : c.Good) {p : S65} (h : c.Ok p) (ha : c.Act p) (K : Nat) (m : Nat) (b : Bool) : (if b = true then ((fnS (F30 K (c.ph p) (Int.ofNat m) 12)).bind (fun r107 => (some (.inr (r107))))) else (some (.inr (c.ph p))) : Option (A ⊕ S65)) = some (.inr (c.ph (if (b = true ∧ 12 ≤ m) then c.bad p else p))) := by
  have e : ((12 : Int) ≤ Int.ofNat m) ↔ 12 ≤ m := by constructor <;> intro h <;> simp at * <;> omega
  cases b
  · simp
  · simp only [if_true, true_and, room_q hc h ha, Option.bind_some, e]
theorem parB_act (hc : c.Good) {p : S65} (h : c.Ok p) (ha : c.Act p) {K : Nat} (hK : 64 * c.nu p + 200 ≤ K) (u : List S60) (pl : List Int) (hu : u.length ≤ 1000000) (hpl : pl.length ≤ 1000000) :
    ∃ b d p' a, fnS (F29 K p heads) = some b ∧ parB K (p, u, pl) = some (.inr (p', u ++ [d], pl ++ [a])) ∧ c.Mv true p p' ∧ a = (c.cur p).fAt ∧ (b = false → fnS (F32 K p) = some (d, p')) ∧
      ∀ u' pl', (12 ≤ u'.length ↔ 12 ≤ u.length) → u'.length ≤ 1000000 → pl'.length ≤ 1000000 → ¬ c.Broken p' → parB K (c.ph p, u', pl') = some (.inr (c.ph p', u' ++ [d], pl' ++ [c.rho a])) := by
  obtain ⟨b, e, _⟩ := is_eye hc h K heads (by decide) (by omega)
  obtain ⟨q, hq⟩ : ∃ q, q = if (b = true ∧ 12 ≤ u.length) then c.bad p else p := ⟨_, rfl⟩
  have hmv : c.Mv false p q := by
    rw [hq]; split
    · exact bad_mv hc h ha
    · exact Mv.refl h
  have hfi : q.fi = p.fi := by rw [hq]; split <;> rfl
  have hng : ¬ c.Gone q := fun g => ha.not_gone ⟨g.1, by rw [← hfi]; exact g.2⟩
  have hn := hmv.nu
  obtain ⟨⟨d, p'⟩, h1, h2, h3⟩ := L32 hc hmv.ok K (by omega)
  rw [XX_not (α := S65) hng, Option.bind_some] at h3
  refine ⟨b, d, p', (c.cur q).fAt, e.1, ?_, by have := hmv.trans h2; simpa using this, by unfold cur; rw [hfi], fun hb => by rw [hb] at hq; rw [if_neg (by simp)] at hq; rw [← hq]; exact h1, ?_⟩
  · unfold parB
    have e0 : fnS (F21 K p) = some true := by unfold F21; rw [ha.1]; rfl
    have hl : decide ((p.fi : Int) < (Int.ofNat p.ftokens.length)) = true := by rw [h.tok]; simpa using ha.2
    have e1 := e.1
    dsimp only at e1
    simp only [e0, hl, e1, condM_t, Option.bind_some, letV, Bool.and_self, if_true]
    rw [room_ifp hc h ha, ← hq]
    simp only [bindS_r, tok_p hmv.ok K, fnS_l, Option.bind_some]
    rw [chk_t (room_le (by simp; omega)), chk_nil, h1, Option.bind_some, chk_t (room_le (by simp; omega)), chk_nil]
    rfl
  · intro u' pl' hcnt hu' hpl' hb
    have h3 : fnS (F32 K (c.ph q)) = some (d, c.ph p') := h3 hb
    unfold parB
    have e0 : fnS (F21 K (c.ph p)) = some true := by unfold F21; show some (!errS (c.er p.ferr)) = _; rw [ha.1]; rfl
    have hl : decide (((c.ph p).fi : Int) < (Int.ofNat (c.ph p).ftokens.length)) = true := by
      have := ha.2
      simp [ph]; omega
    have e1 := e.2 ha.not_gone
    dsimp only at e1
    simp only [e0, hl, e1, condM_t, Option.bind_some, letV, Bool.and_self, if_true]
    rw [room_ifq hc h ha, show (if (b = true ∧ 12 ≤ u'.length) then c.bad p else p) = q by rw [hq]; simp only [hcnt]]
    simp only [bindS_r, tok_q hc hmv.ok K hng, fnS_l, Option.bind_some]
    rw [chk_t (room_le (by simp; omega)), chk_nil, h3, Option.bind_some, chk_t (room_le (by simp; omega)), chk_nil]
    rfl
end Side
end Go.Proofs.YtphnfaabcnciiaaGreatDoor

set_option linter.unusedVariables false
set_option linter.unusedSimpArgs false
set_option linter.unusedSectionVars false
namespace Go.Proofs.YtphnfaabcnciiaaGreatDoor
open Go Go.Dl
def flat (T : List S41) (e : Int) : Side := ⟨T, e, [], [], fun _ => 0, 0⟩
namespace Side
theorem nu_T {c : Side} {p : S65} (h : c.Ok p) : c.nu p ≤ c.T.length + 1 := by
  unfold nu
  split
  · have := h.lo; omega
  · omega
end Side
theorem F18_eq (K : Nat) (hK : 200000 < K) (s : Bytes) {t : List S41} (h : lx.allF s = (t, [])) : fnS (F18 K s) = some ⟨t, 0, Int.ofNat s.length, []⟩ := by
  unfold F18
  rw [all_eqA K s hK, h]
  rfl
end Go.Proofs.YtphnfaabcnciiaaGreatDoor

set_option linter.unusedVariables false
set_option linter.unusedSimpArgs false
set_option linter.unusedSectionVars false
namespace Go.Proofs.YtphnfaabcnciiaaGreatDoor
open Go Go.Dl
namespace Side
variable {c : Side}
def AtEnd (q : S65) : Prop := ¬ (q.ferr = [] ∧ q.fi < q.ftokens.length)
theorem cur_mem {p : S65} (h : c.Ok p) (ha : c.Act p) : c.cur p ∈ c.T := by
  unfold cur
  rw [if_pos ha.2]
  have hlo := h.lo
  have hl := ha.2
  have hlt : p.fi.toNat < c.T.length := by omega
  rw [List.getD_eq_getElem?_getD, List.getElem?_eq_getElem hlt]
  exact List.getElem_mem hlt
theorem tot_loop (hc : c.Good) {K : Nat} (hK : 64 * (c.T.length + 1) + 200 ≤ K) : ∀ (n k : Nat) (p : S65) (u : List S60) (l : List Int), c.Ok p → c.nu p < n → n ≤ k → u.length + c.nu p ≤ 200000 → l.length + c.nu p ≤ 200000 →
    ∃ q w m, iter k (parB K) (p, u, l) = some (.inl (q, u ++ w, l ++ m)) ∧ w.length = m.length ∧ c.Ok q ∧ AtEnd q ∧ ∀ a ∈ m, ∃ t ∈ c.T, t.fAt = a
  | 0, _, _, _, _, _, hn, _, _, _ => absurd hn (by omega)
  | n + 1, 0, _, _, _, _, _, hk, _, _ => absurd hk (by omega)
  | n + 1, k + 1, p, u, l, h, hn, hk, hu, hl => by
    by_cases ha : p.ferr = [] ∧ p.fi < p.ftokens.length
    · have a1 : c.Act p := ⟨ha.1, by rw [← h.tok]; exact ha.2⟩
      have n1 := nu_T h
      obtain ⟨_, d, q, b, _, s1, v1, ab, _, _⟩ := parB_act hc h a1 (K := K) (by omega) u l (by omega) (by omega)
      have hlt : c.nu q < c.nu p := by
        rcases v1.nu_lt with g | ⟨g, _⟩
        · exact g
        · have := a1.nu; omega
      obtain ⟨r, w, m, t1, t2, t3, t4, t7⟩ := tot_loop hc hK n k q (u ++ [d]) (l ++ [b]) v1.ok (by omega) (by omega) (by simp; omega) (by simp; omega)
      refine ⟨r, d :: w, b :: m, by unfold iter; rw [s1]; dsimp only; rw [t1]; simp, by simp [t2], t3, t4, fun a ha => ?_⟩
      rcases List.mem_cons.1 ha with rfl | ha
      · exact ⟨_, cur_mem h a1, ab.symm⟩
      · exact t7 a ha
    · exact ⟨p, [], [], by unfold iter; rw [parB_end K u l ha]; simp, rfl, h, ha, fun a ha => by simp at ha⟩
theorem cut_loop (hc : c.Good) {K : Nat} (hK : 64 * (c.T.length + 1) + 200 ≤ K) : ∀ (n k : Nat) (p : S65) (u : List S60) (l l' : List Int), c.Ok p → c.nu p < n → n ≤ k → u.length + c.nu p ≤ 200000 → l.length + c.nu p ≤ 200000 → l'.length + c.nu p ≤ 200000 →
    ∃ q w m, iter k (parB K) (p, u, l) = some (.inl (q, u ++ w, l ++ m)) ∧ w.length = m.length ∧ c.Ok q ∧ AtEnd q ∧ (u ++ w).length + c.nu q ≤ u.length + c.nu p ∧ (∀ a ∈ m, ∃ t ∈ c.T, t.fAt = a) ∧
      (c.Broken q ∨ ∃ j, j < n ∧ iter k (parB K) (c.ph p, u, l') = iter (k - j) (parB K) (c.ph q, u ++ w, l' ++ m.map c.rho))
  | 0, _, _, _, _, _, _, hn, _, _, _, _ => absurd hn (by omega)
  | n + 1, 0, _, _, _, _, _, _, hk, _, _, _ => absurd hk (by omega)
  | n + 1, k + 1, p, u, l, l', h, hn, hk, hu, hl, hl' => by
    by_cases ha : p.ferr = [] ∧ p.fi < p.ftokens.length
    · have a1 : c.Act p := ⟨ha.1, by rw [← h.tok]; exact ha.2⟩
      have n1 := nu_T h
      obtain ⟨_, d, q, b, _, s1, v1, ab, _, w1⟩ := parB_act hc h a1 (K := K) (by omega) u l (by omega) (by omega)
      have hlt : c.nu q < c.nu p := by
        rcases v1.nu_lt with g | ⟨g, _⟩
        · exact g
        · have := a1.nu; omega
      obtain ⟨r, w, m, t1, t2, t3, t4, t6, t7, t5⟩ := cut_loop hc hK n k q (u ++ [d]) (l ++ [b]) (l' ++ [c.rho b]) v1.ok (by omega) (by omega) (by simp; omega) (by simp; omega) (by simp; omega)
      refine ⟨r, d :: w, b :: m, ?_, by simp [t2], t3, t4, by simp at t6 ⊢; omega, fun a ha => ?_, ?_⟩
      rotate_left
      · rcases List.mem_cons.1 ha with rfl | ha
        · exact ⟨_, cur_mem h a1, ab.symm⟩
        · exact t7 a ha
      · rcases t5 with t5 | ⟨j, hj, t5⟩
        · exact .inl t5
        · by_cases hb : c.Broken q
          · left
            -- it stands still
            have hb2 : ¬ (q.ferr = [] ∧ q.fi < q.ftokens.length) := by rw [hb.2]; simp
            obtain ⟨k', rfl⟩ : ∃ k', k = k' + 1 := ⟨k - 1, by omega⟩
            have : iter (k' + 1) (parB K) (q, u ++ [d], l ++ [b]) = some (.inl (q, u ++ [d], l ++ [b])) := by unfold iter; rw [parB_end K _ _ hb2]
            rw [this] at t1
            simp only [Option.some.injEq, Sum.inl.injEq, Prod.mk.injEq] at t1
            rw [← t1.1]; exact hb
          · right
            refine ⟨j + 1, by omega, ?_⟩
            have w1 := w1 u l' Iff.rfl (by omega) (by omega) hb
            conv => lhs; unfold iter
            rw [w1]
            dsimp only
            rw [t5, show k + 1 - (j + 1) = k - j by omega]
            simp
      · unfold iter; rw [s1]; dsimp only; rw [t1]; simp
    · exact ⟨p, [], [], by unfold iter; rw [parB_end K u l ha]; simp, rfl, h, ha, by simp, fun a ha => by simp at ha, .inr ⟨0, by omega, by simp⟩⟩
end Side
end Go.Proofs.YtphnfaabcnciiaaGreatDoor
