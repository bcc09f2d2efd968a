/- The document's own lexer is the plain one; the statement on tokens. All tokens by the document's own lexer; the statement on tokens. No conditions. -/
import Derived.Test.YtnneapbegnmncaaGreatDoorLWb
set_option linter.unusedVariables false
set_option linter.unusedSimpArgs false
set_option linter.unusedSectionVars false
namespace Go.Proofs.YtnneapbegnmncaaGreatDoor
open Go Go.Proofs Go.Dl
set_option maxRecDepth 100000

theorem one_num (K : Nat) (s : Bytes) (a : Nat) (ha : a < s.length) (hl : s.length ≤ 80000) (hK : 90000 < K) (hb : lx.isDigit (s.getD a 0) = true) :
    ∃ r, fnS (F16 K s (a : Int)) = some r ∧ OneP s a r (lx.step (s.drop a)) := by
  have hlet : lx.isLetter (s.getD a 0) = false := by
    cases h : lx.isLetter (s.getD a 0) with
    | false => rfl
    | true =>
      have := lx.letter_no_digit h
      rw [hb] at this; cases this
  have hne : (s.drop a).takeWhile lx.isDigit ≠ [] := by
    rw [drop_getDT s 0 a ha, List.takeWhile_cons, if_pos hb]; simp
  have hall := tw_all (p := lx.isDigit) (s.drop a)
  rw [step_at s a ha, lx.stepB_digit _ _ _ hb, lx.numR_val _ hne hall]
  unfold F16
  simp only [letV]
  have e28 := rfirst_eq K (s.getD a 0)
  rw [hlet] at e28
  have e30 := rdigit_eq K (s.getD a 0)
  rw [hb] at e30
  rw [chk_t (vs := []) (inb_nat ha), chk_nil, Int.toNat_natCast, e28, Option.bind_some, if_neg (c := false = true) (by simp), chk_t (vs := []) (inb_nat ha), chk_nil, e30, Option.bind_some, if_pos rfl, num_loop K s a (by omega) hl hK]
  have hT := (lx.takeWhile_take (p := lx.isDigit) (s.drop a))
  generalize (s.drop a).takeWhile lx.isDigit = T at *
  obtain ⟨hT1, hT2⟩ := hT
  simp only [List.length_drop] at hT2
  have hv := valR_lt T 0 0 hall (by simp)
  generalize lx.valR 0 0 T = v at *
  show ∃ r, fnS (bindS (blockS (chk [bndOk s.length (a : Int) ((a + T.length : Nat) : Int)] _)) _) = some r ∧ _
  rw [chk_t (vs := []) (by simp [bndOk]; omega), chk_nil]
  have et : (s.drop a).take ((((a + T.length : Nat)) : Int).toNat - a) = T := by
    rw [Int.toNat_natCast, Nat.add_sub_cancel_left, ← hT1]
  have ew : IntKind.i64.wrap ((((a + T.length : Nat)) : Int) - (a : Int)) = (T.length : Int) := by rw [wrap64 (by omega) (by omega)]; omega
  dsimp +instances only
  rw [et, ew]
  by_cases h : 5 < T.length ∨ 32768 < v
  · rw [if_pos h, if_pos (by simp; omega)]
    exact ⟨_, rfl, rfl, by decide⟩
  · rw [if_neg h, if_neg (by simp; omega)]
    exact ⟨_, rfl, rfl⟩

theorem one_sign (K : Nat) (s : Bytes) (a : Nat) (ha : a < s.length) (hl : s.length ≤ 80000) (hK : 90000 < K) (h0 : ¬(s.getD a 0 = 32 ∨ s.getD a 0 = 9 ∨ s.getD a 0 = 10 ∨ s.getD a 0 = 13)) (h1 : ¬(s.getD a 0 = 40 ∧ s.getD (a + 1) 0 = 42))
    (hlet : lx.isLetter (s.getD a 0) = false) (hdig : lx.isDigit (s.getD a 0) = false) :
    ∃ r, fnS (F16 K s (a : Int)) = some r ∧ OneP s a r (lx.step (s.drop a)) := by
  rw [step_at s a ha, lx.stepB_sgn _ _ _ h0 h1 hlet hdig]
  unfold F16
  simp only [letV]
  have e28 := rfirst_eq K (s.getD a 0)
  rw [hlet] at e28
  have e30 := rdigit_eq K (s.getD a 0)
  rw [hdig] at e30
  rw [chk_t (vs := []) (inb_nat ha), chk_nil, Int.toNat_natCast, e28, Option.bind_some, if_neg (c := false = true) (by simp), chk_t (vs := []) (inb_nat ha), chk_nil, e30, Option.bind_some, if_neg (c := false = true) (by simp)]
  have es := sign_eq K s a ha (by omega) (by omega)
  have hb1 : (s.drop a).take 1 = [s.getD a 0] := by rw [drop_getDT s 0 a ha]; rfl
  have h2 : lx.sgn (s.getD a 0) (s.getD (a + 1) 0) = 2 → a + 2 ≤ s.length ∧ (s.drop a).take 2 = [s.getD a 0, s.getD (a + 1) 0] := by
    intro h
    by_cases hh : a + 1 < s.length
    · exact ⟨by omega, by rw [drop_getDT s 0 a ha, drop_getDT s 0 (a + 1) hh]; rfl⟩
    · have hc : s.getD (a + 1) 0 = 0 := by simp [List.getD, List.getElem?_eq_none (show s.length ≤ a + 1 by omega)]
      rw [hc] at h
      unfold lx.sgn at h
      rw [if_neg (c := (((0 : UInt8) = 61 ∧ _) ∨ _)) (by simp)] at h
      split at h <;> cases h
  have h3 : lx.sgn (s.getD a 0) (s.getD (a + 1) 0) = 0 ∨ lx.sgn (s.getD a 0) (s.getD (a + 1) 0) = 1 ∨ lx.sgn (s.getD a 0) (s.getD (a + 1) 0) = 2 := by
    unfold lx.sgn
    split
    · exact .inr (.inr rfl)
    · split
      · exact .inr (.inl rfl)
      · exact .inl rfl
  show ∃ r, fnS ((fnS (F31 K s (a : Int))).bind _) = some r ∧ _
  rw [es, Option.bind_some]
  unfold lx.sgnR
  generalize lx.sgn (s.getD a 0) (s.getD (a + 1) 0) = g at *
  have ew : IntKind.i64.wrap ((a : Int) + (g : Int)) = ((a + g : Nat) : Int) := by rw [wrap64 (by omega) (by omega)]; omega
  have et : (s.drop a).take ((IntKind.i64.wrap ((a : Int) + (g : Int))).toNat - a) = (s.drop a).take g := by
    rw [ew, Int.toNat_natCast, Nat.add_sub_cancel_left]
  have hg : g ≤ 2 ∧ a + g ≤ s.length := by
    rcases h3 with rfl | rfl | rfl
    · omega
    · omega
    · exact ⟨by omega, (h2 rfl).1⟩
  rw [et, chk_t (vs := []) (by rw [ew]; simp [bndOk]; omega), chk_nil, ew]
  rcases h3 with rfl | rfl | rfl
  · exact ⟨_, rfl, rfl, by decide⟩
  · refine ⟨(⟨4, [s.getD a 0], 0, (a : Int)⟩, ((a + 1 : Nat) : Int), 0), ?_, rfl⟩
    rw [hb1]; rfl
  · refine ⟨(⟨4, [s.getD a 0, s.getD (a + 1) 0], 0, (a : Int)⟩, ((a + 2 : Nat) : Int), 0), ?_, rfl⟩
    rw [(h2 rfl).2]; rfl

theorem one_eq (K : Nat) (s : Bytes) (a : Nat) (ha : a < s.length) (hl : s.length ≤ 80000) (hK : 90000 < K) (h0 : ¬(s.getD a 0 = 32 ∨ s.getD a 0 = 9 ∨ s.getD a 0 = 10 ∨ s.getD a 0 = 13)) (h1 : ¬(s.getD a 0 = 40 ∧ s.getD (a + 1) 0 = 42)) :
    ∃ r, fnS (F16 K s (a : Int)) = some r ∧ OneP s a r (lx.step (s.drop a)) := by
  by_cases hb : lx.isLetter (s.getD a 0) = true
  · exact one_word K s a ha hl hK hb
  by_cases hd : lx.isDigit (s.getD a 0) = true
  · exact one_num K s a ha hl hK hd
  · exact one_sign K s a ha hl hK h0 h1 (by simpa using hb) (by simpa using hd)
end Go.Proofs.YtnneapbegnmncaaGreatDoor

set_option linter.unusedVariables false
set_option linter.unusedSimpArgs false
set_option linter.unusedSectionVars false
namespace Go.Proofs.YtnneapbegnmncaaGreatDoor
open Go Go.Proofs Go.Dl
set_option maxRecDepth 100000

/-- What the document tells of a text. -/
def refF (s : Bytes) : List S37 × Int × Int := match lx.allF s with
  | (ts, none) => (ts, 0, 0)
  | (_, some (c, p)) => ([], c, p)

theorem refall_eq (K : Nat) (s : Bytes) (hl : s.length ≤ 80000) (hK : 200000 < K) : fnS (F6 K s) = some (refF s) := by
  unfold F6 refF lx.allF
  simp only [letV]
  by_cases h0 : 6000 < s.length
  · rw [if_pos (by simp; omega), if_pos h0]; rfl
  · rw [if_neg (by simp; omega), if_neg h0]
    refine iter_ctx (C := fun o => fnS (bindS (blockS (o.map .inl)) _) = some _) (fun t : List S37 × Int => s.length - t.2.toNat)
      (fun t (r : List S37 ⊕ (List S37 × Int × Int)) => match lx.lexL (s.drop t.2.toNat) t.2.toNat t.1 with
        | .inl tk => r = .inl tk
        | .inr (c, b) => r = .inr ([], c, (b : Int)))
      (fun t => 0 ≤ t.2 ∧ t.2.toNat ≤ s.length) (K := K) (t := (([] : List S37), (0 : Int))) (by simp) (by simp; omega) ?_ ?_
    · rintro ⟨tk, i⟩ ⟨g1, g2⟩
      dsimp +instances only at g1 g2 ⊢
      obtain ⟨b, hb⟩ : ∃ b, b = s.getD i.toNat 0 := ⟨_, rfl⟩
      obtain ⟨c, hc⟩ : ∃ c, c = s.getD (IntKind.i64.wrap (i + 1)).toNat 0 := ⟨_, rfl⟩
      rw [← hb, ← hc]
      obtain ⟨n, rfl⟩ : ∃ n : Nat, i = (n : Int) := ⟨i.toNat, by omega⟩
      have e1 : IntKind.i64.wrap ((n : Int) + 1) = ((n + 1 : Nat) : Int) := by rw [wrap64 (by omega) (by omega)]; simp
      rw [e1] at hc
      simp only [Int.toNat_natCast] at g2 hb hc ⊢
      by_cases hn : n < s.length
      · have hin : inb (n : Int) s.length = true := inb_nat hn
        have hne : s.drop n ≠ [] := by
          intro e
          have := congrArg List.length e
          simp at this; omega
        have hf := lx.fits hne
        have c32 : ((Int.ofNat b.toNat : Int) == 32) = decide (b = 32) := byte_is b 32
        have c9 : ((Int.ofNat b.toNat : Int) == 9) = decide (b = 9) := byte_is b 9
        have c10 : ((Int.ofNat b.toNat : Int) == 10) = decide (b = 10) := byte_is b 10
        have c13 : ((Int.ofNat b.toNat : Int) == 13) = decide (b = 13) := byte_is b 13
        have c40 : ((Int.ofNat b.toNat : Int) == 40) = decide (b = 40) := byte_is b 40
        have c42 : ((Int.ofNat c.toNat : Int) == 42) = decide (c = 42) := byte_is c 42
        rw [if_pos (c := decide _ = true) (by simp; omega), hin, chk_t rfl, chk_t (by simp), chk_t (by simp), chk_t (vs := []) (by simp), chk_nil]
        by_cases hbl : b = 32 ∨ b = 9 ∨ b = 10 ∨ b = 13
        · left
          have hst : lx.step (s.drop n) = .skip 1 := by
            rw [step_at s n hn, ← hb]
            unfold lx.stepB
            rw [if_pos hbl]
          rw [if_pos (by rw [c32, c9, c10, c13]; simp; exact (by rcases hbl with h | h | h | h <;> simp [h]))]
          rw [lx.lexL_skip hne hst]
          refine ⟨(tk, ((n + 1 : Nat) : Int)), ?_, ⟨by dsimp only; omega, by dsimp only; omega⟩, by dsimp only; omega, fun r hr => ?_⟩
          · rw [e1]; rfl
          · simp only [Int.toNat_natCast] at hr
            rw [List.drop_drop]
            exact hr
        · rw [if_neg (by rw [c32, c9, c10, c13]; simp; exact ⟨⟨⟨fun e => hbl (.inl e), fun e => hbl (.inr (.inl e))⟩, fun e => hbl (.inr (.inr (.inl e)))⟩, fun e => hbl (.inr (.inr (.inr e)))⟩)]
          rw [e1]
          have hg : (!((decide (b = 40) && decide (((n + 1 : Nat) : Int) < (Int.ofNat s.length)))) || inb ((n + 1 : Nat) : Int) s.length) = true := by
            by_cases hh : n + 1 < s.length
            · rw [inb_nat hh, Bool.or_true]
            · have : decide (((n + 1 : Nat) : Int) < (Int.ofNat s.length)) = false := by simp; omega
              rw [this]; simp
          rw [c40, chk_t rfl, chk_t (vs := []) hg, chk_nil, c42]
          by_cases hcm : b = 40 ∧ c = 42
          · have hh : n + 1 < s.length := by
              rcases Nat.lt_or_ge (n + 1) s.length with h | h
              · exact h
              · exfalso
                have : c = 0 := by rw [hc]; simp [List.getD, List.getElem?_eq_none h]
                rw [this] at hcm
                exact absurd hcm.2 (by decide)
            have hdl : decide (((n + 1 : Nat) : Int) < (Int.ofNat s.length)) = true := by simp; omega
            have hst : lx.step (s.drop n) = match lx.comE (s.drop (n + 2)) with | some k => .skip (k + 2) | none => .err 1 := by
              rw [step_at s n hn, ← hb, ← hc]
              unfold lx.stepB
              rw [if_neg hbl, if_pos hcm.1, if_pos hcm.2]
              unfold lx.comR
              rw [List.drop_drop]
              cases lx.comE (s.drop (n + 2)) <;> rfl
            rw [if_pos (by rw [decide_eq_true hcm.1, decide_eq_true hcm.2, hdl]; rfl), rcomment_eq K s n (by omega) (by omega) (by omega), Option.bind_some]
            cases hce : lx.comE (s.drop (n + 2)) with
            | none =>
              right
              rw [hce] at hst
              rw [lx.lexL_err hne hst]
              exact ⟨_, rfl, rfl⟩
            | some k =>
              left
              rw [hce] at hst
              rw [hst] at hf
              obtain ⟨f1, f2⟩ := hf
              simp only [List.length_drop] at f2
              rw [lx.lexL_skip hne hst]
              dsimp +instances only
              rw [if_neg (by rw [decide_eq_true_eq]; exact fun h => absurd (Int.natCast_nonneg (n + 2 + k)) (Int.not_le.2 h))]
              refine ⟨(tk, ((n + 2 + k : Nat) : Int)), rfl, ⟨by dsimp only; omega, by dsimp only; omega⟩, by dsimp only; omega, fun r hr => ?_⟩
              simp only [Int.toNat_natCast] at hr
              rw [List.drop_drop, show n + (k + 2) = n + 2 + k by omega]
              exact hr
          · rw [if_neg (by rw [Bool.and_eq_true, Bool.and_eq_true, decide_eq_true_eq, decide_eq_true_eq]; exact fun e => hcm ⟨e.1.1, of_decide_eq_true e.2⟩)]
            obtain ⟨r, hr1, hr2⟩ := one_eq K s n hn hl (by omega) (by rw [← hb]; exact hbl) (by rw [← hb, ← hc]; exact hcm)
            rw [hr1, Option.bind_some]
            cases hst : lx.step (s.drop n) with
            | skip k => rw [hst] at hr2; exact absurd hr2 (fun h => h)
            | err e =>
              right
              rw [hst] at hr2
              obtain ⟨q1, q2⟩ := hr2
              rw [lx.lexL_err hne hst, q1]
              rw [if_pos (by simpa using q2)]
              exact ⟨_, rfl, rfl⟩
            | tok q x k =>
              rw [hst] at hr2 hf
              obtain ⟨f1, _, f3, _⟩ := hf
              simp only [List.length_drop] at f3
              have f4 : 1 ≤ x.length := by cases x with | nil => exact absurd rfl f1 | cons b r => simp
              have hr2 : r = (⟨q, x, k, (n : Int)⟩, ((n + x.length : Nat) : Int), 0) := hr2
              subst hr2
              rw [lx.lexL_tok hne hst]
              dsimp +instances only
              rw [if_neg (c := ((0 : Int) != 0) = true) (by simp)]
              by_cases h15 : 1500 ≤ tk.length
              · right
                rw [if_pos (by rw [decide_eq_true_eq, Int.ofNat_eq_natCast]; omega), if_pos h15]
                exact ⟨_, rfl, rfl⟩
              · left
                rw [if_neg (by rw [decide_eq_true_eq, Int.ofNat_eq_natCast]; omega), if_neg h15, chk_t (vs := []) (room_le (by simp; omega)), chk_nil]
                refine ⟨(tk ++ [⟨q, x, k, (n : Int)⟩], ((n + x.length : Nat) : Int)), rfl, ⟨by dsimp only; omega, by dsimp only; omega⟩, by dsimp only; omega, fun r hr => ?_⟩
                simp only [Int.toNat_natCast] at hr
                rw [List.drop_drop]
                exact hr
      · right
        rw [if_neg (c := decide _ = true) (by simp; omega), List.drop_eq_nil_of_le (by omega), lx.lexL_nil]
        exact ⟨_, rfl, rfl⟩
    · intro r hr
      have hr' : match lx.lexL s 0 [] with
        | .inl tk => r = .inl tk
        | .inr (c, b) => r = .inr ([], c, (b : Int)) := hr
      have hfold : lx.lexA (s.length + 1) s 0 [] = lx.lexL s 0 [] := rfl
      rw [hfold]
      cases hx : lx.lexL s 0 [] with
      | inl tk => rw [hx] at hr'; subst hr'; rfl
      | inr p =>
        obtain ⟨c, b⟩ := p
        rw [hx] at hr'
        subst hr'; rfl

theorem refF_all (s : Bytes) : refF s = ((lx.allF s).1, ((lx.allF s).2.getD (0, 0)).1, ((lx.allF s).2.getD (0, 0)).2) := by
  unfold refF lx.allF
  by_cases h : 6000 < s.length
  · rw [if_pos h]; rfl
  · rw [if_neg h]
    cases lx.lexA (s.length + 1) s 0 [] with
    | inl t => rfl
    | inr p => obtain ⟨c, a⟩ := p; rfl

theorem allF_len (s : Bytes) : (lx.allF s).1.length ≤ 1500 := by
  unfold lx.allF
  by_cases h : 6000 < s.length
  · rw [if_pos h]; simp
  · rw [if_neg h]
    have hp := lx.places s s 0 [] rfl (by omega) (Nat.le_refl _) (by simp)
    have hfold : lx.lexA (s.length + 1) s 0 [] = lx.lexL s 0 [] := rfl
    rw [hfold]
    cases hx : lx.lexL s 0 [] with
    | inl t => rw [hx] at hp; exact hp.1
    | inr p => obtain ⟨c, a⟩ := p; simp

theorem tells_law (K : Nat) (hK : 200000 < K) (s w : Bytes) : fnS (F3 K s w) = some true := by
  unfold F3
  simp only [letV]
  by_cases h : s.length > 6200 ∨ w.length > 100
  · rw [if_pos (by simp; omega), awake_true K hK]; rfl
  · have hlen := allF_len s
    rw [if_neg (by simp; omega), F5w_eq, all_eq K s (by omega) hK, Option.bind_some, refall_eq K s (by omega) hK, Option.bind_some, refF_all]
    have e7 : ∀ e : Err, fnS (F7 K e) = some (e.getD (0, 0)) := fun _ => rfl
    rw [e7, Option.bind_some]
    generalize lx.allF s = o at *
    obtain ⟨ts, e⟩ := o
    dsimp +instances only at hlen ⊢
    have hs : fnS (F8 K ts ts) = some true := by rw [sameTokens K ts ts (by omega) (by omega)]; simp
    rw [condM_t, hs, Option.bind_some]
    simp only [beq_self_eq_true, Bool.and_self, Bool.true_and]
    rw [condM_t, iskey_eq K w (by omega), Option.bind_some, condM_t, refkey_eq K w (by omega) (by omega), Option.bind_some, over_eq K ts (by omega) (by omega), Option.bind_some, Option.bind_some]
    simp only [beq_self_eq_true]
    rw [condM_t, hs, Option.bind_some]
    show fnS ((condM true (fnS (F4 K)) default).bind (fun r13 => (some (.inl (true && true && r13)) : Option (Bool ⊕ Bool)))) = _
    rw [condM_t, awake_true K hK]; rfl
end Go.Proofs.YtnneapbegnmncaaGreatDoor
