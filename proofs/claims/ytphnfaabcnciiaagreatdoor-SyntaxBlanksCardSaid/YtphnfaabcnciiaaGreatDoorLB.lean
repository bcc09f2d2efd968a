/- Blanks and comments between tokens change nothing of a tree. No conditions. -/
import Derived.Test.YtphnfaabcnciiaaGreatDoorSPe
import Derived.Test.YtphnfaabcnciiaaGreatDoorSc
import Derived.Test.YtphnfaabcnciiaaGreatDoorLP
set_option linter.unusedVariables false
set_option linter.unusedSimpArgs false
set_option linter.unusedSectionVars false
namespace Go.Proofs.YtphnfaabcnciiaaGreatDoor
open Go Go.Proofs Go.Dl
set_option maxRecDepth 100000

theorem allF_le (s : Bytes) (h : s.length ≤ 6000) : lx.allF s = match lx.lexL s 0 [] with
    | .inl t => (t, [])
    | .inr (c, a) => ([], [(c, (a : Int))]) := by
  unfold lx.allF
  rw [if_neg (by omega)]; rfl

theorem lexL_at (s : Bytes) (ts : List S41) (h : lx.lexL s 0 [] = .inl ts) : ts.length ≤ 1500 ∧ ∀ x ∈ ts, ∃ a : Nat, x.fAt = a ∧ a ≤ s.length ∧ x.fText.length ≤ s.length := by
  have hp := lx.places s s 0 [] rfl (by omega) (Nat.le_refl _) (by simp)
  rw [h] at hp
  obtain ⟨h1, e, hg⟩ := hp
  refine ⟨h1, ?_⟩
  have : ∀ (l : List S41) (e0 : Nat), lx.GoodL s e0 l e → ∀ x ∈ l, ∃ a : Nat, x.fAt = a ∧ a ≤ s.length ∧ x.fText.length ≤ s.length := by
    intro l
    induction l with
    | nil => intro _ _ x hx; cases hx
    | cons y r ih =>
      rintro e0 ⟨a, h1, h2, h3⟩ x hx
      rcases List.mem_cons.1 hx with rfl | hx
      · exact ⟨a, h2.at', by have := h2.fit; omega, by have := h2.fit; omega⟩
      · exact ih _ h3 x hx
  exact this ts 0 hg

theorem glue_snoc (x : S41) (bl : Bytes) : ∀ l : List (lx.Tok × lx.Bs), lx.glue (l ++ [(x, bl)]) = (lx.glue l ++ x.fText) ++ bl
  | [] => by simp [lx.glue]
  | (y, b) :: r => by
    rw [List.cons_append, lx.glue, lx.glue, glue_snoc x bl r]; simp [List.append_assoc]
theorem same_map : ∀ (a b : List lx.Tok), lx.SameL a b → a.map (fun t => (⟨t.fKind, t.fText, t.fN, 0⟩ : S41)) = b.map (fun t => (⟨t.fKind, t.fText, t.fN, 0⟩ : S41))
  | _, _, .nil => rfl
  | x :: a, y :: b, .cons ⟨h1, h2, h3⟩ hr => by rw [List.map_cons, List.map_cons, same_map a b hr, h1, h2, h3]
theorem take_snoc {α : Type} (l : List α) (d : α) (n : Nat) (h : n < l.length) : l.take (n + 1) = l.take n ++ [l.getD n d] := by
  rw [List.take_add_one]; simp [List.getD, List.getElem?_eq_getElem h]

theorem F14_eq (K : Nat) (e : Err) : fnS (F14 K e) = some (e.headD (0, 0)).1 := rfl

theorem blanks_law (K : Nat) (hK : 200000 < K) (hA : fnS (F7 K) = some true) (s : Bytes) (cm : Bool) : fnS (F4 K s cm) = some true := by
  unfold F4
  simp only [letV]
  by_cases h : s.length > 1500
  · rw [if_pos (by simp; omega), hA]; rfl
  · rw [if_neg (by simp; omega), all_eqA K s hK, Option.bind_some, allF_le s (by omega)]
    cases hx : lx.lexL s 0 [] with
    | inr r =>
      obtain ⟨c, a⟩ := r
      dsimp +instances only
      rw [if_pos (c := (!(!errS [(c, (a : Int))])) = true) rfl, hA]; rfl
    | inl ts =>
      obtain ⟨hlen, hat⟩ := lexL_at s ts hx
      have hare := lx.tokens_are s 0 [] (by simp) ts hx
      dsimp +instances only
      rw [if_neg (c := (!(!errS [])) = true) (by simp [errS])]
      refine iter_ctx (C := fun o => fnS (bindS (blockS (o.map .inl)) _) = some true) (fun t : Bytes × Int => ts.length - t.2.toNat)
        (fun t a => ∃ l : List (lx.Tok × lx.Bs), a = .inl (lx.glue l) ∧ l.map (·.1) = ts ∧ ∀ p ∈ l, p.2 ∈ lx.blanks)
        (fun t => 0 ≤ t.2 ∧ t.2.toNat ≤ ts.length ∧ ∃ l : List (lx.Tok × lx.Bs), t.1 = lx.glue l ∧ l.map (·.1) = ts.take t.2.toNat ∧ (∀ p ∈ l, p.2 ∈ lx.blanks) ∧ t.1.length ≤ t.2.toNat * 2000)
        ⟨by simp, by simp, [], by simp [lx.glue]⟩ (by simp; omega) ?_ ?_
      · rintro ⟨b, i⟩ ⟨g1, g2, l, g3, g4, g5, g6⟩
        dsimp +instances only at g1 g2 g3 g4 g5 g6 ⊢
        obtain ⟨x, hxe⟩ : ∃ x, x = ts.getD i.toNat default := ⟨_, rfl⟩
        rw [← hxe]
        obtain ⟨n, rfl⟩ : ∃ n : Nat, i = (n : Int) := ⟨i.toNat, by omega⟩
        simp only [Int.toNat_natCast] at g2 g4 g6 hxe
        by_cases hn : n < ts.length
        · left
          have hxm : x ∈ ts := by rw [hxe]; simp [List.getD, List.getElem?_eq_getElem hn]
          obtain ⟨_, _, _, hxl⟩ := hat x hxm
          rw [if_pos (c := decide _ = true) (by simp; omega), chk_t (vs := []) (inb_nat hn), chk_nil, chk_t (vs := []) (room_le (by omega)), chk_nil, chk_t (vs := []) (room_le (by rw [List.length_append]; simp; omega)), chk_nil,
            chk_t (vs := []) (by cases cm <;> rfl), chk_nil]
          obtain ⟨bl, hbm, hbl, hbe⟩ : ∃ bl, bl ∈ lx.blanks ∧ bl.length ≤ 9 ∧ ((if (cm && ((((n : Int) : Int).tmod 5) : Int) == 0) = true then (chk [room (((((b ++ x.fText) ++ [32]).length) + (([40, 42, 32, 59, 32, 42, 41, 10] : Bytes).length)) * 1)] (some (.inr ((((b ++ x.fText) ++ [32]) ++ ([40, 42, 32, 59, 32, 42, 41, 10] : Bytes)))))) else (some (.inr (((b ++ x.fText) ++ [32])))) : Option (((List UInt8) ⊕ ((List UInt8) ⊕ Bool)) ⊕ (List UInt8))) = some (.inr ((b ++ x.fText) ++ bl))) := by
            split
            · refine ⟨[32, 40, 42, 32, 59, 32, 42, 41, 10], by decide, by decide, ?_⟩
              rw [chk_t (vs := []) (room_le (by simp; omega)), chk_nil]
              simp
            · exact ⟨[32], by decide, by decide, rfl⟩
          rw [hbe]
          refine ⟨((b ++ x.fText) ++ bl, ((n + 1 : Nat) : Int)), ?_, ⟨by dsimp only; omega, by dsimp only; omega, l ++ [(x, bl)], ?_, ?_, ?_, ?_⟩, by dsimp only; omega, fun a ha => ha⟩
          · rw [blockS_r, bindS_r, wrap64 (by omega) (by omega)]; rfl
          · dsimp only
            rw [glue_snoc, g3]
          · dsimp only
            rw [List.map_append, g4, Int.toNat_natCast, take_snoc ts default n hn, ← hxe]; rfl
          · intro p hp
            rcases List.mem_append.1 hp with hp | hp
            · exact g5 p hp
            · rw [List.mem_singleton] at hp
              subst hp
              exact hbm
          · dsimp only
            rw [List.length_append, List.length_append, Int.toNat_natCast]
            omega
        · right
          rw [if_neg (c := decide _ = true) (by simp; omega)]
          refine ⟨_, rfl, l, by rw [g3], by rw [g4, List.take_of_length_le (by omega)], g5⟩
      · rintro a ⟨l, rfl, h1, h2⟩
        show fnS (bindS (some (Sum.inr (lx.glue l))) _) = _
        rw [bindS_r]
        by_cases h6 : 6000 < (lx.glue l).length
        · rw [if_pos (by simp; omega), hA]; rfl
        · have hll : l.length = ts.length := by rw [← h1]; simp
          have hg := lx.lex_glue l 0 [] (fun p hp => ⟨hare p.1 (by rw [← h1]; exact List.mem_map_of_mem hp), h2 p hp⟩) (by simp; omega)
          obtain ⟨m, hm, hs⟩ := hg
          rw [List.nil_append] at hm
          rw [h1] at hs
          obtain ⟨hml, hmat⟩ := lexL_at _ m hm
          have e1 : lx.allF s = (ts, []) := by rw [allF_le s (by omega), hx]
          have e2 : lx.allF (lx.glue l) = (m, []) := by rw [allF_le _ (by omega), hm]
          obtain ⟨u, m1, m2, c1, c2, r1, r2, r3, r4⟩ := two_parses K hK s (lx.glue l) e1 e2 hlen (fun t ht => by obtain ⟨a, q1, q2, _⟩ := hat t ht; omega) (fun t ht => by obtain ⟨a, q1, q2, _⟩ := hmat t ht; omega) (same_map _ _ hs).symm
          rw [if_neg (by simp; omega), r1, Option.bind_some, r2, Option.bind_some, F14_eq, Option.bind_some, F14_eq, Option.bind_some, r4]
          have e3 : fnS (F15e K u u) = some true := by unfold F15e; rw [if_pos rfl]; rfl
          simp only [beq_self_eq_true, condM_t, e3, Option.bind_some, Bool.and_self, Bool.true_and, r3, hA]
          rfl
end Go.Proofs.YtphnfaabcnciiaaGreatDoor
