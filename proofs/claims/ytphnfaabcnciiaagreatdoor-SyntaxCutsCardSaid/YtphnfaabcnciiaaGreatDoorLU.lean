/- A beginning of tokens of a text that has a tree has one, or breaks off at its end. No conditions. -/
import Derived.Test.YtphnfaabcnciiaaGreatDoorPC
import Derived.Test.YtphnfaabcnciiaaGreatDoorSd
import Derived.Test.YtphnfaabcnciiaaGreatDoorLP
set_option linter.unusedVariables false
set_option linter.unusedSimpArgs false
set_option linter.unusedSectionVars false
namespace Go.Proofs.YtphnfaabcnciiaaGreatDoor
open Go Go.Proofs Go.Dl
set_option maxRecDepth 100000
theorem low_eq (K : Nat) (x : Int) (n : Nat) (h0 : 0 < n) (hn : n ≤ 100000) : ∃ k : Nat, k < n ∧ fnS (F16 K x (n : Int)) = some (k : Int) := by
  have h : ∃ m : Nat, IntKind.u64.wrap x = (m : Int) := by
    refine ⟨(IntKind.u64.wrap x).toNat, ?_⟩
    have : 0 ≤ IntKind.u64.wrap x := by
      show 0 ≤ x % 18446744073709551616
      exact Int.emod_nonneg _ (by decide)
    omega
  obtain ⟨m, hm⟩ := h
  refine ⟨m % n, Nat.mod_lt _ h0, ?_⟩
  unfold F16
  have e8 : IntKind.u64.wrap (n : Int) = (n : Int) := by
    show (n : Int) % 18446744073709551616 = n
    omega
  have hb : (!((n : Int) == 0)) = true := by simp; omega
  rw [hm, e8, chk_t hb, chk_nil]
  simp only [letV]
  have e : ((m : Int)).tmod n = ((m % n : Nat) : Int) := by
    rw [Int.tmod_eq_emod_of_nonneg (by omega)]; simp
  have := Nat.mod_lt m h0
  rw [e, wrap64 (by omega) (by omega)]
  rfl
theorem cut_parse (K : Nat) (hK : 200000 < K) (s : Bytes) (hs : s.length ≤ 6000) {ts : List S41} (hx : lx.lexL s 0 [] = .inl ts) (ha : lx.allF s = (ts, [])) {k : Nat} (hk : k < ts.length) {u : S44} {at' : List Int}
    (hu : fnS (F13 K s) = some (u, at', [])) : ∃ p : Nat, (ts.getD k default).fAt = p ∧ p ≤ s.length ∧ ∃ v m g, fnS (F13 K (s.take p)) = some (v, m, g) ∧
      ((g = [(3, (p : Int))]) ∨ g = [] ∧ v.fDecls.length ≤ u.fDecls.length ∧ u.fDecls.take v.fDecls.length = v.fDecls) := by
  obtain ⟨m0, h1, h2⟩ := lx.lex_cut s 0 [] ts hx
  rw [List.nil_append] at h1
  subst h1
  obtain ⟨p, q1, _, q3, q4⟩ := h2 k hk
  rw [Nat.zero_add] at q3
  rw [Nat.sub_zero, List.nil_append] at q4
  refine ⟨p, q1, q3, ?_⟩
  have hcl : (s.take p).length = p := by rw [List.length_take]; omega
  have hac : lx.allF (s.take p) = (ts.take k, []) := by rw [allF_le _ (by omega), q4]
  obtain ⟨b1, b2⟩ := lexL_at (s.take p) _ q4
  obtain ⟨d1, d2⟩ := lexL_at s ts hx
  rw [hcl] at b2
  obtain ⟨c, hc⟩ : ∃ c : Side, c = ⟨ts.take k, p, [], ts.drop k, fun x => x, s.length⟩ := ⟨_, rfl⟩
  have eT : c.T = ts.take k := by rw [hc]
  have g : c.Good := by
    rw [hc]
    refine ⟨?_, fun h => ?_, fun t ht => ?_, by show (0 : Int) ≤ p; omega⟩
    · simp; omega
    · have := congrArg List.length h
      simp at this; omega
    · obtain ⟨a, e1, e2, _⟩ := b2 t ht
      show 0 ≤ t.fAt ∧ t.fAt ≤ (p : Int)
      omega
  have o : c.Ok (p0 (ts.take k) p) := by
    have := ok0 (c := c) (e := p) (by rw [hc])
    rwa [eT] at this
  have n1 := Side.nu_T o
  have hT : c.T.length ≤ ts.length := by rw [eT]; simp; omega
  obtain ⟨q, w, m, r1, r2, r3, r4, r6, _, r5⟩ := Side.cut_loop g (K := K) (by omega) (ts.length + 2) K (p0 (ts.take k) p) [] [] [] o (by omega) (by omega) (by simp; omega) (by simp; omega) (by simp; omega)
  simp only [List.nil_append, List.length_nil] at r1 r5 r6
  have h18 : fnS (F18 K (s.take p)) = some (p0 (ts.take k) p) := by
    have := F18_eqS K hK (s.take p) hac
    rwa [hcl] at this
  have f13 := F13_run K (s.take p) h18 r1
  rcases r5 with hb | ⟨j, hj, r5⟩
  · have he : q.ferr = [(3, (p : Int))] := by rw [hb.2, hc]
    rw [if_neg (by rw [he]; simp)] at f13
    exact ⟨_, _, _, f13, .inl he⟩
  · have eph : c.ph (p0 (ts.take k) p) = p0 ts s.length := by
      rw [hc]
      have e1 : ∀ l : List S41, l.map (Side.tk ⟨ts.take k, p, [], ts.drop k, fun x => x, s.length⟩) = l := by
        intro l
        induction l with
        | nil => rfl
        | cons a r ih => rw [List.map_cons, ih]; rfl
      simp [Side.ph, Side.er, e1]
    rw [eph] at r5
    -- the whole text's run
    obtain ⟨qL, wL, mL, t1, t2, t3, t4, t5, _⟩ := parse_tot K hK s hx ha
    rw [hu] at t5
    have heL : qL.ferr = [] ∧ u = ⟨wL⟩ := by
      by_cases he : qL.ferr = []
      · rw [if_pos he] at t5
        simp only [Option.some.injEq, Prod.mk.injEq] at t5
        exact ⟨he, t5.1⟩
      · rw [if_neg he] at t5
        simp only [Option.some.injEq, Prod.mk.injEq] at t5
        exact absurd t5.2.2.symm he
    obtain ⟨heL, rfl⟩ := heL
    rw [t1] at r5
    by_cases he : q.ferr = []
    · rw [if_pos he] at f13
      refine ⟨_, _, _, f13, .inr ⟨rfl, ?_⟩⟩
      have gL : (sid ts s.length).Good := sid_good (by omega) (fun t ht => by obtain ⟨a, e1, e2, _⟩ := d2 t ht; omega) (by omega)
      have oL : (sid ts s.length).Ok (c.ph q) := by
        have hlo := r3.lo
        have hhi := r3.hi
        rw [hc] at hhi ⊢
        have e1 : ∀ l : List S41, l.map (Side.tk ⟨ts.take k, p, [], ts.drop k, fun x => x, s.length⟩) = l := by
          intro l
          induction l with
          | nil => rfl
          | cons a r ih => rw [List.map_cons, ih]; rfl
        refine ⟨by simp [Side.ph, e1, sid], rfl, by simp [Side.ph]; exact hlo, ?_, .inl (by simp [Side.ph, Side.er, he]), fun g => absurd g (sid_gone _)⟩
        have : (ts.take k).length ≤ ts.length := by simp; omega
        simp only [Side.ph, sid, List.length_nil]
        dsimp only at hhi
        omega
      have n2 := Side.nu_T oL
      have hT2 : (sid ts s.length).T.length = ts.length := rfl
      have hml : m.length ≤ 200000 - 1502 - 1502 := by omega
      obtain ⟨q2, w2, m2, z1, z2, z3, z4, _⟩ := Side.tot_loop gL (K := K) (by omega) (ts.length + 2) (K - j) (c.ph q) w (m.map c.rho) oL (by omega) (by omega) (by omega) (by simp; omega)
      rw [z1] at r5
      simp only [Option.some.injEq, Sum.inl.injEq, Prod.mk.injEq] at r5
      rw [r5.2.1]
      exact ⟨by simp, by simp⟩
    · exfalso
      have hend : ¬ ((c.ph q).ferr = [] ∧ (c.ph q).fi < (c.ph q).ftokens.length) := by
        intro h
        exact he (Side.er_nil.1 h.1)
      obtain ⟨k', hk'⟩ : ∃ k', K - j = k' + 1 := ⟨K - j - 1, by omega⟩
      rw [hk'] at r5
      unfold iter at r5
      rw [Side.parB_end K _ _ hend] at r5
      simp only [Option.some.injEq, Sum.inl.injEq, Prod.mk.injEq] at r5
      rw [r5.1] at heL
      exact he (Side.er_nil.1 heL)
theorem cuts_law (K : Nat) (hK : 200000 < K) (hA : fnS (F7 K) = some true) (s : Bytes) (k0 : Int) : fnS (F5 K s k0) = some true := by
  unfold F5
  simp only [letV]
  by_cases h : s.length > 1500
  · rw [if_pos (by simp; omega), hA]; rfl
  · rw [if_neg (by simp; omega)]
    rcases lex_cases s (by omega) with ⟨ts, hx, ha⟩ | ⟨c, a, ha, hc, ha0, ha1⟩
    · obtain ⟨q, w, m, t1, t2, t3, t4, t5, _⟩ := parse_tot K hK s hx ha
      by_cases he : q.ferr = []
      · rw [if_pos he] at t5
        rw [t5, Option.bind_some, if_neg (by simp [errS]), all_eqA K s hK, ha, Option.bind_some]
        rw [if_neg (by simp [errS, t2])]
        by_cases h0 : ts.length = 0
        · rw [if_pos (by simp [h0])]
          have hw : w = [] := by
            have hts : ts = [] := List.length_eq_zero_iff.1 h0
            subst hts
            obtain ⟨k', rfl⟩ : ∃ k', K = k' + 1 := ⟨K - 1, by omega⟩
            unfold iter at t1
            rw [Side.parB_end _ _ _ (by simp)] at t1
            simp only [Option.some.injEq, Sum.inl.injEq, Prod.mk.injEq] at t1
            exact t1.2.1.symm
          rw [hw]
          simp only [List.length_nil, hA, condM]
          rfl
        · rw [if_neg (by intro e; simp at e; exact h0 (by simp [e]))]
          obtain ⟨b1, b2⟩ := lexL_at s ts hx
          obtain ⟨k, hk, hlow⟩ := low_eq K k0 ts.length (by omega) (by omega)
          rw [show (Int.ofNat ts.length : Int) = (ts.length : Int) from rfl, hlow, Option.bind_some]
          obtain ⟨p, p1, p2, v, m2, g, f1, f2⟩ := cut_parse K hK s (by omega) hx ha hk t5
          simp only [Int.toNat_natCast, p1]
          rw [chk_t (inb_nat hk), chk_t (by rw [inb_nat hk]; simp), chk_nil, if_neg (by simp; omega), chk_t (inb_nat hk), chk_t (by simp [bndOk]; omega), chk_nil]
          have hcl : (s.take p).length = p := by rw [List.length_take]; omega
          simp only [Int.toNat_zero, Nat.sub_zero, List.drop_zero]
          rw [f1, Option.bind_some]
          rcases f2 with f2 | ⟨f2, f3, f4⟩
          · subst f2
            rw [if_pos (by simp [errS]), F10_eq, Option.bind_some]
            simp only [List.headD_cons, hcl, hA, condM]
            simp [fnS]
          · subst f2
            rw [if_neg (by simp [errS])]
            rw [chk_t (by simpa using f3), chk_nil, chk_t (by simp [bndOk]; omega), chk_nil]
            have e3 : fnS (F15e K v (⟨(w.take ((Int.ofNat v.fDecls.length) : Int).toNat)⟩ : S44)) = some true := by
              have : (⟨(w.take ((Int.ofNat v.fDecls.length) : Int).toNat)⟩ : S44) = v := by
                cases v
                simpa using f4
              rw [this]
              unfold F15e; rw [if_pos rfl]; rfl
            rw [e3]
            simp only [condM, if_true, Option.bind_some, Bool.and_self, Bool.true_and, hA]
            rfl
      · rw [if_neg he] at t5
        rw [t5, Option.bind_some]
        rcases t3.er with h0 | ⟨kk, aa, h1, h2, h3, h4, h5⟩
        · exact absurd h0 he
        · rw [h1]
          rw [if_pos (by simp [errS]), F10_eq, Option.bind_some]
          have h5 : aa ≤ s.length := h5
          simp only [List.headD_cons, hA, condM]
          rw [if_pos (by simp; exact ⟨⟨⟨by omega, decide_eq_true (by omega)⟩, by omega⟩, decide_eq_true (by omega)⟩)]
          simp [fnS]
          exact ⟨⟨⟨by omega, decide_eq_true (by omega)⟩, by omega⟩, decide_eq_true (by omega)⟩
    · rw [F13_lexerr K hK s ha hc, Option.bind_some, if_pos (by simp [errS]), F10_eq, Option.bind_some]
      simp only [List.headD_cons, hA, condM]
      rw [if_pos (by simp; exact ⟨⟨⟨by omega, decide_eq_true (by omega)⟩, by omega⟩, decide_eq_true (by omega)⟩)]
      simp [fnS]
      exact ⟨⟨⟨by omega, decide_eq_true (by omega)⟩, by omega⟩, decide_eq_true (by omega)⟩
end Go.Proofs.YtphnfaabcnciiaaGreatDoor
