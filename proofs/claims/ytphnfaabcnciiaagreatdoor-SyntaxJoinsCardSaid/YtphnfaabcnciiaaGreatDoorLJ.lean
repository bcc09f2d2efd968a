/- The declarations of two texts with a blank between. No conditions. -/
import Derived.Test.YtphnfaabcnciiaaGreatDoorSPJ
import Derived.Test.YtphnfaabcnciiaaGreatDoorSe
import Derived.Test.YtphnfaabcnciiaaGreatDoorLP
set_option linter.unusedVariables false
set_option linter.unusedSimpArgs false
set_option linter.unusedSectionVars false
namespace Go.Proofs.YtphnfaabcnciiaaGreatDoor
open Go Go.Proofs Go.Dl
set_option maxRecDepth 100000
theorem lex_shift2 (d : Nat) (p : List lx.Tok) : ∀ (l : lx.Bs) (a : Nat) (t : List lx.Tok),
    (match lx.lexL l a t with
    | .inl t' => lx.lexL l (a + d) (p ++ t.map (lx.sh d)) = .inl (p ++ t'.map (lx.sh d)) ∨ ∃ b, lx.lexL l (a + d) (p ++ t.map (lx.sh d)) = .inr (5, b)
    | .inr _ => True) := by
  refine lx.lexL_rec (fun l a t r => match r with
    | .inl t' => lx.lexL l (a + d) (p ++ t.map (lx.sh d)) = .inl (p ++ t'.map (lx.sh d)) ∨ ∃ b, lx.lexL l (a + d) (p ++ t.map (lx.sh d)) = .inr (5, b)
    | .inr _ => True) ?_ ?_ ?_ ?_ ?_
  · intro a t
    exact .inl (lx.lexL_nil _ _)
  · intro l n a t r hl hst ih
    rw [lx.lexL_skip hl hst, show a + d + n = a + n + d by omega]
    exact ih
  · intro l c a t _ _; trivial
  · intro l q x n a t _ _ _; trivial
  · intro l q x n a t r hl hst h15 ih
    rw [lx.lexL_tok hl hst]
    by_cases hb : 1500 ≤ (p ++ t.map (lx.sh d)).length
    · rw [if_pos hb]
      cases r with
      | inl t' => exact .inr ⟨_, rfl⟩
      | inr _ => trivial
    · rw [if_neg hb, show a + d + x.length = a + x.length + d by omega]
      have e : p ++ t.map (lx.sh d) ++ [(⟨q, x, n, ((a + d : Nat) : Int)⟩ : lx.Tok)] = p ++ (t ++ [(⟨q, x, n, (a : Int)⟩ : lx.Tok)]).map (lx.sh d) := by
        rw [List.map_append, List.append_assoc]; rfl
      rw [e]
      exact ih
theorem lexL_lt (s : Bytes) (ts : List S41) (h : lx.lexL s 0 [] = .inl ts) : ∀ x ∈ ts, 0 ≤ x.fAt ∧ x.fAt < s.length := by
  have hp := lx.places s s 0 [] rfl (by omega) (Nat.le_refl _) (by simp)
  rw [h] at hp
  obtain ⟨h1, e, hg⟩ := hp
  have : ∀ (l : List S41) (e0 : Nat), lx.GoodL s e0 l e → ∀ x ∈ l, 0 ≤ x.fAt ∧ x.fAt < s.length := by
    intro l
    induction l with
    | nil => intro _ _ x hx; cases hx
    | cons y r ih =>
      rintro e0 ⟨a, h1, h2, h3⟩ x hx
      rcases List.mem_cons.1 hx with rfl | hx
      · have q1 := h2.at'
        have q2 := h2.fit
        have q3 : 1 ≤ x.fText.length := by
          cases hq : x.fText with
          | nil => exact absurd hq h2.ne
          | cons b r => simp
        omega
      · exact ih _ h3 x hx
  exact this ts 0 hg
theorem few (K : Nat) (hK : 200000 < K) (s : Bytes) {ts : List S41} (hx : lx.lexL s 0 [] = .inl ts) {q : S65} {w : List S60} {m : List Int}
    (hr : iter K (parB K) (p0 ts s.length, [], []) = some (.inl (q, w, m))) (hq : q.ferr = []) : w.length ≤ 12 := by
  obtain ⟨h1, h2⟩ := lexL_at s ts hx
  have g : (sid ts s.length).Good := sid_good (by omega) (fun t ht => by obtain ⟨a, q1, q2, _⟩ := h2 t ht; omega) (by omega)
  have o : (sid ts s.length).Ok (p0 ts s.length) := ok0 (c := sid ts s.length) rfl
  have n1 := Side.nu_T o
  have hT : (sid ts s.length).T.length = ts.length := rfl
  obtain ⟨q', w', m', r1, r2, r3, r4, r5⟩ := Side.join_loop g rfl (K := K) (by omega) [] (ts.length + 2) K _ [] [] [] o (by omega) (by omega) (by simp; omega) (by simp; omega) (by simp; omega) (by simp)
  simp only [List.nil_append, List.length_nil, Nat.zero_add] at r1 r5
  rw [hr] at r1
  simp only [Option.some.injEq, Sum.inl.injEq, Prod.mk.injEq] at r1
  obtain ⟨rfl, rfl, rfl⟩ := r1
  have eph : (sid ts s.length).ph (p0 ts s.length) = p0 ts s.length := by
    have e1 : ∀ l : List S41, l.map (Side.tk (sid ts s.length)) = l := by
      intro l
      induction l with
      | nil => rfl
      | cons a r ih => rw [List.map_cons, ih]; rfl
    simp only [Side.ph, e1]
    simp [sid, Side.er]
  rcases r5 hq with ⟨z, _⟩ | ⟨_, x, y, z, z2, z3⟩
  · omega
  · rw [eph, hr] at z2
    simp only [Option.some.injEq, Sum.inl.injEq, Prod.mk.injEq] at z2
    rw [z2.1, z3] at hq
    cases hq
theorem joins_parse (K : Nat) (hK : 200000 < K) (s t : Bytes) (hs : s.length ≤ 2500) (ht : t.length ≤ 2500) {ts tt tk : List S41} (hx : lx.lexL s 0 [] = .inl ts) (hy : lx.lexL t 0 [] = .inl tt) (hb : lx.lexL (s ++ 32 :: t) 0 [] = .inl tk)
    {qa qb : S65} {wa wb : List S60} {ma mb : List Int} (ra : iter K (parB K) (p0 ts s.length, [], []) = some (.inl (qa, wa, ma))) (ea : qa.ferr = [])
    (rb : iter K (parB K) (p0 tt t.length, [], []) = some (.inl (qb, wb, mb))) (eb : qb.ferr = []) (pa : ∀ a ∈ ma, ∃ t ∈ ts, t.fAt = a) :
    wa.length ≤ 12 ∧ ((wa.length + wb.length ≤ 12 ∧ fnS (F13 K (s ++ 32 :: t)) = some (⟨wa ++ wb⟩, ma ++ mb.map (· + ((s.length + 1 : Nat) : Int)), [])) ∨
      (12 < wa.length + wb.length ∧ fnS (F13 K (s ++ 32 :: t)) = some (⟨[]⟩, [], [(5, mb.getD (12 - wa.length) default + ((s.length + 1 : Nat) : Int))]))) := by
  have h12 := few K hK s hx ra ea
  refine ⟨h12, ?_⟩
  obtain ⟨d, hd⟩ : ∃ d, d = s.length + 1 := ⟨_, rfl⟩
  rw [← hd]
  have hbl : (s ++ 32 :: t).length = t.length + d := by simp; omega
  -- the tokens of both
  have hj := lx.lex_join t s 0 [] ts hx
  rw [Nat.zero_add, ← hd, hb] at hj
  have hsh := lex_shift2 d ts t 0 []
  rw [hy] at hsh
  simp only [Nat.zero_add, List.map_nil, List.append_nil] at hsh
  have htk : tk = ts ++ tt.map (lx.sh d) := by
    rcases hsh with h | ⟨b, h⟩
    · rw [h] at hj
      exact Sum.inl.inj hj
    · rw [h] at hj; cases hj
  obtain ⟨b1, _⟩ := lexL_at _ tk hb
  have hls := lexL_lt s ts hx
  have hlt := lexL_lt t tt hy
  have hcount : ts.length + tt.length ≤ 1500 := by rw [htk] at b1; simpa using b1
  have hab : lx.allF (s ++ 32 :: t) = (tk, []) := by rw [allF_le _ (by rw [hbl]; omega), hb]
  have h18 := F18_eqS K hK (s ++ 32 :: t) hab
  rw [hbl] at h18
  -- the first run
  obtain ⟨c1, hc1⟩ : ∃ c : Side, c = ⟨ts, s.length, [], tt.map (lx.sh d), fun x => if x = (s.length : Int) then ((t.length + d : Nat) : Int) else x, ((t.length + d : Nat) : Int)⟩ := ⟨_, rfl⟩
  have g1 : c1.Good := by
    rw [hc1]
    refine ⟨by simp; omega, fun _ => by simp, fun x hx => ?_, by show (0 : Int) ≤ s.length; omega⟩
    have := hls x hx
    exact ⟨this.1, by show x.fAt ≤ (s.length : Int); omega⟩
  have eT1 : c1.T = ts := by rw [hc1]
  have o1 : c1.Ok (p0 ts s.length) := by
    have := ok0 (c := c1) (e := s.length) (by rw [hc1])
    rwa [eT1] at this
  have n1 := Side.nu_T o1
  rw [eT1] at n1
  have etk1 : ts.map c1.tk = ts := by
    have : ∀ l : List S41, (∀ x ∈ l, x.fAt < (s.length : Int)) → l.map c1.tk = l := by
      intro l
      induction l with
      | nil => intro _; rfl
      | cons a r ih =>
        intro h
        rw [List.map_cons, ih fun x hx => h x (List.mem_cons_of_mem _ hx)]
        have := h a (List.mem_cons_self ..)
        have e : c1.tk a = a := by
          rw [hc1]
          unfold Side.tk
          dsimp only
          rw [if_neg (by omega)]
        rw [e]
    exact this ts fun x hx => (hls x hx).2
  have ph1 : c1.ph (p0 ts s.length) = p0 tk ((t.length + d : Nat) : Int) := by
    unfold Side.ph
    rw [eT1, etk1, htk, hc1]
    simp [Side.er]
  obtain ⟨q1, w1, m1, r1, r2, r3, r4, r6, r7, r5⟩ := Side.cut_loop g1 (K := K) (by rw [eT1]; omega) (ts.length + 2) K (p0 ts s.length) [] [] [] o1 (by omega) (by omega) (by simp; omega) (by simp; omega) (by simp; omega)
  simp only [List.nil_append, List.length_nil] at r1 r5 r6
  rw [ra] at r1
  simp only [Option.some.injEq, Sum.inl.injEq, Prod.mk.injEq] at r1
  obtain ⟨rfl, rfl, rfl⟩ := r1
  rcases r5 with hbk | ⟨j, hj1, r5⟩
  · rw [hbk.2] at ea; cases ea
  rw [ph1] at r5
  have hrho : ma.map c1.rho = ma := by
    have : ∀ l : List Int, (∀ a ∈ l, a < (s.length : Int)) → l.map c1.rho = l := by
      intro l
      induction l with
      | nil => intro _; rfl
      | cons a r ih =>
        intro h
        rw [List.map_cons, ih fun x hx => h x (List.mem_cons_of_mem _ hx)]
        have := h a (List.mem_cons_self ..)
        have e : c1.rho a = a := by
          rw [hc1]
          dsimp only
          rw [if_neg (by omega)]
        rw [e]
    refine this ma fun a ha => ?_
    obtain ⟨x, hx1, hx2⟩ := pa a ha
    have := (hls x hx1).2
    omega
  rw [hrho] at r5
  -- the second run
  obtain ⟨c2, hc2⟩ : ∃ c : Side, c = ⟨tt, t.length, ts, [], fun x => x + (d : Int), ((t.length + d : Nat) : Int)⟩ := ⟨_, rfl⟩
  have g2 : c2.Good := by
    rw [hc2]
    refine ⟨by simp; omega, fun _ => by simp, fun x hx => ?_, by show (0 : Int) ≤ t.length; omega⟩
    have := hlt x hx
    exact ⟨this.1, by show x.fAt ≤ (t.length : Int); omega⟩
  have eT2 : c2.T = tt := by rw [hc2]
  have o2 : c2.Ok (p0 tt t.length) := by
    have := ok0 (c := c2) (e := t.length) (by rw [hc2])
    rwa [eT2] at this
  have n2 := Side.nu_T o2
  rw [eT2] at n2
  have hfi : qa.fi = ts.length := by
    have hhi := r3.hi
    rw [eT1] at hhi
    have : ¬ qa.fi < (ts.length : Int) := fun g => r4 ⟨ea, by rw [r3.tok, eT1]; exact g⟩
    omega
  have ph2 : c2.ph (p0 tt t.length) = c1.ph qa := by
    unfold Side.ph
    rw [eT1, etk1, eT2, hfi, ea, hc1, hc2]
    simp only [Side.er, List.map_nil, List.nil_append, List.append_nil, List.length_nil]
    have e2 : tt.map (Side.tk ⟨tt, t.length, ts, [], fun x => x + (d : Int), ((t.length + d : Nat) : Int)⟩) = tt.map (lx.sh d) := rfl
    rw [e2]
    simp
  have hml : ma.length ≤ 20000 := by omega
  obtain ⟨q2, w2, m2, s1, s2, s3, s4, s5⟩ := Side.join_loop g2 (by rw [hc2]) (K := K) (by rw [eT2]; omega) wa (tt.length + 2) (K - j) (p0 tt t.length) [] [] ma o2 (by omega) (by omega) (by simp; omega) (by simp; omega) (by omega) (by simpa using h12)
  simp only [List.nil_append, List.append_nil, List.length_nil, Nat.add_zero] at s1 s5
  -- it is the run on the second text
  have hmono : ∀ (k k' : Nat) (x : PSt) (y : PSt ⊕ (S44 × List Int × Err)), k ≤ k' → iter k (parB K) x = some y → iter k' (parB K) x = some y := by
    intro k
    induction k with
    | zero => intro k' x y _ h; cases h
    | succ k ih =>
      intro k' x y hk h
      obtain ⟨k2, rfl⟩ : ∃ k2, k' = k2 + 1 := ⟨k' - 1, by omega⟩
      unfold iter at h ⊢
      cases hf : parB K x with
      | none => rw [hf] at h; cases h
      | some z =>
        rw [hf] at h
        cases z with
        | inl a => exact h
        | inr x' => exact ih k2 x' y (by omega) h
  have s1' := hmono (K - j) K _ _ (by omega) s1
  rw [rb] at s1'
  simp only [Option.some.injEq, Sum.inl.injEq, Prod.mk.injEq] at s1'
  obtain ⟨rfl, rfl, rfl⟩ := s1'
  rw [ph2] at s5
  rcases s5 eb with ⟨z1, z2⟩ | ⟨z1, x, y, z, z2, z3⟩
  · left
    refine ⟨z1, ?_⟩
    rw [z2] at r5
    rw [F13_run K _ h18 r5, if_pos (by show c2.er qb.ferr = []; rw [eb]; rfl)]
    rw [hc2]
  · right
    refine ⟨z1, ?_⟩
    rw [z2] at r5
    rw [F13_run K _ h18 r5, if_neg (by rw [z3]; simp), z3, hc2]
structure Parsed (K : Nat) (s : Bytes) (u : S44) (p : List Int) : Prop where
  ex : ∃ (ts : List S41) (q : S65), lx.lexL s 0 [] = .inl ts ∧ iter K (parB K) (p0 ts s.length, [], []) = some (.inl (q, u.fDecls, p)) ∧ q.ferr = [] ∧ ∀ a ∈ p, ∃ t ∈ ts, t.fAt = a
  len : u.fDecls.length = p.length
theorem parse_sum (K : Nat) (hK : 200000 < K) (s : Bytes) (hs : s.length ≤ 6000) : ∃ u p e, fnS (F13 K s) = some (u, p, e) ∧ (e = [] → Parsed K s u p) := by
  rcases lex_cases s hs with ⟨ts, hx, ha⟩ | ⟨c, a, ha, hc, _, _⟩
  · obtain ⟨q, w, m, t1, t2, t3, t4, t5, t6⟩ := parse_tot K hK s hx ha
    by_cases he : q.ferr = []
    · rw [if_pos he] at t5
      exact ⟨_, _, _, t5, fun _ => ⟨⟨ts, q, hx, t1, he, t6⟩, t2⟩⟩
    · rw [if_neg he] at t5
      exact ⟨_, _, _, t5, fun h => absurd h he⟩
  · exact ⟨_, _, _, F13_lexerr K hK s ha hc, fun h => by cases h⟩
theorem joins_law (K : Nat) (hK : 200000 < K) (hA : fnS (F7 K) = some true) (s t : Bytes) : fnS (F6 K s t) = some true := by
  unfold F6
  simp only [letV]
  by_cases h : s.length > 2500 ∨ t.length > 2500
  · rw [if_pos (by simp; omega), hA]; rfl
  · have happ : ((s ++ ([32] : Bytes)) ++ t) = s ++ 32 :: t := by simp
    obtain ⟨ua, pa, e, f1, g1⟩ := parse_sum K hK s (by omega)
    obtain ⟨ub, pb, f, f2, g2⟩ := parse_sum K hK t (by omega)
    rw [if_neg (by simp; omega), f1, Option.bind_some, f2, Option.bind_some, chk_t (room_le (by simp; omega)), chk_t (room_le (by simp; omega)), chk_nil, happ, all_eqA K _ hK, Option.bind_some]
    by_cases hne : e = [] ∧ f = [] ∧ (lx.allF (s ++ 32 :: t)).2 = []
    · obtain ⟨rfl, rfl, hg⟩ := hne
      have hbl : (s ++ 32 :: t).length ≤ 6000 := by simp; omega
      obtain ⟨tk, hb⟩ : ∃ tk, lx.lexL (s ++ 32 :: t) 0 [] = .inl tk := by
        rcases lex_cases (s ++ 32 :: t) hbl with ⟨tk, hb, _⟩ | ⟨c, a, hb, _⟩
        · exact ⟨tk, hb⟩
        · rw [hb] at hg; cases hg
      obtain ⟨⟨ts, qa, hx, ra, ea, ma⟩, la⟩ := g1 rfl
      obtain ⟨⟨tt, qb, hy, rb, eb, mb⟩, lb⟩ := g2 rfl
      obtain ⟨h12, hj⟩ := joins_parse K hK s t (by omega) (by omega) hx hy hb ra ea rb eb ma
      have hbt : ∀ i, i < pb.length → ∃ a : Nat, pb.getD i default = (a : Int) ∧ a ≤ 2500 := by
        intro i hi
        obtain ⟨x, hx1, hx2⟩ := mb _ (getD_mem pb default i hi)
        have := lexL_lt t tt hy x hx1
        exact ⟨(pb.getD i default).toNat, by omega, by omega⟩
      have hpb : pb.length ≤ 100000 := by
        have h12b := few K hK t hy rb eb
        omega
      rw [if_neg (by rw [hg]; simp [errS]), if_neg (by simp [la, lb])]
      have ew : IntKind.i64.wrap ((Int.ofNat pa.length) + (Int.ofNat pb.length)) = ((pa.length + pb.length : Nat) : Int) := by rw [wrap64 (by simp; omega) (by simp; omega)]; simp
      rw [ew]
      rcases hj with ⟨z1, z2⟩ | ⟨z1, z2⟩
      · -- there is room
        rw [z2, Option.bind_some, if_neg (by simp; omega)]
        refine iter_ctx (C := fun o => fnS (bindS (blockS (o.map .inl)) _) = some true) (fun x : List Int × Int => pb.length - x.2.toNat)
          (fun x a => a = .inl (pa ++ pb.map (· + ((s.length + 1 : Nat) : Int))))
          (fun x => 0 ≤ x.2 ∧ x.2.toNat ≤ pb.length ∧ x.1 = pa ++ (pb.take x.2.toNat).map (· + ((s.length + 1 : Nat) : Int))) ⟨by simp, by simp, by simp⟩ (by simp; omega) ?_ ?_
        · rintro ⟨l, i⟩ ⟨q1, q2, q3⟩
          dsimp +instances only at q1 q2 q3 ⊢
          obtain ⟨n, rfl⟩ : ∃ n : Nat, i = (n : Int) := ⟨i.toNat, by omega⟩
          simp only [Int.toNat_natCast] at q2 q3 ⊢
          by_cases hn : n < pb.length
          · left
            obtain ⟨a, ha1, ha2⟩ := hbt n hn
            have e2 : IntKind.i64.wrap ((IntKind.i64.wrap ((pb.getD n default) + (Int.ofNat s.length))) + 1) = pb.getD n default + ((s.length + 1 : Nat) : Int) := by
              rw [ha1, wrap64 (x := (a : Int) + Int.ofNat s.length) (by simp; omega) (by simp; omega), wrap64 (by simp; omega) (by simp; omega)]; simp; omega
            have hl : l.length ≤ 100100 := by rw [q3]; simp; omega
            rw [if_pos (c := decide _ = true) (by simp; omega), chk_t (inb_nat hn), chk_nil, chk_t (room_le (by omega)), chk_nil, chk_t (room_le (by simp; omega)), chk_nil, e2]
            refine ⟨(l ++ [pb.getD n default + ((s.length + 1 : Nat) : Int)], ((n + 1 : Nat) : Int)), ?_, ⟨by dsimp only; omega, by dsimp only; omega, ?_⟩, by dsimp only; omega, fun a ha => ha⟩
            · rw [blockS_r, bindS_r, wrap64 (by omega) (by omega)]; rfl
            · dsimp only
              rw [q3, Int.toNat_natCast, List.take_add_one, List.map_append, ← List.append_assoc]
              simp [List.getD, List.getElem?_eq_getElem hn]
          · right
            rw [if_neg (c := decide _ = true) (by simp; omega)]
            exact ⟨_, rfl, by rw [q3, List.take_of_length_le (by omega)]⟩
        · rintro a rfl
          show fnS (bindS (some (Sum.inr (pa ++ pb.map (· + ((s.length + 1 : Nat) : Int))))) _) = _
          rw [bindS_r]
          have h17 : fnS (F17 K (pa ++ pb.map (· + ((s.length + 1 : Nat) : Int))) (pa ++ pb.map (· + ((s.length + 1 : Nat) : Int)))) = some true := same17 (by simp; unfold maxLen; omega) (by simp; omega)
          have e3 : fnS (F15e K (⟨ua.fDecls ++ ub.fDecls⟩ : S44) (⟨ua.fDecls ++ ub.fDecls⟩ : S44)) = some true := by unfold F15e; rw [if_pos rfl]; rfl
          rw [h17]
          have e4 : (!errS ([] : Err)) = true := rfl
          simp only [e4, condM, if_true, Option.bind_some, Bool.and_self]
          rw [chk_t rfl, chk_nil, chk_t (room_le (by omega)), chk_nil, chk_t (room_le (by omega)), chk_nil, e3]
          simp only [Option.bind_some, Bool.and_self, if_true, hA]
          rfl
      · -- there are too many
        rw [z2, Option.bind_some, if_pos (by simp; omega), F10_eq, Option.bind_some]
        simp only [List.headD_cons]
        have e12 : IntKind.i64.wrap (12 - (Int.ofNat pa.length)) = ((12 - pa.length : Nat) : Int) := by rw [wrap64 (by simp; omega) (by simp; omega)]; simp; omega
        have hi : 12 - ua.fDecls.length < pb.length := by omega
        obtain ⟨a, ha1, ha2⟩ := hbt _ hi
        rw [la] at hi ha1 ⊢
        have e2 : IntKind.i64.wrap ((IntKind.i64.wrap ((pb.getD (12 - pa.length) default) + (Int.ofNat s.length))) + 1) = pb.getD (12 - pa.length) default + ((s.length + 1 : Nat) : Int) := by
          rw [ha1, wrap64 (x := (a : Int) + Int.ofNat s.length) (by simp; omega) (by simp; omega), wrap64 (by simp; omega) (by simp; omega)]; simp; omega
        rw [e12, Int.toNat_natCast, e2, chk_t (by rw [inb_nat hi]; simp), chk_nil]
        simp only [beq_self_eq_true, Bool.and_self, condM, if_true, hA, Option.bind_some]
        rfl
    · rw [if_pos, hA]
      · rfl
      · have : ∀ l : Err, (!(!errS l)) = !decide (l = []) := by intro l; rw [Side.errS_iff]
        simp only [this]
        by_cases h1 : e = []
        · by_cases h2 : f = []
          · have h3 : ¬ (lx.allF (s ++ 32 :: t)).2 = [] := fun h3 => hne ⟨h1, h2, h3⟩
            simp [h3]
          · simp [h2]
        · simp [h1]
end Go.Proofs.YtphnfaabcnciiaaGreatDoor
