/- What the document writes of a statement of any kind. No conditions. -/
import Derived.Test.YtaoklnkjcobokaaDoorPC
set_option linter.unusedVariables false
set_option linter.unusedSimpArgs false
set_option linter.unusedSectionVars false
namespace Go.Proofs.YtaoklnkjcobokaaDoor
open Go Go.Proofs Go.Dl
set_option maxRecDepth 100000
open pr (B J)

theorem range_drop1 {m : Nat} : (List.range (m + 1)).drop 1 = (List.range m).map (· + 1) := by
  rw [List.range_succ_eq_map]; simp

theorem dstmt_eq : ∀ (n K : Nat) (s : S43), pr.szS s ≤ n → 5 * n + 60 ≤ K → n ≤ 100000000 → pr.okS s → (B (pr.tkS s)).length ≤ 1000000000 → fnS (F55 K s) = some (J (pr.tkS s))
  | 0, K, e, hn, hK, hb, ho, hw => by have := pr.szS_eq e; omega
  | n + 1, K, e, hn, hK, hb, ho, hw => by
    have hs := pr.szS_eq e
    rw [pr.okS_eq] at ho
    rw [pr.tkS_eq] at hw ⊢
    obtain ⟨ho1, ho2, ho3, ho4⟩ := ho
    obtain ⟨K, rfl⟩ : ∃ j, K = j + 6 := ⟨K - 6, by omega⟩
    have hE : ∀ K', 4 * n + 40 ≤ K' → HD K' e.fExprs := fun K' hK' x hx hw => dexpr_eq n K' x (by have := pr.szl_mem _ x hx; omega) hK' (by omega) (pr.okL_mem _ ho2 x hx) hw
    have hB : ∀ K', 5 * n + 60 ≤ K' → ∀ b ∈ e.fBlocks, HT K' b ∧ b.length < K' ∧ b.length ≤ 1000000000 := by
      intro K' hK' b hb
      have h1 := pr.szSll_mem _ b hb
      have h2 := pr.szSl_len b
      exact ⟨fun x hx hw => dstmt_eq n K' x (by have := pr.szSl_mem _ x hx; omega) hK' (by omega) (pr.okSl_mem _ (pr.okSll_mem _ ho4 b hb) x hx) hw, by omega, by omega⟩
    have hl1 := pr.szl_len e.fExprs
    have hl2 := pr.szLab_len e.fLabels
    have hl3 := pr.szLab_mem e.fLabels
    obtain ⟨k, nn, nm, ex, lb, bl⟩ := e
    dsimp only at hs ho1 ho3 hw hE hB hl1 hl2 hl3 ⊢
    have hAt : ∀ i : Nat, (B (pr.atT (pr.agE ex) i)).length ≤ 1000000000 → fnS (F25 (K + 5) ex (i : Int)) = some (J (pr.atT (pr.agE ex) i)) := fun i hw => dat_eq (K + 4) ex (hE _ (by omega)) i hw
    have hBl : ∀ i : Nat, (B (pr.blkT (pr.agB bl) i)).length ≤ 1000000000 → fnS (F61 (K + 5) bl (i : Int)) = some (B (pr.blkT (pr.agB bl) i)) := fun i hw => dblk_eq (K + 3) bl (hB _ (by omega)) i hw
    have hEl : ∀ i : Nat, (B (pr.elseT (pr.agB bl) i)).length ≤ 1000000000 → fnS (F62 (K + 5) bl (i : Int)) = some (B (pr.elseT (pr.agB bl) i)) := fun i hw => delse_eq (K + 3) bl (hB _ (by omega)) i hw
    have hA0 : (B (pr.atT (pr.agE ex) 0)).length ≤ 1000000000 → fnS (F25 (K + 5) ex 0) = some (J (pr.atT (pr.agE ex) 0)) := hAt 0
    have hA1 : (B (pr.atT (pr.agE ex) 1)).length ≤ 1000000000 → fnS (F25 (K + 5) ex 1) = some (J (pr.atT (pr.agE ex) 1)) := hAt 1
    have hB0 : (B (pr.blkT (pr.agB bl) 0)).length ≤ 1000000000 → fnS (F61 (K + 5) bl 0) = some (B (pr.blkT (pr.agB bl) 0)) := hBl 0
    have hLb : ∀ i : Nat, i < lb.length → (B (pr.labT (lb.getD i default))).length ≤ 1000000000 → fnS (F63 (K + 5) lb (i : Int)) = some (B (pr.labT (lb.getD i default))) := fun i hi hw => by
      have := hl3 _ (pr.getD_mem (l := lb) hi)
      exact dlab_eq (K + 5) lb ho3 i hi (by omega) (by omega) (by omega) hw
    have hR : HD (K + 5) ex := hE _ (by omega)
    have hN : fnS (F24 (K + 5) nn) = some (J (numT nn)) := decimal_eq (K + 5) nn (by omega) ho1
    have jt := fun i => J_len (atT_ne (ag_ne ex) i)
    have at_ := fun i => J_app (atT_ne (ag_ne ex) i)
    have j0 := jt 0
    have j1 := jt 1
    have jn := J_len (numT_ne nn)
    have a0 := at_ 0
    have a1 := at_ 1
    have an := J_app (numT_ne nn)
    rw [F55]
    dsimp only
    clear hE hB
    by_cases h1 : k = 1
    · subst h1
      simp only [pr.stmtB, ↓reduceIte, Int.reduceEq, pr.B_app, pr.B_cons, pr.B_nil, List.length_append, List.length_cons, List.length_nil] at hw
      simp only [↓reduceIte, Int.reduceBEq, Bool.false_eq_true]
      simp (disch := (first | assumption | ((try simp only [List.length_append, List.length_cons, List.length_nil]); omega))) only [hA0, hA1, hB0, hN, room_le, chk_true, Option.bind_some, Option.map_some, bindS_r, bindS_l, blockS_r, blockS_ll, blockS_lr, fnS_r, fnS_l, letV, condM_t, chk_nil, List.append_assoc, List.cons_append, List.nil_append, List.append_nil, List.length_append, List.length_cons, List.length_nil]
      refine congrArg some (J_of ?_)
      simp only [pr.stmtB, ↓reduceIte, Int.reduceEq, pr.B_app, pr.B_cons, pr.B_nil, a0, a1, an, List.append_assoc, List.cons_append, List.nil_append, List.append_nil]
    by_cases h2 : k = 2
    · subst h2
      simp only [pr.stmtB, ↓reduceIte, Int.reduceEq, pr.B_app, pr.B_cons, pr.B_nil, List.length_append, List.length_cons, List.length_nil] at hw
      simp only [↓reduceIte, Int.reduceBEq, Bool.false_eq_true]
      simp (disch := (first | assumption | ((try simp only [List.length_append, List.length_cons, List.length_nil]); omega))) only [hA0, hA1, hB0, hN, room_le, chk_true, Option.bind_some, Option.map_some, bindS_r, bindS_l, blockS_r, blockS_ll, blockS_lr, fnS_r, fnS_l, letV, condM_t, chk_nil, List.append_assoc, List.cons_append, List.nil_append, List.append_nil, List.length_append, List.length_cons, List.length_nil]
      refine congrArg some (J_of ?_)
      simp only [pr.stmtB, ↓reduceIte, Int.reduceEq, pr.B_app, pr.B_cons, pr.B_nil, a0, a1, an, List.append_assoc, List.cons_append, List.nil_append, List.append_nil]
    by_cases h3 : k = 3
    · subst h3
      simp only [pr.stmtB, ↓reduceIte, Int.reduceEq, pr.B_app, pr.B_cons, pr.B_nil, List.length_append, List.length_cons, List.length_nil] at hw
      simp only [↓reduceIte, Int.reduceBEq, Bool.false_eq_true]
      simp (disch := (first | assumption | ((try simp only [List.length_append, List.length_cons, List.length_nil]); omega))) only [hA0, hA1, hB0, hN, room_le, chk_true, Option.bind_some, Option.map_some, bindS_r, bindS_l, blockS_r, blockS_ll, blockS_lr, fnS_r, fnS_l, letV, condM_t, chk_nil, List.append_assoc, List.cons_append, List.nil_append, List.append_nil, List.length_append, List.length_cons, List.length_nil]
      refine congrArg some (J_of ?_)
      simp only [pr.stmtB, ↓reduceIte, Int.reduceEq, pr.B_app, pr.B_cons, pr.B_nil, a0, a1, an, List.append_assoc, List.cons_append, List.nil_append, List.append_nil]
    by_cases h4 : k = 4
    · subst h4
      simp only [pr.stmtB, ↓reduceIte, Int.reduceEq, pr.B_app, pr.B_cons, pr.B_nil, List.length_append, List.length_cons, List.length_nil] at hw
      simp only [↓reduceIte, Int.reduceBEq, Bool.false_eq_true]
      simp (disch := (first | assumption | ((try simp only [List.length_append, List.length_cons, List.length_nil]); omega))) only [hA0, hA1, hB0, hN, room_le, chk_true, Option.bind_some, Option.map_some, bindS_r, bindS_l, blockS_r, blockS_ll, blockS_lr, fnS_r, fnS_l, letV, condM_t, chk_nil, List.append_assoc, List.cons_append, List.nil_append, List.append_nil, List.length_append, List.length_cons, List.length_nil]
      refine congrArg some (J_of ?_)
      simp only [pr.stmtB, ↓reduceIte, Int.reduceEq, pr.B_app, pr.B_cons, pr.B_nil, a0, a1, an, List.append_assoc, List.cons_append, List.nil_append, List.append_nil]
    by_cases h5 : k = 5
    · subst h5
      have em : (if 1 > (Int.ofNat ex.length) then (1 : Int) else (Int.ofNat ex.length)) = ((max ex.length 1 : Nat) : Int) := by
        by_cases h : 1 > Int.ofNat ex.length
        · rw [if_pos h]; have h' : (ex.length : Int) < 1 := h; omega
        · rw [if_neg h]; have h' : ¬ (ex.length : Int) < 1 := h; show (ex.length : Int) = _; omega
      obtain ⟨m, hm⟩ : ∃ m, max ex.length 1 = m + 1 := ⟨max ex.length 1 - 1, by omega⟩
      have hel := hEl (m + 1)
      simp only [pr.stmtB, ↓reduceIte, Int.reduceEq, pr.ifT, agE_len, hm] at hw ⊢
      have hw0 : pr.ifW 0 = [73, 70] := rfl
      have hg0 : pr.gat (fun i (_ : Nat) => pr.ifW i ++ 32 :: (B (pr.atT (pr.agE ex) i) ++ 84 :: 72 :: 69 :: 78 :: 32 :: B (pr.blkT (pr.agB bl) i))) 0 (List.range (m + 1)) = 73 :: 70 :: 32 :: (B (pr.atT (pr.agE ex) 0) ++ 84 :: 72 :: 69 :: 78 :: 32 :: (B (pr.blkT (pr.agB bl) 0) ++ pr.gat (fun i (_ : Nat) => pr.ifW i ++ 32 :: (B (pr.atT (pr.agE ex) i) ++ 84 :: 72 :: 69 :: 78 :: 32 :: B (pr.blkT (pr.agB bl) i))) 1 ((List.range (m + 1)).drop 1))) := by
        rw [range_drop1, List.range_succ_eq_map]
        simp only [pr.gat, hw0, List.append_assoc, List.cons_append, List.nil_append, Nat.zero_add, Nat.succ_eq_add_one]
      simp only [pr.B_app, B_gat, pr.B_cons, pr.B_nil, List.append_assoc, List.cons_append, List.nil_append, List.append_nil] at hw
      rw [hg0] at hw
      simp only [List.append_assoc, List.cons_append, List.nil_append, List.append_nil, List.length_append, List.length_cons, List.length_nil] at hw
      have hT : ([73, 70, 32] ++ J (pr.atT (pr.agE ex) 0) ++ [32, 84, 72, 69, 78, 32] ++ B (pr.blkT (pr.agB bl) 0)).length + (pr.gat (fun i (_ : Nat) => pr.ifW i ++ 32 :: (B (pr.atT (pr.agE ex) i) ++ 84 :: 72 :: 69 :: 78 :: 32 :: B (pr.blkT (pr.agB bl) i))) 1 ((List.range (m + 1)).drop 1)).length ≤ 1000000000 := by
        simp only [List.append_assoc, List.cons_append, List.nil_append, List.length_append, List.length_cons, List.length_nil] at hw ⊢
        omega
      simp only [↓reduceIte, Int.reduceBEq, Bool.false_eq_true]
      rw [condM_t, hA0 (by omega), Option.bind_some, chk_t (room_le (by simp only [List.length_cons, List.length_nil]; omega)), chk_t (room_le (by simp only [List.length_append, List.length_cons, List.length_nil]; omega)), chk_nil]
      simp only [letV]
      rw [condM_t, hB0 (by omega), Option.bind_some, chk_t (room_le (by simp only [List.length_append, List.length_cons, List.length_nil]; omega)), chk_nil]
      rw [pr.iter_gat1 Sum.inl (List.range (m + 1)) (fun i (_ : Nat) => pr.ifW i ++ 32 :: (B (pr.atT (pr.agE ex) i) ++ 84 :: 72 :: 69 :: 78 :: 32 :: B (pr.blkT (pr.agB bl) i))) 1000000000 (by simp) (by simp; omega) hT]
      rotate_left
      · intro i hi1 hi v hv
        rw [List.length_range] at hi
        have h1 : decide ((i : Int) < Int.ofNat ex.length) = true := by simp; omega
        have h3 := pr.wrap_succ (i := i) (by omega)
        have hwi : pr.ifW i = [69, 76, 83, 73, 70] := by unfold pr.ifW; rw [if_neg (by omega)]
        have ji := jt i
        have ai := at_ i
        have k1 := hAt i
        have k2 := hBl i
        simp only [hwi, List.length_append, List.length_cons, List.length_nil] at hv
        simp (disch := (first | assumption | ((try simp only [List.length_append, List.length_cons, List.length_nil]); omega))) only [h1, h3, hwi, k1, k2, ai, ↓reduceIte, room_le, chk_true, Option.bind_some, Option.map_some, bindS_r, bindS_l, blockS_r, blockS_ll, blockS_lr, fnS_r, fnS_l, letV, condM_t, chk_nil, List.append_assoc, List.cons_append, List.nil_append, List.append_nil, List.length_append, List.length_cons, List.length_nil]
      · intro v
        have h1 : decide (((m + 1 : Nat) : Int) < Int.ofNat ex.length) = false := by simp; omega
        simp only [List.length_range, h1, Bool.false_eq_true, ↓reduceIte]
      simp only [Option.map_some, blockS_ll, bindS_r]
      rw [em, hm, hel (by omega)]
      simp (disch := (first | assumption | ((try simp only [List.length_append, List.length_cons, List.length_nil]); omega))) only [room_le, chk_true, Option.bind_some, Option.map_some, bindS_r, bindS_l, blockS_r, blockS_ll, blockS_lr, fnS_r, fnS_l, letV, condM_t, chk_nil, List.append_assoc, List.cons_append, List.nil_append, List.append_nil, List.length_append, List.length_cons, List.length_nil]
      refine congrArg some (J_of ?_)
      simp only [pr.B_app, B_gat, pr.B_cons, pr.B_nil, List.append_assoc, List.cons_append, List.nil_append, List.append_nil]
      rw [hg0]
      simp only [a0, List.append_assoc, List.cons_append, List.nil_append, List.append_nil]
    by_cases h6 : k = 6
    · subst h6
      have hel := hEl lb.length
      simp only [pr.stmtB, ↓reduceIte, Int.reduceEq, pr.caseT] at hw ⊢
      simp only [pr.B_app, B_gat, pr.B_cons, pr.B_nil, List.append_assoc, List.cons_append, List.nil_append, List.append_nil, List.length_append, List.length_cons, List.length_nil] at hw
      have hT : ([67, 65, 83, 69, 32] ++ J (pr.atT (pr.agE ex) 0) ++ [32, 79, 70, 32]).length + (pr.gat (fun i x => B (pr.labT x) ++ 58 :: 32 :: B (pr.blkT (pr.agB bl) i)) 0 lb).length ≤ 1000000000 := by
        simp only [List.append_assoc, List.cons_append, List.nil_append, List.length_append, List.length_cons, List.length_nil] at hw ⊢
        omega
      simp only [↓reduceIte, Int.reduceBEq, Bool.false_eq_true]
      rw [hA0 (by omega), Option.bind_some, chk_t (room_le (by simp only [List.length_cons, List.length_nil]; omega)), chk_t (room_le (by simp only [List.length_append, List.length_cons, List.length_nil]; omega)), chk_nil]
      simp only [letV]
      rw [pr.iter_gat Sum.inl lb (fun i x => B (pr.labT x) ++ 58 :: 32 :: B (pr.blkT (pr.agB bl) i)) 1000000000 (by omega) hT]
      rotate_left
      · intro i hi v hv
        have h1 := pr.lt_dec hi
        have h2 := inb_nat hi
        have h3 := pr.wrap_succ (i := i) (by omega)
        have k1 := hLb i hi
        have k2 := hBl i
        generalize B (pr.labT (lb.getD i default)) = y at hv k1 ⊢
        simp only [List.length_append, List.length_cons, List.length_nil] at hv
        simp (disch := (first | assumption | ((try simp only [List.length_append, List.length_cons, List.length_nil]); omega))) only [h1, h2, h3, k1, k2, ↓reduceIte, room_le, chk_true, Option.bind_some, Option.map_some, bindS_r, bindS_l, blockS_r, blockS_ll, blockS_lr, fnS_r, fnS_l, letV, condM_t, chk_nil, List.append_assoc, List.cons_append, List.nil_append, List.append_nil, List.length_append, List.length_cons, List.length_nil]
      · intro v
        simp only [pr.lt_dec0, letV, Bool.false_eq_true, ↓reduceIte]
      simp only [Option.map_some, blockS_ll, bindS_r]
      rw [show (Int.ofNat lb.length) = ((lb.length : Nat) : Int) from rfl, hel (by omega)]
      simp (disch := (first | assumption | ((try simp only [List.length_append, List.length_cons, List.length_nil]); omega))) only [room_le, chk_true, Option.bind_some, Option.map_some, bindS_r, bindS_l, blockS_r, blockS_ll, blockS_lr, fnS_r, fnS_l, letV, condM_t, chk_nil, List.append_assoc, List.cons_append, List.nil_append, List.append_nil, List.length_append, List.length_cons, List.length_nil]
      refine congrArg some (J_of ?_)
      simp only [pr.B_app, B_gat, pr.B_cons, pr.B_nil, a0, List.append_assoc, List.cons_append, List.nil_append, List.append_nil]
    by_cases h7 : k = 7
    · subst h7
      simp only [pr.stmtB, ↓reduceIte, Int.reduceEq, pr.B_app, pr.B_cons, pr.B_nil, List.length_append, List.length_cons, List.length_nil] at hw
      simp only [↓reduceIte, Int.reduceBEq, Bool.false_eq_true]
      simp (disch := (first | assumption | ((try simp only [List.length_append, List.length_cons, List.length_nil]); omega))) only [hA0, hA1, hB0, hN, room_le, chk_true, Option.bind_some, Option.map_some, bindS_r, bindS_l, blockS_r, blockS_ll, blockS_lr, fnS_r, fnS_l, letV, condM_t, chk_nil, List.append_assoc, List.cons_append, List.nil_append, List.append_nil, List.length_append, List.length_cons, List.length_nil]
      refine congrArg some (J_of ?_)
      simp only [pr.stmtB, ↓reduceIte, Int.reduceEq, pr.B_app, pr.B_cons, pr.B_nil, a0, a1, an, List.append_assoc, List.cons_append, List.nil_append, List.append_nil]
    by_cases h8 : k = 8
    · subst h8
      simp only [pr.stmtB, ↓reduceIte, Int.reduceEq, pr.B_app, pr.B_cons, pr.B_nil, List.length_append, List.length_cons, List.length_nil] at hw
      simp only [↓reduceIte, Int.reduceBEq, Bool.false_eq_true]
      simp (disch := (first | assumption | ((try simp only [List.length_append, List.length_cons, List.length_nil]); omega))) only [hA0, hA1, hB0, hN, room_le, chk_true, Option.bind_some, Option.map_some, bindS_r, bindS_l, blockS_r, blockS_ll, blockS_lr, fnS_r, fnS_l, letV, condM_t, chk_nil, List.append_assoc, List.cons_append, List.nil_append, List.append_nil, List.length_append, List.length_cons, List.length_nil]
      refine congrArg some (J_of ?_)
      simp only [pr.stmtB, ↓reduceIte, Int.reduceEq, pr.B_app, pr.B_cons, pr.B_nil, a0, a1, an, List.append_assoc, List.cons_append, List.nil_append, List.append_nil]
    by_cases h9 : k = 9
    · subst h9
      cases ex with
      | nil =>
        simp only [↓reduceIte, Int.reduceBEq, Bool.false_eq_true]
        refine congrArg some (J_of ?_)
        rfl
      | cons x r =>
        have hr := hR x (by simp)
        have hne := tk_ne x
        have jx := J_len hne
        have ax := J_app hne
        simp only [pr.stmtB, pr.agE, pr.retT, List.map_cons, ↓reduceIte, Int.reduceEq, pr.B_app, pr.B_cons, pr.B_nil, List.length_append, List.length_cons, List.length_nil] at hw
        simp only [↓reduceIte, Int.reduceBEq, Bool.false_eq_true]
        have hd : decide (Int.ofNat (r.length + 1) > 0) = true := by simp
        have hi : inb 0 (r.length + 1) = true := by simp [inb]
        have hg : (x :: r).getD (Int.toNat 0) default = x := rfl
        simp (disch := (first | assumption | ((try simp only [List.length_append, List.length_cons, List.length_nil]); omega))) only [hd, hi, hg, hr, ↓reduceIte, room_le, chk_true, Option.bind_some, Option.map_some, bindS_r, bindS_l, blockS_r, blockS_ll, blockS_lr, fnS_r, fnS_l, letV, condM_t, chk_nil, List.append_assoc, List.cons_append, List.nil_append, List.append_nil, List.length_append, List.length_cons, List.length_nil]
        refine congrArg some (J_of ?_)
        simp only [pr.stmtB, pr.agE, pr.retT, List.map_cons, ↓reduceIte, Int.reduceEq, pr.B_app, pr.B_cons, pr.B_nil, ax, List.append_assoc, List.cons_append, List.nil_append, List.append_nil]
    by_cases h10 : k = 10
    · subst h10
      simp only [pr.stmtB, ↓reduceIte, Int.reduceEq, pr.B_app, pr.B_cons, pr.B_nil, List.length_append, List.length_cons, List.length_nil] at hw
      simp only [↓reduceIte, Int.reduceBEq, Bool.false_eq_true]
      simp (disch := (first | assumption | ((try simp only [List.length_append, List.length_cons, List.length_nil]); omega))) only [hA0, hA1, hB0, hN, room_le, chk_true, Option.bind_some, Option.map_some, bindS_r, bindS_l, blockS_r, blockS_ll, blockS_lr, fnS_r, fnS_l, letV, condM_t, chk_nil, List.append_assoc, List.cons_append, List.nil_append, List.append_nil, List.length_append, List.length_cons, List.length_nil]
      refine congrArg some (J_of ?_)
      simp only [pr.stmtB, ↓reduceIte, Int.reduceEq, pr.B_app, pr.B_cons, pr.B_nil, a0, a1, an, List.append_assoc, List.cons_append, List.nil_append, List.append_nil]
    by_cases h11 : k = 11
    · subst h11
      simp only [pr.stmtB, ↓reduceIte, Int.reduceEq, pr.B_app, pr.B_cons, pr.B_nil, List.length_append, List.length_cons, List.length_nil] at hw
      simp only [↓reduceIte, Int.reduceBEq, Bool.false_eq_true]
      simp (disch := (first | assumption | ((try simp only [List.length_append, List.length_cons, List.length_nil]); omega))) only [hA0, hA1, hB0, hN, room_le, chk_true, Option.bind_some, Option.map_some, bindS_r, bindS_l, blockS_r, blockS_ll, blockS_lr, fnS_r, fnS_l, letV, condM_t, chk_nil, List.append_assoc, List.cons_append, List.nil_append, List.append_nil, List.length_append, List.length_cons, List.length_nil]
      refine congrArg some (J_of ?_)
      simp only [pr.stmtB, ↓reduceIte, Int.reduceEq, pr.B_app, pr.B_cons, pr.B_nil, a0, a1, an, List.append_assoc, List.cons_append, List.nil_append, List.append_nil]
    simp only [h1, h2, h3, h4, h5, h6, h7, h8, h9, h10, h11, beq_iff_eq, ↓reduceIte, blockS_r, bindS_r, fnS_l]
    refine congrArg some (J_of ?_)
    simp only [pr.stmtB, h1, h2, h3, h4, h5, h6, h7, h8, h9, h10, h11, ↓reduceIte, pr.B_app, pr.B_cons, pr.B_nil, List.append_assoc, List.cons_append, List.nil_append]
end Go.Proofs.YtaoklnkjcobokaaDoor
