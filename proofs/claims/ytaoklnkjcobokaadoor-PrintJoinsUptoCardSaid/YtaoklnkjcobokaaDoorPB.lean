/- What print writes of a statement of any kind, and of declarations. What print writes of declarations. No conditions. -/
import Derived.Test.YtaoklnkjcobokaaDoorPA
set_option linter.unusedVariables false
set_option linter.unusedSimpArgs false
set_option linter.unusedSectionVars false
namespace Go.Proofs.YtaoklnkjcobokaaDoor
open Go Go.Proofs Go.Dl
set_option maxRecDepth 100000

theorem stmt_eq : ∀ (n K : Nat) (s : S43) (w : List Bytes), pr.szS s ≤ n → 5 * n + 60 ≤ K → n ≤ 100000000 → pr.okS s → w.length + (pr.tkS s).length ≤ 1000000000 → fnS (F51 K (⟨w⟩ : S62) s) = some ⟨w ++ pr.tkS s⟩
  | 0, K, e, w, hn, hK, hb, ho, hw => by have := pr.szS_eq e; omega
  | n + 1, K, e, w, hn, hK, hb, ho, hw => by
    have hs := pr.szS_eq e
    rw [pr.okS_eq] at ho
    rw [pr.tkS_eq] at hw ⊢
    obtain ⟨ho1, ho2, ho3, ho4⟩ := ho
    obtain ⟨K, rfl⟩ : ∃ j, K = j + 6 := ⟨K - 6, by omega⟩
    have hE : ∀ K', 4 * n + 40 ≤ K' → HE K' e.fExprs := fun K' hK' x hx w hw => expr_eq n K' x w (by have := pr.szl_mem _ x hx; omega) hK' (by omega) (pr.okL_mem _ ho2 x hx) hw
    have hB : ∀ K', 5 * n + 60 ≤ K' → ∀ b ∈ e.fBlocks, HS K' b ∧ b.length < K' ∧ b.length ≤ 1000000000 := by
      intro K' hK' b hb
      have h1 := pr.szSll_mem _ b hb
      have h2 := pr.szSl_len b
      exact ⟨fun x hx w hw => stmt_eq n K' x w (by have := pr.szSl_mem _ x hx; omega) hK' (by omega) (pr.okSl_mem _ (pr.okSll_mem _ ho4 b hb) x hx) hw, by omega, by omega⟩
    have hl1 := pr.szl_len e.fExprs
    have hl2 := pr.szLab_len e.fLabels
    have hIf : ∀ w : List Bytes, w.length + (pr.ifT (pr.agE e.fExprs) (pr.agB e.fBlocks)).length ≤ 1000000000 → fnS (F56 (K + 5) (⟨w⟩ : S62) e) = some ⟨w ++ pr.ifT (pr.agE e.fExprs) (pr.agB e.fBlocks)⟩ := fun w hw => choice_eq (K + 2) w e (hE _ (by omega)) (hB _ (by omega)) ⟨by omega, by omega⟩ hw
    have hCa : ∀ w : List Bytes, w.length + (pr.caseT (pr.agE e.fExprs) e.fLabels (pr.agB e.fBlocks)).length ≤ 1000000000 → fnS (F57 (K + 5) (⟨w⟩ : S62) e) = some ⟨w ++ pr.caseT (pr.agE e.fExprs) e.fLabels (pr.agB e.fBlocks)⟩ := fun w hw => case_eq (K + 2) w e (hE _ (by omega)) (hB _ (by omega)) ho3 ⟨by omega, by omega⟩ (fun x hx => by have := pr.szLab_mem _ x hx; exact ⟨by omega, by omega⟩) hw
    obtain ⟨k, nn, nm, ex, lb, bl⟩ := e
    dsimp only at hs ho1 hw hE hB hl1 hl2 hIf hCa ⊢
    have hA0 : ∀ w : List Bytes, w.length + (pr.atT (pr.agE ex) 0).length ≤ 1000000000 → fnS (F44 (K + 5) (⟨w⟩ : S62) ex 0) = some ⟨w ++ pr.atT (pr.agE ex) 0⟩ := fun w hw => at_eq (K + 4) w ex (hE _ (by omega)) 0 hw
    have hA1 : ∀ w : List Bytes, w.length + (pr.atT (pr.agE ex) 1).length ≤ 1000000000 → fnS (F44 (K + 5) (⟨w⟩ : S62) ex 1) = some ⟨w ++ pr.atT (pr.agE ex) 1⟩ := fun w hw => at_eq (K + 4) w ex (hE _ (by omega)) 1 hw
    have hB0 : ∀ w : List Bytes, w.length + (pr.blkT (pr.agB bl) 0).length ≤ 1000000000 → fnS (F58 (K + 5) (⟨w⟩ : S62) bl 0) = some ⟨w ++ pr.blkT (pr.agB bl) 0⟩ := fun w hw => blk_eq (K + 3) w bl (hB _ (by omega)) 0 hw
    have hR : HE (K + 5) ex := hE _ (by omega)
    rw [F51]
    dsimp only
    clear hE hB hl1 hl2 hs ho2 ho3 ho4 hn hK hb
    by_cases h1 : k = 1
    · subst h1
      simp only [pr.stmtB, ↓reduceIte, Int.reduceEq, List.length_append, List.length_cons, List.length_nil] at hw
      simp only [↓reduceIte, Int.reduceBEq, Bool.false_eq_true, blockS_ll, blockS_lr, bindS_l, bindS_r]
      simp (disch := (first | assumption | ((try simp only [List.length_append, List.length_cons, List.length_nil]); omega))) only [pr.stmtB, ↓reduceIte, Int.reduceEq, hA0, hA1, hB0, hIf, hCa, number_eq, put_eq, Option.bind_some, bindS_r, bindS_l, blockS_r, blockS_ll, blockS_lr, fnS_r, fnS_l, letV, condM_t, chk_true, chk_nil, List.append_assoc, List.cons_append, List.nil_append, List.append_nil, List.length_append, List.length_cons, List.length_nil]
    by_cases h2 : k = 2
    · subst h2
      simp only [pr.stmtB, ↓reduceIte, Int.reduceEq, List.length_append, List.length_cons, List.length_nil] at hw
      simp only [↓reduceIte, Int.reduceBEq, Bool.false_eq_true, blockS_ll, blockS_lr, bindS_l, bindS_r]
      simp (disch := (first | assumption | ((try simp only [List.length_append, List.length_cons, List.length_nil]); omega))) only [pr.stmtB, ↓reduceIte, Int.reduceEq, hA0, hA1, hB0, hIf, hCa, number_eq, put_eq, Option.bind_some, bindS_r, bindS_l, blockS_r, blockS_ll, blockS_lr, fnS_r, fnS_l, letV, condM_t, chk_true, chk_nil, List.append_assoc, List.cons_append, List.nil_append, List.append_nil, List.length_append, List.length_cons, List.length_nil]
    by_cases h3 : k = 3
    · subst h3
      simp only [pr.stmtB, ↓reduceIte, Int.reduceEq, List.length_append, List.length_cons, List.length_nil] at hw
      simp only [↓reduceIte, Int.reduceBEq, Bool.false_eq_true, blockS_ll, blockS_lr, bindS_l, bindS_r]
      simp (disch := (first | assumption | ((try simp only [List.length_append, List.length_cons, List.length_nil]); omega))) only [pr.stmtB, ↓reduceIte, Int.reduceEq, hA0, hA1, hB0, hIf, hCa, number_eq, put_eq, Option.bind_some, bindS_r, bindS_l, blockS_r, blockS_ll, blockS_lr, fnS_r, fnS_l, letV, condM_t, chk_true, chk_nil, List.append_assoc, List.cons_append, List.nil_append, List.append_nil, List.length_append, List.length_cons, List.length_nil]
    by_cases h4 : k = 4
    · subst h4
      simp only [pr.stmtB, ↓reduceIte, Int.reduceEq, List.length_append, List.length_cons, List.length_nil] at hw
      simp only [↓reduceIte, Int.reduceBEq, Bool.false_eq_true, blockS_ll, blockS_lr, bindS_l, bindS_r]
      simp (disch := (first | assumption | ((try simp only [List.length_append, List.length_cons, List.length_nil]); omega))) only [pr.stmtB, ↓reduceIte, Int.reduceEq, hA0, hA1, hB0, hIf, hCa, number_eq, put_eq, Option.bind_some, bindS_r, bindS_l, blockS_r, blockS_ll, blockS_lr, fnS_r, fnS_l, letV, condM_t, chk_true, chk_nil, List.append_assoc, List.cons_append, List.nil_append, List.append_nil, List.length_append, List.length_cons, List.length_nil]
    by_cases h5 : k = 5
    · subst h5
      simp only [pr.stmtB, ↓reduceIte, Int.reduceEq, List.length_append, List.length_cons, List.length_nil] at hw
      simp only [↓reduceIte, Int.reduceBEq, Bool.false_eq_true, blockS_ll, blockS_lr, bindS_l, bindS_r]
      simp (disch := (first | assumption | ((try simp only [List.length_append, List.length_cons, List.length_nil]); omega))) only [pr.stmtB, ↓reduceIte, Int.reduceEq, hA0, hA1, hB0, hIf, hCa, number_eq, put_eq, Option.bind_some, bindS_r, bindS_l, blockS_r, blockS_ll, blockS_lr, fnS_r, fnS_l, letV, condM_t, chk_true, chk_nil, List.append_assoc, List.cons_append, List.nil_append, List.append_nil, List.length_append, List.length_cons, List.length_nil]
    by_cases h6 : k = 6
    · subst h6
      simp only [pr.stmtB, ↓reduceIte, Int.reduceEq, List.length_append, List.length_cons, List.length_nil] at hw
      simp only [↓reduceIte, Int.reduceBEq, Bool.false_eq_true, blockS_ll, blockS_lr, bindS_l, bindS_r]
      simp (disch := (first | assumption | ((try simp only [List.length_append, List.length_cons, List.length_nil]); omega))) only [pr.stmtB, ↓reduceIte, Int.reduceEq, hA0, hA1, hB0, hIf, hCa, number_eq, put_eq, Option.bind_some, bindS_r, bindS_l, blockS_r, blockS_ll, blockS_lr, fnS_r, fnS_l, letV, condM_t, chk_true, chk_nil, List.append_assoc, List.cons_append, List.nil_append, List.append_nil, List.length_append, List.length_cons, List.length_nil]
    by_cases h7 : k = 7
    · subst h7
      simp only [pr.stmtB, ↓reduceIte, Int.reduceEq, List.length_append, List.length_cons, List.length_nil] at hw
      simp only [↓reduceIte, Int.reduceBEq, Bool.false_eq_true, blockS_ll, blockS_lr, bindS_l, bindS_r]
      simp (disch := (first | assumption | ((try simp only [List.length_append, List.length_cons, List.length_nil]); omega))) only [pr.stmtB, ↓reduceIte, Int.reduceEq, hA0, hA1, hB0, hIf, hCa, number_eq, put_eq, Option.bind_some, bindS_r, bindS_l, blockS_r, blockS_ll, blockS_lr, fnS_r, fnS_l, letV, condM_t, chk_true, chk_nil, List.append_assoc, List.cons_append, List.nil_append, List.append_nil, List.length_append, List.length_cons, List.length_nil]
    by_cases h8 : k = 8
    · subst h8
      simp only [pr.stmtB, ↓reduceIte, Int.reduceEq, List.length_append, List.length_cons, List.length_nil] at hw
      simp only [↓reduceIte, Int.reduceBEq, Bool.false_eq_true, blockS_ll, blockS_lr, bindS_l, bindS_r]
      simp (disch := (first | assumption | ((try simp only [List.length_append, List.length_cons, List.length_nil]); omega))) only [pr.stmtB, ↓reduceIte, Int.reduceEq, hA0, hA1, hB0, hIf, hCa, number_eq, put_eq, Option.bind_some, bindS_r, bindS_l, blockS_r, blockS_ll, blockS_lr, fnS_r, fnS_l, letV, condM_t, chk_true, chk_nil, List.append_assoc, List.cons_append, List.nil_append, List.append_nil, List.length_append, List.length_cons, List.length_nil]
    by_cases h9 : k = 9
    · subst h9
      cases ex with
      | nil =>
        simp only [pr.stmtB, pr.agE, pr.retT, List.map_nil, ↓reduceIte, Int.reduceEq, List.length_append, List.length_cons, List.length_nil] at hw
        simp only [↓reduceIte, Int.reduceBEq, Bool.false_eq_true, blockS_ll, blockS_lr, bindS_l, bindS_r]
        simp (disch := (first | assumption | ((try simp only [List.length_append, List.length_cons, List.length_nil]); omega))) [pr.stmtB, pr.agE, pr.retT, put_eq, Option.bind_some, bindS_r, bindS_l, blockS_r, blockS_ll, blockS_lr, fnS_r, fnS_l, letV, condM_t, chk_true, chk_nil, List.append_assoc, List.cons_append, List.nil_append, List.append_nil, List.length_append, List.length_cons, List.length_nil]
      | cons x r =>
        have hr := hR x (by simp)
        simp only [pr.stmtB, pr.agE, pr.retT, List.map_cons, ↓reduceIte, Int.reduceEq, List.length_append, List.length_cons, List.length_nil] at hw
        simp only [↓reduceIte, Int.reduceBEq, Bool.false_eq_true, blockS_ll, blockS_lr, bindS_l, bindS_r]
        have hd : decide (Int.ofNat (x :: r).length > 0) = true := by simp
        have hi : inb 0 (x :: r).length = true := by simp [inb]
        have hg : (x :: r).getD (Int.toNat 0) default = x := rfl
        rw [put_eq _ _ _ (by simp only [List.length_cons, List.length_nil]; omega), Option.bind_some, hd, hi, hg]
        simp only [letV, ↓reduceIte, chk_true, chk_nil]
        rw [hr _ (by simp only [List.length_append, List.length_cons, List.length_nil]; omega)]
        simp (disch := (first | assumption | ((try simp only [List.length_append, List.length_cons, List.length_nil]); omega))) only [pr.stmtB, pr.agE, pr.retT, List.map_cons, ↓reduceIte, Int.reduceEq, put_eq, Option.bind_some, bindS_r, bindS_l, blockS_r, blockS_ll, blockS_lr, fnS_r, fnS_l, letV, condM_t, chk_true, chk_nil, List.append_assoc, List.cons_append, List.nil_append, List.append_nil, List.length_append, List.length_cons, List.length_nil]
    by_cases h10 : k = 10
    · subst h10
      simp only [pr.stmtB, ↓reduceIte, Int.reduceEq, List.length_append, List.length_cons, List.length_nil] at hw
      simp only [↓reduceIte, Int.reduceBEq, Bool.false_eq_true, blockS_ll, blockS_lr, bindS_l, bindS_r]
      simp (disch := (first | assumption | ((try simp only [List.length_append, List.length_cons, List.length_nil]); omega))) only [pr.stmtB, ↓reduceIte, Int.reduceEq, hA0, hA1, hB0, hIf, hCa, number_eq, put_eq, Option.bind_some, bindS_r, bindS_l, blockS_r, blockS_ll, blockS_lr, fnS_r, fnS_l, letV, condM_t, chk_true, chk_nil, List.append_assoc, List.cons_append, List.nil_append, List.append_nil, List.length_append, List.length_cons, List.length_nil]
    by_cases h11 : k = 11
    · subst h11
      simp only [pr.stmtB, ↓reduceIte, Int.reduceEq, List.length_append, List.length_cons, List.length_nil] at hw
      simp only [↓reduceIte, Int.reduceBEq, Bool.false_eq_true, blockS_ll, blockS_lr, bindS_l, bindS_r]
      simp (disch := (first | assumption | ((try simp only [List.length_append, List.length_cons, List.length_nil]); omega))) only [pr.stmtB, ↓reduceIte, Int.reduceEq, hA0, hA1, hB0, hIf, hCa, number_eq, put_eq, Option.bind_some, bindS_r, bindS_l, blockS_r, blockS_ll, blockS_lr, fnS_r, fnS_l, letV, condM_t, chk_true, chk_nil, List.append_assoc, List.cons_append, List.nil_append, List.append_nil, List.length_append, List.length_cons, List.length_nil]
    simp only [pr.stmtB, h1, h2, h3, h4, h5, h6, h7, h8, h9, h10, h11, ↓reduceIte, List.length_append, List.length_cons, List.length_nil] at hw
    simp only [h1, h2, h3, h4, h5, h6, h7, h8, h9, h10, h11, beq_iff_eq, ↓reduceIte, blockS_ll, blockS_lr, bindS_l, bindS_r]
    simp (disch := (first | assumption | ((try simp only [List.length_append, List.length_cons, List.length_nil]); omega))) only [pr.stmtB, h1, h2, h3, h4, h5, h6, h7, h8, h9, h10, h11, ↓reduceIte, put_eq, Option.bind_some, bindS_r, bindS_l, blockS_r, blockS_ll, blockS_lr, fnS_r, fnS_l, letV, condM_t, chk_true, chk_nil, List.append_assoc, List.cons_append, List.nil_append, List.append_nil, List.length_append, List.length_cons, List.length_nil]

/-- All that is asked of statements. -/
theorem stsl_eq (K : Nat) (l : List S43) (w : List Bytes) (ho : pr.okSl l) (hb : pr.szSl l ≤ 10000000) (hK : 5 * pr.szSl l + 70 ≤ K) (hw : w.length + (pr.stsT l).length ≤ 1000000000) : fnS (F35 K (⟨w⟩ : S62) l) = some ⟨w ++ pr.stsT l⟩ := by
  obtain ⟨K, rfl⟩ : ∃ j, K = j + 1 := ⟨K - 1, by omega⟩
  have := pr.szSl_len l
  exact sts_eq K w l (fun x hx w hw => stmt_eq (pr.szSl l) K x w (pr.szSl_mem _ x hx) (by omega) (by omega) (pr.okSl_mem _ ho x hx) hw) (by omega) (by omega) hw
end Go.Proofs.YtaoklnkjcobokaaDoor

set_option linter.unusedVariables false
set_option linter.unusedSimpArgs false
set_option linter.unusedSectionVars false
namespace Go.Proofs.YtaoklnkjcobokaaDoor
open Go Go.Proofs Go.Dl
set_option maxRecDepth 100000

theorem face_eq (K : Nat) (hK : 20000000 ≤ K) (w : List Bytes) (d : S48) (ho : pr.okD d) (hf : pr.fitD d) (hk : d.fKind = 1) (hw : w.length + (pr.declT d).length ≤ 1000000000) : fnS (F31 K (⟨w⟩ : S62) d) = some ⟨w ++ pr.declT d⟩ := by
  obtain ⟨o1, o2, o3, o4, o5⟩ := ho
  obtain ⟨f1, f2, f3, f4, f5⟩ := hf
  unfold pr.declT at hw ⊢
  rw [if_pos hk] at hw ⊢
  unfold F31
  dsimp only
  simp only [List.length_append, List.length_cons, List.length_nil] at hw
  rw [put_eq _ _ _ (by simp only [List.length_cons, List.length_nil]; omega)]
  simp only [Option.bind_some]
  have hT : (w ++ [[73, 78, 84, 69, 82, 70, 65, 67, 69], d.fName, [59]]).length + (pr.gat (fun _ m => pr.faceT m) 0 d.fMethods).length ≤ 1000000000 := by simp only [List.length_append, List.length_cons, List.length_nil]; omega
  rw [pr.iter_gat Sum.inl d.fMethods (fun _ m => pr.faceT m) 1000000000 (by omega) hT]
  rotate_left
  · intro i hi v hv
    have hm := pr.getD_mem (l := d.fMethods) hi
    have h1 := pr.lt_dec hi
    have h2 := inb_nat hi
    have h3 := pr.wrap_succ (i := i) (by omega)
    rw [Int.toNat_natCast]
    have hh := head_eq K (v ++ [[77, 69, 84, 72, 79, 68]]) _ (o2 _ hm) (by have := (f5 _ hm).1; omega) (by have := (f5 _ hm).1; omega)
    simp only [pr.faceT, List.length_append, List.length_cons, List.length_nil] at hv hh
    simp only [h1, h2, h3, letV, chk_true, chk_nil, ↓reduceIte]
    rw [put_eq _ _ _ (by simp only [List.length_cons, List.length_nil]; omega), Option.bind_some, hh (by omega)]
    simp only [pr.faceT, put_eq, Option.bind_some, bindS_r, bindS_l, blockS_r, blockS_ll, blockS_lr, fnS_r, fnS_l, letV, condM_t, chk_true, chk_nil, List.append_assoc, List.cons_append, List.nil_append, List.append_nil, List.length_append, List.length_cons, List.length_nil]
  · intro v
    simp only [pr.lt_dec0, letV, Bool.false_eq_true, ↓reduceIte]
  simp only [Option.map_some, blockS_ll, bindS_r]
  rw [put_eq _ _ _ (by simp only [List.length_append, List.length_cons, List.length_nil]; omega)]
  simp only [put_eq, Option.bind_some, bindS_r, bindS_l, blockS_r, blockS_ll, blockS_lr, fnS_r, fnS_l, letV, condM_t, chk_true, chk_nil, List.append_assoc, List.cons_append, List.nil_append, List.append_nil, List.length_append, List.length_cons, List.length_nil]

theorem meth_eq (K : Nat) (hK : 20000000 ≤ K) (w : List Bytes) (m : S54) (ho : pr.okM m) (hf : pr.fitM m) (hw : w.length + (pr.methT m).length ≤ 1000000000) :
    ((fnS (F33 K (⟨w⟩ : S62) [([77, 69, 84, 72, 79, 68] : Bytes)])).bind (fun r0 => (fnS (F50 K (⟨r0.fl⟩ : S62) m.fOver ([79, 86, 69, 82, 82, 73, 68, 69] : Bytes))).bind (fun r1 => (fnS (F50 K (⟨r1.fl⟩ : S62) m.fAbstract ([65, 66, 83, 84, 82, 65, 67, 84] : Bytes))).bind (fun r2 => (fnS (F50 K (⟨r2.fl⟩ : S62) m.fFinal ([70, 73, 78, 65, 76] : Bytes))).bind (fun r3 => (fnS (F49 K (⟨r3.fl⟩ : S62) m)).bind (fun r4 => (fnS (F34 K (⟨r4.fl⟩ : S62) m.fVars)).bind (fun r5 => (fnS (F35 K (⟨r5.fl⟩ : S62) m.fBody)).bind (fun r6 => fnS (F33 K (⟨r6.fl⟩ : S62) [([69, 78, 68, 95, 77, 69, 84, 72, 79, 68] : Bytes)]))))))))) = some ⟨w ++ pr.methT m⟩ := by
  have ho' := ho
  obtain ⟨o1, o2, o3, o4⟩ := ho
  obtain ⟨f1, f2, f3⟩ := hf
  simp only [pr.methT, List.length_append, List.length_cons, List.length_nil] at hw
  rw [put_eq _ _ _ (by simp only [List.length_cons, List.length_nil]; omega), Option.bind_some, flag_eq _ _ _ _ (by simp only [List.length_append, List.length_cons, List.length_nil]; omega), Option.bind_some, flag_eq _ _ _ _ (by simp only [List.length_append, List.length_cons, List.length_nil]; omega), Option.bind_some, flag_eq _ _ _ _ (by simp only [List.length_append, List.length_cons, List.length_nil]; omega), Option.bind_some,
    head_eq K _ m ho' (by omega) (by omega) (by simp only [List.length_append, List.length_cons, List.length_nil]; omega), Option.bind_some, vars_eq K _ _ o3 (by omega) (by omega) (by simp only [List.length_append, List.length_cons, List.length_nil]; omega), Option.bind_some, stsl_eq K _ _ o4 (by omega) (by omega) (by simp only [List.length_append, List.length_cons, List.length_nil]; omega), Option.bind_some, put_eq _ _ _ (by simp only [List.length_append, List.length_cons, List.length_nil]; omega)]
  simp only [pr.methT, List.append_assoc]

theorem bind_assoc' {A B C : Type} (m : Option A) (f : A → Option B) (g : B → Option C) : m.bind (fun x => (f x).bind g) = (m.bind f).bind g := by cases m <;> rfl

theorem class_eq (K : Nat) (hK : 20000000 ≤ K) (w : List Bytes) (d : S48) (ho : pr.okD d) (hf : pr.fitD d) (hk : d.fKind = 2) (hw : w.length + (pr.declT d).length ≤ 1000000000) : fnS (F32 K (⟨w⟩ : S62) d) = some ⟨w ++ pr.declT d⟩ := by
  obtain ⟨o1, o2, o3, o4, o5⟩ := ho
  obtain ⟨f1, f2, f3, f4, f5⟩ := hf
  unfold pr.declT at hw ⊢
  rw [if_neg (by omega), if_pos hk] at hw ⊢
  unfold F32
  dsimp only
  simp only [List.length_append, List.length_cons, List.length_nil] at hw
  rw [put_eq _ _ _ (by simp only [List.length_cons, List.length_nil]; omega), Option.bind_some, flag_eq _ _ _ _ (by simp only [List.length_append, List.length_cons, List.length_nil]; omega), Option.bind_some, flag_eq _ _ _ _ (by simp only [List.length_append, List.length_cons, List.length_nil]; omega), Option.bind_some, put_eq _ _ _ (by simp only [List.length_append, List.length_cons, List.length_nil]; omega), Option.bind_some]
  have hbase : ∀ {A : Type} (w : List Bytes), w.length + (if d.fBase = [] then [] else [[69, 88, 84, 69, 78, 68, 83], d.fBase] : List Bytes).length ≤ 1000000000 → (if (!(d.fBase == ([] : Bytes))) = true then ((fnS (F33 K (⟨w⟩ : S62) [([69, 88, 84, 69, 78, 68, 83] : Bytes), d.fBase])).bind (fun r7 => (some (.inr (r7.fl)) : Option (A ⊕ List Bytes)))) else (some (.inr w))) = some (.inr (w ++ (if d.fBase = [] then [] else [[69, 88, 84, 69, 78, 68, 83], d.fBase]))) := by
    intro A w hw
    by_cases c : d.fBase = []
    · simp [c]
    · rw [if_neg c] at hw ⊢
      rw [if_pos (by simp [c]), put_eq _ _ _ hw, Option.bind_some]
  dsimp only
  rw [hbase _ (by simp only [List.length_append, List.length_cons, List.length_nil]; omega), bindS_r]
  generalize hbs : (if d.fBase = [] then [] else [[69, 88, 84, 69, 78, 68, 83], d.fBase] : List Bytes) = bs at hw ⊢
  have hT : (w ++ [[67, 76, 65, 83, 83]] ++ pr.flag d.fAbstract [65, 66, 83, 84, 82, 65, 67, 84] ++ pr.flag d.fFinal [70, 73, 78, 65, 76] ++ [d.fName] ++ bs).length + (pr.gat pr.impT 0 d.fFaces).length ≤ 1000000000 := by simp only [List.length_append, List.length_cons, List.length_nil]; omega
  rw [pr.iter_gat Sum.inl d.fFaces pr.impT 1000000000 (by omega) hT]
  rotate_left
  · intro i hi v hv
    have hm := pr.getD_mem (l := d.fFaces) hi
    have h1 := pr.lt_dec hi
    have h2 := inb_nat hi
    have h3 := pr.wrap_succ (i := i) (by omega)
    have h4 : pr.named (IntKind.i64.wrap ((if (1 : Int) < (i : Int) then 1 else (i : Int)) + 1)) [[73, 77, 80, 76, 69, 77, 69, 78, 84, 83], [44]] = if i = 0 then [73, 77, 80, 76, 69, 77, 69, 78, 84, 83] else [44] := by
      by_cases c : i = 0
      · subst c; rfl
      · have : (if (1 : Int) < (i : Int) then 1 else (i : Int)) = 1 := by by_cases e : (1 : Int) < (i : Int) <;> simp [e]; omega
        rw [this, if_neg c]; rfl
    rw [Int.toNat_natCast]
    simp only [pr.impT, List.length_append, List.length_cons, List.length_nil] at hv
    simp only [h1, h2, h3, letV, chk_true, chk_nil, ↓reduceIte, condM_t]
    rw [named_eq _ _ _ (by simp), h4, Option.bind_some, put_eq _ _ _ (by simp only [List.length_cons, List.length_nil]; omega)]
    simp only [pr.impT, put_eq, Option.bind_some, bindS_r, bindS_l, blockS_r, blockS_ll, blockS_lr, fnS_r, fnS_l, letV, condM_t, chk_true, chk_nil, List.append_assoc, List.cons_append, List.nil_append, List.append_nil, List.length_append, List.length_cons, List.length_nil]
  · intro v
    simp only [pr.lt_dec0, letV, Bool.false_eq_true, ↓reduceIte]
  simp only [Option.map_some, blockS_ll, bindS_r]
  rw [put_eq _ _ _ (by simp only [List.length_append, List.length_cons, List.length_nil]; omega), Option.bind_some, vars_eq K _ _ o1 (by omega) (by omega) (by simp only [List.length_append, List.length_cons, List.length_nil]; omega), Option.bind_some]
  dsimp only
  have hT : (w ++ [[67, 76, 65, 83, 83]] ++ pr.flag d.fAbstract [65, 66, 83, 84, 82, 65, 67, 84] ++ pr.flag d.fFinal [70, 73, 78, 65, 76] ++ [d.fName] ++ bs ++ pr.gat pr.impT 0 d.fFaces ++ [[59]] ++ pr.varsT d.fVars).length + (pr.gat (fun _ m => pr.methT m) 0 d.fMethods).length ≤ 1000000000 := by simp only [List.length_append, List.length_cons, List.length_nil]; omega
  rw [pr.iter_gat Sum.inl d.fMethods (fun _ m => pr.methT m) 1000000000 (by omega) hT]
  rotate_left
  · intro i hi v hv
    have hm := pr.getD_mem (l := d.fMethods) hi
    have h1 := pr.lt_dec hi
    have h2 := inb_nat hi
    have h3 := pr.wrap_succ (i := i) (by omega)
    rw [Int.toNat_natCast]
    have hh := meth_eq K hK v _ (o2 _ hm) (f5 _ hm) hv
    simp only [h1, h2, h3, letV, chk_true, chk_nil, ↓reduceIte]
    simp only [bind_assoc'] at hh ⊢
    rw [hh]
    simp only [put_eq, Option.bind_some, bindS_r, bindS_l, blockS_r, blockS_ll, blockS_lr, fnS_r, fnS_l, letV, condM_t, chk_true, chk_nil, List.append_assoc, List.cons_append, List.nil_append, List.append_nil, List.length_append, List.length_cons, List.length_nil]
  · intro v
    simp only [pr.lt_dec0, letV, Bool.false_eq_true, ↓reduceIte]
  simp only [Option.map_some, blockS_ll, bindS_r]
  rw [put_eq _ _ _ (by simp only [List.length_append, List.length_cons, List.length_nil]; omega)]
  simp only [put_eq, Option.bind_some, bindS_r, bindS_l, blockS_r, blockS_ll, blockS_lr, fnS_r, fnS_l, letV, condM_t, chk_true, chk_nil, List.append_assoc, List.cons_append, List.nil_append, List.append_nil, List.length_append, List.length_cons, List.length_nil]

theorem decl_eq (K : Nat) (hK : 20000000 ≤ K) (w : List Bytes) (d : S48) (ho : pr.okD d) (hf : pr.fitD d) (hw : w.length + (pr.declT d).length ≤ 1000000000) : fnS (F18 K (⟨w⟩ : S62) d) = some ⟨w ++ pr.declT d⟩ := by
  unfold F18
  dsimp only
  by_cases h1 : d.fKind = 1
  · rw [h1]
    simp only [Int.reduceBEq, ↓reduceIte]
    rw [face_eq K hK w d ho hf h1 hw]
    simp only [put_eq, Option.bind_some, bindS_r, bindS_l, blockS_r, blockS_ll, blockS_lr, fnS_r, fnS_l, letV, condM_t, chk_true, chk_nil, List.append_assoc, List.cons_append, List.nil_append, List.append_nil, List.length_append, List.length_cons, List.length_nil]
  by_cases h2 : d.fKind = 2
  · rw [h2]
    simp only [Int.reduceBEq, ↓reduceIte, Bool.false_eq_true]
    rw [class_eq K hK w d ho hf h2 hw]
    simp only [put_eq, Option.bind_some, bindS_r, bindS_l, blockS_r, blockS_ll, blockS_lr, fnS_r, fnS_l, letV, condM_t, chk_true, chk_nil, List.append_assoc, List.cons_append, List.nil_append, List.append_nil, List.length_append, List.length_cons, List.length_nil]
  obtain ⟨o1, o2, o3, o4, o5⟩ := ho
  obtain ⟨f1, f2, f3, f4, f5⟩ := hf
  unfold pr.declT at hw ⊢
  rw [if_neg h1, if_neg h2] at hw ⊢
  have b1 : (d.fKind == 1) = false := by simpa using h1
  have b2 : (d.fKind == 2) = false := by simpa using h2
  rw [b1, b2]
  by_cases h3 : d.fKind = 3
  · rw [h3]
    rw [if_pos h3] at hw
    simp only [Int.reduceBEq, ↓reduceIte, Bool.false_eq_true]
    simp only [List.length_append, List.length_cons, List.length_nil] at hw
    rw [put_eq _ _ _ (by simp only [List.length_cons, List.length_nil]; omega), Option.bind_some, vars_eq K _ _ o1 (by omega) (by omega) (by simp only [List.length_append, List.length_cons, List.length_nil]; omega), Option.bind_some, stsl_eq K _ _ o3 (by omega) (by omega) (by simp only [List.length_append, List.length_cons, List.length_nil]; omega), Option.bind_some, put_eq _ _ _ (by simp only [List.length_append, List.length_cons, List.length_nil]; omega)]
    simp only [put_eq, Option.bind_some, bindS_r, bindS_l, blockS_r, blockS_ll, blockS_lr, fnS_r, fnS_l, letV, condM_t, chk_true, chk_nil, List.append_assoc, List.cons_append, List.nil_append, List.append_nil, List.length_append, List.length_cons, List.length_nil]
  by_cases h4 : d.fKind = 4
  · rw [h4]
    rw [if_neg h3, if_pos h4] at hw
    simp only [Int.reduceBEq, ↓reduceIte, Bool.false_eq_true, Int.reduceEq]
    simp only [List.length_append, List.length_cons, List.length_nil] at hw
    simp (disch := (first | assumption | ((try simp only [List.length_append, List.length_cons, List.length_nil]); omega))) only [number_eq, put_eq, Option.bind_some, bindS_r, bindS_l, blockS_r, blockS_ll, blockS_lr, fnS_r, fnS_l, letV, condM_t, chk_true, chk_nil, List.append_assoc, List.cons_append, List.nil_append, List.append_nil, List.length_append, List.length_cons, List.length_nil]
  have b3 : (d.fKind == 3) = false := by simpa using h3
  have b4 : (d.fKind == 4) = false := by simpa using h4
  rw [b3, b4, if_neg h3, if_neg h4]
  rw [if_neg h3, if_neg h4] at hw
  simp only [Bool.false_eq_true, ↓reduceIte]
  rw [put_eq _ _ _ hw]
  simp only [put_eq, Option.bind_some, bindS_r, bindS_l, blockS_r, blockS_ll, blockS_lr, fnS_r, fnS_l, letV, condM_t, chk_true, chk_nil, List.append_assoc, List.cons_append, List.nil_append, List.append_nil, List.length_append, List.length_cons, List.length_nil]
end Go.Proofs.YtaoklnkjcobokaaDoor
