/- What the document writes of types and expressions. What the document writes of expressions. What the document writes of statements. No conditions. -/
import Derived.Test.YtaoklnkjcobokaaDoorPA
set_option linter.unusedVariables false
set_option linter.unusedSimpArgs false
set_option linter.unusedSectionVars false
namespace Go.Proofs.YtaoklnkjcobokaaDoor
open Go Go.Proofs Go.Dl
set_option maxRecDepth 100000
open pr (B J)

theorem J_of {x : Bytes} {t : List Bytes} (h : x ++ [32] = B t) : x = J t := pr.Txt.join h
theorem J_txt {t : List Bytes} (h : t ≠ []) : J t ++ [32] = B t := pr.B_join t h
theorem J_app {t : List Bytes} (h : t ≠ []) (y : Bytes) : J t ++ 32 :: y = B t ++ y := pr.Txt.app (J_txt h) y
theorem J_len {t : List Bytes} (h : t ≠ []) : (J t).length + 1 = (B t).length := by
  rw [← J_txt h]; simp
theorem B_len (t : List Bytes) : t.length ≤ (B t).length := by
  induction t with
  | nil => simp
  | cons x r ih => rw [pr.B_cons]; simp; omega

theorem numT_ne (n : Int) : numT n ≠ [] := by unfold numT; split <;> simp
theorem tyT_ne (t : S29) : pr.tyT t ≠ [] := by 
  unfold pr.tyT
  repeat' split
  all_goals simp
theorem app_ne {X : Type} {a b : List X} (h : a ≠ [] ∨ b ≠ []) : a ++ b ≠ [] := by
  rcases h with h | h <;> simp [h]
theorem atT_ne {l : List (Int × List Bytes)} (h : ∀ p ∈ l, p.2 ≠ []) (i : Nat) : pr.atT l i ≠ [] := by
  unfold pr.atT
  cases e : l[i]? with
  | none => simp
  | some p => exact h p (List.mem_of_getElem? e)
theorem opdT_ne {l : List (Int × List Bytes)} (h : ∀ p ∈ l, p.2 ≠ []) (i : Nat) : pr.opdT l i ≠ [] := by
  unfold pr.opdT
  cases e : l[i]? with
  | none => simp
  | some p =>
    have := h p (List.mem_of_getElem? e)
    dsimp only
    split <;> simp [this]
theorem ite_ne {X : Type} {c : Prop} [Decidable c] {a b : List X} (ha : a ≠ []) (hb : b ≠ []) : (if c then a else b) ≠ [] := by by_cases h : c <;> simp [h, ha, hb]
theorem exprT_ne (k n : Int) (nm wh : Bytes) (l : List (Int × List Bytes)) (h : ∀ p ∈ l, p.2 ≠ []) : pr.exprT k n nm wh l ≠ [] := by
  have h1 := numT_ne n
  have h2 := opdT_ne h 0
  unfold pr.exprT
  repeat' refine ite_ne ?_ ?_
  all_goals first | exact h1 | (intro hc; simp at hc)
theorem tkE_ne : ∀ (n : Nat) (e : S27), pr.sz e ≤ n → pr.tkE e ≠ []
  | 0, e, h => by have := pr.sz_eq e; omega
  | n + 1, e, h => by
    have := pr.sz_eq e
    rw [pr.tkE_eq]
    refine exprT_ne _ _ _ _ _ ?_
    intro p hp
    obtain ⟨x, hx, rfl⟩ := List.mem_map.1 hp
    exact tkE_ne n x (by have := pr.szl_mem _ x hx; omega)
theorem tk_ne (e : S27) : pr.tkE e ≠ [] := tkE_ne _ e (Nat.le_refl _)
theorem ag_ne (l : List S27) : ∀ p ∈ pr.agE l, p.2 ≠ [] := by
  intro p hp
  obtain ⟨x, hx, rfl⟩ := List.mem_map.1 hp
  exact tk_ne x

theorem named_doc (n : Int) (l : List Bytes) : (if n < 1 ∨ ((l.length : Int) + 1) ≤ n then ([63] : Bytes) else ([] :: l).getD n.toNat default) = pr.named n l := by
  unfold pr.named
  by_cases h : n < 1 ∨ (l.length : Int) < n
  · rw [if_pos h, if_pos (by omega)]
  · rw [if_neg h, if_neg (by omega)]
    obtain ⟨m, rfl⟩ : ∃ m : Nat, n = ((m + 1 : Nat) : Int) := ⟨(n - 1).toNat, by omega⟩
    have : (((m + 1 : Nat) : Int) - 1).toNat = m := by omega
    rw [this, Int.toNat_natCast]
    rfl
theorem name_eq (K : Nat) (n : Int) (l : List Bytes) : fnS (F30 K ([] :: l) n) = some (pr.named n l) := by
  rw [← named_doc]
  unfold F30
  simp only [letV]
  by_cases h : n < 1 ∨ ((l.length : Int) + 1) ≤ n
  · rw [if_pos (by simp; omega), if_pos h]; rfl
  · have hi : inb n ([] :: l).length = true := by simp [inb]; omega
    rw [if_neg (by simp; omega), if_neg h, chk_t (vs := []) hi, chk_nil]; rfl

theorem numB_len {n : Int} (h : I64 n) : (B (numT n)).length ≤ 25 := by
  obtain ⟨h1, h2⟩ := h
  unfold numT
  split
  · have := dec_len (n := n.natAbs) (by omega)
    simp only [pr.B_cons, pr.B_nil, List.length_append, List.length_cons, List.length_nil]; omega
  · have := dec_len (n := n.toNat) (by omega)
    simp only [pr.B_cons, pr.B_nil, List.length_append, List.length_cons, List.length_nil]; omega

theorem dtyp_eq (K : Nat) (t : S29) (hK : 30 < K) (hlo : I64 t.fLo) (hhi : I64 t.fHi) (hw : (B (pr.tyT t)).length ≤ 1000000000) : fnS (F13 K t) = some (J (pr.tyT t)) := by
  obtain ⟨k, lo, hi, nm⟩ := t
  dsimp only at hlo hhi
  have e1 := decimal_eq K lo hK hlo
  have e2 := decimal_eq K hi hK hhi
  have l1 : (J (numT lo)).length ≤ 100 := by
    have := J_len (numT_ne lo)
    have := numB_len hlo
    omega
  have l2 : (J (numT hi)).length ≤ 100 := by
    have := J_len (numT_ne hi)
    have := numB_len hhi
    omega
  have n1 := J_app (numT_ne lo)
  have n2 := J_app (numT_ne hi)
  have e7 := name_eq K lo pr.timers
  unfold pr.timers at e7
  unfold F13
  change fnS (F24 K lo) = some (J (numT lo)) at e1
  change fnS (F24 K hi) = some (J (numT hi)) at e2
  by_cases h1 : k = 1
  · subst h1
    simp only [pr.tyT, ↓reduceIte, Int.reduceEq, pr.B_app, pr.B_cons, pr.B_nil, List.length_append, List.length_cons, List.length_nil] at hw
    simp (disch := (first | assumption | ((try simp only [List.length_append, List.length_cons, List.length_nil]); omega))) only [pr.tyT, ↓reduceIte, Int.reduceBEq, Int.reduceEq, Bool.false_eq_true, e1, e2, e7, room_le, chk_true, Option.bind_some, bindS_r, bindS_l, blockS_r, blockS_ll, blockS_lr, fnS_r, fnS_l, letV, condM_t, chk_nil]
    refine congrArg some (J_of ?_)
    simp only [pr.timers, pr.B_app, pr.B_cons, pr.B_nil, n1, n2, List.append_assoc, List.cons_append, List.nil_append]
  by_cases h2 : k = 2
  · subst h2
    simp only [pr.tyT, ↓reduceIte, Int.reduceEq, pr.B_app, pr.B_cons, pr.B_nil, List.length_append, List.length_cons, List.length_nil] at hw
    simp (disch := (first | assumption | ((try simp only [List.length_append, List.length_cons, List.length_nil]); omega))) only [pr.tyT, ↓reduceIte, Int.reduceBEq, Int.reduceEq, Bool.false_eq_true, e1, e2, e7, room_le, chk_true, Option.bind_some, bindS_r, bindS_l, blockS_r, blockS_ll, blockS_lr, fnS_r, fnS_l, letV, condM_t, chk_nil]
    refine congrArg some (J_of ?_)
    simp only [pr.timers, pr.B_app, pr.B_cons, pr.B_nil, n1, n2, List.append_assoc, List.cons_append, List.nil_append]
  by_cases h3 : k = 3
  · subst h3
    simp only [pr.tyT, ↓reduceIte, Int.reduceEq, pr.B_app, pr.B_cons, pr.B_nil, List.length_append, List.length_cons, List.length_nil] at hw
    simp (disch := (first | assumption | ((try simp only [List.length_append, List.length_cons, List.length_nil]); omega))) only [pr.tyT, ↓reduceIte, Int.reduceBEq, Int.reduceEq, Bool.false_eq_true, e1, e2, e7, room_le, chk_true, Option.bind_some, bindS_r, bindS_l, blockS_r, blockS_ll, blockS_lr, fnS_r, fnS_l, letV, condM_t, chk_nil]
    refine congrArg some (J_of ?_)
    simp only [pr.timers, pr.B_app, pr.B_cons, pr.B_nil, n1, n2, List.append_assoc, List.cons_append, List.nil_append]
  by_cases h4 : k = 4
  · subst h4
    simp only [pr.tyT, ↓reduceIte, Int.reduceEq, pr.B_app, pr.B_cons, pr.B_nil, List.length_append, List.length_cons, List.length_nil] at hw
    simp (disch := (first | assumption | ((try simp only [List.length_append, List.length_cons, List.length_nil]); omega))) only [pr.tyT, ↓reduceIte, Int.reduceBEq, Int.reduceEq, Bool.false_eq_true, e1, e2, e7, room_le, chk_true, Option.bind_some, bindS_r, bindS_l, blockS_r, blockS_ll, blockS_lr, fnS_r, fnS_l, letV, condM_t, chk_nil]
    refine congrArg some (J_of ?_)
    simp only [pr.timers, pr.B_app, pr.B_cons, pr.B_nil, n1, n2, List.append_assoc, List.cons_append, List.nil_append]
  by_cases h5 : k = 5
  · subst h5
    simp only [pr.tyT, ↓reduceIte, Int.reduceEq, pr.B_app, pr.B_cons, pr.B_nil, List.length_append, List.length_cons, List.length_nil] at hw
    simp (disch := (first | assumption | ((try simp only [List.length_append, List.length_cons, List.length_nil]); omega))) only [pr.tyT, ↓reduceIte, Int.reduceBEq, Int.reduceEq, Bool.false_eq_true, e1, e2, e7, room_le, chk_true, Option.bind_some, bindS_r, bindS_l, blockS_r, blockS_ll, blockS_lr, fnS_r, fnS_l, letV, condM_t, chk_nil]
    refine congrArg some (J_of ?_)
    simp only [pr.timers, pr.B_app, pr.B_cons, pr.B_nil, n1, n2, List.append_assoc, List.cons_append, List.nil_append]
  by_cases h6 : k = 6
  · subst h6
    simp only [pr.tyT, ↓reduceIte, Int.reduceEq, pr.B_app, pr.B_cons, pr.B_nil, List.length_append, List.length_cons, List.length_nil] at hw
    simp (disch := (first | assumption | ((try simp only [List.length_append, List.length_cons, List.length_nil]); omega))) only [pr.tyT, ↓reduceIte, Int.reduceBEq, Int.reduceEq, Bool.false_eq_true, e1, e2, e7, room_le, chk_true, Option.bind_some, bindS_r, bindS_l, blockS_r, blockS_ll, blockS_lr, fnS_r, fnS_l, letV, condM_t, chk_nil]
    refine congrArg some (J_of ?_)
    simp only [pr.timers, pr.B_app, pr.B_cons, pr.B_nil, n1, n2, List.append_assoc, List.cons_append, List.nil_append]
  by_cases h7 : k = 7
  · subst h7
    simp only [pr.tyT, ↓reduceIte, Int.reduceEq, pr.B_app, pr.B_cons, pr.B_nil, List.length_append, List.length_cons, List.length_nil] at hw
    simp (disch := (first | assumption | ((try simp only [List.length_append, List.length_cons, List.length_nil]); omega))) only [pr.tyT, ↓reduceIte, Int.reduceBEq, Int.reduceEq, Bool.false_eq_true, e1, e2, e7, room_le, chk_true, Option.bind_some, bindS_r, bindS_l, blockS_r, blockS_ll, blockS_lr, fnS_r, fnS_l, letV, condM_t, chk_nil]
    refine congrArg some (J_of ?_)
    simp only [pr.timers, pr.B_app, pr.B_cons, pr.B_nil, n1, n2, List.append_assoc, List.cons_append, List.nil_append]
  simp only [beq_iff_eq, h1, h2, h3, h4, h5, h6, h7, ↓reduceIte, blockS_r, bindS_r, fnS_l, pr.tyT]
  rfl
end Go.Proofs.YtaoklnkjcobokaaDoor

set_option linter.unusedVariables false
set_option linter.unusedSimpArgs false
set_option linter.unusedSectionVars false
namespace Go.Proofs.YtaoklnkjcobokaaDoor
open Go Go.Proofs Go.Dl
set_option maxRecDepth 100000
open pr (B J)

theorem B_gat {X : Type} (g : Nat → X → List Bytes) : ∀ (l : List X) (n : Nat), B (pr.gat g n l) = pr.gat (fun i x => B (g i x)) n l
  | [], _ => rfl
  | x :: r, n => by
    simp only [pr.gat, pr.B_app]
    rw [B_gat g r (n + 1)]

def HD (K : Nat) (l : List S27) : Prop := ∀ x ∈ l, (B (pr.tkE x)).length ≤ 1000000000 → fnS (F11 K x) = some (J (pr.tkE x))

theorem J_q : J [[63]] = [63] := by simp [J, Lib.join, List.intercalate]

theorem dat_eq (K : Nat) (l : List S27) (H : HD K l) (i : Nat) (hw : (B (pr.atT (pr.agE l) i)).length ≤ 1000000000) : fnS (F25 (K + 1) l (i : Int)) = some (J (pr.atT (pr.agE l) i)) := by
  rw [F25]
  simp only [letV]
  by_cases h : l.length ≤ i
  · rw [at_none (by rw [agE_len]; exact h)] at hw ⊢
    rw [if_pos (by simp; omega), J_q]; rfl
  · rw [at_some (by omega)] at hw ⊢
    rw [if_neg (by simp; omega), chk_t (vs := []) (inb_nat (by omega)), chk_nil, Int.toNat_natCast, H _ (pr.getD_mem (by omega)) hw]; rfl

theorem dopd_eq (K : Nat) (l : List S27) (H : HD K l) (i : Nat) (hw : (B (pr.opdT (pr.agE l) i)).length ≤ 1000000000) : fnS (F26 (K + 2) l (i : Int)) = some (J (pr.opdT (pr.agE l) i)) := by
  rw [F26]
  simp only [letV]
  by_cases h : l.length ≤ i
  · have e : pr.opdT (pr.agE l) i = pr.atT (pr.agE l) i := by rw [opd_none (by rw [agE_len]; exact h), at_none (by rw [agE_len]; exact h)]
    have h1 : decide ((i : Int) < Int.ofNat l.length) = false := by simp; omega
    rw [e] at hw ⊢
    rw [dat_eq K l H i hw]
    simp only [h1, Option.bind_some, Bool.not_false, Bool.true_or, Bool.and_false, Bool.false_and, Bool.false_eq_true, ↓reduceIte, chk_true, chk_nil, fnS_l]
  · have e : pr.atT (pr.agE l) i = pr.tkE (l.getD i default) := at_some (by omega)
    have hm := H _ (pr.getD_mem (l := l) (i := i) (by omega))
    have h1 := pr.lt_dec (i := i) (n := l.length) (by omega)
    have h2 : inb (i : Int) l.length = true := inb_nat (by omega)
    have hne := tk_ne (l.getD i default)
    rw [opd_some (by omega)] at hw ⊢
    have hB : (B (pr.tkE (l.getD i default))).length ≤ 1000000000 := by
      by_cases hk : (l.getD i default).fKind = 7 ∨ (l.getD i default).fKind = 8 ∨ (l.getD i default).fKind = 9
      · rw [if_pos hk] at hw
        simp only [pr.B_app, pr.B_cons, pr.B_nil, List.length_append, List.length_cons, List.length_nil] at hw; omega
      · rw [if_neg hk] at hw; exact hw
    rw [dat_eq K l H i (by rw [e]; exact hB), e, Option.bind_some, Int.toNat_natCast]
    simp only [h1, h2, Bool.not_true, Bool.or_true, chk_true, chk_nil, Bool.true_and]
    have jl := J_len hne
    have n1 := J_app hne
    generalize l.getD i default = x at hw hB jl n1 ⊢
    by_cases hk : x.fKind = 7 ∨ x.fKind = 8 ∨ x.fKind = 9
    · have hk' : ((x.fKind == 7) || (x.fKind == 8) || (x.fKind == 9)) = true := by
        rcases hk with hk | hk | hk <;> rw [hk] <;> rfl
      rw [if_pos hk] at hw ⊢
      rw [if_pos hk', chk_t (vs := _) (room_le (by simp only [List.length_cons, List.length_nil]; omega)), chk_t (vs := []) (room_le (by simp only [List.length_append, List.length_cons, List.length_nil]; omega)), chk_nil]
      refine congrArg some (J_of ?_)
      simp only [pr.B_app, pr.B_cons, pr.B_nil, n1, List.append_assoc, List.cons_append, List.nil_append]
    · have hk' : ((x.fKind == 7) || (x.fKind == 8) || (x.fKind == 9)) = false := by
        simp only [not_or] at hk
        simp [hk.1, hk.2.1, hk.2.2]
      rw [if_neg hk, if_neg (by rw [hk']; simp)]; rfl

theorem listT_gat (l : List S27) : pr.listT (pr.agE l) = pr.gat (fun i x => pr.com i ++ pr.tkE x) 0 l := by
  unfold pr.listT pr.agE
  have : ∀ (l : List S27) (n : Nat), pr.gat (fun i (p : Int × List Bytes) => pr.com i ++ p.2) n (l.map fun x => (x.fKind, pr.tkE x)) = pr.gat (fun i x => pr.com i ++ pr.tkE x) n l := by
    intro l
    induction l with
    | nil => intro n; rfl
    | cons x r ih => intro n; simp only [List.map_cons, pr.gat]; rw [ih]
  exact this l 0

theorem dargs_eq (K : Nat) (l : List S27) (H : HD K l) (hK : l.length < K) (h62 : l.length ≤ 1000000000) (hw : (B (pr.listT (pr.agE l))).length ≤ 1000000000) : fnS (F28 (K + 1) l) = some (B (pr.listT (pr.agE l))) := by
  rw [F28]
  rw [listT_gat, B_gat] at hw ⊢
  rw [pr.iter_gat Sum.inl l (fun i x => B (pr.com i ++ pr.tkE x)) 1000000000 hK (w := []) (by simpa using hw)]
  · simp only [Option.map_some, blockS_ll, bindS_r, fnS_l, List.nil_append]
  · intro i hi v hv
    have hm := pr.getD_mem (l := l) hi
    have h1 := pr.lt_dec hi
    have h2 := inb_nat hi
    have h3 := pr.wrap_succ (i := i) (by omega)
    rw [Int.toNat_natCast]
    have hne := tk_ne (l.getD i default)
    have hx := H _ hm
    generalize l.getD i default = x at hm hv hne hx ⊢
    have jl := J_len hne
    have n1 := J_app hne
    by_cases h0 : 0 < i
    · have ec : pr.com i = [[44]] := by unfold pr.com; rw [if_pos h0]
      have h5 : decide ((i : Int) > 0) = true := by simp; omega
      simp only [ec, pr.B_app, pr.B_cons, pr.B_nil, List.length_append, List.length_cons, List.length_nil] at hv
      simp (disch := (first | assumption | ((try simp only [List.length_append, List.length_cons, List.length_nil]); omega))) only [h1, h2, h3, h5, hx, ec, n1, ↓reduceIte, pr.B_app, pr.B_cons, pr.B_nil, room_le, chk_true, Option.bind_some, Option.map_some, bindS_r, bindS_l, blockS_r, blockS_ll, blockS_lr, fnS_r, fnS_l, letV, condM_t, chk_nil, List.append_assoc, List.cons_append, List.nil_append, List.append_nil, List.length_append, List.length_cons, List.length_nil]
    · have ec : pr.com i = [] := by unfold pr.com; rw [if_neg h0]
      have h5 : decide ((i : Int) > 0) = false := by simp; omega
      simp only [ec, pr.B_app, pr.B_cons, pr.B_nil, List.length_append, List.length_cons, List.length_nil] at hv
      simp (disch := (first | assumption | ((try simp only [List.length_append, List.length_cons, List.length_nil]); omega))) only [h1, h2, h3, h5, hx, ec, n1, Bool.false_eq_true, ↓reduceIte, pr.B_app, pr.B_cons, pr.B_nil, room_le, chk_true, Option.bind_some, Option.map_some, bindS_r, bindS_l, blockS_r, blockS_ll, blockS_lr, fnS_r, fnS_l, letV, condM_t, chk_nil, List.append_assoc, List.cons_append, List.nil_append, List.append_nil, List.length_append, List.length_cons, List.length_nil]
  · intro v
    simp only [pr.lt_dec0, letV, Bool.false_eq_true, ↓reduceIte]

theorem dexpr_eq : ∀ (n K : Nat) (e : S27), pr.sz e ≤ n → 4 * n + 40 ≤ K → n ≤ 100000000 → pr.okE e → (B (pr.tkE e)).length ≤ 1000000000 → fnS (F11 K e) = some (J (pr.tkE e))
  | 0, K, e, hn, hK, hb, ho, hw => by have := pr.sz_eq e; omega
  | n + 1, K, e, hn, hK, hb, ho, hw => by
    have hs := pr.sz_eq e
    rw [pr.okE_eq] at ho
    rw [pr.tkE_eq] at hw ⊢
    obtain ⟨k, nn, nm, wh, ag⟩ := e
    dsimp only at hs ho hw ⊢
    obtain ⟨ho1, ho4⟩ := ho
    have hl := pr.szl_len ag
    obtain ⟨K, rfl⟩ : ∃ j, K = j + 4 := ⟨K - 4, by omega⟩
    have H : ∀ K', 4 * n + 40 ≤ K' → HD K' ag := fun K' hK' x hx hw => dexpr_eq n K' x (by have := pr.szl_mem ag x hx; omega) hK' (by omega) (pr.okL_mem ag ho4 x hx) hw
    have hA0 : (B (pr.atT (pr.agE ag) 0)).length ≤ 1000000000 → fnS (F25 (K + 3) ag 0) = some (J (pr.atT (pr.agE ag) 0)) := fun hw => dat_eq (K + 2) ag (H _ (by omega)) 0 hw
    have hO0 : (B (pr.opdT (pr.agE ag) 0)).length ≤ 1000000000 → fnS (F26 (K + 3) ag 0) = some (J (pr.opdT (pr.agE ag) 0)) := fun hw => dopd_eq (K + 1) ag (H _ (by omega)) 0 hw
    have hO1 : (B (pr.opdT (pr.agE ag) 1)).length ≤ 1000000000 → fnS (F26 (K + 3) ag 1) = some (J (pr.opdT (pr.agE ag) 1)) := fun hw => dopd_eq (K + 1) ag (H _ (by omega)) 1 hw
    have hL : (B (pr.listT (pr.agE ag))).length ≤ 1000000000 → fnS (F28 (K + 3) ag) = some (B (pr.listT (pr.agE ag))) := fun hw => dargs_eq (K + 2) ag (H _ (by omega)) (by omega) (by omega) hw
    have hD := decimal_eq (K + 3) nn (by omega) ho1
    change fnS (F24 (K + 3) nn) = some (J (numT nn)) at hD
    have hop : fnS (F27 (K + 3) nn) = some (pr.named nn pr.ops) := by
      unfold F27
      rw [condM_t, name_eq (K + 3) nn [[43], [45], [42], [47], [77, 79, 68], [61], [60, 62], [60], [60, 61], [62], [62, 61], [65, 78, 68], [79, 82], [88, 79, 82]]]; rfl
    have j0 := J_len (atT_ne (ag_ne ag) 0)
    have j1 := J_len (opdT_ne (ag_ne ag) 0)
    have j2 := J_len (opdT_ne (ag_ne ag) 1)
    have a0 := J_app (atT_ne (ag_ne ag) 0)
    have a1 := J_app (opdT_ne (ag_ne ag) 0)
    have a2 := J_app (opdT_ne (ag_ne ag) 1)
    have a3 := J_txt (opdT_ne (ag_ne ag) 0)
    have a4 := J_txt (opdT_ne (ag_ne ag) 1)
    have hag : (ag.map fun x => (x.fKind, pr.tkE x)) = pr.agE ag := rfl
    rw [hag] at hw ⊢
    rw [F11]
    dsimp only
    clear H hag hs hl ho4 hn hK hb
    by_cases h1 : k = 1
    · subst h1
      simp only [↓reduceIte, Int.reduceBEq, Int.reduceEq, pr.exprT, hD, Option.bind_some, blockS_lr, bindS_l, fnS_l]
    by_cases h2 : k = 2
    · subst h2
      simp only [pr.exprT, ↓reduceIte, Int.reduceEq, pr.B_app, pr.B_cons, pr.B_nil, List.length_append, List.length_cons, List.length_nil] at hw
      simp only [↓reduceIte, Int.reduceBEq, Bool.false_eq_true]
      simp (disch := (first | assumption | ((try simp only [List.length_append, List.length_cons, List.length_nil]); omega))) only [hA0, hO0, hO1, hop, room_le, chk_true, Option.bind_some, Option.map_some, bindS_r, bindS_l, blockS_r, blockS_ll, blockS_lr, fnS_r, fnS_l, letV, condM_t, chk_nil, List.append_assoc, List.cons_append, List.nil_append, List.append_nil, List.length_append, List.length_cons, List.length_nil]
      refine congrArg some (J_of ?_)
      simp only [pr.exprT, ↓reduceIte, Int.reduceEq, pr.B_app, pr.B_cons, pr.B_nil, a0, a1, a2, a3, a4, List.append_assoc, List.cons_append, List.nil_append, List.append_nil]
    by_cases h3 : k = 3
    · subst h3
      simp only [pr.exprT, ↓reduceIte, Int.reduceEq, pr.B_app, pr.B_cons, pr.B_nil, List.length_append, List.length_cons, List.length_nil] at hw
      simp only [↓reduceIte, Int.reduceBEq, Bool.false_eq_true]
      simp (disch := (first | assumption | ((try simp only [List.length_append, List.length_cons, List.length_nil]); omega))) only [hA0, hO0, hO1, hop, room_le, chk_true, Option.bind_some, Option.map_some, bindS_r, bindS_l, blockS_r, blockS_ll, blockS_lr, fnS_r, fnS_l, letV, condM_t, chk_nil, List.append_assoc, List.cons_append, List.nil_append, List.append_nil, List.length_append, List.length_cons, List.length_nil]
      refine congrArg some (J_of ?_)
      simp only [pr.exprT, ↓reduceIte, Int.reduceEq, pr.B_app, pr.B_cons, pr.B_nil, a0, a1, a2, a3, a4, List.append_assoc, List.cons_append, List.nil_append, List.append_nil]
    by_cases h4 : k = 4
    · subst h4
      simp only [pr.exprT, ↓reduceIte, Int.reduceEq, pr.B_app, pr.B_cons, pr.B_nil, List.length_append, List.length_cons, List.length_nil] at hw
      simp only [↓reduceIte, Int.reduceBEq, Bool.false_eq_true]
      simp (disch := (first | assumption | ((try simp only [List.length_append, List.length_cons, List.length_nil]); omega))) only [hA0, hO0, hO1, hop, room_le, chk_true, Option.bind_some, Option.map_some, bindS_r, bindS_l, blockS_r, blockS_ll, blockS_lr, fnS_r, fnS_l, letV, condM_t, chk_nil, List.append_assoc, List.cons_append, List.nil_append, List.append_nil, List.length_append, List.length_cons, List.length_nil]
      refine congrArg some (J_of ?_)
      simp only [pr.exprT, ↓reduceIte, Int.reduceEq, pr.B_app, pr.B_cons, pr.B_nil, a0, a1, a2, a3, a4, List.append_assoc, List.cons_append, List.nil_append, List.append_nil]
    by_cases h5 : k = 5
    · subst h5
      simp only [pr.exprT, ↓reduceIte, Int.reduceEq, pr.B_app, pr.B_cons, pr.B_nil, List.length_append, List.length_cons, List.length_nil] at hw
      simp only [↓reduceIte, Int.reduceBEq, Bool.false_eq_true]
      simp (disch := (first | assumption | ((try simp only [List.length_append, List.length_cons, List.length_nil]); omega))) only [hA0, hO0, hO1, hop, room_le, chk_true, Option.bind_some, Option.map_some, bindS_r, bindS_l, blockS_r, blockS_ll, blockS_lr, fnS_r, fnS_l, letV, condM_t, chk_nil, List.append_assoc, List.cons_append, List.nil_append, List.append_nil, List.length_append, List.length_cons, List.length_nil]
      refine congrArg some (J_of ?_)
      simp only [pr.exprT, ↓reduceIte, Int.reduceEq, pr.B_app, pr.B_cons, pr.B_nil, a0, a1, a2, a3, a4, List.append_assoc, List.cons_append, List.nil_append, List.append_nil]
    by_cases h6 : k = 6
    · subst h6
      simp only [pr.exprT, ↓reduceIte, Int.reduceEq, pr.B_app, pr.B_cons, pr.B_nil, List.length_append, List.length_cons, List.length_nil] at hw
      simp only [↓reduceIte, Int.reduceBEq, Bool.false_eq_true]
      simp (disch := (first | assumption | ((try simp only [List.length_append, List.length_cons, List.length_nil]); omega))) only [hA0, hO0, hO1, hop, room_le, chk_true, Option.bind_some, Option.map_some, bindS_r, bindS_l, blockS_r, blockS_ll, blockS_lr, fnS_r, fnS_l, letV, condM_t, chk_nil, List.append_assoc, List.cons_append, List.nil_append, List.append_nil, List.length_append, List.length_cons, List.length_nil]
      refine congrArg some (J_of ?_)
      simp only [pr.exprT, ↓reduceIte, Int.reduceEq, pr.B_app, pr.B_cons, pr.B_nil, a0, a1, a2, a3, a4, List.append_assoc, List.cons_append, List.nil_append, List.append_nil]
    by_cases h7 : k = 7
    · subst h7
      simp only [pr.exprT, ↓reduceIte, Int.reduceEq, pr.B_app, pr.B_cons, pr.B_nil, List.length_append, List.length_cons, List.length_nil] at hw
      simp only [↓reduceIte, Int.reduceBEq, Bool.false_eq_true]
      simp (disch := (first | assumption | ((try simp only [List.length_append, List.length_cons, List.length_nil]); omega))) only [hA0, hO0, hO1, hop, room_le, chk_true, Option.bind_some, Option.map_some, bindS_r, bindS_l, blockS_r, blockS_ll, blockS_lr, fnS_r, fnS_l, letV, condM_t, chk_nil, List.append_assoc, List.cons_append, List.nil_append, List.append_nil, List.length_append, List.length_cons, List.length_nil]
      refine congrArg some (J_of ?_)
      simp only [pr.exprT, ↓reduceIte, Int.reduceEq, pr.B_app, pr.B_cons, pr.B_nil, a0, a1, a2, a3, a4, List.append_assoc, List.cons_append, List.nil_append, List.append_nil]
    by_cases h8 : k = 8
    · subst h8
      simp only [pr.exprT, ↓reduceIte, Int.reduceEq, pr.B_app, pr.B_cons, pr.B_nil, List.length_append, List.length_cons, List.length_nil] at hw
      simp only [↓reduceIte, Int.reduceBEq, Bool.false_eq_true]
      simp (disch := (first | assumption | ((try simp only [List.length_append, List.length_cons, List.length_nil]); omega))) only [hA0, hO0, hO1, hop, room_le, chk_true, Option.bind_some, Option.map_some, bindS_r, bindS_l, blockS_r, blockS_ll, blockS_lr, fnS_r, fnS_l, letV, condM_t, chk_nil, List.append_assoc, List.cons_append, List.nil_append, List.append_nil, List.length_append, List.length_cons, List.length_nil]
      refine congrArg some (J_of ?_)
      simp only [pr.exprT, ↓reduceIte, Int.reduceEq, pr.B_app, pr.B_cons, pr.B_nil, a0, a1, a2, a3, a4, List.append_assoc, List.cons_append, List.nil_append, List.append_nil]
    by_cases h9 : k = 9
    · subst h9
      simp only [pr.exprT, ↓reduceIte, Int.reduceEq, pr.B_app, pr.B_cons, pr.B_nil, List.length_append, List.length_cons, List.length_nil] at hw
      simp only [↓reduceIte, Int.reduceBEq, Bool.false_eq_true]
      simp (disch := (first | assumption | ((try simp only [List.length_append, List.length_cons, List.length_nil]); omega))) only [hA0, hO0, hO1, hop, room_le, chk_true, Option.bind_some, Option.map_some, bindS_r, bindS_l, blockS_r, blockS_ll, blockS_lr, fnS_r, fnS_l, letV, condM_t, chk_nil, List.append_assoc, List.cons_append, List.nil_append, List.append_nil, List.length_append, List.length_cons, List.length_nil]
      refine congrArg some (J_of ?_)
      simp only [pr.exprT, ↓reduceIte, Int.reduceEq, pr.B_app, pr.B_cons, pr.B_nil, a0, a1, a2, a3, a4, List.append_assoc, List.cons_append, List.nil_append, List.append_nil]
    by_cases h10 : k = 10
    · subst h10
      simp only [pr.exprT, ↓reduceIte, Int.reduceEq, pr.B_app, pr.B_cons, pr.B_nil, List.length_append, List.length_cons, List.length_nil] at hw
      simp only [↓reduceIte, Int.reduceBEq, Bool.false_eq_true]
      simp (disch := (first | assumption | ((try simp only [List.length_append, List.length_cons, List.length_nil]); omega))) only [hA0, hO0, hO1, hop, room_le, chk_true, Option.bind_some, Option.map_some, bindS_r, bindS_l, blockS_r, blockS_ll, blockS_lr, fnS_r, fnS_l, letV, condM_t, chk_nil, List.append_assoc, List.cons_append, List.nil_append, List.append_nil, List.length_append, List.length_cons, List.length_nil]
      refine congrArg some (J_of ?_)
      simp only [pr.exprT, ↓reduceIte, Int.reduceEq, pr.B_app, pr.B_cons, pr.B_nil, a0, a1, a2, a3, a4, List.append_assoc, List.cons_append, List.nil_append, List.append_nil]
    by_cases h11 : k = 11
    · subst h11
      simp only [pr.exprT, ↓reduceIte, Int.reduceEq, pr.B_app, pr.B_cons, pr.B_nil, List.length_append, List.length_cons, List.length_nil] at hw
      simp only [↓reduceIte, Int.reduceBEq, Bool.false_eq_true]
      simp (disch := (first | assumption | ((try simp only [List.length_append, List.length_cons, List.length_nil]); omega))) only [hA0, hO0, hO1, hop, room_le, chk_true, Option.bind_some, Option.map_some, bindS_r, bindS_l, blockS_r, blockS_ll, blockS_lr, fnS_r, fnS_l, letV, condM_t, chk_nil, List.append_assoc, List.cons_append, List.nil_append, List.append_nil, List.length_append, List.length_cons, List.length_nil]
      refine congrArg some (J_of ?_)
      simp only [pr.exprT, ↓reduceIte, Int.reduceEq, pr.B_app, pr.B_cons, pr.B_nil, a0, a1, a2, a3, a4, List.append_assoc, List.cons_append, List.nil_append, List.append_nil]
    by_cases h12 : k = 12
    · subst h12
      simp only [pr.exprT, ↓reduceIte, Int.reduceEq, pr.B_app, pr.B_cons, pr.B_nil, List.length_append, List.length_cons, List.length_nil] at hw
      simp only [↓reduceIte, Int.reduceBEq, Bool.false_eq_true]
      simp (disch := (first | assumption | ((try simp only [List.length_append, List.length_cons, List.length_nil]); omega))) only [hA0, hO0, hO1, hop, room_le, chk_true, Option.bind_some, Option.map_some, bindS_r, bindS_l, blockS_r, blockS_ll, blockS_lr, fnS_r, fnS_l, letV, condM_t, chk_nil, List.append_assoc, List.cons_append, List.nil_append, List.append_nil, List.length_append, List.length_cons, List.length_nil]
      refine congrArg some (J_of ?_)
      simp only [pr.exprT, ↓reduceIte, Int.reduceEq, pr.B_app, pr.B_cons, pr.B_nil, a0, a1, a2, a3, a4, List.append_assoc, List.cons_append, List.nil_append, List.append_nil]
    by_cases h14 : k = 14
    · subst h14
      simp only [pr.exprT, ↓reduceIte, Int.reduceEq, pr.B_app, pr.B_cons, pr.B_nil, List.length_append, List.length_cons, List.length_nil] at hw
      simp only [↓reduceIte, Int.reduceBEq, Bool.false_eq_true]
      simp (disch := (first | assumption | ((try simp only [List.length_append, List.length_cons, List.length_nil]); omega))) only [hA0, hO0, hO1, hop, room_le, chk_true, Option.bind_some, Option.map_some, bindS_r, bindS_l, blockS_r, blockS_ll, blockS_lr, fnS_r, fnS_l, letV, condM_t, chk_nil, List.append_assoc, List.cons_append, List.nil_append, List.append_nil, List.length_append, List.length_cons, List.length_nil]
      refine congrArg some (J_of ?_)
      simp only [pr.exprT, ↓reduceIte, Int.reduceEq, pr.B_app, pr.B_cons, pr.B_nil, a0, a1, a2, a3, a4, List.append_assoc, List.cons_append, List.nil_append, List.append_nil]
    by_cases h13 : k = 13
    · subst h13
      simp only [pr.exprT, ↓reduceIte, Int.reduceEq, pr.B_app, pr.B_cons, pr.B_nil, List.length_append, List.length_cons, List.length_nil] at hw
      have hwho' : ∀ {A : Type}, (if (nn == 0) = true then (some (.inr nm) : Option (A ⊕ Bytes)) else if (nn == 1) = true then some (.inr [84, 72, 73, 83]) else if (nn == 2) = true then some (.inr [83, 85, 80, 69, 82]) else some (.inr [63])) = some (.inr (pr.named (nn + 1) [nm, [84, 72, 73, 83], [83, 85, 80, 69, 82]])) := by
        intro A
        by_cases c0 : nn = 0
        · subst c0; rfl
        by_cases c1 : nn = 1
        · subst c1; rfl
        by_cases c2 : nn = 2
        · subst c2; rfl
        unfold pr.named
        rw [if_neg (by simpa using c0), if_neg (by simpa using c1), if_neg (by simpa using c2), if_pos (by simp only [List.length_cons, List.length_nil]; omega)]
      simp only [↓reduceIte, Int.reduceBEq, Bool.false_eq_true]
      rw [hwho', blockS_r, bindS_r]
      generalize hwd : pr.named (nn + 1) [nm, [84, 72, 73, 83], [83, 85, 80, 69, 82]] = who at hw
      simp (disch := (first | assumption | ((try simp only [List.length_append, List.length_cons, List.length_nil]); omega))) only [hL, room_le, chk_true, Option.bind_some, Option.map_some, bindS_r, bindS_l, blockS_r, blockS_ll, blockS_lr, fnS_r, fnS_l, letV, condM_t, chk_nil, List.append_assoc, List.cons_append, List.nil_append, List.append_nil, List.length_append, List.length_cons, List.length_nil]
      refine congrArg some (J_of ?_)
      simp only [pr.exprT, hwd, ↓reduceIte, Int.reduceEq, pr.B_app, pr.B_cons, pr.B_nil, List.append_assoc, List.cons_append, List.nil_append]
    simp only [pr.exprT, h1, h2, h3, h4, h5, h6, h7, h8, h9, h10, h11, h12, h13, h14, beq_iff_eq, ↓reduceIte, Bool.false_eq_true, blockS_r, bindS_r, fnS_l, J_q]
end Go.Proofs.YtaoklnkjcobokaaDoor

set_option linter.unusedVariables false
set_option linter.unusedSimpArgs false
set_option linter.unusedSectionVars false
namespace Go.Proofs.YtaoklnkjcobokaaDoor
open Go Go.Proofs Go.Dl
set_option maxRecDepth 100000
open pr (B J)

theorem tkS_ne (s : S43) : pr.tkS s ≠ [] := by
  rw [pr.tkS_eq]; simp

def HT (K : Nat) (l : List S43) : Prop := ∀ x ∈ l, (B (pr.tkS x)).length ≤ 1000000000 → fnS (F55 K x) = some (J (pr.tkS x))

theorem dsts_eq (K : Nat) (l : List S43) (H : HT K l) (hK : l.length < K) (hl : l.length ≤ 1000000000) (hw : (B (pr.stsT l)).length ≤ 1000000000) : fnS (F43 (K + 1) l) = some (B (pr.stsT l)) := by
  unfold pr.stsT at hw ⊢
  rw [← gat_flat pr.tkS l 0, B_gat] at hw ⊢
  rw [F43]
  rw [pr.iter_gat Sum.inl l (fun _ x => B (pr.tkS x)) 1000000000 hK (w := []) (by simpa using hw)]
  · simp only [Option.map_some, blockS_ll, bindS_r, fnS_l, List.nil_append]
  · intro i hi v hv
    have hm := pr.getD_mem (l := l) hi
    have h1 := pr.lt_dec hi
    have h2 := inb_nat hi
    have h3 := pr.wrap_succ (i := i) (by omega)
    rw [Int.toNat_natCast]
    have hne := tkS_ne (l.getD i default)
    have hx := H _ hm
    generalize l.getD i default = x at hm hv hne hx ⊢
    have jl := J_len hne
    have n1 := J_txt hne
    simp (disch := (first | assumption | ((try simp only [List.length_append, List.length_cons, List.length_nil]); omega))) only [h1, h2, h3, hx, n1, ↓reduceIte, room_le, chk_true, Option.bind_some, Option.map_some, bindS_r, bindS_l, blockS_r, blockS_ll, blockS_lr, fnS_r, fnS_l, letV, condM_t, chk_nil, List.append_assoc, List.cons_append, List.nil_append, List.append_nil, List.length_append, List.length_cons, List.length_nil]
  · intro v
    simp only [pr.lt_dec0, letV, Bool.false_eq_true, ↓reduceIte]

theorem dblk_eq (K : Nat) (bl : List (List S43)) (H : ∀ b ∈ bl, HT K b ∧ b.length < K ∧ b.length ≤ 1000000000) (i : Nat) (hw : (B (pr.blkT (pr.agB bl) i)).length ≤ 1000000000) : fnS (F61 (K + 2) bl (i : Int)) = some (B (pr.blkT (pr.agB bl) i)) := by
  rw [F61]
  simp only [letV]
  by_cases h : i < bl.length
  · obtain ⟨a1, a2, a3⟩ := H _ (pr.getD_mem h)
    rw [blk_some h] at hw ⊢
    rw [if_neg (by simp; omega), chk_t (vs := []) (inb_nat h), chk_nil, Int.toNat_natCast, dsts_eq K _ a1 a2 a3 hw]; rfl
  · rw [blk_none (by omega)] at hw ⊢
    rw [if_pos (by simp; omega)]; rfl

theorem delse_eq (K : Nat) (bl : List (List S43)) (H : ∀ b ∈ bl, HT K b ∧ b.length < K ∧ b.length ≤ 1000000000) (i : Nat) (hw : (B (pr.elseT (pr.agB bl) i)).length ≤ 1000000000) : fnS (F62 (K + 2) bl (i : Int)) = some (B (pr.elseT (pr.agB bl) i)) := by
  rw [F62]
  simp only [letV]
  by_cases h : i < bl.length
  · obtain ⟨a1, a2, a3⟩ := H _ (pr.getD_mem h)
    have h1 : decide ((i : Int) ≥ Int.ofNat bl.length) = false := by simp; omega
    have h2 := inb_nat h
    have h0 := agB_get h
    unfold pr.elseT at hw ⊢
    rw [h0] at hw ⊢
    rw [Int.toNat_natCast]
    generalize bl.getD i default = b at hw a1 a2 a3 ⊢
    simp only [h1, h2, Bool.not_true, Bool.not_false, Bool.or_true, Bool.false_or, chk_true, chk_nil]
    cases b with
    | nil => rfl
    | cons x r =>
      have hs := dsts_eq K (x :: r) a1 a2 a3
      unfold pr.stsT at hs
      simp only [List.map_cons, pr.elseL, pr.B_app, pr.B_cons, pr.B_nil, List.length_append, List.length_cons, List.length_nil] at hw hs
      have h3 : (Int.ofNat (x :: r).length == 0) = false := by simp; omega
      simp only [h3, Bool.false_eq_true, ↓reduceIte]
      rw [hs (by omega)]
      simp (disch := (first | assumption | ((try simp only [List.length_append, List.length_cons, List.length_nil]); omega))) only [List.map_cons, pr.elseL, pr.B_app, pr.B_cons, pr.B_nil, room_le, chk_true, Option.bind_some, Option.map_some, bindS_r, bindS_l, blockS_r, blockS_ll, blockS_lr, fnS_r, fnS_l, letV, condM_t, chk_nil, List.append_assoc, List.cons_append, List.nil_append, List.append_nil, List.length_append, List.length_cons, List.length_nil]
  · have h1 : decide ((i : Int) ≥ Int.ofNat bl.length) = true := by simp; omega
    have h0 : pr.elseT (pr.agB bl) i = [] := by
      unfold pr.elseT
      have : (pr.agB bl)[i]? = none := by rw [List.getElem?_eq_none]; simp only [pr.agB, List.length_map]; omega
      rw [List.getD, this]; rfl
    rw [h0]
    simp only [h1, Bool.not_true, Bool.not_false, Bool.true_or, ↓reduceIte, chk_true, chk_nil]; rfl

theorem dlab_eq (K : Nat) (lb : List (List Int)) (hok : pr.okLab lb) (i : Nat) (hi : i < lb.length) (h30 : 30 < K) (hK : (lb.getD i default).length < K) (hl : (lb.getD i default).length ≤ 1000000000) (hw : (B (pr.labT (lb.getD i default))).length ≤ 1000000000) : fnS (F63 K lb (i : Int)) = some (B (pr.labT (lb.getD i default))) := by
  unfold F63
  have hm := pr.getD_mem (l := lb) hi
  have g1 := pr.lt_dec hi
  have g2 := inb_nat hi
  unfold pr.labT at hw ⊢
  rw [B_gat] at hw ⊢
  rw [Int.toNat_natCast]
  have hok' := hok _ hm
  generalize lb.getD i default = l at hK hl hw hok' ⊢
  rw [pr.iter_gat Sum.inl l (fun j n => B (pr.com j ++ numT n)) 1000000000 hK (w := []) (by simpa using hw)]
  · simp only [Option.map_some, blockS_ll, bindS_r, fnS_l, List.nil_append]
  · intro j hj v hv
    have hm := pr.getD_mem (l := l) hj
    have h1 := pr.lt_dec hj
    have h2 := inb_nat hj
    have h3 := pr.wrap_succ (i := j) (by omega)
    rw [Int.toNat_natCast]
    have hn := hok' _ hm
    generalize l.getD j default = n at hv hn ⊢
    have hD : fnS (F24 K n) = some (J (numT n)) := decimal_eq K n h30 hn
    have jl := J_len (numT_ne n)
    have n1 := J_app (numT_ne n)
    have n2 := J_txt (numT_ne n)
    by_cases h0 : 0 < j
    · have ec : pr.com j = [[44]] := by unfold pr.com; rw [if_pos h0]
      have h5 : decide ((j : Int) > 0) = true := by simp; omega
      simp only [ec, pr.B_app, pr.B_cons, pr.B_nil, List.length_append, List.length_cons, List.length_nil] at hv
      simp (disch := (first | assumption | ((try simp only [List.length_append, List.length_cons, List.length_nil]); omega))) only [g1, g2, h1, h2, h3, h5, hD, ec, n1, n2, Bool.not_true, Bool.or_true, Bool.and_self, Bool.false_or, ↓reduceIte, pr.B_app, pr.B_cons, pr.B_nil, room_le, chk_true, Option.bind_some, Option.map_some, bindS_r, bindS_l, blockS_r, blockS_ll, blockS_lr, fnS_r, fnS_l, letV, condM_t, chk_nil, List.append_assoc, List.cons_append, List.nil_append, List.append_nil, List.length_append, List.length_cons, List.length_nil]
    · have ec : pr.com j = [] := by unfold pr.com; rw [if_neg h0]
      have h5 : decide ((j : Int) > 0) = false := by simp; omega
      simp only [ec, pr.B_app, pr.B_cons, pr.B_nil, List.length_append, List.length_cons, List.length_nil] at hv
      simp (disch := (first | assumption | ((try simp only [List.length_append, List.length_cons, List.length_nil]); omega))) only [g1, g2, h1, h2, h3, h5, hD, ec, n1, n2, Bool.not_true, Bool.or_true, Bool.and_self, Bool.false_or, Bool.false_eq_true, ↓reduceIte, pr.B_app, pr.B_cons, pr.B_nil, room_le, chk_true, Option.bind_some, Option.map_some, bindS_r, bindS_l, blockS_r, blockS_ll, blockS_lr, fnS_r, fnS_l, letV, condM_t, chk_nil, List.append_assoc, List.cons_append, List.nil_append, List.append_nil, List.length_append, List.length_cons, List.length_nil]
  · intro v
    simp only [g1, g2, pr.lt_dec0, letV, Bool.not_true, Bool.or_true, Bool.false_or, Bool.and_false, chk_true, chk_nil, Bool.false_eq_true, ↓reduceIte]
end Go.Proofs.YtaoklnkjcobokaaDoor
