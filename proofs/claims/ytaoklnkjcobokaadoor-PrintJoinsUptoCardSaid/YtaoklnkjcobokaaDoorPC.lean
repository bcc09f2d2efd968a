/- What the document writes of types and expressions. No conditions. -/
import Derived.Test.YtaoklnkjcobokaaDoorPA
set_option linter.unusedVariables false
set_option linter.unusedSimpArgs false
set_option linter.unusedSectionVars false
namespace Go.Proofs.YtaoklnkjcobokaaDoor
open Go Go.Proofs Go.Dl
set_option maxRecDepth 100000
open pr (B J)

theorem J_of {x : Bytes} {t : List Bytes} (h : x ++ [32] = B t) : x = J t := pr.Txt.join h
theorem J_txt {t : List Bytes} (h : t ≠ []) : J t ++ [32] = B t := pr.B_join t h
theorem J_app {t : List Bytes} (h : t ≠ []) (y : Bytes) : J t ++ 32 :: y = B t ++ y := pr.Txt.app (J_txt h) y
theorem J_len {t : List Bytes} (h : t ≠ []) : (J t).length + 1 = (B t).length := by
  rw [← J_txt h]; simp
theorem B_len (t : List Bytes) : t.length ≤ (B t).length := by
  induction t with
  | nil => simp
  | cons x r ih => rw [pr.B_cons]; simp; omega

theorem numT_ne (n : Int) : numT n ≠ [] := by unfold numT; split <;> simp
theorem tyT_ne (t : S29) : pr.tyT t ≠ [] := by 
  unfold pr.tyT
  repeat' split
  all_goals simp
theorem app_ne {X : Type} {a b : List X} (h : a ≠ [] ∨ b ≠ []) : a ++ b ≠ [] := by
  rcases h with h | h <;> simp [h]
theorem atT_ne {l : List (Int × List Bytes)} (h : ∀ p ∈ l, p.2 ≠ []) (i : Nat) : pr.atT l i ≠ [] := by
  unfold pr.atT
  cases e : l[i]? with
  | none => simp
  | some p => exact h p (List.mem_of_getElem? e)
theorem opdT_ne {l : List (Int × List Bytes)} (h : ∀ p ∈ l, p.2 ≠ []) (i : Nat) : pr.opdT l i ≠ [] := by
  unfold pr.opdT
  cases e : l[i]? with
  | none => simp
  | some p =>
    have := h p (List.mem_of_getElem? e)
    dsimp only
    split <;> simp [this]
theorem ite_ne {X : Type} {c : Prop} [Decidable c] {a b : List X} (ha : a ≠ []) (hb : b ≠ []) : (if c then a else b) ≠ [] := by by_cases h : c <;> simp [h, ha, hb]
theorem exprT_ne (k n : Int) (nm wh : Bytes) (l : List (Int × List Bytes)) (h : ∀ p ∈ l, p.2 ≠ []) : pr.exprT k n nm wh l ≠ [] := by
  have h1 := numT_ne n
  have h2 := opdT_ne h 0
  unfold pr.exprT
  repeat' refine ite_ne ?_ ?_
  all_goals first | exact h1 | (intro hc; simp at hc)
theorem tkE_ne : ∀ (n : Nat) (e : S27), pr.sz e ≤ n → pr.tkE e ≠ []
  | 0, e, h => by have := pr.sz_eq e; omega
  | n + 1, e, h => by
    have := pr.sz_eq e
    rw [pr.tkE_eq]
    refine exprT_ne _ _ _ _ _ ?_
    intro p hp
    obtain ⟨x, hx, rfl⟩ := List.mem_map.1 hp
    exact tkE_ne n x (by have := pr.szl_mem _ x hx; omega)
theorem tk_ne (e : S27) : pr.tkE e ≠ [] := tkE_ne _ e (Nat.le_refl _)
theorem ag_ne (l : List S27) : ∀ p ∈ pr.agE l, p.2 ≠ [] := by
  intro p hp
  obtain ⟨x, hx, rfl⟩ := List.mem_map.1 hp
  exact tk_ne x

theorem numB_len {n : Int} (h : I64 n) : (B (numT n)).length ≤ 25 := by
  obtain ⟨h1, h2⟩ := h
  unfold numT
  split
  · have := dec_len (n := n.natAbs) (by omega)
    simp only [pr.B_cons, pr.B_nil, List.length_append, List.length_cons, List.length_nil]; omega
  · have := dec_len (n := n.toNat) (by omega)
    simp only [pr.B_cons, pr.B_nil, List.length_append, List.length_cons, List.length_nil]; omega

end Go.Proofs.YtaoklnkjcobokaaDoor
