/- How long what is written can be. No conditions. -/
import Derived.Test.YtaoklnkjcobokaaDoorPC
set_option linter.unusedVariables false
set_option linter.unusedSimpArgs false
set_option linter.unusedSectionVars false
namespace Go.Proofs.YtaoklnkjcobokaaDoor
open Go Go.Proofs Go.Dl
set_option maxRecDepth 100000
open pr (B J)

/-- How long a text of tokens is. -/
def bl (t : List Bytes) : Nat := (B t).length
theorem bl_app (a b : List Bytes) : bl (a ++ b) = bl a + bl b := by simp [bl, pr.B_app]
theorem bl_cons (a : Bytes) (b : List Bytes) : bl (a :: b) = a.length + 1 + bl b := by simp [bl, pr.B_cons]; omega
theorem bl_nil : bl [] = 0 := rfl
theorem bl_num {n : Int} (h : I64 n) : bl (numT n) ≤ 25 := numB_len h

theorem named_len (n : Int) (l : List Bytes) (k : Nat) (hk : 1 ≤ k) (h : ∀ x ∈ l, x.length ≤ k) : (pr.named n l).length ≤ k := by
  unfold pr.named
  split
  · simpa using hk
  · rename_i hn
    rw [pr.getD_el (by omega)]
    exact h _ (List.getElem_mem _)

theorem ite_le {c : Prop} [Decidable c] {a b : List Bytes} {k : Nat} (ha : bl a ≤ k) (hb : bl b ≤ k) : bl (if c then a else b) ≤ k := by by_cases h : c <;> simp [h, ha, hb]
theorem bl_ty (t : S29) (h1 : I64 t.fLo) (h2 : I64 t.fHi) : bl (pr.tyT t) ≤ 80 + t.fName.length := by
  have n1 := bl_num h1
  have n2 := bl_num h2
  have n3 := named_len t.fLo pr.timers 10 (by omega) (by unfold pr.timers; simp)
  unfold pr.tyT
  repeat' refine ite_le ?_ ?_
  all_goals try simp only [bl_app, bl_cons, bl_nil, List.length_cons, List.length_nil]
  all_goals omega

def sumE (l : List S27) : Nat := (l.map fun x => bl (pr.tkE x) + 20).sum
theorem bl_at (l : List S27) (i : Nat) : bl (pr.atT (pr.agE l) i) ≤ 2 + sumE l := by
  by_cases h : i < l.length
  · rw [at_some h]
    have hm := pr.getD_mem h
    have : ∀ (l : List S27) x, x ∈ l → bl (pr.tkE x) ≤ sumE l := by
      intro l
      induction l with
      | nil => intro x hx; cases hx
      | cons y r ih =>
        intro x hx
        unfold sumE at ih ⊢
        simp only [List.map_cons, List.sum_cons]
        rcases List.mem_cons.1 hx with rfl | hx
        · omega
        · have := ih x hx; omega
    have := this l _ hm
    omega
  · rw [at_none (by rw [agE_len]; omega)]
    simp [bl, B, pr.B]
theorem bl_opd_some (l : List S27) (i : Nat) (h : i < l.length) : bl (pr.opdT (pr.agE l) i) ≤ bl (pr.tkE (l.getD i default)) + 4 := by
  rw [opd_some h]
  refine ite_le ?_ (by omega)
  simp only [bl_app, bl_cons, bl_nil, List.length_cons, List.length_nil]; omega
theorem bl_opd_none (l : List S27) (i : Nat) (h : l.length ≤ i) : bl (pr.opdT (pr.agE l) i) ≤ 2 := by
  rw [opd_none (by rw [agE_len]; omega)]; simp [bl, B, pr.B]
theorem bl_opds (l : List S27) : bl (pr.opdT (pr.agE l) 0) + bl (pr.opdT (pr.agE l) 1) ≤ 4 + sumE l := by
  rcases l with _ | ⟨x, _ | ⟨y, r⟩⟩
  · have h0 := bl_opd_none [] 0 (by simp)
    have h1 := bl_opd_none [] 1 (by simp)
    omega
  · have h0 := bl_opd_some [x] 0 (by simp)
    have h1 := bl_opd_none [x] 1 (by simp)
    simp only [sumE, List.map_cons, List.map_nil, List.sum_cons, List.sum_nil]
    simp at h0
    omega
  · have h0 := bl_opd_some (x :: y :: r) 0 (by simp)
    have h1 := bl_opd_some (x :: y :: r) 1 (by simp)
    simp only [sumE, List.map_cons, List.map_nil, List.sum_cons, List.sum_nil]
    simp at h0 h1
    omega
theorem bl_gat {X : Type} (g : Nat → X → List Bytes) (f : X → Nat) (h : ∀ i x, bl (g i x) ≤ f x) : ∀ (l : List X) (n : Nat), bl (pr.gat g n l) ≤ (l.map f).sum
  | [], n => by simp [pr.gat, bl_nil]
  | x :: r, n => by
    have := bl_gat g f h r (n + 1)
    have h1 := h n x
    simp only [pr.gat, bl_app, List.map_cons, List.sum_cons]; omega
theorem bl_com (i : Nat) : bl (pr.com i) ≤ 2 := by unfold pr.com; exact ite_le (by simp [bl, B, pr.B]) (by simp [bl, B, pr.B])
theorem bl_list (l : List S27) : bl (pr.listT (pr.agE l)) ≤ sumE l := by
  have e : pr.listT (pr.agE l) = pr.gat (fun i x => pr.com i ++ pr.tkE x) 0 l := by
    unfold pr.listT pr.agE
    have : ∀ (l : List S27) (n : Nat), pr.gat (fun i (p : Int × List Bytes) => pr.com i ++ p.2) n (l.map fun x => (x.fKind, pr.tkE x)) = pr.gat (fun i x => pr.com i ++ pr.tkE x) n l := by
      intro l
      induction l with
      | nil => intro n; rfl
      | cons x r ih => intro n; simp only [List.map_cons, pr.gat]; rw [ih]
    exact this l 0
  rw [e]
  exact bl_gat _ (fun x => bl (pr.tkE x) + 20) (fun i x => by have := bl_com i; simp only [bl_app]; omega) l 0

theorem bl_expr (k n : Int) (nm wh : Bytes) (l : List S27) (hn : I64 n) : bl (pr.exprT k n nm wh (pr.agE l)) ≤ 60 + nm.length + wh.length + sumE l := by
  have n1 := bl_num hn
  have n2 := named_len n pr.ops 5 (by omega) (by unfold pr.ops; simp)
  have n3 := named_len (n + 1) [nm, [84, 72, 73, 83], [83, 85, 80, 69, 82]] (nm.length + 5) (by omega) (by simp)
  have a0 := bl_at l 0
  have o0 := bl_opds l
  have l0 := bl_list l
  unfold pr.exprT
  generalize numT n = x at n1 ⊢
  repeat' refine ite_le ?_ ?_
  all_goals try simp only [bl_app, bl_cons, bl_nil, List.length_cons, List.length_nil]
  all_goals omega

theorem bl_tk : ∀ (n : Nat) (e : S27), pr.sz e ≤ n → pr.okE e → bl (pr.tkE e) + 20 ≤ 200 * pr.sz e
  | 0, e, hn, ho => by have := pr.sz_eq e; omega
  | n + 1, e, hn, ho => by
    have hs := pr.sz_eq e
    rw [pr.okE_eq] at ho
    rw [pr.tkE_eq]
    have h1 := bl_expr e.fKind e.fN e.fName e.fWhat e.fArgs ho.1
    have h2 : sumE e.fArgs ≤ 200 * pr.szl e.fArgs := by
      have key : ∀ l : List S27, pr.szl l ≤ n → pr.okL l → sumE l ≤ 200 * pr.szl l := by
        intro l
        induction l with
        | nil => intro _ _; simp [sumE]
        | cons x r ih =>
          intro h1 h2
          rw [pr.szl] at h1 ⊢
          rw [pr.okL] at h2
          have h3 := bl_tk n x (by omega) h2.1
          have h4 := ih (by omega) h2.2
          unfold sumE at h4 ⊢
          simp only [List.map_cons, List.sum_cons]; omega
      exact key _ (by omega) ho.2
    change bl (pr.exprT e.fKind e.fN e.fName e.fWhat (pr.agE e.fArgs)) + 20 ≤ _
    omega
theorem bl_sumE (l : List S27) (h : pr.okL l) : sumE l ≤ 200 * pr.szl l := by
  induction l with
  | nil => simp [sumE]
  | cons x r ih =>
    rw [pr.okL] at h
    rw [pr.szl]
    have h3 := bl_tk _ x (Nat.le_refl _) h.1
    have h4 := ih h.2
    unfold sumE at h4 ⊢
    simp only [List.map_cons, List.sum_cons]; omega

/-! Statements. -/
def sumN (f : Nat → Nat) (n : Nat) : Nat := ((List.range n).map f).sum
theorem sumN_succ (f : Nat → Nat) (n : Nat) : sumN f (n + 1) = f 0 + sumN (fun i => f (i + 1)) n := by
  unfold sumN
  rw [List.range_succ_eq_map]
  simp [List.map_map, Function.comp_def]
theorem sumN_get {X : Type} (f : Option X → Nat) (c : Nat) (h0 : f none ≤ c) : ∀ (l : List X) (n : Nat), sumN (fun i => f l[i]?) n ≤ c * n + (l.map fun x => f (some x)).sum
  | l, 0 => by simp [sumN]
  | [], n + 1 => by
    have := sumN_get f c h0 ([] : List X) n
    rw [sumN_succ]
    simp only [List.getElem?_nil, List.map_nil, List.sum_nil] at this ⊢
    rw [Nat.mul_succ]; omega
  | x :: r, n + 1 => by
    have := sumN_get f c h0 r n
    rw [sumN_succ]
    simp only [List.getElem?_cons_zero, List.getElem?_cons_succ, List.map_cons, List.sum_cons]
    rw [Nat.mul_succ]; omega
theorem sumN_last (f : Nat → Nat) (n : Nat) : sumN f (n + 1) = sumN f n + f n := by
  unfold sumN
  rw [List.range_succ]; simp
theorem sumN_add (f g : Nat → Nat) : ∀ n, sumN (fun i => f i + g i) n = sumN f n + sumN g n
  | 0 => by simp [sumN]
  | n + 1 => by rw [sumN_last, sumN_last, sumN_last, sumN_add f g n]; omega
theorem sumN_le {f g : Nat → Nat} (h : ∀ i, f i ≤ g i) : ∀ n, sumN f n ≤ sumN g n
  | 0 => by simp [sumN]
  | n + 1 => by rw [sumN_last, sumN_last]; have := sumN_le h n; have := h n; omega
theorem sumN_const (c : Nat) : ∀ n, sumN (fun _ => c) n = c * n
  | 0 => by simp [sumN]
  | n + 1 => by rw [sumN_last, sumN_const c n, Nat.mul_succ]
theorem bl_range (g : Nat → Nat → List Bytes) (n : Nat) : bl (pr.gat g 0 (List.range n)) = sumN (fun i => bl (g i i)) n := by
  have key : ∀ (d k : Nat), bl (pr.gat g k ((List.range d).map (· + k))) = sumN (fun i => bl (g (i + k) (i + k))) d := by
    intro d
    induction d with
    | zero => intro k; simp [sumN, pr.gat, bl_nil]
    | succ d ih =>
      intro k
      rw [List.range_succ_eq_map, sumN_succ]
      simp only [List.map_cons, List.map_map, pr.gat, bl_app, Nat.zero_add]
      have := ih (k + 1)
      have e : ((fun x => x + k) ∘ Nat.succ) = (fun x => x + (k + 1)) := by funext x; simp only [Function.comp, Nat.succ_eq_add_one]; omega
      rw [e, this]
      congr 2
      funext i
      rw [show i + (k + 1) = i + 1 + k by omega]
  have := key n 0
  simpa using this

/-- How long what a block writes is. -/
def bB (b : Option (List S43)) : Nat := match b with
  | none => 0
  | some b => bl (pr.stsT b)
theorem agB_at (l : List (List S43)) (i : Nat) : (pr.agB l).getD i [] = ((l[i]?).map fun b => b.map pr.tkS).getD [] := by
  unfold pr.agB
  rw [List.getD, List.getElem?_map]
theorem bl_blk (l : List (List S43)) (i : Nat) : bl (pr.blkT (pr.agB l) i) = bB l[i]? := by
  unfold pr.blkT
  rw [agB_at]
  cases l[i]? with
  | none => rfl
  | some b => rfl
theorem bl_else (l : List (List S43)) (i : Nat) : bl (pr.elseT (pr.agB l) i) ≤ 5 + bB l[i]? := by
  unfold pr.elseT
  rw [agB_at]
  cases l[i]? with
  | none => simp [pr.elseL, bl_nil]
  | some b =>
    cases b with
    | nil => simp [pr.elseL, bl_nil]
    | cons x r =>
      show bl (pr.elseL (pr.tkS x :: r.map pr.tkS)) ≤ 5 + bl (pr.tkS x :: r.map pr.tkS).flatten
      simp only [pr.elseL, bl_app, bl_cons, bl_nil, List.length_cons, List.length_nil]; omega
def sumB (l : List (List S43)) : Nat := (l.map fun b => bl (pr.stsT b)).sum
theorem bl_blks (l : List (List S43)) (n : Nat) : sumN (fun i => bl (pr.blkT (pr.agB l) i)) n + bl (pr.elseT (pr.agB l) n) ≤ 5 + sumB l := by
  have h1 := sumN_get bB 0 (by simp [bB]) l (n + 1)
  rw [sumN_last] at h1
  have h2 := bl_else l n
  have h3 : sumN (fun i => bl (pr.blkT (pr.agB l) i)) n = sumN (fun i => bB l[i]?) n := by
    congr 1; funext i; exact bl_blk l i
  have h4 : (l.map fun x => bB (some x)).sum = sumB l := rfl
  omega
theorem bl_blk0 (l : List (List S43)) : bl (pr.blkT (pr.agB l) 0) ≤ sumB l := by
  rw [bl_blk]
  cases l with
  | nil => simp [bB]
  | cons x r => simp only [List.getElem?_cons_zero, bB, sumB, List.map_cons, List.sum_cons]; omega
def bE (e : Option S27) : Nat := match e with
  | none => 2
  | some e => bl (pr.tkE e)
theorem bl_at_opt (l : List S27) (i : Nat) : bl (pr.atT (pr.agE l) i) = bE l[i]? := by
  unfold pr.atT pr.agE
  rw [List.getElem?_map]
  cases l[i]? with
  | none => simp [bE, bl, B, pr.B]
  | some e => rfl
theorem bl_ats (l : List S27) (n : Nat) : sumN (fun i => bl (pr.atT (pr.agE l) i)) n + 20 * l.length ≤ 2 * n + sumE l := by
  have h1 := sumN_get bE 2 (by simp [bE]) l n
  have h3 : sumN (fun i => bl (pr.atT (pr.agE l) i)) n = sumN (fun i => bE l[i]?) n := by
    congr 1; funext i; exact bl_at_opt l i
  have h4 : (l.map fun x => bE (some x)).sum + 20 * l.length = sumE l := by
    induction l with
    | nil => simp [sumE]
    | cons x r ih =>
      unfold sumE at ih ⊢
      simp only [List.map_cons, List.sum_cons, List.length_cons]
      have := ih (sumN_get bE 2 (by simp [bE]) r n) (by congr 1; funext i; exact bl_at_opt r i)
      simp only [bE]
      simp only [bE] at this
      omega
  omega
theorem bl_at01 (l : List S27) : bl (pr.atT (pr.agE l) 0) + bl (pr.atT (pr.agE l) 1) ≤ 4 + sumE l := by
  have h := bl_ats l 2
  rw [sumN_last, sumN_last] at h
  have : sumN (fun i => bl (pr.atT (pr.agE l) i)) 0 = 0 := by simp [sumN]
  omega
theorem bl_if (ex : List S27) (l : List (List S43)) : bl (pr.ifT (pr.agE ex) (pr.agB l)) ≤ 60 + sumE ex + sumB l := by
  unfold pr.ifT
  rw [agE_len]
  simp only [bl_app, bl_cons, bl_nil, List.length_cons, List.length_nil, bl_range]
  have h1 : ∀ i, (pr.ifW i).length + 1 + 0 + bl (pr.atT (pr.agE ex) i) + (0 + 1 + 1 + 1 + 1 + 1 + 0) + bl (pr.blkT (pr.agB l) i) ≤ 11 + (bl (pr.atT (pr.agE ex) i) + bl (pr.blkT (pr.agB l) i)) := by
    intro i
    have : (pr.ifW i).length ≤ 5 := by unfold pr.ifW; split <;> simp
    omega
  have h2 := sumN_le h1 (max ex.length 1)
  have e1 : sumN (fun i => 11 + (bl (pr.atT (pr.agE ex) i) + bl (pr.blkT (pr.agB l) i))) (max ex.length 1) = 11 * (max ex.length 1) + (sumN (fun i => bl (pr.atT (pr.agE ex) i)) (max ex.length 1) + sumN (fun i => bl (pr.blkT (pr.agB l) i)) (max ex.length 1)) := by
    rw [sumN_add (fun _ => 11) (fun i => bl (pr.atT (pr.agE ex) i) + bl (pr.blkT (pr.agB l) i)), sumN_add (fun i => bl (pr.atT (pr.agE ex) i)) (fun i => bl (pr.blkT (pr.agB l) i)), sumN_const]
  rw [e1] at h2
  have h3 := bl_blks l (max ex.length 1)
  have h4 := bl_ats ex (max ex.length 1)
  omega
def sumL (l : List (List Int)) : Nat := 27 * pr.szLab l
theorem bl_lab (l : List Int) (h : ∀ n ∈ l, I64 n) : bl (pr.labT l) ≤ 27 * l.length := by
  unfold pr.labT
  have key : ∀ (l : List Int) (k : Nat), (∀ n ∈ l, I64 n) → bl (pr.gat (fun i n => pr.com i ++ numT n) k l) ≤ 27 * l.length := by
    intro l
    induction l with
    | nil => intro k _; simp [pr.gat, bl_nil]
    | cons x r ih =>
      intro k h
      have h1 := bl_num (h x (by simp))
      have h2 := ih (k + 1) fun n hn => h n (by simp [hn])
      have h3 := bl_com k
      simp only [pr.gat, bl_app, List.length_cons]; omega
  exact key l 0 h
theorem bl_case (ex : List S27) (lb : List (List Int)) (l : List (List S43)) (h : pr.okLab lb) : bl (pr.caseT (pr.agE ex) lb (pr.agB l)) ≤ 60 + sumE ex + sumL lb + sumB l := by
  unfold pr.caseT
  simp only [bl_app, bl_cons, bl_nil, List.length_cons, List.length_nil]
  have h1 := bl_at ex 0
  have h3 := bl_blks l lb.length
  have key : ∀ (lb : List (List Int)) (k : Nat), pr.okLab lb → bl (pr.gat (fun i x => pr.labT x ++ [[58]] ++ pr.blkT (pr.agB l) i) k lb) ≤ 27 * pr.szLab lb + sumN (fun i => bl (pr.blkT (pr.agB l) (i + k))) lb.length := by
    intro lb
    induction lb with
    | nil => intro k _; simp [pr.gat, bl_nil]
    | cons x r ih =>
      intro k h
      have h1 := bl_lab x (h x (by simp))
      have h2 := ih (k + 1) fun y hy => h y (by simp [hy])
      have e : (fun i => bl (pr.blkT (pr.agB l) (i + (k + 1)))) = fun i => bl (pr.blkT (pr.agB l) (i + 1 + k)) := by funext i; rw [show i + (k + 1) = i + 1 + k by omega]
      rw [e] at h2
      simp only [pr.gat, bl_app, bl_cons, bl_nil, List.length_cons, List.length_nil, sumN_succ, pr.szLab, List.map_cons, List.sum_cons] at h2 ⊢
      simp only [Nat.zero_add]
      omega
  have h4 := key lb 0 h
  simp only [Nat.add_zero] at h4
  unfold sumL
  omega
theorem bl_ret (ex : List S27) : bl (pr.retT (pr.agE ex)) ≤ sumE ex := by
  cases ex with
  | nil => simp [pr.agE, pr.retT, bl_nil]
  | cons x r => simp only [pr.agE, List.map_cons, pr.retT, sumE, List.sum_cons]; omega
theorem bl_stmtB (k n : Int) (nm : Bytes) (ex : List S27) (lb : List (List Int)) (l : List (List S43)) (hn : I64 n) (h : pr.okLab lb) : bl (pr.stmtB k n nm (pr.agE ex) lb (pr.agB l)) ≤ 100 + nm.length + sumE ex + sumL lb + sumB l := by
  have h1 := bl_at ex 0
  have h2 := bl_at01 ex
  have h3 := bl_if ex l
  have h4 := bl_case ex lb l h
  have h5 := bl_blk0 l
  have h6 := bl_ret ex
  have h7 := bl_num hn
  unfold pr.stmtB
  repeat' refine ite_le ?_ ?_
  all_goals try simp only [bl_app, bl_cons, bl_nil, List.length_cons, List.length_nil]
  all_goals omega

theorem bl_stsT (l : List S43) : bl (pr.stsT l) = (l.map fun s => bl (pr.tkS s)).sum := by
  unfold pr.stsT
  induction l with
  | nil => rfl
  | cons x r ih => simp only [List.map_cons, List.flatten_cons, bl_app, List.sum_cons, ih]
theorem bl_tkS : ∀ (n : Nat) (s : S43), pr.szS s ≤ n → pr.okS s → bl (pr.tkS s) ≤ 200 * pr.szS s
  | 0, e, hn, ho => by have := pr.szS_eq e; omega
  | n + 1, e, hn, ho => by
    have hs := pr.szS_eq e
    rw [pr.okS_eq] at ho
    obtain ⟨o1, o2, o3, o4⟩ := ho
    rw [pr.tkS_eq]
    have h1 := bl_stmtB e.fKind e.fN e.fName e.fExprs e.fLabels e.fBlocks o1 o3
    have h2 := bl_sumE e.fExprs o2
    have h3 : sumB e.fBlocks ≤ 200 * pr.szSll e.fBlocks := by
      have k1 : ∀ l : List S43, pr.szSl l ≤ n → pr.okSl l → bl (pr.stsT l) ≤ 200 * pr.szSl l := by
        intro l
        rw [bl_stsT]
        induction l with
        | nil => intro _ _; simp
        | cons x r ih =>
          intro h1 h2
          rw [pr.szSl] at h1 ⊢
          rw [pr.okSl] at h2
          have h3 := bl_tkS n x (by omega) h2.1
          have h4 := ih (by omega) h2.2
          simp only [List.map_cons, List.sum_cons]; omega
      have k2 : ∀ l : List (List S43), pr.szSll l ≤ n → pr.okSll l → sumB l ≤ 200 * pr.szSll l := by
        intro l
        induction l with
        | nil => intro _ _; simp [sumB]
        | cons x r ih =>
          intro h1 h2
          rw [pr.szSll] at h1 ⊢
          rw [pr.okSll] at h2
          have h3 := k1 x (by omega) h2.1
          have h4 := ih (by omega) h2.2
          unfold sumB at h4 ⊢
          simp only [List.map_cons, List.sum_cons]; omega
      exact k2 _ (by omega) o4
    unfold sumL at h1
    simp only [bl_app, bl_cons, bl_nil, List.length_cons, List.length_nil]
    omega
theorem bl_sts (l : List S43) (h : pr.okSl l) : bl (pr.stsT l) ≤ 200 * pr.szSl l := by
  rw [bl_stsT]
  induction l with
  | nil => simp
  | cons x r ih =>
    rw [pr.okSl] at h
    rw [pr.szSl]
    have h3 := bl_tkS _ x (Nat.le_refl _) h.1
    have h4 := ih h.2
    simp only [List.map_cons, List.sum_cons]; omega

/-! Declarations. -/
def szV (v : S38) : Nat := 1 + v.fName.length + v.fType.fName.length
def szM (m : S54) : Nat := 1 + m.fName.length + m.fResult.fName.length + (m.fParams.map szV).sum + (m.fVars.map szV).sum + pr.szSl m.fBody
def szD (d : S48) : Nat := 1 + d.fName.length + d.fBase.length + (d.fFaces.map fun f => f.length + 1).sum + (d.fVars.map szV).sum + (d.fMethods.map szM).sum + pr.szSl d.fBody
theorem sum_le {X : Type} (f g : X → Nat) (c : Nat) (l : List X) (h : ∀ x ∈ l, f x ≤ c * g x) : (l.map f).sum ≤ c * (l.map g).sum := by
  induction l with
  | nil => simp
  | cons x r ih =>
    have h1 := h x (by simp)
    have h2 := ih fun y hy => h y (by simp [hy])
    simp only [List.map_cons, List.sum_cons, Nat.mul_add]; omega
theorem bl_gat' {X : Type} (g : Nat → X → List Bytes) (f : X → Nat) : ∀ (l : List X) (n : Nat), (∀ i, ∀ x ∈ l, bl (g i x) ≤ f x) → bl (pr.gat g n l) ≤ (l.map f).sum
  | [], n, _ => by simp [pr.gat, bl_nil]
  | x :: r, n, h => by
    have := bl_gat' g f r (n + 1) fun i y hy => h i y (by simp [hy])
    have h1 := h n x (by simp)
    simp only [pr.gat, bl_app, List.map_cons, List.sum_cons]; omega
theorem bl_var (v : S38) (h : pr.okV v) : bl (pr.varT v) ≤ 200 * szV v := by
  obtain ⟨⟨h1, h2⟩, h3, h4⟩ := h
  have t := bl_ty v.fType h1 h2
  have n1 := bl_num h3
  have n2 := bl_num h4
  have i1 : bl (if v.fInit = 0 then [] else [[58, 61]] ++ numT v.fInit) ≤ 28 := ite_le (by simp [bl_nil]) (by simp only [bl_app, bl_cons, bl_nil, List.length_cons, List.length_nil]; omega)
  have i2 : bl (if v.fDir = 1 then [[65, 84], [73, 78]] ++ numT v.fSlot else if v.fDir = 2 then [[65, 84], [79, 85, 84]] ++ numT v.fSlot else []) ≤ 32 := ite_le (by simp only [bl_app, bl_cons, bl_nil, List.length_cons, List.length_nil]; omega) (ite_le (by simp only [bl_app, bl_cons, bl_nil, List.length_cons, List.length_nil]; omega) (by simp [bl_nil]))
  unfold pr.varT szV
  simp only [bl_app, bl_cons, bl_nil, List.length_cons, List.length_nil]; omega
theorem bl_vars (l : List S38) (h : ∀ v ∈ l, pr.okV v) : bl (pr.varsT l) ≤ 200 * (l.map szV).sum := by
  refine Nat.le_trans (bl_gat' _ (fun v => bl (pr.varT v)) l 0 fun i x _ => Nat.le_refl _) (sum_le _ _ _ l fun x hx => bl_var x (h x hx))
theorem bl_par (l : List S38) (h : ∀ v ∈ l, pr.okV v) : bl (pr.parT l) ≤ 200 * (l.map szV).sum := by
  refine Nat.le_trans (bl_gat' _ (fun v => 200 * szV v) l 0 fun i x hx => ?_) (sum_le _ _ _ l fun x hx => Nat.le_refl _)
  have t := bl_ty x.fType (h x hx).1.1 (h x hx).1.2
  have c := bl_com i
  unfold szV
  simp only [bl_app, bl_cons, bl_nil, List.length_cons, List.length_nil]; omega
theorem bl_head (m : S54) (h : pr.okM m) : bl (pr.headT m) + 80 ≤ 200 * (1 + m.fName.length + m.fResult.fName.length + (m.fParams.map szV).sum) := by
  obtain ⟨h1, ⟨h2, h3⟩, h4, h5⟩ := h
  have t := bl_ty m.fResult h2 h3
  have p := bl_par m.fParams h1
  have i1 : bl (if m.fResult.fKind = 0 then [] else [[58]] ++ pr.tyT m.fResult) ≤ 82 + m.fResult.fName.length := ite_le (by simp [bl_nil]) (by simp only [bl_app, bl_cons, bl_nil, List.length_cons, List.length_nil]; omega)
  unfold pr.headT
  simp only [bl_app, bl_cons, bl_nil, List.length_cons, List.length_nil]; omega
theorem bl_flag (b : Bool) (w : Bytes) : bl (pr.flag b w) ≤ w.length + 1 := by
  cases b <;> simp [pr.flag, bl_cons, bl_nil]
theorem bl_face (m : S54) (h : pr.okM m) : bl (pr.faceT m) ≤ 200 * szM m := by
  have := bl_head m h
  unfold pr.faceT szM
  simp only [bl_app, bl_cons, bl_nil, List.length_cons, List.length_nil]; omega
theorem bl_meth (m : S54) (h : pr.okM m) : bl (pr.methT m) ≤ 200 * szM m := by
  have h0 := bl_head m h
  obtain ⟨h1, ⟨h2, h3⟩, h4, h5⟩ := h
  have v := bl_vars m.fVars h4
  have s := bl_sts m.fBody h5
  have f1 := bl_flag m.fOver [79, 86, 69, 82, 82, 73, 68, 69]
  have f2 := bl_flag m.fAbstract [65, 66, 83, 84, 82, 65, 67, 84]
  have f3 := bl_flag m.fFinal [70, 73, 78, 65, 76]
  unfold pr.methT szM
  simp only [bl_app, bl_cons, bl_nil, List.length_cons, List.length_nil] at f1 f2 f3 ⊢; omega
theorem bl_decl (d : S48) (h : pr.okD d) : bl (pr.declT d) ≤ 200 * szD d := by
  obtain ⟨h1, h2, h3, h4, h5⟩ := h
  have v := bl_vars d.fVars h1
  have s := bl_sts d.fBody h3
  have n1 := bl_num h4
  have n2 := bl_num h5
  have f2 := bl_flag d.fAbstract [65, 66, 83, 84, 82, 65, 67, 84]
  have f3 := bl_flag d.fFinal [70, 73, 78, 65, 76]
  have m1 : bl (pr.gat (fun _ m => pr.faceT m) 0 d.fMethods) ≤ 200 * (d.fMethods.map szM).sum := Nat.le_trans (bl_gat' _ (fun m => 200 * szM m) _ 0 fun i x hx => bl_face x (h2 x hx)) (sum_le _ _ _ _ fun x hx => Nat.le_refl _)
  have m2 : bl (pr.gat (fun _ m => pr.methT m) 0 d.fMethods) ≤ 200 * (d.fMethods.map szM).sum := Nat.le_trans (bl_gat' _ (fun m => 200 * szM m) _ 0 fun i x hx => bl_meth x (h2 x hx)) (sum_le _ _ _ _ fun x hx => Nat.le_refl _)
  have m3 : bl (pr.gat pr.impT 0 d.fFaces) ≤ 20 * (d.fFaces.map fun f => f.length + 1).sum := Nat.le_trans (bl_gat' _ (fun f => 20 * (f.length + 1)) _ 0 fun i x hx => by
    unfold pr.impT
    by_cases c : i = 0
    · simp only [c, ↓reduceIte, bl_cons, bl_nil, List.length_cons, List.length_nil]; omega
    · simp only [c, ↓reduceIte, bl_cons, bl_nil, List.length_cons, List.length_nil]; omega) (sum_le _ _ _ _ fun x hx => Nat.le_refl _)
  have b1 : bl (if d.fBase = [] then [] else [[69, 88, 84, 69, 78, 68, 83], d.fBase]) ≤ 10 + d.fBase.length := ite_le (by simp [bl_nil]) (by simp only [bl_cons, bl_nil, List.length_cons, List.length_nil]; omega)
  unfold pr.declT szD
  simp only [List.length_cons, List.length_nil] at f2 f3
  repeat' refine ite_le ?_ ?_
  all_goals try simp only [bl_app, bl_cons, bl_nil, List.length_cons, List.length_nil]
  all_goals omega
end Go.Proofs.YtaoklnkjcobokaaDoor
