/- How long what is written can be. The law of PrintJoins. No conditions. -/
import Derived.Test.YtaoklnkjcobokaaDoorPC
import Derived.Test.YtaoklnkjcobokaaDoorPE
import Derived.Test.YtaoklnkjcobokaaDoorPGe
set_option linter.unusedVariables false
set_option linter.unusedSimpArgs false
set_option linter.unusedSectionVars false
namespace Go.Proofs.YtaoklnkjcobokaaDoor
open Go Go.Proofs Go.Dl
set_option maxRecDepth 100000
open pr (B J)

/-- How long a text of tokens is. -/
def bl (t : List Bytes) : Nat := (B t).length
theorem bl_app (a b : List Bytes) : bl (a ++ b) = bl a + bl b := by simp [bl, pr.B_app]
theorem bl_cons (a : Bytes) (b : List Bytes) : bl (a :: b) = a.length + 1 + bl b := by simp [bl, pr.B_cons]; omega
theorem bl_nil : bl [] = 0 := rfl
theorem bl_num {n : Int} (h : I64 n) : bl (numT n) ≤ 25 := numB_len h

theorem named_len (n : Int) (l : List Bytes) (k : Nat) (hk : 1 ≤ k) (h : ∀ x ∈ l, x.length ≤ k) : (pr.named n l).length ≤ k := by
  unfold pr.named
  split
  · simpa using hk
  · rename_i hn
    rw [pr.getD_el (by omega)]
    exact h _ (List.getElem_mem _)

theorem ite_le {c : Prop} [Decidable c] {a b : List Bytes} {k : Nat} (ha : bl a ≤ k) (hb : bl b ≤ k) : bl (if c then a else b) ≤ k := by by_cases h : c <;> simp [h, ha, hb]
theorem bl_ty (t : S29) (h1 : I64 t.fLo) (h2 : I64 t.fHi) : bl (pr.tyT t) ≤ 80 + t.fName.length := by
  have n1 := bl_num h1
  have n2 := bl_num h2
  have n3 := named_len t.fLo pr.timers 10 (by omega) (by unfold pr.timers; simp)
  unfold pr.tyT
  repeat' refine ite_le ?_ ?_
  all_goals try simp only [bl_app, bl_cons, bl_nil, List.length_cons, List.length_nil]
  all_goals omega

def sumE (l : List S27) : Nat := (l.map fun x => bl (pr.tkE x) + 20).sum
theorem bl_at (l : List S27) (i : Nat) : bl (pr.atT (pr.agE l) i) ≤ 2 + sumE l := by
  by_cases h : i < l.length
  · rw [at_some h]
    have hm := pr.getD_mem h
    have : ∀ (l : List S27) x, x ∈ l → bl (pr.tkE x) ≤ sumE l := by
      intro l
      induction l with
      | nil => intro x hx; cases hx
      | cons y r ih =>
        intro x hx
        unfold sumE at ih ⊢
        simp only [List.map_cons, List.sum_cons]
        rcases List.mem_cons.1 hx with rfl | hx
        · omega
        · have := ih x hx; omega
    have := this l _ hm
    omega
  · rw [at_none (by rw [agE_len]; omega)]
    simp [bl, B, pr.B]
theorem bl_opd_some (l : List S27) (i : Nat) (h : i < l.length) : bl (pr.opdT (pr.agE l) i) ≤ bl (pr.tkE (l.getD i default)) + 4 := by
  rw [opd_some h]
  refine ite_le ?_ (by omega)
  simp only [bl_app, bl_cons, bl_nil, List.length_cons, List.length_nil]; omega
theorem bl_opd_none (l : List S27) (i : Nat) (h : l.length ≤ i) : bl (pr.opdT (pr.agE l) i) ≤ 2 := by
  rw [opd_none (by rw [agE_len]; omega)]; simp [bl, B, pr.B]
theorem bl_opds (l : List S27) : bl (pr.opdT (pr.agE l) 0) + bl (pr.opdT (pr.agE l) 1) ≤ 4 + sumE l := by
  rcases l with _ | ⟨x, _ | ⟨y, r⟩⟩
  · have h0 := bl_opd_none [] 0 (by simp)
    have h1 := bl_opd_none [] 1 (by simp)
    omega
  · have h0 := bl_opd_some [x] 0 (by simp)
    have h1 := bl_opd_none [x] 1 (by simp)
    simp only [sumE, List.map_cons, List.map_nil, List.sum_cons, List.sum_nil]
    simp at h0
    omega
  · have h0 := bl_opd_some (x :: y :: r) 0 (by simp)
    have h1 := bl_opd_some (x :: y :: r) 1 (by simp)
    simp only [sumE, List.map_cons, List.map_nil, List.sum_cons, List.sum_nil]
    simp at h0 h1
    omega
theorem bl_gat {X : Type} (g : Nat → X → List Bytes) (f : X → Nat) (h : ∀ i x, bl (g i x) ≤ f x) : ∀ (l : List X) (n : Nat), bl (pr.gat g n l) ≤ (l.map f).sum
  | [], n => by simp [pr.gat, bl_nil]
  | x :: r, n => by
    have := bl_gat g f h r (n + 1)
    have h1 := h n x
    simp only [pr.gat, bl_app, List.map_cons, List.sum_cons]; omega
theorem bl_com (i : Nat) : bl (pr.com i) ≤ 2 := by unfold pr.com; exact ite_le (by simp [bl, B, pr.B]) (by simp [bl, B, pr.B])
theorem bl_list (l : List S27) : bl (pr.listT (pr.agE l)) ≤ sumE l := by
  have e : pr.listT (pr.agE l) = pr.gat (fun i x => pr.com i ++ pr.tkE x) 0 l := by
    unfold pr.listT pr.agE
    have : ∀ (l : List S27) (n : Nat), pr.gat (fun i (p : Int × List Bytes) => pr.com i ++ p.2) n (l.map fun x => (x.fKind, pr.tkE x)) = pr.gat (fun i x => pr.com i ++ pr.tkE x) n l := by
      intro l
      induction l with
      | nil => intro n; rfl
      | cons x r ih => intro n; simp only [List.map_cons, pr.gat]; rw [ih]
    exact this l 0
  rw [e]
  exact bl_gat _ (fun x => bl (pr.tkE x) + 20) (fun i x => by have := bl_com i; simp only [bl_app]; omega) l 0

theorem bl_expr (k n : Int) (nm wh : Bytes) (l : List S27) (hn : I64 n) : bl (pr.exprT k n nm wh (pr.agE l)) ≤ 60 + nm.length + wh.length + sumE l := by
  have n1 := bl_num hn
  have n2 := named_len n pr.ops 5 (by omega) (by unfold pr.ops; simp)
  have n3 := named_len (n + 1) [nm, [84, 72, 73, 83], [83, 85, 80, 69, 82]] (nm.length + 5) (by omega) (by simp)
  have a0 := bl_at l 0
  have o0 := bl_opds l
  have l0 := bl_list l
  unfold pr.exprT
  generalize numT n = x at n1 ⊢
  repeat' refine ite_le ?_ ?_
  all_goals try simp only [bl_app, bl_cons, bl_nil, List.length_cons, List.length_nil]
  all_goals omega

theorem bl_tk : ∀ (n : Nat) (e : S27), pr.sz e ≤ n → pr.okE e → bl (pr.tkE e) + 20 ≤ 200 * pr.sz e
  | 0, e, hn, ho => by have := pr.sz_eq e; omega
  | n + 1, e, hn, ho => by
    have hs := pr.sz_eq e
    rw [pr.okE_eq] at ho
    rw [pr.tkE_eq]
    have h1 := bl_expr e.fKind e.fN e.fName e.fWhat e.fArgs ho.1
    have h2 : sumE e.fArgs ≤ 200 * pr.szl e.fArgs := by
      have key : ∀ l : List S27, pr.szl l ≤ n → pr.okL l → sumE l ≤ 200 * pr.szl l := by
        intro l
        induction l with
        | nil => intro _ _; simp [sumE]
        | cons x r ih =>
          intro h1 h2
          rw [pr.szl] at h1 ⊢
          rw [pr.okL] at h2
          have h3 := bl_tk n x (by omega) h2.1
          have h4 := ih (by omega) h2.2
          unfold sumE at h4 ⊢
          simp only [List.map_cons, List.sum_cons]; omega
      exact key _ (by omega) ho.2
    change bl (pr.exprT e.fKind e.fN e.fName e.fWhat (pr.agE e.fArgs)) + 20 ≤ _
    omega
theorem bl_sumE (l : List S27) (h : pr.okL l) : sumE l ≤ 200 * pr.szl l := by
  induction l with
  | nil => simp [sumE]
  | cons x r ih =>
    rw [pr.okL] at h
    rw [pr.szl]
    have h3 := bl_tk _ x (Nat.le_refl _) h.1
    have h4 := ih h.2
    unfold sumE at h4 ⊢
    simp only [List.map_cons, List.sum_cons]; omega

/-! Statements. -/
def sumN (f : Nat → Nat) (n : Nat) : Nat := ((List.range n).map f).sum
theorem sumN_succ (f : Nat → Nat) (n : Nat) : sumN f (n + 1) = f 0 + sumN (fun i => f (i + 1)) n := by
  unfold sumN
  rw [List.range_succ_eq_map]
  simp [List.map_map, Function.comp_def]
theorem sumN_get {X : Type} (f : Option X → Nat) (c : Nat) (h0 : f none ≤ c) : ∀ (l : List X) (n : Nat), sumN (fun i => f l[i]?) n ≤ c * n + (l.map fun x => f (some x)).sum
  | l, 0 => by simp [sumN]
  | [], n + 1 => by
    have := sumN_get f c h0 ([] : List X) n
    rw [sumN_succ]
    simp only [List.getElem?_nil, List.map_nil, List.sum_nil] at this ⊢
    rw [Nat.mul_succ]; omega
  | x :: r, n + 1 => by
    have := sumN_get f c h0 r n
    rw [sumN_succ]
    simp only [List.getElem?_cons_zero, List.getElem?_cons_succ, List.map_cons, List.sum_cons]
    rw [Nat.mul_succ]; omega
theorem sumN_last (f : Nat → Nat) (n : Nat) : sumN f (n + 1) = sumN f n + f n := by
  unfold sumN
  rw [List.range_succ]; simp
theorem sumN_add (f g : Nat → Nat) : ∀ n, sumN (fun i => f i + g i) n = sumN f n + sumN g n
  | 0 => by simp [sumN]
  | n + 1 => by rw [sumN_last, sumN_last, sumN_last, sumN_add f g n]; omega
theorem sumN_le {f g : Nat → Nat} (h : ∀ i, f i ≤ g i) : ∀ n, sumN f n ≤ sumN g n
  | 0 => by simp [sumN]
  | n + 1 => by rw [sumN_last, sumN_last]; have := sumN_le h n; have := h n; omega
theorem sumN_const (c : Nat) : ∀ n, sumN (fun _ => c) n = c * n
  | 0 => by simp [sumN]
  | n + 1 => by rw [sumN_last, sumN_const c n, Nat.mul_succ]
theorem bl_range (g : Nat → Nat → List Bytes) (n : Nat) : bl (pr.gat g 0 (List.range n)) = sumN (fun i => bl (g i i)) n := by
  have key : ∀ (d k : Nat), bl (pr.gat g k ((List.range d).map (· + k))) = sumN (fun i => bl (g (i + k) (i + k))) d := by
    intro d
    induction d with
    | zero => intro k; simp [sumN, pr.gat, bl_nil]
    | succ d ih =>
      intro k
      rw [List.range_succ_eq_map, sumN_succ]
      simp only [List.map_cons, List.map_map, pr.gat, bl_app, Nat.zero_add]
      have := ih (k + 1)
      have e : ((fun x => x + k) ∘ Nat.succ) = (fun x => x + (k + 1)) := by funext x; simp only [Function.comp, Nat.succ_eq_add_one]; omega
      rw [e, this]
      congr 2
      funext i
      rw [show i + (k + 1) = i + 1 + k by omega]
  have := key n 0
  simpa using this

/-- How long what a block writes is. -/
def bB (b : Option (List S43)) : Nat := match b with
  | none => 0
  | some b => bl (pr.stsT b)
theorem agB_at (l : List (List S43)) (i : Nat) : (pr.agB l).getD i [] = ((l[i]?).map fun b => b.map pr.tkS).getD [] := by
  unfold pr.agB
  rw [List.getD, List.getElem?_map]
theorem bl_blk (l : List (List S43)) (i : Nat) : bl (pr.blkT (pr.agB l) i) = bB l[i]? := by
  unfold pr.blkT
  rw [agB_at]
  cases l[i]? with
  | none => rfl
  | some b => rfl
theorem bl_else (l : List (List S43)) (i : Nat) : bl (pr.elseT (pr.agB l) i) ≤ 5 + bB l[i]? := by
  unfold pr.elseT
  rw [agB_at]
  cases l[i]? with
  | none => simp [pr.elseL, bl_nil]
  | some b =>
    cases b with
    | nil => simp [pr.elseL, bl_nil]
    | cons x r =>
      show bl (pr.elseL (pr.tkS x :: r.map pr.tkS)) ≤ 5 + bl (pr.tkS x :: r.map pr.tkS).flatten
      simp only [pr.elseL, bl_app, bl_cons, bl_nil, List.length_cons, List.length_nil]; omega
def sumB (l : List (List S43)) : Nat := (l.map fun b => bl (pr.stsT b)).sum
theorem bl_blks (l : List (List S43)) (n : Nat) : sumN (fun i => bl (pr.blkT (pr.agB l) i)) n + bl (pr.elseT (pr.agB l) n) ≤ 5 + sumB l := by
  have h1 := sumN_get bB 0 (by simp [bB]) l (n + 1)
  rw [sumN_last] at h1
  have h2 := bl_else l n
  have h3 : sumN (fun i => bl (pr.blkT (pr.agB l) i)) n = sumN (fun i => bB l[i]?) n := by
    congr 1; funext i; exact bl_blk l i
  have h4 : (l.map fun x => bB (some x)).sum = sumB l := rfl
  omega
theorem bl_blk0 (l : List (List S43)) : bl (pr.blkT (pr.agB l) 0) ≤ sumB l := by
  rw [bl_blk]
  cases l with
  | nil => simp [bB]
  | cons x r => simp only [List.getElem?_cons_zero, bB, sumB, List.map_cons, List.sum_cons]; omega
def bE (e : Option S27) : Nat := match e with
  | none => 2
  | some e => bl (pr.tkE e)
theorem bl_at_opt (l : List S27) (i : Nat) : bl (pr.atT (pr.agE l) i) = bE l[i]? := by
  unfold pr.atT pr.agE
  rw [List.getElem?_map]
  cases l[i]? with
  | none => simp [bE, bl, B, pr.B]
  | some e => rfl
theorem bl_ats (l : List S27) (n : Nat) : sumN (fun i => bl (pr.atT (pr.agE l) i)) n + 20 * l.length ≤ 2 * n + sumE l := by
  have h1 := sumN_get bE 2 (by simp [bE]) l n
  have h3 : sumN (fun i => bl (pr.atT (pr.agE l) i)) n = sumN (fun i => bE l[i]?) n := by
    congr 1; funext i; exact bl_at_opt l i
  have h4 : (l.map fun x => bE (some x)).sum + 20 * l.length = sumE l := by
    induction l with
    | nil => simp [sumE]
    | cons x r ih =>
      unfold sumE at ih ⊢
      simp only [List.map_cons, List.sum_cons, List.length_cons]
      have := ih (sumN_get bE 2 (by simp [bE]) r n) (by congr 1; funext i; exact bl_at_opt r i)
      simp only [bE]
      simp only [bE] at this
      omega
  omega
theorem bl_at01 (l : List S27) : bl (pr.atT (pr.agE l) 0) + bl (pr.atT (pr.agE l) 1) ≤ 4 + sumE l := by
  have h := bl_ats l 2
  rw [sumN_last, sumN_last] at h
  have : sumN (fun i => bl (pr.atT (pr.agE l) i)) 0 = 0 := by simp [sumN]
  omega
theorem bl_if (ex : List S27) (l : List (List S43)) : bl (pr.ifT (pr.agE ex) (pr.agB l)) ≤ 60 + sumE ex + sumB l := by
  unfold pr.ifT
  rw [agE_len]
  simp only [bl_app, bl_cons, bl_nil, List.length_cons, List.length_nil, bl_range]
  have h1 : ∀ i, (pr.ifW i).length + 1 + 0 + bl (pr.atT (pr.agE ex) i) + (0 + 1 + 1 + 1 + 1 + 1 + 0) + bl (pr.blkT (pr.agB l) i) ≤ 11 + (bl (pr.atT (pr.agE ex) i) + bl (pr.blkT (pr.agB l) i)) := by
    intro i
    have : (pr.ifW i).length ≤ 5 := by unfold pr.ifW; split <;> simp
    omega
  have h2 := sumN_le h1 (max ex.length 1)
  have e1 : sumN (fun i => 11 + (bl (pr.atT (pr.agE ex) i) + bl (pr.blkT (pr.agB l) i))) (max ex.length 1) = 11 * (max ex.length 1) + (sumN (fun i => bl (pr.atT (pr.agE ex) i)) (max ex.length 1) + sumN (fun i => bl (pr.blkT (pr.agB l) i)) (max ex.length 1)) := by
    rw [sumN_add (fun _ => 11) (fun i => bl (pr.atT (pr.agE ex) i) + bl (pr.blkT (pr.agB l) i)), sumN_add (fun i => bl (pr.atT (pr.agE ex) i)) (fun i => bl (pr.blkT (pr.agB l) i)), sumN_const]
  rw [e1] at h2
  have h3 := bl_blks l (max ex.length 1)
  have h4 := bl_ats ex (max ex.length 1)
  omega
def sumL (l : List (List Int)) : Nat := 27 * pr.szLab l
theorem bl_lab (l : List Int) (h : ∀ n ∈ l, I64 n) : bl (pr.labT l) ≤ 27 * l.length := by
  unfold pr.labT
  have key : ∀ (l : List Int) (k : Nat), (∀ n ∈ l, I64 n) → bl (pr.gat (fun i n => pr.com i ++ numT n) k l) ≤ 27 * l.length := by
    intro l
    induction l with
    | nil => intro k _; simp [pr.gat, bl_nil]
    | cons x r ih =>
      intro k h
      have h1 := bl_num (h x (by simp))
      have h2 := ih (k + 1) fun n hn => h n (by simp [hn])
      have h3 := bl_com k
      simp only [pr.gat, bl_app, List.length_cons]; omega
  exact key l 0 h
theorem bl_case (ex : List S27) (lb : List (List Int)) (l : List (List S43)) (h : pr.okLab lb) : bl (pr.caseT (pr.agE ex) lb (pr.agB l)) ≤ 60 + sumE ex + sumL lb + sumB l := by
  unfold pr.caseT
  simp only [bl_app, bl_cons, bl_nil, List.length_cons, List.length_nil]
  have h1 := bl_at ex 0
  have h3 := bl_blks l lb.length
  have key : ∀ (lb : List (List Int)) (k : Nat), pr.okLab lb → bl (pr.gat (fun i x => pr.labT x ++ [[58]] ++ pr.blkT (pr.agB l) i) k lb) ≤ 27 * pr.szLab lb + sumN (fun i => bl (pr.blkT (pr.agB l) (i + k))) lb.length := by
    intro lb
    induction lb with
    | nil => intro k _; simp [pr.gat, bl_nil]
    | cons x r ih =>
      intro k h
      have h1 := bl_lab x (h x (by simp))
      have h2 := ih (k + 1) fun y hy => h y (by simp [hy])
      have e : (fun i => bl (pr.blkT (pr.agB l) (i + (k + 1)))) = fun i => bl (pr.blkT (pr.agB l) (i + 1 + k)) := by funext i; rw [show i + (k + 1) = i + 1 + k by omega]
      rw [e] at h2
      simp only [pr.gat, bl_app, bl_cons, bl_nil, List.length_cons, List.length_nil, sumN_succ, pr.szLab, List.map_cons, List.sum_cons] at h2 ⊢
      simp only [Nat.zero_add]
      omega
  have h4 := key lb 0 h
  simp only [Nat.add_zero] at h4
  unfold sumL
  omega
theorem bl_ret (ex : List S27) : bl (pr.retT (pr.agE ex)) ≤ sumE ex := by
  cases ex with
  | nil => simp [pr.agE, pr.retT, bl_nil]
  | cons x r => simp only [pr.agE, List.map_cons, pr.retT, sumE, List.sum_cons]; omega
theorem bl_stmtB (k n : Int) (nm : Bytes) (ex : List S27) (lb : List (List Int)) (l : List (List S43)) (hn : I64 n) (h : pr.okLab lb) : bl (pr.stmtB k n nm (pr.agE ex) lb (pr.agB l)) ≤ 100 + nm.length + sumE ex + sumL lb + sumB l := by
  have h1 := bl_at ex 0
  have h2 := bl_at01 ex
  have h3 := bl_if ex l
  have h4 := bl_case ex lb l h
  have h5 := bl_blk0 l
  have h6 := bl_ret ex
  have h7 := bl_num hn
  unfold pr.stmtB
  repeat' refine ite_le ?_ ?_
  all_goals try simp only [bl_app, bl_cons, bl_nil, List.length_cons, List.length_nil]
  all_goals omega

theorem bl_stsT (l : List S43) : bl (pr.stsT l) = (l.map fun s => bl (pr.tkS s)).sum := by
  unfold pr.stsT
  induction l with
  | nil => rfl
  | cons x r ih => simp only [List.map_cons, List.flatten_cons, bl_app, List.sum_cons, ih]
theorem bl_tkS : ∀ (n : Nat) (s : S43), pr.szS s ≤ n → pr.okS s → bl (pr.tkS s) ≤ 200 * pr.szS s
  | 0, e, hn, ho => by have := pr.szS_eq e; omega
  | n + 1, e, hn, ho => by
    have hs := pr.szS_eq e
    rw [pr.okS_eq] at ho
    obtain ⟨o1, o2, o3, o4⟩ := ho
    rw [pr.tkS_eq]
    have h1 := bl_stmtB e.fKind e.fN e.fName e.fExprs e.fLabels e.fBlocks o1 o3
    have h2 := bl_sumE e.fExprs o2
    have h3 : sumB e.fBlocks ≤ 200 * pr.szSll e.fBlocks := by
      have k1 : ∀ l : List S43, pr.szSl l ≤ n → pr.okSl l → bl (pr.stsT l) ≤ 200 * pr.szSl l := by
        intro l
        rw [bl_stsT]
        induction l with
        | nil => intro _ _; simp
        | cons x r ih =>
          intro h1 h2
          rw [pr.szSl] at h1 ⊢
          rw [pr.okSl] at h2
          have h3 := bl_tkS n x (by omega) h2.1
          have h4 := ih (by omega) h2.2
          simp only [List.map_cons, List.sum_cons]; omega
      have k2 : ∀ l : List (List S43), pr.szSll l ≤ n → pr.okSll l → sumB l ≤ 200 * pr.szSll l := by
        intro l
        induction l with
        | nil => intro _ _; simp [sumB]
        | cons x r ih =>
          intro h1 h2
          rw [pr.szSll] at h1 ⊢
          rw [pr.okSll] at h2
          have h3 := k1 x (by omega) h2.1
          have h4 := ih (by omega) h2.2
          unfold sumB at h4 ⊢
          simp only [List.map_cons, List.sum_cons]; omega
      exact k2 _ (by omega) o4
    unfold sumL at h1
    simp only [bl_app, bl_cons, bl_nil, List.length_cons, List.length_nil]
    omega
theorem bl_sts (l : List S43) (h : pr.okSl l) : bl (pr.stsT l) ≤ 200 * pr.szSl l := by
  rw [bl_stsT]
  induction l with
  | nil => simp
  | cons x r ih =>
    rw [pr.okSl] at h
    rw [pr.szSl]
    have h3 := bl_tkS _ x (Nat.le_refl _) h.1
    have h4 := ih h.2
    simp only [List.map_cons, List.sum_cons]; omega

/-! Declarations. -/
def szV (v : S38) : Nat := 1 + v.fName.length + v.fType.fName.length
def szM (m : S54) : Nat := 1 + m.fName.length + m.fResult.fName.length + (m.fParams.map szV).sum + (m.fVars.map szV).sum + pr.szSl m.fBody
def szD (d : S48) : Nat := 1 + d.fName.length + d.fBase.length + (d.fFaces.map fun f => f.length + 1).sum + (d.fVars.map szV).sum + (d.fMethods.map szM).sum + pr.szSl d.fBody
theorem sum_le {X : Type} (f g : X → Nat) (c : Nat) (l : List X) (h : ∀ x ∈ l, f x ≤ c * g x) : (l.map f).sum ≤ c * (l.map g).sum := by
  induction l with
  | nil => simp
  | cons x r ih =>
    have h1 := h x (by simp)
    have h2 := ih fun y hy => h y (by simp [hy])
    simp only [List.map_cons, List.sum_cons, Nat.mul_add]; omega
theorem bl_gat' {X : Type} (g : Nat → X → List Bytes) (f : X → Nat) : ∀ (l : List X) (n : Nat), (∀ i, ∀ x ∈ l, bl (g i x) ≤ f x) → bl (pr.gat g n l) ≤ (l.map f).sum
  | [], n, _ => by simp [pr.gat, bl_nil]
  | x :: r, n, h => by
    have := bl_gat' g f r (n + 1) fun i y hy => h i y (by simp [hy])
    have h1 := h n x (by simp)
    simp only [pr.gat, bl_app, List.map_cons, List.sum_cons]; omega
theorem bl_var (v : S38) (h : pr.okV v) : bl (pr.varT v) ≤ 200 * szV v := by
  obtain ⟨⟨h1, h2⟩, h3, h4⟩ := h
  have t := bl_ty v.fType h1 h2
  have n1 := bl_num h3
  have n2 := bl_num h4
  have i1 : bl (if v.fInit = 0 then [] else [[58, 61]] ++ numT v.fInit) ≤ 28 := ite_le (by simp [bl_nil]) (by simp only [bl_app, bl_cons, bl_nil, List.length_cons, List.length_nil]; omega)
  have i2 : bl (if v.fDir = 1 then [[65, 84], [73, 78]] ++ numT v.fSlot else if v.fDir = 2 then [[65, 84], [79, 85, 84]] ++ numT v.fSlot else []) ≤ 32 := ite_le (by simp only [bl_app, bl_cons, bl_nil, List.length_cons, List.length_nil]; omega) (ite_le (by simp only [bl_app, bl_cons, bl_nil, List.length_cons, List.length_nil]; omega) (by simp [bl_nil]))
  unfold pr.varT szV
  simp only [bl_app, bl_cons, bl_nil, List.length_cons, List.length_nil]; omega
theorem bl_vars (l : List S38) (h : ∀ v ∈ l, pr.okV v) : bl (pr.varsT l) ≤ 200 * (l.map szV).sum := by
  refine Nat.le_trans (bl_gat' _ (fun v => bl (pr.varT v)) l 0 fun i x _ => Nat.le_refl _) (sum_le _ _ _ l fun x hx => bl_var x (h x hx))
theorem bl_par (l : List S38) (h : ∀ v ∈ l, pr.okV v) : bl (pr.parT l) ≤ 200 * (l.map szV).sum := by
  refine Nat.le_trans (bl_gat' _ (fun v => 200 * szV v) l 0 fun i x hx => ?_) (sum_le _ _ _ l fun x hx => Nat.le_refl _)
  have t := bl_ty x.fType (h x hx).1.1 (h x hx).1.2
  have c := bl_com i
  unfold szV
  simp only [bl_app, bl_cons, bl_nil, List.length_cons, List.length_nil]; omega
theorem bl_head (m : S54) (h : pr.okM m) : bl (pr.headT m) + 80 ≤ 200 * (1 + m.fName.length + m.fResult.fName.length + (m.fParams.map szV).sum) := by
  obtain ⟨h1, ⟨h2, h3⟩, h4, h5⟩ := h
  have t := bl_ty m.fResult h2 h3
  have p := bl_par m.fParams h1
  have i1 : bl (if m.fResult.fKind = 0 then [] else [[58]] ++ pr.tyT m.fResult) ≤ 82 + m.fResult.fName.length := ite_le (by simp [bl_nil]) (by simp only [bl_app, bl_cons, bl_nil, List.length_cons, List.length_nil]; omega)
  unfold pr.headT
  simp only [bl_app, bl_cons, bl_nil, List.length_cons, List.length_nil]; omega
theorem bl_flag (b : Bool) (w : Bytes) : bl (pr.flag b w) ≤ w.length + 1 := by
  cases b <;> simp [pr.flag, bl_cons, bl_nil]
theorem bl_face (m : S54) (h : pr.okM m) : bl (pr.faceT m) ≤ 200 * szM m := by
  have := bl_head m h
  unfold pr.faceT szM
  simp only [bl_app, bl_cons, bl_nil, List.length_cons, List.length_nil]; omega
theorem bl_meth (m : S54) (h : pr.okM m) : bl (pr.methT m) ≤ 200 * szM m := by
  have h0 := bl_head m h
  obtain ⟨h1, ⟨h2, h3⟩, h4, h5⟩ := h
  have v := bl_vars m.fVars h4
  have s := bl_sts m.fBody h5
  have f1 := bl_flag m.fOver [79, 86, 69, 82, 82, 73, 68, 69]
  have f2 := bl_flag m.fAbstract [65, 66, 83, 84, 82, 65, 67, 84]
  have f3 := bl_flag m.fFinal [70, 73, 78, 65, 76]
  unfold pr.methT szM
  simp only [bl_app, bl_cons, bl_nil, List.length_cons, List.length_nil] at f1 f2 f3 ⊢; omega
theorem bl_decl (d : S48) (h : pr.okD d) : bl (pr.declT d) ≤ 200 * szD d := by
  obtain ⟨h1, h2, h3, h4, h5⟩ := h
  have v := bl_vars d.fVars h1
  have s := bl_sts d.fBody h3
  have n1 := bl_num h4
  have n2 := bl_num h5
  have f2 := bl_flag d.fAbstract [65, 66, 83, 84, 82, 65, 67, 84]
  have f3 := bl_flag d.fFinal [70, 73, 78, 65, 76]
  have m1 : bl (pr.gat (fun _ m => pr.faceT m) 0 d.fMethods) ≤ 200 * (d.fMethods.map szM).sum := Nat.le_trans (bl_gat' _ (fun m => 200 * szM m) _ 0 fun i x hx => bl_face x (h2 x hx)) (sum_le _ _ _ _ fun x hx => Nat.le_refl _)
  have m2 : bl (pr.gat (fun _ m => pr.methT m) 0 d.fMethods) ≤ 200 * (d.fMethods.map szM).sum := Nat.le_trans (bl_gat' _ (fun m => 200 * szM m) _ 0 fun i x hx => bl_meth x (h2 x hx)) (sum_le _ _ _ _ fun x hx => Nat.le_refl _)
  have m3 : bl (pr.gat pr.impT 0 d.fFaces) ≤ 20 * (d.fFaces.map fun f => f.length + 1).sum := Nat.le_trans (bl_gat' _ (fun f => 20 * (f.length + 1)) _ 0 fun i x hx => by
    unfold pr.impT
    by_cases c : i = 0
    · simp only [c, ↓reduceIte, bl_cons, bl_nil, List.length_cons, List.length_nil]; omega
    · simp only [c, ↓reduceIte, bl_cons, bl_nil, List.length_cons, List.length_nil]; omega) (sum_le _ _ _ _ fun x hx => Nat.le_refl _)
  have b1 : bl (if d.fBase = [] then [] else [[69, 88, 84, 69, 78, 68, 83], d.fBase]) ≤ 10 + d.fBase.length := ite_le (by simp [bl_nil]) (by simp only [bl_cons, bl_nil, List.length_cons, List.length_nil]; omega)
  unfold pr.declT szD
  simp only [List.length_cons, List.length_nil] at f2 f3
  repeat' refine ite_le ?_ ?_
  all_goals try simp only [bl_app, bl_cons, bl_nil, List.length_cons, List.length_nil]
  all_goals omega
end Go.Proofs.YtaoklnkjcobokaaDoor

set_option linter.unusedVariables false
set_option linter.unusedSimpArgs false
set_option linter.unusedSectionVars false
namespace Go.Proofs.YtaoklnkjcobokaaDoor
open Go Go.Proofs Go.Dl
set_option maxRecDepth 100000
open pr (B J)

theorem gat_const {X E : Type} (f : X → List E) : ∀ (l : List X) (n : Nat), pr.gat (fun _ x => f x) n l = pr.gat (fun _ x => f x) 0 l
  | [], _ => rfl
  | x :: r, n => by
    simp only [pr.gat]
    rw [gat_const f r (n + 1), gat_const f r (0 + 1)]
theorem unitT_app (a b : List S48) : pr.unitT (a ++ b) = pr.unitT a ++ pr.unitT b := by
  unfold pr.unitT
  rw [pr.gat_app, gat_const _ b]

def progD (t : S29) (e : S27) (nm : Bytes) : S48 := ⟨3, nm, [], [], false, false, [⟨nm, t, 0, 0, 0⟩], [], [⟨1, 0, nm, [e], [], []⟩], 0, 0⟩
theorem progT (t : S29) (e : S27) (nm : Bytes) : pr.unitT [progD t e nm] = [80, 82, 79, 71, 82, 65, 77, 32] ++ nm ++ [32, 59, 32, 86, 65, 82, 32] ++ nm ++ [32, 58, 32] ++ J (pr.tyT t) ++ [32, 59, 32] ++ nm ++ [32, 58, 61, 32] ++ J (pr.tkE e) ++ [32, 59, 32, 69, 78, 68, 95, 80, 82, 79, 71, 82, 65, 77, 10] := by
  have h1 : pr.declT (progD t e nm) = [[80, 82, 79, 71, 82, 65, 77], nm, [59], [86, 65, 82], nm, [58]] ++ pr.tyT t ++ [[59], nm, [58, 61]] ++ pr.tkE e ++ [[59], [69, 78, 68, 95, 80, 82, 79, 71, 82, 65, 77]] := by
    have hs : pr.tkS ⟨1, 0, nm, [e], [], []⟩ = [nm, [58, 61]] ++ pr.tkE e ++ [[59]] := by
      rw [pr.tkS_eq]; rfl
    unfold pr.declT progD
    simp only [Int.reduceEq, ↓reduceIte, pr.varsT, pr.gat, pr.varT, pr.stsT, List.map_cons, List.map_nil, List.flatten_cons, List.flatten_nil, hs, List.append_assoc, List.cons_append, List.nil_append, List.append_nil]
  have h2 : J (pr.declT (progD t e nm)) = [80, 82, 79, 71, 82, 65, 77, 32] ++ nm ++ [32, 59, 32, 86, 65, 82, 32] ++ nm ++ [32, 58, 32] ++ J (pr.tyT t) ++ [32, 59, 32] ++ nm ++ [32, 58, 61, 32] ++ J (pr.tkE e) ++ [32, 59, 32, 69, 78, 68, 95, 80, 82, 79, 71, 82, 65, 77] := by
    refine (J_of ?_).symm
    rw [h1]
    have n1 := J_app (tyT_ne t)
    have n2 := J_app (tk_ne e)
    simp only [pr.B_app, pr.B_cons, pr.B_nil, n1, n2, List.append_assoc, List.cons_append, List.nil_append]
  unfold pr.unitT
  simp only [pr.gat, h2, List.append_assoc, List.cons_append, List.nil_append, List.append_nil]
theorem prog_ok {t : S29} {e : S27} {nm : Bytes} (ht : pr.okT t) (he : pr.okE e) : pr.okD (progD t e nm) := by
  have i0 : I64 0 := by unfold I64; omega
  refine ⟨fun v hv => ?_, fun m hm => (by cases hm), ?_, i0, i0⟩
  · obtain rfl := List.mem_singleton.1 hv
    exact ⟨ht, i0, i0⟩
  · show pr.okSl [⟨1, 0, nm, [e], [], []⟩]
    rw [pr.okSl]
    refine ⟨?_, by rw [pr.okSl]; trivial⟩
    rw [pr.okS_eq]
    refine ⟨i0, ?_, fun x hx => (by cases hx), by rw [pr.okSll]; trivial⟩
    show pr.okL [e]
    rw [pr.okL]; exact ⟨he, by rw [pr.okL]; trivial⟩
theorem prog_sz (t : S29) (e : S27) (nm : Bytes) : pr.szSl (progD t e nm).fBody = 1 + nm.length + pr.sz e := by
  show pr.szSl [⟨1, 0, nm, [e], [], []⟩] = _
  rw [pr.szSl, pr.szSl, pr.szS_eq]
  show 1 + nm.length + pr.szl [e] + pr.szLab [] + pr.szSll [] + 0 = _
  rw [pr.szl, pr.szl, pr.szSll]
  simp [pr.szLab]
theorem prog_fit {t : S29} {e : S27} {nm : Bytes} (h : 1 + nm.length + pr.sz e ≤ 2000000) : okU [progD t e nm] → okU [progD t e nm] := id

theorem joins_law (K : Nat) (hK : 20000000 ≤ K) (u v : S24) (e : S27) (t : S29) (nm : Bytes) (hu : okU u.fDecls) (hv : okU v.fDecls) (huv : okU (u.fDecls ++ v.fDecls)) (he : pr.okE e) (hes : pr.sz e ≤ 1048576) (ht : pr.okT t) (hn : nm.length + pr.sz e ≤ 1048576)
    (bu : (pr.unitT u.fDecls).length ≤ 400000000) (bv : (pr.unitT v.fDecls).length ≤ 400000000) (be : (B (pr.tkE e)).length ≤ 400000000) (bt : (B (pr.tyT t)).length ≤ 100000000) : fnS (F4 K u v e t nm) = some true := by
  unfold F4
  obtain ⟨b1, h1⟩ := greatU_ex K u 200 hK hu
  obtain ⟨b2, h2⟩ := greatU_ex K v 200 hK hv
  obtain ⟨b3, h3⟩ := greatE_ex K e 100 hK (by omega)
  have hc2 : ∃ y, condM (!b1) (fnS (F5 K v 200)) default = some y := by rw [h2]; cases b1 <;> exact ⟨_, rfl⟩
  obtain ⟨y2, hy2⟩ := hc2
  have hc3 : ∃ y, condM (!(b1 || y2)) (fnS (F6 K e 100)) default = some y := by rw [h3]; cases (b1 || y2) <;> exact ⟨_, rfl⟩
  obtain ⟨y3, hy3⟩ := hc3
  rw [h1, Option.bind_some, hy2, Option.bind_some, hy3, Option.bind_some]
  simp only [letV]
  split
  · rw [awake_eq K hK]; rfl
  · have l1 := hu.1
    have l2 := hv.1
    have jt := J_len (tyT_ne t)
    have je := J_len (tk_ne e)
    have hp : okU [progD t e nm] := by
      refine ⟨by simp, fun d hd => ?_⟩
      obtain rfl := List.mem_singleton.1 hd
      refine ⟨prog_ok ht he, ⟨by simp [progD], by simp [progD], by simp [progD], ?_, fun m hm => (by cases hm)⟩⟩
      rw [prog_sz]; omega
    have hpl : (pr.unitT [progD t e nm]).length ≤ 800000000 := by
      rw [progT]
      simp only [List.length_append, List.length_cons, List.length_nil]; omega
    have e1 := punit_eq K hK (⟨u.fDecls ++ v.fDecls⟩ : S24) huv (by show (pr.unitT (u.fDecls ++ v.fDecls)).length ≤ _; rw [unitT_app, List.length_append]; omega)
    have e2 := punit_eq K hK u hu (by omega)
    have e3 := punit_eq K hK v hv (by omega)
    have e4 := punit_eq K hK (⟨[progD t e nm]⟩ : S24) hp hpl
    have e5 := ptype_eq K t ht.1 ht.2 (by omega)
    have e6 := pexpr_eq K e he hK (by omega) (by omega)
    have ep : (⟨[(⟨3, nm, ([] : Bytes), [], false, false, [(⟨nm, (⟨t.fKind, t.fLo, t.fHi, t.fName⟩ : S29), 0, 0, 0⟩ : S38)], [], [(⟨1, 0, nm, [e], [], []⟩ : S43)], 0, 0⟩ : S48)]⟩ : S24) = ⟨[progD t e nm]⟩ := rfl
    rw [ep]
    dsimp only at e1 e4
    rw [unitT_app] at e1
    rw [progT] at e4
    rw [chk_t (room_le (by omega)), chk_nil, chk_t (room_le (by omega)), chk_nil, condM_t, e1, Option.bind_some, condM_t, e2, Option.bind_some, condM_t, e3, Option.bind_some]
    have hb : ((pr.unitT u.fDecls ++ pr.unitT v.fDecls) == (pr.unitT u.fDecls ++ pr.unitT v.fDecls)) = true := by simp
    rw [hb, e4, e5, e6, awake_eq K hK]
    simp (disch := (first | assumption | ((try simp only [List.length_append, List.length_cons, List.length_nil]); omega))) only [Bool.not_true, Bool.false_or, room_le, chk_true, Option.bind_some, Option.map_some, bindS_r, bindS_l, blockS_r, blockS_ll, blockS_lr, fnS_r, fnS_l, letV, condM_t, chk_nil, List.append_assoc, List.cons_append, List.nil_append, List.append_nil, List.length_append, List.length_cons, List.length_nil]
    simp
    rfl
end Go.Proofs.YtaoklnkjcobokaaDoor
