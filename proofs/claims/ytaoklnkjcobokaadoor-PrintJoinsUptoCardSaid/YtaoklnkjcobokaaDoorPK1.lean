/- What the rows' conditions say: of the variables, and of trees. No conditions. -/
import Derived.Test.YtaoklnkjcobokaaDoorDD
import Derived.Test.YtaoklnkjcobokaaDoorPF
import Derived.Test.YtaoklnkjcobokaaDoorRows
import Derived.KernelRfl
set_option linter.unusedVariables false
set_option linter.unusedSimpArgs false
set_option linter.unusedSectionVars false
namespace Go.Proofs.YtaoklnkjcobokaaDoor
open Go Go.Proofs Go.Dl Go.RowKit
set_option maxRecDepth 1000000

theorem own : ownKnob Tryd.prog.godebug = none := by kernel_rfl
theorem laidOut : laidOutB Tryd.prog = true := by kernel_rfl

theorem pow_tab {H : Type} : (Rows.laid_internal_strconv_uint64pow10 : DataW H) = Lib.tabData .u64 Lib.pow10Tab := by kernel_rfl

abbrev laidL : List (String × DataW Unit) := Rows.printJoinsUptoRow.laid

theorem zero3 : (((begin Tryd.prog (fun _ _ => 0) default).world.heap[3]?).bind Obj.row?).isSome = true := by kernel_rfl

theorem wi {W : World} (h : laidMetH Tryd.prog laidL W) (hsh : W.ShapedOpen Tryd.prog) : WI W := by
  have hp := plain_of_laid h
  refine ⟨?_, ?_⟩
  · obtain ⟨⟨z, t⟩, hz⟩ := Option.isSome_iff_exists.1 zero3
    obtain ⟨cs, hh, _⟩ := hsh.1 3 z t (of_decide_eq_true (by kernel_rfl)) hz
    have := (Array.getElem?_eq_some_iff.1 hh).1
    omega
  · exact tabIs_of_laid (g := 1) hp (List.mem_filter.2 ⟨by simp [laidL, Rows.printJoinsUptoRow, pow_tab], by kernel_rfl⟩) (by kernel_rfl) (by kernel_rfl) Tryd.underlying110 Tryd.underlying90 (by kernel_rfl) (by kernel_rfl)

/-! A world that holds the variables. -/

def nmV (s : String) : TypeId := 9
noncomputable def laidW (os : Os) : World := layWorld Tryd.prog nmV laidL os

/-! The measure. -/

theorem bulk_all {H : Type} (l : List (DataW H)) : Rows.uptoBulkAll l = (l.map Rows.uptoBulk).sum := by
  induction l with
  | nil => simp [Rows.uptoBulkAll]
  | cons x r ih => simp only [Rows.uptoBulkAll, List.map_cons, List.sum_cons, ih]
theorem bulk {H : Type} : Bulk (Rows.uptoBulk (H := H)) := by
  refine ⟨fun d => ?_, fun s => ?_, fun l => ?_, fun l r => ?_⟩
  · cases d with
    | lit l => cases l <;> simp [Rows.uptoBulk]
    | nil => simp [Rows.uptoBulk]
    | ptr d => simp [Rows.uptoBulk]
    | slice elems spare => simp [Rows.uptoBulk]
    | agg parts => simp [Rows.uptoBulk]
    | iface t d => simp [Rows.uptoBulk]
    | map entries => simp [Rows.uptoBulk]
    | held h => simp [Rows.uptoBulk]
  · simp [Rows.uptoBulk]
  · simp only [Rows.uptoBulk, bulk_all]; omega
  · simp only [Rows.uptoBulk, bulk_all]; omega

/-! Arguments. -/

theorem c3 : Tryd.prog.cellsOf 3 = 1 := by kernel_rfl
theorem c4 : Tryd.prog.cellsOf 4 = 1 := by kernel_rfl
theorem c9 : Tryd.prog.cellsOf 9 = 1 := by kernel_rfl
theorem c25 : Tryd.prog.cellsOf 25 = 1 := by kernel_rfl
theorem c22 : Tryd.prog.cellsOf 22 = 1 := by kernel_rfl
theorem c24 : Tryd.prog.cellsOf 24 = 1 := by kernel_rfl
theorem c27 : Tryd.prog.cellsOf 27 = 5 := by kernel_rfl
theorem c29 : Tryd.prog.cellsOf 29 = 4 := by kernel_rfl
theorem c38 : Tryd.prog.cellsOf 38 = 8 := by kernel_rfl
theorem c39 : Tryd.prog.cellsOf 39 = 1 := by kernel_rfl
theorem c40 : Tryd.prog.cellsOf 40 = 1 := by kernel_rfl
theorem c41 : Tryd.prog.cellsOf 41 = 1 := by kernel_rfl
theorem c43 : Tryd.prog.cellsOf 43 = 6 := by kernel_rfl
theorem c44 : Tryd.prog.cellsOf 44 = 1 := by kernel_rfl
theorem c45 : Tryd.prog.cellsOf 45 = 1 := by kernel_rfl
theorem c46 : Tryd.prog.cellsOf 46 = 1 := by kernel_rfl
theorem c48 : Tryd.prog.cellsOf 48 = 11 := by kernel_rfl
theorem c54 : Tryd.prog.cellsOf 54 = 11 := by kernel_rfl
theorem c76 : Tryd.prog.cellsOf 76 = 1 := by kernel_rfl

theorem sum_at {X : Type} (b : X → Nat) : ∀ (ys : List X) (k : Nat), ys.length = k → (ys.map b).sum = ((List.range k).map fun i => ((ys[i]?).map b).getD 0).sum
  | [], k, h => by subst h; simp
  | y :: r, k, h => by
    subst h
    have := sum_at b r r.length rfl
    rw [List.length_cons, List.range_succ_eq_map]
    simp only [List.map_cons, List.sum_cons, List.map_map, Function.comp_def, Nat.succ_eq_add_one, List.getElem?_cons_zero, List.getElem?_cons_succ, Option.map_some, Option.getD_some]
    omega

theorem i64_of {n : Int} (h : IntKind.i64.min ≤ n ∧ n ≤ IntKind.i64.max) : I64 n := h

section
variable {H : Type} {b : DataW H → Nat} {enc : TypeId × Value → H} {w : World} {sp : Nat → Bool} {held : Bool}

theorem om3 (hbk : Bulk b) (n : Nat) : OpM b enc Tryd.prog w sp held n 3 (fun n : Int => [.val (.int .i64 n)]) I64 (fun _ => 1) := by
  intro l x h
  obtain ⟨y, h1, h2, h3⟩ := om_one hbk (op_int Tryd.underlying3) l x h
  exact ⟨y, i64_of h1, h2, h3⟩
theorem om4 (hbk : Bulk b) (n : Nat) : OpM b enc Tryd.prog w sp held n 4 (fun x : Bool => [.val (.bool x)]) (fun _ => True) (fun _ => 1) := om_one hbk (op_bool Tryd.underlying4)
theorem om9 (hbk : Bulk b) (n : Nat) : OpM b enc Tryd.prog w sp held n 9 (fun s : Bytes => [.str s]) (fun s => s.length ≤ maxLen) (fun s => s.length + 1) := om_str hbk Tryd.underlying9

theorem om29 (hbk : Bulk b) (n : Nat) : OpM b enc Tryd.prog w sp held n 29 S29.cs pr.okT (fun t => 1 + t.fName.length) := by
  intro l x h
  obtain ⟨m, ys, rfl, hl, hys, hb, hf⟩ := om_fields hbk Tryd.underlying29 h
  obtain ⟨x0, k0, m0, r0⟩ := om_field (i := 0) hf rfl rfl rfl c3 (om3 hbk m)
  obtain ⟨x1, k1, m1, r1⟩ := om_field (i := 1) hf rfl rfl rfl c3 (om3 hbk m)
  obtain ⟨x2, k2, m2, r2⟩ := om_field (i := 2) hf rfl rfl rfl c3 (om3 hbk m)
  obtain ⟨x3, k3, m3, r3⟩ := om_field (i := 3) hf rfl rfl rfl c9 (om9 hbk m)
  have hs := sum_at b ys 4 hys
  simp only [List.range, List.range.loop, List.map_cons, List.map_nil, List.sum_cons, List.sum_nil] at hs
  have := seg r0 (seg r1 (seg r2 (seg r3 (seg_nil (hl.trans c29)))))
  exact ⟨⟨x0, x1, x2, x3⟩, ⟨k1, k2⟩, by show 1 + x3.length ≤ _; omega, this.1, this.2⟩

theorem szl_sum (l : List S27) : pr.szl l = (l.map pr.sz).sum := by
  induction l with
  | nil => rw [pr.szl]; rfl
  | cons x r ih => rw [pr.szl, ih]; rfl
theorem okL_of (l : List S27) (h : ∀ x ∈ l, pr.okE x) : pr.okL l := by
  induction l with
  | nil => rw [pr.okL]; trivial
  | cons x r ih => rw [pr.okL]; exact ⟨h x (by simp), ih fun y hy => h y (by simp [hy])⟩

theorem om27 (hbk : Bulk b) (n : Nat) : OpM b enc Tryd.prog w sp held n 27 S27.cs pr.okE pr.sz := by
  induction n using Nat.strongRecOn with
  | _ n ih =>
    intro l x h
    obtain ⟨m, ys, rfl, hl, hys, hb, hf⟩ := om_fields hbk Tryd.underlying27 h
    have hA : OpM b enc Tryd.prog w sp held m 25 (fun l : List S27 => [NT27 l]) (fun l => (∀ x ∈ l, pr.okE x) ∧ l.length ≤ maxLen) (fun l => (l.map pr.sz).sum + 1) := by
      cases m with
      | zero => exact om_zero
      | succ k => exact om_cle (om_slice E27 hbk Tryd.underlying25 c27 (by decide) (fun _ => rfl) (ih k (by omega))) NT27_ge
    obtain ⟨x0, k0, m0, r0⟩ := om_field (i := 0) hf rfl rfl rfl c3 (om3 hbk m)
    obtain ⟨x1, k1, m1, r1⟩ := om_field (i := 1) hf rfl rfl rfl c3 (om3 hbk m)
    obtain ⟨x2, k2, m2, r2⟩ := om_field (i := 2) hf rfl rfl rfl c9 (om9 hbk m)
    obtain ⟨x3, k3, m3, r3⟩ := om_field (i := 3) hf rfl rfl rfl c9 (om9 hbk m)
    obtain ⟨x4, k4, m4, r4⟩ := om_field (i := 4) hf rfl rfl rfl c25 hA
    have hs := sum_at b ys 5 hys
    simp only [List.range, List.range.loop, List.map_cons, List.map_nil, List.sum_cons, List.sum_nil] at hs
    have := seg r0 (seg r1 (seg r2 (seg r3 (seg r4 (seg_nil (hl.trans c27))))))
    refine ⟨⟨x0, x1, x2, x3, x4⟩, ?_, ?_, this.1, this.2⟩
    · rw [pr.okE_eq]; exact ⟨k1, okL_of _ k4.1⟩
    · rw [pr.sz_eq, szl_sum]; dsimp only; omega

theorem om25 (hbk : Bulk b) : ∀ n, OpM b enc Tryd.prog w sp held n 25 (fun l : List S27 => [E27.tree l]) (fun l => (∀ x ∈ l, pr.okE x) ∧ l.length ≤ maxLen) (fun l => (l.map pr.sz).sum + 1)
  | 0 => om_zero
  | n + 1 => om_slice E27 hbk Tryd.underlying25 c27 (by decide) (fun _ => rfl) (om27 hbk n)
theorem om76 (hbk : Bulk b) : ∀ n, OpM b enc Tryd.prog w sp held n 76 (fun l : List Int => [E3.tree l]) (fun l => (∀ x ∈ l, I64 x) ∧ l.length ≤ maxLen) (fun l => (l.map fun _ => 1).sum + 1)
  | 0 => om_zero
  | n + 1 => om_slice E3 hbk Tryd.underlying76 c3 (by decide) (fun _ => rfl) (om3 hbk n)
theorem om40 (hbk : Bulk b) : ∀ n, OpM b enc Tryd.prog w sp held n 40 (fun l : List (List Int) => [E76.tree l]) (fun l => (∀ y ∈ l, (∀ x ∈ y, I64 x) ∧ y.length ≤ maxLen) ∧ l.length ≤ maxLen) (fun l => (l.map fun y => (y.map fun _ => 1).sum + 1).sum + 1)
  | 0 => om_zero
  | n + 1 => om_slice E76 hbk Tryd.underlying40 c76 (by decide) (fun _ => rfl) (om76 hbk n)

theorem szSl_sum (l : List S43) : pr.szSl l = (l.map pr.szS).sum := by
  induction l with
  | nil => rw [pr.szSl]; rfl
  | cons x r ih => rw [pr.szSl, ih]; rfl
theorem szSll_sum (l : List (List S43)) : pr.szSll l = (l.map fun y => (y.map pr.szS).sum + 1).sum := by
  induction l with
  | nil => rw [pr.szSll]; rfl
  | cons x r ih => rw [pr.szSll, ih, szSl_sum]; simp only [List.map_cons, List.sum_cons]; omega
theorem ones_sum {X : Type} (y : List X) : (y.map fun _ => 1).sum = y.length := by
  induction y with
  | nil => rfl
  | cons x r ih => simp only [List.map_cons, List.sum_cons, List.length_cons, ih]; omega
theorem szLab_sum (l : List (List Int)) : pr.szLab l = (l.map fun y => (y.map fun _ => 1).sum + 1).sum := by
  unfold pr.szLab
  congr 1
  refine List.map_congr_left fun y _ => ?_
  have := ones_sum y
  omega
theorem okSl_of (l : List S43) (h : ∀ x ∈ l, pr.okS x) : pr.okSl l := by
  induction l with
  | nil => rw [pr.okSl]; trivial
  | cons x r ih => rw [pr.okSl]; exact ⟨h x (by simp), ih fun y hy => h y (by simp [hy])⟩
theorem okSll_of (l : List (List S43)) (h : ∀ x ∈ l, pr.okSl x) : pr.okSll l := by
  induction l with
  | nil => rw [pr.okSll]; trivial
  | cons x r ih => rw [pr.okSll]; exact ⟨h x (by simp), ih fun y hy => h y (by simp [hy])⟩

theorem om43 (hbk : Bulk b) (n : Nat) : OpM b enc Tryd.prog w sp held n 43 S43.cs pr.okS pr.szS := by
  induction n using Nat.strongRecOn with
  | _ n ih =>
    intro l x h
    obtain ⟨m, ys, rfl, hl, hys, hb, hf⟩ := om_fields hbk Tryd.underlying43 h
    have hB : OpM b enc Tryd.prog w sp held m 41 (fun l : List (List S43) => [NTT43 l]) (fun l => (∀ y ∈ l, (∀ x ∈ y, pr.okS x) ∧ y.length ≤ maxLen) ∧ l.length ≤ maxLen) (fun l => (l.map fun y => (y.map pr.szS).sum + 1).sum + 1) := by
      cases m with
      | zero => exact om_zero
      | succ k =>
        refine om_cle (om_slice E44 hbk Tryd.underlying41 c44 (by decide) (fun _ => rfl) ?_) NTT43_ge
        cases k with
        | zero => exact om_zero
        | succ k => exact om_slice E43 hbk Tryd.underlying44 c43 (by decide) (fun _ => rfl) (ih k (by omega))
    obtain ⟨x0, k0, m0, r0⟩ := om_field (i := 0) hf rfl rfl rfl c3 (om3 hbk m)
    obtain ⟨x1, k1, m1, r1⟩ := om_field (i := 1) hf rfl rfl rfl c3 (om3 hbk m)
    obtain ⟨x2, k2, m2, r2⟩ := om_field (i := 2) hf rfl rfl rfl c9 (om9 hbk m)
    obtain ⟨x3, k3, m3, r3⟩ := om_field (i := 3) hf rfl rfl rfl c25 (om25 hbk m)
    obtain ⟨x4, k4, m4, r4⟩ := om_field (i := 4) hf rfl rfl rfl c40 (om40 hbk m)
    obtain ⟨x5, k5, m5, r5⟩ := om_field (i := 5) hf rfl rfl rfl c41 hB
    have hs := sum_at b ys 6 hys
    simp only [List.range, List.range.loop, List.map_cons, List.map_nil, List.sum_cons, List.sum_nil] at hs
    have := seg r0 (seg r1 (seg r2 (seg r3 (seg r4 (seg r5 (seg_nil (hl.trans c43)))))))
    refine ⟨⟨x0, x1, x2, x3, x4, x5⟩, ?_, ?_, this.1, this.2⟩
    · rw [pr.okS_eq]; exact ⟨k1, okL_of _ k3.1, fun y hy => (k4.1 y hy).1, okSll_of _ fun y hy => okSl_of _ (k5.1 y hy).1⟩
    · rw [pr.szS_eq, szl_sum, szSll_sum, szLab_sum]; dsimp only; omega
theorem om44 (hbk : Bulk b) : ∀ n, OpM b enc Tryd.prog w sp held n 44 (fun l : List S43 => [E43.tree l]) (fun l => (∀ x ∈ l, pr.okS x) ∧ l.length ≤ maxLen) (fun l => (l.map pr.szS).sum + 1)
  | 0 => om_zero
  | n + 1 => om_slice E43 hbk Tryd.underlying44 c43 (by decide) (fun _ => rfl) (om43 hbk n)

theorem om38 (hbk : Bulk b) (n : Nat) : OpM b enc Tryd.prog w sp held n 38 S38.cs pr.okV szV := by
  intro l x h
  obtain ⟨m, ys, rfl, hl, hys, hb, hf⟩ := om_fields hbk Tryd.underlying38 h
  obtain ⟨x0, k0, m0, r0⟩ := om_field (i := 0) hf rfl rfl rfl c9 (om9 hbk m)
  obtain ⟨x1, k1, m1, r1⟩ := om_field (i := 1) hf rfl rfl rfl c29 (om29 hbk m)
  obtain ⟨x2, k2, m2, r2⟩ := om_field (i := 2) hf rfl rfl rfl c3 (om3 hbk m)
  obtain ⟨x3, k3, m3, r3⟩ := om_field (i := 3) hf rfl rfl rfl c3 (om3 hbk m)
  obtain ⟨x4, k4, m4, r4⟩ := om_field (i := 4) hf rfl rfl rfl c3 (om3 hbk m)
  have hs := sum_at b ys 5 hys
  simp only [List.range, List.range.loop, List.map_cons, List.map_nil, List.sum_cons, List.sum_nil] at hs
  have := seg r0 (seg r1 (seg r2 (seg r3 (seg r4 (seg_nil (hl.trans c38))))))
  exact ⟨⟨x0, x1, x2, x3, x4⟩, ⟨k1, k2, k4⟩, by show 1 + x0.length + x1.fName.length ≤ _; omega, this.1, this.2⟩
theorem om39 (hbk : Bulk b) : ∀ n, OpM b enc Tryd.prog w sp held n 39 (fun l : List S38 => [E38.tree l]) (fun l => (∀ x ∈ l, pr.okV x) ∧ l.length ≤ maxLen) (fun l => (l.map szV).sum + 1)
  | 0 => om_zero
  | n + 1 => om_slice E38 hbk Tryd.underlying39 c38 (by decide) (fun _ => rfl) (om38 hbk n)
theorem om45 (hbk : Bulk b) : ∀ n, OpM b enc Tryd.prog w sp held n 45 (fun l : List Bytes => [E9.tree l]) (fun l => (∀ x ∈ l, x.length ≤ maxLen) ∧ l.length ≤ maxLen) (fun l => (l.map fun s => s.length + 1).sum + 1)
  | 0 => om_zero
  | n + 1 => om_slice E9 hbk Tryd.underlying45 c9 (by decide) (fun _ => rfl) (om9 hbk n)

theorem om54 (hbk : Bulk b) (n : Nat) : OpM b enc Tryd.prog w sp held n 54 S54.cs pr.okM szM := by
  intro l x h
  obtain ⟨m, ys, rfl, hl, hys, hb, hf⟩ := om_fields hbk Tryd.underlying54 h
  obtain ⟨x0, k0, m0, r0⟩ := om_field (i := 0) hf rfl rfl rfl c9 (om9 hbk m)
  obtain ⟨x1, k1, m1, r1⟩ := om_field (i := 1) hf rfl rfl rfl c4 (om4 hbk m)
  obtain ⟨x2, k2, m2, r2⟩ := om_field (i := 2) hf rfl rfl rfl c4 (om4 hbk m)
  obtain ⟨x3, k3, m3, r3⟩ := om_field (i := 3) hf rfl rfl rfl c4 (om4 hbk m)
  obtain ⟨x4, k4, m4, r4⟩ := om_field (i := 4) hf rfl rfl rfl c39 (om39 hbk m)
  obtain ⟨x5, k5, m5, r5⟩ := om_field (i := 5) hf rfl rfl rfl c29 (om29 hbk m)
  obtain ⟨x6, k6, m6, r6⟩ := om_field (i := 6) hf rfl rfl rfl c39 (om39 hbk m)
  obtain ⟨x7, k7, m7, r7⟩ := om_field (i := 7) hf rfl rfl rfl c44 (om44 hbk m)
  have hs := sum_at b ys 8 hys
  simp only [List.range, List.range.loop, List.map_cons, List.map_nil, List.sum_cons, List.sum_nil] at hs
  have := seg r0 (seg r1 (seg r2 (seg r3 (seg r4 (seg r5 (seg r6 (seg r7 (seg_nil (hl.trans c54)))))))))
  exact ⟨⟨x0, x1, x2, x3, x4, x5, x6, x7⟩, ⟨k4.1, k5, k6.1, okSl_of _ k7.1⟩, by unfold szM; rw [szSl_sum]; dsimp only; omega, this.1, this.2⟩
theorem om46 (hbk : Bulk b) : ∀ n, OpM b enc Tryd.prog w sp held n 46 (fun l : List S54 => [E54.tree l]) (fun l => (∀ x ∈ l, pr.okM x) ∧ l.length ≤ maxLen) (fun l => (l.map szM).sum + 1)
  | 0 => om_zero
  | n + 1 => om_slice E54 hbk Tryd.underlying46 c54 (by decide) (fun _ => rfl) (om54 hbk n)

theorem om48 (hbk : Bulk b) (n : Nat) : OpM b enc Tryd.prog w sp held n 48 S48.cs pr.okD szD := by
  intro l x h
  obtain ⟨m, ys, rfl, hl, hys, hb, hf⟩ := om_fields hbk Tryd.underlying48 h
  obtain ⟨x0, k0, m0, r0⟩ := om_field (i := 0) hf rfl rfl rfl c3 (om3 hbk m)
  obtain ⟨x1, k1, m1, r1⟩ := om_field (i := 1) hf rfl rfl rfl c9 (om9 hbk m)
  obtain ⟨x2, k2, m2, r2⟩ := om_field (i := 2) hf rfl rfl rfl c9 (om9 hbk m)
  obtain ⟨x3, k3, m3, r3⟩ := om_field (i := 3) hf rfl rfl rfl c45 (om45 hbk m)
  obtain ⟨x4, k4, m4, r4⟩ := om_field (i := 4) hf rfl rfl rfl c4 (om4 hbk m)
  obtain ⟨x5, k5, m5, r5⟩ := om_field (i := 5) hf rfl rfl rfl c4 (om4 hbk m)
  obtain ⟨x6, k6, m6, r6⟩ := om_field (i := 6) hf rfl rfl rfl c39 (om39 hbk m)
  obtain ⟨x7, k7, m7, r7⟩ := om_field (i := 7) hf rfl rfl rfl c46 (om46 hbk m)
  obtain ⟨x8, k8, m8, r8⟩ := om_field (i := 8) hf rfl rfl rfl c44 (om44 hbk m)
  obtain ⟨x9, k9, m9, r9⟩ := om_field (i := 9) hf rfl rfl rfl c3 (om3 hbk m)
  obtain ⟨x10, k10, m10, r10⟩ := om_field (i := 10) hf rfl rfl rfl c3 (om3 hbk m)
  have hs := sum_at b ys 11 hys
  simp only [List.range, List.range.loop, List.map_cons, List.map_nil, List.sum_cons, List.sum_nil] at hs
  have := seg r0 (seg r1 (seg r2 (seg r3 (seg r4 (seg r5 (seg r6 (seg r7 (seg r8 (seg r9 (seg r10 (seg_nil (hl.trans c48))))))))))))
  exact ⟨⟨x0, x1, x2, x3, x4, x5, x6, x7, x8, x9, x10⟩, ⟨k6.1, k7.1, okSl_of _ k8.1, k9, k10⟩, by unfold szD; rw [szSl_sum]; dsimp only; omega, this.1, this.2⟩
theorem om22 (hbk : Bulk b) : ∀ n, OpM b enc Tryd.prog w sp held n 22 (fun l : List S48 => [E48.tree l]) (fun l => (∀ x ∈ l, pr.okD x) ∧ l.length ≤ maxLen) (fun l => (l.map szD).sum + 1)
  | 0 => om_zero
  | n + 1 => om_slice E48 hbk Tryd.underlying22 c48 (by decide) (fun _ => rfl) (om48 hbk n)
theorem om24 (hbk : Bulk b) (n : Nat) : OpM b enc Tryd.prog w sp held n 24 S24.cs (fun u => ∀ x ∈ u.fDecls, pr.okD x) (fun u => (u.fDecls.map szD).sum + 1) := by
  intro l x h
  obtain ⟨m, ys, rfl, hl, hys, hb, hf⟩ := om_fields hbk Tryd.underlying24 h
  obtain ⟨x0, k0, m0, r0⟩ := om_field (i := 0) hf rfl rfl rfl c22 (om22 hbk m)
  have hs := sum_at b ys 1 hys
  simp only [List.range, List.range.loop, List.map_cons, List.map_nil, List.sum_cons, List.sum_nil] at hs
  have := seg r0 (seg_nil (hl.trans c24))
  exact ⟨⟨x0⟩, k0.1, by dsimp only; omega, this.1, this.2⟩
end

/-! Sizes. -/
theorem mem_sum {X : Type} (f : X → Nat) {l : List X} {x : X} (h : x ∈ l) : f x ≤ (l.map f).sum := by
  induction l with
  | nil => cases h
  | cons y r ih =>
    simp only [List.map_cons, List.sum_cons]
    rcases List.mem_cons.1 h with rfl | h
    · omega
    · have := ih h; omega
theorem len_sum {X : Type} (f : X → Nat) (hf : ∀ x, 1 ≤ f x) (l : List X) : l.length ≤ (l.map f).sum := by
  induction l with
  | nil => simp
  | cons y r ih => have := hf y; simp only [List.map_cons, List.sum_cons, List.length_cons]; omega
theorem fitM_of {m : S54} (h : szM m ≤ 2000000) : pr.fitM m := by
  have h1 := len_sum szV (fun v => by unfold szV; omega) m.fParams
  have h2 := len_sum szV (fun v => by unfold szV; omega) m.fVars
  unfold szM at h
  exact ⟨by omega, by omega, by omega⟩
theorem fitD_of {d : S48} (h : szD d ≤ 2000000) : pr.fitD d := by
  have h1 := len_sum szV (fun v => by unfold szV; omega) d.fVars
  have h2 := len_sum szM (fun v => by unfold szM; omega) d.fMethods
  have h3 := len_sum (fun f : Bytes => f.length + 1) (fun v => by omega) d.fFaces
  have h4 : ∀ m ∈ d.fMethods, szM m ≤ (d.fMethods.map szM).sum := fun m hm => mem_sum szM hm
  unfold szD at h
  exact ⟨by omega, by omega, by omega, by omega, fun m hm => fitM_of (by have := h4 m hm; omega)⟩
theorem okU_of {l : List S48} (h : ∀ x ∈ l, pr.okD x) (hs : (l.map szD).sum ≤ 2000000) : okU l := by
  have h1 := len_sum szD (fun v => by unfold szD; omega) l
  exact ⟨by omega, fun d hd => ⟨h d hd, fitD_of (by have := mem_sum szD hd; omega)⟩⟩
theorem unit_len {l : List S48} (h : ∀ x ∈ l, pr.okD x) : (pr.unitT l).length ≤ 200 * (l.map szD).sum := by
  have key : ∀ (l : List S48) (n : Nat), (∀ x ∈ l, pr.okD x) → (pr.gat (fun _ d => pr.J (pr.declT d) ++ [10]) n l).length ≤ 200 * (l.map szD).sum := by
    intro l
    induction l with
    | nil => intro n _; simp [pr.gat]
    | cons x r ih =>
      intro n h
      have h1 := ih (n + 1) fun y hy => h y (by simp [hy])
      have h2 := bl_decl x (h x (by simp))
      have h3 := J_len (declT_ne x)
      unfold bl at h2
      simp only [pr.gat, List.length_append, List.length_cons, List.length_nil, List.map_cons, List.sum_cons]; omega
  exact key l 0 h



/-- The law, of what came in. -/
theorem joins_in (u v : S24) (e : S27) (t : S29) (nm : Bytes) (hu : ∀ x ∈ u.fDecls, pr.okD x) (hv : ∀ x ∈ v.fDecls, pr.okD x) (he : pr.okE e) (ht : pr.okT t) (b : ((u.fDecls.map szD).sum + 1) + (((v.fDecls.map szD).sum + 1) + (pr.sz e + ((1 + t.fName.length) + (nm.length + 1)))) ≤ 1048576) : fnS (F4 20000000 u v e t nm) = some true := by
  have h1 := unit_len hu
  have h1' := unit_len hv
  have h2 := bl_tk _ e (Nat.le_refl _) he
  have h3 := bl_ty t ht.1 ht.2
  unfold bl at h2 h3
  have huv : okU (u.fDecls ++ v.fDecls) := okU_of (fun x hx => (List.mem_append.1 hx).elim (hu x) (hv x)) (by rw [List.map_append, List.sum_append]; omega)
  exact joins_law 20000000 (Nat.le_refl _) u v e t nm (okU_of hu (by omega)) (okU_of hv (by omega)) huv he (by omega) ht (by omega) (by omega) (by omega) (by omega) (by omega)
end Go.Proofs.YtaoklnkjcobokaaDoor
