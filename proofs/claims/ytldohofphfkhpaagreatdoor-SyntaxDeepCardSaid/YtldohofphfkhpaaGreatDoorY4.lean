/- The law on brackets: its call comes to true, in every world that holds its variables. No conditions. -/
import Derived.Test.YtldohofphfkhpaaGreatDoorY2
import Derived.Test.YtldohofphfkhpaaGreatDoorY3
set_option linter.unusedVariables false
set_option linter.unusedSimpArgs false
namespace Go.Proofs.YtldohofphfkhpaaGreatDoor.sd
open Go Go.Am Go.Proofs Go.RowKit
set_option maxRecDepth 1000000

theorem cases_all (e a : Nat) (ha : a < 20) : case1 e a = true := by
  have k1 := runs_Y2 e
  have k2 := runs_Y3 e
  simp only [Bool.and_eq_true] at k1 k2
  obtain ⟨h0, h1, h2, h3, h4, h5, h6, h7, h8, h9⟩ := k1
  obtain ⟨h10, h11, h12, h13, h14, h15, h16, h17, h18, h19⟩ := k2
  match a, ha with
  | 0, _ => exact h0
  | 1, _ => exact h1
  | 2, _ => exact h2
  | 3, _ => exact h3
  | 4, _ => exact h4
  | 5, _ => exact h5
  | 6, _ => exact h6
  | 7, _ => exact h7
  | 8, _ => exact h8
  | 9, _ => exact h9
  | 10, _ => exact h10
  | 11, _ => exact h11
  | 12, _ => exact h12
  | 13, _ => exact h13
  | 14, _ => exact h14
  | 15, _ => exact h15
  | 16, _ => exact h16
  | 17, _ => exact h17
  | 18, _ => exact h18
  | 19, _ => exact h19
  | n + 20, h => omega

noncomputable def lvV : Nat → Bool := lvOf fnV codeV
noncomputable def midV (e : Nat) (x : Int) : CR :=
  codeA Tryz.prog lvV fnV.ntmps (callA Tryz.prog EL 999) 600 (.seq r0 (.seq r1 .skip)) ((argsT [.int .i64 x] 0 ⟨[], .nil⟩).flush lvV) (Go.Qm.tabsF (tabs e))
noncomputable def tmV (e : Nat) (x : Int) : TM := Go.Qm.tmOf (midV e x)

theorem mid_run (e : Nat) (x : Int) : midV e x = some (.norm, tmV e x, Go.Qm.tabsF (tabs e)) := by kernel_rfl
theorem mid_loc (e : Nat) (x : Int) : (tmV e x).loc = [] := by kernel_rfl
theorem mid0 (e : Nat) (x : Int) : TM.val lvV (tmV e x) 0 = .int .i64 (Go.Qm.low x 20) := by kernel_rfl

theorem fn_body : fnV.body = some codeV := by kernel_rfl
theorem fn_code : codeV = .seq r0 (.seq r1 rest) := by kernel_rfl
theorem fn_name : (fnV.name == "runtime.NumGoroutine") = false := by kernel_rfl
theorem fn_len (x : Int) : (Nat.ble [Value.int .i64 x].length fnV.ntmps && Nat.ble [Value.int .i64 x].length 1000000) = true := by kernel_rfl

theorem mid_er (e : Nat) (x : Int) (a : Nat) (ha : Go.Qm.low x 20 = (a : Int)) (la : a < 20) : Go.Qm.ER lvV [some 0] (.cons (.i a) .nil) (tmV e x) := by
  intro i t hi
  match i, hi with
  | 0, hi =>
    obtain rfl : 0 = t := by simpa using hi
    refine .inr ?_
    show TM.val lvV (tmV e x) 0 = Value.int .i64 (Go.Qm.sg a)
    rw [mid0, ha, Go.Qm.sg_small (by omega)]
  | n + 1, hi => simp at hi

theorem run (e : Nat) (x : Int) : isT (callA Tryz.prog EL 1000 600 3 [.int .i64 x] (Go.Qm.tabsF (tabs e))) = true := by
  obtain ⟨a, ha, ea⟩ := Go.Qm.low_spec x 20 (by decide) (by decide)
  have h := cases_all e a ha
  exact Go.Qm.isT_mid TL_ok (tabs_ok e) (f := 999) (g := 3) (fn := fnV) (c := codeV) (r0 := r0) (r1 := r1) (b := rest) (vs := [.int .i64 x]) (tm1 := tmV e x) rfl Tryz.func3 fn_name fn_body fn_code rfl (fn_len x) (mid_run e x) (mid_loc e x)
    (mid_er e x a ea ha) h

theorem text : ∃ fn c, Tryz.prog.funcs[3]? = some fn ∧ (fn.name == "runtime.NumGoroutine") = false ∧ fn.body = some c :=
  ⟨_, _, Tryz.func3, fn_name, fn_body⟩

theorem calls (x : Int) (w : World) (h : IY w) : Calls Tryz.prog 3 #[.int .i64 x] w fun e w' => e = .returned (.bool true) ∧ Up w w' := by
  obtain ⟨_, e, he⟩ := id h
  obtain ⟨β, hw⟩ := start he
  exact calls_true_from (us := [.int .i64 x]) EL_good (run e x) text w h (start_lo e) (Nat.le_refl _) hw (.cons (.int _ _) .nil)

end Go.Proofs.YtldohofphfkhpaaGreatDoor.sd
