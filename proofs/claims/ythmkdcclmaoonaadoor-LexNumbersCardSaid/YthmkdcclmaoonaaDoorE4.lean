/- The law on numbers: its call comes to true, in every world that holds its variables. No conditions. -/
import Derived.Test.YthmkdcclmaoonaaDoorE3
set_option linter.unusedVariables false
set_option linter.unusedSimpArgs false
set_option linter.unusedSectionVars false
namespace Go.Proofs.YthmkdcclmaoonaaDoor.ln
open Go Go.Am Go.Proofs Go.RowKit
set_option maxRecDepth 1000000

theorem cases_all [Go.Qm.Rho] (e n z : Nat) (hn : n < 7) (hz : z < 4) : case1 e n z = true := by
  match n, z, hn, hz with
  | 0, 0, _, _ => exact r00 e
  | 0, 1, _, _ => exact r01 e
  | 0, 2, _, _ => exact r02 e
  | 0, 3, _, _ => exact r03 e
  | 1, 0, _, _ => exact r10 e
  | 1, 1, _, _ => exact r11 e
  | 1, 2, _, _ => exact r12 e
  | 1, 3, _, _ => exact r13 e
  | 2, 0, _, _ => exact r20 e
  | 2, 1, _, _ => exact r21 e
  | 2, 2, _, _ => exact r22 e
  | 2, 3, _, _ => exact r23 e
  | 3, 0, _, _ => exact r30 e
  | 3, 1, _, _ => exact r31 e
  | 3, 2, _, _ => exact r32 e
  | 3, 3, _, _ => exact r33 e
  | 4, 0, _, _ => exact r40 e
  | 4, 1, _, _ => exact r41 e
  | 4, 2, _, _ => exact r42 e
  | 4, 3, _, _ => exact r43 e
  | 5, 0, _, _ => exact r50 e
  | 5, 1, _, _ => exact r51 e
  | 5, 2, _, _ => exact r52 e
  | 5, 3, _, _ => exact r53 e
  | 6, 0, _, _ => exact r60 e
  | 6, 1, _, _ => exact r61 e
  | 6, 2, _, _ => exact r62 e
  | 6, 3, _, _ => exact r63 e
  | n + 7, _, h, _ => omega
  | _, z + 4, _, h => omega

/-- The two numbers, MaxLen, and the digits. -/
@[reducible] def rho (x y m : Int) (f : Nat → Nat) : Go.Qm.Rho := ⟨fun i => if i = 1000 then x else if i = 1001 then y else if i = 2000 then m else (f i : Int), fun _ => false, fun _ => []⟩

theorem num1 {x y m : Int} {f : Nat → Nat} {a : Nat} (h0 : f 0 = a - 1) (hl : 1 ≤ a) (hu : a < 10) : @Go.Qm.dec (rho x y m f) (numV 1) = .int .i64 (a : Int) := by
  show Value.int .i64 (((1 + (1 * (((f 0 : Nat) : Int).toNat % 9) + 0)) : Nat) : Int) = _
  simp only [Int.toNat_natCast]
  rw [h0]
  exact congrArg _ (congrArg _ (by omega))

theorem num2 {x y m : Int} {f : Nat → Nat} {a : Nat} (h0 : f 0 = a % 10) (h1 : f 1 = a / 10 - 1) (hl : 10 ≤ a) (hu : a < 100) : @Go.Qm.dec (rho x y m f) (numV 2) = .int .i64 (a : Int) := by
  show Value.int .i64 (((10 + (1 * (((f 0 : Nat) : Int).toNat % 10) + (10 * (((f 1 : Nat) : Int).toNat % 9) + 0))) : Nat) : Int) = _
  simp only [Int.toNat_natCast]
  rw [h0, h1]
  exact congrArg _ (congrArg _ (by omega))

theorem num3 {x y m : Int} {f : Nat → Nat} {a : Nat} (h0 : f 0 = a % 10) (h1 : f 1 = a / 10 % 10) (h2 : f 2 = a / 100 - 1) (hl : 100 ≤ a) (hu : a < 1000) : @Go.Qm.dec (rho x y m f) (numV 3) = .int .i64 (a : Int) := by
  show Value.int .i64 (((100 + (1 * (((f 0 : Nat) : Int).toNat % 10) + (10 * (((f 1 : Nat) : Int).toNat % 10) + (100 * (((f 2 : Nat) : Int).toNat % 9) + 0)))) : Nat) : Int) = _
  simp only [Int.toNat_natCast]
  rw [h0, h1, h2]
  exact congrArg _ (congrArg _ (by omega))

theorem num4 {x y m : Int} {f : Nat → Nat} {a : Nat} (h0 : f 0 = a % 10) (h1 : f 1 = a / 10 % 10) (h2 : f 2 = a / 100 % 10) (h3 : f 3 = a / 1000 - 1) (hl : 1000 ≤ a) (hu : a < 10000) : @Go.Qm.dec (rho x y m f) (numV 4) = .int .i64 (a : Int) := by
  show Value.int .i64 (((1000 + (1 * (((f 0 : Nat) : Int).toNat % 10) + (10 * (((f 1 : Nat) : Int).toNat % 10) + (100 * (((f 2 : Nat) : Int).toNat % 10) + (1000 * (((f 3 : Nat) : Int).toNat % 9) + 0))))) : Nat) : Int) = _
  simp only [Int.toNat_natCast]
  rw [h0, h1, h2, h3]
  exact congrArg _ (congrArg _ (by omega))

theorem num5 {x y m : Int} {f : Nat → Nat} {a : Nat} (h0 : f 0 = a % 10) (h1 : f 1 = a / 10 % 10) (h2 : f 2 = a / 100 % 10) (h3 : f 3 = a / 1000 % 10) (h4 : f 4 = a / 10000 - 1) (hl : 10000 ≤ a) (hu : a < 100000) : @Go.Qm.dec (rho x y m f) (numV 5) = .int .i64 (a : Int) := by
  show Value.int .i64 (((10000 + (1 * (((f 0 : Nat) : Int).toNat % 10) + (10 * (((f 1 : Nat) : Int).toNat % 10) + (100 * (((f 2 : Nat) : Int).toNat % 10) + (1000 * (((f 3 : Nat) : Int).toNat % 10) + (10000 * (((f 4 : Nat) : Int).toNat % 9) + 0)))))) : Nat) : Int) = _
  simp only [Int.toNat_natCast]
  rw [h0, h1, h2, h3, h4]
  exact congrArg _ (congrArg _ (by omega))

theorem num6 {x y m : Int} {f : Nat → Nat} {a : Nat} (h0 : f 0 = a % 10) (h1 : f 1 = a / 10 % 10) (h2 : f 2 = a / 100 % 10) (h3 : f 3 = a / 1000 % 10) (h4 : f 4 = a / 10000 % 10) (hl : 100000 ≤ a) (hu : a < 200000) : @Go.Qm.dec (rho x y m f) (numV 6) = .int .i64 (a : Int) := by
  show Value.int .i64 (((100000 + (1 * (((f 0 : Nat) : Int).toNat % 10) + (10 * (((f 1 : Nat) : Int).toNat % 10) + (100 * (((f 2 : Nat) : Int).toNat % 10) + (1000 * (((f 3 : Nat) : Int).toNat % 10) + (10000 * (((f 4 : Nat) : Int).toNat % 10) + 0)))))) : Nat) : Int) = _
  simp only [Int.toNat_natCast]
  rw [h0, h1, h2, h3, h4]
  exact congrArg _ (congrArg _ (by omega))

/-- strings.asciiSpace lies where it should. -/
def spaceAt (w : World) : Prop := ∃ e, w.heap[1]? = some (.cells ((List.range 256).map fun i => Value.int .u8 (.ofNat (spaceN i))).toArray e (0, 0))

theorem text : ∃ fn c, Tryd.prog.funcs[3]? = some fn ∧ (fn.name == "runtime.NumGoroutine") = false ∧ fn.body = some c :=
  ⟨_, _, Tryd.func3, by kernel_rfl, rfl⟩

theorem calls_of {x y m : Int} (n z : Nat) (f : Nat → Nat) (hn : n < 7) (hz : z < 4) (hv : @Go.Qm.dec (rho x y m f) (numV n) = .int .i64 (Go.Qm.low x 200000)) (ez : Go.Qm.low y 4 = (z : Int)) (w : World) (h1 : rl.errI w) (h2 : spaceAt w) (h3 : w.heap[2]? = some (.cells #[.int .i64 m] 3 (0, 0))) :
    Calls Tryd.prog 3 #[.int .i64 x, .int .i64 y] w fun e w' => e = .returned (.bool true) ∧ Up w w' := by
  letI : Go.Qm.Rho := rho x y m f
  obtain ⟨e, he⟩ := h2
  have he : Go.Qm.TabAt w 1 256 spaceV e := he
  have he2 : Go.Qm.TabAt w 2 1 maxV 3 := h3
  have hI : IY w := ⟨h1, ⟨e, he⟩, he2⟩
  obtain ⟨β, hw⟩ := start he he2
  have hr := isT_fromF (TL_ok (n := n) (z := z) hv (by rw [Go.Qm.sg_small (by omega)]; exact ez.symm)) (tabs_ok e) (f0 := .nil) trivial (en := args) (vs := [.int .i64 x, .int .i64 y]) ⟨.inr rfl, .inr rfl, trivial⟩ (cases_all e n z hn hz)
  exact calls_true_from (us := [.int .i64 x, .int .i64 y]) EL_good hr text w hI (start_lo e) (Nat.le_refl _) hw (.cons (.int _ _) (.cons (.int _ _) .nil))

theorem calls (x y m : Int) (w : World) (h1 : rl.errI w) (h2 : spaceAt w) (h3 : w.heap[2]? = some (.cells #[.int .i64 m] 3 (0, 0))) :
    Calls Tryd.prog 3 #[.int .i64 x, .int .i64 y] w fun e w' => e = .returned (.bool true) ∧ Up w w' := by
  obtain ⟨a, ha, ea⟩ := @Go.Qm.low_spec (rho x y m fun _ => 0) x 200000 (by decide) (by decide)
  obtain ⟨z, hz, ez⟩ := @Go.Qm.low_spec (rho x y m fun _ => 0) y 4 (by decide) (by decide)
  have ea : Go.Qm.low x 200000 = (a : Int) := ea
  have ez : Go.Qm.low y 4 = (z : Int) := ez
  by_cases h0 : a = 0
  · subst h0
    exact calls_of 0 z (fun _ => 0) (by decide) hz (by rw [ea]; show Value.int .i64 (Go.Qm.sg 0) = _; rw [Go.Qm.sg_small (by omega)]) ez w h1 h2 h3
  by_cases q1 : a < 10
  · exact calls_of 1 z (fun j => match j with | 0 => a - 1 | _ => 0) (by decide) hz (by rw [ea]; exact num1 rfl (by omega) q1) ez w h1 h2 h3
  by_cases q2 : a < 100
  · exact calls_of 2 z (fun j => match j with | 0 => a % 10 | 1 => a / 10 - 1 | _ => 0) (by decide) hz (by rw [ea]; exact num2 rfl rfl (by omega) q2) ez w h1 h2 h3
  by_cases q3 : a < 1000
  · exact calls_of 3 z (fun j => match j with | 0 => a % 10 | 1 => a / 10 % 10 | 2 => a / 100 - 1 | _ => 0) (by decide) hz (by rw [ea]; exact num3 rfl rfl rfl (by omega) q3) ez w h1 h2 h3
  by_cases q4 : a < 10000
  · exact calls_of 4 z (fun j => match j with | 0 => a % 10 | 1 => a / 10 % 10 | 2 => a / 100 % 10 | 3 => a / 1000 - 1 | _ => 0) (by decide) hz (by rw [ea]; exact num4 rfl rfl rfl rfl (by omega) q4) ez w h1 h2 h3
  by_cases q5 : a < 100000
  · exact calls_of 5 z (fun j => match j with | 0 => a % 10 | 1 => a / 10 % 10 | 2 => a / 100 % 10 | 3 => a / 1000 % 10 | 4 => a / 10000 - 1 | _ => 0) (by decide) hz (by rw [ea]; exact num5 rfl rfl rfl rfl rfl (by omega) q5) ez w h1 h2 h3
  by_cases q6 : a < 200000
  · exact calls_of 6 z (fun j => match j with | 0 => a % 10 | 1 => a / 10 % 10 | 2 => a / 100 % 10 | 3 => a / 1000 % 10 | 4 => a / 10000 % 10 | _ => 0) (by decide) hz (by rw [ea]; exact num6 rfl rfl rfl rfl rfl (by omega) q6) ez w h1 h2 h3
  omega

end Go.Proofs.YthmkdcclmaoonaaDoor.ln
