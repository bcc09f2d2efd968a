/- The law on lines of calls: what is known, is true. No conditions. -/
import Derived.Test.YtjkhpjnhdijchaaL1
import Derived.IntWalk
set_option linter.unusedVariables false
set_option linter.unusedSimpArgs false
set_option linter.unusedSectionVars false
set_option linter.constructorNameAsVariable false
namespace Go.Proofs.Ytjkhpjnhdijchaa.bl
open Go Go.Am Go.Proofs Go.RowKit
set_option maxRecDepth 1000000
variable [Go.Qm.Rho]

theorem awakeQ : Go.Qm.callN Try.prog E0 Go.Qm.T0 1000 5 .nil Go.Qm.H0 Go.Qm.isB = true := by kernel_rfl

theorem awakeText : ∃ fn c, Try.prog.funcs[5]? = some fn ∧ (fn.name == "runtime.NumGoroutine") = false ∧ fn.body = some c :=
  ⟨_, _, Try.func5, by kernel_rfl, rfl⟩

theorem awake (w : World) : Calls Try.prog 5 #[] w fun e w' => e = .returned (.bool true) ∧ Up w w' :=
  calls_true (us := []) (E0_good _) (Go.Qm.isT_of Go.Qm.T0_ok (en := .nil) (vs := []) trivial awakeQ) awakeText (fun _ => .nil) w trivial

theorem low1 (x : Int) : callA Try.prog E0 1000 600 6 [.int .i64 x, .int .i64 (.ofNat 1)] ⟨.nil, 600⟩ = some (.int .i64 (Go.Qm.low x (.ofNat 1)), ⟨.nil, 600⟩) := by kernel_rfl
theorem low2 (x : Int) : callA Try.prog E0 1000 600 6 [.int .i64 x, .int .i64 (.ofNat 2)] ⟨.nil, 600⟩ = some (.int .i64 (Go.Qm.low x (.ofNat 2)), ⟨.nil, 600⟩) := by kernel_rfl
theorem low3 (x : Int) : callA Try.prog E0 1000 600 6 [.int .i64 x, .int .i64 (.ofNat 3)] ⟨.nil, 600⟩ = some (.int .i64 (Go.Qm.low x (.ofNat 3)), ⟨.nil, 600⟩) := by kernel_rfl
theorem low4 (x : Int) : callA Try.prog E0 1000 600 6 [.int .i64 x, .int .i64 (.ofNat 4)] ⟨.nil, 600⟩ = some (.int .i64 (Go.Qm.low x (.ofNat 4)), ⟨.nil, 600⟩) := by kernel_rfl
theorem low5 (x : Int) : callA Try.prog E0 1000 600 6 [.int .i64 x, .int .i64 (.ofNat 5)] ⟨.nil, 600⟩ = some (.int .i64 (Go.Qm.low x (.ofNat 5)), ⟨.nil, 600⟩) := by kernel_rfl
theorem low6 (x : Int) : callA Try.prog E0 1000 600 6 [.int .i64 x, .int .i64 (.ofNat 6)] ⟨.nil, 600⟩ = some (.int .i64 (Go.Qm.low x (.ofNat 6)), ⟨.nil, 600⟩) := by kernel_rfl
theorem low7 (x : Int) : callA Try.prog E0 1000 600 6 [.int .i64 x, .int .i64 (.ofNat 7)] ⟨.nil, 600⟩ = some (.int .i64 (Go.Qm.low x (.ofNat 7)), ⟨.nil, 600⟩) := by kernel_rfl
theorem low8 (x : Int) : callA Try.prog E0 1000 600 6 [.int .i64 x, .int .i64 (.ofNat 8)] ⟨.nil, 600⟩ = some (.int .i64 (Go.Qm.low x (.ofNat 8)), ⟨.nil, 600⟩) := by kernel_rfl
theorem low9 (x : Int) : callA Try.prog E0 1000 600 6 [.int .i64 x, .int .i64 (.ofNat 9)] ⟨.nil, 600⟩ = some (.int .i64 (Go.Qm.low x (.ofNat 9)), ⟨.nil, 600⟩) := by kernel_rfl
theorem low10 (x : Int) : callA Try.prog E0 1000 600 6 [.int .i64 x, .int .i64 (.ofNat 10)] ⟨.nil, 600⟩ = some (.int .i64 (Go.Qm.low x (.ofNat 10)), ⟨.nil, 600⟩) := by kernel_rfl
theorem low11 (x : Int) : callA Try.prog E0 1000 600 6 [.int .i64 x, .int .i64 (.ofNat 11)] ⟨.nil, 600⟩ = some (.int .i64 (Go.Qm.low x (.ofNat 11)), ⟨.nil, 600⟩) := by kernel_rfl
theorem low12 (x : Int) : callA Try.prog E0 1000 600 6 [.int .i64 x, .int .i64 (.ofNat 12)] ⟨.nil, 600⟩ = some (.int .i64 (Go.Qm.low x (.ofNat 12)), ⟨.nil, 600⟩) := by kernel_rfl
theorem low13 (x : Int) : callA Try.prog E0 1000 600 6 [.int .i64 x, .int .i64 (.ofNat 13)] ⟨.nil, 600⟩ = some (.int .i64 (Go.Qm.low x (.ofNat 13)), ⟨.nil, 600⟩) := by kernel_rfl
theorem low14 (x : Int) : callA Try.prog E0 1000 600 6 [.int .i64 x, .int .i64 (.ofNat 14)] ⟨.nil, 600⟩ = some (.int .i64 (Go.Qm.low x (.ofNat 14)), ⟨.nil, 600⟩) := by kernel_rfl
theorem low15 (x : Int) : callA Try.prog E0 1000 600 6 [.int .i64 x, .int .i64 (.ofNat 15)] ⟨.nil, 600⟩ = some (.int .i64 (Go.Qm.low x (.ofNat 15)), ⟨.nil, 600⟩) := by kernel_rfl
theorem low16 (x : Int) : callA Try.prog E0 1000 600 6 [.int .i64 x, .int .i64 (.ofNat 16)] ⟨.nil, 600⟩ = some (.int .i64 (Go.Qm.low x (.ofNat 16)), ⟨.nil, 600⟩) := by kernel_rfl
theorem low17 (x : Int) : callA Try.prog E0 1000 600 6 [.int .i64 x, .int .i64 (.ofNat 17)] ⟨.nil, 600⟩ = some (.int .i64 (Go.Qm.low x (.ofNat 17)), ⟨.nil, 600⟩) := by kernel_rfl
theorem low18 (x : Int) : callA Try.prog E0 1000 600 6 [.int .i64 x, .int .i64 (.ofNat 18)] ⟨.nil, 600⟩ = some (.int .i64 (Go.Qm.low x (.ofNat 18)), ⟨.nil, 600⟩) := by kernel_rfl
theorem low19 (x : Int) : callA Try.prog E0 1000 600 6 [.int .i64 x, .int .i64 (.ofNat 19)] ⟨.nil, 600⟩ = some (.int .i64 (Go.Qm.low x (.ofNat 19)), ⟨.nil, 600⟩) := by kernel_rfl
theorem low20 (x : Int) : callA Try.prog E0 1000 600 6 [.int .i64 x, .int .i64 (.ofNat 20)] ⟨.nil, 600⟩ = some (.int .i64 (Go.Qm.low x (.ofNat 20)), ⟨.nil, 600⟩) := by kernel_rfl
theorem low21 (x : Int) : callA Try.prog E0 1000 600 6 [.int .i64 x, .int .i64 (.ofNat 21)] ⟨.nil, 600⟩ = some (.int .i64 (Go.Qm.low x (.ofNat 21)), ⟨.nil, 600⟩) := by kernel_rfl
theorem low22 (x : Int) : callA Try.prog E0 1000 600 6 [.int .i64 x, .int .i64 (.ofNat 22)] ⟨.nil, 600⟩ = some (.int .i64 (Go.Qm.low x (.ofNat 22)), ⟨.nil, 600⟩) := by kernel_rfl
theorem low23 (x : Int) : callA Try.prog E0 1000 600 6 [.int .i64 x, .int .i64 (.ofNat 23)] ⟨.nil, 600⟩ = some (.int .i64 (Go.Qm.low x (.ofNat 23)), ⟨.nil, 600⟩) := by kernel_rfl
theorem low24 (x : Int) : callA Try.prog E0 1000 600 6 [.int .i64 x, .int .i64 (.ofNat 24)] ⟨.nil, 600⟩ = some (.int .i64 (Go.Qm.low x (.ofNat 24)), ⟨.nil, 600⟩) := by kernel_rfl
theorem low25 (x : Int) : callA Try.prog E0 1000 600 6 [.int .i64 x, .int .i64 (.ofNat 25)] ⟨.nil, 600⟩ = some (.int .i64 (Go.Qm.low x (.ofNat 25)), ⟨.nil, 600⟩) := by kernel_rfl
theorem low26 (x : Int) : callA Try.prog E0 1000 600 6 [.int .i64 x, .int .i64 (.ofNat 26)] ⟨.nil, 600⟩ = some (.int .i64 (Go.Qm.low x (.ofNat 26)), ⟨.nil, 600⟩) := by kernel_rfl
theorem low27 (x : Int) : callA Try.prog E0 1000 600 6 [.int .i64 x, .int .i64 (.ofNat 27)] ⟨.nil, 600⟩ = some (.int .i64 (Go.Qm.low x (.ofNat 27)), ⟨.nil, 600⟩) := by kernel_rfl
theorem low28 (x : Int) : callA Try.prog E0 1000 600 6 [.int .i64 x, .int .i64 (.ofNat 28)] ⟨.nil, 600⟩ = some (.int .i64 (Go.Qm.low x (.ofNat 28)), ⟨.nil, 600⟩) := by kernel_rfl
theorem low29 (x : Int) : callA Try.prog E0 1000 600 6 [.int .i64 x, .int .i64 (.ofNat 29)] ⟨.nil, 600⟩ = some (.int .i64 (Go.Qm.low x (.ofNat 29)), ⟨.nil, 600⟩) := by kernel_rfl
theorem low30 (x : Int) : callA Try.prog E0 1000 600 6 [.int .i64 x, .int .i64 (.ofNat 30)] ⟨.nil, 600⟩ = some (.int .i64 (Go.Qm.low x (.ofNat 30)), ⟨.nil, 600⟩) := by kernel_rfl
theorem low31 (x : Int) : callA Try.prog E0 1000 600 6 [.int .i64 x, .int .i64 (.ofNat 31)] ⟨.nil, 600⟩ = some (.int .i64 (Go.Qm.low x (.ofNat 31)), ⟨.nil, 600⟩) := by kernel_rfl
theorem low32 (x : Int) : callA Try.prog E0 1000 600 6 [.int .i64 x, .int .i64 (.ofNat 32)] ⟨.nil, 600⟩ = some (.int .i64 (Go.Qm.low x (.ofNat 32)), ⟨.nil, 600⟩) := by kernel_rfl
theorem low33 (x : Int) : callA Try.prog E0 1000 600 6 [.int .i64 x, .int .i64 (.ofNat 33)] ⟨.nil, 600⟩ = some (.int .i64 (Go.Qm.low x (.ofNat 33)), ⟨.nil, 600⟩) := by kernel_rfl
theorem low34 (x : Int) : callA Try.prog E0 1000 600 6 [.int .i64 x, .int .i64 (.ofNat 34)] ⟨.nil, 600⟩ = some (.int .i64 (Go.Qm.low x (.ofNat 34)), ⟨.nil, 600⟩) := by kernel_rfl
theorem low35 (x : Int) : callA Try.prog E0 1000 600 6 [.int .i64 x, .int .i64 (.ofNat 35)] ⟨.nil, 600⟩ = some (.int .i64 (Go.Qm.low x (.ofNat 35)), ⟨.nil, 600⟩) := by kernel_rfl
theorem low36 (x : Int) : callA Try.prog E0 1000 600 6 [.int .i64 x, .int .i64 (.ofNat 36)] ⟨.nil, 600⟩ = some (.int .i64 (Go.Qm.low x (.ofNat 36)), ⟨.nil, 600⟩) := by kernel_rfl
theorem low37 (x : Int) : callA Try.prog E0 1000 600 6 [.int .i64 x, .int .i64 (.ofNat 37)] ⟨.nil, 600⟩ = some (.int .i64 (Go.Qm.low x (.ofNat 37)), ⟨.nil, 600⟩) := by kernel_rfl
theorem low38 (x : Int) : callA Try.prog E0 1000 600 6 [.int .i64 x, .int .i64 (.ofNat 38)] ⟨.nil, 600⟩ = some (.int .i64 (Go.Qm.low x (.ofNat 38)), ⟨.nil, 600⟩) := by kernel_rfl
theorem low39 (x : Int) : callA Try.prog E0 1000 600 6 [.int .i64 x, .int .i64 (.ofNat 39)] ⟨.nil, 600⟩ = some (.int .i64 (Go.Qm.low x (.ofNat 39)), ⟨.nil, 600⟩) := by kernel_rfl
theorem low40 (x : Int) : callA Try.prog E0 1000 600 6 [.int .i64 x, .int .i64 (.ofNat 40)] ⟨.nil, 600⟩ = some (.int .i64 (Go.Qm.low x (.ofNat 40)), ⟨.nil, 600⟩) := by kernel_rfl
theorem low41 (x : Int) : callA Try.prog E0 1000 600 6 [.int .i64 x, .int .i64 (.ofNat 41)] ⟨.nil, 600⟩ = some (.int .i64 (Go.Qm.low x (.ofNat 41)), ⟨.nil, 600⟩) := by kernel_rfl
theorem low42 (x : Int) : callA Try.prog E0 1000 600 6 [.int .i64 x, .int .i64 (.ofNat 42)] ⟨.nil, 600⟩ = some (.int .i64 (Go.Qm.low x (.ofNat 42)), ⟨.nil, 600⟩) := by kernel_rfl
theorem low43 (x : Int) : callA Try.prog E0 1000 600 6 [.int .i64 x, .int .i64 (.ofNat 43)] ⟨.nil, 600⟩ = some (.int .i64 (Go.Qm.low x (.ofNat 43)), ⟨.nil, 600⟩) := by kernel_rfl
theorem low44 (x : Int) : callA Try.prog E0 1000 600 6 [.int .i64 x, .int .i64 (.ofNat 44)] ⟨.nil, 600⟩ = some (.int .i64 (Go.Qm.low x (.ofNat 44)), ⟨.nil, 600⟩) := by kernel_rfl
theorem low45 (x : Int) : callA Try.prog E0 1000 600 6 [.int .i64 x, .int .i64 (.ofNat 45)] ⟨.nil, 600⟩ = some (.int .i64 (Go.Qm.low x (.ofNat 45)), ⟨.nil, 600⟩) := by kernel_rfl
theorem low46 (x : Int) : callA Try.prog E0 1000 600 6 [.int .i64 x, .int .i64 (.ofNat 46)] ⟨.nil, 600⟩ = some (.int .i64 (Go.Qm.low x (.ofNat 46)), ⟨.nil, 600⟩) := by kernel_rfl
theorem low47 (x : Int) : callA Try.prog E0 1000 600 6 [.int .i64 x, .int .i64 (.ofNat 47)] ⟨.nil, 600⟩ = some (.int .i64 (Go.Qm.low x (.ofNat 47)), ⟨.nil, 600⟩) := by kernel_rfl
theorem low48 (x : Int) : callA Try.prog E0 1000 600 6 [.int .i64 x, .int .i64 (.ofNat 48)] ⟨.nil, 600⟩ = some (.int .i64 (Go.Qm.low x (.ofNat 48)), ⟨.nil, 600⟩) := by kernel_rfl
theorem low49 (x : Int) : callA Try.prog E0 1000 600 6 [.int .i64 x, .int .i64 (.ofNat 49)] ⟨.nil, 600⟩ = some (.int .i64 (Go.Qm.low x (.ofNat 49)), ⟨.nil, 600⟩) := by kernel_rfl
theorem low50 (x : Int) : callA Try.prog E0 1000 600 6 [.int .i64 x, .int .i64 (.ofNat 50)] ⟨.nil, 600⟩ = some (.int .i64 (Go.Qm.low x (.ofNat 50)), ⟨.nil, 600⟩) := by kernel_rfl

theorem lowRun (x : Int) (m : Nat) (h1 : 1 ≤ m) (h2 : m ≤ 50) : callA Try.prog E0 1000 600 6 [.int .i64 x, .int .i64 (.ofNat m)] ⟨.nil, 600⟩ = some (.int .i64 (Go.Qm.low x (.ofNat m)), ⟨.nil, 600⟩) := by
  match m, h1, h2 with
  | 1, _, _ => exact low1 x
  | 2, _, _ => exact low2 x
  | 3, _, _ => exact low3 x
  | 4, _, _ => exact low4 x
  | 5, _, _ => exact low5 x
  | 6, _, _ => exact low6 x
  | 7, _, _ => exact low7 x
  | 8, _, _ => exact low8 x
  | 9, _, _ => exact low9 x
  | 10, _, _ => exact low10 x
  | 11, _, _ => exact low11 x
  | 12, _, _ => exact low12 x
  | 13, _, _ => exact low13 x
  | 14, _, _ => exact low14 x
  | 15, _, _ => exact low15 x
  | 16, _, _ => exact low16 x
  | 17, _, _ => exact low17 x
  | 18, _, _ => exact low18 x
  | 19, _, _ => exact low19 x
  | 20, _, _ => exact low20 x
  | 21, _, _ => exact low21 x
  | 22, _, _ => exact low22 x
  | 23, _, _ => exact low23 x
  | 24, _, _ => exact low24 x
  | 25, _, _ => exact low25 x
  | 26, _, _ => exact low26 x
  | 27, _, _ => exact low27 x
  | 28, _, _ => exact low28 x
  | 29, _, _ => exact low29 x
  | 30, _, _ => exact low30 x
  | 31, _, _ => exact low31 x
  | 32, _, _ => exact low32 x
  | 33, _, _ => exact low33 x
  | 34, _, _ => exact low34 x
  | 35, _, _ => exact low35 x
  | 36, _, _ => exact low36 x
  | 37, _, _ => exact low37 x
  | 38, _, _ => exact low38 x
  | 39, _, _ => exact low39 x
  | 40, _, _ => exact low40 x
  | 41, _, _ => exact low41 x
  | 42, _, _ => exact low42 x
  | 43, _, _ => exact low43 x
  | 44, _, _ => exact low44 x
  | 45, _, _ => exact low45 x
  | 46, _, _ => exact low46 x
  | 47, _, _ => exact low47 x
  | 48, _, _ => exact low48 x
  | 49, _, _ => exact low49 x
  | 50, _, _ => exact low50 x
  | n + 51, _, h => omega

theorem lowText : ∃ fn c, Try.prog.funcs[6]? = some fn ∧ (fn.name == "runtime.NumGoroutine") = false ∧ fn.body = some c :=
  ⟨_, _, Try.func6, by kernel_rfl, rfl⟩

theorem lowCalls (x : Int) (m : Nat) (h1 : 1 ≤ m) (h2 : m ≤ 50) (w : World) : Calls Try.prog 6 #[.int .i64 x, .int .i64 (.ofNat m)] w fun e w' => e = .returned (.int .i64 (Go.Qm.low x (.ofNat m))) ∧ Up w w' := by
  have hus : ∀ β, VRs β [.int .i64 x, .int .i64 (.ofNat m)] [.int .i64 x, .int .i64 (.ofNat m)] := fun _ => .cons (.int _ _) (.cons (.int _ _) .nil)
  refine (calls_by (us := [.int .i64 x, .int .i64 (.ofNat m)]) (E0_good _) (lowRun x m h1 h2) lowText hus w trivial).mono fun e w' ⟨u, he, hu, β, hr⟩ => ?_
  cases hr
  exact ⟨he, hu⟩

theorem EL_good : EnvGood Try.prog (fun _ => True) EL := by
  refine ⟨fun _ _ _ _ => trivial, fun _ _ h => (by cases h), fun g vs v h => ?_, (E0_good Try.prog).ext⟩
  have h' : knL g vs = some v := h
  unfold knL at h'
  cases h1 : Nat.beq g 5 with
  | true =>
    rw [h1, cond_true] at h'
    obtain rfl := Nat.eq_of_beq_eq_true h1
    obtain ⟨h2, h3⟩ := some_of_cond h'
    simp only [Option.some.injEq] at h3
    subst h3
    have : vs = [] := by simpa using h2
    subst this
    exact ⟨rfl, rfl, fun w _ => awake w⟩
  | false =>
    rw [h1, cond_false] at h'
    cases h2 : Nat.beq g 6 with
    | false => rw [h2] at h'; cases h'
    | true =>
      rw [h2, cond_true] at h'
      obtain rfl := Nat.eq_of_beq_eq_true h2
      split at h'
      · split at h'
        · rename_i x m0 m
          obtain ⟨h3, h4⟩ := some_of_cond h'
          simp only [Option.some.injEq] at h4
          subst h4
          simp only [Bool.and_eq_true] at h3
          exact ⟨rfl, rfl, fun w _ => lowCalls x m (Nat.le_of_ble_eq_true h3.1) (Nat.le_of_ble_eq_true h3.2) w⟩
        · cases h'
      · cases h'

theorem whichQ_spec {R : Nat} {G : Go.Qm.N5 Go.Qm.QO} {F : FW} {t : Go.Qm.Sy} {k : Nat → Go.Qm.QH → Bool} : ∀ {m : Nat} {H : Go.Qm.QH}, Go.Qm.HR R G H F → (∃ a : Nat, a < m ∧ Go.Qm.iv t = Go.Qm.sg a) → whichQ t m H k = true → ∃ j H', Go.Qm.iv t = Go.Qm.sg j ∧ Go.Qm.HR R G H' F ∧ k j H' = true
  | 0, H, _, ⟨a, ha, _⟩, _ => by omega
  | m + 1, H, hr, ⟨a, ha, hv⟩, h => by
    replace h : (Go.Qm.forkQ (.cm .eql t (.ci m)) H fun b H => Bool.rec (motive := fun _ => Bool) (whichQ t m H k) (k m H) b) = true := h
    obtain ⟨H1, h1, h2⟩ := Go.Qm.forkQ_spec (k := fun b H => Bool.rec (motive := fun _ => Bool) (whichQ t m H k) (k m H) b) hr h
    cases hb : Go.Qm.bv (.cm .eql t (.ci m)) with
    | true =>
      rw [hb] at h2
      have hb' : (Go.Qm.iv t == Go.Qm.sg m) = true := hb
      exact ⟨m, H1, by simpa using hb', h1, h2⟩
    | false =>
      rw [hb] at h2
      have hb' : (Go.Qm.iv t == Go.Qm.sg m) = false := hb
      refine whichQ_spec h1 ⟨a, ?_, hv⟩ h2
      rcases Nat.lt_or_ge a m with h3 | h3
      · exact h3
      · have : a = m := by omega
        subst this
        rw [hv] at hb'
        simp at hb'

theorem iv_cv (k : IntKind) (a : Go.Qm.Sy) : Go.Qm.iv (.cv k a) = wrapF k (Go.Qm.iv a) := rfl
theorem iv_ci (n : Nat) : Go.Qm.iv (.ci n) = Go.Qm.sg n := rfl

theorem wrap_small (m : Nat) (h : m ≤ 50) : wrapF .u64 (m : Int) = (m : Int) := by rw [wrapF_eq, IntKind.wrap_u64]; omega

theorem lowT_iv (t : Go.Qm.Sy) (m : Nat) (h1 : 1 ≤ m) (h2 : m ≤ 50) : Go.Qm.iv (lowT t m) = Go.Qm.low (Go.Qm.iv t) (.ofNat m) := by
  have e : Go.Qm.sg m = (m : Int) := Go.Qm.sg_small (by omega)
  have e3 := wrap_small m h2
  have e4 : (((m - 1) + 1 : Nat) : Int) = (m : Int) := by omega
  have e2 : Go.Qm.iv (.cv .u64 (.ci m)) = (((m - 1) + 1 : Nat) : Int) := by rw [iv_cv, iv_ci, e, e3, e4]
  have e5 : wrapF .u64 (.ofNat m) = (m : Int) := e3
  unfold lowT Go.Qm.low
  rw [iv_cv, Go.Qm.iv_rem e2, iv_cv, e4, e5]

theorem TL_ok : Go.Qm.TOk EL TL := by
  refine ⟨fun g q h hs R G en vs H F k ha hr hq => ?_, fun _ _ _ _ h => (by cases h), fun g vs h => ?_⟩
  · unfold TL at h
    cases h1 : Nat.beq g 5 with
    | true =>
      rw [h1, cond_true, Option.some.injEq] at h
      subst h
      cases en with
      | cons _ _ => cases hq
      | nil => cases vs with
        | cons _ _ => exact ha.elim
        | nil =>
          refine ⟨.b true, .bool true, H, ?_, .inr rfl, hr, hq⟩
          show knL g [] = _
          unfold knL
          rw [h1]
          rfl
    | false =>
      rw [h1, cond_false] at h
      cases h2 : Nat.beq g 6 with
      | false => rw [h2] at h; cases h
      | true =>
        rw [h2, cond_true, Option.some.injEq] at h
        subst h
        unfold kLow at hq
        dsimp only at hq
        split at hq
        · rename_i t m
          cases hm : (Nat.ble 1 m && Nat.ble m 50) with
          | false => rw [hm] at hq; cases hq
          | true =>
            rw [hm, cond_true] at hq
            have hm' := hm
            simp only [Bool.and_eq_true] at hm'
            have m1 := Nat.le_of_ble_eq_true hm'.1
            have m2 := Nat.le_of_ble_eq_true hm'.2
            cases vs with
            | nil => exact ha.elim
            | cons v1 vs => cases vs with
              | nil => exact ha.2.elim
              | cons v2 vs => cases vs with
                | cons _ _ => exact ha.2.2.elim
                | nil =>
                  have e1 := ha.1.eq (by simp)
                  have e2 := ha.2.1.eq (by simp)
                  have es : Go.Qm.sg m = Int.ofNat m := Go.Qm.sg_small (by omega)
                  have e2' : v2 = .int .i64 (.ofNat m) := by
                    rw [e2]
                    show Value.int .i64 (Go.Qm.sg m) = _
                    rw [es]
                  have e1' : v1 = .int .i64 (Go.Qm.iv t) := e1
                  subst e1'
                  subst e2'
                  have hk : knL g [.int .i64 (Go.Qm.iv t), .int .i64 (.ofNat m)] = some (.int .i64 (Go.Qm.low (Go.Qm.iv t) (.ofNat m))) := by
                    unfold knL
                    rw [h1, h2]
                    simp only [cond_false, cond_true, hm]
                  cases hbk : isBack t with
                  | false =>
                    rw [hbk, cond_false] at hq
                    refine ⟨.q (.i .i64) (lowT t m), _, H, hk, .inr ?_, hr, hq⟩
                    show _ = Value.int .i64 (Go.Qm.iv (lowT t m))
                    rw [lowT_iv t m m1 m2]
                  | true =>
                    rw [hbk, cond_true] at hq
                    obtain ⟨a, ha1, ha2⟩ := Go.Qm.low_spec (Go.Qm.iv t) m (by omega) (by omega)
                    have hv : Go.Qm.iv (lowT t m) = Go.Qm.sg a := by
                      rw [lowT_iv t m m1 m2, Go.Qm.sg_small (by omega)]
                      exact ha2
                    obtain ⟨j, H', g1, g2, g3⟩ := whichQ_spec hr ⟨a, ha1, hv⟩ hq
                    refine ⟨.i j, _, H', hk, .inr ?_, g2, g3⟩
                    show _ = Value.int .i64 (Go.Qm.sg j)
                    rw [← g1, lowT_iv t m m1 m2]
        · cases hq
  · unfold TL at h
    show knL g vs = none
    unfold knL
    cases h1 : Nat.beq g 5 with
    | true => rw [h1] at h; cases h
    | false =>
      rw [h1, cond_false] at h
      rw [cond_false]
      cases h2 : Nat.beq g 6 with
      | true => rw [h2] at h; cases h
      | false => rfl

end Go.Proofs.Ytjkhpjnhdijchaa.bl
