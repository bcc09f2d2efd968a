/- What is known for the run of the law on numbers: 'awake' is true, 'Low' at its two bounds; a number as its digits. No conditions. -/
import Derived.Test.YthmkdcclmaoonaaDoorE1
set_option linter.unusedVariables false
set_option linter.unusedSimpArgs false
set_option linter.unusedSectionVars false
namespace Go.Proofs.YthmkdcclmaoonaaDoor.ln
open Go Go.Am Go.Proofs Go.RowKit
set_option maxRecDepth 1000000

theorem lowRun1 (x : Int) : callA Tryd.prog E0 1000 600 4 [.int .i64 x, .int .i64 200000] ⟨.nil, 600⟩ = some (.int .i64 (Go.Qm.low x 200000), ⟨.nil, 600⟩) := by kernel_rfl
theorem lowRun2 (x : Int) : callA Tryd.prog E0 1000 600 4 [.int .i64 x, .int .i64 4] ⟨.nil, 600⟩ = some (.int .i64 (Go.Qm.low x 4), ⟨.nil, 600⟩) := by kernel_rfl

theorem lowText : ∃ fn c, Tryd.prog.funcs[4]? = some fn ∧ (fn.name == "runtime.NumGoroutine") = false ∧ fn.body = some c :=
  ⟨_, _, Tryd.func4, by kernel_rfl, rfl⟩

theorem lowCalls {m : Int} (x : Int) (hr : callA Tryd.prog E0 1000 600 4 [.int .i64 x, .int .i64 m] ⟨.nil, 600⟩ = some (.int .i64 (Go.Qm.low x m), ⟨.nil, 600⟩)) (w : World) : Calls Tryd.prog 4 #[.int .i64 x, .int .i64 m] w fun e w' => e = .returned (.int .i64 (Go.Qm.low x m)) ∧ Up w w' := by
  have hus : ∀ β, VRs β [.int .i64 x, .int .i64 m] [.int .i64 x, .int .i64 m] := fun _ => .cons (.int _ _) (.cons (.int _ _) .nil)
  refine (calls_by (us := [.int .i64 x, .int .i64 m]) (E0_good _) hr lowText hus w trivial).mono fun e w' ⟨u, he, hu, β, hr⟩ => ?_
  cases hr
  exact ⟨he, hu⟩

noncomputable def knL (g : FuncId) (vs : List Value) : Option Value :=
  bif Nat.beq g 7 then (bif vs.isEmpty then some (.bool true) else none) else
    bif Nat.beq g 4 then (match vs with
      | [.int .i64 x, .int .i64 m] => bif decide (m = 200000) || decide (m = 4) then some (.int .i64 (Go.Qm.low x m)) else none
      | _ => none) else none

section
variable [Go.Qm.Rho]
noncomputable def EL : Env := ⟨knL, fun _ => 0, fun g => bif Nat.beq g 11 then some rl.asSm else none⟩

theorem EL_good : EnvGood Tryd.prog IY EL := by
  refine ⟨IY_below, ss_ok _ rfl, fun g vs v h => ?_, fun g vs v _ h w _ => ?_⟩
  · have h' : knL g vs = some v := h
    unfold knL at h'
    cases h1 : Nat.beq g 7 with
    | true =>
      rw [h1, cond_true] at h'
      obtain rfl := Nat.eq_of_beq_eq_true h1
      obtain ⟨h2, h3⟩ := some_of_cond h'
      simp only [Option.some.injEq] at h3
      subst h3
      have : vs = [] := by simpa using h2
      subst this
      exact ⟨rfl, rfl, awake⟩
    | false =>
      rw [h1, cond_false] at h'
      cases h2 : Nat.beq g 4 with
      | false => rw [h2] at h'; cases h'
      | true =>
        rw [h2, cond_true] at h'
        obtain rfl := Nat.eq_of_beq_eq_true h2
        split at h'
        · obtain ⟨h3, h4⟩ := some_of_cond h'
          simp only [Option.some.injEq] at h4
          subst h4
          rw [Bool.or_eq_true] at h3
          rcases h3 with h3 | h3
          · obtain rfl := of_decide_eq_true h3
            exact ⟨rfl, rfl, fun w _ => lowCalls _ (lowRun1 _) w⟩
          · obtain rfl := of_decide_eq_true h3
            exact ⟨rfl, rfl, fun w _ => lowCalls _ (lowRun2 _) w⟩
        · cases h'
  · have h' : extA 0 vs = some v := h
    rw [extA_zero] at h'
    cases h'

/-! The same, quick. -/

/-- A number of so many digits. -/
def numV (n : Nat) : Go.Qm.V :=
  match n with
  | 0 => .i 0
  | 1 => .q (.i .i64) (.po 1 (.cons 1 0 8 .nil))
  | 2 => .q (.i .i64) (.po 10 (.cons 1 0 9 (.cons 10 1 8 .nil)))
  | 3 => .q (.i .i64) (.po 100 (.cons 1 0 9 (.cons 10 1 9 (.cons 100 2 8 .nil))))
  | 4 => .q (.i .i64) (.po 1000 (.cons 1 0 9 (.cons 10 1 9 (.cons 100 2 9 (.cons 1000 3 8 .nil)))))
  | 5 => .q (.i .i64) (.po 10000 (.cons 1 0 9 (.cons 10 1 9 (.cons 100 2 9 (.cons 1000 3 9 (.cons 10000 4 8 .nil))))))
  | _ => .q (.i .i64) (.po 100000 (.cons 1 0 9 (.cons 10 1 9 (.cons 100 2 9 (.cons 1000 3 9 (.cons 10000 4 9 .nil))))))

def kLow (n z : Nat) : Go.Qm.Kq := ⟨fun en H k => match en with
  | .cons (.q (.i .i64) (.vi x)) (.cons (.i m) .nil) => bif Nat.beq x 1000 && Nat.beq m 200000 then k (numV n) H else bif Nat.beq x 1001 && Nat.beq m 4 then k (.i z) H else false
  | _ => false⟩
noncomputable def TL (n z : Nat) : FuncId → Option Go.Qm.Kq := fun g => bif Nat.beq g 11 then some rl.asK else bif Nat.beq g 7 then some Go.Qm.kTrue else bif Nat.beq g 4 then some (kLow n z) else none

theorem numV_bot (n : Nat) : numV n ≠ .bot := by unfold numV; split <;> simp

theorem TL_ok {n z : Nat} (hn : Go.Qm.dec (numV n) = .int .i64 (Go.Qm.low (Go.Qm.Rho.i 1000) 200000)) (hz : Go.Qm.sg z = Go.Qm.low (Go.Qm.Rho.i 1001) 4) : Go.Qm.TOk EL (TL n z) := by
  refine ⟨fun g q h hs R G en vs H F k ha hr hq => ?_, fun g q s h hs R G en vs H F k ha hr hR hq => ?_, fun g vs h => ?_⟩
  · unfold TL at h
    cases h1 : Nat.beq g 11 with
    | true =>
      have hs' : (bif Nat.beq g 11 then some rl.asSm else none) = none := hs
      rw [h1] at hs'
      cases hs'
    | false =>
      rw [h1, cond_false] at h
      cases h2 : Nat.beq g 7 with
      | true =>
        rw [h2, cond_true, Option.some.injEq] at h
        subst h
        cases en with
        | cons _ _ => cases hq
        | nil => cases vs with
          | cons _ _ => exact ha.elim
          | nil =>
            refine ⟨.b true, .bool true, H, ?_, .inr rfl, hr, hq⟩
            show knL g [] = _
            unfold knL
            rw [h2]
            rfl
      | false =>
        rw [h2, cond_false] at h
        cases h3 : Nat.beq g 4 with
        | false => rw [h3] at h; cases h
        | true =>
          rw [h3, cond_true, Option.some.injEq] at h
          subst h
          unfold kLow at hq
          dsimp only at hq
          split at hq
          · rename_i x m
            cases vs with
            | nil => exact ha.elim
            | cons v1 vs => cases vs with
              | nil => exact ha.2.elim
              | cons v2 vs => cases vs with
                | cons _ _ => exact ha.2.2.elim
                | nil =>
                  have e1 : v1 = .int .i64 (Go.Qm.Rho.i x) := ha.1.eq (by simp)
                  have e2 : v2 = .int .i64 (Go.Qm.sg m) := ha.2.1.eq (by simp)
                  subst e1
                  subst e2
                  cases hc : (Nat.beq x 1000 && Nat.beq m 200000) with
                  | true =>
                    rw [hc, cond_true] at hq
                    rw [Bool.and_eq_true] at hc
                    obtain rfl := Nat.eq_of_beq_eq_true hc.1
                    obtain rfl := Nat.eq_of_beq_eq_true hc.2
                    refine ⟨numV n, _, H, ?_, .inr hn.symm, hr, hq⟩
                    show knL g [.int .i64 (Go.Qm.Rho.i 1000), .int .i64 (Go.Qm.sg 200000)] = _
                    rw [show Go.Qm.sg 200000 = 200000 from Go.Qm.sg_small (by omega)]
                    unfold knL
                    rw [h2, h3]
                    rfl
                  | false =>
                    rw [hc, cond_false] at hq
                    cases hd : (Nat.beq x 1001 && Nat.beq m 4) with
                    | false => rw [hd] at hq; cases hq
                    | true =>
                      rw [hd, cond_true] at hq
                      rw [Bool.and_eq_true] at hd
                      obtain rfl := Nat.eq_of_beq_eq_true hd.1
                      obtain rfl := Nat.eq_of_beq_eq_true hd.2
                      refine ⟨.i z, _, H, ?_, .inr (by show _ = Value.int .i64 (Go.Qm.sg z); rw [hz]), hr, hq⟩
                      show knL g [.int .i64 (Go.Qm.Rho.i 1001), .int .i64 (Go.Qm.sg 4)] = _
                      rw [show Go.Qm.sg 4 = 4 from Go.Qm.sg_small (by omega)]
                      unfold knL
                      rw [h2, h3]
                      rfl
          · cases hq
  · unfold TL at h
    have hs' : (bif Nat.beq g 11 then some rl.asSm else none) = some s := hs
    cases h1 : Nat.beq g 11 with
    | false => rw [h1] at hs'; cases hs'
    | true =>
      rw [h1, cond_true, Option.some.injEq] at h hs'
      subst h
      subst hs'
      exact rl.asK_ok R G en vs H F k ha hr hR hq
  · unfold TL at h
    show knL g vs = none
    unfold knL
    cases h1 : Nat.beq g 11 with
    | true => rw [h1] at h; cases h
    | false =>
      rw [h1, cond_false] at h
      cases h2 : Nat.beq g 7 with
      | true => rw [h2] at h; cases h
      | false =>
        rw [h2, cond_false] at h
        rw [cond_false]
        cases h3 : Nat.beq g 4 with
        | true => rw [h3] at h; cases h
        | false => rfl

def args : Go.Qm.En := .cons (.q (.i .i64) (.vi 1000)) (.cons (.q (.i .i64) (.vi 1001)) .nil)
noncomputable def case1 (e n z : Nat) : Bool := Go.Qm.callF Tryd.prog EL (TL n z) (tabs e) .nil 1000 3 args Go.Qm.isB

end
end Go.Proofs.YthmkdcclmaoonaaDoor.ln
