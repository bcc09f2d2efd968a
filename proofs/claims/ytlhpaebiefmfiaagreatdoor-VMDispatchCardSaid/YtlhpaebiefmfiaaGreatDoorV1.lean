/- The law of the machine: 'awake' of it comes to true; what is known of 'Low' and of 'IndexByteString'; the run of its 36 cases. No conditions. -/
import Derived.Test.YtlhpaebiefmfiaaGreatDoorQ15
import Derived.Test.YtlhpaebiefmfiaaGreatDoorChecked
import Derived.KernelRfl
import Derived.IntWalk
import Derived.Laws.Externs
import Derived.Lib.Bytealg
namespace Go.Proofs.YtlhpaebiefmfiaaGreatDoor.vmAwake
open Go Go.Am Go.Proofs
set_option maxRecDepth 1000000

theorem runQ : Go.Qm.callN Tryz.prog E0 Go.Qm.T0 1000 10 .nil Go.Qm.H0 Go.Qm.isB = true := by kernel_rfl

theorem run : isT (callA Tryz.prog E0 1000 600 10 [] ⟨.nil, 600⟩) = true := Go.Qm.isT_of Go.Qm.T0_ok (en := .nil) trivial runQ

theorem text : ∃ fn c, Tryz.prog.funcs[10]? = some fn ∧ (fn.name == "runtime.NumGoroutine") = false ∧ fn.body = some c :=
  ⟨_, _, Tryz.func10, by kernel_rfl, rfl⟩

theorem calls (w : World) : Calls Tryz.prog 10 #[] w fun e w' => e = .returned (.bool true) ∧ Up w w' :=
  calls_true (us := []) (E0_good _) run text (fun _ => .nil) w

end Go.Proofs.YtlhpaebiefmfiaaGreatDoor.vmAwake
namespace Go.Proofs.YtlhpaebiefmfiaaGreatDoor.vMDispatch
open Go Go.Am Go.Proofs
set_option maxRecDepth 1000000

def low (x m : Int) : Int := wrapF .i64 ((wrapF .u64 x).tmod (wrapF .u64 m))

theorem low3 (x : Int) : low x 3 = 0 ∨ low x 3 = 1 ∨ low x 3 = 2 := by
  unfold low
  have h3 : wrapF .u64 3 = 3 := rfl
  rw [h3]
  have h0 : 0 ≤ wrapF .u64 x := by rw [wrapF_eq, IntKind.wrap_u64]; omega
  have hm : (wrapF .u64 x).tmod 3 = wrapF .u64 x % 3 := Int.tmod_eq_emod_of_nonneg h0
  rw [hm]
  have : wrapF .u64 x % 3 = 0 ∨ wrapF .u64 x % 3 = 1 ∨ wrapF .u64 x % 3 = 2 := by omega
  rcases this with h | h | h <;> rw [h]
  · exact .inl rfl
  · exact .inr (.inl rfl)
  · exact .inr (.inr rfl)

theorem low2 (x : Int) : low x 2 = 0 ∨ low x 2 = 1 := by
  unfold low
  have h3 : wrapF .u64 2 = 2 := rfl
  rw [h3]
  have h0 : 0 ≤ wrapF .u64 x := by rw [wrapF_eq, IntKind.wrap_u64]; omega
  have hm : (wrapF .u64 x).tmod 2 = wrapF .u64 x % 2 := Int.tmod_eq_emod_of_nonneg h0
  rw [hm]
  have : wrapF .u64 x % 2 = 0 ∨ wrapF .u64 x % 2 = 1 := by omega
  rcases this with h | h <;> rw [h]
  · exact .inl rfl
  · exact .inr rfl

theorem lowRun3 (x : Int) : callA Tryz.prog E0 1000 600 6 [.int .i64 x, .int .i64 3] ⟨.nil, 600⟩ = some (.int .i64 (low x 3), ⟨.nil, 600⟩) := by kernel_rfl
theorem lowRun2 (x : Int) : callA Tryz.prog E0 1000 600 6 [.int .i64 x, .int .i64 2] ⟨.nil, 600⟩ = some (.int .i64 (low x 2), ⟨.nil, 600⟩) := by kernel_rfl

theorem lowText : ∃ fn c, Tryz.prog.funcs[6]? = some fn ∧ (fn.name == "runtime.NumGoroutine") = false ∧ fn.body = some c :=
  ⟨_, _, Tryz.func6, by kernel_rfl, rfl⟩

theorem lowCalls {x m : Int} (h : m = 3 ∨ m = 2) (w : World) : Calls Tryz.prog 6 #[.int .i64 x, .int .i64 m] w fun e w' => e = .returned (.int .i64 (low x m)) ∧ Up w w' := by
  have hus : ∀ β, VRs β [.int .i64 x, .int .i64 m] [.int .i64 x, .int .i64 m] := fun _ => .cons (.int _ _) (.cons (.int _ _) .nil)
  have hc : callA Tryz.prog E0 1000 600 6 [.int .i64 x, .int .i64 m] ⟨.nil, 600⟩ = some (.int .i64 (low x m), ⟨.nil, 600⟩) := by
    rcases h with rfl | rfl
    · exact lowRun3 x
    · exact lowRun2 x
  refine (calls_by (us := [.int .i64 x, .int .i64 m]) (E0_good _) hc lowText hus w).mono fun e w' ⟨u, he, hu, β, hr⟩ => ?_
  cases hr
  exact ⟨he, hu⟩

/-- What is known. -/
def knV (g : FuncId) (vs : List Value) : Option Value :=
  bif Nat.beq g 10 then (bif vs.isEmpty then some (.bool true) else none) else
    bif Nat.beq g 6 then (match vs with
      | [.int .i64 x, .int .i64 m] => bif decide (m = 3) || decide (m = 2) then some (.int .i64 (low x m)) else none
      | _ => none) else none
def EV : Env := ⟨knV, fun g => bif Nat.beq g 240 then 1 else 0⟩

theorem EV_good : EnvGood Tryz.prog EV := by
  refine ⟨fun g vs v h => ?_, fun g vs v hb h w => ?_⟩
  · have h' : knV g vs = some v := h
    unfold knV at h'
    cases h1 : Nat.beq g 10 with
    | true =>
      rw [h1, cond_true] at h'
      obtain rfl := Nat.eq_of_beq_eq_true h1
      obtain ⟨h2, h3⟩ := some_of_cond h'
      simp only [Option.some.injEq] at h3
      subst h3
      have : vs = [] := by simpa using h2
      subst this
      exact ⟨rfl, rfl, vmAwake.calls⟩
    | false =>
      rw [h1, cond_false] at h'
      cases h2 : Nat.beq g 6 with
      | false => rw [h2] at h'; cases h'
      | true =>
        rw [h2, cond_true] at h'
        obtain rfl := Nat.eq_of_beq_eq_true h2
        split at h'
        · obtain ⟨h3, h4⟩ := some_of_cond h'
          simp only [Option.some.injEq] at h4
          subst h4
          simp only [Bool.or_eq_true, decide_eq_true_eq] at h3
          exact ⟨rfl, rfl, lowCalls h3⟩
        · cases h'
  · have h' : extA (bif Nat.beq g 240 then 1 else 0) vs = some v := h
    cases h1 : Nat.beq g 240 with
    | false => rw [h1, cond_false, extA_zero] at h'; cases h'
    | true =>
      rw [h1, cond_true] at h'
      obtain rfl := Nat.eq_of_beq_eq_true h1
      unfold extA at h'
      split at h'
      · simp only [Option.some.injEq] at h'
        subst h'
        rw [run_callFunc_extern Tryz.func240 (by kernel_rfl) (by kernel_rfl) (by kernel_rfl) (e := Extern.BytealgIndexByte.indexByte) (by kernel_rfl)]
        show ((Extern.BytealgIndexByte.indexByte #[.string _, .int .u8 _]).run Tryz.prog w).andThen _ = _
        rw [Lib.run_indexByteString]
        rfl
      · omega
      · cases h'

/-! The same, quick. -/

def kAw : Go.Qm.Kq := ⟨fun en k => match en with
  | .nil => k (.b true)
  | _ => false⟩
def TV : FuncId → Option Go.Qm.Kq := fun g => bif Nat.beq g 10 then some kAw else bif Nat.beq g 6 then some ⟨fun _ _ => false⟩ else none

theorem TV_ok : Go.Qm.TOk EV TV := by
  refine ⟨fun g q en vs k h ha hq => ?_, fun g vs h => ?_⟩
  · unfold TV at h
    cases h1 : Nat.beq g 10 with
    | true =>
      rw [h1, cond_true] at h
      simp only [Option.some.injEq] at h
      subst h
      have hq' : kAw.f en k = true := hq
      unfold kAw at hq'
      dsimp only at hq'
      split at hq'
      · cases vs with
        | cons _ _ => exact ha.elim
        | nil =>
          refine ⟨.b true, .bool true, ?_, .inr rfl, hq'⟩
          show (bif Nat.beq g 10 then _ else _) = _
          rw [h1]
          rfl
      · cases hq'
    | false =>
      rw [h1, cond_false] at h
      cases h2 : Nat.beq g 6 with
      | false => rw [h2] at h; cases h
      | true =>
        rw [h2, cond_true] at h
        simp only [Option.some.injEq] at h
        subst h
        cases hq
  · unfold TV at h
    show knV g vs = none
    unfold knV
    cases h1 : Nat.beq g 10 with
    | true => rw [h1] at h; cases h
    | false =>
      rw [h1, cond_false] at h
      rw [cond_false]
      cases h2 : Nat.beq g 6 with
      | true => rw [h2] at h; cases h
      | false => rfl

/-! The text's pieces. -/

def fstC : Code → Code
  | .seq a _ => a
  | c => c
def sndC : Code → Code
  | .seq _ b => b
  | c => c
noncomputable def fnV : Func := Tryz.f3
noncomputable def codeV : Code := match fnV.body with
  | some c => c
  | none => .skip
noncomputable def r0 : Code := fstC codeV
noncomputable def r1 : Code := fstC (sndC codeV)
noncomputable def rest : Code := sndC (sndC codeV)

def num (n : Nat) : Go.Qm.V := .i n
/-- The rest of the text on what 'come' and the three numbers are. -/
noncomputable def case1 (come : Bool) (a b c : Nat) : Bool :=
  (Go.Qm.restQ Tryz.prog fnV codeV rest [some 0, some 1, some 2, some 3, some 8]).f ⟨Go.Qm.callN Tryz.prog EV TV 999, Go.Qm.isB, .nil, .nil⟩
    (.cons (.b come) (.cons (.i a) (.cons (.i b) (.cons (.i c) (.cons (.b false) .nil))))) Go.Qm.H0

end Go.Proofs.YtlhpaebiefmfiaaGreatDoor.vMDispatch
