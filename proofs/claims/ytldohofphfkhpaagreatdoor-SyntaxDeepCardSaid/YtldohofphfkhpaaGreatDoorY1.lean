/- What is known for the run of the law on brackets; 'awake' of it comes to true; the run of its cases. No conditions. -/
import Derived.Test.YtldohofphfkhpaaGreatDoorR1f2
import Derived.Test.YtldohofphfkhpaaGreatDoorQ16
import Derived.IntWalk
import Derived.Laws.Externs
import Derived.Lib.Bytealg
set_option linter.unusedVariables false
set_option linter.unusedSimpArgs false
namespace Go.Proofs.YtldohofphfkhpaaGreatDoor.sd
open Go Go.Am Go.Proofs Go.RowKit
set_option maxRecDepth 1000000

noncomputable def EY : Env := ⟨fun _ _ => none, fun g => bif Nat.beq g 97 then 1 else 0, fun g => bif Nat.beq g 12 then some rl.asSm else none⟩
noncomputable def TY : FuncId → Option Go.Qm.Kq := fun g => bif Nat.beq g 12 then some rl.asK else none

/-- strings.asciiSpace. -/
def spaceN (i : Nat) : Nat := bif (Nat.ble 9 i && Nat.ble i 13) || Nat.beq i 32 then 1 else 0
noncomputable def spaceV (i : Nat) : Go.Qm.V := .y (spaceN i)
noncomputable def tabs (e : Nat) : List (Go.Qm.Pt × Go.Qm.Cs Go.Qm.V × Nat × Nat) := [(⟨.d0, .d0, .d0, .d0, .d2⟩, Go.Qm.csOf 256 spaceV, 256, e)]

theorem awakeQ (e : Nat) : Go.Qm.callT Tryz.prog EY TY (tabs e) 1000 7 .nil Go.Qm.isB = true := by kernel_rfl

theorem tabs_ok (e : Nat) : Go.Qm.tabsOk (tabs e) :=
  ⟨show (2 : Nat) < 600 by decide, rfl, Go.Qm.tab_sc (by decide) (fun _ _ => rfl), trivial⟩

/-- What is known of the world. -/
def IY (w : World) : Prop := rl.errI w ∧ ∃ e, Go.Qm.TabAt w 2 256 spaceV e

theorem IY_below (w w' : World) (h : IY w) (hb : Below w.heap.size w w') : IY w' := by
  obtain ⟨h1, e, h2⟩ := h
  exact ⟨rl.errI_below h1 hb, e, h2.below hb⟩

theorem ext_ok {g : FuncId} {vs : List Value} {v : Value} (h : extA (bif Nat.beq g 97 then 1 else 0) vs = some v) (w : World) : (callFunc g vs.toArray).run Tryz.prog w = .ok (.value v) w := by
  cases h1 : Nat.beq g 97 with
  | false => rw [h1, cond_false, extA_zero] at h; cases h
  | true =>
    rw [h1, cond_true] at h
    obtain rfl := Nat.eq_of_beq_eq_true h1
    unfold extA at h
    split at h
    · simp only [Option.some.injEq] at h
      subst h
      rw [run_callFunc_extern Tryz.func97 (by kernel_rfl) (by kernel_rfl) (by kernel_rfl) (e := Extern.BytealgIndexByte.indexByte) (by kernel_rfl)]
      show ((Extern.BytealgIndexByte.indexByte #[.string _, .int .u8 _]).run Tryz.prog w).andThen _ = _
      rw [Lib.run_indexByteString]
      rfl
    · omega
    · cases h

theorem ss_ok (ss : FuncId → Option Sm) (hs : ss = fun g => bif Nat.beq g 12 then some rl.asSm else none) : ∀ g s, ss g = some s → ∀ R, SmGood Tryz.prog IY R g s := by
  subst hs
  intro g s h R
  cases h1 : Nat.beq g 12 with
  | false => simp only [h1, cond_false] at h; cases h
  | true =>
    simp only [h1, cond_true, Option.some.injEq] at h
    subst h
    obtain rfl := Nat.eq_of_beq_eq_true h1
    exact (rl.as_good R).weaken fun _ h => h.1

theorem EY_good : EnvGood Tryz.prog IY EY :=
  ⟨IY_below, ss_ok _ rfl, fun _ _ _ h => (by cases h), fun g vs v _ h w => ext_ok h w⟩

theorem TY_ok : Go.Qm.TOk EY TY := by
  refine ⟨fun g q h hs => ?_, fun g q s h hs R G en vs H F k ha hr hR hq => ?_, fun _ _ _ => rfl⟩
  · unfold TY at h
    cases h1 : Nat.beq g 12 with
    | false => rw [h1] at h; cases h
    | true =>
      have hs' : (bif Nat.beq g 12 then some rl.asSm else none) = none := hs
      rw [h1] at hs'
      cases hs'
  · unfold TY at h
    cases h1 : Nat.beq g 12 with
    | false => rw [h1] at h; cases h
    | true =>
      rw [h1, cond_true, Option.some.injEq] at h
      subst h
      have hs' : (bif Nat.beq g 12 then some rl.asSm else none) = some s := hs
      rw [h1, cond_true, Option.some.injEq] at hs'
      subst hs'
      exact rl.asK_ok R G en vs H F k ha hr hR hq

/-- The store at the start says what is known of the world. -/
theorem start {w : World} {e : TypeId} (h : Go.Qm.TabAt w 2 256 spaceV e) : ∃ β, WR Tryz.prog (fun R' w0 => R' = 600 ∧ w0 = w) β (Go.Qm.tabsF (tabs e)) w := by
  refine ⟨_, (WR.base0 (fun _ => 256) (fun _ => Tryz.prog.cellsOf e) w).tab (o := 2) (k := ⟨2, 0, 256, Tryz.prog.cellsOf e⟩) rfl (by decide) (.inr rfl) (fun o' x' k' ho => by cases ho) (h.or (by decide) _ _ (fun i _ => .int _ _)) (fun c e' he => by cases he; rfl)⟩

theorem start_lo (e : TypeId) : Lo (Go.Qm.tabsF (tabs e)) := by
  refine ⟨show (512 : Nat) ≤ 600 by decide, fun o ho => ?_⟩
  have ho' : 600 ≤ o := ho
  show ((T.nil : T AObj).set 2 _).get o = none
  rw [T.get_set _ _ _ (by decide), if_neg (by omega)]
  rfl

theorem awakeText : ∃ fn c, Tryz.prog.funcs[7]? = some fn ∧ (fn.name == "runtime.NumGoroutine") = false ∧ fn.body = some c :=
  ⟨_, _, Tryz.func7, by kernel_rfl, rfl⟩

theorem awake (w : World) (h : IY w) : Calls Tryz.prog 7 #[] w fun e w' => e = .returned (.bool true) ∧ Up w w' := by
  obtain ⟨_, e, he⟩ := id h
  obtain ⟨β, hw⟩ := start he
  exact calls_true_from (us := []) EY_good (Go.Qm.isT_from TY_ok (tabs_ok e) (en := .nil) (vs := []) trivial (awakeQ e)) awakeText w h (start_lo e) (Nat.le_refl _) hw .nil

theorem lowRun (x : Int) : callA Tryz.prog E0 1000 600 4 [.int .i64 x, .int .i64 20] ⟨.nil, 600⟩ = some (.int .i64 (Go.Qm.low x 20), ⟨.nil, 600⟩) := by kernel_rfl

theorem lowText : ∃ fn c, Tryz.prog.funcs[4]? = some fn ∧ (fn.name == "runtime.NumGoroutine") = false ∧ fn.body = some c :=
  ⟨_, _, Tryz.func4, by kernel_rfl, rfl⟩

theorem lowCalls (x : Int) (w : World) : Calls Tryz.prog 4 #[.int .i64 x, .int .i64 20] w fun e w' => e = .returned (.int .i64 (Go.Qm.low x 20)) ∧ Up w w' := by
  have hus : ∀ β, VRs β [.int .i64 x, .int .i64 20] [.int .i64 x, .int .i64 20] := fun _ => .cons (.int _ _) (.cons (.int _ _) .nil)
  refine (calls_by (us := [.int .i64 x, .int .i64 20]) (E0_good _) (lowRun x) lowText hus w trivial).mono fun e w' ⟨u, he, hu, β, hr⟩ => ?_
  cases hr
  exact ⟨he, hu⟩

/-- What is known. -/
noncomputable def knL (g : FuncId) (vs : List Value) : Option Value :=
  bif Nat.beq g 7 then (bif vs.isEmpty then some (.bool true) else none) else
    bif Nat.beq g 4 then (match vs with
      | [.int .i64 x, .int .i64 m] => bif decide (m = 20) then some (.int .i64 (Go.Qm.low x 20)) else none
      | _ => none) else none
noncomputable def EL : Env := ⟨knL, fun g => bif Nat.beq g 97 then 1 else 0, fun g => bif Nat.beq g 12 then some rl.asSm else none⟩

theorem EL_good : EnvGood Tryz.prog IY EL := by
  refine ⟨IY_below, ss_ok _ rfl, fun g vs v h => ?_, fun g vs v _ h w => ext_ok h w⟩
  have h' : knL g vs = some v := h
  unfold knL at h'
  cases h1 : Nat.beq g 7 with
  | true =>
    rw [h1, cond_true] at h'
    obtain rfl := Nat.eq_of_beq_eq_true h1
    obtain ⟨h2, h3⟩ := some_of_cond h'
    simp only [Option.some.injEq] at h3
    subst h3
    have : vs = [] := by simpa using h2
    subst this
    exact ⟨rfl, rfl, awake⟩
  | false =>
    rw [h1, cond_false] at h'
    cases h2 : Nat.beq g 4 with
    | false => rw [h2] at h'; cases h'
    | true =>
      rw [h2, cond_true] at h'
      obtain rfl := Nat.eq_of_beq_eq_true h2
      split at h'
      · obtain ⟨h3, h4⟩ := some_of_cond h'
        simp only [Option.some.injEq] at h4
        subst h4
        obtain rfl := of_decide_eq_true h3
        exact ⟨rfl, rfl, fun w _ => lowCalls _ w⟩
      · cases h'

/-! The same, quick. -/

noncomputable def TL : FuncId → Option Go.Qm.Kq := fun g => bif Nat.beq g 12 then some rl.asK else bif Nat.beq g 7 then some Go.Qm.kTrue else bif Nat.beq g 4 then some ⟨fun _ _ _ => false⟩ else none

theorem TL_ok : Go.Qm.TOk EL TL := by
  refine ⟨fun g q h hs R G en vs H F k ha hr hq => ?_, fun g q s h hs R G en vs H F k ha hr hR hq => ?_, fun g vs h => ?_⟩
  · unfold TL at h
    cases h1 : Nat.beq g 12 with
    | true =>
      have hs' : (bif Nat.beq g 12 then some rl.asSm else none) = none := hs
      rw [h1] at hs'
      cases hs'
    | false =>
      rw [h1, cond_false] at h
      cases h2 : Nat.beq g 7 with
      | true =>
        rw [h2, cond_true, Option.some.injEq] at h
        subst h
        cases en with
        | cons _ _ => cases hq
        | nil => cases vs with
          | cons _ _ => exact ha.elim
          | nil =>
            refine ⟨.b true, .bool true, ?_, .inr rfl, hq⟩
            show knL g [] = _
            unfold knL
            rw [h2]
            rfl
      | false =>
        rw [h2, cond_false] at h
        cases h3 : Nat.beq g 4 with
        | false => rw [h3] at h; cases h
        | true =>
          rw [h3, cond_true, Option.some.injEq] at h
          subst h
          cases hq
  · unfold TL at h
    have hs' : (bif Nat.beq g 12 then some rl.asSm else none) = some s := hs
    cases h1 : Nat.beq g 12 with
    | false => rw [h1] at hs'; cases hs'
    | true =>
      rw [h1, cond_true, Option.some.injEq] at h hs'
      subst h
      subst hs'
      exact rl.asK_ok R G en vs H F k ha hr hR hq
  · unfold TL at h
    show knL g vs = none
    unfold knL
    cases h1 : Nat.beq g 12 with
    | true => rw [h1] at h; cases h
    | false =>
      rw [h1, cond_false] at h
      cases h2 : Nat.beq g 7 with
      | true => rw [h2] at h; cases h
      | false =>
        rw [h2, cond_false] at h
        rw [cond_false]
        cases h3 : Nat.beq g 4 with
        | true => rw [h3] at h; cases h
        | false => rfl

/-! The text's pieces. -/

def fstC : Code → Code
  | .seq a _ => a
  | c => c
def sndC : Code → Code
  | .seq _ b => b
  | c => c
noncomputable def fnV : Func := Tryz.f3
noncomputable def codeV : Code := match fnV.body with
  | some c => c
  | none => .skip
noncomputable def r0 : Code := fstC codeV
noncomputable def r1 : Code := fstC (sndC codeV)
noncomputable def rest : Code := sndC (sndC codeV)

/-- The rest of the text on what the number is. -/
noncomputable def case1 (e a : Nat) : Bool :=
  Go.Qm.tabsQ (tabs e) fun r => (Go.Qm.restQ Tryz.prog fnV codeV rest [some 0]).f ⟨Go.Qm.callN Tryz.prog EL TL 999, Go.Qm.isB, .nil, .nil⟩ (.cons (.i a) .nil) ⟨r, ⟨.d0, .d0, .d2, .d5, .d8⟩, .nil⟩

end Go.Proofs.YtldohofphfkhpaaGreatDoor.sd
