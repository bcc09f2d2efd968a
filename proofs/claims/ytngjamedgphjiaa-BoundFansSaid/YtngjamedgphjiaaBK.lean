/- Of several codes that may be called the deepest, and the highest, count, each by itself; one that is not called does not: 'BoundFans'. No conditions. -/
import Derived.Test.YtngjamedgphjiaaBP
import Derived.Test.YtngjamedgphjiaaDD
import Derived.Test.YtngjamedgphjiaaRows
import Derived.WalkKit
import Derived.ProofKit
import Derived.OpenShut
import Derived.Deep.DeepHandedRow
set_option linter.unusedVariables false
set_option linter.unusedSimpArgs false
set_option linter.unusedSectionVars false
namespace Go.Proofs.Ytngjamedgphjiaa.bf
open Go.ChangeShapes Go.WideShapes Go.ChangeAt Go.RowKit Go.Dl
set_option maxRecDepth 1000000
theorem own : ownKnob Try.prog.godebug = none := by kernel_rfl
theorem laidOut : laidOutB Try.prog = true := by kernel_rfl
instance winv : WInv where
  N := 0
  I := fun _ => True
  size := fun _ _ => Nat.zero_le _
  keep := fun _ _ _ _ _ => trivial
section
variable {H : Type} {enc : TypeId × Value → H} {w : World} {sp : Nat → Bool} {held : Bool}
theorem op_zero {t : TypeId} {T : Type} {cs : T → List C} {ok : T → Prop} : OpF enc Try.prog w sp held 0 t cs ok := fun l x h => by simp [DataW.trod] at h
theorem c3 : Try.prog.cellsOf 3 = 1 := by kernel_rfl
theorem op22 : ∀ n, OpF enc Try.prog w sp held n 22 (fun l : List Int => [E3.tree l]) (fun l => (∀ x ∈ l, IntKind.i64.min ≤ x ∧ x ≤ IntKind.i64.max) ∧ l.length ≤ maxLen)
  | 0 => op_zero
  | n + 1 => op_slice E3 Try.underlying22 c3 (by decide) (fun _ => rfl) (op_int Try.underlying3)
end
theorem contract (H : Type) (enc : TypeId × Value → H) (W : World) (base : Nat) (args : Array Value) (ds gs : List (DataW H)) (before : List MemPlace)
    (hval : ∀ (j : Nat) t v, Try.f3.params[j]? = some t → args[j]? = some v → Value.okWide Try.prog W .any base t v)
    (hW : DataW.Whole enc Try.prog Try.f3.params.toList Rows.boundFansSpec.vars false W args.toList ds gs before) :
    Calls Try.prog 3 args W fun e W' => ∃ v, e = .returned v ∧ Rows.boundFansSpec.post enc Try.prog Try.f3 false true false false W args v W' := by
  have hW' := hW
  obtain ⟨p, q, hA0, hV, rfl, hfz, hnd⟩ := hW
  have hA : DataW.TrodAll enc Try.prog W 0 (fun _ => true) true Try.f3.params.toList args.toList ds p := hA0
  rw [Try.params3] at hA hval
  obtain ⟨v0, vs0, d0, ds0, p0, q0, hargs, rfl, rfl, h0, r0⟩ := trodAll_cons hA
  obtain ⟨v1, vs1, d1, ds1, p1, q1, rfl, rfl, rfl, h1, r1⟩ := trodAll_cons r0
  obtain ⟨v2, vs2, d2, ds2, p2, q2, rfl, rfl, rfl, h2, r2⟩ := trodAll_cons r1
  obtain ⟨rfl, rfl, rfl⟩ := trodAll_nil r2
  obtain rfl : args = #[v0, v1, v2] := by cases args; simp_all
  obtain ⟨rfl, rfl⟩ := trodVars_none hV
  obtain ⟨x0, ok0, c0⟩ := op_arg_slice Try.underlying22 (hval 0 22 v0 rfl rfl) op22 h0
  obtain ⟨x1, rfl, rfl, rfl, hx1⟩ := open_int Try.underlying3 (hval 1 3 v1 rfl rfl) h1
  obtain ⟨x2, rfl, rfl, rfl, hx2⟩ := open_int Try.underlying3 (hval 2 3 v2 rfl rfl) h2
  have hc := DFun.callsRow (F3_ok 50 x0 x1 x2) (by rw [F3_true x0 x1 x2 (by omega)]; rfl) (w := W) trivial (vs := [v0, .int .i64 x1, .int .i64 x2]) ⟨_, _, rfl, c0, ⟨_, _, rfl, rfl, ⟨_, _, rfl, rfl, rfl⟩⟩⟩
  have hlt := hW'.lt
  refine hc.mono fun e W' ⟨he, hu⟩ => ?_
  subst he
  refine ⟨_, rfl, post_of_below (pv := []) hW' (fun _ _ _ => trodAll_cons_mk (shut_bool Try.underlying4 _) trodAll_mk0) (fun sp hs => ?_)
    (fun _ _ => rfl) rfl hu (ok_one (by kernel_rfl) rfl (okWide_bool_mk Try.underlying4 _))⟩
  exact trodAll_cons_mk (WideElems.Trod_stays laidOut (t := 22) (by kernel_rfl) (of_decide_eq_true (by kernel_rfl)) h0 (fun x hx => hu.same (hlt x (List.mem_append_left _ (List.mem_append_left _ hx)))) (fun x hx => hs x (List.mem_append_left _ (List.mem_append_left _ hx))))
    (trodAll_cons_mk (shut_int Try.underlying3 hx1) (trodAll_cons_mk (shut_int Try.underlying3 hx2) trodAll_mk0))
theorem reads (os : Os) {H : Type} (enc : TypeId × Value → H) : ∃ places, DataW.whole enc Try.prog ((World.holding Try.prog os ⟨#[], #[], []⟩).forCall (fun _ _ => 0) ⟨#[], #[.slice none 0 0, .int .i64 0, .int .i64 0], []⟩).memory Try.f3.params.toList Rows.boundFansSpec.vars false #[Value.slice none 0 0, .int .i64 0, .int .i64 0].toList 8 = some ([.nil, .lit (.int .i64 0), .lit (.int .i64 0)], [], places) :=
  ⟨[], by kernel_rfl⟩
theorem lifted (os : Os) (started : os.Started) (H : Type) (enc : TypeId × Value → H) (F : Stop.Interp) :
    ReturnsInHanded {} Try.checked os 3 .any ((OpenSpec.ofChange Rows.boundFansSpec).preRow enc Try.prog Try.f3 Rows.boundFansRow.domain false Rows.boundFansRow.laid) (((OpenSpec.ofChange Rows.boundFansSpec).at F).post enc Try.prog Try.f3 false true false false) := by
  obtain ⟨places, hx⟩ := reads os enc
  refine returnsInHanded_of_row (C := Try.checked) (s := OpenSpec.ofChange Rows.boundFansSpec) own started (by kernel_rfl) Try.func3
    (witness_row_at (enc := enc) (C := Try.checked) false (World.holding Try.prog os ⟨#[], #[], []⟩) #[.slice none 0 0, .int .i64 0, .int .i64 0] rfl (by kernel_rfl) (by kernel_rfl) (by kernel_rfl)
      (OpenSpec.preRow_of_cond 8 hx (by kernel_rfl) (fun k hk => by cases hk) (by kernel_rfl) (laidMet_nil _ _))) ?_
  intro W base args ds gs before hval hW _ _ _ _ _ _
  exact contract H enc W base args ds gs before hval hW
end Go.Proofs.Ytngjamedgphjiaa.bf
namespace Go.Proofs.Ytngjamedgphjiaa
theorem boundFans_holds : Rows.BoundFansSaid :=
  OpenClaim.holds_of_cond 3 Try.f3 rfl rfl rfl rfl rfl rfl rfl ⟨rfl, rfl, rfl, rfl, rfl⟩ rfl rfl rfl rfl rfl (by kernel_rfl) Try.func3 (by kernel_rfl)
    (of_decide_eq_true (by kernel_rfl)) (by unfold Func.isWrapper; first | (rw [if_pos (by decide +kernel)]; kernel_rfl) | (rw [if_neg (by decide +kernel)]; exact ⟨rfl, rfl⟩))
    (fun os started H enc _ F => by rw [OpenClaim.pre_eq_preRow]; exact bf.lifted os started H enc F)
end Go.Proofs.Ytngjamedgphjiaa
