/- Brackets nested as deep as may be are read, one more are too deep: the card of 'SyntaxDeep'. No conditions. -/
import Derived.Test.YtldohofphfkhpaaGreatDoorY4
import Derived.Test.YtldohofphfkhpaaGreatDoorQ17
import Derived.Test.YtldohofphfkhpaaGreatDoorCards
import Derived.Test.YtldohofphfkhpaaGreatDoorTie
import Derived.WalkKit
import Derived.ProofKit
import Derived.OpenShut
import Derived.Deep.DeepHandedRow
import Derived.Deep.DeepWitnessRowRef
import Derived.Lib.LaidTab
set_option linter.unusedVariables false
set_option linter.unusedSimpArgs false
namespace Go.Proofs.YtldohofphfkhpaaGreatDoor.sd
open Go.ChangeShapes Go.WideShapes Go.ChangeAt Go.RowKit Go.Am
set_option maxRecDepth 1000000

theorem own : ownKnob Tryz.prog.godebug = none := by kernel_rfl

/-! What the row's condition says of the variables. -/

theorem cutRt : (Tryz.prog.cutTypes.find? (·.1 == "internal/reflectlite.rtype")).map (·.2) = some 100 := by kernel_rfl
theorem oneErr : ((List.range Tryz.prog.types.size).filter fun t => Tryz.prog.rowNamed t [101, 114, 114, 111, 114]) = [27] := by kernel_rfl
theorem handle27 : typeHandle Tryz.prog 27 = .pointer (some ⟨10, 27, none⟩) := by kernel_rfl

def spaceZ : List Int := (List.range 256).map fun i => (spaceN i : Int)
theorem space_tab {H : Type} : (Rows.laid_strings_asciiSpace : DataW H) = Lib.tabData .u8 spaceZ := by kernel_rfl

theorem vars_ok {W : World} (h : laidMetH Tryz.prog Rows.syntaxDeepRow.laid W) : IY W := by
  refine ⟨?_, ?_⟩
  · have := Go.Qm.handle_of_laid (x := ("errors.errorType", Rows.laid_errors_errorType)) (name := [101, 114, 114, 111, 114]) (g := 0) (u := 100) (ty := 27) h
      (List.mem_filter.2 ⟨by simp [Rows.syntaxDeepRow], by kernel_rfl⟩) (by kernel_rfl) (by kernel_rfl) cutRt oneErr (by kernel_rfl)
    rw [handle27] at this
    exact this
  · obtain ⟨ty, hty⟩ := Go.Qm.tab_of_laid (k := .u8) (zs := spaceZ) (name := "strings.asciiSpace") (g := 2) (t := 159) (e := 5) (n := 256) (Go.Qm.plain_of_laid h)
      (List.mem_filter.2 ⟨by simp [Rows.syntaxDeepRow, space_tab], by kernel_rfl⟩) (by kernel_rfl) (by kernel_rfl) Tryz.underlying159 Tryz.underlying5 (by kernel_rfl) (by kernel_rfl) (by simp [spaceZ])
    refine ⟨ty, ?_⟩
    unfold Go.Qm.TabAt
    rw [hty]
    have : (spaceZ.map fun z => Value.int .u8 z) = (List.range 256).map fun i => Go.Qm.dec (spaceV i) := by
      unfold spaceZ
      rw [List.map_map]
      rfl
    rw [this]

theorem contract (H : Type) (enc : TypeId × Value → H) (W : World) (base : Nat) (args : Array Value) (ds gs : List (DataW H)) (before : List MemPlace) (hL : laidMetH Tryz.prog Rows.syntaxDeepRow.laid W)
    (hval : ∀ (j : Nat) t v, Tryz.f3.params[j]? = some t → args[j]? = some v → Value.okWide Tryz.prog W .any base t v)
    (hW : DataW.Whole enc Tryz.prog Tryz.f3.params.toList Rows.syntaxDeepSpec.vars false W args.toList ds gs before) :
    Calls Tryz.prog 3 args W fun e W' => ∃ v, e = .returned v ∧ Rows.syntaxDeepSpec.post enc Tryz.prog Tryz.f3 false true false false W args v W' := by
  have hW' := hW
  obtain ⟨p, q, hA0, hV, rfl, hfz, hnd⟩ := hW
  have hA : DataW.TrodAll enc Tryz.prog W 0 (fun _ => true) true Tryz.f3.params.toList args.toList ds p := hA0
  rw [Tryz.params3] at hA hval
  obtain ⟨v0, vs0, d0, ds0, p0, q0, hargs, rfl, rfl, h0, r0⟩ := trodAll_cons hA
  obtain ⟨rfl, rfl, rfl⟩ := trodAll_nil r0
  obtain rfl : args = #[v0] := by cases args; simp_all
  obtain ⟨rfl, rfl⟩ := trodVars_none hV
  obtain ⟨n, rfl, rfl, rfl, hn⟩ := open_int Tryz.underlying3 (hval 0 3 v0 rfl rfl) h0
  clear hA0
  simp only [List.append_nil] at hW'
  refine (calls n W (vars_ok hL)).mono fun e W' ⟨he, hu⟩ => ?_
  subst he
  exact ⟨_, rfl, post_of_below (pa := []) (pv := []) hW' (fun _ _ _ => trodAll_cons_mk (shut_bool Tryz.underlying4 _) trodAll_mk0) (fun _ _ => trodAll_cons_mk (shut_int Tryz.underlying3 hn) trodAll_mk0) (fun _ _ => rfl) rfl
    hu (ok_one (by kernel_rfl) rfl (okWide_bool_mk Tryz.underlying4 _))⟩

/-! A world that holds the variables. -/

def nmV (s : String) : TypeId := if s = "*errors.errorString" then 177 else if s = "internal/reflectlite.rtype" then 100 else 27
noncomputable def laidW (os : Os) : World := Go.Qm.layWorld Tryz.prog nmV Rows.syntaxDeepRow.laid os
theorem laid_met (os : Os) : laidMetH Tryz.prog Rows.syntaxDeepRow.laid ((laidW os).forCall (fun _ _ => 0) ⟨#[], #[.int .i64 0], []⟩).memory :=
  laidMetH_of_parts (laidMet_of_run' 12 (by kernel_rfl) (by kernel_rfl)) (by kernel_rfl)
theorem reads (os : Os) {H : Type} (enc : TypeId × Value → H) : ∃ places, DataW.whole enc Tryz.prog ((laidW os).forCall (fun _ _ => 0) ⟨#[], #[.int .i64 0], []⟩).memory Tryz.f3.params.toList Rows.syntaxDeepSpec.vars false #[Value.int .i64 0].toList 8 = some ([.lit (.int .i64 0)], [], places) :=
  ⟨[], by kernel_rfl⟩

theorem lifted (os : Os) (started : os.Started) (H : Type) (enc : TypeId × Value → H) (F : Stop.Interp) :
    ReturnsInHanded {} Tryz.checked os 3 .any ((OpenSpec.ofChange Rows.syntaxDeepSpec).preRow enc Tryz.prog Tryz.f3 Rows.syntaxDeepRow.domain false Rows.syntaxDeepRow.laid) (((OpenSpec.ofChange Rows.syntaxDeepSpec).at F).post enc Tryz.prog Tryz.f3 false true false false) := by
  obtain ⟨places, hx⟩ := reads os enc
  refine returnsInHanded_of_row (C := Tryz.checked) (s := OpenSpec.ofChange Rows.syntaxDeepSpec) own started (by kernel_rfl) Tryz.func3
    (witness_row_atRef (enc := enc) (C := Tryz.checked) false (laidW os) #[.int .i64 0] rfl (by kernel_rfl) (by kernel_rfl) (by kernel_rfl)
      (OpenSpec.preRow_of_cond 8 hx (by kernel_rfl) (fun k hk => by cases hk) (by kernel_rfl) (laid_met os))) ?_
  intro W base args ds gs before hval hW g1 g2 g3 g4 g5 g6
  exact contract H enc W base args ds gs before (by first | exact g1 | exact g2 | exact g3 | exact g4 | exact g5 | exact g6) hval hW

theorem said : Rows.SyntaxDeepSaid :=
  OpenClaim.holds_of_cond 3 Tryz.f3 rfl rfl rfl rfl rfl rfl rfl ⟨rfl, rfl, rfl, rfl, rfl⟩ rfl rfl rfl rfl rfl (by kernel_rfl) Tryz.func3 (by kernel_rfl)
    (of_decide_eq_true (by kernel_rfl)) (by unfold Func.isWrapper; first | (rw [if_pos (by decide +kernel)]; kernel_rfl) | (rw [if_neg (by decide +kernel)]; exact ⟨rfl, rfl⟩))
    (fun os started H enc _ F => by rw [OpenClaim.pre_eq_preRow]; exact lifted os started H enc F)

theorem plain (f : FuncId) (fn : Func) (hf : Tryz.pinned.checked.prog.funcNamed "governor/governorlaw4.SyntaxDeep" = some f) (hfn : Tryz.pinned.checked.prog.funcs[f]? = some fn) :
    true = Tryz.pinned.checked.prog.looks [] ∧ ∀ (j : Nat) t, fn.params[j]? = some t → Tryz.pinned.checked.prog.wantsStandIn t = false := by
  obtain rfl : f = 3 := Option.some.inj ((show Tryz.prog.funcNamed "governor/governorlaw4.SyntaxDeep" = some 3 by kernel_rfl).symm.trans hf) |>.symm
  obtain rfl : fn = Tryz.f3 := (Option.some.inj (Tryz.func3.symm.trans hfn)).symm
  refine ⟨by kernel_rfl, fun j t ht => ?_⟩
  rw [Tryz.params3] at ht
  obtain rfl : t = 3 := by simpa using Array.mem_of_getElem? ht
  exact (show Tryz.prog.wantsStandIn 3 = false by kernel_rfl)

end Go.Proofs.YtldohofphfkhpaaGreatDoor.sd
namespace Go.Proofs.YtldohofphfkhpaaGreatDoor
theorem syntaxDeep_holds : Rows.SyntaxDeepCardSaid :=
  Claim7.holds_tied_plain_at .later [] _ _ _ _ sd.said (fun _ h => by cases h) (by kernel_rfl) (fun _ h => by cases h) syntaxDeep_row_tie rfl ⟨rfl, rfl⟩ (by kernel_rfl) rfl sd.plain (by kernel_rfl)
#print axioms syntaxDeep_holds
end Go.Proofs.YtldohofphfkhpaaGreatDoor
