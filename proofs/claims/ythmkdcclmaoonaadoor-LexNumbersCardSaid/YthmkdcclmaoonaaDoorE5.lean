/- A number of at most 5 digits that is not above 32768 is told as it is, noughts ahead or not; else it is none: the card of 'LexNumbers'. No conditions. -/
import Derived.Test.YthmkdcclmaoonaaDoorE4
import Derived.Test.YthmkdcclmaoonaaDoorQ17
import Derived.Test.YthmkdcclmaoonaaDoorCards
import Derived.Test.YthmkdcclmaoonaaDoorTie
import Derived.WalkKit
import Derived.ProofKit
import Derived.OpenShut
import Derived.Deep.DeepHandedRow
import Derived.Deep.DeepWitnessRowRef
import Derived.Lib.LaidTab
set_option linter.unusedVariables false
set_option linter.unusedSimpArgs false
namespace Go.Proofs.YthmkdcclmaoonaaDoor.ln
open Go.ChangeShapes Go.WideShapes Go.ChangeAt Go.RowKit Go.Am
set_option maxRecDepth 1000000

theorem own : ownKnob Tryd.prog.godebug = none := by kernel_rfl

/-! What the row's condition says of the variables. -/

theorem cutRt : (Tryd.prog.cutTypes.find? (·.1 == "internal/reflectlite.rtype")).map (·.2) = some 72 := by kernel_rfl
theorem oneErr : ((List.range Tryd.prog.types.size).filter fun t => Tryd.prog.rowNamed t [101, 114, 114, 111, 114]) = [25] := by kernel_rfl
theorem handle25 : typeHandle Tryd.prog 25 = .pointer (some ⟨10, 25, none⟩) := by kernel_rfl

def spaceZ : List Int := (List.range 256).map fun i => (spaceN i : Int)
theorem space_tab {H : Type} : (Rows.laid_strings_asciiSpace : DataW H) = Lib.tabData .u8 spaceZ := by kernel_rfl

theorem err_ok {W : World} (h : laidMetH Tryd.prog Rows.lexNumbersRow.laid W) : rl.errI W := by
  have := @Go.Qm.handle_of_laid (rho 0 0 0 fun _ => 0) _ _ _ ("errors.errorType", Rows.laid_errors_errorType) [101, 114, 114, 111, 114] 0 72 25 h
    (List.mem_filter.2 ⟨by simp [Rows.lexNumbersRow], by kernel_rfl⟩) (by kernel_rfl) (by kernel_rfl) cutRt oneErr (by kernel_rfl)
  rw [handle25] at this
  exact this

theorem space_ok {W : World} (h : laidMetH Tryd.prog Rows.lexNumbersRow.laid W) : spaceAt W := by
  letI : Go.Qm.Rho := rho 0 0 0 fun _ => 0
  obtain ⟨ty, hty⟩ := Go.Qm.tab_of_laid (k := .u8) (zs := spaceZ) (name := "strings.asciiSpace") (g := 1) (t := 87) (e := 5) (n := 256) (Go.Qm.plain_of_laid h)
    (List.mem_filter.2 ⟨by simp [Rows.lexNumbersRow, space_tab], by kernel_rfl⟩) (by kernel_rfl) (by kernel_rfl) Tryd.underlying87 Tryd.underlying5 (by kernel_rfl) (by kernel_rfl) (by simp [spaceZ])
  refine ⟨ty, ?_⟩
  rw [hty]
  have : (spaceZ.map fun z => Value.int .u8 z) = (List.range 256).map fun i => Value.int .u8 (.ofNat (spaceN i)) := by
    unfold spaceZ
    rw [List.map_map]
    rfl
  rw [this]

theorem zero2 : ((begin Tryd.prog (fun _ _ => 0) default).world.heap[2]?).bind Obj.row? = some (#[.int .i64 0], 3) := by kernel_rfl
theorem cells3 : Tryd.prog.cellTypes Tryd.prog.depth 3 = some [3] := by kernel_rfl

theorem max_ok {W : World} (h : W.ShapedOpen Tryd.prog) : ∃ m, W.heap[2]? = some (.cells #[.int .i64 m] 3 (0, 0)) := by
  obtain ⟨cs, hh, hs, hr⟩ := h.1 2 _ 3 (of_decide_eq_true (by kernel_rfl)) zero2
  obtain ⟨ts, hts, _, hall⟩ := hr (by kernel_rfl)
  rw [cells3] at hts
  cases hts
  have hs1 : cs.size = 1 := hs
  have h1 : 0 < cs.size := by omega
  obtain ⟨u, hu', hok⟩ := hall 0 cs[0] (by simp [h1])
  have : u = 3 := by simpa using hu'.symm
  subst this
  have e : ∃ m, cs[0] = .int .i64 m := by
    unfold Cell.ok at hok
    rw [Tryd.underlying3] at hok
    cases hv : cs[0] <;> rw [hv] at hok <;> first | (simp at hok; done) | (simp only [Bool.and_eq_true, decide_eq_true_eq, beq_iff_eq] at hok; first | (obtain ⟨rfl, _⟩ := hok; exact ⟨_, rfl⟩) | (obtain ⟨e1, _⟩ := hok; subst e1; exact ⟨_, rfl⟩) | (subst hok; exact ⟨_, rfl⟩) | (exact ⟨_, by rw [hok]⟩))
  obtain ⟨m, e⟩ := e
  refine ⟨m, ?_⟩
  rw [hh]
  have : cs = #[.int .i64 m] := by
    apply Array.ext
    · simpa using hs1
    · intro i hi1 hi2
      have : i = 0 := by omega
      subst this
      simpa using e
  rw [this]

theorem contract (H : Type) (enc : TypeId × Value → H) (W : World) (base : Nat) (args : Array Value) (ds gs : List (DataW H)) (before : List MemPlace) (hL : laidMetH Tryd.prog Rows.lexNumbersRow.laid W) (hsh : W.ShapedOpen Tryd.prog)
    (hval : ∀ (j : Nat) t v, Tryd.f3.params[j]? = some t → args[j]? = some v → Value.okWide Tryd.prog W .any base t v)
    (hW : DataW.Whole enc Tryd.prog Tryd.f3.params.toList Rows.lexNumbersSpec.vars false W args.toList ds gs before) :
    Calls Tryd.prog 3 args W fun e W' => ∃ v, e = .returned v ∧ Rows.lexNumbersSpec.post enc Tryd.prog Tryd.f3 false true false false W args v W' := by
  have hW' := hW
  obtain ⟨p, q, hA0, hV, rfl, hfz, hnd⟩ := hW
  have hA : DataW.TrodAll enc Tryd.prog W 0 (fun _ => true) true Tryd.f3.params.toList args.toList ds p := hA0
  rw [Tryd.params3] at hA hval
  obtain ⟨v0, vs0, d0, ds0, p0, q0, hargs, rfl, rfl, h0, r0⟩ := trodAll_cons hA
  obtain ⟨v1, vs1, d1, ds1, p1, q1, rfl, rfl, rfl, h1, r1⟩ := trodAll_cons r0
  obtain ⟨rfl, rfl, rfl⟩ := trodAll_nil r1
  obtain rfl : args = #[v0, v1] := by cases args; simp_all
  obtain ⟨rfl, rfl⟩ := trodVars_none hV
  obtain ⟨x, rfl, rfl, rfl, hx⟩ := open_int Tryd.underlying3 (hval 0 3 v0 rfl rfl) h0
  obtain ⟨y, rfl, rfl, rfl, hy⟩ := open_int Tryd.underlying3 (hval 1 3 v1 rfl rfl) h1
  clear hA0
  simp only [List.append_nil] at hW'
  obtain ⟨m, hm⟩ := max_ok hsh
  refine (calls x y m W (err_ok hL) (space_ok hL) hm).mono fun e W' ⟨he, hu⟩ => ?_
  subst he
  exact ⟨_, rfl, post_of_below (pa := []) (pv := []) hW' (fun _ _ _ => trodAll_cons_mk (shut_bool Tryd.underlying4 _) trodAll_mk0) (fun _ _ => trodAll_cons_mk (shut_int Tryd.underlying3 hx) (trodAll_cons_mk (shut_int Tryd.underlying3 hy) trodAll_mk0)) (fun _ _ => rfl) rfl
    hu (ok_one (by kernel_rfl) rfl (okWide_bool_mk Tryd.underlying4 _))⟩

/-! A world that holds the variables. -/

def nmV (s : String) : TypeId := if s = "*errors.errorString" then 127 else if s = "internal/reflectlite.rtype" then 72 else 25
noncomputable def laidW (os : Os) : World := Go.Qm.layWorld Tryd.prog nmV Rows.lexNumbersRow.laid os
theorem laid_met (os : Os) : laidMetH Tryd.prog Rows.lexNumbersRow.laid ((laidW os).forCall (fun _ _ => 0) ⟨#[], #[.int .i64 0, .int .i64 0], []⟩).memory :=
  laidMetH_of_parts (laidMet_of_run' 12 (by kernel_rfl) (by kernel_rfl)) (by kernel_rfl)
theorem reads (os : Os) {H : Type} (enc : TypeId × Value → H) : ∃ places, DataW.whole enc Tryd.prog ((laidW os).forCall (fun _ _ => 0) ⟨#[], #[.int .i64 0, .int .i64 0], []⟩).memory Tryd.f3.params.toList Rows.lexNumbersSpec.vars false #[Value.int .i64 0, Value.int .i64 0].toList 8 = some ([.lit (.int .i64 0), .lit (.int .i64 0)], [], places) :=
  ⟨[], by kernel_rfl⟩

theorem lifted (os : Os) (started : os.Started) (H : Type) (enc : TypeId × Value → H) (F : Stop.Interp) :
    ReturnsInHanded {} Tryd.checked os 3 .any ((OpenSpec.ofChange Rows.lexNumbersSpec).preRow enc Tryd.prog Tryd.f3 Rows.lexNumbersRow.domain false Rows.lexNumbersRow.laid) (((OpenSpec.ofChange Rows.lexNumbersSpec).at F).post enc Tryd.prog Tryd.f3 false true false false) := by
  obtain ⟨places, hx⟩ := reads os enc
  refine returnsInHanded_of_row (C := Tryd.checked) (s := OpenSpec.ofChange Rows.lexNumbersSpec) own started (by kernel_rfl) Tryd.func3
    (witness_row_atRef (enc := enc) (C := Tryd.checked) false (laidW os) #[.int .i64 0, .int .i64 0] rfl (by kernel_rfl) (by kernel_rfl) (by kernel_rfl)
      (OpenSpec.preRow_of_cond 8 hx (by kernel_rfl) (fun k hk => by cases hk) (by kernel_rfl) (laid_met os))) ?_
  intro W base args ds gs before hval hW g1 g2 g3 g4 g5 g6
  exact contract H enc W base args ds gs before g4 g5 hval hW

theorem said : Rows.LexNumbersSaid :=
  OpenClaim.holds_of_cond 3 Tryd.f3 rfl rfl rfl rfl rfl rfl rfl ⟨rfl, rfl, rfl, rfl, rfl⟩ rfl rfl rfl rfl rfl (by kernel_rfl) Tryd.func3 (by kernel_rfl)
    (of_decide_eq_true (by kernel_rfl)) (by unfold Func.isWrapper; first | (rw [if_pos (by decide +kernel)]; kernel_rfl) | (rw [if_neg (by decide +kernel)]; exact ⟨rfl, rfl⟩))
    (fun os started H enc _ F => by rw [OpenClaim.pre_eq_preRow]; exact lifted os started H enc F)

theorem plain (f : FuncId) (fn : Func) (hf : Tryd.pinned.checked.prog.funcNamed "governor/governorlaw3.LexNumbers" = some f) (hfn : Tryd.pinned.checked.prog.funcs[f]? = some fn) :
    true = Tryd.pinned.checked.prog.looks [] ∧ ∀ (j : Nat) t, fn.params[j]? = some t → Tryd.pinned.checked.prog.wantsStandIn t = false := by
  obtain rfl : f = 3 := Option.some.inj ((show Tryd.prog.funcNamed "governor/governorlaw3.LexNumbers" = some 3 by kernel_rfl).symm.trans hf) |>.symm
  obtain rfl : fn = Tryd.f3 := (Option.some.inj (Tryd.func3.symm.trans hfn)).symm
  refine ⟨by kernel_rfl, fun j t ht => ?_⟩
  rw [Tryd.params3] at ht
  obtain rfl : t = 3 := by simpa using Array.mem_of_getElem? ht
  exact (show Tryd.prog.wantsStandIn 3 = false by kernel_rfl)

end Go.Proofs.YthmkdcclmaoonaaDoor.ln
namespace Go.Proofs.YthmkdcclmaoonaaDoor
theorem lexNumbers_holds : Rows.LexNumbersCardSaid :=
  Claim7.holds_tied_plain_at .later [] _ _ _ _ ln.said (fun _ h => by cases h) (by kernel_rfl) (fun _ h => by cases h) lexNumbers_row_tie rfl ⟨rfl, rfl⟩ (by kernel_rfl) rfl ln.plain (by kernel_rfl)
#print axioms lexNumbers_holds
end Go.Proofs.YthmkdcclmaoonaaDoor
