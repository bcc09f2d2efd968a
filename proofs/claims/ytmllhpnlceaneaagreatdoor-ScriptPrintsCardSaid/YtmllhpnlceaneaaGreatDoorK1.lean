/- What the rows' conditions say: of the variables, and of arguments. No conditions. -/
import Derived.Test.YtmllhpnlceaneaaGreatDoorDD
import Derived.Test.YtmllhpnlceaneaaGreatDoorWB
import Derived.Test.YtmllhpnlceaneaaGreatDoorRows
set_option linter.unusedVariables false
set_option linter.unusedSimpArgs false
set_option linter.unusedSectionVars false
namespace Go.Proofs.YtmllhpnlceaneaaGreatDoor
open Go Go.Proofs Go.Dl Go.RowKit
set_option maxRecDepth 1000000

theorem own : ownKnob Tryz.prog.godebug = none := by kernel_rfl
theorem laidOut : laidOutB Tryz.prog = true := by kernel_rfl

theorem cutRt : (Tryz.prog.cutTypes.find? (·.1 == "internal/reflectlite.rtype")).map (·.2) = some 93 := by kernel_rfl
theorem oneErr : ((List.range Tryz.prog.types.size).filter fun t => Tryz.prog.rowNamed t [101, 114, 114, 111, 114]) = [26] := by kernel_rfl
theorem handleErr : typeHandle Tryz.prog 26 = .pointer (some ⟨9, 26, none⟩) := by kernel_rfl

theorem pow_tab {H : Type} : (Rows.laid_internal_strconv_uint64pow10 : DataW H) = Lib.tabData .u64 Lib.pow10Tab := by kernel_rfl

abbrev laidL : List (String × DataW Unit) := Rows.scriptPrintsRow.laid

theorem zero1 : ((begin Tryz.prog (fun _ _ => 0) default).world.heap[1]?).bind Obj.row? = some (#[.int .i64 0], 3) := by kernel_rfl
theorem cells3 : Tryz.prog.cellTypes Tryz.prog.depth 3 = some [3] := by kernel_rfl
theorem zero8 : (((begin Tryz.prog (fun _ _ => 0) default).world.heap[8]?).bind Obj.row?).isSome = true := by kernel_rfl

theorem wi {W : World} (h : laidMetH Tryz.prog laidL W) (hsh : W.ShapedOpen Tryz.prog) : WI W := by
  have hp := plain_of_laid h
  refine ⟨?_, ?_, ?_, ?_, ?_, ?_⟩
  · obtain ⟨⟨z, t⟩, hz⟩ := Option.isSome_iff_exists.1 zero8
    obtain ⟨cs, hh, _⟩ := hsh.1 8 z t (of_decide_eq_true (by kernel_rfl)) hz
    have := (Array.getElem?_eq_some_iff.1 hh).1
    omega
  · exact int_of_shaped hsh zero1 Tryz.underlying3 cells3 (by kernel_rfl) (of_decide_eq_true (by kernel_rfl))
  · exact error_of_laid (name := "strconv.ErrSyntax") (nm := "*errors.errorString") (d := .ptr (.agg [.lit (.string [105, 110, 118, 97, 108, 105, 100, 32, 115, 121, 110, 116, 97, 120])])) (g := 5) hp (List.mem_filter.2 ⟨by simp [laidL, Rows.scriptPrintsRow, Rows.laid_strconv_ErrSyntax], by kernel_rfl⟩) (by kernel_rfl) (by kernel_rfl) Tryz.underlying26
  · exact error_of_laid (name := "strconv.ErrRange") (nm := "*errors.errorString") (d := .ptr (.agg [.lit (.string [118, 97, 108, 117, 101, 32, 111, 117, 116, 32, 111, 102, 32, 114, 97, 110, 103, 101])])) (g := 6) hp (List.mem_filter.2 ⟨by simp [laidL, Rows.scriptPrintsRow, Rows.laid_strconv_ErrRange], by kernel_rfl⟩) (by kernel_rfl) (by kernel_rfl) Tryz.underlying26
  · exact tabIs_of_laid (g := 2) hp (List.mem_filter.2 ⟨by simp [laidL, Rows.scriptPrintsRow, pow_tab], by kernel_rfl⟩) (by kernel_rfl) (by kernel_rfl) Tryz.underlying129 Tryz.underlying114 (by kernel_rfl) (by kernel_rfl)
  · have := handle_of_laid (x := ("errors.errorType", Rows.laid_errors_errorType)) (name := [101, 114, 114, 111, 114]) (g := 0) (u := 93) (ty := 26) h
      (List.mem_filter.2 ⟨by simp [laidL, Rows.scriptPrintsRow], by kernel_rfl⟩) (by kernel_rfl) (by kernel_rfl) cutRt oneErr (by kernel_rfl)
    rw [handleErr] at this
    exact this

/-! A world that holds the variables. -/

def nmV (s : String) : TypeId := if s = "*errors.errorString" then 144 else if s = "internal/reflectlite.rtype" then 93 else 26
noncomputable def laidW (os : Os) : World := layWorld Tryz.prog nmV laidL os

/-! Arguments. -/

section
variable {H : Type} {enc : TypeId × Value → H} {w : World} {sp : Nat → Bool} {held : Bool}
theorem op_zero {t : TypeId} {T : Type} {cs : T → List C} {ok : T → Prop} : OpF enc Tryz.prog w sp held 0 t cs ok := fun l x h => by simp [DataW.trod] at h

theorem c3 : Tryz.prog.cellsOf 3 = 1 := by kernel_rfl
theorem c33 : Tryz.prog.cellsOf 33 = 1 := by kernel_rfl
theorem c35 : Tryz.prog.cellsOf 35 = 2 := by kernel_rfl

theorem op33 : ∀ n, OpF enc Tryz.prog w sp held n 33 (fun l : List Int => [E3.tree l]) (fun l => (∀ x ∈ l, IntKind.i64.min ≤ x ∧ x ≤ IntKind.i64.max) ∧ l.length ≤ maxLen)
  | 0 => op_zero
  | n + 1 => op_slice E3 Tryz.underlying33 c3 (by decide) (fun _ => rfl) (op_int Tryz.underlying3)

def okScan (x : S35) : Prop := ((∀ m ∈ x.fIn, IntKind.i64.min ≤ m ∧ m ≤ IntKind.i64.max) ∧ x.fIn.length ≤ maxLen) ∧ IntKind.i64.min ≤ x.fTicks ∧ x.fTicks ≤ IntKind.i64.max

theorem op35 (n : Nat) : OpF enc Tryz.prog w sp held n 35 E35.cs okScan := by
  intro l x h
  obtain ⟨m, rfl, hl, hf⟩ := op_fields Tryz.underlying35 h
  obtain ⟨x0, k0, r0⟩ := op_field (i := 0) hf rfl rfl rfl c33 (op33 m)
  obtain ⟨x1, k1, r1⟩ := op_field (i := 1) hf rfl rfl rfl c3 (op_int Tryz.underlying3)
  have := seg r0 (seg r1 (seg_nil (hl.trans c35)))
  exact ⟨⟨x0, x1⟩, ⟨k0, k1⟩, this.1, this.2⟩

theorem op22 : ∀ n, OpF enc Tryz.prog w sp held n 22 (fun l : List S35 => [E35.tree l]) (fun l => (∀ x ∈ l, okScan x) ∧ l.length ≤ maxLen)
  | 0 => op_zero
  | n + 1 => op_slice E35 Tryz.underlying22 c35 (by decide) (fun _ => rfl) (op35 n)
end

end Go.Proofs.YtmllhpnlceaneaaGreatDoor
