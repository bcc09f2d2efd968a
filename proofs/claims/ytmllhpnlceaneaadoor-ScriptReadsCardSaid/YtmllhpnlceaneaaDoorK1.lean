/- What the rows' conditions say: of the variables, and of arguments. No conditions. -/
import Derived.Test.YtmllhpnlceaneaaDoorDD
import Derived.Test.YtmllhpnlceaneaaDoorWB
import Derived.Test.YtmllhpnlceaneaaDoorRows
set_option linter.unusedVariables false
set_option linter.unusedSimpArgs false
set_option linter.unusedSectionVars false
namespace Go.Proofs.YtmllhpnlceaneaaDoor
open Go Go.Proofs Go.Dl Go.RowKit
set_option maxRecDepth 1000000

theorem own : ownKnob Tryd.prog.godebug = none := by kernel_rfl
theorem laidOut : laidOutB Tryd.prog = true := by kernel_rfl

theorem cutRt : (Tryd.prog.cutTypes.find? (·.1 == "internal/reflectlite.rtype")).map (·.2) = some 99 := by kernel_rfl
theorem oneErr : ((List.range Tryd.prog.types.size).filter fun t => Tryd.prog.rowNamed t [101, 114, 114, 111, 114]) = [29] := by kernel_rfl
theorem handleErr : typeHandle Tryd.prog 29 = .pointer (some ⟨9, 29, none⟩) := by kernel_rfl

theorem pow_tab {H : Type} : (Rows.laid_internal_strconv_uint64pow10 : DataW H) = Lib.tabData .u64 Lib.pow10Tab := by kernel_rfl

abbrev laidL : List (String × DataW Unit) := Rows.scriptHexRow.laid

theorem zero1 : ((begin Tryd.prog (fun _ _ => 0) default).world.heap[1]?).bind Obj.row? = some (#[.int .i64 0], 3) := by kernel_rfl
theorem cells3 : Tryd.prog.cellTypes Tryd.prog.depth 3 = some [3] := by kernel_rfl
theorem zero8 : (((begin Tryd.prog (fun _ _ => 0) default).world.heap[8]?).bind Obj.row?).isSome = true := by kernel_rfl

theorem wi {W : World} (h : laidMetH Tryd.prog laidL W) (hsh : W.ShapedOpen Tryd.prog) : WI W := by
  have hp := plain_of_laid h
  refine ⟨?_, ?_, ?_, ?_, ?_, ?_⟩
  · obtain ⟨⟨z, t⟩, hz⟩ := Option.isSome_iff_exists.1 zero8
    obtain ⟨cs, hh, _⟩ := hsh.1 8 z t (of_decide_eq_true (by kernel_rfl)) hz
    have := (Array.getElem?_eq_some_iff.1 hh).1
    omega
  · exact int_of_shaped hsh zero1 Tryd.underlying3 cells3 (by kernel_rfl) (of_decide_eq_true (by kernel_rfl))
  · exact error_of_laid (name := "strconv.ErrSyntax") (nm := "*errors.errorString") (d := .ptr (.agg [.lit (.string [105, 110, 118, 97, 108, 105, 100, 32, 115, 121, 110, 116, 97, 120])])) (g := 4) hp (List.mem_filter.2 ⟨by simp [laidL, Rows.scriptHexRow, Rows.laid_strconv_ErrSyntax], by kernel_rfl⟩) (by kernel_rfl) (by kernel_rfl) Tryd.underlying29
  · exact error_of_laid (name := "strconv.ErrRange") (nm := "*errors.errorString") (d := .ptr (.agg [.lit (.string [118, 97, 108, 117, 101, 32, 111, 117, 116, 32, 111, 102, 32, 114, 97, 110, 103, 101])])) (g := 5) hp (List.mem_filter.2 ⟨by simp [laidL, Rows.scriptHexRow, Rows.laid_strconv_ErrRange], by kernel_rfl⟩) (by kernel_rfl) (by kernel_rfl) Tryd.underlying29
  · exact tabIs_of_laid (g := 6) hp (List.mem_filter.2 ⟨by simp [laidL, Rows.scriptHexRow, pow_tab], by kernel_rfl⟩) (by kernel_rfl) (by kernel_rfl) Tryd.underlying144 Tryd.underlying129 (by kernel_rfl) (by kernel_rfl)
  · have := handle_of_laid (x := ("errors.errorType", Rows.laid_errors_errorType)) (name := [101, 114, 114, 111, 114]) (g := 0) (u := 99) (ty := 29) h
      (List.mem_filter.2 ⟨by simp [laidL, Rows.scriptHexRow], by kernel_rfl⟩) (by kernel_rfl) (by kernel_rfl) cutRt oneErr (by kernel_rfl)
    rw [handleErr] at this
    exact this

/-! A world that holds the variables. -/

def nmV (s : String) : TypeId := if s = "*errors.errorString" then 149 else if s = "internal/reflectlite.rtype" then 99 else 29
noncomputable def laidW (os : Os) : World := layWorld Tryd.prog nmV laidL os

/-! Arguments. -/

section
variable {H : Type} {enc : TypeId × Value → H} {w : World} {sp : Nat → Bool} {held : Bool}
theorem op_zero {t : TypeId} {T : Type} {cs : T → List C} {ok : T → Prop} : OpF enc Tryd.prog w sp held 0 t cs ok := fun l x h => by simp [DataW.trod] at h

theorem c3 : Tryd.prog.cellsOf 3 = 1 := by kernel_rfl
theorem c43 : Tryd.prog.cellsOf 43 = 1 := by kernel_rfl
theorem c45 : Tryd.prog.cellsOf 45 = 2 := by kernel_rfl

theorem op43 : ∀ n, OpF enc Tryd.prog w sp held n 43 (fun l : List Int => [E3.tree l]) (fun l => (∀ x ∈ l, IntKind.i64.min ≤ x ∧ x ≤ IntKind.i64.max) ∧ l.length ≤ maxLen)
  | 0 => op_zero
  | n + 1 => op_slice E3 Tryd.underlying43 c3 (by decide) (fun _ => rfl) (op_int Tryd.underlying3)

def okScan (x : S45) : Prop := ((∀ m ∈ x.fIn, IntKind.i64.min ≤ m ∧ m ≤ IntKind.i64.max) ∧ x.fIn.length ≤ maxLen) ∧ IntKind.i64.min ≤ x.fTicks ∧ x.fTicks ≤ IntKind.i64.max

theorem op45 (n : Nat) : OpF enc Tryd.prog w sp held n 45 E45.cs okScan := by
  intro l x h
  obtain ⟨m, rfl, hl, hf⟩ := op_fields Tryd.underlying45 h
  obtain ⟨x0, k0, r0⟩ := op_field (i := 0) hf rfl rfl rfl c43 (op43 m)
  obtain ⟨x1, k1, r1⟩ := op_field (i := 1) hf rfl rfl rfl c3 (op_int Tryd.underlying3)
  have := seg r0 (seg r1 (seg_nil (hl.trans c45)))
  exact ⟨⟨x0, x1⟩, ⟨k0, k1⟩, this.1, this.2⟩

theorem op27 : ∀ n, OpF enc Tryd.prog w sp held n 27 (fun l : List S45 => [E45.tree l]) (fun l => (∀ x ∈ l, okScan x) ∧ l.length ≤ maxLen)
  | 0 => op_zero
  | n + 1 => op_slice E45 Tryd.underlying27 c45 (by decide) (fun _ => rfl) (op45 n)
end

end Go.Proofs.YtmllhpnlceaneaaDoor
