/- What the rows' conditions say: of the variables, and of arguments. No conditions. -/
import Derived.Test.YtngjamedgphjiaaGreatDoorDD
import Derived.Test.YtngjamedgphjiaaGreatDoorCd
import Derived.Test.YtngjamedgphjiaaGreatDoorRows
set_option linter.unusedVariables false
set_option linter.unusedSimpArgs false
set_option linter.unusedSectionVars false
namespace Go.Proofs.YtngjamedgphjiaaGreatDoor
open Go Go.Proofs Go.Dl Go.RowKit
set_option maxRecDepth 1000000
theorem own : ownKnob Tryz.prog.godebug = none := by kernel_rfl
theorem laidOut : laidOutB Tryz.prog = true := by kernel_rfl
theorem cutRt : (Tryz.prog.cutTypes.find? (·.1 == "internal/reflectlite.rtype")).map (·.2) = some 148 := by kernel_rfl
theorem oneErr : ((List.range Tryz.prog.types.size).filter fun t => Tryz.prog.rowNamed t [101, 114, 114, 111, 114]) = [32] := by kernel_rfl
theorem handleErr : typeHandle Tryz.prog 32 = .pointer (some ⟨4, 32, none⟩) := by kernel_rfl
abbrev laidL : List (String × DataW Unit) := Rows.verifyBoundsRow.laid
theorem zero3 : ((begin Tryz.prog (fun _ _ => 0) default).world.heap[3]?).bind Obj.row? = some (#[.int .i64 0], 3) := by kernel_rfl
theorem cells3 : Tryz.prog.cellTypes Tryz.prog.depth 3 = some [3] := by kernel_rfl
theorem zero4 : (((begin Tryz.prog (fun _ _ => 0) default).world.heap[3]?).bind Obj.row?).isSome = true := by kernel_rfl
theorem w0i {W : World} (h : laidMetH Tryz.prog laidL W) (hsh : W.ShapedOpen Tryz.prog) : WI W := by
  have hp := plain_of_laid h
  refine ⟨?_, ?_, ?_⟩
  · obtain ⟨⟨z, t⟩, hz⟩ := Option.isSome_iff_exists.1 zero4
    obtain ⟨cs, hh, _⟩ := hsh.1 3 z t (of_decide_eq_true (by kernel_rfl)) hz
    have := (Array.getElem?_eq_some_iff.1 hh).1
    omega
  · exact int_of_shaped hsh zero3 Tryz.underlying3 cells3 (by kernel_rfl) (of_decide_eq_true (by kernel_rfl))
  · have := handle_of_laid (x := ("errors.errorType", Rows.laid_errors_errorType)) (name := [101, 114, 114, 111, 114]) (g := 0) (u := 148) (ty := 32) h
      (List.mem_filter.2 ⟨by simp [laidL, Rows.verifyBoundsRow], by kernel_rfl⟩) (by kernel_rfl) (by kernel_rfl) cutRt oneErr (by kernel_rfl)
    rw [handleErr] at this
    exact this
def nmV (s : String) : TypeId := if s = "internal/reflectlite.rtype" then 148 else 32
noncomputable def laidW (os : Os) : World := layWorld Tryz.prog nmV laidL os
section
variable {H : Type} {enc : TypeId × Value → H} {w : World} {sp : Nat → Bool} {held : Bool}
theorem op_zero {t : TypeId} {T : Type} {cs : T → List C} {ok : T → Prop} : OpF enc Tryz.prog w sp held 0 t cs ok := fun l x h => by simp [DataW.trod] at h
end
end Go.Proofs.YtngjamedgphjiaaGreatDoor
namespace Go.Dl
open Go Go.Proofs Go.RowKit
set_option maxRecDepth 1000000
section
variable {H : Type} {enc : TypeId × Value → H} {w : World} {sp : Nat → Bool} {held : Bool}
theorem OpF.any {P : Program} {n : Nat} {t : TypeId} {T : Type} {cs : T → List C} {ok : T → Prop} (h : OpF enc P w sp held n t cs ok) : OpF enc P w sp held n t cs (fun _ => True) := fun l x hx => by
  obtain ⟨y, _, h2⟩ := h l x hx
  exact ⟨y, trivial, h2⟩
end
end Go.Dl
namespace Go.Proofs.YtngjamedgphjiaaGreatDoor
open Go Go.Proofs Go.Dl Go.RowKit
set_option maxRecDepth 1000000
section
variable {H : Type} {enc : TypeId × Value → H} {w : World} {sp : Nat → Bool} {held : Bool}
theorem op_arg_int {P : Program} {b : Nat} {r : Reach} {t : TypeId} {k : IntKind} {v : Value} {d : DataW H} {ps : List MemPlace} (ht : P.underlying t = some (.int k)) (hv : Value.okWide P w r b t v) (ha : DataW.Trod enc P w 0 sp held t v d ps) :
    ∃ x : Int, (k.min ≤ x ∧ x ≤ k.max) ∧ DRel (memS w) noB (.c (.val (.int k x))) v := by
  obtain ⟨s, rfl⟩ := Go.WideShapes.okWide_int ht hv
  exact op_arg (fun n => op_int ht) ha rfl
theorem c3 : Tryz.prog.cellsOf 3 = 1 := by kernel_rfl
theorem c4 : Tryz.prog.cellsOf 4 = 1 := by kernel_rfl
theorem c9 : Tryz.prog.cellsOf 9 = 1 := by kernel_rfl
theorem c22 : Tryz.prog.cellsOf 22 = 1 := by kernel_rfl
theorem c23 : Tryz.prog.cellsOf 23 = 1 := by kernel_rfl
theorem c24 : Tryz.prog.cellsOf 24 = 1 := by kernel_rfl
theorem c25 : Tryz.prog.cellsOf 25 = 1 := by kernel_rfl
theorem c26 : Tryz.prog.cellsOf 26 = 1 := by kernel_rfl
theorem c27 : Tryz.prog.cellsOf 27 = 1 := by kernel_rfl
theorem c29 : Tryz.prog.cellsOf 29 = 12 := by kernel_rfl
theorem c37 : Tryz.prog.cellsOf 37 = 1 := by kernel_rfl
theorem c39 : Tryz.prog.cellsOf 39 = 6 := by kernel_rfl
theorem c42 : Tryz.prog.cellsOf 42 = 3 := by kernel_rfl
theorem c44 : Tryz.prog.cellsOf 44 = 1 := by kernel_rfl
theorem c45 : Tryz.prog.cellsOf 45 = 1 := by kernel_rfl
theorem c47 : Tryz.prog.cellsOf 47 = 6 := by kernel_rfl
theorem c50 : Tryz.prog.cellsOf 50 = 2 := by kernel_rfl
theorem c61 : Tryz.prog.cellsOf 61 = 3 := by kernel_rfl
theorem c78 : Tryz.prog.cellsOf 78 = 3 := by kernel_rfl
theorem op44 : ∀ n, OpF enc Tryz.prog w sp held n 44 (fun l : List Bytes => [E9.tree l]) (fun _ => True)
  | 0 => op_zero
  | n + 1 => (op_slice E9 Tryz.underlying44 c9 (by decide) (fun _ => rfl) (op_str Tryz.underlying9)).any
theorem op22 : ∀ n, OpF enc Tryz.prog w sp held n 22 (fun l : List (List Bytes) => [E44.tree l]) (fun _ => True)
  | 0 => op_zero
  | n + 1 => (op_slice E44 Tryz.underlying22 c44 (by decide) (fun _ => rfl) (op44 n)).any
theorem op25 : ∀ n, OpF enc Tryz.prog w sp held n 25 (fun l : List Int => [E3.tree l]) (fun _ => True)
  | 0 => op_zero
  | n + 1 => (op_slice E3 Tryz.underlying25 c3 (by decide) (fun _ => rfl) (op_int Tryz.underlying3)).any
theorem op50 (n : Nat) : OpF enc Tryz.prog w sp held n 50 E50.cs (fun _ => True) := by
  intro l x h
  obtain ⟨m, rfl, hl, hf⟩ := op_fields Tryz.underlying50 h
  obtain ⟨x0, _, r0⟩ := op_field (i := 0) hf rfl rfl rfl c3 ((op_int Tryz.underlying3).any)
  obtain ⟨x1, _, r1⟩ := op_field (i := 1) hf rfl rfl rfl c25 (op25 m)
  have := seg r0 (seg r1 (seg_nil (hl.trans c50)))
  exact ⟨⟨x0, x1⟩, trivial, this.1, this.2⟩
theorem op45 : ∀ n, OpF enc Tryz.prog w sp held n 45 (fun l : List S50 => [E50.tree l]) (fun _ => True)
  | 0 => op_zero
  | n + 1 => (op_slice E50 Tryz.underlying45 c50 (by decide) (fun _ => rfl) (op50 n)).any
theorem op47 (n : Nat) : OpF enc Tryz.prog w sp held n 47 E47.cs (fun _ => True) := by
  intro l x h
  obtain ⟨m, rfl, hl, hf⟩ := op_fields Tryz.underlying47 h
  obtain ⟨x0, _, r0⟩ := op_field (i := 0) hf rfl rfl rfl c3 ((op_int Tryz.underlying3).any)
  obtain ⟨x1, _, r1⟩ := op_field (i := 1) hf rfl rfl rfl c9 ((op_str Tryz.underlying9).any)
  obtain ⟨x2, _, r2⟩ := op_field (i := 2) hf rfl rfl rfl c25 (op25 m)
  obtain ⟨x3, _, r3⟩ := op_field (i := 3) hf rfl rfl rfl c25 (op25 m)
  obtain ⟨x4, _, r4⟩ := op_field (i := 4) hf rfl rfl rfl c44 (op44 m)
  obtain ⟨x5, _, r5⟩ := op_field (i := 5) hf rfl rfl rfl c45 (op45 m)
  have := seg r0 (seg r1 (seg r2 (seg r3 (seg r4 (seg r5 (seg_nil (hl.trans c47)))))))
  exact ⟨⟨x0, x1, x2, x3, x4, x5⟩, trivial, this.1, this.2⟩
theorem op23 : ∀ n, OpF enc Tryz.prog w sp held n 23 (fun l : List S47 => [E47.tree l]) (fun _ => True)
  | 0 => op_zero
  | n + 1 => (op_slice E47 Tryz.underlying23 c47 (by decide) (fun _ => rfl) (op47 n)).any
theorem op61 (n : Nat) : OpF enc Tryz.prog w sp held n 61 E61.cs (fun _ => True) := by
  intro l x h
  obtain ⟨m, rfl, hl, hf⟩ := op_fields Tryz.underlying61 h
  obtain ⟨x0, _, r0⟩ := op_field (i := 0) hf rfl rfl rfl c3 ((op_int Tryz.underlying3).any)
  obtain ⟨x1, _, r1⟩ := op_field (i := 1) hf rfl rfl rfl c3 ((op_int Tryz.underlying3).any)
  obtain ⟨x2, _, r2⟩ := op_field (i := 2) hf rfl rfl rfl c3 ((op_int Tryz.underlying3).any)
  have := seg r0 (seg r1 (seg r2 (seg_nil (hl.trans c61))))
  exact ⟨⟨x0, x1, x2⟩, trivial, this.1, this.2⟩
theorem op37 : ∀ n, OpF enc Tryz.prog w sp held n 37 (fun l : List S61 => [E61.tree l]) (fun _ => True)
  | 0 => op_zero
  | n + 1 => (op_slice E61 Tryz.underlying37 c61 (by decide) (fun _ => rfl) (op61 n)).any
theorem op39 (n : Nat) : OpF enc Tryz.prog w sp held n 39 E39.cs (fun _ => True) := by
  intro l x h
  obtain ⟨m, rfl, hl, hf⟩ := op_fields Tryz.underlying39 h
  obtain ⟨x0, _, r0⟩ := op_field (i := 0) hf rfl rfl rfl c3 ((op_int Tryz.underlying3).any)
  obtain ⟨x1, _, r1⟩ := op_field (i := 1) hf rfl rfl rfl c9 ((op_str Tryz.underlying9).any)
  obtain ⟨x2, _, r2⟩ := op_field (i := 2) hf rfl rfl rfl c9 ((op_str Tryz.underlying9).any)
  obtain ⟨x3, _, r3⟩ := op_field (i := 3) hf rfl rfl rfl c4 ((op_bool Tryz.underlying4).any)
  obtain ⟨x4, _, r4⟩ := op_field (i := 4) hf rfl rfl rfl c3 ((op_int Tryz.underlying3).any)
  obtain ⟨x5, _, r5⟩ := op_field (i := 5) hf rfl rfl rfl c37 (op37 m)
  have := seg r0 (seg r1 (seg r2 (seg r3 (seg r4 (seg r5 (seg_nil (hl.trans c39)))))))
  exact ⟨⟨x0, x1, x2, x3, x4, x5⟩, trivial, this.1, this.2⟩
theorem op24 : ∀ n, OpF enc Tryz.prog w sp held n 24 (fun l : List S39 => [E39.tree l]) (fun _ => True)
  | 0 => op_zero
  | n + 1 => (op_slice E39 Tryz.underlying24 c39 (by decide) (fun _ => rfl) (op39 n)).any
theorem op78 (n : Nat) : OpF enc Tryz.prog w sp held n 78 E78.cs (fun _ => True) := by
  intro l x h
  obtain ⟨m, rfl, hl, hf⟩ := op_fields Tryz.underlying78 h
  obtain ⟨x0, _, r0⟩ := op_field (i := 0) hf rfl rfl rfl c3 ((op_int Tryz.underlying3).any)
  obtain ⟨x1, _, r1⟩ := op_field (i := 1) hf rfl rfl rfl c3 ((op_int Tryz.underlying3).any)
  obtain ⟨x2, _, r2⟩ := op_field (i := 2) hf rfl rfl rfl c4 ((op_bool Tryz.underlying4).any)
  have := seg r0 (seg r1 (seg r2 (seg_nil (hl.trans c78))))
  exact ⟨⟨x0, x1, x2⟩, trivial, this.1, this.2⟩
theorem op26 : ∀ n, OpF enc Tryz.prog w sp held n 26 (fun l : List S78 => [E78.tree l]) (fun _ => True)
  | 0 => op_zero
  | n + 1 => (op_slice E78 Tryz.underlying26 c78 (by decide) (fun _ => rfl) (op78 n)).any
theorem op42 (n : Nat) : OpF enc Tryz.prog w sp held n 42 E42.cs (fun _ => True) := by
  intro l x h
  obtain ⟨m, rfl, hl, hf⟩ := op_fields Tryz.underlying42 h
  obtain ⟨x0, _, r0⟩ := op_field (i := 0) hf rfl rfl rfl c3 ((op_int Tryz.underlying3).any)
  obtain ⟨x1, _, r1⟩ := op_field (i := 1) hf rfl rfl rfl c3 ((op_int Tryz.underlying3).any)
  obtain ⟨x2, _, r2⟩ := op_field (i := 2) hf rfl rfl rfl c3 ((op_int Tryz.underlying3).any)
  have := seg r0 (seg r1 (seg r2 (seg_nil (hl.trans c42))))
  exact ⟨⟨x0, x1, x2⟩, trivial, this.1, this.2⟩
theorem op27 : ∀ n, OpF enc Tryz.prog w sp held n 27 (fun l : List S42 => [E42.tree l]) (fun _ => True)
  | 0 => op_zero
  | n + 1 => (op_slice E42 Tryz.underlying27 c42 (by decide) (fun _ => rfl) (op42 n)).any
theorem op29 (n : Nat) : OpF enc Tryz.prog w sp held n 29 E29.cs (fun _ => True) := by
  intro l x h
  obtain ⟨m, rfl, hl, hf⟩ := op_fields Tryz.underlying29 h
  obtain ⟨x0, _, r0⟩ := op_field (i := 0) hf rfl rfl rfl c22 (op22 m)
  obtain ⟨x1, _, r1⟩ := op_field (i := 1) hf rfl rfl rfl c23 (op23 m)
  obtain ⟨x2, _, r2⟩ := op_field (i := 2) hf rfl rfl rfl c24 (op24 m)
  obtain ⟨x3, _, r3⟩ := op_field (i := 3) hf rfl rfl rfl c25 (op25 m)
  obtain ⟨x4, _, r4⟩ := op_field (i := 4) hf rfl rfl rfl c9 ((op_str Tryz.underlying9).any)
  obtain ⟨x5, _, r5⟩ := op_field (i := 5) hf rfl rfl rfl c25 (op25 m)
  obtain ⟨x6, _, r6⟩ := op_field (i := 6) hf rfl rfl rfl c25 (op25 m)
  obtain ⟨x7, _, r7⟩ := op_field (i := 7) hf rfl rfl rfl c26 (op26 m)
  obtain ⟨x8, _, r8⟩ := op_field (i := 8) hf rfl rfl rfl c26 (op26 m)
  obtain ⟨x9, _, r9⟩ := op_field (i := 9) hf rfl rfl rfl c27 (op27 m)
  obtain ⟨x10, _, r10⟩ := op_field (i := 10) hf rfl rfl rfl c3 ((op_int Tryz.underlying3).any)
  obtain ⟨x11, _, r11⟩ := op_field (i := 11) hf rfl rfl rfl c3 ((op_int Tryz.underlying3).any)
  have := seg r0 (seg r1 (seg r2 (seg r3 (seg r4 (seg r5 (seg r6 (seg r7 (seg r8 (seg r9 (seg r10 (seg r11 (seg_nil (hl.trans c29)))))))))))))
  exact ⟨⟨x0, x1, x2, x3, x4, x5, x6, x7, x8, x9, x10, x11⟩, trivial, this.1, this.2⟩
end
end Go.Proofs.YtngjamedgphjiaaGreatDoor
