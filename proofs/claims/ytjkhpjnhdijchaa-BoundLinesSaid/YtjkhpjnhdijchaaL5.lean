/- A line of calls is as deep as it is long, as high as all its frames together; a call back makes it none: 'BoundLines'. No conditions. -/
import Derived.Test.YtjkhpjnhdijchaaL4
import Derived.Test.YtjkhpjnhdijchaaRows
import Derived.WalkKit
import Derived.ProofKit
import Derived.OpenShut
import Derived.Deep.DeepHandedRow
set_option linter.unusedVariables false
set_option linter.unusedSimpArgs false
namespace Go.Proofs.Ytjkhpjnhdijchaa.bl
open Go.ChangeShapes Go.WideShapes Go.ChangeAt Go.RowKit Go.Am
set_option maxRecDepth 1000000

theorem own : ownKnob Try.prog.godebug = none := by kernel_rfl
theorem laidOut : laidOutB Try.prog = true := by kernel_rfl

/-- No line, or one that is too long. -/
theorem calls_none (a : Option Addr) (n cap : Nat) (x : Int) (w : World) (hn : n = 0 ∨ 30 < n) : Calls Try.prog 3 #[.slice a n cap, .int .i64 x] w fun e w' => e = .returned (.bool true) ∧ Up w w' := by
  letI : Go.Qm.Rho := ⟨fun _ => 0, fun _ => false, fun _ => []⟩
  go_enter Try.func3, Try.ntmps3
  go_wp2_with (first
    | (go_at_call 5; refine (awake _).mono ?_; rintro e w' ⟨rfl, hu⟩)
    | go_in)
  all_goals first | (go_ret; exact ⟨rfl, hu⟩) | (exfalso; omega) | (exfalso; rename_i h _ _; obtain ⟨h1, h2⟩ := h; simp at h2; omega) | (exfalso; simp only [beq_eq_false_iff_ne] at *; omega) | skip

theorem contract (H : Type) (enc : TypeId × Value → H) (W : World) (base : Nat) (args : Array Value) (ds gs : List (DataW H)) (before : List MemPlace)
    (hval : ∀ (j : Nat) t v, Try.f3.params[j]? = some t → args[j]? = some v → Value.okWide Try.prog W .any base t v)
    (hW : DataW.Whole enc Try.prog Try.f3.params.toList Rows.boundLinesSpec.vars false W args.toList ds gs before) :
    Calls Try.prog 3 args W fun e W' => ∃ v, e = .returned v ∧ Rows.boundLinesSpec.post enc Try.prog Try.f3 false true false false W args v W' := by
  have hW' := hW
  obtain ⟨p, q, hA0, hV, rfl, hfz, hnd⟩ := hW
  have hA : DataW.TrodAll enc Try.prog W 0 (fun _ => true) true Try.f3.params.toList args.toList ds p := hA0
  rw [Try.params3] at hA hval
  obtain ⟨v0, vs0, d0, ds0, p0, q0, hargs, rfl, rfl, h0, r0⟩ := trodAll_cons hA
  obtain ⟨v1, vs1, d1, ds1, p1, q1, rfl, rfl, rfl, h1, r1⟩ := trodAll_cons r0
  obtain ⟨rfl, rfl, rfl⟩ := trodAll_nil r1
  obtain rfl : args = #[v0, v1] := by cases args; simp_all
  obtain ⟨rfl, rfl⟩ := trodVars_none hV
  obtain ⟨a0, len, cap, rfl⟩ := okWide_slice Try.underlying22 (hval 0 22 v0 rfl rfl)
  obtain ⟨x, rfl, rfl, rfl, hx⟩ := open_int Try.underlying3 (hval 1 3 v1 rfl rfl) h1
  clear hA0
  simp only [List.append_nil] at hW' hfz
  have h0k := h0
  obtain ⟨fuel, hf⟩ := h0
  have hlt : ∀ x ∈ p0, x.block < W.heap.size := fun x hx => by simpa using hW'.lt x hx
  have hstay : ∀ (W' : World) (sp : Nat → Bool), Below W.heap.size W W' → (∀ x ∈ p0, sp x.block = true) → DataW.Trod enc Try.prog W' 0 sp true 22 (.slice a0 len cap) d0 p0 :=
    fun W' sp hb hs => WideElems.Trod_stays laidOut (by kernel_rfl) (of_decide_eq_true (by kernel_rfl)) h0k (fun x hx => hb.same (hlt x hx)) (fun x hx => hs x hx)
  have hcalls : Calls Try.prog 3 #[.slice a0 len cap, .int .i64 x] W fun e w' => e = .returned (.bool true) ∧ Up W w' := by
    by_cases hn : len = 0 ∨ 30 < len
    · exact calls_none a0 len cap x W hn
    · rcases open_ints Try.underlying22 Try.underlying3 (by kernel_rfl) hf with ⟨hcs, hx⟩ | ⟨a, len', cap', zs, hcs, _, hl, hm, hz, hxx, hcell, hwz⟩
      · simp [Value.cells] at hcs
        omega
      · simp [Value.cells] at hcs
        obtain ⟨rfl, rfl, rfl⟩ := hcs
        simp only [if_true] at hz
        obtain ⟨b, off, spot⟩ := a
        have hsp : spot = none := by
          have := hcell 0 (by omega)
          have e0 : (⟨b, off, spot⟩ : Addr).add 0 = ⟨b, off, spot⟩ := rfl
          rw [e0] at this
          unfold World.cell? at this
          split at this
          · cases spot with
            | none => rfl
            | some s => simp at this
          · cases this
        subst hsp
        have hp0 : p0 = MemPlace.row ⟨b, off, none⟩ zs.length := by
          simp only [Prod.mk.injEq] at hxx
          exact hxx.2
        have hadd : ∀ i, (⟨b, off, none⟩ : Addr).add i = ⟨b, off + i, none⟩ := by
          intro i
          unfold Addr.add
          split
          · rename_i h; subst h; rfl
          · rfl
        letI : Go.Qm.Rho := ⟨fun _ => 0, fun _ => false, fun _ => []⟩
        refine calls_some zs x W b off len cap hl hm (by omega) (by omega) hz (fun i hi => by rw [← hadd]; exact hcell i hi) (fun i hi => ?_)
        refine hfz b (off + i) ?_
        rw [hp0]
        unfold MemPlace.row
        exact List.mem_map.2 ⟨i, List.mem_range.2 hi, rfl⟩
  refine hcalls.mono fun e W' ⟨he, hu⟩ => ?_
  subst he
  refine ⟨_, rfl, post_of_below (pa := p0) (pv := []) hW' (fun _ _ _ => trodAll_cons_mk (shut_bool Try.underlying4 _) trodAll_mk0) (fun sp hs => ?_) (fun _ _ => rfl) (by simp)
    hu (ok_one (by kernel_rfl) rfl (okWide_bool_mk Try.underlying4 _))⟩
  have := trodAll_cons_mk (hstay W' sp hu hs) (trodAll_cons_mk (shut_int Try.underlying3 hx) trodAll_mk0)
  simp only [List.append_nil] at this ⊢
  exact this

theorem reads (os : Os) {H : Type} (enc : TypeId × Value → H) : ∃ places, DataW.whole enc Try.prog ((World.holding Try.prog os ⟨#[], #[], []⟩).forCall (fun _ _ => 0) ⟨#[], #[.slice none 0 0, .int .i64 0], []⟩).memory Try.f3.params.toList Rows.boundLinesSpec.vars false #[Value.slice none 0 0, .int .i64 0].toList 8 = some ([.nil, .lit (.int .i64 0)], [], places) :=
  ⟨[], by kernel_rfl⟩

theorem lifted (os : Os) (started : os.Started) (H : Type) (enc : TypeId × Value → H) (F : Stop.Interp) :
    ReturnsInHanded {} Try.checked os 3 .any ((OpenSpec.ofChange Rows.boundLinesSpec).preRow enc Try.prog Try.f3 Rows.boundLinesRow.domain false Rows.boundLinesRow.laid) (((OpenSpec.ofChange Rows.boundLinesSpec).at F).post enc Try.prog Try.f3 false true false false) := by
  obtain ⟨places, hx⟩ := reads os enc
  refine returnsInHanded_of_row (C := Try.checked) (s := OpenSpec.ofChange Rows.boundLinesSpec) own started (by kernel_rfl) Try.func3
    (witness_row_at (enc := enc) (C := Try.checked) false (World.holding Try.prog os ⟨#[], #[], []⟩) #[.slice none 0 0, .int .i64 0] rfl (by kernel_rfl) (by kernel_rfl) (by kernel_rfl)
      (OpenSpec.preRow_of_cond 8 hx (by kernel_rfl) (fun k hk => by cases hk) (by kernel_rfl) (laidMet_nil _ _))) ?_
  intro W base args ds gs before hval hW _ _ _ _ _ _
  exact contract H enc W base args ds gs before hval hW

end Go.Proofs.Ytjkhpjnhdijchaa.bl
namespace Go.Proofs.Ytjkhpjnhdijchaa
theorem boundLines_holds : Rows.BoundLinesSaid :=
  OpenClaim.holds_of_cond 3 Try.f3 rfl rfl rfl rfl rfl rfl rfl ⟨rfl, rfl, rfl, rfl, rfl⟩ rfl rfl rfl rfl rfl (by kernel_rfl) Try.func3 (by kernel_rfl)
    (of_decide_eq_true (by kernel_rfl)) (by unfold Func.isWrapper; first | (rw [if_pos (by decide +kernel)]; kernel_rfl) | (rw [if_neg (by decide +kernel)]; exact ⟨rfl, rfl⟩))
    (fun os started H enc _ F => by rw [OpenClaim.pre_eq_preRow]; exact bl.lifted os started H enc F)
#print axioms boundLines_holds
end Go.Proofs.Ytjkhpjnhdijchaa
