/- A lexer's error in other words. No conditions. -/
import Derived.Test.YtidjangjfekfjaaGreatDoorLCe
import Derived.Test.YtidjangjfekfjaaGreatDoorIs
set_option linter.unusedVariables false
set_option linter.unusedSimpArgs false
set_option linter.unusedSectionVars false
namespace Go.Proofs.YtidjangjfekfjaaGreatDoor
open Go Go.Proofs Go.RowKit Go.Dl Go.Shelf
set_option maxRecDepth 100000
theorem DFun.of_callsN {P : Program} {R : Type} {f : FuncId} {args : List D} {mr : Option R} {res : R → D}
    (h : ∀ S β w vs, WInv.I w → Holds S w → VRel S β args vs → ∀ r, mr = some r → Calls P f vs.toArray w fun e w' => ∃ v S', e = .returned v ∧ DRel S' β (res r) v ∧ MLe S S' ∧ (∀ b i, b < w.heap.size → S' b i = S b i) ∧ Holds S' w' ∧ Up w w') : DFun P f args [] mr res (fun _ => []) := by
  intro S β w vs hc hv r hr
  refine (h S β w vs hc.inv hc.holds hv r hr).mono fun e w' ⟨v, S', he, hd, hm, hs, hh, hu⟩ => ?_
  exact ⟨v, S', β, he, hd, fun o k ho _ => by simp at ho, ⟨⟨hu.os, hu.tape, hu.output, hu.size, fun b hb _ => hu.block b hb, fun b i hb _ => hs b i hb, hm, hc.frame.glob, hc.frame.inv⟩, hh, fun o x hx => by simp at hx, hc.out, fun o o' k k' x x' hx => by simp at hx, fun o k x hx => by simp at hx, fun o k x hx => by simp at hx⟩⟩
def F34 (K : Nat) : Err → Option (Err ⊕ Err)
  | [] => some (.inl [])
  | [x] => if x.1 = 1 ∨ x.1 = 2 ∨ x.1 = 5 then some (.inl [x, x]) else none
  | _ => none
theorem wrapped_of_nil (w : World) : Calls Tryz.prog 34 #[.nilIface] w fun e w' => e = .returned .nilIface ∧ RowKit.Below w.heap.size w w' := by
  have hn := fun (b : Addr) (w : World) => run_eql_iface_nil_left (P := Tryz.prog) w 96 (.pointer (some b)) Tryz.underlying27
  go_enter Tryz.func34, Tryz.ntmps34
  go_wp2
  refine wp_loop_rounds 4 ?_
  rw [rounds_succ]
  go_wp2
  rw [rounds_succ]
  go_wp2
  rw [rounds_succ]
  go_wp2
  rw [rounds_succ]
  go_wp2
  go_ret
  exact ⟨rfl, ((below_alloc _ _).trans ((below_alloc _ _).mono (by simp))).trans (((below_alloc _ _).mono (by simp <;> omega)).trans ((below_alloc _ _).mono (by simp <;> omega)))⟩
theorem wrapped_lf {b off : Nat} {c a : Int} {w : World} (L : Lf b off c a w) (hc : c = 1 ∨ c = 2 ∨ c = 5) : Calls Tryz.prog 34 #[.iface 96 (.pointer (some ⟨b, off, none⟩))] w (Wrapped b off c a w) := by
  rcases hc with rfl | rfl | rfl
  · exact wrapped_one b off w a L
  · exact wrapped_two b off w a L
  · exact wrapped_five b off w a L
theorem F34_ok (K : Nat) (a0 : Err) : DFun Tryz.prog 34 [.c (errC a0)] [] (fnS (F34 K a0)) (fun r => .c (errC r)) (fun r => []) := by
  refine DFun.of_callsN fun S β w vs hI hH hv r hr => ?_
  obtain ⟨v0, r0, rfl, h0, rfl⟩ := hv
  match a0, h0, hr with
  | [], h0, hr =>
    obtain rfl : [] = r := by simpa [F34, fnS] using hr
    obtain rfl : v0 = .nilIface := h0
    exact (wrapped_of_nil w).mono fun e w' ⟨he, hw⟩ => ⟨_, S, he, errC_nil S β _ rfl, MLe.refl _, fun _ _ _ => rfl, fun b i v hv => by
      obtain ⟨h1, h2⟩ := hH b i v hv
      exact ⟨Up.cell (up_below hw) h1, h2⟩, up_below hw⟩
  | [(c, a)], h0, hr =>
    change fnS (if c = 1 ∨ c = 2 ∨ c = 5 then some (.inl [(c, a), (c, a)]) else none : Option (Err ⊕ Err)) = some r at hr
    split at hr
    · rename_i hc
      obtain rfl : [(c, a), (c, a)] = r := by simpa [fnS] using hr
      obtain ⟨u, rfl, b, off, rfl, hb⟩ := id h0
      obtain ⟨u0, s0, r0⟩ := hb 0 (by omega)
      obtain ⟨u1, s1, r1⟩ := hb 1 (by omega)
      obtain ⟨u2, s2, r2⟩ := hb 2 (by omega)
      obtain rfl : u0 = .int .i64 c := r0
      obtain rfl : u1 = .int .i64 a := r1
      obtain rfl : u2 = .nilIface := r2
      have L : Lf b off c a w := ⟨(hH _ _ _ s0).1, (hH _ _ _ s1).1, (hH _ _ _ s2).1, WI.err hI⟩
      refine (wrapped_lf L hc).mono fun e w' ⟨B, he, hB, hn, hw⟩ => ?_
      have hnone : ∀ i, S B i = none := by
        intro i
        cases hs : S B i with
        | none => rfl
        | some v =>
          have := cell_lt (hH B i v hs).1
          dsimp only at this
          omega
      have hle : MLe S (mnew S B [.int .i64 c, .int .i64 a, .iface 96 (.pointer (some ⟨b, off, none⟩))]) := by
        intro b' i v hv
        unfold mnew
        by_cases hb : b' = B
        · subst hb; rw [hnone] at hv; cases hv
        · rw [if_neg hb]; exact hv
      have hp : CRel (mnew S B [.int .i64 c, .int .i64 a, .iface 96 (.pointer (some ⟨b, off, none⟩))]) noB (errC [(c, a)]) (.iface 96 (.pointer (some ⟨b, off, none⟩))) := by
        refine ⟨_, rfl, b, off, rfl, fun j hj => ?_⟩
        obtain ⟨u, hu, hr⟩ := hb j hj
        exact ⟨u, hle _ _ _ hu, CRel.mono hle _ _ _ hr⟩
      refine ⟨_, mnew S B [.int .i64 c, .int .i64 a, .iface 96 (.pointer (some ⟨b, off, none⟩))], he, ?_, hle, fun b' i hb' => ?_, fun b' i v hv => ?_, up_below hw⟩
      · refine ⟨_, rfl, B, 0, rfl, fun j hj => ?_⟩
        have : j = 0 ∨ j = 1 ∨ j = 2 := by omega
        rcases this with rfl | rfl | rfl
        · exact ⟨_, by unfold mnew; rw [if_pos rfl]; rfl, rfl⟩
        · exact ⟨_, by unfold mnew; rw [if_pos rfl]; rfl, rfl⟩
        · exact ⟨_, by unfold mnew; rw [if_pos rfl]; rfl, hp⟩
      · unfold mnew; rw [if_neg (by omega)]
      · unfold mnew at hv
        by_cases hb' : b' = B
        · subst hb'
          rw [if_pos rfl] at hv
          refine ⟨by rw [cell_of_heap hn, List.getElem?_toArray]; exact hv, ?_⟩
          have : i = 0 ∨ i = 1 ∨ i = 2 ∨ 3 ≤ i := by omega
          rcases this with rfl | rfl | rfl | hi
          · cases hv; rfl
          · cases hv; rfl
          · cases hv; rfl
          · rw [List.getElem?_eq_none (by simpa using hi)] at hv; cases hv
        · rw [if_neg hb'] at hv
          obtain ⟨h1, h2⟩ := hH b' i v hv
          exact ⟨Up.cell (up_below hw) h1, h2⟩
    · cases hr
  | _ :: _ :: _, h0, hr => cases hr
end Go.Proofs.YtidjangjfekfjaaGreatDoor
