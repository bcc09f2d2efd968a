/- The library's functions do what the plain functions do, by their contracts. No conditions. -/
import Derived.Test.YtaoklnkjcobokaaDoorPCd
import Derived.Test.YtaoklnkjcobokaaDoorPSh
import Derived.Test.YtaoklnkjcobokaaDoorPBd
import Derived.Lib.ItoaLen
set_option linter.unusedVariables false
set_option linter.unusedSimpArgs false
set_option linter.unusedSectionVars false
namespace Go.Proofs.YtaoklnkjcobokaaDoor
open Go Go.Proofs Go.Dl
set_option maxRecDepth 100000

theorem up_below {w w' : World} (h : RowKit.Below w.heap.size w w') : Up w w' := h
theorem up_grow (w : World) (n : Nat) (os : Array Go.Obj) : Up w (Sort.grow (w.drewN n) os) :=
  ⟨rfl, rfl, rfl, by show w.heap.size ≤ (w.heap ++ os).size; simp, fun b hb => by show (w.heap ++ os)[b]? = _; rw [Array.getElem?_append_left hb]⟩

theorem F52_ok (K : Nat) (a0 : Int) : DFun Tryd.prog 52 [.c (.val (.int .i64 a0))] [] (fnS (F52 K a0)) (fun r => .c (.str r)) (fun r => []) := by
  refine DFun.of_calls fun S β w vs hI hv r hr => ?_
  obtain ⟨v0, r0, rfl, h0, rfl⟩ := hv
  obtain rfl : v0 = _ := h0
  unfold F52 at hr
  split at hr
  · rename_i hb
    simp only [fnS, Option.some.injEq] at hr
    subst hr
    refine (Tryd.strconv_Itoa a0 hb.1 hb.2 w (WI.tab hI)).mono fun e w' ⟨he, k, os, hw⟩ => ⟨_, he, ⟨rfl, ?_⟩, by rw [hw]; exact up_grow _ _ _⟩
    have := Lib.itoa_length_le a0 hb.1 hb.2
    unfold maxLen; omega
  · cases hr

section
variable {R : Type} {P : Program}
theorem DFun.of_callsH {f : FuncId} {args : List D} {mr : Option R} {res : R → D}
    (h : ∀ S β w vs, WInv.I w → Holds S w → VRel S β args vs → ∀ r, mr = some r → Calls P f vs.toArray w fun e w' => ∃ v, e = .returned v ∧ DRel S β (res r) v ∧ Up w w') : DFun P f args [] mr res (fun _ => []) := by
  intro S β w vs hc hv r hr
  refine (h S β w vs hc.inv hc.holds hv r hr).mono fun e w' ⟨v, he, hd, hu⟩ => ⟨v, S, β, he, hd, fun o k ho _ => by simp at ho, hc.newer hu.os hu.tape hu.output hu.size hu.block⟩
end

theorem F38_ok (K : Nat) (a0 : List Bytes) (a1 : Bytes) : DFun Tryd.prog 38 [.c (E9.tree a0), .c (.str a1)] [] (fnS (F38 K a0 a1)) (fun r => .c (.str r)) (fun r => []) := by
  refine DFun.of_callsH fun S β w vs hI hH hv r hr => ?_
  obtain ⟨v0, r0, rfl, ⟨a, cap, rfl, h1, h2, h3⟩, v1, r1, rfl, ⟨h4, hl⟩, rfl⟩ := hv
  subst h4
  unfold F38 at hr
  split at hr
  · rename_i hb
    simp only [fnS, Option.some.injEq] at hr
    subst hr
    have hml : maxLen = 9223372036854775807 := by unfold maxLen; rfl
    obtain ⟨hb, hb2⟩ := hb
    rcases h3 with h0 | ⟨b, off, rfl, hc⟩
    · have h0 : a0 = [] := List.eq_nil_of_length_eq_zero h0
      subst h0
      refine (Tryd.strings_Join_none a cap ⟨a1.toArray⟩ w).mono fun e w' ⟨he, hw⟩ => ⟨_, he, ⟨rfl, Nat.zero_le _⟩, by rw [hw]; exact Up.refl w⟩
    · by_cases h0 : a0 = []
      · subst h0
        refine (Tryd.strings_Join_none (some ⟨b, off, none⟩) cap ⟨a1.toArray⟩ w).mono fun e w' ⟨he, hw⟩ => ⟨_, he, ⟨rfl, Nat.zero_le _⟩, by rw [hw]; exact Up.refl w⟩
      have hcell : ∀ (j : Nat) (x : Bytes), a0[j]? = some x → ∃ v, S b (off + j) = some v ∧ v = .string ⟨x.toArray⟩ := by
        intro j x hx
        obtain ⟨hj, hjx⟩ := List.getElem?_eq_some_iff.1 hx
        obtain ⟨v, hv1, hv2⟩ := hc j 0 hj (by decide)
        refine ⟨v, by simpa [E9] using hv1, ?_⟩
        have e : E9.at a0 j 0 = .str x := by
          unfold El.at
          have : a0.getD j E9.d = x := by rw [← hjx]; simp [List.getD, List.getElem?_eq_getElem hj]
          rw [this]; rfl
        rw [e] at hv2
        exact hv2.1
      have hxs : (a0.map (fun x : Bytes => (⟨x.toArray⟩ : ByteArray))).map (·.data.toList) = a0 := by
        rw [List.map_map]
        exact (List.map_congr_left (fun x _ => rfl)).trans (List.map_id a0)
      have hbk : b < w.heap.size := by
        cases a0 with
        | nil => exact absurd rfl h0
        | cons x t =>
          obtain ⟨v, hv1, _⟩ := hcell 0 x rfl
          have hv2 : S b off = some v := hv1
          exact hH.lt (b := b) (i := off) (by rw [hv2]; rfl)
      have hj := Tryd.strings_Join b off cap (a0.map (fun x : Bytes => (⟨x.toArray⟩ : ByteArray))) ⟨a1.toArray⟩ w (fun j x hx => by
        rw [List.getElem?_map] at hx
        cases hy : a0[j]? with
        | none => rw [hy] at hx; cases hx
        | some y =>
          rw [hy] at hx
          simp only [Option.map_some, Option.some.injEq] at hx
          subst hx
          obtain ⟨v, hv1, rfl⟩ := hcell j y hy
          exact (hH _ _ _ hv1).1) hbk (by simp; omega) (by simpa using h1) (by rw [hxs]; exact hb)
      rw [hxs, List.length_map] at hj
      refine hj.mono fun e w' ⟨he, hw⟩ => ⟨_, he, ⟨rfl, by show (Lib.join a0 a1).length ≤ maxLen; omega⟩, up_below hw⟩
  · cases hr

/-! The check of a builder -/
theorem cc_lies : liesAt Tryd.prog Tryd.prog.depth 59 (2 / Tryd.prog.cellsOf 59) 0 59 1 = true := by kernel_rfl
theorem F37_ok (K : Nat) (a0 : S59) : DFun Tryd.prog 37 [.c (.ptr 0 0 0)] [.cells [.self 59 a0.faddr 0, .own 1 a0.fbuf.length], E5.row a0.fbuf] (fnS (F37 K a0)) (fun r => .tup []) (fun r => [.cells [.self 59 r.faddr 0, .own 1 r.fbuf.length], E5.row r.fbuf]) := by
  refine DFun.copyCheck a0.faddr [.own 1 a0.fbuf.length] [E5.row a0.fbuf] (fun r hr => ?_) cc_used (fun b w h0 hsh hfz => cc_fresh b 59 2 w h0 hsh (by decide) hfz cc_lies)
  simp only [F37, fnS, Option.some.injEq] at hr
  subst hr
  rfl

/-! The text of a builder -/

theorem but_b {g : Nat} {w w' : World} (h : But g w w') : ButB g w w' := ⟨h.os, h.tape, h.output, h.size, h.block⟩

theorem F21_ok (K : Nat) (a0 : S59) : DFun Tryd.prog 21 [.c (.ptr 0 0 0)] [.cells [.self 59 a0.faddr 0, .own 1 a0.fbuf.length], E5.row a0.fbuf] (fnS (F21 K a0)) (fun r => .c (.str r)) (fun r => [.dead, .dead]) := by
  have hr' : ∀ r, fnS (F21 K a0) = some r → r = a0.fbuf := by
    intro r hr
    simp only [F21, fnS, Option.some.injEq] at hr
    exact hr.symm
  refine DFun.builderStr a0.faddr a0.fbuf [] (fun r hr => by rw [hr' r hr]) (fun r => rfl) ?_ ?_
  · intro b g cap cs cur w hb hc1 hg hnc hcm hcs hcell hlt
    by_cases h0 : a0.fbuf = []
    · rw [h0] at hc1 ⊢
      by_cases hc0 : cap = 0
      · subst hc0
        exact (str_noroom b g 59 cs cur w hlt hb hc1 hg).mono fun e w' ⟨h1, h2⟩ => ⟨h1, but_b h2⟩
      · exact (str_room b g cap 59 cs w hc0 hb hc1).mono fun e w' ⟨h1, h2⟩ => ⟨h1, but_b h2⟩
    · exact (str_some b g cap 59 cs cur w a0.fbuf hb hc1 hg hnc hcm hcs hcell h0).mono fun e w' ⟨h1, h2⟩ => ⟨h1, but_b h2⟩
  · intro h0 b cs w hb hc1
    rw [h0]
    exact (str_nil b b 59 cs w hb hc1).mono fun e w' ⟨h1, h2⟩ => ⟨h1, but_b h2⟩
end Go.Proofs.YtaoklnkjcobokaaDoor
