/- The library's functions do what the plain functions do, by their contracts. No conditions. -/
import Derived.Test.YtphnfaabcnciiaaGreatDoorLCd
import Derived.Test.YtphnfaabcnciiaaGreatDoorLSh
import Derived.Test.YtphnfaabcnciiaaGreatDoorWr
import Derived.Lib.AtoiErrMem
set_option linter.unusedVariables false
set_option linter.unusedSimpArgs false
set_option linter.unusedSectionVars false
namespace Go.Proofs.YtphnfaabcnciiaaGreatDoor
open Go Go.Proofs Go.Dl
set_option maxRecDepth 100000

theorem up_below {w w' : World} (h : RowKit.Below w.heap.size w w') : Up w w' := h

/-! strings.Index -/

theorem F88_ok (K : Nat) (a0 a1 : Bytes) : DFun Tryz.prog 88  [.c (.str a0), .c (.str a1)] [] (fnS (F88 K a0 a1)) (fun r => .c (.val (.int .i64 r))) (fun r => []) := by
  refine DFun.of_calls fun S β w vs hI hv r hr => ?_
  obtain ⟨v0, r0, rfl, ⟨h0, hl⟩, v1, r1, rfl, ⟨h1, hl1⟩, rfl⟩ := hv
  subst h0; subst h1
  unfold F88 at hr
  split at hr
  · rename_i hs
    simp only [fnS, Option.some.injEq] at hr
    subst hr
    obtain ⟨m, hm⟩ := WI.max hI
    exact (Tryz.strings_Index ⟨a0.toArray⟩ ⟨a1.toArray⟩ m w hs hm).mono fun e w' ⟨he, hw⟩ => ⟨_, he, rfl, by rw [hw]; exact Up.refl w⟩
  · cases hr

/-! strings.Fields -/

theorem fieldsGo_len : ∀ (l cur : Bytes), (∀ x ∈ Lib.fieldsGo cur l, x.length ≤ cur.length + l.length) ∧ (Lib.fieldsGo cur l).length ≤ cur.length + l.length := by
  intro l
  induction l with
  | nil =>
    intro cur
    unfold Lib.fieldsGo
    split
    · exact ⟨fun x hx => (by cases hx), by simp⟩
    · rename_i h
      refine ⟨fun x hx => ?_, ?_⟩
      · simp only [List.mem_singleton] at hx; subst hx; simp
      · cases cur with
        | nil => simp at h
        | cons a r => simp
  | cons b r ih =>
    intro cur
    unfold Lib.fieldsGo
    have h0 := ih []
    split
    · split
      · exact ⟨fun x hx => by have := h0.1 x hx; simp at this ⊢; omega, by have := h0.2; simp at this ⊢; omega⟩
      · rename_i h
        have hc : 1 ≤ cur.length := by
          cases cur with
          | nil => simp at h
          | cons a t => simp
        refine ⟨fun x hx => ?_, by have := h0.2; simp at this ⊢; omega⟩
        rcases List.mem_cons.1 hx with rfl | hx
        · simp
        · have := h0.1 x hx; simp at this ⊢; omega
    · have h1 := ih (cur ++ [b])
      exact ⟨fun x hx => by have := h1.1 x hx; simp at this ⊢; omega, by have := h1.2; simp at this ⊢; omega⟩

theorem F122_ok (K : Nat) (a0 : Bytes) : DFun Tryz.prog 122  [.c (.str a0)] [] (fnS (F122 K a0)) (fun r => .c (E9.tree r)) (fun r => []) := by
  have hmr : ∀ r, fnS (F122 K a0) = some r → a0.length < 4294967281 ∧ (a0.all (fun b => decide (b.toNat < 128)) = true) ∧ r = Lib.fields a0 := by
    intro r hr
    unfold F122 at hr
    split at hr
    · rename_i h
      simp only [fnS, Option.some.injEq] at hr
      exact ⟨h.1, h.2, hr.symm⟩
    · cases hr
  have hlen : (∀ x ∈ Lib.fields a0, x.length ≤ a0.length) ∧ (Lib.fields a0).length ≤ a0.length := by
    have := fieldsGo_len a0 []
    simpa [Lib.fields] using this
  refine DFun.fresh (lst := fun r => r) (ty := 9) (fun x : Bytes => Value.string ⟨x.toArray⟩) rfl (fun r hr x hx => ⟨rfl, fun S => ?_⟩) (fun S β w vs hI hv r hr => ?_)
  · obtain ⟨hl, _, rfl⟩ := hmr r hr
    have := hlen.1 x hx
    exact ⟨rfl, by unfold maxLen; omega⟩
  · obtain ⟨hl, ha, rfl⟩ := hmr r hr
    obtain ⟨v0, r0, rfl, ⟨h0, _⟩, rfl⟩ := hv
    subst h0
    have h2 := hlen.2
    refine ⟨by show (Lib.fields a0).length ≤ maxLen; unfold maxLen; omega, (Tryz.strings_Fields ⟨a0.toArray⟩ w hl (fun j b hb => ?_) (WI.tab hI)).mono fun e w' ⟨he, hw⟩ => ⟨he, hw⟩⟩
    rw [List.all_eq_true] at ha
    have := ha b (List.mem_of_getElem? hb)
    simpa using this

/-! Numbers -/

theorem F92_ok (K : Nat) (a0 : Bytes) : DFun Tryz.prog 92  [.c (.str a0)] [] (fnS (F92 K a0)) (fun r => .tup [.c (.val (.int .i64 r.1)), .c (.iface r.2 174 .bot)]) (fun r => []) := by
  refine DFun.of_calls fun S β w vs hI hv r hr => ?_
  obtain ⟨v0, r0, rfl, ⟨h0, hl⟩, rfl⟩ := hv
  subst h0
  have hmx : a0.length ≤ 281474976710656 := by
    unfold F92 at hr
    split at hr
    · assumption
    · cases hr
  unfold F92 at hr
  rw [if_pos hmx] at hr
  simp only [fnS, Option.some.injEq] at hr
  subst hr
  replace hmx : (⟨a0.toArray⟩ : ByteArray).size ≤ 281474976710656 := hmx
  have up1 : ∀ {w w' : World}, (w' = w ∨ ∃ t, w' = Lib.bytesWorld w 5 t) → Up w w' := by
    rintro w w' (rfl | ⟨t, rfl⟩)
    · exact Up.refl _
    · exact up_below (Lib.bytesWorld_below w 5 t)
  cases ha : Lib.atoiAll a0 with
  | ok n =>
    refine (Tryz.strconv_Atoi_ok ⟨a0.toArray⟩ (by omega) n ha w).mono fun e w' ⟨he, hw⟩ => ⟨_, he, ?_, up1 hw⟩
    exact ⟨_, rfl, _, _, rfl, rfl, _, _, rfl, rfl, rfl⟩
  | range =>
    obtain ⟨ev, h1, h2⟩ := WI.rng hI
    refine (Tryz.strconv_Atoi_range ⟨a0.toArray⟩ hmx ha ev w h1 h2).mono fun e w' ⟨N, he, _, _, hw⟩ => ⟨_, he, ?_, up_below hw⟩
    exact ⟨_, rfl, _, _, rfl, rfl, _, _, rfl, ⟨_, rfl, trivial⟩, rfl⟩
  | _ =>
    obtain ⟨ev, h1, h2⟩ := WI.syn hI
    refine (Any.strconv_Atoi_syntax Tryz.laysC172 ⟨a0.toArray⟩ hmx ha ev w h1 h2).mono fun e w' ⟨N, he, _, _, hw⟩ => ⟨_, he, ?_, up_below hw⟩
    exact ⟨_, rfl, _, _, rfl, rfl, _, _, rfl, ⟨_, rfl, trivial⟩, rfl⟩

/-! An error's code and place -/

section
variable {R : Type} {P : Program}
theorem DFun.of_callsH {f : FuncId} {args : List D} {mr : Option R} {res : R → D}
    (h : ∀ S β w vs, WInv.I w → Holds S w → VRel S β args vs → ∀ r, mr = some r → Calls P f vs.toArray w fun e w' => ∃ v, e = .returned v ∧ DRel S β (res r) v ∧ Up w w') : DFun P f args [] mr res (fun _ => []) := by
  intro S β w vs hc hv r hr
  refine (h S β w vs hc.inv hc.holds hv r hr).mono fun e w' ⟨v, he, hd, hu⟩ => ⟨v, S, β, he, hd, fun o k ho _ => by simp at ho, hc.newer hu.os hu.tape hu.output hu.size hu.block⟩
end

theorem F10_ok (K : Nat) (a0 : Err) : DFun Tryz.prog 10  [.c (errC a0)] [] (fnS (F10 K a0)) (fun r => .tup [.c (.val (.int .i64 r.1)), .c (.val (.int .i64 r.2))]) (fun r => []) := by
  refine DFun.of_callsH fun S β w vs hI hH hv r hr => ?_
  obtain ⟨v0, r0, rfl, h0, rfl⟩ := hv
  simp only [F10, fnS, Option.some.injEq] at hr
  subst hr
  cases a0 with
  | nil =>
    obtain rfl : v0 = .nilIface := h0
    exact (wrong_nil w).mono fun e w' ⟨he, hw⟩ => ⟨_, he, ⟨_, rfl, _, _, rfl, rfl, _, _, rfl, rfl, rfl⟩, by rw [hw]; exact Up.refl w⟩
  | cons x l =>
    obtain ⟨c, a⟩ := x
    obtain ⟨u, rfl, b, off, rfl, hb⟩ := h0
    obtain ⟨u0, s0, r0⟩ := hb 0 (by omega)
    obtain ⟨u1, s1, r1⟩ := hb 1 (by omega)
    obtain rfl : u0 = .int .i64 c := by cases l <;> exact r0
    obtain rfl : u1 = .int .i64 a := by cases l <;> exact r1
    exact (wrong_err b off w c a (WI.err hI) (hH _ _ _ s0).1 (hH _ _ _ s1).1).mono fun e w' ⟨he, hw⟩ => ⟨_, he, ⟨_, rfl, _, _, rfl, rfl, _, _, rfl, rfl, rfl⟩, up_below hw⟩

end Go.Proofs.YtphnfaabcnciiaaGreatDoor
