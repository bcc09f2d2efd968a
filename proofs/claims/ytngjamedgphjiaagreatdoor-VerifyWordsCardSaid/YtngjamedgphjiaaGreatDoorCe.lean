/- The library's functions do what the plain functions do, by their contracts. No conditions. -/
import Derived.Test.YtngjamedgphjiaaGreatDoorCd
import Derived.Test.YtngjamedgphjiaaGreatDoorSh
import Derived.Test.YtngjamedgphjiaaGreatDoorWr
import Derived.Shelf.Strings.SlTrimAscii
set_option linter.unusedVariables false
set_option linter.unusedSimpArgs false
set_option linter.unusedSectionVars false
namespace Go.Proofs.YtngjamedgphjiaaGreatDoor
open Go Go.Proofs Go.Dl
set_option maxRecDepth 100000
theorem up_drew (w : World) (n : Nat) : Up w (w.drewN n) := ⟨rfl, rfl, rfl, Nat.le_refl _, fun _ _ => rfl⟩
theorem up_of {w w' : World} (h : w' = w) : Up w w' := by rw [h]; exact Up.refl w
theorem h131 : (Tryz.prog.info? 131).map (fun i => (i.zero, i.size)) = some (some (.agg (Array.replicate 256 (.bool false))), 256) := by kernel_rfl
theorem F54_ok (K : Nat) (a0 a1 : Bytes) : DFun Tryz.prog 54 [.c (.str a0), .c (.str a1)] [] (fnS (F54 K a0 a1)) (fun r => .c (.str r)) (fun r => []) := by
  refine DFun.of_calls fun S β w vs hI hv r hr => ?_
  obtain ⟨v0, r0, rfl, ⟨h0, hl⟩, v1, r1, rfl, ⟨h1, hl1⟩, rfl⟩ := hv
  subst h0; subst h1
  unfold F54 at hr
  split at hr
  · rename_i hs
    obtain ⟨rfl, hs⟩ := hs
    simp only [fnS, Option.some.injEq] at hr
    subst hr
    refine (Any.strings_Trim_laid Tryz.lays160 h131 ⟨a0.toArray⟩ ⟨#[105, 114]⟩ w (by simpa [ByteArray.size] using hs) (by decide) (fun j b h => ?_)).mono fun e w' ⟨he, hw⟩ => ⟨_, he, ?_, hw⟩
    · have hm : b ∈ ([105, 114] : List UInt8) := List.mem_of_getElem? h
      simp at hm
      rcases hm with rfl | rfl <;> decide
    · refine ⟨rfl, ?_⟩
      have h1 : (Lib.trimS a0 [105, 114]).length ≤ a0.length := by
        have h : ∀ (p : UInt8 → Bool) (l : List UInt8), (l.dropWhile p).length ≤ l.length := fun p l => (List.dropWhile_suffix p).length_le
        unfold Lib.trimS Lib.trimRightS Lib.trimLeftS
        first
          | (refine Nat.le_trans (h _ _) ?_; rw [List.length_reverse]; refine Nat.le_trans (h _ _) ?_; rw [List.length_reverse]; exact Nat.le_refl _)
          | (rw [List.length_reverse]; refine Nat.le_trans (h _ _) ?_; rw [List.length_reverse]; exact h _ _)
      omega
  · cases hr
theorem F35_ok (K : Nat) (a0 a1 : Bytes) : DFun Tryz.prog 35 [.c (.str a0), .c (.str a1)] [] (fnS (F35 K a0 a1)) (fun r => .c (.val (.bool r))) (fun r => []) := by
  refine DFun.of_calls fun S β w vs hI hv r hr => ?_
  obtain ⟨v0, r0, rfl, ⟨h0, hl⟩, v1, r1, rfl, ⟨h1, hl1⟩, rfl⟩ := hv
  subst h0; subst h1
  simp only [F35, fnS, Option.some.injEq] at hr
  subst hr
  exact (Tryz.strings_HasPrefix ⟨a0.toArray⟩ ⟨a1.toArray⟩ w).mono fun e w' ⟨he, hw⟩ => ⟨_, he, rfl, up_of hw⟩
theorem cut_short (s sep : Bytes) : (Lib.cut s sep).1.length ≤ s.length ∧ (Lib.cut s sep).2.1.length ≤ s.length := by
  unfold Lib.cut
  split <;> simp <;> omega
theorem F80_ok (K : Nat) (a0 a1 : Bytes) : DFun Tryz.prog 80 [.c (.str a0), .c (.str a1)] [] (fnS (F80 K a0 a1)) (fun r => .tup [.c (.str r.1), .c (.str r.2.1), .c (.val (.bool r.2.2))]) (fun r => []) := by
  refine DFun.of_calls fun S β w vs hI hv r hr => ?_
  obtain ⟨v0, r0, rfl, ⟨h0, hl⟩, v1, r1, rfl, ⟨h1, hl1⟩, rfl⟩ := hv
  subst h0; subst h1
  unfold F80 at hr
  split at hr
  · rename_i hs
    simp only [fnS, Option.some.injEq] at hr
    subst hr
    obtain ⟨m, hm⟩ := WI.max hI
    refine (Tryz.strings_Cut ⟨a0.toArray⟩ ⟨a1.toArray⟩ m w hs hm).mono fun e w' ⟨he, n, hw⟩ => ⟨_, he, ?_, by rw [hw]; exact up_drew w n⟩
    have hsh := cut_short a0 a1
    exact ⟨_, rfl, _, _, rfl, ⟨rfl, by omega⟩, _, _, rfl, ⟨rfl, by omega⟩, _, _, rfl, rfl, rfl⟩
  · cases hr
theorem F85_ok (K : Nat) (a0 a1 : Bytes) : DFun Tryz.prog 85 [.c (.str a0), .c (.str a1)] [] (fnS (F85 K a0 a1)) (fun r => .tup [.c (.str r.1), .c (.val (.bool r.2))]) (fun r => []) := by
  refine DFun.of_calls fun S β w vs hI hv r hr => ?_
  obtain ⟨v0, r0, rfl, ⟨h0, hl⟩, v1, r1, rfl, ⟨h1, hl1⟩, rfl⟩ := hv
  subst h0; subst h1
  unfold F85 at hr
  split at hr
  · rename_i hs
    simp only [fnS, Option.some.injEq] at hr
    subst hr
    refine (Tryz.strings_CutSuffix ⟨a0.toArray⟩ ⟨a1.toArray⟩ w (by simpa [ByteArray.size] using hs)).mono fun e w' ⟨he, hw⟩ => ⟨_, he, ?_, up_of hw⟩
    have hsh : (Lib.trimSuffix a0 a1).length ≤ a0.length := by unfold Lib.trimSuffix; split <;> simp
    exact ⟨_, rfl, _, _, rfl, ⟨rfl, by show (Lib.trimSuffix a0 a1).length ≤ maxLen; omega⟩, _, _, rfl, rfl, rfl⟩
  · cases hr
theorem F112_ok (K : Nat) (a0 a1 : Bytes) : DFun Tryz.prog 112 [.c (.str a0), .c (.str a1)] [] (fnS (F112 K a0 a1)) (fun r => .c (.val (.int .i64 r))) (fun r => []) := by
  refine DFun.of_calls fun S β w vs hI hv r hr => ?_
  obtain ⟨v0, r0, rfl, ⟨h0, hl⟩, v1, r1, rfl, ⟨h1, hl1⟩, rfl⟩ := hv
  subst h0; subst h1
  rcases a1 with _ | ⟨c, _ | ⟨d, r⟩⟩
  · cases hr
  · simp only [F112, fnS, Option.some.injEq] at hr
    subst hr
    exact (Tryz.strings_Count_one ⟨a0.toArray⟩ c w).mono fun e w' ⟨he, hw⟩ => ⟨_, he, rfl, up_of hw⟩
  · cases hr
theorem F105_ok (K : Nat) (a : List Int) : DFun Tryz.prog 105 [.c (.own 0 a.length)] [E3.row a] (fnS (F105 K a)) (fun r => .tup []) (fun r => [E3.row r]) := by
  refine DFun.congr (DFun.sortInts E3 rfl rfl Tryz.slices_Sort_int Tryz.slices_Sort_int_none a) ?_
  unfold F105
  split <;> rfl
theorem F22_ok (K : Nat) (a0 : Err) : DFun Tryz.prog 22 [.c (errC a0)] [] (fnS (F22 K a0)) (fun r => .tup [.c (.val (.int .i64 r.1)), .c (.val (.int .i64 r.2))]) (fun r => []) := by
  refine DFun.of_callsH fun S β w vs hI hH hv r hr => ?_
  obtain ⟨v0, r0, rfl, h0, rfl⟩ := hv
  simp only [F22, fnS, Option.some.injEq] at hr
  subst hr
  cases a0 with
  | none =>
    obtain rfl : v0 = .nilIface := h0
    exact (wrong_nil w).mono fun e w' ⟨he, hw⟩ => ⟨_, he, ⟨_, rfl, _, _, rfl, rfl, _, _, rfl, rfl, rfl⟩, by rw [hw]; exact Up.refl w⟩
  | some x =>
    obtain ⟨c, a⟩ := x
    obtain ⟨u, rfl, b, off, rfl, hb⟩ := h0
    obtain ⟨u0, s0, r0⟩ := hb 0 (by omega)
    obtain ⟨u1, s1, r1⟩ := hb 1 (by omega)
    obtain rfl : u0 = .int .i64 c := r0
    obtain rfl : u1 = .int .i64 a := r1
    exact (wrong_err b off w c a (WI.err hI) (hH _ _ _ s0).1 (hH _ _ _ s1).1).mono fun e w' ⟨he, hw⟩ => ⟨_, he, ⟨_, rfl, _, _, rfl, rfl, _, _, rfl, rfl, rfl⟩, hw⟩
end Go.Proofs.YtngjamedgphjiaaGreatDoor
