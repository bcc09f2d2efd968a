/- A table of a world, for the store's run and the quick one. No conditions. -/
import Derived.Test.YthmkdcclmaoonaaDoorQ15
set_option linter.unusedVariables false
set_option linter.unusedSimpArgs false
set_option linter.unusedSectionVars false
set_option linter.constructorNameAsVariable false
namespace Go.Qm
open Go.Am Go.RowKit
noncomputable section
variable [Rho]

/-- The world's variable holds these things. -/
def TabAt (w : World) (g n : Nat) (f : Nat → V) (e : TypeId) : Prop := w.heap[g]? = some (.cells ((List.range n).map fun i => dec (f i)).toArray e (0, 0))

theorem TabAt.below {w w' : World} {g n : Nat} {f : Nat → V} {e : TypeId} (h : TabAt w g n f e) (hb : Below w.heap.size w w') : TabAt w' g n f e := by
  have hlt : g < w.heap.size := (Array.getElem?_eq_some_iff.1 h).1
  unfold TabAt at *
  rw [hb.block g hlt]
  exact h

theorem lc_csOf {n : Nat} (f : Nat → V) (hn : n ≤ 65536) : lc (csOf n f) n = (List.range n).map fun i => dec (f i) := by
  obtain ⟨h1, h2⟩ := csOf_spec n f hn
  unfold lc
  apply List.map_congr_left
  intro i hi
  rw [h2 i (Nat.lt_of_lt_of_le (List.mem_range.1 hi) h1)]

theorem TabAt.or {w : World} {g n : Nat} {f : Nat → V} {e : TypeId} (h : TabAt w g n f e) (hn : n ≤ 65536) (β : Bm) (wd : Nat) (hf : ∀ i, i < n → VR β (dec (f i)) (dec (f i))) : OR β w ⟨g, 0, n, wd⟩ (.cells (lc (csOf n f) n) e) := by
  rw [lc_csOf f hn]
  refine ⟨_, ⟨(0, 0), h, .zero _ _⟩, ⟨by simp, by simp⟩, fun i v hv => ?_⟩
  have hi : i < n := by
    have := (List.getElem?_eq_some_iff.1 hv).1
    simpa using this
  have hv' : dec (f i) = v := by simpa [hi] using hv
  subst hv'
  exact ⟨dec (f i), by simp [hi], hf i hi⟩

theorem tab_sc {n : Nat} {f : Nat → V} (hn : n ≤ 65536) (hf : ∀ i, i < n → isSc (f i)) : n ≤ (csOf n f).cap ∧ ∀ i, i < n → isSc (cget (csOf n f) i) := by
  obtain ⟨h1, h2⟩ := csOf_spec n f hn
  refine ⟨h1, fun i hi => ?_⟩
  rw [h2 i (Nat.lt_of_lt_of_le hi h1)]
  exact hf i hi

/-- 64 bits as they were told, by a greater number. -/
def low (x m : Int) : Int := wrapF .i64 ((wrapF .u64 x).tmod (wrapF .u64 m))

theorem low_spec (x : Int) (m : Nat) (h0 : 0 < m) (hm : m < 9223372036854775808) : ∃ a : Nat, a < m ∧ low x m = (a : Int) := by
  have hu : wrapF .u64 (m : Int) = (m : Int) := by
    rw [wrapF_eq, IntKind.wrap_u64]
    omega
  have hx : 0 ≤ wrapF .u64 x := by rw [wrapF_eq, IntKind.wrap_u64]; omega
  refine ⟨(wrapF .u64 x % (m : Int)).toNat, ?_, ?_⟩
  · have := Int.emod_lt_of_pos (wrapF .u64 x) (b := (m : Int)) (by omega)
    omega
  · unfold low
    rw [hu, Int.tmod_eq_emod_of_nonneg hx]
    have h1 := Int.emod_lt_of_pos (wrapF .u64 x) (b := (m : Int)) (by omega)
    have h2 := Int.emod_nonneg (wrapF .u64 x) (b := (m : Int)) (by omega)
    rw [wrapF_eq, wrap64_eq]
    omega

end
end Go.Qm
