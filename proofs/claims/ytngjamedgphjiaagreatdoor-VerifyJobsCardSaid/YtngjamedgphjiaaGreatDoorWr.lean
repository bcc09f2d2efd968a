/- An error's code and place, as the law's own helper tells them. No conditions. -/
import Derived.Test.YtngjamedgphjiaaGreatDoorR1
import Derived.Test.YtngjamedgphjiaaGreatDoorCd
import Derived.Shelf.RegionOpenPlain
set_option linter.unusedVariables false
set_option linter.unusedSimpArgs false
set_option linter.unusedSectionVars false
namespace Go.Proofs.YtngjamedgphjiaaGreatDoor
open Go Go.Proofs Go.RowKit Go.Dl Go.Shelf
set_option maxRecDepth 100000
theorem as_err (b off : Nat) (w : World) (c a : Int) (hg : w.cell? ⟨0, 0, none⟩ = some (.iface 148 (.agg #[.pointer (some ⟨4, 32, none⟩)])))
    (h0 : w.cell? ⟨b, off, none⟩ = some (.int .i64 c)) (h1 : w.cell? ⟨b, off + 1, none⟩ = some (.int .i64 a)) :
    Calls Tryz.prog 50 #[.iface 57 (.pointer (some ⟨b, off, none⟩)), .iface 89 (.pointer (some ⟨w.heap.size, 0, none⟩))] (w.alloc (.cells #[.pointer none] 57)) fun ev w' => ev = .returned (.bool true) ∧
      w'.cell? ⟨w.heap.size, 0, none⟩ = some (.pointer (some ⟨b, off, none⟩)) ∧ w'.cell? ⟨b, off, none⟩ = some (.int .i64 c) ∧ w'.cell? ⟨b, off + 1, none⟩ = some (.int .i64 a) ∧ RowKit.Below w.heap.size w w' := by
  have hlt : ∀ {x : Addr} {v : Value}, w.cell? x = some v → x.block < w.heap.size := by
    intro x v h
    rcases Nat.lt_or_ge x.block w.heap.size with hl | hl
    · exact hl
    · simp [World.cell?, Array.getElem?_eq_none hl] at h
  have hbw : RowKit.Below w.heap.size w (w.alloc (.cells #[.pointer none] 57)) := below_alloc _ _
  have ht : (w.alloc (.cells #[.pointer none] 57)).cell? ⟨w.heap.size, 0, none⟩ = some (.pointer none) := by
    rw [World.cell?_alloc_at _ _ _ _ rfl]; rfl
  have hf : (w.alloc (.cells #[.pointer none] 57)).frozen? ⟨w.heap.size, 0, none⟩ = false := World.frozen?_alloc_at _ _ _ _ rfl
  have hg1 : (w.alloc (.cells #[.pointer none] 57)).cell? ⟨0, 0, none⟩ = _ := (World.cell?_alloc_lt _ _ ⟨0, 0, none⟩ (hlt hg)).trans hg
  refine (rl.as_hit ⟨b, off, none⟩ ⟨w.heap.size, 0, none⟩ _ (w.alloc (.cells #[.pointer none] 57)) hg1 ht hf).mono fun ev w' ⟨he, hw⟩ => ⟨he, ?_⟩
  have hm := rl.below_made ⟨b, off, none⟩ ⟨w.heap.size, 0, none⟩ (w.alloc (.cells #[.pointer none] 57))
  have hcell : ∀ {x : Addr} {v : Value}, (w.alloc (.cells #[.pointer none] 57)).cell? x = some v → (rl.made ⟨b, off, none⟩ ⟨w.heap.size, 0, none⟩ (w.alloc (.cells #[.pointer none] 57))).cell? x = some v := fun h => Up.cell (w := w.alloc (.cells #[.pointer none] 57)) hm h
  have hb := hlt h0
  have old : ∀ {x : Addr} {v : Value}, w.cell? x = some v → w'.cell? x = some v := by
    intro x v h
    have hx := hlt h
    rw [hw, World.cell?_setCell_other _ _ _ _ (fun e => by rw [← e] at hx; exact Nat.lt_irrefl _ hx)]
    exact hcell ((World.cell?_alloc_lt _ _ x hx).trans h)
  refine ⟨?_, old h0, old h1, ?_⟩
  · rw [hw]; exact World.cell?_setCell_same _ _ _ (hcell ht)
  · have h2 : RowKit.Below w.heap.size w (rl.made ⟨b, off, none⟩ ⟨w.heap.size, 0, none⟩ (w.alloc (.cells #[.pointer none] 57))) := hbw.trans (hm.mono hbw.size)
    rw [hw]
    refine ⟨h2.os, h2.tape, h2.output, ?_, fun k hk => ?_⟩
    · have := h2.size
      simpa [World.setCell] using this
    · rw [← h2.block k hk]
      simp only [World.setCell, Array.getElem?_modify]
      rw [if_neg (fun e => by omega)]
set_option maxHeartbeats 4000000 in
theorem wrong_nil (w : World) : Calls Tryz.prog 22 #[.nilIface] w fun e w' => e = .returned (.tuple #[.int .i64 0, .int .i64 0]) ∧ w' = w := by
  go_enter Tryz.func22, Tryz.ntmps22
  go_wp2
  go_ret2
  exact ⟨rfl, rfl⟩
set_option maxHeartbeats 4000000 in
theorem wrong_err (b off : Nat) (w : World) (c a : Int) (hg : w.cell? ⟨0, 0, none⟩ = some (.iface 148 (.agg #[.pointer (some ⟨4, 32, none⟩)])))
    (h0 : w.cell? ⟨b, off, none⟩ = some (.int .i64 c)) (h1 : w.cell? ⟨b, off + 1, none⟩ = some (.int .i64 a)) :
    Calls Tryz.prog 22 #[.iface 57 (.pointer (some ⟨b, off, none⟩))] w fun e w' => e = .returned (.tuple #[.int .i64 c, .int .i64 a]) ∧ RowKit.Below w.heap.size w w' := by
  have mixed : Tryz.prog.follows .mixedOrders = true := by kernel_rfl
  have hA := as_err b off w c a hg h0 h1
  go_enter Tryz.func22, Tryz.ntmps22
  go_wp2_with (go_at_call 50; refine hA.mono ?_; rintro e w' ⟨rfl, c1, c2, c3, hbl⟩)
  go_region_o
  all_goals (go_wp2; go_ret2; exact ⟨rfl, hbl.os, hbl.tape, hbl.output, hbl.size, hbl.block⟩)
end Go.Proofs.YtngjamedgphjiaaGreatDoor
