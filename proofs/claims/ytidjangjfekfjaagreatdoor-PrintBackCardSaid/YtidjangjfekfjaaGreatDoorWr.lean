/- No conditions. -/
import Derived.Test.YtidjangjfekfjaaGreatDoorR1
import Derived.Test.YtidjangjfekfjaaGreatDoorLCd
import Derived.Shelf.RegionOpenPlain
set_option linter.unusedVariables false
set_option linter.unusedSimpArgs false
set_option linter.unusedSectionVars false
namespace Go.Proofs.YtidjangjfekfjaaGreatDoor
open Go Go.Proofs Go.RowKit Go.Dl Go.Shelf
set_option maxRecDepth 100000
theorem aUb (b off:Nat) (w:World) (c a:Int) (hg:w.cell? ⟨0,0,none⟩=some (.iface 155 (.agg #[.pointer (some ⟨10,27,none⟩)])))
 (h0:w.cell? ⟨b,off,none⟩=some (.int .i64 c)) (h1:w.cell? ⟨b,off+1,none⟩=some (.int .i64 a)) :
 Calls Tryz.prog 49 #[.iface 96 (.pointer (some ⟨b,off,none⟩)),.iface 98 (.pointer (some ⟨w.heap.size,0,none⟩))] (w.alloc (.cells #[.pointer none] 96)) fun ev w'=>ev = .returned (.bool true) ∧
  w'.cell? ⟨w.heap.size,0,none⟩=some (.pointer (some ⟨b,off,none⟩))∧w'.cell? ⟨b,off,none⟩=some (.int .i64 c)∧w'.cell? ⟨b,off+1,none⟩=some (.int .i64 a)∧RowKit.Below w.heap.size w w':=by
 have hlt:∀ {x:Addr} {v:Value},w.cell? x=some v→x.block<w.heap.size:=by
  intro x v h
  rcases bI x.block w.heap.size with hl | hl
  ·exact hl
  ·simp [World.cell?,Array.getElem?_eq_none hl] at h
 have hbw:RowKit.Below w.heap.size w (w.alloc (.cells #[.pointer none] 96)):=iX _ _
 have ht:(w.alloc (.cells #[.pointer none] 96)).cell? ⟨w.heap.size,0,none⟩=some (.pointer none):=by
  rw[World.cell?_alloc_at _ _ _ _ rfl];rfl
 have hf:(w.alloc (.cells #[.pointer none] 96)).frozen? ⟨w.heap.size,0,none⟩=false:=World.frozen?_alloc_at _ _ _ _ rfl
 have hg1:(w.alloc (.cells #[.pointer none] 96)).cell? ⟨0,0,none⟩=_:=(World.cell?_alloc_lt _ _ ⟨0,0,none⟩ (hlt hg)).trans hg
 refine (rl.aUs ⟨b,off,none⟩ ⟨w.heap.size,0,none⟩ _ (w.alloc (.cells #[.pointer none] 96)) hg1 ht hf).mono fun ev w' ⟨he,hw⟩=>⟨he,?_⟩
 have hm:=rl.aJL ⟨b,off,none⟩ ⟨w.heap.size,0,none⟩ (w.alloc (.cells #[.pointer none] 96))
 have hcell:∀ {x:Addr} {v:Value},(w.alloc (.cells #[.pointer none] 96)).cell? x=some v→(rl.made ⟨b,off,none⟩ ⟨w.heap.size,0,none⟩ (w.alloc (.cells #[.pointer none] 96))).cell? x=some v:=fun h=>Up.cell (w:=w.alloc (.cells #[.pointer none] 96)) hm h
 have hb:=hlt h0
 have old:∀ {x:Addr} {v:Value},w.cell? x=some v→w'.cell? x=some v:=by
  intro x v h
  have hx:=hlt h
  rw[hw,World.cell?_setCell_other _ _ _ _ (fun e=>by rw[← e] at hx;exact Nat.lt_irrefl _ hx)]
  exact hcell ((World.cell?_alloc_lt _ _ x hx).trans h)
 refine ⟨?_,old h0,old h1,?_⟩
 ·rw[hw];exact World.cell?_setCell_same _ _ _ (hcell ht)
 ·have h2:RowKit.Below w.heap.size w (rl.made ⟨b,off,none⟩ ⟨w.heap.size,0,none⟩ (w.alloc (.cells #[.pointer none] 96))):=hbw.trans (hm.mono hbw.size)
  rw[hw]
  refine ⟨h2.os,h2.tape,h2.output,?_,fun k hk=>?_⟩
  ·have:=h2.size
   simpa [World.setCell] using this
  ·rw[← h2.block k hk]
   simp only[World.setCell,Array.getElem?_modify]
   rw[aG (fun e=>by omega)]
end Go.Proofs.YtidjangjfekfjaaGreatDoor
