/- No conditions. -/
import Derived.Test.YtidjangjfekfjaaGreatDoorDC
import Derived.Test.YtidjangjfekfjaaGreatDoorProg
import Derived.Lib.Builder
import Derived.Lib.Walk
import Derived.WalkKit
import Derived.Laws.Externs
import Derived.Shelf.RegionOpenPlain
import Derived.Lib.UnsafeStr
namespace Go.Proofs.YtidjangjfekfjaaGreatDoor
open Go Go.Proofs Go.RowKit
set_option maxHeartbeats 1000000 in
set_option maxRecDepth 100000 in
theorem aQU (b:Nat) (w:World) (h0:w.cell? ⟨b,0,none⟩=some (.pointer (some ⟨b,0,none⟩))) :
 Calls Tryz.prog 59 #[.pointer (some ⟨b,0,none⟩)] w fun e w'=>e = .returned (.tuple #[])∧w'=w:=by
 obtain ⟨j,hj,hjs⟩:=Option.map_eq_some_iff.1 (show (Tryz.prog.info? 75).map (·.size)=some 2 by kernel_rfl)
 go_enter Tryz.func59,Tryz.ntmps59
 go_wp2
 rw[Lib.run_neq_ptr_same (tp:=72) (te:=75) w _ (by kernel_rfl) hj]
 go_wp2
 go_end0
 exact ⟨rfl,rfl⟩
set_option maxHeartbeats 1000000 in
set_option maxRecDepth 100000 in
theorem aOx (b T m:Nat) (w:World) (h0:w.cell? ⟨b,0,none⟩=some (.pointer none)) (hsh:w.shape? b=some (T,m)) (hm:0<m) (hfz:w.frozen? ⟨b,0,none⟩=false)
 (hl:liesAt Tryz.prog Tryz.prog.depth T (m / Tryz.prog.cellsOf T) 0 75 1=true) :
 Calls Tryz.prog 59 #[.pointer (some ⟨b,0,none⟩)] w fun e w'=>e = .returned (.tuple #[])∧w'=w.setCell ⟨b,0,none⟩ (.pointer (some ⟨b,0,none⟩)):=by
 obtain ⟨j,hj,hjs⟩:=Option.map_eq_some_iff.1 (show (Tryz.prog.info? 75).map (·.size)=some 2 by kernel_rfl)
 go_enter Tryz.func59,Tryz.ntmps59
 go_wp2
 rw[Lib.run_to_unsafe w ⟨b,0,none⟩ (src:=72) (dst:=126) (t:=75) (by kernel_rfl) (by kernel_rfl) hj (by rw[hjs];decide) hsh hm]
 simp only[Result.andThen]
 rw[Oper.upon_value]
 go_wp2
 rw[run_callFunc_extern (f:=87) (fn:=Tryz.f87) (by kernel_rfl) (by kernel_rfl) (by kernel_rfl) (by kernel_rfl) (e:=Extern.AbiNoEscape.same) (by kernel_rfl)]
 rw[Lib.run_noEscape]
 simp only[Result.andThen]
 rw[Oper.upon_value]
 go_wp2
 rw[Lib.run_from_unsafe w ⟨b,0,none⟩ (src:=126) (dst:=72) (u:=75) (by kernel_rfl) (by kernel_rfl) hj hsh hl]
 simp only[Result.andThen]
 rw[Oper.upon_value]
 go_wp2
 go_end0
 exact ⟨rfl,rfl⟩
end Go.Proofs.YtidjangjfekfjaaGreatDoor

namespace Go.Proofs.YtidjangjfekfjaaGreatDoor
open Go Go.Proofs Go.RowKit Go.Shelf
structure But (g:Nat) (w w':World):Prop where
 os:w'.os=w.os
 tape:w'.tape=w.tape
 output:w'.output=w.output
 size:w.heap.size≤w'.heap.size
 block:∀ c,c<w.heap.size→c≠g→w'.heap[c]? = w.heap[c]?
theorem But.freeze (w:World) (g n:Nat):But g w (w.drew.freeze ⟨g,0,none⟩ n):=by
 unfold World.freeze
 split
 ·exact ⟨rfl,rfl,rfl,aR _,fun _ _ _=>rfl⟩
 ·exact ⟨rfl,rfl,rfl,by simp,fun k hk hne=>by
   simp only[Array.getElem?_modify]
   rw[aG (fun e=>hne e.symm)];rfl⟩
theorem But.drew (w:World) (g:Nat):But g w w.drew:=⟨rfl,rfl,rfl,aR _,fun _ _ _=>rfl⟩
theorem But.alloc (w:World) (g:Nat) (o:Obj):But g w (w.drew.alloc o):=⟨rfl,rfl,rfl,by simp,fun c hc _=>Lib.alloc_old w.drew o c hc⟩
section
variable (b g cap T:Nat) (cs cur:Array Value) (w:World)
set_option maxHeartbeats 2000000 in
set_option maxRecDepth 100000 in
theorem aOz (l:List UInt8) (hbk:w.heap[b]? = some (.cells cs T (0,0))) (hc1:cs[1]? = some (.slice (some ⟨g,0,none⟩) l.length cap)) (hg:w.heap[g]? = some (.cells cur 5 (0,0)))
 (hnc:l.length≤cap) (hcm:cap≤maxLen) (hcs:cur.size=cap) (hcell:∀ (j:Nat) (x:UInt8),l[j]? = some x→cur[j]? = some (Value.int .u8 x.toNat)) (h0:l≠[]) :
 Calls Tryz.prog 28 #[.pointer (some ⟨b,0,none⟩)] w fun e w'=>e = .returned (.string ⟨l.toArray⟩)∧But g w w':=by
 have hl0:l.length≠0:=by simpa using h0
 have c1:w.drew.cell? ⟨b,1,none⟩=some (.slice (some ⟨g,0,none⟩) l.length cap):=by
  have:w.drew.heap[b]? = some (.cells cs T (0,0)):=hbk
  rw[Lib.cell_of_heap this];exact hc1
 have hSD:(Builtin.unsafeSliceData_ #[73] 104 #[.slice (some ⟨g,0,none⟩) l.length cap]).run Tryz.prog w.drew = .ok (.pointer (some ⟨g,0,none⟩)) w.drew :=
  Lib.run_unsafeSliceData_row _ _ _ _ _ _ (by omega)
 have hUS:(Builtin.unsafeString_ #[104,3] 9 #[.pointer (some ⟨g,0,none⟩),.int .i64 l.length]).run Tryz.prog w.drew = .ok (.string ⟨l.toArray⟩) (w.drew.freeze ⟨g,0,none⟩ l.length):=by
  refine Lib.run_unsafeString_row w.drew 104 3 9 5 (by kernel_rfl) (by kernel_rfl) g cur.size (by have hg':w.drew.heap[g]? = some (.cells cur 5 (0,0)):=hg;simp [World.shape?,hg']) l h0 (by omega) (by unfold maxLen at hcm;omega) ?_
  intro j x hx
  have hg':w.drew.heap[g]? = some (.cells cur 5 (0,0)):=hg
  have e:(⟨g,0,none⟩:Addr).add j=⟨g,j,none⟩:=by unfold Addr.add;split <;> simp_all
  rw[e,Lib.cell_of_heap hg']
  exact hcell j x hx
 clear hcell hg
 have mixed:Tryz.prog.follows .mixedOrders=true:=by kernel_rfl
 go_enter Tryz.func28,Tryz.ntmps28
 go_wp2
 go_region_o
 all_goals (go_wp2;go_ret;exact ⟨rfl,But.freeze w g _⟩)
set_option maxHeartbeats 2000000 in
set_option maxRecDepth 100000 in
theorem aQV (hbk:w.heap[b]? = some (.cells cs T (0,0))) (hc1:cs[1]? = some (.slice none 0 0)) :
 Calls Tryz.prog 28 #[.pointer (some ⟨b,0,none⟩)] w fun e w'=>e = .returned (.string ⟨#[]⟩)∧But g w w':=by
 have hUS:=fun W q=>Lib.run_unsafeString_none (P:=Tryz.prog) (w:=W) 104 3 9 q
 have c1:w.drew.cell? ⟨b,1,none⟩=some (.slice none 0 0):=by
  have:w.drew.heap[b]? = some (.cells cs T (0,0)):=hbk
  rw[Lib.cell_of_heap this];exact hc1
 have hSD:(Builtin.unsafeSliceData_ #[73] 104 #[.slice none 0 0]).run Tryz.prog w.drew = .ok (.pointer none) w.drew:=rfl
 have mixed:Tryz.prog.follows .mixedOrders=true:=by kernel_rfl
 go_enter Tryz.func28,Tryz.ntmps28
 go_wp2
 go_region_o
 all_goals (go_wp2;go_ret;exact ⟨rfl,But.drew w g⟩)
set_option maxHeartbeats 2000000 in
set_option maxRecDepth 100000 in
theorem aJz (hlt:b<w.heap.size) (hbk:w.heap[b]? = some (.cells cs T (0,0))) (hc1:cs[1]? = some (.slice (some ⟨g,0,none⟩) 0 0)) (hg:w.heap[g]? = some (.cells cur 5 (0,0))) :
 Calls Tryz.prog 28 #[.pointer (some ⟨b,0,none⟩)] w fun e w'=>e = .returned (.string ⟨#[]⟩)∧But g w w':=by
 have hUS:=fun W q=>Lib.run_unsafeString_none (P:=Tryz.prog) (w:=W) 104 3 9 q
 have c1:w.drew.cell? ⟨b,1,none⟩=some (.slice (some ⟨g,0,none⟩) 0 0):=by
  have:w.drew.heap[b]? = some (.cells cs T (0,0)):=hbk
  rw[Lib.cell_of_heap this];exact hc1
 have hSD:(Builtin.unsafeSliceData_ #[73] 104 #[.slice (some ⟨g,0,none⟩) 0 0]).run Tryz.prog w.drew = .ok (.pointer (some ⟨w.drew.heap.size,0,none⟩)) (w.drew.alloc (.view ⟨g,0,none⟩ 5)) :=
  Lib.run_unsafeSliceData_zero w.drew _ _ 5 (by kernel_rfl) ⟨g,0,none⟩ 0 (5,cur.size) (by have hg':w.drew.heap[g]? = some (.cells cur 5 (0,0)):=hg;simp [World.shape?,hg'])
 have c2:(w.drew.alloc (.view ⟨g,0,none⟩ 5)).cell? ⟨b,1,none⟩=some (.slice (some ⟨g,0,none⟩) 0 0):=by
  have:(w.drew.alloc (.view ⟨g,0,none⟩ 5)).heap[b]? = _:=(Lib.alloc_old w.drew _ b hlt).trans hbk
  rw[Lib.cell_of_heap this];exact hc1
 have c3:(w.alloc (.view ⟨g,0,none⟩ 5)).drew.cell? ⟨b,1,none⟩=some (.slice (some ⟨g,0,none⟩) 0 0):=c2
 have c0:w.cell? ⟨b,1,none⟩=some (.slice (some ⟨g,0,none⟩) 0 0):=c1
 have mixed:Tryz.prog.follows .mixedOrders=true:=by kernel_rfl
 go_enter Tryz.func28,Tryz.ntmps28
 go_wp2
 go_region_o
 all_goals (go_wp2;go_ret;exact ⟨rfl,But.alloc w g _⟩)
set_option maxHeartbeats 2000000 in
set_option maxRecDepth 100000 in
theorem aOy (hc0:cap≠0) (hbk:w.heap[b]? = some (.cells cs T (0,0))) (hc1:cs[1]? = some (.slice (some ⟨g,0,none⟩) 0 cap)) :
 Calls Tryz.prog 28 #[.pointer (some ⟨b,0,none⟩)] w fun e w'=>e = .returned (.string ⟨#[]⟩)∧But g w w':=by
 have hUS:=fun W q=>Lib.run_unsafeString_none (P:=Tryz.prog) (w:=W) 104 3 9 q
 have c1:w.drew.cell? ⟨b,1,none⟩=some (.slice (some ⟨g,0,none⟩) 0 cap):=by
  have:w.drew.heap[b]? = some (.cells cs T (0,0)):=hbk
  rw[Lib.cell_of_heap this];exact hc1
 have hSD:(Builtin.unsafeSliceData_ #[73] 104 #[.slice (some ⟨g,0,none⟩) 0 cap]).run Tryz.prog w.drew = .ok (.pointer (some ⟨g,0,none⟩)) w.drew :=
  Lib.run_unsafeSliceData_row _ _ _ _ _ _ hc0
 clear hc0
 have mixed:Tryz.prog.follows .mixedOrders=true:=by kernel_rfl
 go_enter Tryz.func28,Tryz.ntmps28
 go_wp2
 go_region_o
 all_goals (go_wp2;go_ret;exact ⟨rfl,But.drew w g⟩)
end
end Go.Proofs.YtidjangjfekfjaaGreatDoor
