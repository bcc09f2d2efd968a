/- Plain functions, and that the Go functions do what these do: printed by gen2.py. No conditions. -/
import Derived.Test.YtphnfaabcnciiaaGreatDoorLa
import Derived.Test.YtphnfaabcnciiaaGreatDoorLCw
import Derived.Test.YtphnfaabcnciiaaGreatDoorGd
import Derived.Test.YtphnfaabcnciiaaGreatDoorProg
set_option linter.unusedVariables false
set_option linter.unusedSimpArgs false
set_option linter.unusedSectionVars false
namespace Go.Proofs.YtphnfaabcnciiaaGreatDoor
open Go Go.Proofs Go.Dl
set_option maxRecDepth 100000
set_option maxHeartbeats 4000000
def F18 (K : Nat) (a0 : Bytes) : Option ((S65) ⊕ (S65)) :=
 ((fnS (F12 K a0)).bind (fun r1 => ((fnS (F36 K r1.2)).bind (fun r2 => (some (.inl ((⟨r1.1, 0, (Int.ofNat a0.length), r2⟩ : S65))))))))
theorem F18_ok (K : Nat) (a0 : Bytes) : DFun Tryz.prog 18 [.c (.str a0)] [] (fnS (F18 K a0)) (fun r => .c (.ptr 0 0 0)) (fun r => [E65.o r]) := by
 refine DFun.it Tryz.f18 (fun r => ⟨[sP 2 0 0 0], [E65.o r], [], 0⟩) ?_
 unfold F18
 refine Ref.sq ?_
 refine Ref.rn 0 ?_
 refine RefR.e0 (st' := ⟨[sS 0 a0], [], [], 0⟩) 0 1 1 [0] [] ?_
 refine RefR.nl 1 ?_
 refine Ref.sq ?_
 refine Ref.rn 1 ?_
 refine RefR.e1 0 1 1 [0, 7] [] ?_
 refine RefR.cc 8 1 2 [] (F12_ok K a0) (fun r1 => ?_)
 refine RefR.e0 (st' := ⟨[sS 0 a0, (3, .c (E41.tree r1.1)), (4, .c (errC r1.2))], [], [], 0⟩) 2 5 7 [0, 3, 4] [] ?_
 refine RefR.nl 7 ?_
 refine Ref.sq ?_
 refine Ref.rn 2 ?_
 refine RefR.e0 (st' := ⟨[(4, .c (errC r1.2)), sP 5 0 0 0], [.cells [E41.tree r1.1, iC 0, iC (Int.ofNat a0.length), .val .nilIface]], [], 0⟩) 0 6 6 [4, 5] [0] ?_
 refine RefR.nl 6 ?_
 refine Ref.sq ?_
 refine Ref.rn 3 ?_
 refine RefR.e1 0 2 2 [5, 16, 17] [0] ?_
 refine RefR.cc 18 2 3 [] (F36_ok K r1.2) (fun r2 => ?_)
 refine RefR.e0 (st' := ⟨[sP 5 0 0 0], [.cells [E41.tree r1.1, iC 0, iC (Int.ofNat a0.length), errC r2]], [], 0⟩) 3 3 6 [5] [0] ?_
 refine RefR.nl 6 ?_
 refine Ref.sq ?_
 refine Ref.rn 4 ?_
 refine RefR.e0 (st' := ⟨[sP 2 0 0 0], [.cells [E41.tree r1.1, iC 0, iC (Int.ofNat a0.length), errC r2]], [], 0⟩) 0 2 2 [2] [0] ?_
 refine RefR.nl 2 ?_
 exact Ref.rt (t := ((⟨r1.1, 0, (Int.ofNat a0.length), r2⟩ : S65)))
def F13 (K : Nat) (a0 : Bytes) : Option ((S44 × (List Int) × Err) ⊕ (S44 × (List Int) × Err)) :=
 ((fnS (F18 K a0)).bind (fun r1 => (bindS (blockS ((iter K (fun (u75 : S65 × (List S60) × (List Int)) => ((condM true (fnS (F21 K u75.1)) default).bind (fun r94 => (letV (r94 && (decide ((u75.1.fi : Int) < (Int.ofNat u75.1.ftokens.length)))) (fun (x95 : Bool) => (if x95 = true then (bindS (blockS ((condM true (fnS (F29 K u75.1 ([[73, 78, 84, 69, 82, 70, 65, 67, 69], [67, 76, 65, 83, 83], [80, 82, 79, 71, 82, 65, 77], [84, 65, 83, 75]] : List Bytes))) default).bind (fun r104 => (bindS (if r104 = true then ((fnS (F30 K u75.1 (Int.ofNat u75.2.1.length) 12)).bind (fun r107 => (some (.inr (r107))))) else (some (.inr (u75.1)))) (fun (u106 : S65) => ((condM true (fnS (F31 K u106)) default).bind (fun r108 => (chk [room ((u75.2.2.length + ([r108.fAt].length)) * 8)] ((fnS (F32 K u106)).bind (fun r109 => (chk [room ((u75.2.1.length + ([r109.1].length)) * 160)] (some (.inr (r109.2, (u75.2.1 ++ [r109.1]), (u75.2.2 ++ [r108.fAt]))))))))))))))) (fun (u103 : S65 × (List S60) × (List Int)) => (some (.inr (u103.1, u103.2.1, u103.2.2))))) else (some (.inl (Sum.inl (u75.1, u75.2.1, u75.2.2)))))))))) (r1, [], [])).map .inl)) (fun (u56 : S65 × (List S60) × (List Int)) => ((condM true (fnS (F21 K u56.1)) default).bind (fun r111 => (if (!r111) = true then (some (.inl ((⟨[]⟩ : S44), [], u56.1.ferr))) else (some (.inl ((⟨u56.2.1⟩ : S44), u56.2.2, ([] : Err)))))))))))
theorem F13_ok (K : Nat) (a0 : Bytes) : DFun Tryz.prog 13 [.c (.str a0)] [] (fnS (F13 K a0)) (fun r => .tup [.agg (E44.cs r.1), .c (E3.tree r.2.1), .c (errC r.2.2)]) (fun r => [.cells (E44.cs r.1)]) := by
 refine DFun.it Tryz.f13 (fun r => ⟨[sP 2 0 0 0, (3, .c (E3.tree r.2.1)), (4, .c (errC r.2.2))], [.cells (E44.cs r.1)], [], 0⟩) ?_
 unfold F13
 refine Ref.sq ?_
 refine Ref.rn 0 ?_
 refine RefR.e0 (st' := ⟨[sS 0 a0, sP 2 0 0 0], [.cells [.nil]], [], 0⟩) 0 3 3 [0, 2] [0] ?_
 refine RefR.nl 3 ?_
 refine Ref.sq ?_
 refine Ref.rn 1 ?_
 refine RefR.e1 0 1 1 [2, 8] [0] ?_
 refine RefR.cc 9 1 2 [] (F18_ok K a0) (fun r1 => ?_)
 refine RefR.e0 (st' := ⟨[sP 2 0 0 0, sP 5 1 0 0], [.cells [.nil], E65.o r1], [], 0⟩) 2 1 3 [2, 5] [0, 1] ?_
 refine RefR.nl 3 ?_
 refine Ref.sq ?_
 refine Ref.rn 2 ?_
 refine RefR.e0 (st' := ⟨[sP 2 0 0 0, sP 5 1 0 0, sP 6 2 0 0], [.cells [.nil], E65.o r1, .cells [.nil]], [], 0⟩) 0 1 1 [2, 5, 6] [0, 1, 2] ?_
 refine RefR.nl 1 ?_
 refine Ref.sq ?_
 refine Ref.rn 3 ?_
 refine RefR.e0 (st' := ⟨[sP 2 0 0 0, sP 5 1 0 0, sP 6 2 0 0, (7, .c (.nil))], [.cells [.nil], E65.o r1, .cells [.nil]], [], 0⟩) 0 1 1 [2, 5, 6, 7] [0, 1, 2] ?_
 refine RefR.nl 1 ?_
 refine Ref.sq ?_
 refine Ref.ce (.block 0 (cd (bd Tryz.f13) [1, 1, 1, 1, 0, 0])) ?_
 refine Ref.block (go1 := fun u56 => ⟨[sP 2 0 0 0, sP 5 1 0 0, sP 6 2 0 0, (7, .c (.own 4 u56.2.2.length))], [.cells [.nil], E65.o u56.1, .cells [.own 3 u56.2.1.length], E60.row u56.2.1, E3.row u56.2.2], [], 0⟩) ?_ (fun _ h => by cases h) (fun u56 => ?_)
 ·
  refine Ref.ce (.loop (cd (bd Tryz.f13) [1, 1, 1, 1, 0, 0, 0])) ?_
  refine Ref.conv (Conv.adopt 7 E3.ty E3.w (E3.at []) (by kernel_rfl) (by kernel_rfl) (by kernel_rfl)) ?_
  refine Ref.conv (Conv.adoptCell (st' := ⟨[(7, .c (.own 3 0)), sP 2 0 0 0, sP 5 1 0 0, sP 6 2 0 0], [.cells [.nil], E65.o r1, .cells [.own 4 0], E3.row [], E60.row []], [], 0⟩) 2 0 E60.ty E60.w (E60.at []) (by kernel_rfl)) ?_
  refine Ref.ck ⟨[sP 2 0 0 0, sP 5 1 0 0, sP 6 2 0 0, (7, .c (.own 4 0))], [.cells [.nil], E65.o r1, .cells [.own 3 0], E60.row [], E3.row []], [], 0⟩ [2, 5, 6, 7] [0, 1, 2, 4, 3] ?_
  refine Ref.loop (hd := fun u75 => ⟨[sP 2 0 0 0, sP 5 1 0 0, sP 6 2 0 0, (7, .c (.own 4 u75.2.2.length))], [.cells [.nil], E65.o u75.1, .cells [.own 3 u75.2.1.length], E60.row u75.2.1, E3.row u75.2.2], [], 0⟩) K (r1, [], []) (by kernel_rfl) (fun u75 => ?_)
  refine Ref.sq ?_
  refine Ref.sq ?_
  refine Ref.drawnY 4 (by kernel_rfl) (by kernel_rfl) ?_
  refine RefY.evC0 (st' := ⟨[sP 2 0 0 0, sP 5 1 0 0, sP 6 2 0 0, (7, .c (.own 4 u75.2.2.length)), sP 10 1 0 0], [.cells [.nil], E65.o u75.1, .cells [.own 3 u75.2.1.length], E60.row u75.2.1, E3.row u75.2.2], [], 0⟩) (fuel' := 13) [0] [2, 5, 6, 7, 10] [0, 1, 2, 3, 4] rfl (by kernel_rfl) (by kernel_rfl) ?_
  refine RefY.toX [] ?_
  refine RefX.lookC (t := 11) (g := []) (b := true) (fuel' := 12) 1 [1] (default : Bool) rfl (by kernel_rfl) (by kernel_rfl) (F21_ok K u75.1) (fun _ => rfl) (fun r94 => ?_)
  refine RefX.evC0 (st' := ⟨[sP 2 0 0 0, sP 5 1 0 0, sP 6 2 0 0, (7, .c (.own 4 u75.2.2.length)), sB 23 (r94 && (decide ((u75.1.fi : Int) < (Int.ofNat u75.1.ftokens.length))))], [.cells [.nil], E65.o u75.1, .cells [.own 3 u75.2.1.length], E60.row u75.2.1, E3.row u75.2.2], [], 0⟩) (fuel' := 0) [2, 3, 4, 5, 6, 7, 8, 9, 10, 11, 12, 13] [2, 5, 6, 7, 23] [0, 1, 2, 3, 4] rfl (by kernel_rfl) (by kernel_rfl) ?_
  refine RefX.letC (stf := fun x95 => ⟨[sP 2 0 0 0, sP 5 1 0 0, sP 6 2 0 0, (7, .c (.own 4 u75.2.2.length)), sB 23 x95], [.cells [.nil], E65.o u75.1, .cells [.own 3 u75.2.1.length], E60.row u75.2.1, E3.row u75.2.2], [], 0⟩) (by kernel_rfl) (fun x95 => ?_)
  refine RefX.done (by kernel_rfl) ?_
  refine Ref.cn (.tmp 23) x95 (fun hc => ?_) (fun hc => ?_)
  ·
   refine Ref.sk ?_
   refine Ref.ce (.block 1 (cd (bd Tryz.f13) [1, 1, 1, 1, 0, 0, 0, 1, 0])) ?_
   refine Ref.block (go1 := fun u103 => ⟨[sP 2 0 0 0, sP 5 1 0 0, sP 6 2 0 0, (7, .c (.own 4 u103.2.2.length))], [.cells [.nil], E65.o u103.1, .cells [.own 3 u103.2.1.length], E60.row u103.2.1, E3.row u103.2.2], [], 0⟩) ?_ (fun a => match a with | .inl _ => (fun h => by cases h) | .inr _ => (fun h => by cases h)) (fun u103 => ?_)
   ·
    refine Ref.sq ?_
    refine Ref.sq ?_
    refine Ref.rn 5 ?_
    refine RefR.e0 (st' := ⟨[sP 2 0 0 0, sP 5 1 0 0, sP 6 2 0 0, (7, .c (.own 4 u75.2.2.length)), sP 24 1 0 0], [.cells [.nil], E65.o u75.1, .cells [.own 3 u75.2.1.length], E60.row u75.2.1, E3.row u75.2.2], [], 0⟩) 0 1 1 [2, 5, 6, 7, 24] [0, 1, 2, 3, 4] ?_
    refine RefR.li 25 [] E9 ([[73, 78, 84, 69, 82, 70, 65, 67, 69], [67, 76, 65, 83, 83], [80, 82, 79, 71, 82, 65, 77], [84, 65, 83, 75]] : List Bytes) 1 2 ?_
    refine RefR.lookC (t := 26) (g := []) (b := true) 2 3 [1] (default : Bool) rfl (by kernel_rfl) (F29_ok K u75.1 ([[73, 78, 84, 69, 82, 70, 65, 67, 69], [67, 76, 65, 83, 83], [80, 82, 79, 71, 82, 65, 77], [84, 65, 83, 75]] : List Bytes)) (fun _ => rfl) (fun r104 => ?_)
    refine RefR.nl 3 ?_
    refine Ref.bind (go1 := fun u106 => ⟨[sP 2 0 0 0, sP 5 1 0 0, sP 6 2 0 0, (7, .c (.own 4 u75.2.2.length))], [.cells [.nil], E65.o u106, .cells [.own 3 u75.2.1.length], E60.row u75.2.1, E3.row u75.2.2], [], 0⟩) ?_ (fun u106 => ?_)
    ·
     refine Ref.cn (.tmp 26) r104 (fun hc => ?_) (fun hc => ?_)
     ·
      refine Ref.rn 6 ?_
      refine RefR.e1 0 4 4 [2, 5, 6, 7, 27, 30] [0, 1, 2, 3, 4] ?_
      refine RefR.cc 31 4 5 [1] (F30_ok K u75.1 (Int.ofNat u75.2.1.length) 12) (fun r107 => ?_)
      refine RefR.nl 5 ?_
      refine Ref.ck ⟨[sP 2 0 0 0, sP 5 1 0 0, sP 6 2 0 0, (7, .c (.own 4 u75.2.2.length))], [.cells [.nil], E65.o r107, .cells [.own 3 u75.2.1.length], E60.row u75.2.1, E3.row u75.2.2], [], 0⟩ [2, 5, 6, 7] [0, 1, 2, 3, 4] ?_
      exact Ref.n0 (t := (r107))
     ·
      refine Ref.sk ?_
      refine Ref.ck ⟨[sP 2 0 0 0, sP 5 1 0 0, sP 6 2 0 0, (7, .c (.own 4 u75.2.2.length))], [.cells [.nil], E65.o u75.1, .cells [.own 3 u75.2.1.length], E60.row u75.2.1, E3.row u75.2.2], [], 0⟩ [2, 5, 6, 7] [0, 1, 2, 3, 4] ?_
      exact Ref.n0 (t := (u75.1))
    ·
     refine Ref.sq ?_
     refine Ref.rn 7 ?_
     refine RefR.e1 0 2 2 [2, 5, 6, 32, 33] [0, 1, 2, 3, 4] ?_
     refine RefR.lookC (t := 34) (g := []) (b := true) 2 3 [1] (default : S41) rfl (by kernel_rfl) (DFun.forget (F31_ok K u106) (fun _ => rfl)) (fun _ => rfl) (fun r108 => ?_)
     refine RefR.e0 (st' := ⟨[sP 2 0 0 0, sP 5 1 0 0, sP 6 2 0 0, (32, .c (.own 4 u75.2.2.length)), sI 35 r108.fAt], [.cells [.nil], E65.o u106, .cells [.own 3 u75.2.1.length], E60.row u75.2.1, E3.row u75.2.2], [], 0⟩) 3 1 4 [2, 5, 6, 32, 35] [0, 1, 2, 3, 4] ?_
     refine RefR.e0 (st' := ⟨[sP 2 0 0 0, sP 5 1 0 0, sP 6 2 0 0, (32, .c (.own 4 u75.2.2.length)), (36, .c (.own 5 1))], [.cells [.nil], E65.o u106, .cells [.own 3 u75.2.1.length], E60.row u75.2.1, E3.row u75.2.2, .row 3 1 1 (tbl [[iC r108.fAt]])], [], 0⟩) 4 1 5 [2, 5, 6, 32, 36] [0, 1, 2, 3, 4, 5] ?_
     refine RefR.conv (Conv.ob 5 (E3.row [r108.fAt]) (El.row_build E3 [r108.fAt] rfl (by kernel_rfl))) ?_
     refine RefR.conv (Conv.sl 36 (.c (.own 5 ([r108.fAt].length))) (DLe.c (CLe.own (by simp <;> omega)))) ?_
     refine RefR.evC (vs := [room ((u75.2.2.length + ([r108.fAt].length)) * 8)]) (st' := ⟨[sP 2 0 0 0, sP 5 1 0 0, sP 6 2 0 0, (37, .c (.own 4 (u75.2.2.length + ([r108.fAt].length))))], [.cells [.nil], E65.o u106, .cells [.own 3 u75.2.1.length], E60.row u75.2.1, .row 3 1 (u75.2.2.length + ([r108.fAt].length)) fun i j => bif Nat.blt i u75.2.2.length then E3.at u75.2.2 i j else (E3.at [r108.fAt]) (i - u75.2.2.length) j], [], 0⟩) 5 1 6 [2, 5, 6, 37] [0, 1, 2, 3, 6] rfl (by kernel_rfl) ?_
     refine RefR.conv (Conv.ob 4 (E3.row (u75.2.2 ++ [r108.fAt])) (El.row_append E3 u75.2.2 [r108.fAt] rfl rfl)) ?_
     refine RefR.conv (Conv.sl 37 (.c (.own 4 ((u75.2.2 ++ [r108.fAt]).length))) (DLe.c (CLe.own (by simp <;> omega)))) ?_
     refine RefR.e0 (st' := ⟨[sP 2 0 0 0, sP 5 1 0 0, sP 6 2 0 0, (7, .c (.own 4 ((u75.2.2 ++ [r108.fAt]).length)))], [.cells [.nil], E65.o u106, .cells [.own 3 u75.2.1.length], E60.row u75.2.1, E3.row (u75.2.2 ++ [r108.fAt])], [], 0⟩) 6 1 7 [2, 5, 6, 7] [0, 1, 2, 3, 4] ?_
     refine RefR.nl 7 ?_
     refine Ref.drawnY 8 (by kernel_rfl) (by kernel_rfl) ?_
     refine RefY.evC0 (st' := ⟨[sP 2 0 0 0, sP 5 1 0 0, sP 6 2 0 0, (7, .c (.own 4 ((u75.2.2 ++ [r108.fAt]).length))), sP 38 2 0 0, sP 40 1 0 0], [.cells [.nil], E65.o u106, .cells [.own 3 u75.2.1.length], E60.row u75.2.1, E3.row (u75.2.2 ++ [r108.fAt])], [], 0⟩) (fuel' := 6) [0, 2] [2, 5, 6, 7, 38, 40] [0, 1, 2, 3, 4] rfl (by kernel_rfl) (by kernel_rfl) ?_
     refine RefY.toX [3, 5, 7] ?_
     refine RefX.withK1 (fun (r109 : S60 × S65) => ⟨[sP 2 0 0 0, sP 5 1 0 0, sP 6 2 0 0, (7, .c (.own 3 ((u75.2.2 ++ [r108.fAt]).length)))], [.cells [.nil], E65.o r109.2, .cells [.own 4 ((u75.2.1 ++ [r109.1]).length)], E3.row (u75.2.2 ++ [r108.fAt]), E60.row (u75.2.1 ++ [r109.1])], [], 0⟩) (fun (r109 : S60 × S65) => (some (.inr (r109.2, (u75.2.1 ++ [r109.1]), (u75.2.2 ++ [r108.fAt]))))) (fun r109 => ?_) (fun hk => ?_)
     ·
      refine Ref.ck ⟨[sP 2 0 0 0, sP 5 1 0 0, sP 6 2 0 0, (7, .c (.own 4 ((u75.2.2 ++ [r108.fAt]).length)))], [.cells [.nil], E65.o r109.2, .cells [.own 3 ((u75.2.1 ++ [r109.1]).length)], E60.row (u75.2.1 ++ [r109.1]), E3.row (u75.2.2 ++ [r108.fAt])], [], 0⟩ [2, 5, 6, 7] [0, 1, 2, 4, 3] ?_
      exact Ref.n0 (t := (r109.2, (u75.2.1 ++ [r109.1]), (u75.2.2 ++ [r108.fAt])))
     ·
      refine RefX.pend0 (fuel' := 5) [[], [(1, 39)]] [(1, 39)] [2, 5, 6, 7, 38, 40] [0, 1, 2, 3, 4] ⟨[sP 2 0 0 0, sP 5 1 0 0, sP 6 2 0 0, (7, .c (.own 4 ((u75.2.2 ++ [r108.fAt]).length))), sP 38 2 0 0, (39, .c (.own 3 u75.2.1.length)), sP 40 1 0 0], [.cells [.nil], E65.o u106, .cells [.own 3 u75.2.1.length], E60.row u75.2.1, E3.row (u75.2.2 ++ [r108.fAt])], [], 0⟩ ?_
      refine RefXq.fork1 (fuel' := 4) 3 ?_
      refine RefXqi.callC (t := 41) 3 [1] rfl (by kernel_rfl) (F32_ok K u106) (fun r109 => ?_)
      refine RefXq.fork1 (fuel' := 3) 4 ?_
      refine RefXqi.adds0 (st' := ⟨[sP 2 0 0 0, sP 5 1 0 0, sP 6 2 0 0, (7, .c (.own 4 ((u75.2.2 ++ [r108.fAt]).length))), sP 38 2 0 0, (39, .c (.own 3 u75.2.1.length)), (42, .c (.own 5 1))], [.cells [.nil], E65.o r109.2, .cells [.own 3 u75.2.1.length], E60.row u75.2.1, E3.row (u75.2.2 ++ [r108.fAt]), .row 60 11 1 (tbl [(E60.cs r109.1)])], [], 0⟩) 4 [2, 5, 6, 7, 38, 39, 42] [0, 1, 2, 3, 4, 6] (by kernel_rfl) (by kernel_rfl) ?_
      refine RefXq.conv (Conv2.obj 5 (E60.row [r109.1]) (El.row_build E60 [r109.1] rfl (by kernel_rfl)) (by kernel_rfl)) ?_
      refine RefXq.conv (Conv2.slot 42 (.c (.own 5 ([r109.1].length))) (DLe.c (CLe.own (by simp <;> omega))) (by kernel_rfl)) ?_
      refine RefXq.close ?_
      refine RefX.fork1 (fuel' := 2) 5 (by kernel_rfl) ?_
      refine RefXi.writes (vs := [room ((u75.2.1.length + ([r109.1].length)) * 160)]) (st' := ⟨[sP 2 0 0 0, sP 5 1 0 0, sP 6 2 0 0, (7, .c (.own 4 ((u75.2.2 ++ [r108.fAt]).length))), (43, .c (.own 5 (u75.2.1.length + ([r109.1].length))))], [.cells [.nil], E65.o r109.2, .cells [.own 3 u75.2.1.length], .dead, E3.row (u75.2.2 ++ [r108.fAt]), .row 60 11 (u75.2.1.length + ([r109.1].length)) fun i j => bif Nat.blt i u75.2.1.length then E60.at u75.2.1 i j else (E60.at [r109.1]) (i - u75.2.1.length) j], [], 0⟩) 5 [2, 5, 6, 7, 43] [0, 1, 2, 3, 4, 6] (by kernel_rfl) (by kernel_rfl) ?_
      refine RefX.conv (Conv.ob 5 (E60.row (u75.2.1 ++ [r109.1])) (El.row_append E60 u75.2.1 [r109.1] rfl rfl)) ?_
      refine RefX.conv (Conv.sl 43 (.c (.own 5 ((u75.2.1 ++ [r109.1]).length))) (DLe.c (CLe.own (by simp <;> omega)))) ?_
      refine RefX.v0 (fuel' := 1) [6] [2, 5, 6, 7, 43, 44] [0, 1, 2, 3, 4, 5] ?_
      refine RefX.fork1 (fuel' := 0) 7 (by kernel_rfl) ?_
      refine RefXi.w0 7 [2, 5, 6, 7] [0, 1, 2, 4, 5] ?_
      refine RefX.done (by kernel_rfl) ?_
      refine Ref.ck ⟨[sP 2 0 0 0, sP 5 1 0 0, sP 6 2 0 0, (7, .c (.own 3 ((u75.2.2 ++ [r108.fAt]).length)))], [.cells [.nil], E65.o r109.2, .cells [.own 4 ((u75.2.1 ++ [r109.1]).length)], E3.row (u75.2.2 ++ [r108.fAt]), E60.row (u75.2.1 ++ [r109.1])], [], 0⟩ [2, 5, 6, 7] [0, 1, 2, 3, 4] ?_
      exact hk r109
   ·
    exact Ref.n0 (t := (u103.1, u103.2.1, u103.2.2))
  ·
   refine Ref.ck ⟨[sP 2 0 0 0, sP 5 1 0 0, sP 6 2 0 0, (7, .c (.own 4 u75.2.2.length))], [.cells [.nil], E65.o u75.1, .cells [.own 3 u75.2.1.length], E60.row u75.2.1, E3.row u75.2.2], [], 0⟩ [2, 5, 6, 7] [0, 1, 2, 3, 4] ?_
   exact Ref.xt 0 (t := (Sum.inl (u75.1, u75.2.1, u75.2.2)))
 ·
  refine Ref.sq ?_
  refine Ref.sq ?_
  refine Ref.rn 9 ?_
  refine RefR.e1 0 1 1 [2, 5, 6, 7, 45] [0, 1, 2, 3, 4] ?_
  refine RefR.lookC (t := 46) (g := []) (b := true) 1 2 [1] (default : Bool) rfl (by kernel_rfl) (F21_ok K u56.1) (fun _ => rfl) (fun r111 => ?_)
  refine RefR.e0 (st' := ⟨[sP 2 0 0 0, sP 5 1 0 0, sP 6 2 0 0, (7, .c (.own 4 u56.2.2.length)), sB 47 (!r111)], [.cells [.nil], E65.o u56.1, .cells [.own 3 u56.2.1.length], E60.row u56.2.1, E3.row u56.2.2], [], 0⟩) 2 1 3 [2, 5, 6, 7, 47] [0, 1, 2, 3, 4] ?_
  refine RefR.nl 3 ?_
  refine Ref.cn (.tmp 47) (!r111) (fun hc => ?_) (fun hc => ?_)
  ·
   refine Ref.sq ?_
   refine Ref.drawnY 10 (by kernel_rfl) (by kernel_rfl) ?_
   refine RefY.evC0 (st' := ⟨[sP 2 0 0 0, (48, .agg [.nil]), sP 51 1 0 3], [.cells [.nil], E65.o u56.1], [], 0⟩) (fuel' := 4) [0, 1, 2, 3] [2, 48, 51] [0, 1] rfl (by kernel_rfl) (by kernel_rfl) ?_
   refine RefY.toX [5] ?_
   refine RefX.pend0 (fuel' := 3) [[], [(4, 52)]] [(4, 52)] [2, 48, 51] [0, 1] ⟨[sP 2 0 0 0, (48, .agg [.nil]), sP 51 1 0 3, (52, .c (errC u56.1.ferr))], [.cells [.nil], E65.o u56.1], [], 0⟩ ?_
   refine RefXq.fork1 (fuel' := 2) 5 ?_
   refine RefXqi.writes0 (st' := ⟨[sP 2 0 0 0, sP 51 1 0 3, (52, .c (errC u56.1.ferr))], [.cells [.nil], E65.o u56.1], [], 0⟩) 5 [2, 51, 52] [0, 1] (by kernel_rfl) (by kernel_rfl) ?_
   refine RefXq.evC0 (st' := ⟨[sP 2 0 0 0, (3, .c (.nil)), sP 51 1 0 3, (52, .c (errC u56.1.ferr))], [.cells [.nil], E65.o u56.1], [], 0⟩) (fuel' := 1) [6] [2, 3, 51, 52] [0, 1] rfl (by kernel_rfl) (by kernel_rfl) ?_
   refine RefXq.close ?_
   refine RefX.evC0 (st' := ⟨[sP 2 0 0 0, (3, .c (.nil)), (4, .c (errC u56.1.ferr))], [.cells [.nil]], [], 0⟩) (fuel' := 0) [7] [2, 3, 4] [0] rfl (by kernel_rfl) (by kernel_rfl) ?_
   refine RefX.done (by kernel_rfl) ?_
   refine Ref.conv (Conv.ob 0 (.cells [E60.tree []]) (OLe.cells (All2.cons (El.tree_nil E60) (All2.nil)))) ?_
   refine Ref.conv (Conv.sl 3 (.c (E3.tree [])) (DLe.c (El.tree_nil E3))) ?_
   refine Ref.ck ⟨[sP 2 0 0 0, (3, .c (E3.tree [])), (4, .c (errC u56.1.ferr))], [.cells [E60.tree []]], [], 0⟩ [2, 3, 4] [0] ?_
   exact Ref.rt (t := ((⟨[]⟩ : S44), [], u56.1.ferr))
  ·
   refine Ref.sk ?_
   refine Ref.sq ?_
   refine Ref.rn 11 ?_
   refine RefR.e0 (st' := ⟨[sP 2 0 0 0, (3, .c (.own 2 u56.2.2.length)), (4, .c (.val .nilIface))], [.cells [.own 1 u56.2.1.length], E60.row u56.2.1, E3.row u56.2.2], [], 0⟩) 0 5 5 [2, 3, 4] [0, 3, 4] ?_
   refine RefR.nl 5 ?_
   refine Ref.conv (Conv.freeze (st' := ⟨[sP 2 0 0 0, (3, .c (.own 2 u56.2.2.length)), (4, .c (.val .nilIface))], [.cells [E60.tree u56.2.1], .dead, E3.row u56.2.2], [], 0⟩) 1 (by kernel_rfl)) ?_
   refine Ref.conv (Conv.freeze (st' := ⟨[sP 2 0 0 0, (3, .c (E3.tree u56.2.2)), (4, .c (.val .nilIface))], [.cells [E60.tree u56.2.1], .dead, .dead], [], 0⟩) 2 (by kernel_rfl)) ?_
   refine Ref.conv (Conv.sl 4 (.c (errC ([] : Err))) (DLe.c (errC_nil))) ?_
   refine Ref.ck ⟨[sP 2 0 0 0, (3, .c (E3.tree u56.2.2)), (4, .c (errC ([] : Err)))], [.cells [E60.tree u56.2.1]], [], 0⟩ [2, 3, 4] [0] ?_
   exact Ref.rt (t := ((⟨u56.2.1⟩ : S44), u56.2.2, ([] : Err)))
def F8 (K : Nat) (a0 : Bytes) : Option ((S25 × Err) ⊕ (S25 × Err)) :=
 ((fnS (F18 K a0)).bind (fun r1 => ((fnS (F19 K r1 1)).bind (fun r2 => (letV (decide ((r2.2.fi : Int) < (Int.ofNat r2.2.ftokens.length))) (fun (x3 : Bool) => (bindS (if x3 = true then ((fnS (F20 K r2.2 3)).bind (fun r6 => (some (.inr (r6))))) else (some (.inr (r2.2)))) (fun (u5 : S65) => ((condM true (fnS (F21 K u5)) default).bind (fun r7 => (if (!r7) = true then (some (.inl ((⟨0, 0, ([] : Bytes), ([] : Bytes), []⟩ : S25), u5.ferr))) else (some (.inl (r2.1, ([] : Err)))))))))))))))
theorem F8_ok (K : Nat) (a0 : Bytes) : DFun Tryz.prog 8 [.c (.str a0)] [] (fnS (F8 K a0)) (fun r => .tup [.agg (E25.cs r.1), .c (errC r.2)]) (fun r => [E25.o r.1]) := by
 refine DFun.it Tryz.f8 (fun r => ⟨[sP 2 0 0 0, (3, .c (errC r.2))], [E25.o r.1], [], 0⟩) ?_
 unfold F8
 refine Ref.sq ?_
 refine Ref.rn 0 ?_
 refine RefR.e0 (st' := ⟨[sS 0 a0, sP 2 0 0 0], [oX2], [], 0⟩) 0 2 2 [0, 2] [0] ?_
 refine RefR.nl 2 ?_
 refine Ref.sq ?_
 refine Ref.rn 1 ?_
 refine RefR.e1 0 1 1 [2, 6] [0] ?_
 refine RefR.cc 7 1 2 [] (F18_ok K a0) (fun r1 => ?_)
 refine RefR.e0 (st' := ⟨[sP 2 0 0 0, sP 4 1 0 0], [oX2, E65.o r1], [], 0⟩) 2 1 3 [2, 4] [0, 1] ?_
 refine RefR.nl 3 ?_
 refine Ref.sq ?_
 refine Ref.rn 2 ?_
 refine RefR.e1 0 1 1 [2, 4, 8] [0, 1] ?_
 refine RefR.cc 9 1 2 [1] (F19_ok K r1 1) (fun r2 => ?_)
 refine RefR.e0 (st' := ⟨[sP 2 0 0 0, sP 4 1 0 0, sP 5 2 0 0], [oX2, E65.o r2.2, E25.o r2.1], [], 0⟩) 2 2 4 [2, 4, 5] [0, 1, 3] ?_
 refine RefR.nl 4 ?_
 refine Ref.sq ?_
 refine Ref.sq ?_
 refine Ref.drawnY 3 (by kernel_rfl) (by kernel_rfl) ?_
 refine RefY.evC0 (st' := ⟨[sP 2 0 0 0, sP 4 1 0 0, sP 5 2 0 0, sP 12 1 0 1, sP 16 1 0 0], [oX2, E65.o r2.2, E25.o r2.1], [], 0⟩) (fuel' := 4) [0, 1, 2, 4, 5, 6] [2, 4, 5, 12, 16] [0, 1, 2] rfl (by kernel_rfl) (by kernel_rfl) ?_
 refine RefY.toX [] ?_
 refine RefX.evC0 (st' := ⟨[sP 2 0 0 0, sP 4 1 0 0, sP 5 2 0 0, sB 19 (decide ((r2.2.fi : Int) < (Int.ofNat r2.2.ftokens.length)))], [oX2, E65.o r2.2, E25.o r2.1], [], 0⟩) (fuel' := 0) [3, 7, 8, 9] [2, 4, 5, 19] [0, 1, 2] rfl (by kernel_rfl) (by kernel_rfl) ?_
 refine RefX.letC (stf := fun x3 => ⟨[sP 2 0 0 0, sP 4 1 0 0, sP 5 2 0 0, sB 19 x3], [oX2, E65.o r2.2, E25.o r2.1], [], 0⟩) (by kernel_rfl) (fun x3 => ?_)
 refine RefX.done (by kernel_rfl) ?_
 refine Ref.bind (go1 := fun u5 => ⟨[sP 2 0 0 0, sP 4 1 0 0, sP 5 2 0 0], [oX2, E65.o u5, E25.o r2.1], [], 0⟩) ?_ (fun u5 => ?_)
 ·
  refine Ref.cn (.tmp 19) x3 (fun hc => ?_) (fun hc => ?_)
  ·
   refine Ref.rn 4 ?_
   refine RefR.e1 0 1 1 [2, 4, 5, 20] [0, 1, 2] ?_
   refine RefR.cc 21 1 2 [1] (F20_ok K r2.2 3) (fun r6 => ?_)
   refine RefR.nl 2 ?_
   refine Ref.ck ⟨[sP 2 0 0 0, sP 4 1 0 0, sP 5 2 0 0], [oX2, E65.o r6, E25.o r2.1], [], 0⟩ [2, 4, 5] [0, 1, 2] ?_
   exact Ref.n0 (t := (r6))
  ·
   refine Ref.sk ?_
   refine Ref.ck ⟨[sP 2 0 0 0, sP 4 1 0 0, sP 5 2 0 0], [oX2, E65.o r2.2, E25.o r2.1], [], 0⟩ [2, 4, 5] [0, 1, 2] ?_
   exact Ref.n0 (t := (r2.2))
 ·
  refine Ref.sq ?_
  refine Ref.sq ?_
  refine Ref.rn 5 ?_
  refine RefR.e1 0 1 1 [2, 4, 5, 22] [0, 1, 2] ?_
  refine RefR.lookC (t := 23) (g := []) (b := true) 1 2 [1] (default : Bool) rfl (by kernel_rfl) (F21_ok K u5) (fun _ => rfl) (fun r7 => ?_)
  refine RefR.e0 (st' := ⟨[sP 2 0 0 0, sP 4 1 0 0, sP 5 2 0 0, sB 24 (!r7)], [oX2, E65.o u5, E25.o r2.1], [], 0⟩) 2 1 3 [2, 4, 5, 24] [0, 1, 2] ?_
  refine RefR.nl 3 ?_
  refine Ref.cn (.tmp 24) (!r7) (fun hc => ?_) (fun hc => ?_)
  ·
   refine Ref.sq ?_
   refine Ref.drawnY 6 (by kernel_rfl) (by kernel_rfl) ?_
   refine RefY.evC0 (st' := ⟨[sP 2 0 0 0, (25, .agg [iC 0, iC 0, .str [], .str [], .nil]), sP 28 1 0 3], [oX2, E65.o u5], [], 0⟩) (fuel' := 3) [0, 1, 2, 3] [2, 25, 28] [0, 1] rfl (by kernel_rfl) (by kernel_rfl) ?_
   refine RefY.toX [5] ?_
   refine RefX.pend0 (fuel' := 2) [[], [(4, 29)]] [(4, 29)] [2, 25, 28] [0, 1] ⟨[sP 2 0 0 0, (25, .agg [iC 0, iC 0, .str [], .str [], .nil]), sP 28 1 0 3, (29, .c (errC u5.ferr))], [oX2, E65.o u5], [], 0⟩ ?_
   refine RefXq.fork1 (fuel' := 1) 5 ?_
   refine RefXqi.writes0 (st' := ⟨[sP 2 0 0 0, sP 28 1 0 3, (29, .c (errC u5.ferr))], [oX2, E65.o u5], [], 0⟩) 5 [2, 28, 29] [0, 1] (by kernel_rfl) (by kernel_rfl) ?_
   refine RefXq.close ?_
   refine RefX.evC0 (st' := ⟨[sP 2 0 0 0, (3, .c (errC u5.ferr))], [oX2], [], 0⟩) (fuel' := 0) [6] [2, 3] [0] rfl (by kernel_rfl) (by kernel_rfl) ?_
   refine RefX.done (by kernel_rfl) ?_
   refine Ref.conv (Conv.ob 0 (.cells [iC 0, iC 0, .str [], .str [], E25.tree []]) (OLe.cells (All2.cons (CLe.refl _) (All2.cons (CLe.refl _) (All2.cons (CLe.refl _) (All2.cons (CLe.refl _) (All2.cons (El.tree_nil E25) (All2.nil)))))))) ?_
   refine Ref.conv (Conv.ob 0 (.cells [iC 0, iC 0, .str [], .str [], NT25 []]) (OLe.cells (All2.cons (CLe.refl _) (All2.cons (CLe.refl _) (All2.cons (CLe.refl _) (All2.cons (CLe.refl _) (All2.cons (NT25_ge _) (All2.nil)))))))) ?_
   exact Ref.rt (t := ((⟨0, 0, ([] : Bytes), ([] : Bytes), []⟩ : S25), u5.ferr))
  ·
   refine Ref.sk ?_
   refine Ref.sq ?_
   refine Ref.rn 7 ?_
   refine RefR.e0 (st' := ⟨[sP 2 0 0 0, (3, .c (.val .nilIface))], [E25.o r2.1], [], 0⟩) 0 3 3 [2, 3] [0] ?_
   refine RefR.nl 3 ?_
   refine Ref.conv (Conv.sl 3 (.c (errC ([] : Err))) (DLe.c (errC_nil))) ?_
   refine Ref.ck ⟨[sP 2 0 0 0, (3, .c (errC ([] : Err)))], [E25.o r2.1], [], 0⟩ [2, 3] [0] ?_
   exact Ref.rt (t := (r2.1, ([] : Err)))
def F33 (K : Nat) (a0 : (List Bytes)) (a1 : (List Bytes)) : Option ((Bool) ⊕ (Bool)) :=
 (letV (((Int.ofNat a0.length) : Int) != (Int.ofNat a1.length)) (fun (x1 : Bool) => (if x1 = true then (some (.inl (false))) else (bindS (blockS ((iter K (fun (u21 : Int) => (letV (decide ((u21 : Int) < (Int.ofNat a0.length))) (fun (x27 : Bool) => (if x27 = true then (bindS (blockS (chk [inb u21 a0.length, inb u21 a1.length] (letV (!((a0.getD (u21 : Int).toNat default) == (a1.getD (u21 : Int).toNat default))) (fun (x30 : Bool) => (if x30 = true then (some (.inl (Sum.inr (Sum.inr (false))))) else (some (.inr ()))))))) (fun (u29 : Unit) => (some (.inr ((IntKind.i64.wrap (u21 + 1))))))) else (some (.inl (Sum.inl ()))))))) (0)).map .inl)) (fun (u16 : Unit) => (some (.inl (true))))))))
theorem F33_ok (K : Nat) (a0 : (List Bytes)) (a1 : (List Bytes)) : DFun Tryz.prog 33 [.c (E9.tree a0), .c (E9.tree a1)] [] (fnS (F33 K a0 a1)) (fun r => .c (.val (.bool r))) (fun r => []) := by
 refine DFun.it Tryz.f33 (fun r => ⟨[sB 4 r], [], [], 0⟩) ?_
 unfold F33
 refine Ref.sq ?_
 refine Ref.rn 0 ?_
 refine RefR.e0 (st' := ⟨[(0, .c (E9.tree a0)), (1, .c (E9.tree a1))], [], [], 0⟩) 0 1 1 [0, 1] [] ?_
 refine RefR.nl 1 ?_
 refine Ref.sq ?_
 refine Ref.sq ?_
 refine Ref.rn 1 ?_
 refine RefR.e0 (st' := ⟨[(0, .c (E9.tree a0)), (1, .c (E9.tree a1)), sB 10 (((Int.ofNat a0.length) : Int) != (Int.ofNat a1.length))], [], [], 0⟩) 0 5 5 [0, 1, 10] [] ?_
 refine RefR.letC (stf := fun x1 => ⟨[(0, .c (E9.tree a0)), (1, .c (E9.tree a1)), sB 10 x1], [], [], 0⟩) (by kernel_rfl) (fun x1 => ?_)
 refine RefR.nl 5 ?_
 refine Ref.cn (.tmp 10) x1 (fun hc => ?_) (fun hc => ?_)
 ·
  refine Ref.sq ?_
  refine Ref.rn 2 ?_
  refine RefR.e0 (st' := ⟨[sB 4 false], [], [], 0⟩) 0 1 1 [4] [] ?_
  refine RefR.nl 1 ?_
  exact Ref.rt (t := (false))
 ·
  refine Ref.sk ?_
  refine Ref.sq ?_
  refine Ref.sq ?_
  refine Ref.rn 3 ?_
  refine RefR.e0 (st' := ⟨[(0, .c (E9.tree a0)), (1, .c (E9.tree a1)), sI 5 0], [], [], 0⟩) 0 1 1 [0, 1, 5] [] ?_
  refine RefR.nl 1 ?_
  refine Ref.ce (.block 0 (cd (bd Tryz.f33) [1, 1, 0, 1, 0])) ?_
  refine Ref.block (go1 := fun u16 => ⟨[], [], [], 0⟩) ?_ (fun _ h => by cases h) (fun u16 => ?_)
  ·
   refine Ref.ce (.loop (cd (bd Tryz.f33) [1, 1, 0, 1, 0, 0])) ?_
   refine Ref.loop (hd := fun u21 => ⟨[(0, .c (E9.tree a0)), (1, .c (E9.tree a1)), sI 5 u21], [], [], 0⟩) K (0) (by kernel_rfl) (fun u21 => ?_)
   refine Ref.sq ?_
   refine Ref.sq ?_
   refine Ref.rn 4 ?_
   refine RefR.e0 (st' := ⟨[(0, .c (E9.tree a0)), (1, .c (E9.tree a1)), sI 5 u21, sB 14 (decide ((u21 : Int) < (Int.ofNat a0.length)))], [], [], 0⟩) 0 4 4 [0, 1, 5, 14] [] ?_
   refine RefR.letC (stf := fun x27 => ⟨[(0, .c (E9.tree a0)), (1, .c (E9.tree a1)), sI 5 u21, sB 14 x27], [], [], 0⟩) (by kernel_rfl) (fun x27 => ?_)
   refine RefR.nl 4 ?_
   refine Ref.cn (.tmp 14) x27 (fun hc => ?_) (fun hc => ?_)
   ·
    refine Ref.sk ?_
    refine Ref.sq ?_
    refine Ref.ce (.block 1 (cd (bd Tryz.f33) [1, 1, 0, 1, 0, 0, 1, 0, 0])) ?_
    refine Ref.block (go1 := fun u29 => ⟨[(0, .c (E9.tree a0)), (1, .c (E9.tree a1)), sI 5 u21], [], [], 0⟩) ?_ (fun a => match a with | .inl _ => (fun h => by cases h) | .inr _ => (fun h => by cases h)) (fun u29 => ?_)
    ·
     refine Ref.sq ?_
     refine Ref.drawnY 6 (by kernel_rfl) (by kernel_rfl) ?_
     refine RefY.evC (vs := [inb u21 a0.length, inb u21 a1.length]) (st' := ⟨[(0, .c (E9.tree a0)), (1, .c (E9.tree a1)), sI 5 u21, (19, .c (E9.ep (a0.getD (u21 : Int).toNat default) 0)), (23, .c (E9.ep (a1.getD (u21 : Int).toNat default) 0))], [], [], 0⟩) (fuel' := 3) [0, 1, 2, 4, 5, 6] [0, 1, 5, 19, 23] [] rfl (by kernel_rfl) (by kernel_rfl) ?_
     refine RefY.toX [] ?_
     refine RefX.evC0 (st' := ⟨[(0, .c (E9.tree a0)), (1, .c (E9.tree a1)), sI 5 u21, sB 25 (!((a0.getD (u21 : Int).toNat default) == (a1.getD (u21 : Int).toNat default)))], [], [], 0⟩) (fuel' := 0) [3, 7, 8] [0, 1, 5, 25] [] rfl (by kernel_rfl) (by kernel_rfl) ?_
     refine RefX.letC (stf := fun x30 => ⟨[(0, .c (E9.tree a0)), (1, .c (E9.tree a1)), sI 5 u21, sB 25 x30], [], [], 0⟩) (by kernel_rfl) (fun x30 => ?_)
     refine RefX.done (by kernel_rfl) ?_
     refine Ref.cn (.tmp 25) x30 (fun hc => ?_) (fun hc => ?_)
     ·
      refine Ref.sq ?_
      refine Ref.rn 7 ?_
      refine RefR.e0 (st' := ⟨[sB 4 false], [], [], 0⟩) 0 1 1 [4] [] ?_
      refine RefR.nl 1 ?_
      exact Ref.rt (t := (Sum.inr (Sum.inr (false))))
     ·
      refine Ref.sk ?_
      refine Ref.ck ⟨[(0, .c (E9.tree a0)), (1, .c (E9.tree a1)), sI 5 u21], [], [], 0⟩ [0, 1, 5] [] ?_
      exact Ref.n0 (t := ())
    ·
     refine Ref.rn 5 ?_
     refine RefR.e0 (st' := ⟨[(0, .c (E9.tree a0)), (1, .c (E9.tree a1)), sI 5 (IntKind.i64.wrap (u21 + 1))], [], [], 0⟩) 0 3 3 [0, 1, 5] [] ?_
     refine RefR.nl 3 ?_
     exact Ref.n0 (t := ((IntKind.i64.wrap (u21 + 1))))
   ·
    refine Ref.ck ⟨[], [], [], 0⟩ [] [] ?_
    exact Ref.xt 0 (t := (Sum.inl ()))
  ·
   refine Ref.sq ?_
   refine Ref.rn 8 ?_
   refine RefR.e0 (st' := ⟨[sB 4 true], [], [], 0⟩) 0 1 1 [4] [] ?_
   refine RefR.nl 1 ?_
   exact Ref.rt (t := (true))
def F34 (K : Nat) (a0 : (List S118)) (a1 : (List S118)) : Option ((Bool) ⊕ (Bool)) :=
 (letV (((Int.ofNat a0.length) : Int) != (Int.ofNat a1.length)) (fun (x1 : Bool) => (if x1 = true then (some (.inl (false))) else (bindS (blockS ((iter K (fun (u21 : Int) => (letV (decide ((u21 : Int) < (Int.ofNat a0.length))) (fun (x27 : Bool) => (if x27 = true then (bindS (blockS (chk [inb u21 a0.length, inb u21 a1.length] (letV (!((((a0.getD (u21 : Int).toNat default).fName) == ((a1.getD (u21 : Int).toNat default).fName)) && ((((((a0.getD (u21 : Int).toNat default).fType).fKind : Int) == (((a1.getD (u21 : Int).toNat default).fType).fKind)) && (((((a0.getD (u21 : Int).toNat default).fType).fLo : Int) == (((a1.getD (u21 : Int).toNat default).fType).fLo)) && (((((a0.getD (u21 : Int).toNat default).fType).fHi : Int) == (((a1.getD (u21 : Int).toNat default).fType).fHi)) && (((((a0.getD (u21 : Int).toNat default).fType).fName) == (((a1.getD (u21 : Int).toNat default).fType).fName)) && true)))) && ((((a0.getD (u21 : Int).toNat default).fInit : Int) == ((a1.getD (u21 : Int).toNat default).fInit)) && ((((a0.getD (u21 : Int).toNat default).fDir : Int) == ((a1.getD (u21 : Int).toNat default).fDir)) && ((((a0.getD (u21 : Int).toNat default).fSlot : Int) == ((a1.getD (u21 : Int).toNat default).fSlot)) && true)))))) (fun (x30 : Bool) => (if x30 = true then (some (.inl (Sum.inr (Sum.inr (false))))) else (some (.inr ()))))))) (fun (u29 : Unit) => (some (.inr ((IntKind.i64.wrap (u21 + 1))))))) else (some (.inl (Sum.inl ()))))))) (0)).map .inl)) (fun (u16 : Unit) => (some (.inl (true))))))))
theorem F34_ok (K : Nat) (a0 : (List S118)) (a1 : (List S118)) : DFun Tryz.prog 34 [.c (E118.tree a0), .c (E118.tree a1)] [] (fnS (F34 K a0 a1)) (fun r => .c (.val (.bool r))) (fun r => []) := by
 refine DFun.it Tryz.f34 (fun r => ⟨[sB 4 r], [], [], 0⟩) ?_
 unfold F34
 refine Ref.sq ?_
 refine Ref.rn 0 ?_
 refine RefR.e0 (st' := ⟨[(0, .c (E118.tree a0)), (1, .c (E118.tree a1))], [], [], 0⟩) 0 1 1 [0, 1] [] ?_
 refine RefR.nl 1 ?_
 refine Ref.sq ?_
 refine Ref.sq ?_
 refine Ref.rn 1 ?_
 refine RefR.e0 (st' := ⟨[(0, .c (E118.tree a0)), (1, .c (E118.tree a1)), sB 10 (((Int.ofNat a0.length) : Int) != (Int.ofNat a1.length))], [], [], 0⟩) 0 5 5 [0, 1, 10] [] ?_
 refine RefR.letC (stf := fun x1 => ⟨[(0, .c (E118.tree a0)), (1, .c (E118.tree a1)), sB 10 x1], [], [], 0⟩) (by kernel_rfl) (fun x1 => ?_)
 refine RefR.nl 5 ?_
 refine Ref.cn (.tmp 10) x1 (fun hc => ?_) (fun hc => ?_)
 ·
  refine Ref.sq ?_
  refine Ref.rn 2 ?_
  refine RefR.e0 (st' := ⟨[sB 4 false], [], [], 0⟩) 0 1 1 [4] [] ?_
  refine RefR.nl 1 ?_
  exact Ref.rt (t := (false))
 ·
  refine Ref.sk ?_
  refine Ref.sq ?_
  refine Ref.sq ?_
  refine Ref.rn 3 ?_
  refine RefR.e0 (st' := ⟨[(0, .c (E118.tree a0)), (1, .c (E118.tree a1)), sI 5 0], [], [], 0⟩) 0 1 1 [0, 1, 5] [] ?_
  refine RefR.nl 1 ?_
  refine Ref.ce (.block 0 (cd (bd Tryz.f34) [1, 1, 0, 1, 0])) ?_
  refine Ref.block (go1 := fun u16 => ⟨[], [], [], 0⟩) ?_ (fun _ h => by cases h) (fun u16 => ?_)
  ·
   refine Ref.ce (.loop (cd (bd Tryz.f34) [1, 1, 0, 1, 0, 0])) ?_
   refine Ref.loop (hd := fun u21 => ⟨[(0, .c (E118.tree a0)), (1, .c (E118.tree a1)), sI 5 u21], [], [], 0⟩) K (0) (by kernel_rfl) (fun u21 => ?_)
   refine Ref.sq ?_
   refine Ref.sq ?_
   refine Ref.rn 4 ?_
   refine RefR.e0 (st' := ⟨[(0, .c (E118.tree a0)), (1, .c (E118.tree a1)), sI 5 u21, sB 14 (decide ((u21 : Int) < (Int.ofNat a0.length)))], [], [], 0⟩) 0 4 4 [0, 1, 5, 14] [] ?_
   refine RefR.letC (stf := fun x27 => ⟨[(0, .c (E118.tree a0)), (1, .c (E118.tree a1)), sI 5 u21, sB 14 x27], [], [], 0⟩) (by kernel_rfl) (fun x27 => ?_)
   refine RefR.nl 4 ?_
   refine Ref.cn (.tmp 14) x27 (fun hc => ?_) (fun hc => ?_)
   ·
    refine Ref.sk ?_
    refine Ref.sq ?_
    refine Ref.ce (.block 1 (cd (bd Tryz.f34) [1, 1, 0, 1, 0, 0, 1, 0, 0])) ?_
    refine Ref.block (go1 := fun u29 => ⟨[(0, .c (E118.tree a0)), (1, .c (E118.tree a1)), sI 5 u21], [], [], 0⟩) ?_ (fun a => match a with | .inl _ => (fun h => by cases h) | .inr _ => (fun h => by cases h)) (fun u29 => ?_)
    ·
     refine Ref.sq ?_
     refine Ref.drawnY 6 (by kernel_rfl) (by kernel_rfl) ?_
     refine RefY.evC (vs := [inb u21 a0.length, inb u21 a1.length]) (st' := ⟨[(0, .c (E118.tree a0)), (1, .c (E118.tree a1)), sI 5 u21, (19, .c (E118.ep (a0.getD (u21 : Int).toNat default) 0)), (23, .c (E118.ep (a1.getD (u21 : Int).toNat default) 0))], [], [], 0⟩) (fuel' := 3) [0, 1, 2, 4, 5, 6] [0, 1, 5, 19, 23] [] rfl (by kernel_rfl) (by kernel_rfl) ?_
     refine RefY.toX [] ?_
     refine RefX.evC0 (st' := ⟨[(0, .c (E118.tree a0)), (1, .c (E118.tree a1)), sI 5 u21, sB 25 (!((((a0.getD (u21 : Int).toNat default).fName) == ((a1.getD (u21 : Int).toNat default).fName)) && ((((((a0.getD (u21 : Int).toNat default).fType).fKind : Int) == (((a1.getD (u21 : Int).toNat default).fType).fKind)) && (((((a0.getD (u21 : Int).toNat default).fType).fLo : Int) == (((a1.getD (u21 : Int).toNat default).fType).fLo)) && (((((a0.getD (u21 : Int).toNat default).fType).fHi : Int) == (((a1.getD (u21 : Int).toNat default).fType).fHi)) && (((((a0.getD (u21 : Int).toNat default).fType).fName) == (((a1.getD (u21 : Int).toNat default).fType).fName)) && true)))) && ((((a0.getD (u21 : Int).toNat default).fInit : Int) == ((a1.getD (u21 : Int).toNat default).fInit)) && ((((a0.getD (u21 : Int).toNat default).fDir : Int) == ((a1.getD (u21 : Int).toNat default).fDir)) && ((((a0.getD (u21 : Int).toNat default).fSlot : Int) == ((a1.getD (u21 : Int).toNat default).fSlot)) && true))))))], [], [], 0⟩) (fuel' := 0) [3, 7, 8] [0, 1, 5, 25] [] rfl (by kernel_rfl) (by kernel_rfl) ?_
     refine RefX.letC (stf := fun x30 => ⟨[(0, .c (E118.tree a0)), (1, .c (E118.tree a1)), sI 5 u21, sB 25 x30], [], [], 0⟩) (by kernel_rfl) (fun x30 => ?_)
     refine RefX.done (by kernel_rfl) ?_
     refine Ref.cn (.tmp 25) x30 (fun hc => ?_) (fun hc => ?_)
     ·
      refine Ref.sq ?_
      refine Ref.rn 7 ?_
      refine RefR.e0 (st' := ⟨[sB 4 false], [], [], 0⟩) 0 1 1 [4] [] ?_
      refine RefR.nl 1 ?_
      exact Ref.rt (t := (Sum.inr (Sum.inr (false))))
     ·
      refine Ref.sk ?_
      refine Ref.ck ⟨[(0, .c (E118.tree a0)), (1, .c (E118.tree a1)), sI 5 u21], [], [], 0⟩ [0, 1, 5] [] ?_
      exact Ref.n0 (t := ())
    ·
     refine Ref.rn 5 ?_
     refine RefR.e0 (st' := ⟨[(0, .c (E118.tree a0)), (1, .c (E118.tree a1)), sI 5 (IntKind.i64.wrap (u21 + 1))], [], [], 0⟩) 0 3 3 [0, 1, 5] [] ?_
     refine RefR.nl 3 ?_
     exact Ref.n0 (t := ((IntKind.i64.wrap (u21 + 1))))
   ·
    refine Ref.ck ⟨[], [], [], 0⟩ [] [] ?_
    exact Ref.xt 0 (t := (Sum.inl ()))
  ·
   refine Ref.sq ?_
   refine Ref.rn 8 ?_
   refine RefR.e0 (st' := ⟨[sB 4 true], [], [], 0⟩) 0 1 1 [4] [] ?_
   refine RefR.nl 1 ?_
   exact Ref.rt (t := (true))
mutual
def F11 : (K : Nat) → (S25) → (S25) → Option ((Bool) ⊕ (Bool))
 | 0, _, _ => none
 | K + 1, a0, a1 =>
 (letV (((((a0.fKind : Int) == a1.fKind) && ((a0.fN : Int) == a1.fN)) && (a0.fName == a1.fName)) && (a0.fWhat == a1.fWhat)) (fun (x1 : Bool) => ((condM x1 (fnS (F26 K a0.fArgs a1.fArgs)) default).bind (fun r2 => (some (.inl ((x1 && r2))))))))
def F26 : (K : Nat) → ((List S25)) → ((List S25)) → Option ((Bool) ⊕ (Bool))
 | 0, _, _ => none
 | K + 1, a0, a1 =>
 (letV (((Int.ofNat a0.length) : Int) != (Int.ofNat a1.length)) (fun (x1 : Bool) => (if x1 = true then (some (.inl (false))) else (bindS (blockS ((iter K (fun (u21 : Int) => (letV (decide ((u21 : Int) < (Int.ofNat a0.length))) (fun (x27 : Bool) => (if x27 = true then (bindS (blockS (chk [inb u21 a0.length, inb u21 a1.length] ((condM true (fnS (F11 K (a0.getD (u21 : Int).toNat default) (a1.getD (u21 : Int).toNat default))) default).bind (fun r30 => (if (!r30) = true then (some (.inl (Sum.inr (Sum.inr (false))))) else (some (.inr ()))))))) (fun (u29 : Unit) => (some (.inr ((IntKind.i64.wrap (u21 + 1))))))) else (some (.inl (Sum.inl ()))))))) (0)).map .inl)) (fun (u16 : Unit) => (some (.inl (true))))))))
end
theorem G11_ok : ∀ K : Nat, (∀ (a0 : S25), ∀ (a1 : S25), DFun Tryz.prog 11 [.agg (E25.cs a0), .agg (E25.cs a1)] [] (fnS (F11 K a0 a1)) (fun r => .c (.val (.bool r))) (fun r => [])) ∧ (∀ (a0 : (List S25)), ∀ (a1 : (List S25)), DFun Tryz.prog 26 [.c (E25.tree a0), .c (E25.tree a1)] [] (fnS (F26 K a0 a1)) (fun r => .c (.val (.bool r))) (fun r => [])) := by
 intro K
 induction K with
 | zero => exact ⟨fun a0 a1 => DFun.none (by rw [F11]; rfl), fun a0 a1 => DFun.none (by rw [F26]; rfl)⟩
 | succ K ih =>
  obtain ⟨ih11, ih26⟩ := ih
  refine ⟨?_, ?_⟩
  ·
   intro a0 a1
   refine DFun.it Tryz.f11 (fun r => ⟨[sB 4 r], [], [], 0⟩) ?_
   rw [F11]
   refine Ref.sq ?_
   refine Ref.rn 0 ?_
   refine RefR.e0 (st' := ⟨[sP 2 0 0 0, sP 3 1 0 0], [E25.o a0, E25.o a1], [], 0⟩) 0 3 3 [2, 3] [0, 1] ?_
   refine RefR.nl 3 ?_
   refine Ref.sq ?_
   refine Ref.rn 1 ?_
   refine RefR.e0 (st' := ⟨[sB 31 (((((a0.fKind : Int) == a1.fKind) && ((a0.fN : Int) == a1.fN)) && (a0.fName == a1.fName)) && (a0.fWhat == a1.fWhat)), (33, .c (NT25 a0.fArgs)), (35, .c (NT25 a1.fArgs))], [], [(35, [(31, true)]), (33, [(31, true)])], 0⟩) 0 31 31 [31, 33, 35] [] ?_
   refine RefR.conv (Conv.slotG 33 (.c (E25.tree a0.fArgs)) (DLe.c (NT25_le _)) (by kernel_rfl)) ?_
   refine RefR.conv (Conv.slotG 35 (.c (E25.tree a1.fArgs)) (DLe.c (NT25_le _)) (by kernel_rfl)) ?_
   refine RefR.letC (stf := fun x1 => ⟨[(35, .c (E25.tree a1.fArgs)), (33, .c (E25.tree a0.fArgs)), sB 31 x1], [], [(35, [(31, true)]), (33, [(31, true)])], 0⟩) (by kernel_rfl) (fun x1 => ?_)
   refine RefR.lookC (t := 36) (g := [(31, true)]) (b := x1) 31 32 [] (default : Bool) rfl (by kernel_rfl) (ih26 a0.fArgs a1.fArgs) (fun _ => rfl) (fun r2 => ?_)
   refine RefR.e0 (st' := ⟨[sB 4 (x1 && r2)], [], [], 0⟩) 32 2 34 [4] [] ?_
   refine RefR.nl 34 ?_
   exact Ref.rt (t := ((x1 && r2)))
  ·
   intro a0 a1
   refine DFun.it Tryz.f26 (fun r => ⟨[sB 4 r], [], [], 0⟩) ?_
   rw [F26]
   refine Ref.sq ?_
   refine Ref.rn 0 ?_
   refine RefR.e0 (st' := ⟨[(0, .c (E25.tree a0)), (1, .c (E25.tree a1))], [], [], 0⟩) 0 1 1 [0, 1] [] ?_
   refine RefR.nl 1 ?_
   refine Ref.sq ?_
   refine Ref.sq ?_
   refine Ref.rn 1 ?_
   refine RefR.e0 (st' := ⟨[(0, .c (E25.tree a0)), (1, .c (E25.tree a1)), sB 10 (((Int.ofNat a0.length) : Int) != (Int.ofNat a1.length))], [], [], 0⟩) 0 5 5 [0, 1, 10] [] ?_
   refine RefR.letC (stf := fun x1 => ⟨[(0, .c (E25.tree a0)), (1, .c (E25.tree a1)), sB 10 x1], [], [], 0⟩) (by kernel_rfl) (fun x1 => ?_)
   refine RefR.nl 5 ?_
   refine Ref.cn (.tmp 10) x1 (fun hc => ?_) (fun hc => ?_)
   ·
    refine Ref.sq ?_
    refine Ref.rn 2 ?_
    refine RefR.e0 (st' := ⟨[sB 4 false], [], [], 0⟩) 0 1 1 [4] [] ?_
    refine RefR.nl 1 ?_
    exact Ref.rt (t := (false))
   ·
    refine Ref.sk ?_
    refine Ref.sq ?_
    refine Ref.sq ?_
    refine Ref.rn 3 ?_
    refine RefR.e0 (st' := ⟨[(0, .c (E25.tree a0)), (1, .c (E25.tree a1)), sI 5 0], [], [], 0⟩) 0 1 1 [0, 1, 5] [] ?_
    refine RefR.nl 1 ?_
    refine Ref.ce (.block 0 (cd (bd Tryz.f26) [1, 1, 0, 1, 0])) ?_
    refine Ref.block (go1 := fun u16 => ⟨[], [], [], 0⟩) ?_ (fun _ h => by cases h) (fun u16 => ?_)
    ·
     refine Ref.ce (.loop (cd (bd Tryz.f26) [1, 1, 0, 1, 0, 0])) ?_
     refine Ref.loop (hd := fun u21 => ⟨[(0, .c (E25.tree a0)), (1, .c (E25.tree a1)), sI 5 u21], [], [], 0⟩) K (0) (by kernel_rfl) (fun u21 => ?_)
     refine Ref.sq ?_
     refine Ref.sq ?_
     refine Ref.rn 4 ?_
     refine RefR.e0 (st' := ⟨[(0, .c (E25.tree a0)), (1, .c (E25.tree a1)), sI 5 u21, sB 14 (decide ((u21 : Int) < (Int.ofNat a0.length)))], [], [], 0⟩) 0 4 4 [0, 1, 5, 14] [] ?_
     refine RefR.letC (stf := fun x27 => ⟨[(0, .c (E25.tree a0)), (1, .c (E25.tree a1)), sI 5 u21, sB 14 x27], [], [], 0⟩) (by kernel_rfl) (fun x27 => ?_)
     refine RefR.nl 4 ?_
     refine Ref.cn (.tmp 14) x27 (fun hc => ?_) (fun hc => ?_)
     ·
      refine Ref.sk ?_
      refine Ref.sq ?_
      refine Ref.ce (.block 1 (cd (bd Tryz.f26) [1, 1, 0, 1, 0, 0, 1, 0, 0])) ?_
      refine Ref.block (go1 := fun u29 => ⟨[(0, .c (E25.tree a0)), (1, .c (E25.tree a1)), sI 5 u21], [], [], 0⟩) ?_ (fun a => match a with | .inl _ => (fun h => by cases h) | .inr _ => (fun h => by cases h)) (fun u29 => ?_)
      ·
       refine Ref.sq ?_
       refine Ref.drawnY 6 (by kernel_rfl) (by kernel_rfl) ?_
       refine RefY.evC0 (st' := ⟨[(0, .c (E25.tree a0)), (1, .c (E25.tree a1)), sI 5 u21, (17, .c (E25.tree a0)), sI 18 u21, (21, .c (E25.tree a1)), sI 22 u21], [], [], 0⟩) (fuel' := 6) [0, 1, 4, 5] [0, 1, 5, 17, 18, 21, 22] [] rfl (by kernel_rfl) (by kernel_rfl) ?_
       refine RefY.toX [] ?_
       refine RefX.v1 (fuel' := 2) [inb u21 a0.length, inb u21 a1.length] [2, 3, 6, 7] [0, 1, 5, 20, 24] [] ?_
       refine RefX.lookC (t := 25) (g := []) (b := true) (fuel' := 1) 8 [] (default : Bool) rfl (by kernel_rfl) (by kernel_rfl) (ih11 (a0.getD (u21 : Int).toNat default) (a1.getD (u21 : Int).toNat default)) (fun _ => rfl) (fun r30 => ?_)
       refine RefX.evC0 (st' := ⟨[(0, .c (E25.tree a0)), (1, .c (E25.tree a1)), sI 5 u21, sB 26 (!r30)], [], [], 0⟩) (fuel' := 0) [9] [0, 1, 5, 26] [] rfl (by kernel_rfl) (by kernel_rfl) ?_
       refine RefX.done (by kernel_rfl) ?_
       refine Ref.cn (.tmp 26) (!r30) (fun hc => ?_) (fun hc => ?_)
       ·
        refine Ref.sq ?_
        refine Ref.rn 7 ?_
        refine RefR.e0 (st' := ⟨[sB 4 false], [], [], 0⟩) 0 1 1 [4] [] ?_
        refine RefR.nl 1 ?_
        exact Ref.rt (t := (Sum.inr (Sum.inr (false))))
       ·
        refine Ref.sk ?_
        refine Ref.ck ⟨[(0, .c (E25.tree a0)), (1, .c (E25.tree a1)), sI 5 u21], [], [], 0⟩ [0, 1, 5] [] ?_
        exact Ref.n0 (t := ())
      ·
       refine Ref.rn 5 ?_
       refine RefR.e0 (st' := ⟨[(0, .c (E25.tree a0)), (1, .c (E25.tree a1)), sI 5 (IntKind.i64.wrap (u21 + 1))], [], [], 0⟩) 0 3 3 [0, 1, 5] [] ?_
       refine RefR.nl 3 ?_
       exact Ref.n0 (t := ((IntKind.i64.wrap (u21 + 1))))
     ·
      refine Ref.ck ⟨[], [], [], 0⟩ [] [] ?_
      exact Ref.xt 0 (t := (Sum.inl ()))
    ·
     refine Ref.sq ?_
     refine Ref.rn 8 ?_
     refine RefR.e0 (st' := ⟨[sB 4 true], [], [], 0⟩) 0 1 1 [4] [] ?_
     refine RefR.nl 1 ?_
     exact Ref.rt (t := (true))
theorem F26_ok (K : Nat) (a0 : (List S25)) (a1 : (List S25)) : DFun Tryz.prog 26 [.c (E25.tree a0), .c (E25.tree a1)] [] (fnS (F26 K a0 a1)) (fun r => .c (.val (.bool r))) (fun r => []) := (G11_ok K).2 a0 a1
def F17 (K : Nat) (a0 : (List Int)) (a1 : (List Int)) : Option ((Bool) ⊕ (Bool)) :=
 (letV (((Int.ofNat a0.length) : Int) != (Int.ofNat a1.length)) (fun (x1 : Bool) => (if x1 = true then (some (.inl (false))) else (bindS (blockS ((iter K (fun (u21 : Int) => (letV (decide ((u21 : Int) < (Int.ofNat a0.length))) (fun (x27 : Bool) => (if x27 = true then (bindS (blockS (chk [inb u21 a0.length, inb u21 a1.length] (letV (((a0.getD (u21 : Int).toNat default) : Int) != (a1.getD (u21 : Int).toNat default)) (fun (x30 : Bool) => (if x30 = true then (some (.inl (Sum.inr (Sum.inr (false))))) else (some (.inr ()))))))) (fun (u29 : Unit) => (some (.inr ((IntKind.i64.wrap (u21 + 1))))))) else (some (.inl (Sum.inl ()))))))) (0)).map .inl)) (fun (u16 : Unit) => (some (.inl (true))))))))
theorem F17_ok (K : Nat) (a0 : (List Int)) (a1 : (List Int)) : DFun Tryz.prog 17 [.c (E3.tree a0), .c (E3.tree a1)] [] (fnS (F17 K a0 a1)) (fun r => .c (.val (.bool r))) (fun r => []) := by
 refine DFun.it Tryz.f17 (fun r => ⟨[sB 4 r], [], [], 0⟩) ?_
 unfold F17
 refine Ref.sq ?_
 refine Ref.rn 0 ?_
 refine RefR.e0 (st' := ⟨[(0, .c (E3.tree a0)), (1, .c (E3.tree a1))], [], [], 0⟩) 0 1 1 [0, 1] [] ?_
 refine RefR.nl 1 ?_
 refine Ref.sq ?_
 refine Ref.sq ?_
 refine Ref.rn 1 ?_
 refine RefR.e0 (st' := ⟨[(0, .c (E3.tree a0)), (1, .c (E3.tree a1)), sB 10 (((Int.ofNat a0.length) : Int) != (Int.ofNat a1.length))], [], [], 0⟩) 0 5 5 [0, 1, 10] [] ?_
 refine RefR.letC (stf := fun x1 => ⟨[(0, .c (E3.tree a0)), (1, .c (E3.tree a1)), sB 10 x1], [], [], 0⟩) (by kernel_rfl) (fun x1 => ?_)
 refine RefR.nl 5 ?_
 refine Ref.cn (.tmp 10) x1 (fun hc => ?_) (fun hc => ?_)
 ·
  refine Ref.sq ?_
  refine Ref.rn 2 ?_
  refine RefR.e0 (st' := ⟨[sB 4 false], [], [], 0⟩) 0 1 1 [4] [] ?_
  refine RefR.nl 1 ?_
  exact Ref.rt (t := (false))
 ·
  refine Ref.sk ?_
  refine Ref.sq ?_
  refine Ref.sq ?_
  refine Ref.rn 3 ?_
  refine RefR.e0 (st' := ⟨[(0, .c (E3.tree a0)), (1, .c (E3.tree a1)), sI 5 0], [], [], 0⟩) 0 1 1 [0, 1, 5] [] ?_
  refine RefR.nl 1 ?_
  refine Ref.ce (.block 0 (cd (bd Tryz.f17) [1, 1, 0, 1, 0])) ?_
  refine Ref.block (go1 := fun u16 => ⟨[], [], [], 0⟩) ?_ (fun _ h => by cases h) (fun u16 => ?_)
  ·
   refine Ref.ce (.loop (cd (bd Tryz.f17) [1, 1, 0, 1, 0, 0])) ?_
   refine Ref.loop (hd := fun u21 => ⟨[(0, .c (E3.tree a0)), (1, .c (E3.tree a1)), sI 5 u21], [], [], 0⟩) K (0) (by kernel_rfl) (fun u21 => ?_)
   refine Ref.sq ?_
   refine Ref.sq ?_
   refine Ref.rn 4 ?_
   refine RefR.e0 (st' := ⟨[(0, .c (E3.tree a0)), (1, .c (E3.tree a1)), sI 5 u21, sB 14 (decide ((u21 : Int) < (Int.ofNat a0.length)))], [], [], 0⟩) 0 4 4 [0, 1, 5, 14] [] ?_
   refine RefR.letC (stf := fun x27 => ⟨[(0, .c (E3.tree a0)), (1, .c (E3.tree a1)), sI 5 u21, sB 14 x27], [], [], 0⟩) (by kernel_rfl) (fun x27 => ?_)
   refine RefR.nl 4 ?_
   refine Ref.cn (.tmp 14) x27 (fun hc => ?_) (fun hc => ?_)
   ·
    refine Ref.sk ?_
    refine Ref.sq ?_
    refine Ref.ce (.block 1 (cd (bd Tryz.f17) [1, 1, 0, 1, 0, 0, 1, 0, 0])) ?_
    refine Ref.block (go1 := fun u29 => ⟨[(0, .c (E3.tree a0)), (1, .c (E3.tree a1)), sI 5 u21], [], [], 0⟩) ?_ (fun a => match a with | .inl _ => (fun h => by cases h) | .inr _ => (fun h => by cases h)) (fun u29 => ?_)
    ·
     refine Ref.sq ?_
     refine Ref.drawnY 6 (by kernel_rfl) (by kernel_rfl) ?_
     refine RefY.evC (vs := [inb u21 a0.length, inb u21 a1.length]) (st' := ⟨[(0, .c (E3.tree a0)), (1, .c (E3.tree a1)), sI 5 u21, (19, .c (E3.ep (a0.getD (u21 : Int).toNat default) 0)), (23, .c (E3.ep (a1.getD (u21 : Int).toNat default) 0))], [], [], 0⟩) (fuel' := 3) [0, 1, 2, 4, 5, 6] [0, 1, 5, 19, 23] [] rfl (by kernel_rfl) (by kernel_rfl) ?_
     refine RefY.toX [] ?_
     refine RefX.evC0 (st' := ⟨[(0, .c (E3.tree a0)), (1, .c (E3.tree a1)), sI 5 u21, sB 25 (((a0.getD (u21 : Int).toNat default) : Int) != (a1.getD (u21 : Int).toNat default))], [], [], 0⟩) (fuel' := 0) [3, 7, 8] [0, 1, 5, 25] [] rfl (by kernel_rfl) (by kernel_rfl) ?_
     refine RefX.letC (stf := fun x30 => ⟨[(0, .c (E3.tree a0)), (1, .c (E3.tree a1)), sI 5 u21, sB 25 x30], [], [], 0⟩) (by kernel_rfl) (fun x30 => ?_)
     refine RefX.done (by kernel_rfl) ?_
     refine Ref.cn (.tmp 25) x30 (fun hc => ?_) (fun hc => ?_)
     ·
      refine Ref.sq ?_
      refine Ref.rn 7 ?_
      refine RefR.e0 (st' := ⟨[sB 4 false], [], [], 0⟩) 0 1 1 [4] [] ?_
      refine RefR.nl 1 ?_
      exact Ref.rt (t := (Sum.inr (Sum.inr (false))))
     ·
      refine Ref.sk ?_
      refine Ref.ck ⟨[(0, .c (E3.tree a0)), (1, .c (E3.tree a1)), sI 5 u21], [], [], 0⟩ [0, 1, 5] [] ?_
      exact Ref.n0 (t := ())
    ·
     refine Ref.rn 5 ?_
     refine RefR.e0 (st' := ⟨[(0, .c (E3.tree a0)), (1, .c (E3.tree a1)), sI 5 (IntKind.i64.wrap (u21 + 1))], [], [], 0⟩) 0 3 3 [0, 1, 5] [] ?_
     refine RefR.nl 3 ?_
     exact Ref.n0 (t := ((IntKind.i64.wrap (u21 + 1))))
   ·
    refine Ref.ck ⟨[], [], [], 0⟩ [] [] ?_
    exact Ref.xt 0 (t := (Sum.inl ()))
  ·
   refine Ref.sq ?_
   refine Ref.rn 8 ?_
   refine RefR.e0 (st' := ⟨[sB 4 true], [], [], 0⟩) 0 1 1 [4] [] ?_
   refine RefR.nl 1 ?_
   exact Ref.rt (t := (true))
def F16 (K : Nat) (a0 : Int) (a1 : Int) : Option ((Int) ⊕ (Int)) :=
 (chk [!((IntKind.u64.wrap a1) == 0)] (letV (IntKind.i64.wrap (((IntKind.u64.wrap a0) : Int).tmod (IntKind.u64.wrap a1))) (fun (x1 : Int) => (some (.inl (x1))))))
theorem F16_ok (K : Nat) (a0 : Int) (a1 : Int) : DFun Tryz.prog 16 [.c (.val (.int .i64 a0)), .c (.val (.int .i64 a1))] [] (fnS (F16 K a0 a1)) (fun r => .c (.val (.int .i64 r))) (fun r => []) := by
 refine DFun.it Tryz.f16 (fun r => ⟨[sI 4 r], [], [], 0⟩) ?_
 unfold F16
 refine Ref.sq ?_
 refine Ref.rn 0 ?_
 refine RefR.e0 (st' := ⟨[sI 0 a0, sI 1 a1], [], [], 0⟩) 0 1 1 [0, 1] [] ?_
 refine RefR.nl 1 ?_
 refine Ref.sq ?_
 refine Ref.rn 1 ?_
 refine RefR.evC (vs := [!((IntKind.u64.wrap a1) == 0)]) (st' := ⟨[sI 4 (IntKind.i64.wrap (((IntKind.u64.wrap a0) : Int).tmod (IntKind.u64.wrap a1)))], [], [], 0⟩) 0 7 7 [4] [] rfl (by kernel_rfl) ?_
 refine RefR.letC (stf := fun x1 => ⟨[sI 4 x1], [], [], 0⟩) (by kernel_rfl) (fun x1 => ?_)
 refine RefR.nl 7 ?_
 exact Ref.rt (t := (x1))
def F7 (K : Nat) : Option ((Bool) ⊕ (Bool)) :=
 ((fnS (F13 K ([80, 82, 79, 71, 82, 65, 77, 32, 80, 32, 59, 32, 120, 32, 58, 61, 32, 40, 32, 97, 32, 43, 32, 49, 32, 41, 32, 42, 32, 50, 32, 59, 32, 69, 78, 68, 95, 80, 82, 79, 71, 82, 65, 77] : Bytes))).bind (fun r1 => ((fnS (F13 K ([80, 82, 79, 71, 82, 65, 77, 32, 80, 32, 59, 32, 120, 32, 58, 61, 32, 59, 32, 69, 78, 68, 95, 80, 82, 79, 71, 82, 65, 77] : Bytes))).bind (fun r2 => ((fnS (F8 K ([45, 32, 97] : Bytes))).bind (fun r3 => ((fnS (F10 K r2.2.2)).bind (fun r4 => (letV ((!errS r1.2.2) && (((Int.ofNat r1.1.fDecls.length) : Int) == 1)) (fun (x5 : Bool) => (chk [x5] ((condM true (fnS (F17 K r1.2.1 [0])) default).bind (fun r7 => (chk [!(true && r7) || inb 0 r1.1.fDecls.length] (letV ((((((true && r7) && (((Int.ofNat ((r1.1.fDecls.getD (0 : Int).toNat default).fBody).length) : Int) == 1)) && ((r4.1 : Int) == 3)) && ((r4.2 : Int) == 17)) && (!errS r3.2)) && ((r3.1.fKind : Int) == 7)) (fun (x8 : Bool) => (some (.inl (x8)))))))))))))))))))
theorem F7_ok (K : Nat) : DFun Tryz.prog 7 [] [] (fnS (F7 K)) (fun r => .c (.val (.bool r))) (fun r => []) := by
 refine DFun.it Tryz.f7 (fun r => ⟨[sB 0 r], [], [], 0⟩) ?_
 unfold F7
 refine Ref.sq ?_
 refine Ref.rn 0 ?_
 refine RefR.e0 (st' := ⟨[], [], [], 0⟩) 0 1 1 [] [] ?_
 refine RefR.nl 1 ?_
 refine Ref.sq ?_
 refine Ref.rn 1 ?_
 refine RefR.cc 12 0 1 [] (F13_ok K ([80, 82, 79, 71, 82, 65, 77, 32, 80, 32, 59, 32, 120, 32, 58, 61, 32, 40, 32, 97, 32, 43, 32, 49, 32, 41, 32, 42, 32, 50, 32, 59, 32, 69, 78, 68, 95, 80, 82, 79, 71, 82, 65, 77] : Bytes)) (fun r1 => ?_)
 refine RefR.e0 (st' := ⟨[sP 1 0 0 0, (2, .c (E3.tree r1.2.1)), (3, .c (errC r1.2.2))], [.cells (E44.cs r1.1)], [], 0⟩) 1 8 9 [1, 2, 3] [1] ?_
 refine RefR.nl 9 ?_
 refine Ref.sq ?_
 refine Ref.rn 2 ?_
 refine RefR.cc 17 0 1 [] (F13_ok K ([80, 82, 79, 71, 82, 65, 77, 32, 80, 32, 59, 32, 120, 32, 58, 61, 32, 59, 32, 69, 78, 68, 95, 80, 82, 79, 71, 82, 65, 77] : Bytes)) (fun r2 => ?_)
 refine RefR.e0 (st' := ⟨[sP 1 0 0 0, (2, .c (E3.tree r1.2.1)), (3, .c (errC r1.2.2)), (6, .c (errC r2.2.2))], [.cells (E44.cs r1.1)], [], 0⟩) 1 8 9 [1, 2, 3, 6] [0] ?_
 refine RefR.nl 9 ?_
 refine Ref.sq ?_
 refine Ref.rn 3 ?_
 refine RefR.cc 22 0 1 [] (F8_ok K ([45, 32, 97] : Bytes)) (fun r3 => ?_)
 refine RefR.e0 (st' := ⟨[sP 1 0 0 0, (2, .c (E3.tree r1.2.1)), (3, .c (errC r1.2.2)), (6, .c (errC r2.2.2)), sP 7 1 0 0, (8, .c (errC r3.2))], [.cells (E44.cs r1.1), E25.o r3.1], [], 0⟩) 1 6 7 [1, 2, 3, 6, 7, 8] [0, 2] ?_
 refine RefR.nl 7 ?_
 refine Ref.sq ?_
 refine Ref.rn 4 ?_
 refine RefR.e1 0 1 1 [1, 2, 3, 7, 8, 26] [0, 1] ?_
 refine RefR.cc 27 1 2 [] (F10_ok K r2.2.2) (fun r4 => ?_)
 refine RefR.e0 (st' := ⟨[sP 1 0 0 0, (2, .c (E3.tree r1.2.1)), (3, .c (errC r1.2.2)), sP 7 1 0 0, (8, .c (errC r3.2)), sI 9 r4.1, sI 10 r4.2], [.cells (E44.cs r1.1), E25.o r3.1], [], 0⟩) 2 5 7 [1, 2, 3, 7, 8, 9, 10] [0, 1] ?_
 refine RefR.nl 7 ?_
 refine Ref.sq ?_
 refine Ref.rn 5 ?_
 refine RefR.e0 (st' := ⟨[sP 1 0 0 0, sP 7 1 0 0, (8, .c (errC r3.2)), sI 9 r4.1, sI 10 r4.2, sB 38 ((!errS r1.2.2) && (((Int.ofNat r1.1.fDecls.length) : Int) == 1)), (39, .c (E3.tree r1.2.1))], [.cells (E44.cs r1.1), E25.o r3.1], [(39, [(38, true)])], 0⟩) 0 10 10 [1, 7, 8, 9, 10, 38, 39] [0, 1] ?_
 refine RefR.letC (stf := fun x5 => ⟨[sP 1 0 0 0, sP 7 1 0 0, (8, .c (errC r3.2)), sI 9 r4.1, sI 10 r4.2, sB 38 x5, (39, .c (E3.tree r1.2.1))], [.cells (E44.cs r1.1), E25.o r3.1], [(39, [(38, true)])], 0⟩) (by kernel_rfl) (fun x5 => ?_)
 refine RefR.assumeC (b := x5) (stf := fun v6 => ⟨[sP 1 0 0 0, sP 7 1 0 0, (8, .c (errC r3.2)), sI 9 r4.1, sI 10 r4.2, sB 38 v6, (39, .c (E3.tree r1.2.1))], [.cells (E44.cs r1.1), E25.o r3.1], [(39, [(38, true)])], 0⟩) (by kernel_rfl) ?_
 refine RefR.conv (Conv.clear (by kernel_rfl)) ?_
 refine RefR.unguard 10 (by kernel_rfl) (by kernel_rfl) ?_
 refine RefR.e0 (st' := ⟨[sP 1 0 0 0, sP 7 1 0 0, (8, .c (errC r3.2)), sI 9 r4.1, sI 10 r4.2, sB 38 true, (39, .c (E3.tree r1.2.1)), (40, .c (.own 2 1))], [.cells (E44.cs r1.1), E25.o r3.1, .row 3 1 1 (tbl [[iC 0]])], [], 0⟩) 10 1 11 [1, 7, 8, 9, 10, 38, 39, 40] [0, 1, 2] ?_
 refine RefR.conv (Conv.ob 2 (E3.row [0]) (El.row_build E3 [0] rfl (by kernel_rfl))) ?_
 refine RefR.conv (Conv.sl 40 (.c (.own 2 ([0].length))) (DLe.c (CLe.own (by simp <;> omega)))) ?_
 refine RefR.lookC (t := 41) (g := [(38, true)]) (b := true) 11 12 [2] (default : Bool) rfl (by kernel_rfl) (F17_ok K r1.2.1 [0]) (fun _ => rfl) (fun r7 => ?_)
 refine RefR.evC (vs := [!(true && r7) || inb 0 r1.1.fDecls.length]) (st' := ⟨[sB 0 ((((((true && r7) && (((Int.ofNat ((r1.1.fDecls.getD (0 : Int).toNat default).fBody).length) : Int) == 1)) && ((r4.1 : Int) == 3)) && ((r4.2 : Int) == 17)) && (!errS r3.2)) && ((r3.1.fKind : Int) == 7))], [], [], 0⟩) 12 28 40 [0] [] rfl (by kernel_rfl) ?_
 refine RefR.letC (stf := fun x8 => ⟨[sB 0 x8], [], [], 0⟩) (by kernel_rfl) (fun x8 => ?_)
 refine RefR.nl 40 ?_
 exact Ref.rt (t := (x8))
end Go.Proofs.YtphnfaabcnciiaaGreatDoor
