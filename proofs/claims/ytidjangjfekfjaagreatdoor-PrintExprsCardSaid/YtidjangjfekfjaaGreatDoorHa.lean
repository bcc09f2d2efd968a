/- Plain functions, and that the Go functions do what these do: printed by gen2.py. No conditions. -/
import Derived.Test.YtidjangjfekfjaaGreatDoorLCe
import Derived.Test.YtidjangjfekfjaaGreatDoorProg
set_option linter.unusedVariables false
set_option linter.unusedSimpArgs false
set_option linter.unusedSectionVars false
namespace Go.Proofs.YtidjangjfekfjaaGreatDoor
open Go Go.Proofs Go.Dl
set_option maxRecDepth 100000
set_option maxHeartbeats 4000000
def F45 (K : Nat) (a0 : Int) (a1 : (List Bytes)) : Option ((Bytes) ⊕ (Bytes)) :=
 (letV ((decide ((a0 : Int) < 1)) || (decide ((a0 : Int) > (Int.ofNat a1.length)))) (fun (x1 : Bool) => (if x1 = true then (some (.inl (([63] : Bytes)))) else (chk [inb (IntKind.i64.wrap (a0 - 1)) a1.length] (letV (a1.getD ((IntKind.i64.wrap (a0 - 1)) : Int).toNat default) (fun (x2 : Bytes) => (some (.inl (x2)))))))))
theorem F45_ok (K : Nat) (a0 : Int) (a1 : (List Bytes)) : DFun Tryz.prog 45 [.c (.val (.int .i64 a0)), .c (E9.tree a1)] [] (fnS (F45 K a0 a1)) (fun r => .c (.str r)) (fun r => []) := by
 refine DFun.it Tryz.f45 (fun r => ⟨[sS 4 r], [], [], 0⟩) ?_
 unfold F45
 refine Ref.sq ?_
 refine Ref.rn 0 ?_
 refine RefR.e0 (st' := ⟨[sI 0 a0, (1, .c (E9.tree a1))], [], [], 0⟩) 0 1 1 [0, 1] [] ?_
 refine RefR.nl 1 ?_
 refine Ref.sq ?_
 refine Ref.sq ?_
 refine Ref.rn 1 ?_
 refine RefR.e0 (st' := ⟨[sI 0 a0, (1, .c (E9.tree a1)), sB 12 ((decide ((a0 : Int) < 1)) || (decide ((a0 : Int) > (Int.ofNat a1.length))))], [], [], 0⟩) 0 8 8 [0, 1, 12] [] ?_
 refine RefR.letC (stf := fun x1 => ⟨[sI 0 a0, (1, .c (E9.tree a1)), sB 12 x1], [], [], 0⟩) (by kernel_rfl) (fun x1 => ?_)
 refine RefR.nl 8 ?_
 refine Ref.cn (.tmp 12) x1 (fun hc => ?_) (fun hc => ?_)
 ·
  refine Ref.sq ?_
  refine Ref.rn 2 ?_
  refine RefR.e0 (st' := ⟨[sS 4 ([63] : Bytes)], [], [], 0⟩) 0 1 1 [4] [] ?_
  refine RefR.nl 1 ?_
  exact Ref.rt (t := (([63] : Bytes)))
 ·
  refine Ref.sk ?_
  refine Ref.sq ?_
  refine Ref.rn 3 ?_
  refine RefR.evC (vs := [inb (IntKind.i64.wrap (a0 - 1)) a1.length]) (st' := ⟨[sS 4 (a1.getD ((IntKind.i64.wrap (a0 - 1)) : Int).toNat default)], [], [], 0⟩) 0 6 6 [4] [] rfl (by kernel_rfl) ?_
  refine RefR.letC (stf := fun x2 => ⟨[sS 4 x2], [], [], 0⟩) (by kernel_rfl) (fun x2 => ?_)
  refine RefR.nl 6 ?_
  exact Ref.rt (t := (x2))
def F43 (K : Nat) (a0 : S60) (a1 : (List Bytes)) : Option ((S60) ⊕ (S60)) :=
 (chk [room ((a0.fl.length + a1.length) * 16)] (some (.inr ((⟨(a0.fl ++ a1)⟩ : S60)))))
theorem F43_ok (K : Nat) (a0 : S60) (a1 : (List Bytes)) : DFun Tryz.prog 43 [.c (.ptr 0 0 0), .c (E9.tree a1)] [.cells [.own 1 a0.fl.length], E9.row a0.fl] (fnS (F43 K a0 a1)) (fun r => .tup []) (fun r => [.cells [.own 2 r.fl.length], .dead, E9.row r.fl]) := by
 refine DFun.it Tryz.f43 (fun r => ⟨[], [.cells [.own 2 r.fl.length], .dead, E9.row r.fl], [], 2⟩) ?_
 unfold F43
 refine Ref.rn 0 ?_
 refine RefR.e0 (st' := ⟨[sP 4 0 0 0, (8, .c (.own 1 a0.fl.length)), (9, .c (E9.tree a1))], [.cells [.own 1 a0.fl.length], E9.row a0.fl], [], 2⟩) 0 6 6 [4, 8, 9] [0, 1] ?_
 refine RefR.evC (vs := [room ((a0.fl.length + a1.length) * 16)]) (st' := ⟨[sP 4 0 0 0, (10, .c (.own 2 (a0.fl.length + a1.length)))], [.cells [.own 1 a0.fl.length], .dead, .row 9 1 (a0.fl.length + a1.length) fun i j => bif Nat.blt i a0.fl.length then E9.at a0.fl i j else (E9.at a1) (i - a0.fl.length) j], [], 2⟩) 6 1 7 [4, 10] [0, 1, 2] rfl (by kernel_rfl) ?_
 refine RefR.conv (Conv.ob 2 (E9.row (a0.fl ++ a1)) (El.row_append E9 a0.fl a1 rfl rfl)) ?_
 refine RefR.conv (Conv.sl 10 (.c (.own 2 ((a0.fl ++ a1).length))) (DLe.c (CLe.own (by simp <;> omega)))) ?_
 refine RefR.e0 (st' := ⟨[], [.cells [.own 2 ((a0.fl ++ a1).length)], .dead, E9.row (a0.fl ++ a1)], [], 2⟩) 7 3 10 [] [0, 1, 2] ?_
 refine RefR.nl 10 ?_
 exact Ref.n0 (t := ((⟨(a0.fl ++ a1)⟩ : S60)))
def F42 (K : Nat) (a0 : S60) (a1 : Int) : Option ((S60) ⊕ (S60)) :=
 ((fnS (F73 K a1)).bind (fun r1 => (bindS (if (decide ((a1 : Int) < 0)) = true then ((fnS (F43 K (⟨a0.fl⟩ : S60) ([[45]] : List Bytes))).bind (fun r5 => (chk [bndOk r1.length 1 (Int.ofNat r1.length)] (letV ((r1.drop (1 : Int).toNat).take (((Int.ofNat r1.length) : Int).toNat - (1 : Int).toNat)) (fun (x6 : Bytes) => (some (.inr (r5.fl, x6)))))))) else (some (.inr (a0.fl, r1)))) (fun (u4 : (List Bytes) × Bytes) => ((fnS (F43 K (⟨u4.1⟩ : S60) [u4.2])).bind (fun r7 => (some (.inr ((⟨r7.fl⟩ : S60))))))))))
theorem F42_ok (K : Nat) (a0 : S60) (a1 : Int) : DFun Tryz.prog 42 [.c (.ptr 0 0 0), .c (.val (.int .i64 a1))] [.cells [.own 1 a0.fl.length], E9.row a0.fl] (fnS (F42 K a0 a1)) (fun r => .tup []) (fun r => [.cells [.own 2 r.fl.length], .dead, E9.row r.fl]) := by
 refine DFun.it Tryz.f42 (fun r => ⟨[], [.cells [.own 2 r.fl.length], .dead, E9.row r.fl], [], 2⟩) ?_
 unfold F42
 refine Ref.sq ?_
 refine Ref.rn 0 ?_
 refine RefR.e1 0 1 1 [0, 1, 5] [0, 1] ?_
 refine RefR.cc 6 1 2 [] (F73_ok K a1) (fun r1 => ?_)
 refine RefR.e0 (st' := ⟨[sP 0 0 0 0, sI 1 a1, sS 4 r1], [.cells [.own 1 a0.fl.length], E9.row a0.fl], [], 2⟩) 2 1 3 [0, 1, 4] [0, 1] ?_
 refine RefR.nl 3 ?_
 refine Ref.sq ?_
 refine Ref.sq ?_
 refine Ref.rn 1 ?_
 refine RefR.e0 (st' := ⟨[sP 0 0 0 0, sS 4 r1, sB 8 (decide ((a1 : Int) < 0))], [.cells [.own 1 a0.fl.length], E9.row a0.fl], [], 2⟩) 0 2 2 [0, 4, 8] [0, 1] ?_
 refine RefR.nl 2 ?_
 refine Ref.bind (go1 := fun u4 => ⟨[sP 0 0 0 0, sS 4 u4.2], [.cells [.own 2 u4.1.length], .dead, E9.row u4.1], [], 2⟩) ?_ (fun u4 => ?_)
 ·
  refine Ref.cn (.tmp 8) (decide ((a1 : Int) < 0)) (fun hc => ?_) (fun hc => ?_)
  ·
   refine Ref.sq ?_
   refine Ref.rn 2 ?_
   refine RefR.e0 (st' := ⟨[sP 0 0 0 0, sS 4 r1, sP 9 0 0 0], [.cells [.own 1 a0.fl.length], E9.row a0.fl], [], 2⟩) 0 1 1 [0, 4, 9] [0, 1] ?_
   refine RefR.li 10 [] E9 ([[45]] : List Bytes) 1 2 ?_
   refine RefR.cc 11 2 3 [0, 1] (F43_ok K (⟨a0.fl⟩ : S60) ([[45]] : List Bytes)) (fun r5 => ?_)
   refine RefR.nl 3 ?_
   refine Ref.rn 3 ?_
   refine RefR.evC (vs := [bndOk r1.length 1 (Int.ofNat r1.length)]) (st' := ⟨[sP 0 0 0 0, sS 4 ((r1.drop (1 : Int).toNat).take (((Int.ofNat r1.length) : Int).toNat - (1 : Int).toNat))], [.cells [.own 2 r5.fl.length], .dead, E9.row r5.fl], [], 2⟩) 0 3 3 [0, 4] [0, 1, 3] rfl (by kernel_rfl) ?_
   refine RefR.letC (stf := fun x6 => ⟨[sP 0 0 0 0, sS 4 x6], [.cells [.own 2 r5.fl.length], .dead, E9.row r5.fl], [], 2⟩) (by kernel_rfl) (fun x6 => ?_)
   refine RefR.nl 3 ?_
   exact Ref.n0 (t := (r5.fl, x6))
  ·
   refine Ref.sk ?_
   refine Ref.conv (Conv.move (st' := ⟨[sP 0 0 0 0, sS 4 r1, sB 8 (decide ((a1 : Int) < 0))], [.cells [.own 2 a0.fl.length], .dead, E9.row a0.fl], [], 2⟩) 1 (by kernel_rfl) (by kernel_rfl)) ?_
   refine Ref.ck ⟨[sP 0 0 0 0, sS 4 r1], [.cells [.own 2 a0.fl.length], .dead, E9.row a0.fl], [], 2⟩ [0, 4] [0, 1, 2] ?_
   exact Ref.n0 (t := (a0.fl, r1))
 ·
  refine Ref.rn 4 ?_
  refine RefR.e0 (st' := ⟨[sP 14 0 0 0, sS 15 u4.2], [.cells [.own 2 u4.1.length], .dead, E9.row u4.1], [], 2⟩) 0 2 2 [14, 15] [0, 1, 2] ?_
  refine RefR.e0 (st' := ⟨[sP 14 0 0 0, (16, .c (.own 3 1))], [.cells [.own 2 u4.1.length], .dead, E9.row u4.1, .row 9 1 1 (tbl [[.str u4.2]])], [], 2⟩) 2 1 3 [14, 16] [0, 1, 2, 3] ?_
  refine RefR.conv (Conv.ob 3 (E9.row [u4.2]) (El.row_build E9 [u4.2] rfl (by kernel_rfl))) ?_
  refine RefR.conv (Conv.sl 16 (.c (.own 3 ([u4.2].length))) (DLe.c (CLe.own (by simp <;> omega)))) ?_
  refine RefR.conv (Conv.freeze (st' := ⟨[(16, .c (E9.tree [u4.2])), sP 14 0 0 0], [.cells [.own 2 u4.1.length], .dead, E9.row u4.1, .dead], [], 2⟩) 3 (by kernel_rfl)) ?_
  refine RefR.cc 17 3 4 [0, 2] (F43_ok K (⟨u4.1⟩ : S60) [u4.2]) (fun r7 => ?_)
  refine RefR.nl 4 ?_
  refine Ref.ck ⟨[], [.cells [.own 2 r7.fl.length], .dead, E9.row r7.fl], [], 2⟩ [] [0, 1, 4] ?_
  exact Ref.n0 (t := ((⟨r7.fl⟩ : S60)))
def F32 (K : Nat) (a0 : S60) (a1 : S44) : Option ((S60) ⊕ (S60)) :=
 (bindS (blockS (bindS (blockS (bindS (blockS (bindS (blockS (bindS (blockS (bindS (blockS (bindS (blockS (bindS (blockS (bindS (blockS (if ((a1.fKind : Int) == 1) = true then (some (.inl (Sum.inl ()))) else (if ((a1.fKind : Int) == 2) = true then (some (.inl (Sum.inr (Sum.inl ())))) else (if ((a1.fKind : Int) == 3) = true then (some (.inl (Sum.inr (Sum.inr (Sum.inl ()))))) else (if ((a1.fKind : Int) == 4) = true then (some (.inl (Sum.inr (Sum.inr (Sum.inr (Sum.inl ())))))) else (if ((a1.fKind : Int) == 5) = true then (some (.inl (Sum.inr (Sum.inr (Sum.inr (Sum.inr (Sum.inl ()))))))) else (if ((a1.fKind : Int) == 6) = true then (some (.inl (Sum.inr (Sum.inr (Sum.inr (Sum.inr (Sum.inr (Sum.inl (a0.fl))))))))) else (if ((a1.fKind : Int) == 7) = true then (some (.inl (Sum.inr (Sum.inr (Sum.inr (Sum.inr (Sum.inr (Sum.inr (Sum.inl ()))))))))) else (some (.inl (Sum.inr (Sum.inr (Sum.inr (Sum.inr (Sum.inr (Sum.inr (Sum.inr (Sum.inl ())))))))))))))))))) (fun (u1330 : Unit) => ((fnS (F43 K (⟨a0.fl⟩ : S60) ([[73, 78, 84]] : List Bytes))).bind (fun r1331 => (some (.inl (Sum.inr (Sum.inr (Sum.inr (Sum.inr (Sum.inr (Sum.inr (Sum.inr (Sum.inl (r1331.fl)))))))))))))))) (fun (u1329 : Unit) => ((fnS (F43 K (⟨a0.fl⟩ : S60) ([[66, 79, 79, 76]] : List Bytes))).bind (fun r1332 => (some (.inl (Sum.inr (Sum.inr (Sum.inr (Sum.inr (Sum.inr (Sum.inr (Sum.inl (r1332.fl))))))))))))))) (fun (u1326 : Unit) => ((fnS (F43 K (⟨a0.fl⟩ : S60) ([[73, 78, 84], [40]] : List Bytes))).bind (fun r1333 => ((fnS (F42 K (⟨r1333.fl⟩ : S60) a1.fLo)).bind (fun r1334 => ((fnS (F43 K (⟨r1334.fl⟩ : S60) ([[46, 46]] : List Bytes))).bind (fun r1335 => ((fnS (F42 K (⟨r1335.fl⟩ : S60) a1.fHi)).bind (fun r1336 => ((fnS (F43 K (⟨r1336.fl⟩ : S60) ([[41]] : List Bytes))).bind (fun r1337 => (some (.inl (Sum.inr (Sum.inr (Sum.inr (Sum.inr (Sum.inr (Sum.inl (r1337.fl)))))))))))))))))))))) (fun (u1319 : Unit) => ((fnS (F43 K (⟨a0.fl⟩ : S60) ([[65, 82, 82, 65, 89], [91]] : List Bytes))).bind (fun r1338 => ((fnS (F42 K (⟨r1338.fl⟩ : S60) a1.fHi)).bind (fun r1339 => ((fnS (F43 K (⟨r1339.fl⟩ : S60) ([[93], [79, 70], [73, 78, 84]] : List Bytes))).bind (fun r1340 => (some (.inl (Sum.inr (Sum.inr (Sum.inr (Sum.inr (Sum.inl (r1340.fl))))))))))))))))) (fun (u1300 : Unit) => ((fnS (F43 K (⟨a0.fl⟩ : S60) ([[82, 69, 70, 95, 84, 79]] : List Bytes))).bind (fun r1341 => (some (.inr (r1341.fl)))))))) (fun (u1259 : (List Bytes)) => ((fnS (F43 K (⟨u1259⟩ : S60) [a1.fName])).bind (fun r1342 => (some (.inl (Sum.inr (Sum.inr (Sum.inl (r1342.fl))))))))))) (fun (u1176 : Unit) => ((fnS (F45 K a1.fLo ([[84, 79, 78], [84, 79, 70], [84, 80], [67, 84, 85], [67, 84, 68], [82, 95, 84, 82, 73, 71], [70, 95, 84, 82, 73, 71]] : List Bytes))).bind (fun r1343 => ((fnS (F43 K (⟨a0.fl⟩ : S60) [r1343])).bind (fun r1344 => (some (.inl (Sum.inr (Sum.inl (r1344.fl)))))))))))) (fun (u1009 : Unit) => ((fnS (F43 K (⟨a0.fl⟩ : S60) ([[63]] : List Bytes))).bind (fun r1345 => (some (.inl (Sum.inl (r1345.fl))))))))) (fun (u673 : (List Bytes)) => (some (.inr ((⟨u673⟩ : S60))))))
theorem F32_ok (K : Nat) (a0 : S60) (a1 : S44) : DFun Tryz.prog 32 [.c (.ptr 0 0 0), .agg (E44.cs a1)] [.cells [.own 1 a0.fl.length], E9.row a0.fl] (fnS (F32 K a0 a1)) (fun r => .tup []) (fun r => [.cells [.own 2 r.fl.length], .dead, E9.row r.fl]) := by
 refine DFun.it Tryz.f32 (fun r => ⟨[], [.cells [.own 2 r.fl.length], .dead, E9.row r.fl], [], 2⟩) ?_
 unfold F32
 refine Ref.sq ?_
 refine Ref.rn 0 ?_
 refine RefR.e0 (st' := ⟨[sP 0 0 0 0, sP 3 2 0 0], [.cells [.own 1 a0.fl.length], E9.row a0.fl, .cells (E44.cs a1)], [], 2⟩) 0 1 1 [0, 3] [0, 1, 2] ?_
 refine RefR.nl 1 ?_
 refine Ref.sq ?_
 refine Ref.rn 1 ?_
 refine RefR.e0 (st' := ⟨[sP 0 0 0 0, sP 3 2 0 0, sI 5 a1.fKind], [.cells [.own 1 a0.fl.length], E9.row a0.fl, .cells (E44.cs a1)], [], 2⟩) 0 2 2 [0, 3, 5] [0, 1, 2] ?_
 refine RefR.nl 2 ?_
 refine Ref.ce (.block 0 (cd (bd Tryz.f32) [1, 1, 0])) ?_
 refine Ref.block (go1 := fun u673 => ⟨[], [.cells [.own 2 u673.length], .dead, E9.row u673], [], 2⟩) ?_ (fun _ h => by cases h) (fun u673 => ?_)
 ·
  refine Ref.sq ?_
  refine Ref.ce (.block 8 (cd (bd Tryz.f32) [1, 1, 0, 0, 0])) ?_
  refine Ref.block (go1 := fun u1009 => ⟨[sP 0 0 0 0], [.cells [.own 1 a0.fl.length], E9.row a0.fl], [], 2⟩) ?_ (fun a => match a with | .inl _ => (fun h => by cases h) | .inr _ => (fun h => by cases h)) (fun u1009 => ?_)
  ·
   refine Ref.sq ?_
   refine Ref.ce (.block 7 (cd (bd Tryz.f32) [1, 1, 0, 0, 0, 0, 0])) ?_
   refine Ref.block (go1 := fun u1176 => ⟨[sP 0 0 0 0, sP 3 2 0 0], [.cells [.own 1 a0.fl.length], E9.row a0.fl, .cells (E44.cs a1)], [], 2⟩) ?_ (fun a => match a with | .inl _ => (fun h => by cases h) | .inr (.inl _) => (fun h => by cases h) | .inr (.inr _) => (fun h => by cases h)) (fun u1176 => ?_)
   ·
    refine Ref.sq ?_
    refine Ref.ce (.block 6 (cd (bd Tryz.f32) [1, 1, 0, 0, 0, 0, 0, 0, 0])) ?_
    refine Ref.block (go1 := fun u1259 => ⟨[sP 0 0 0 0, sP 3 3 0 0], [.cells [.own 2 u1259.length], .dead, E9.row u1259, .cells (E44.cs a1)], [], 2⟩) ?_ (fun a => match a with | .inl _ => (fun h => by cases h) | .inr (.inl _) => (fun h => by cases h) | .inr (.inr (.inl _)) => (fun h => by cases h) | .inr (.inr (.inr _)) => (fun h => by cases h)) (fun u1259 => ?_)
    ·
     refine Ref.sq ?_
     refine Ref.ce (.block 5 (cd (bd Tryz.f32) [1, 1, 0, 0, 0, 0, 0, 0, 0, 0, 0])) ?_
     refine Ref.block (go1 := fun u1300 => ⟨[sP 0 0 0 0, sP 3 2 0 0], [.cells [.own 1 a0.fl.length], E9.row a0.fl, .cells (E44.cs a1)], [], 2⟩) ?_ (fun a => match a with | .inl _ => (fun h => by cases h) | .inr (.inl _) => (fun h => by cases h) | .inr (.inr (.inl _)) => (fun h => by cases h) | .inr (.inr (.inr (.inl _))) => (fun h => by cases h) | .inr (.inr (.inr (.inr _))) => (fun h => by cases h)) (fun u1300 => ?_)
     ·
      refine Ref.sq ?_
      refine Ref.ce (.block 4 (cd (bd Tryz.f32) [1, 1, 0, 0, 0, 0, 0, 0, 0, 0, 0, 0, 0])) ?_
      refine Ref.block (go1 := fun u1319 => ⟨[sP 0 0 0 0, sP 3 2 0 0], [.cells [.own 1 a0.fl.length], E9.row a0.fl, .cells (E44.cs a1)], [], 2⟩) ?_ (fun a => match a with | .inl _ => (fun h => by cases h) | .inr (.inl _) => (fun h => by cases h) | .inr (.inr (.inl _)) => (fun h => by cases h) | .inr (.inr (.inr (.inl _))) => (fun h => by cases h) | .inr (.inr (.inr (.inr (.inl _)))) => (fun h => by cases h) | .inr (.inr (.inr (.inr (.inr _)))) => (fun h => by cases h)) (fun u1319 => ?_)
      ·
       refine Ref.sq ?_
       refine Ref.ce (.block 3 (cd (bd Tryz.f32) [1, 1, 0, 0, 0, 0, 0, 0, 0, 0, 0, 0, 0, 0, 0])) ?_
       refine Ref.block (go1 := fun u1326 => ⟨[sP 0 0 0 0, sP 3 2 0 0], [.cells [.own 1 a0.fl.length], E9.row a0.fl, .cells (E44.cs a1)], [], 2⟩) ?_ (fun a => match a with | .inl _ => (fun h => by cases h) | .inr (.inl _) => (fun h => by cases h) | .inr (.inr (.inl _)) => (fun h => by cases h) | .inr (.inr (.inr (.inl _))) => (fun h => by cases h) | .inr (.inr (.inr (.inr (.inl _)))) => (fun h => by cases h) | .inr (.inr (.inr (.inr (.inr (.inl _))))) => (fun h => by cases h) | .inr (.inr (.inr (.inr (.inr (.inr _))))) => (fun h => by cases h)) (fun u1326 => ?_)
       ·
        refine Ref.sq ?_
        refine Ref.ce (.block 2 (cd (bd Tryz.f32) [1, 1, 0, 0, 0, 0, 0, 0, 0, 0, 0, 0, 0, 0, 0, 0, 0])) ?_
        refine Ref.block (go1 := fun u1329 => ⟨[sP 0 0 0 0], [.cells [.own 1 a0.fl.length], E9.row a0.fl], [], 2⟩) ?_ (fun a => match a with | .inl _ => (fun h => by cases h) | .inr (.inl _) => (fun h => by cases h) | .inr (.inr (.inl _)) => (fun h => by cases h) | .inr (.inr (.inr (.inl _))) => (fun h => by cases h) | .inr (.inr (.inr (.inr (.inl _)))) => (fun h => by cases h) | .inr (.inr (.inr (.inr (.inr (.inl _))))) => (fun h => by cases h) | .inr (.inr (.inr (.inr (.inr (.inr (.inl _)))))) => (fun h => by cases h) | .inr (.inr (.inr (.inr (.inr (.inr (.inr _)))))) => (fun h => by cases h)) (fun u1329 => ?_)
        ·
         refine Ref.sq ?_
         refine Ref.ce (.block 1 (cd (bd Tryz.f32) [1, 1, 0, 0, 0, 0, 0, 0, 0, 0, 0, 0, 0, 0, 0, 0, 0, 0, 0])) ?_
         refine Ref.block (go1 := fun u1330 => ⟨[sP 0 0 0 0], [.cells [.own 1 a0.fl.length], E9.row a0.fl], [], 2⟩) ?_ (fun a => match a with | .inl _ => (fun h => by cases h) | .inr (.inl _) => (fun h => by cases h) | .inr (.inr (.inl _)) => (fun h => by cases h) | .inr (.inr (.inr (.inl _))) => (fun h => by cases h) | .inr (.inr (.inr (.inr (.inl _)))) => (fun h => by cases h) | .inr (.inr (.inr (.inr (.inr (.inl _))))) => (fun h => by cases h) | .inr (.inr (.inr (.inr (.inr (.inr (.inl _)))))) => (fun h => by cases h) | .inr (.inr (.inr (.inr (.inr (.inr (.inr (.inl _))))))) => (fun h => by cases h) | .inr (.inr (.inr (.inr (.inr (.inr (.inr (.inr _))))))) => (fun h => by cases h)) (fun u1330 => ?_)
         ·
          refine Ref.sq ?_
          refine Ref.sq ?_
          refine Ref.sq ?_
          refine Ref.rn 2 ?_
          refine RefR.e0 (st' := ⟨[sP 0 0 0 0, sP 3 2 0 0, sI 5 a1.fKind, sB 6 ((a1.fKind : Int) == 1)], [.cells [.own 1 a0.fl.length], E9.row a0.fl, .cells (E44.cs a1)], [], 2⟩) 0 2 2 [0, 3, 5, 6] [0, 1, 2] ?_
          refine RefR.nl 2 ?_
          refine Ref.cn (.tmp 6) ((a1.fKind : Int) == 1) (fun hc => ?_) (fun hc => ?_)
          ·
           refine Ref.ck ⟨[sP 0 0 0 0], [.cells [.own 1 a0.fl.length], E9.row a0.fl], [], 2⟩ [0] [0, 1] ?_
           exact Ref.xt 1 (t := (Sum.inl ()))
          ·
           refine Ref.sk ?_
           refine Ref.sq ?_
           refine Ref.sq ?_
           refine Ref.rn 3 ?_
           refine RefR.e0 (st' := ⟨[sP 0 0 0 0, sP 3 2 0 0, sI 5 a1.fKind, sB 8 ((a1.fKind : Int) == 2)], [.cells [.own 1 a0.fl.length], E9.row a0.fl, .cells (E44.cs a1)], [], 2⟩) 0 2 2 [0, 3, 5, 8] [0, 1, 2] ?_
           refine RefR.nl 2 ?_
           refine Ref.cn (.tmp 8) ((a1.fKind : Int) == 2) (fun hc => ?_) (fun hc => ?_)
           ·
            refine Ref.ck ⟨[sP 0 0 0 0], [.cells [.own 1 a0.fl.length], E9.row a0.fl], [], 2⟩ [0] [0, 1] ?_
            exact Ref.xt 2 (t := (Sum.inr (Sum.inl ())))
           ·
            refine Ref.sk ?_
            refine Ref.sq ?_
            refine Ref.sq ?_
            refine Ref.rn 4 ?_
            refine RefR.e0 (st' := ⟨[sP 0 0 0 0, sP 3 2 0 0, sI 5 a1.fKind, sB 10 ((a1.fKind : Int) == 3)], [.cells [.own 1 a0.fl.length], E9.row a0.fl, .cells (E44.cs a1)], [], 2⟩) 0 2 2 [0, 3, 5, 10] [0, 1, 2] ?_
            refine RefR.nl 2 ?_
            refine Ref.cn (.tmp 10) ((a1.fKind : Int) == 3) (fun hc => ?_) (fun hc => ?_)
            ·
             refine Ref.ck ⟨[sP 0 0 0 0, sP 3 2 0 0], [.cells [.own 1 a0.fl.length], E9.row a0.fl, .cells (E44.cs a1)], [], 2⟩ [0, 3] [0, 1, 2] ?_
             exact Ref.xt 3 (t := (Sum.inr (Sum.inr (Sum.inl ()))))
            ·
             refine Ref.sk ?_
             refine Ref.sq ?_
             refine Ref.sq ?_
             refine Ref.rn 5 ?_
             refine RefR.e0 (st' := ⟨[sP 0 0 0 0, sP 3 2 0 0, sI 5 a1.fKind, sB 12 ((a1.fKind : Int) == 4)], [.cells [.own 1 a0.fl.length], E9.row a0.fl, .cells (E44.cs a1)], [], 2⟩) 0 2 2 [0, 3, 5, 12] [0, 1, 2] ?_
             refine RefR.nl 2 ?_
             refine Ref.cn (.tmp 12) ((a1.fKind : Int) == 4) (fun hc => ?_) (fun hc => ?_)
             ·
              refine Ref.ck ⟨[sP 0 0 0 0, sP 3 2 0 0], [.cells [.own 1 a0.fl.length], E9.row a0.fl, .cells (E44.cs a1)], [], 2⟩ [0, 3] [0, 1, 2] ?_
              exact Ref.xt 4 (t := (Sum.inr (Sum.inr (Sum.inr (Sum.inl ())))))
             ·
              refine Ref.sk ?_
              refine Ref.sq ?_
              refine Ref.sq ?_
              refine Ref.rn 6 ?_
              refine RefR.e0 (st' := ⟨[sP 0 0 0 0, sP 3 2 0 0, sI 5 a1.fKind, sB 14 ((a1.fKind : Int) == 5)], [.cells [.own 1 a0.fl.length], E9.row a0.fl, .cells (E44.cs a1)], [], 2⟩) 0 2 2 [0, 3, 5, 14] [0, 1, 2] ?_
              refine RefR.nl 2 ?_
              refine Ref.cn (.tmp 14) ((a1.fKind : Int) == 5) (fun hc => ?_) (fun hc => ?_)
              ·
               refine Ref.ck ⟨[sP 0 0 0 0, sP 3 2 0 0], [.cells [.own 1 a0.fl.length], E9.row a0.fl, .cells (E44.cs a1)], [], 2⟩ [0, 3] [0, 1, 2] ?_
               exact Ref.xt 5 (t := (Sum.inr (Sum.inr (Sum.inr (Sum.inr (Sum.inl ()))))))
              ·
               refine Ref.sk ?_
               refine Ref.sq ?_
               refine Ref.sq ?_
               refine Ref.rn 7 ?_
               refine RefR.e0 (st' := ⟨[sP 0 0 0 0, sP 3 2 0 0, sI 5 a1.fKind, sB 16 ((a1.fKind : Int) == 6)], [.cells [.own 1 a0.fl.length], E9.row a0.fl, .cells (E44.cs a1)], [], 2⟩) 0 2 2 [0, 3, 5, 16] [0, 1, 2] ?_
               refine RefR.nl 2 ?_
               refine Ref.cn (.tmp 16) ((a1.fKind : Int) == 6) (fun hc => ?_) (fun hc => ?_)
               ·
                refine Ref.conv (Conv.move (st' := ⟨[sP 0 0 0 0, sP 3 2 0 0, sI 5 a1.fKind, sB 16 ((a1.fKind : Int) == 6)], [.cells [.own 3 a0.fl.length], .dead, .cells (E44.cs a1), E9.row a0.fl], [], 2⟩) 1 (by kernel_rfl) (by kernel_rfl)) ?_
                refine Ref.ck ⟨[sP 0 0 0 0, sP 3 3 0 0], [.cells [.own 2 a0.fl.length], .dead, E9.row a0.fl, .cells (E44.cs a1)], [], 2⟩ [0, 3] [0, 1, 3, 2] ?_
                exact Ref.xt 6 (t := (Sum.inr (Sum.inr (Sum.inr (Sum.inr (Sum.inr (Sum.inl (a0.fl))))))))
               ·
                refine Ref.sk ?_
                refine Ref.sq ?_
                refine Ref.rn 8 ?_
                refine RefR.e0 (st' := ⟨[sP 0 0 0 0, sP 3 2 0 0, sB 18 ((a1.fKind : Int) == 7)], [.cells [.own 1 a0.fl.length], E9.row a0.fl, .cells (E44.cs a1)], [], 2⟩) 0 2 2 [0, 3, 18] [0, 1, 2] ?_
                refine RefR.nl 2 ?_
                refine Ref.cn (.tmp 18) ((a1.fKind : Int) == 7) (fun hc => ?_) (fun hc => ?_)
                ·
                 refine Ref.ck ⟨[sP 0 0 0 0, sP 3 2 0 0], [.cells [.own 1 a0.fl.length], E9.row a0.fl, .cells (E44.cs a1)], [], 2⟩ [0, 3] [0, 1, 2] ?_
                 exact Ref.xt 7 (t := (Sum.inr (Sum.inr (Sum.inr (Sum.inr (Sum.inr (Sum.inr (Sum.inl ()))))))))
                ·
                 refine Ref.sk ?_
                 refine Ref.ck ⟨[sP 0 0 0 0], [.cells [.own 1 a0.fl.length], E9.row a0.fl], [], 2⟩ [0] [0, 1] ?_
                 exact Ref.xt 8 (t := (Sum.inr (Sum.inr (Sum.inr (Sum.inr (Sum.inr (Sum.inr (Sum.inr (Sum.inl ())))))))))
         ·
          refine Ref.sq ?_
          refine Ref.rn 9 ?_
          refine RefR.e0 (st' := ⟨[sP 20 0 0 0], [.cells [.own 1 a0.fl.length], E9.row a0.fl], [], 2⟩) 0 1 1 [20] [0, 1] ?_
          refine RefR.li 21 [] E9 ([[73, 78, 84]] : List Bytes) 1 2 ?_
          refine RefR.cc 22 2 3 [0, 1] (F43_ok K (⟨a0.fl⟩ : S60) ([[73, 78, 84]] : List Bytes)) (fun r1331 => ?_)
          refine RefR.nl 3 ?_
          refine Ref.ck ⟨[], [.cells [.own 2 r1331.fl.length], .dead, E9.row r1331.fl], [], 2⟩ [] [0, 1, 3] ?_
          exact Ref.xt 0 (t := (Sum.inr (Sum.inr (Sum.inr (Sum.inr (Sum.inr (Sum.inr (Sum.inr (Sum.inl (r1331.fl))))))))))
        ·
         refine Ref.sq ?_
         refine Ref.rn 10 ?_
         refine RefR.e0 (st' := ⟨[sP 23 0 0 0], [.cells [.own 1 a0.fl.length], E9.row a0.fl], [], 2⟩) 0 1 1 [23] [0, 1] ?_
         refine RefR.li 24 [] E9 ([[66, 79, 79, 76]] : List Bytes) 1 2 ?_
         refine RefR.cc 25 2 3 [0, 1] (F43_ok K (⟨a0.fl⟩ : S60) ([[66, 79, 79, 76]] : List Bytes)) (fun r1332 => ?_)
         refine RefR.nl 3 ?_
         refine Ref.ck ⟨[], [.cells [.own 2 r1332.fl.length], .dead, E9.row r1332.fl], [], 2⟩ [] [0, 1, 3] ?_
         exact Ref.xt 0 (t := (Sum.inr (Sum.inr (Sum.inr (Sum.inr (Sum.inr (Sum.inr (Sum.inl (r1332.fl)))))))))
       ·
        refine Ref.sq ?_
        refine Ref.sq ?_
        refine Ref.rn 11 ?_
        refine RefR.e0 (st' := ⟨[sP 0 0 0 0, sP 3 2 0 0, sP 26 0 0 0], [.cells [.own 1 a0.fl.length], E9.row a0.fl, .cells (E44.cs a1)], [], 2⟩) 0 1 1 [0, 3, 26] [0, 1, 2] ?_
        refine RefR.li 27 [] E9 ([[73, 78, 84], [40]] : List Bytes) 1 2 ?_
        refine RefR.cc 28 2 3 [0, 1] (F43_ok K (⟨a0.fl⟩ : S60) ([[73, 78, 84], [40]] : List Bytes)) (fun r1333 => ?_)
        refine RefR.nl 3 ?_
        refine Ref.sq ?_
        refine Ref.rn 12 ?_
        refine RefR.e1 0 3 3 [0, 3, 29, 31] [0, 1, 2, 4] ?_
        refine RefR.cc 32 3 4 [0, 3] (F42_ok K (⟨r1333.fl⟩ : S60) a1.fLo) (fun r1334 => ?_)
        refine RefR.nl 4 ?_
        refine Ref.sq ?_
        refine Ref.rn 13 ?_
        refine RefR.e0 (st' := ⟨[sP 0 0 0 0, sP 3 2 0 0, sP 33 0 0 0], [.cells [.own 3 r1334.fl.length], .dead, .cells (E44.cs a1), E9.row r1334.fl], [], 2⟩) 0 1 1 [0, 3, 33] [0, 1, 2, 4] ?_
        refine RefR.li 34 [] E9 ([[46, 46]] : List Bytes) 1 2 ?_
        refine RefR.cc 35 2 3 [0, 3] (F43_ok K (⟨r1334.fl⟩ : S60) ([[46, 46]] : List Bytes)) (fun r1335 => ?_)
        refine RefR.nl 3 ?_
        refine Ref.sq ?_
        refine Ref.rn 14 ?_
        refine RefR.e1 0 3 3 [0, 36, 38] [0, 1, 5] ?_
        refine RefR.cc 39 3 4 [0, 2] (F42_ok K (⟨r1335.fl⟩ : S60) a1.fHi) (fun r1336 => ?_)
        refine RefR.nl 4 ?_
        refine Ref.rn 15 ?_
        refine RefR.e0 (st' := ⟨[sP 40 0 0 0], [.cells [.own 2 r1336.fl.length], .dead, E9.row r1336.fl], [], 2⟩) 0 1 1 [40] [0, 1, 3] ?_
        refine RefR.li 41 [] E9 ([[41]] : List Bytes) 1 2 ?_
        refine RefR.cc 42 2 3 [0, 2] (F43_ok K (⟨r1336.fl⟩ : S60) ([[41]] : List Bytes)) (fun r1337 => ?_)
        refine RefR.nl 3 ?_
        refine Ref.ck ⟨[], [.cells [.own 2 r1337.fl.length], .dead, E9.row r1337.fl], [], 2⟩ [] [0, 1, 4] ?_
        exact Ref.xt 0 (t := (Sum.inr (Sum.inr (Sum.inr (Sum.inr (Sum.inr (Sum.inl (r1337.fl))))))))
      ·
       refine Ref.sq ?_
       refine Ref.sq ?_
       refine Ref.rn 16 ?_
       refine RefR.e0 (st' := ⟨[sP 0 0 0 0, sP 3 2 0 0, sP 43 0 0 0], [.cells [.own 1 a0.fl.length], E9.row a0.fl, .cells (E44.cs a1)], [], 2⟩) 0 1 1 [0, 3, 43] [0, 1, 2] ?_
       refine RefR.li 44 [] E9 ([[65, 82, 82, 65, 89], [91]] : List Bytes) 1 2 ?_
       refine RefR.cc 45 2 3 [0, 1] (F43_ok K (⟨a0.fl⟩ : S60) ([[65, 82, 82, 65, 89], [91]] : List Bytes)) (fun r1338 => ?_)
       refine RefR.nl 3 ?_
       refine Ref.sq ?_
       refine Ref.rn 17 ?_
       refine RefR.e1 0 3 3 [0, 46, 48] [0, 1, 4] ?_
       refine RefR.cc 49 3 4 [0, 2] (F42_ok K (⟨r1338.fl⟩ : S60) a1.fHi) (fun r1339 => ?_)
       refine RefR.nl 4 ?_
       refine Ref.rn 18 ?_
       refine RefR.e0 (st' := ⟨[sP 50 0 0 0], [.cells [.own 2 r1339.fl.length], .dead, E9.row r1339.fl], [], 2⟩) 0 1 1 [50] [0, 1, 3] ?_
       refine RefR.li 51 [] E9 ([[93], [79, 70], [73, 78, 84]] : List Bytes) 1 2 ?_
       refine RefR.cc 52 2 3 [0, 2] (F43_ok K (⟨r1339.fl⟩ : S60) ([[93], [79, 70], [73, 78, 84]] : List Bytes)) (fun r1340 => ?_)
       refine RefR.nl 3 ?_
       refine Ref.ck ⟨[], [.cells [.own 2 r1340.fl.length], .dead, E9.row r1340.fl], [], 2⟩ [] [0, 1, 4] ?_
       exact Ref.xt 0 (t := (Sum.inr (Sum.inr (Sum.inr (Sum.inr (Sum.inl (r1340.fl)))))))
     ·
      refine Ref.rn 19 ?_
      refine RefR.e0 (st' := ⟨[sP 0 0 0 0, sP 3 2 0 0, sP 53 0 0 0], [.cells [.own 1 a0.fl.length], E9.row a0.fl, .cells (E44.cs a1)], [], 2⟩) 0 1 1 [0, 3, 53] [0, 1, 2] ?_
      refine RefR.li 54 [] E9 ([[82, 69, 70, 95, 84, 79]] : List Bytes) 1 2 ?_
      refine RefR.cc 55 2 3 [0, 1] (F43_ok K (⟨a0.fl⟩ : S60) ([[82, 69, 70, 95, 84, 79]] : List Bytes)) (fun r1341 => ?_)
      refine RefR.nl 3 ?_
      refine Ref.ck ⟨[sP 0 0 0 0, sP 3 3 0 0], [.cells [.own 2 r1341.fl.length], .dead, E9.row r1341.fl, .cells (E44.cs a1)], [], 2⟩ [0, 3] [0, 1, 4, 2] ?_
      exact Ref.n0 (t := (r1341.fl))
    ·
     refine Ref.sq ?_
     refine Ref.rn 20 ?_
     refine RefR.e0 (st' := ⟨[sP 56 0 0 0, sS 58 a1.fName], [.cells [.own 2 u1259.length], .dead, E9.row u1259], [], 2⟩) 0 3 3 [56, 58] [0, 1, 2] ?_
     refine RefR.e0 (st' := ⟨[sP 56 0 0 0, (59, .c (.own 3 1))], [.cells [.own 2 u1259.length], .dead, E9.row u1259, .row 9 1 1 (tbl [[.str a1.fName]])], [], 2⟩) 3 1 4 [56, 59] [0, 1, 2, 3] ?_
     refine RefR.conv (Conv.ob 3 (E9.row [a1.fName]) (El.row_build E9 [a1.fName] rfl (by kernel_rfl))) ?_
     refine RefR.conv (Conv.sl 59 (.c (.own 3 ([a1.fName].length))) (DLe.c (CLe.own (by simp <;> omega)))) ?_
     refine RefR.conv (Conv.freeze (st' := ⟨[(59, .c (E9.tree [a1.fName])), sP 56 0 0 0], [.cells [.own 2 u1259.length], .dead, E9.row u1259, .dead], [], 2⟩) 3 (by kernel_rfl)) ?_
     refine RefR.cc 60 4 5 [0, 2] (F43_ok K (⟨u1259⟩ : S60) [a1.fName]) (fun r1342 => ?_)
     refine RefR.nl 5 ?_
     refine Ref.ck ⟨[], [.cells [.own 2 r1342.fl.length], .dead, E9.row r1342.fl], [], 2⟩ [] [0, 1, 4] ?_
     exact Ref.xt 0 (t := (Sum.inr (Sum.inr (Sum.inl (r1342.fl)))))
   ·
    refine Ref.sq ?_
    refine Ref.rn 21 ?_
    refine RefR.e0 (st' := ⟨[sP 61 0 0 0, sI 63 a1.fLo], [.cells [.own 1 a0.fl.length], E9.row a0.fl], [], 2⟩) 0 3 3 [61, 63] [0, 1] ?_
    refine RefR.li 64 [] E9 ([[84, 79, 78], [84, 79, 70], [84, 80], [67, 84, 85], [67, 84, 68], [82, 95, 84, 82, 73, 71], [70, 95, 84, 82, 73, 71]] : List Bytes) 3 4 ?_
    refine RefR.cc 65 4 5 [] (F45_ok K a1.fLo ([[84, 79, 78], [84, 79, 70], [84, 80], [67, 84, 85], [67, 84, 68], [82, 95, 84, 82, 73, 71], [70, 95, 84, 82, 73, 71]] : List Bytes)) (fun r1343 => ?_)
    refine RefR.e0 (st' := ⟨[sP 61 0 0 0, (66, .c (.own 2 1))], [.cells [.own 1 a0.fl.length], E9.row a0.fl, .row 9 1 1 (tbl [[.str r1343]])], [], 2⟩) 5 1 6 [61, 66] [0, 1, 3] ?_
    refine RefR.conv (Conv.ob 2 (E9.row [r1343]) (El.row_build E9 [r1343] rfl (by kernel_rfl))) ?_
    refine RefR.conv (Conv.sl 66 (.c (.own 2 ([r1343].length))) (DLe.c (CLe.own (by simp <;> omega)))) ?_
    refine RefR.conv (Conv.freeze (st' := ⟨[(66, .c (E9.tree [r1343])), sP 61 0 0 0], [.cells [.own 1 a0.fl.length], E9.row a0.fl, .dead], [], 2⟩) 2 (by kernel_rfl)) ?_
    refine RefR.cc 67 6 7 [0, 1] (F43_ok K (⟨a0.fl⟩ : S60) [r1343]) (fun r1344 => ?_)
    refine RefR.nl 7 ?_
    refine Ref.ck ⟨[], [.cells [.own 2 r1344.fl.length], .dead, E9.row r1344.fl], [], 2⟩ [] [0, 1, 3] ?_
    exact Ref.xt 0 (t := (Sum.inr (Sum.inl (r1344.fl))))
  ·
   refine Ref.sq ?_
   refine Ref.rn 22 ?_
   refine RefR.e0 (st' := ⟨[sP 68 0 0 0], [.cells [.own 1 a0.fl.length], E9.row a0.fl], [], 2⟩) 0 1 1 [68] [0, 1] ?_
   refine RefR.li 69 [] E9 ([[63]] : List Bytes) 1 2 ?_
   refine RefR.cc 70 2 3 [0, 1] (F43_ok K (⟨a0.fl⟩ : S60) ([[63]] : List Bytes)) (fun r1345 => ?_)
   refine RefR.nl 3 ?_
   refine Ref.ck ⟨[], [.cells [.own 2 r1345.fl.length], .dead, E9.row r1345.fl], [], 2⟩ [] [0, 1, 3] ?_
   exact Ref.xt 0 (t := (Sum.inl (r1345.fl)))
 ·
  exact Ref.n0 (t := ((⟨u673⟩ : S60)))
mutual
def F18 : (K : Nat) → (S60) → (S25) → Option ((S60) ⊕ (S60))
 | 0, _, _ => none
 | K + 1, a0, a1 =>
 (bindS (blockS (if ((a1.fKind : Int) == 1) = true then ((fnS (F42 K (⟨a0.fl⟩ : S60) a1.fN)).bind (fun r31 => (some (.inr (r31.fl))))) else (if ((a1.fKind : Int) == 2) = true then ((fnS (F43 K (⟨a0.fl⟩ : S60) ([[84, 82, 85, 69]] : List Bytes))).bind (fun r32 => (some (.inr (r32.fl))))) else (if ((a1.fKind : Int) == 3) = true then ((fnS (F43 K (⟨a0.fl⟩ : S60) ([[70, 65, 76, 83, 69]] : List Bytes))).bind (fun r33 => (some (.inr (r33.fl))))) else (if ((a1.fKind : Int) == 4) = true then ((fnS (F43 K (⟨a0.fl⟩ : S60) ([[78, 85, 76, 76]] : List Bytes))).bind (fun r34 => (some (.inr (r34.fl))))) else (if ((a1.fKind : Int) == 5) = true then ((fnS (F43 K (⟨a0.fl⟩ : S60) [a1.fName])).bind (fun r35 => (some (.inr (r35.fl))))) else (if ((a1.fKind : Int) == 6) = true then ((fnS (F43 K (⟨a0.fl⟩ : S60) [a1.fName, ([91] : Bytes)])).bind (fun r36 => ((fnS (F44 K (⟨r36.fl⟩ : S60) a1.fArgs 0)).bind (fun r37 => ((fnS (F43 K (⟨r37.fl⟩ : S60) ([[93]] : List Bytes))).bind (fun r38 => (some (.inr (r38.fl))))))))) else (bindS (if ((a1.fKind : Int) == 7) = true then (some (.inr (((a1.fKind : Int) == 7)))) else (some (.inr (((a1.fKind : Int) == 8))))) (fun (u39 : Bool) => (if u39 = true then (letV (IntKind.i64.wrap ((IntKind.i64.wrap (a1.fKind - 7)) + 1)) (fun (x40 : Int) => ((fnS (F45 K x40 ([[45], [78, 79, 84]] : List Bytes))).bind (fun r41 => ((fnS (F43 K (⟨a0.fl⟩ : S60) [r41])).bind (fun r42 => ((fnS (F46 K (⟨r42.fl⟩ : S60) a1.fArgs 0)).bind (fun r43 => (some (.inr (r43.fl))))))))))) else (if ((a1.fKind : Int) == 9) = true then ((fnS (F46 K (⟨a0.fl⟩ : S60) a1.fArgs 0)).bind (fun r44 => ((fnS (F45 K a1.fN ([[43], [45], [42], [47], [77, 79, 68], [61], [60, 62], [60], [60, 61], [62], [62, 61], [65, 78, 68], [79, 82], [88, 79, 82]] : List Bytes))).bind (fun r45 => ((fnS (F43 K (⟨r44.fl⟩ : S60) [r45])).bind (fun r46 => ((fnS (F46 K (⟨r46.fl⟩ : S60) a1.fArgs 1)).bind (fun r47 => (some (.inr (r47.fl))))))))))) else (bindS (if ((a1.fKind : Int) == 10) = true then (some (.inr (((a1.fKind : Int) == 10)))) else (if ((a1.fKind : Int) == 11) = true then (some (.inr (((a1.fKind : Int) == 11)))) else (some (.inr (((a1.fKind : Int) == 12)))))) (fun (u48 : Bool) => (if u48 = true then (letV (IntKind.i64.wrap ((IntKind.i64.wrap (a1.fKind - 10)) + 1)) (fun (x49 : Int) => ((condM true (fnS (F45 K x49 [([82, 69, 70] : Bytes), ([68, 79, 78, 69] : Bytes), ([67, 79, 85, 78, 84] : Bytes)])) default).bind (fun r50 => ((fnS (F43 K (⟨a0.fl⟩ : S60) [r50, ([40] : Bytes), a1.fName, ([41] : Bytes)])).bind (fun r51 => (some (.inr (r51.fl))))))))) else (if ((a1.fKind : Int) == 14) = true then ((fnS (F43 K (⟨a0.fl⟩ : S60) [([65, 83] : Bytes), a1.fName, ([40] : Bytes)])).bind (fun r52 => ((fnS (F44 K (⟨r52.fl⟩ : S60) a1.fArgs 0)).bind (fun r53 => ((fnS (F43 K (⟨r53.fl⟩ : S60) ([[41]] : List Bytes))).bind (fun r54 => (some (.inr (r54.fl))))))))) else (if ((a1.fKind : Int) == 13) = true then ((condM true (fnS (F45 K (IntKind.i64.wrap (a1.fN + 1)) [a1.fName, ([84, 72, 73, 83] : Bytes), ([83, 85, 80, 69, 82] : Bytes)])) default).bind (fun r55 => ((fnS (F43 K (⟨a0.fl⟩ : S60) [r55, ([46] : Bytes), a1.fWhat, ([40] : Bytes)])).bind (fun r56 => ((fnS (F47 K (⟨r56.fl⟩ : S60) a1.fArgs)).bind (fun r57 => ((fnS (F43 K (⟨r57.fl⟩ : S60) ([[41]] : List Bytes))).bind (fun r58 => (some (.inr (r58.fl))))))))))) else ((fnS (F43 K (⟨a0.fl⟩ : S60) ([[63]] : List Bytes))).bind (fun r59 => (some (.inr (r59.fl))))))))))))))))))))) (fun (u30 : (List Bytes)) => (some (.inr ((⟨u30⟩ : S60))))))
def F44 : (K : Nat) → (S60) → ((List S25)) → (Int) → Option ((S60) ⊕ (S60))
 | 0, _, _, _ => none
 | K + 1, a0, a1, a2 =>
 (letV (decide ((a2 : Int) ≥ (Int.ofNat a1.length))) (fun (x1 : Bool) => (if x1 = true then ((fnS (F43 K (⟨a0.fl⟩ : S60) ([[63]] : List Bytes))).bind (fun r2 => (some (.inl ((⟨r2.fl⟩ : S60)))))) else (chk [inb a2 a1.length] ((fnS (F18 K (⟨a0.fl⟩ : S60) (a1.getD (a2 : Int).toNat default))).bind (fun r3 => (some (.inr ((⟨r3.fl⟩ : S60))))))))))
def F46 : (K : Nat) → (S60) → ((List S25)) → (Int) → Option ((S60) ⊕ (S60))
 | 0, _, _, _ => none
 | K + 1, a0, a1, a2 =>
 (letV (decide ((a2 : Int) < (Int.ofNat a1.length))) (fun (x1 : Bool) => (bindS (if x1 = true then (chk [inb a2 a1.length] (some (.inr ((a1.getD (a2 : Int).toNat default).fKind)))) else (some (.inr (0)))) (fun (u2 : Int) => (bindS (blockS (bindS (if ((u2 : Int) == 7) = true then (some (.inr (((u2 : Int) == 7)))) else (if ((u2 : Int) == 8) = true then (some (.inr (((u2 : Int) == 8)))) else (some (.inr (((u2 : Int) == 9)))))) (fun (u9 : Bool) => (if u9 = true then ((fnS (F43 K (⟨a0.fl⟩ : S60) ([[40]] : List Bytes))).bind (fun r10 => ((fnS (F44 K (⟨r10.fl⟩ : S60) a1 a2)).bind (fun r11 => ((fnS (F43 K (⟨r11.fl⟩ : S60) ([[41]] : List Bytes))).bind (fun r12 => (some (.inr (r12.fl))))))))) else ((fnS (F44 K (⟨a0.fl⟩ : S60) a1 a2)).bind (fun r13 => (some (.inr (r13.fl))))))))) (fun (u8 : (List Bytes)) => (some (.inr ((⟨u8⟩ : S60))))))))))
def F47 : (K : Nat) → (S60) → ((List S25)) → Option ((S60) ⊕ (S60))
 | 0, _, _ => none
 | K + 1, a0, a1 =>
 (bindS (blockS ((iter K (fun (u44 : (List Bytes) × Int) => (letV (decide ((u44.2 : Int) < (Int.ofNat a1.length))) (fun (x56 : Bool) => (if x56 = true then (bindS (blockS (chk [inb u44.2 a1.length] (bindS (if (decide ((u44.2 : Int) > 0)) = true then ((fnS (F43 K (⟨u44.1⟩ : S60) ([[44]] : List Bytes))).bind (fun r64 => (some (.inr (r64.fl))))) else (some (.inr (u44.1)))) (fun (u63 : (List Bytes)) => ((fnS (F18 K (⟨u63⟩ : S60) (a1.getD (u44.2 : Int).toNat default))).bind (fun r65 => (some (.inr (r65.fl))))))))) (fun (u61 : (List Bytes)) => (some (.inr (u61, (IntKind.i64.wrap (u44.2 + 1))))))) else (some (.inl (Sum.inl (u44.1)))))))) (a0.fl, 0)).map .inl)) (fun (u33 : (List Bytes)) => (some (.inr ((⟨u33⟩ : S60))))))
end
theorem G18_ok : ∀ K : Nat, (∀ (a0 : S60), ∀ (a1 : S25), DFun Tryz.prog 18 [.c (.ptr 0 0 0), .agg (E25.cs a1)] [.cells [.own 1 a0.fl.length], E9.row a0.fl] (fnS (F18 K a0 a1)) (fun r => .tup []) (fun r => [.cells [.own 2 r.fl.length], .dead, E9.row r.fl])) ∧ (∀ (a0 : S60), ∀ (a1 : (List S25)), ∀ (a2 : Int), DFun Tryz.prog 44 [.c (.ptr 0 0 0), .c (E25.tree a1), .c (.val (.int .i64 a2))] [.cells [.own 1 a0.fl.length], E9.row a0.fl] (fnS (F44 K a0 a1 a2)) (fun r => .tup []) (fun r => [.cells [.own 2 r.fl.length], .dead, E9.row r.fl])) ∧ (∀ (a0 : S60), ∀ (a1 : (List S25)), ∀ (a2 : Int), DFun Tryz.prog 46 [.c (.ptr 0 0 0), .c (E25.tree a1), .c (.val (.int .i64 a2))] [.cells [.own 1 a0.fl.length], E9.row a0.fl] (fnS (F46 K a0 a1 a2)) (fun r => .tup []) (fun r => [.cells [.own 2 r.fl.length], .dead, E9.row r.fl])) ∧ (∀ (a0 : S60), ∀ (a1 : (List S25)), DFun Tryz.prog 47 [.c (.ptr 0 0 0), .c (E25.tree a1)] [.cells [.own 1 a0.fl.length], E9.row a0.fl] (fnS (F47 K a0 a1)) (fun r => .tup []) (fun r => [.cells [.own 2 r.fl.length], .dead, E9.row r.fl])) := by
 intro K
 induction K with
 | zero => exact ⟨fun a0 a1 => DFun.none (by rw [F18]; rfl), fun a0 a1 a2 => DFun.none (by rw [F44]; rfl), fun a0 a1 a2 => DFun.none (by rw [F46]; rfl), fun a0 a1 => DFun.none (by rw [F47]; rfl)⟩
 | succ K ih =>
  obtain ⟨ih18, ih44, ih46, ih47⟩ := ih
  refine ⟨?_, ?_, ?_, ?_⟩
  ·
   intro a0 a1
   refine DFun.it Tryz.f18 (fun r => ⟨[], [.cells [.own 2 r.fl.length], .dead, E9.row r.fl], [], 2⟩) ?_
   rw [F18]
   refine Ref.sq ?_
   refine Ref.rn 0 ?_
   refine RefR.e0 (st' := ⟨[sP 0 0 0 0, sP 3 2 0 0], [.cells [.own 1 a0.fl.length], E9.row a0.fl, E25.o a1], [], 2⟩) 0 1 1 [0, 3] [0, 1, 2] ?_
   refine RefR.nl 1 ?_
   refine Ref.sq ?_
   refine Ref.rn 1 ?_
   refine RefR.e0 (st' := ⟨[sP 0 0 0 0, sP 3 2 0 0, sI 5 a1.fKind], [.cells [.own 1 a0.fl.length], E9.row a0.fl, E25.o a1], [], 2⟩) 0 2 2 [0, 3, 5] [0, 1, 2] ?_
   refine RefR.nl 2 ?_
   refine Ref.ce (.block 0 (cd (bd Tryz.f18) [1, 1, 0])) ?_
   refine Ref.block (go1 := fun u30 => ⟨[], [.cells [.own 2 u30.length], .dead, E9.row u30], [], 2⟩) ?_ (fun _ h => by cases h) (fun u30 => ?_)
   ·
    refine Ref.sq ?_
    refine Ref.rn 3 ?_
    refine RefR.e0 (st' := ⟨[sP 0 0 0 0, sP 3 2 0 0, sI 5 a1.fKind, sB 9 ((a1.fKind : Int) == 1)], [.cells [.own 1 a0.fl.length], E9.row a0.fl, E25.o a1], [], 2⟩) 0 2 2 [0, 3, 5, 9] [0, 1, 2] ?_
    refine RefR.nl 2 ?_
    refine Ref.cn (.tmp 9) ((a1.fKind : Int) == 1) (fun hc => ?_) (fun hc => ?_)
    ·
     refine Ref.rn 4 ?_
     refine RefR.e1 0 3 3 [11, 13] [0, 1] ?_
     refine RefR.cc 14 3 4 [0, 1] (F42_ok K (⟨a0.fl⟩ : S60) a1.fN) (fun r31 => ?_)
     refine RefR.nl 4 ?_
     refine Ref.ck ⟨[], [.cells [.own 2 r31.fl.length], .dead, E9.row r31.fl], [], 2⟩ [] [0, 1, 2] ?_
     exact Ref.n0 (t := (r31.fl))
    ·
     refine Ref.sq ?_
     refine Ref.rn 5 ?_
     refine RefR.e0 (st' := ⟨[sP 0 0 0 0, sP 3 2 0 0, sI 5 a1.fKind, sB 15 ((a1.fKind : Int) == 2)], [.cells [.own 1 a0.fl.length], E9.row a0.fl, E25.o a1], [], 2⟩) 0 2 2 [0, 3, 5, 15] [0, 1, 2] ?_
     refine RefR.nl 2 ?_
     refine Ref.cn (.tmp 15) ((a1.fKind : Int) == 2) (fun hc => ?_) (fun hc => ?_)
     ·
      refine Ref.rn 6 ?_
      refine RefR.e0 (st' := ⟨[sP 17 0 0 0], [.cells [.own 1 a0.fl.length], E9.row a0.fl], [], 2⟩) 0 1 1 [17] [0, 1] ?_
      refine RefR.li 18 [] E9 ([[84, 82, 85, 69]] : List Bytes) 1 2 ?_
      refine RefR.cc 19 2 3 [0, 1] (F43_ok K (⟨a0.fl⟩ : S60) ([[84, 82, 85, 69]] : List Bytes)) (fun r32 => ?_)
      refine RefR.nl 3 ?_
      refine Ref.ck ⟨[], [.cells [.own 2 r32.fl.length], .dead, E9.row r32.fl], [], 2⟩ [] [0, 1, 3] ?_
      exact Ref.n0 (t := (r32.fl))
     ·
      refine Ref.sq ?_
      refine Ref.rn 7 ?_
      refine RefR.e0 (st' := ⟨[sP 0 0 0 0, sP 3 2 0 0, sI 5 a1.fKind, sB 20 ((a1.fKind : Int) == 3)], [.cells [.own 1 a0.fl.length], E9.row a0.fl, E25.o a1], [], 2⟩) 0 2 2 [0, 3, 5, 20] [0, 1, 2] ?_
      refine RefR.nl 2 ?_
      refine Ref.cn (.tmp 20) ((a1.fKind : Int) == 3) (fun hc => ?_) (fun hc => ?_)
      ·
       refine Ref.rn 8 ?_
       refine RefR.e0 (st' := ⟨[sP 22 0 0 0], [.cells [.own 1 a0.fl.length], E9.row a0.fl], [], 2⟩) 0 1 1 [22] [0, 1] ?_
       refine RefR.li 23 [] E9 ([[70, 65, 76, 83, 69]] : List Bytes) 1 2 ?_
       refine RefR.cc 24 2 3 [0, 1] (F43_ok K (⟨a0.fl⟩ : S60) ([[70, 65, 76, 83, 69]] : List Bytes)) (fun r33 => ?_)
       refine RefR.nl 3 ?_
       refine Ref.ck ⟨[], [.cells [.own 2 r33.fl.length], .dead, E9.row r33.fl], [], 2⟩ [] [0, 1, 3] ?_
       exact Ref.n0 (t := (r33.fl))
      ·
       refine Ref.sq ?_
       refine Ref.rn 9 ?_
       refine RefR.e0 (st' := ⟨[sP 0 0 0 0, sP 3 2 0 0, sI 5 a1.fKind, sB 25 ((a1.fKind : Int) == 4)], [.cells [.own 1 a0.fl.length], E9.row a0.fl, E25.o a1], [], 2⟩) 0 2 2 [0, 3, 5, 25] [0, 1, 2] ?_
       refine RefR.nl 2 ?_
       refine Ref.cn (.tmp 25) ((a1.fKind : Int) == 4) (fun hc => ?_) (fun hc => ?_)
       ·
        refine Ref.rn 10 ?_
        refine RefR.e0 (st' := ⟨[sP 27 0 0 0], [.cells [.own 1 a0.fl.length], E9.row a0.fl], [], 2⟩) 0 1 1 [27] [0, 1] ?_
        refine RefR.li 28 [] E9 ([[78, 85, 76, 76]] : List Bytes) 1 2 ?_
        refine RefR.cc 29 2 3 [0, 1] (F43_ok K (⟨a0.fl⟩ : S60) ([[78, 85, 76, 76]] : List Bytes)) (fun r34 => ?_)
        refine RefR.nl 3 ?_
        refine Ref.ck ⟨[], [.cells [.own 2 r34.fl.length], .dead, E9.row r34.fl], [], 2⟩ [] [0, 1, 3] ?_
        exact Ref.n0 (t := (r34.fl))
       ·
        refine Ref.sq ?_
        refine Ref.rn 11 ?_
        refine RefR.e0 (st' := ⟨[sP 0 0 0 0, sP 3 2 0 0, sI 5 a1.fKind, sB 30 ((a1.fKind : Int) == 5)], [.cells [.own 1 a0.fl.length], E9.row a0.fl, E25.o a1], [], 2⟩) 0 2 2 [0, 3, 5, 30] [0, 1, 2] ?_
        refine RefR.nl 2 ?_
        refine Ref.cn (.tmp 30) ((a1.fKind : Int) == 5) (fun hc => ?_) (fun hc => ?_)
        ·
         refine Ref.rn 12 ?_
         refine RefR.e0 (st' := ⟨[sP 32 0 0 0, sS 34 a1.fName], [.cells [.own 1 a0.fl.length], E9.row a0.fl], [], 2⟩) 0 3 3 [32, 34] [0, 1] ?_
         refine RefR.e0 (st' := ⟨[sP 32 0 0 0, (35, .c (.own 2 1))], [.cells [.own 1 a0.fl.length], E9.row a0.fl, .row 9 1 1 (tbl [[.str a1.fName]])], [], 2⟩) 3 1 4 [32, 35] [0, 1, 2] ?_
         refine RefR.conv (Conv.ob 2 (E9.row [a1.fName]) (El.row_build E9 [a1.fName] rfl (by kernel_rfl))) ?_
         refine RefR.conv (Conv.sl 35 (.c (.own 2 ([a1.fName].length))) (DLe.c (CLe.own (by simp <;> omega)))) ?_
         refine RefR.conv (Conv.freeze (st' := ⟨[(35, .c (E9.tree [a1.fName])), sP 32 0 0 0], [.cells [.own 1 a0.fl.length], E9.row a0.fl, .dead], [], 2⟩) 2 (by kernel_rfl)) ?_
         refine RefR.cc 36 4 5 [0, 1] (F43_ok K (⟨a0.fl⟩ : S60) [a1.fName]) (fun r35 => ?_)
         refine RefR.nl 5 ?_
         refine Ref.ck ⟨[], [.cells [.own 2 r35.fl.length], .dead, E9.row r35.fl], [], 2⟩ [] [0, 1, 3] ?_
         exact Ref.n0 (t := (r35.fl))
        ·
         refine Ref.sq ?_
         refine Ref.rn 13 ?_
         refine RefR.e0 (st' := ⟨[sP 0 0 0 0, sP 3 2 0 0, sI 5 a1.fKind, sB 37 ((a1.fKind : Int) == 6)], [.cells [.own 1 a0.fl.length], E9.row a0.fl, E25.o a1], [], 2⟩) 0 2 2 [0, 3, 5, 37] [0, 1, 2] ?_
         refine RefR.nl 2 ?_
         refine Ref.cn (.tmp 37) ((a1.fKind : Int) == 6) (fun hc => ?_) (fun hc => ?_)
         ·
          refine Ref.sq ?_
          refine Ref.rn 14 ?_
          refine RefR.e0 (st' := ⟨[sP 0 0 0 0, sP 3 2 0 0, sP 39 0 0 0, sS 41 a1.fName], [.cells [.own 1 a0.fl.length], E9.row a0.fl, E25.o a1], [], 2⟩) 0 3 3 [0, 3, 39, 41] [0, 1, 2] ?_
          refine RefR.e0 (st' := ⟨[sP 0 0 0 0, sP 3 2 0 0, sP 39 0 0 0, (42, .c (.own 3 2))], [.cells [.own 1 a0.fl.length], E9.row a0.fl, E25.o a1, .row 9 1 2 (tbl [[.str a1.fName], [.str w_91]])], [], 2⟩) 3 1 4 [0, 3, 39, 42] [0, 1, 2, 3] ?_
          refine RefR.conv (Conv.ob 3 (E9.row [a1.fName, w_91]) (El.row_build E9 [a1.fName, w_91] rfl (by kernel_rfl))) ?_
          refine RefR.conv (Conv.sl 42 (.c (.own 3 ([a1.fName, w_91].length))) (DLe.c (CLe.own (by simp <;> omega)))) ?_
          refine RefR.conv (Conv.freeze (st' := ⟨[(42, .c (E9.tree [a1.fName, w_91])), sP 0 0 0 0, sP 3 2 0 0, sP 39 0 0 0], [.cells [.own 1 a0.fl.length], E9.row a0.fl, E25.o a1, .dead], [], 2⟩) 3 (by kernel_rfl)) ?_
          refine RefR.cc 43 4 5 [0, 1] (F43_ok K (⟨a0.fl⟩ : S60) [a1.fName, w_91]) (fun r36 => ?_)
          refine RefR.nl 5 ?_
          refine Ref.sq ?_
          refine Ref.rn 15 ?_
          refine RefR.e0 (st' := ⟨[sP 0 0 0 0, sP 44 0 0 0, (46, .c (NT25 a1.fArgs))], [.cells [.own 2 r36.fl.length], .dead, E9.row r36.fl], [], 2⟩) 0 3 3 [0, 44, 46] [0, 1, 4] ?_
          refine RefR.conv (Conv.sl 46 (.c (E25.tree a1.fArgs)) (DLe.c (NT25_le _))) ?_
          refine RefR.cc 47 3 4 [0, 2] (ih44 (⟨r36.fl⟩ : S60) a1.fArgs 0) (fun r37 => ?_)
          refine RefR.nl 4 ?_
          refine Ref.rn 16 ?_
          refine RefR.e0 (st' := ⟨[sP 48 0 0 0], [.cells [.own 2 r37.fl.length], .dead, E9.row r37.fl], [], 2⟩) 0 1 1 [48] [0, 1, 3] ?_
          refine RefR.li 49 [] E9 ([[93]] : List Bytes) 1 2 ?_
          refine RefR.cc 50 2 3 [0, 2] (F43_ok K (⟨r37.fl⟩ : S60) ([[93]] : List Bytes)) (fun r38 => ?_)
          refine RefR.nl 3 ?_
          refine Ref.ck ⟨[], [.cells [.own 2 r38.fl.length], .dead, E9.row r38.fl], [], 2⟩ [] [0, 1, 4] ?_
          exact Ref.n0 (t := (r38.fl))
         ·
          refine Ref.sq ?_
          refine Ref.sq ?_
          refine Ref.rn 17 ?_
          refine RefR.e0 (st' := ⟨[sP 0 0 0 0, sP 3 2 0 0, sI 5 a1.fKind, sB 51 ((a1.fKind : Int) == 7)], [.cells [.own 1 a0.fl.length], E9.row a0.fl, E25.o a1], [], 2⟩) 0 2 2 [0, 3, 5, 51] [0, 1, 2] ?_
          refine RefR.nl 2 ?_
          refine Ref.bind (go1 := fun u39 => ⟨[sP 0 0 0 0, sP 3 2 0 0, sI 5 a1.fKind, sB 51 u39], [.cells [.own 1 a0.fl.length], E9.row a0.fl, E25.o a1], [], 2⟩) ?_ (fun u39 => ?_)
          ·
           refine Ref.cn (.tmp 51) ((a1.fKind : Int) == 7) (fun hc => ?_) (fun hc => ?_)
           ·
            refine Ref.sk ?_
            exact Ref.n0 (t := (((a1.fKind : Int) == 7)))
           ·
            refine Ref.rn 18 ?_
            refine RefR.e0 (st' := ⟨[sP 0 0 0 0, sP 3 2 0 0, sI 5 a1.fKind, sB 51 ((a1.fKind : Int) == 8)], [.cells [.own 1 a0.fl.length], E9.row a0.fl, E25.o a1], [], 2⟩) 0 2 2 [0, 3, 5, 51] [0, 1, 2] ?_
            refine RefR.nl 2 ?_
            exact Ref.n0 (t := (((a1.fKind : Int) == 8)))
          ·
           refine Ref.cn (.tmp 51) u39 (fun hc => ?_) (fun hc => ?_)
           ·
            refine Ref.sq ?_
            refine Ref.rn 19 ?_
            refine RefR.e0 (st' := ⟨[sP 0 0 0 0, sP 3 2 0 0, sP 54 0 0 0, sI 58 (IntKind.i64.wrap ((IntKind.i64.wrap (a1.fKind - 7)) + 1))], [.cells [.own 1 a0.fl.length], E9.row a0.fl, E25.o a1], [], 2⟩) 0 5 5 [0, 3, 54, 58] [0, 1, 2] ?_
            refine RefR.letC (stf := fun x40 => ⟨[sP 0 0 0 0, sP 3 2 0 0, sP 54 0 0 0, sI 58 x40], [.cells [.own 1 a0.fl.length], E9.row a0.fl, E25.o a1], [], 2⟩) (by kernel_rfl) (fun x40 => ?_)
            refine RefR.li 59 [] E9 ([[45], [78, 79, 84]] : List Bytes) 5 6 ?_
            refine RefR.cc 60 6 7 [] (F45_ok K x40 ([[45], [78, 79, 84]] : List Bytes)) (fun r41 => ?_)
            refine RefR.e0 (st' := ⟨[sP 0 0 0 0, sP 3 2 0 0, sP 54 0 0 0, (61, .c (.own 3 1))], [.cells [.own 1 a0.fl.length], E9.row a0.fl, E25.o a1, .row 9 1 1 (tbl [[.str r41]])], [], 2⟩) 7 1 8 [0, 3, 54, 61] [0, 1, 2, 4] ?_
            refine RefR.conv (Conv.ob 3 (E9.row [r41]) (El.row_build E9 [r41] rfl (by kernel_rfl))) ?_
            refine RefR.conv (Conv.sl 61 (.c (.own 3 ([r41].length))) (DLe.c (CLe.own (by simp <;> omega)))) ?_
            refine RefR.conv (Conv.freeze (st' := ⟨[(61, .c (E9.tree [r41])), sP 0 0 0 0, sP 3 2 0 0, sP 54 0 0 0], [.cells [.own 1 a0.fl.length], E9.row a0.fl, E25.o a1, .dead], [], 2⟩) 3 (by kernel_rfl)) ?_
            refine RefR.cc 62 8 9 [0, 1] (F43_ok K (⟨a0.fl⟩ : S60) [r41]) (fun r42 => ?_)
            refine RefR.nl 9 ?_
            refine Ref.rn 20 ?_
            refine RefR.e0 (st' := ⟨[sP 63 0 0 0, (65, .c (NT25 a1.fArgs))], [.cells [.own 2 r42.fl.length], .dead, E9.row r42.fl], [], 2⟩) 0 3 3 [63, 65] [0, 1, 4] ?_
            refine RefR.conv (Conv.sl 65 (.c (E25.tree a1.fArgs)) (DLe.c (NT25_le _))) ?_
            refine RefR.cc 66 3 4 [0, 2] (ih46 (⟨r42.fl⟩ : S60) a1.fArgs 0) (fun r43 => ?_)
            refine RefR.nl 4 ?_
            refine Ref.ck ⟨[], [.cells [.own 2 r43.fl.length], .dead, E9.row r43.fl], [], 2⟩ [] [0, 1, 3] ?_
            exact Ref.n0 (t := (r43.fl))
           ·
            refine Ref.sq ?_
            refine Ref.rn 21 ?_
            refine RefR.e0 (st' := ⟨[sP 0 0 0 0, sP 3 2 0 0, sI 5 a1.fKind, sB 67 ((a1.fKind : Int) == 9)], [.cells [.own 1 a0.fl.length], E9.row a0.fl, E25.o a1], [], 2⟩) 0 2 2 [0, 3, 5, 67] [0, 1, 2] ?_
            refine RefR.nl 2 ?_
            refine Ref.cn (.tmp 67) ((a1.fKind : Int) == 9) (fun hc => ?_) (fun hc => ?_)
            ·
             refine Ref.sq ?_
             refine Ref.rn 22 ?_
             refine RefR.e0 (st' := ⟨[sP 0 0 0 0, sP 3 2 0 0, sP 69 0 0 0, (71, .c (NT25 a1.fArgs))], [.cells [.own 1 a0.fl.length], E9.row a0.fl, E25.o a1], [], 2⟩) 0 3 3 [0, 3, 69, 71] [0, 1, 2] ?_
             refine RefR.conv (Conv.sl 71 (.c (E25.tree a1.fArgs)) (DLe.c (NT25_le _))) ?_
             refine RefR.cc 72 3 4 [0, 1] (ih46 (⟨a0.fl⟩ : S60) a1.fArgs 0) (fun r44 => ?_)
             refine RefR.nl 4 ?_
             refine Ref.sq ?_
             refine Ref.rn 23 ?_
             refine RefR.e0 (st' := ⟨[sP 0 0 0 0, sP 3 2 0 0, sP 73 0 0 0, sI 75 a1.fN], [.cells [.own 3 r44.fl.length], .dead, E25.o a1, E9.row r44.fl], [], 2⟩) 0 3 3 [0, 3, 73, 75] [0, 1, 2, 3] ?_
             refine RefR.li 76 [] E9 ([[43], [45], [42], [47], [77, 79, 68], [61], [60, 62], [60], [60, 61], [62], [62, 61], [65, 78, 68], [79, 82], [88, 79, 82]] : List Bytes) 3 4 ?_
             refine RefR.cc 77 4 5 [] (F45_ok K a1.fN ([[43], [45], [42], [47], [77, 79, 68], [61], [60, 62], [60], [60, 61], [62], [62, 61], [65, 78, 68], [79, 82], [88, 79, 82]] : List Bytes)) (fun r45 => ?_)
             refine RefR.e0 (st' := ⟨[sP 0 0 0 0, sP 3 2 0 0, sP 73 0 0 0, (78, .c (.own 4 1))], [.cells [.own 3 r44.fl.length], .dead, E25.o a1, E9.row r44.fl, .row 9 1 1 (tbl [[.str r45]])], [], 2⟩) 5 1 6 [0, 3, 73, 78] [0, 1, 2, 3, 5] ?_
             refine RefR.conv (Conv.ob 4 (E9.row [r45]) (El.row_build E9 [r45] rfl (by kernel_rfl))) ?_
             refine RefR.conv (Conv.sl 78 (.c (.own 4 ([r45].length))) (DLe.c (CLe.own (by simp <;> omega)))) ?_
             refine RefR.conv (Conv.freeze (st' := ⟨[(78, .c (E9.tree [r45])), sP 0 0 0 0, sP 3 2 0 0, sP 73 0 0 0], [.cells [.own 3 r44.fl.length], .dead, E25.o a1, E9.row r44.fl, .dead], [], 2⟩) 4 (by kernel_rfl)) ?_
             refine RefR.cc 79 6 7 [0, 3] (F43_ok K (⟨r44.fl⟩ : S60) [r45]) (fun r46 => ?_)
             refine RefR.nl 7 ?_
             refine Ref.rn 24 ?_
             refine RefR.e0 (st' := ⟨[sP 80 0 0 0, (82, .c (NT25 a1.fArgs))], [.cells [.own 2 r46.fl.length], .dead, E9.row r46.fl], [], 2⟩) 0 3 3 [80, 82] [0, 1, 5] ?_
             refine RefR.conv (Conv.sl 82 (.c (E25.tree a1.fArgs)) (DLe.c (NT25_le _))) ?_
             refine RefR.cc 83 3 4 [0, 2] (ih46 (⟨r46.fl⟩ : S60) a1.fArgs 1) (fun r47 => ?_)
             refine RefR.nl 4 ?_
             refine Ref.ck ⟨[], [.cells [.own 2 r47.fl.length], .dead, E9.row r47.fl], [], 2⟩ [] [0, 1, 3] ?_
             exact Ref.n0 (t := (r47.fl))
            ·
             refine Ref.sq ?_
             refine Ref.sq ?_
             refine Ref.rn 25 ?_
             refine RefR.e0 (st' := ⟨[sP 0 0 0 0, sP 3 2 0 0, sI 5 a1.fKind, sB 84 ((a1.fKind : Int) == 10)], [.cells [.own 1 a0.fl.length], E9.row a0.fl, E25.o a1], [], 2⟩) 0 2 2 [0, 3, 5, 84] [0, 1, 2] ?_
             refine RefR.nl 2 ?_
             refine Ref.bind (go1 := fun u48 => ⟨[sP 0 0 0 0, sP 3 2 0 0, sI 5 a1.fKind, sB 84 u48], [.cells [.own 1 a0.fl.length], E9.row a0.fl, E25.o a1], [], 2⟩) ?_ (fun u48 => ?_)
             ·
              refine Ref.cn (.tmp 84) ((a1.fKind : Int) == 10) (fun hc => ?_) (fun hc => ?_)
              ·
               refine Ref.sk ?_
               exact Ref.n0 (t := (((a1.fKind : Int) == 10)))
              ·
               refine Ref.sq ?_
               refine Ref.rn 26 ?_
               refine RefR.e0 (st' := ⟨[sP 0 0 0 0, sP 3 2 0 0, sI 5 a1.fKind, sB 84 ((a1.fKind : Int) == 11)], [.cells [.own 1 a0.fl.length], E9.row a0.fl, E25.o a1], [], 2⟩) 0 2 2 [0, 3, 5, 84] [0, 1, 2] ?_
               refine RefR.nl 2 ?_
               refine Ref.cn (.tmp 84) ((a1.fKind : Int) == 11) (fun hc => ?_) (fun hc => ?_)
               ·
                refine Ref.sk ?_
                exact Ref.n0 (t := (((a1.fKind : Int) == 11)))
               ·
                refine Ref.rn 27 ?_
                refine RefR.e0 (st' := ⟨[sP 0 0 0 0, sP 3 2 0 0, sI 5 a1.fKind, sB 84 ((a1.fKind : Int) == 12)], [.cells [.own 1 a0.fl.length], E9.row a0.fl, E25.o a1], [], 2⟩) 0 2 2 [0, 3, 5, 84] [0, 1, 2] ?_
                refine RefR.nl 2 ?_
                exact Ref.n0 (t := (((a1.fKind : Int) == 12)))
             ·
              refine Ref.cn (.tmp 84) u48 (fun hc => ?_) (fun hc => ?_)
              ·
               refine Ref.drawnY 28 (by kernel_rfl) (by kernel_rfl) ?_
               refine RefY.evC0 (st' := ⟨[sP 88 0 0 0, sP 89 2 0 0, sP 95 2 0 2], [.cells [.own 1 a0.fl.length], E9.row a0.fl, E25.o a1], [], 2⟩) (fuel' := 8) [0, 1, 7] [88, 89, 95] [0, 1, 2] rfl (by kernel_rfl) (by kernel_rfl) ?_
               refine RefY.toX [10] ?_
               refine RefX.evC0 (st' := ⟨[sP 88 0 0 0, sI 92 (IntKind.i64.wrap ((IntKind.i64.wrap (a1.fKind - 10)) + 1)), sS 96 a1.fName], [.cells [.own 1 a0.fl.length], E9.row a0.fl], [], 2⟩) (fuel' := 4) [2, 3, 4, 8] [88, 92, 96] [0, 1] rfl (by kernel_rfl) (by kernel_rfl) ?_
               refine RefX.letC (stf := fun x49 => ⟨[sP 88 0 0 0, sI 92 x49, sS 96 a1.fName], [.cells [.own 1 a0.fl.length], E9.row a0.fl], [], 2⟩) (by kernel_rfl) (fun x49 => ?_)
               refine RefX.madeC0 (st' := ⟨[sP 88 0 0 0, sI 92 x49, (93, .c (.own 2 3)), sS 96 a1.fName], [.cells [.own 1 a0.fl.length], E9.row a0.fl, .row 9 1 3 (tbl [[.str wREF], [.str wDONE], [.str wCOUNT]])], [], 2⟩) (fuel' := 3) 5 [88, 92, 93, 96] [0, 1, 2] rfl (by kernel_rfl) (by kernel_rfl) ?_
               refine RefX.conv (Conv.ob 2 (E9.row [wREF, wDONE, wCOUNT]) (El.row_build E9 [wREF, wDONE, wCOUNT] rfl (by kernel_rfl))) ?_
               refine RefX.conv (Conv.sl 93 (.c (.own 2 ([wREF, wDONE, wCOUNT].length))) (DLe.c (CLe.own (by simp <;> omega)))) ?_
               refine RefX.lookC (t := 94) (g := []) (b := true) (fuel' := 2) 6 [2] (default : Bytes) rfl (by kernel_rfl) (by kernel_rfl) (F45_ok K x49 [wREF, wDONE, wCOUNT]) (fun _ => rfl) (fun r50 => ?_)
               refine RefX.madeC0 (st' := ⟨[sP 88 0 0 0, (97, .c (.own 2 4))], [.cells [.own 1 a0.fl.length], E9.row a0.fl, .row 9 1 4 (tbl [[.str r50], [.str w_40], [.str a1.fName], [.str w_41]])], [], 2⟩) (fuel' := 1) 9 [88, 97] [0, 1, 3] rfl (by kernel_rfl) (by kernel_rfl) ?_
               refine RefX.conv (Conv.ob 2 (E9.row [r50, w_40, a1.fName, w_41]) (El.row_build E9 [r50, w_40, a1.fName, w_41] rfl (by kernel_rfl))) ?_
               refine RefX.conv (Conv.sl 97 (.c (.own 2 ([r50, w_40, a1.fName, w_41].length))) (DLe.c (CLe.own (by simp <;> omega)))) ?_
               refine RefX.tailC [10] rfl (by kernel_rfl) ?_
               refine RefR.conv (Conv.freeze (st' := ⟨[(97, .c (E9.tree [r50, w_40, a1.fName, w_41])), sP 88 0 0 0], [.cells [.own 1 a0.fl.length], E9.row a0.fl, .dead], [], 2⟩) 2 (by kernel_rfl)) ?_
               refine RefR.cc 98 0 1 [0, 1] (F43_ok K (⟨a0.fl⟩ : S60) [r50, w_40, a1.fName, w_41]) (fun r51 => ?_)
               refine RefR.nl 1 ?_
               refine Ref.ck ⟨[], [.cells [.own 2 r51.fl.length], .dead, E9.row r51.fl], [], 2⟩ [] [0, 1, 3] ?_
               exact Ref.n0 (t := (r51.fl))
              ·
               refine Ref.sq ?_
               refine Ref.rn 29 ?_
               refine RefR.e0 (st' := ⟨[sP 0 0 0 0, sP 3 2 0 0, sI 5 a1.fKind, sB 99 ((a1.fKind : Int) == 14)], [.cells [.own 1 a0.fl.length], E9.row a0.fl, E25.o a1], [], 2⟩) 0 2 2 [0, 3, 5, 99] [0, 1, 2] ?_
               refine RefR.nl 2 ?_
               refine Ref.cn (.tmp 99) ((a1.fKind : Int) == 14) (fun hc => ?_) (fun hc => ?_)
               ·
                refine Ref.sq ?_
                refine Ref.rn 30 ?_
                refine RefR.e0 (st' := ⟨[sP 0 0 0 0, sP 3 2 0 0, sP 101 0 0 0, sS 103 a1.fName], [.cells [.own 1 a0.fl.length], E9.row a0.fl, E25.o a1], [], 2⟩) 0 3 3 [0, 3, 101, 103] [0, 1, 2] ?_
                refine RefR.e0 (st' := ⟨[sP 0 0 0 0, sP 3 2 0 0, sP 101 0 0 0, (104, .c (.own 3 3))], [.cells [.own 1 a0.fl.length], E9.row a0.fl, E25.o a1, .row 9 1 3 (tbl [[.str wAS], [.str a1.fName], [.str w_40]])], [], 2⟩) 3 1 4 [0, 3, 101, 104] [0, 1, 2, 3] ?_
                refine RefR.conv (Conv.ob 3 (E9.row [wAS, a1.fName, w_40]) (El.row_build E9 [wAS, a1.fName, w_40] rfl (by kernel_rfl))) ?_
                refine RefR.conv (Conv.sl 104 (.c (.own 3 ([wAS, a1.fName, w_40].length))) (DLe.c (CLe.own (by simp <;> omega)))) ?_
                refine RefR.conv (Conv.freeze (st' := ⟨[(104, .c (E9.tree [wAS, a1.fName, w_40])), sP 0 0 0 0, sP 3 2 0 0, sP 101 0 0 0], [.cells [.own 1 a0.fl.length], E9.row a0.fl, E25.o a1, .dead], [], 2⟩) 3 (by kernel_rfl)) ?_
                refine RefR.cc 105 4 5 [0, 1] (F43_ok K (⟨a0.fl⟩ : S60) [wAS, a1.fName, w_40]) (fun r52 => ?_)
                refine RefR.nl 5 ?_
                refine Ref.sq ?_
                refine Ref.rn 31 ?_
                refine RefR.e0 (st' := ⟨[sP 0 0 0 0, sP 106 0 0 0, (108, .c (NT25 a1.fArgs))], [.cells [.own 2 r52.fl.length], .dead, E9.row r52.fl], [], 2⟩) 0 3 3 [0, 106, 108] [0, 1, 4] ?_
                refine RefR.conv (Conv.sl 108 (.c (E25.tree a1.fArgs)) (DLe.c (NT25_le _))) ?_
                refine RefR.cc 109 3 4 [0, 2] (ih44 (⟨r52.fl⟩ : S60) a1.fArgs 0) (fun r53 => ?_)
                refine RefR.nl 4 ?_
                refine Ref.rn 32 ?_
                refine RefR.e0 (st' := ⟨[sP 110 0 0 0], [.cells [.own 2 r53.fl.length], .dead, E9.row r53.fl], [], 2⟩) 0 1 1 [110] [0, 1, 3] ?_
                refine RefR.li 111 [] E9 ([[41]] : List Bytes) 1 2 ?_
                refine RefR.cc 112 2 3 [0, 2] (F43_ok K (⟨r53.fl⟩ : S60) ([[41]] : List Bytes)) (fun r54 => ?_)
                refine RefR.nl 3 ?_
                refine Ref.ck ⟨[], [.cells [.own 2 r54.fl.length], .dead, E9.row r54.fl], [], 2⟩ [] [0, 1, 4] ?_
                exact Ref.n0 (t := (r54.fl))
               ·
                refine Ref.sq ?_
                refine Ref.rn 33 ?_
                refine RefR.e0 (st' := ⟨[sP 0 0 0 0, sP 3 2 0 0, sB 113 ((a1.fKind : Int) == 13)], [.cells [.own 1 a0.fl.length], E9.row a0.fl, E25.o a1], [], 2⟩) 0 2 2 [0, 3, 113] [0, 1, 2] ?_
                refine RefR.nl 2 ?_
                refine Ref.cn (.tmp 113) ((a1.fKind : Int) == 13) (fun hc => ?_) (fun hc => ?_)
                ·
                 refine Ref.sq ?_
                 refine Ref.drawnY 34 (by kernel_rfl) (by kernel_rfl) ?_
                 refine RefY.evC0 (st' := ⟨[sP 0 0 0 0, sP 3 2 0 0, sP 115 0 0 0, sP 116 2 0 1, sP 119 2 0 2, sP 123 2 0 3], [.cells [.own 1 a0.fl.length], E9.row a0.fl, E25.o a1], [], 2⟩) (fuel' := 8) [0, 1, 4, 8] [0, 3, 115, 116, 119, 123] [0, 1, 2] rfl (by kernel_rfl) (by kernel_rfl) ?_
                 refine RefY.toX [11] ?_
                 refine RefX.evC0 (st' := ⟨[sP 0 0 0 0, sP 3 2 0 0, sP 115 0 0 0, sI 118 (IntKind.i64.wrap (a1.fN + 1)), sS 120 a1.fName, sS 124 a1.fWhat], [.cells [.own 1 a0.fl.length], E9.row a0.fl, E25.o a1], [], 2⟩) (fuel' := 4) [2, 3, 5, 9] [0, 3, 115, 118, 120, 124] [0, 1, 2] rfl (by kernel_rfl) (by kernel_rfl) ?_
                 refine RefX.madeC0 (st' := ⟨[sP 0 0 0 0, sP 3 2 0 0, sP 115 0 0 0, sI 118 (IntKind.i64.wrap (a1.fN + 1)), (121, .c (.own 3 3)), sS 124 a1.fWhat], [.cells [.own 1 a0.fl.length], E9.row a0.fl, E25.o a1, .row 9 1 3 (tbl [[.str a1.fName], [.str wTHIS], [.str wSUPER]])], [], 2⟩) (fuel' := 3) 6 [0, 3, 115, 118, 121, 124] [0, 1, 2, 3] rfl (by kernel_rfl) (by kernel_rfl) ?_
                 refine RefX.conv (Conv.ob 3 (E9.row [a1.fName, wTHIS, wSUPER]) (El.row_build E9 [a1.fName, wTHIS, wSUPER] rfl (by kernel_rfl))) ?_
                 refine RefX.conv (Conv.sl 121 (.c (.own 3 ([a1.fName, wTHIS, wSUPER].length))) (DLe.c (CLe.own (by simp <;> omega)))) ?_
                 refine RefX.lookC (t := 122) (g := []) (b := true) (fuel' := 2) 7 [3] (default : Bytes) rfl (by kernel_rfl) (by kernel_rfl) (F45_ok K (IntKind.i64.wrap (a1.fN + 1)) [a1.fName, wTHIS, wSUPER]) (fun _ => rfl) (fun r55 => ?_)
                 refine RefX.madeC0 (st' := ⟨[sP 0 0 0 0, sP 3 2 0 0, sP 115 0 0 0, (125, .c (.own 3 4))], [.cells [.own 1 a0.fl.length], E9.row a0.fl, E25.o a1, .row 9 1 4 (tbl [[.str r55], [.str w_46], [.str a1.fWhat], [.str w_40]])], [], 2⟩) (fuel' := 1) 10 [0, 3, 115, 125] [0, 1, 2, 4] rfl (by kernel_rfl) (by kernel_rfl) ?_
                 refine RefX.conv (Conv.ob 3 (E9.row [r55, w_46, a1.fWhat, w_40]) (El.row_build E9 [r55, w_46, a1.fWhat, w_40] rfl (by kernel_rfl))) ?_
                 refine RefX.conv (Conv.sl 125 (.c (.own 3 ([r55, w_46, a1.fWhat, w_40].length))) (DLe.c (CLe.own (by simp <;> omega)))) ?_
                 refine RefX.tailC [11] rfl (by kernel_rfl) ?_
                 refine RefR.conv (Conv.freeze (st' := ⟨[(125, .c (E9.tree [r55, w_46, a1.fWhat, w_40])), sP 0 0 0 0, sP 3 2 0 0, sP 115 0 0 0], [.cells [.own 1 a0.fl.length], E9.row a0.fl, E25.o a1, .dead], [], 2⟩) 3 (by kernel_rfl)) ?_
                 refine RefR.cc 126 0 1 [0, 1] (F43_ok K (⟨a0.fl⟩ : S60) [r55, w_46, a1.fWhat, w_40]) (fun r56 => ?_)
                 refine RefR.nl 1 ?_
                 refine Ref.sq ?_
                 refine Ref.rn 35 ?_
                 refine RefR.e0 (st' := ⟨[sP 0 0 0 0, sP 127 0 0 0, (129, .c (NT25 a1.fArgs))], [.cells [.own 2 r56.fl.length], .dead, E9.row r56.fl], [], 2⟩) 0 3 3 [0, 127, 129] [0, 1, 4] ?_
                 refine RefR.conv (Conv.sl 129 (.c (E25.tree a1.fArgs)) (DLe.c (NT25_le _))) ?_
                 refine RefR.cc 130 3 4 [0, 2] (ih47 (⟨r56.fl⟩ : S60) a1.fArgs) (fun r57 => ?_)
                 refine RefR.nl 4 ?_
                 refine Ref.rn 36 ?_
                 refine RefR.e0 (st' := ⟨[sP 131 0 0 0], [.cells [.own 2 r57.fl.length], .dead, E9.row r57.fl], [], 2⟩) 0 1 1 [131] [0, 1, 3] ?_
                 refine RefR.li 132 [] E9 ([[41]] : List Bytes) 1 2 ?_
                 refine RefR.cc 133 2 3 [0, 2] (F43_ok K (⟨r57.fl⟩ : S60) ([[41]] : List Bytes)) (fun r58 => ?_)
                 refine RefR.nl 3 ?_
                 refine Ref.ck ⟨[], [.cells [.own 2 r58.fl.length], .dead, E9.row r58.fl], [], 2⟩ [] [0, 1, 4] ?_
                 exact Ref.n0 (t := (r58.fl))
                ·
                 refine Ref.rn 2 ?_
                 refine RefR.e0 (st' := ⟨[sP 6 0 0 0], [.cells [.own 1 a0.fl.length], E9.row a0.fl], [], 2⟩) 0 1 1 [6] [0, 1] ?_
                 refine RefR.li 7 [] E9 ([[63]] : List Bytes) 1 2 ?_
                 refine RefR.cc 8 2 3 [0, 1] (F43_ok K (⟨a0.fl⟩ : S60) ([[63]] : List Bytes)) (fun r59 => ?_)
                 refine RefR.nl 3 ?_
                 refine Ref.ck ⟨[], [.cells [.own 2 r59.fl.length], .dead, E9.row r59.fl], [], 2⟩ [] [0, 1, 3] ?_
                 exact Ref.n0 (t := (r59.fl))
   ·
    exact Ref.n0 (t := ((⟨u30⟩ : S60)))
  ·
   intro a0 a1 a2
   refine DFun.it Tryz.f44 (fun r => ⟨[], [.cells [.own 2 r.fl.length], .dead, E9.row r.fl], [], 2⟩) ?_
   rw [F44]
   refine Ref.sq ?_
   refine Ref.sq ?_
   refine Ref.rn 0 ?_
   refine RefR.e0 (st' := ⟨[sP 0 0 0 0, (1, .c (E25.tree a1)), sI 2 a2, sB 9 (decide ((a2 : Int) ≥ (Int.ofNat a1.length)))], [.cells [.own 1 a0.fl.length], E9.row a0.fl], [], 2⟩) 0 4 4 [0, 1, 2, 9] [0, 1] ?_
   refine RefR.letC (stf := fun x1 => ⟨[sP 0 0 0 0, (1, .c (E25.tree a1)), sI 2 a2, sB 9 x1], [.cells [.own 1 a0.fl.length], E9.row a0.fl], [], 2⟩) (by kernel_rfl) (fun x1 => ?_)
   refine RefR.nl 4 ?_
   refine Ref.cn (.tmp 9) x1 (fun hc => ?_) (fun hc => ?_)
   ·
    refine Ref.sq ?_
    refine Ref.rn 1 ?_
    refine RefR.e0 (st' := ⟨[sP 10 0 0 0], [.cells [.own 1 a0.fl.length], E9.row a0.fl], [], 2⟩) 0 1 1 [10] [0, 1] ?_
    refine RefR.li 11 [] E9 ([[63]] : List Bytes) 1 2 ?_
    refine RefR.cc 12 2 3 [0, 1] (F43_ok K (⟨a0.fl⟩ : S60) ([[63]] : List Bytes)) (fun r2 => ?_)
    refine RefR.nl 3 ?_
    refine Ref.ck ⟨[], [.cells [.own 2 r2.fl.length], .dead, E9.row r2.fl], [], 2⟩ [] [0, 1, 3] ?_
    exact Ref.rt (t := ((⟨r2.fl⟩ : S60)))
   ·
    refine Ref.sk ?_
    refine Ref.rn 2 ?_
    refine RefR.e0 (st' := ⟨[sP 13 0 0 0, (14, .c (E25.tree a1)), sI 15 a2], [.cells [.own 1 a0.fl.length], E9.row a0.fl], [], 2⟩) 0 3 3 [13, 14, 15] [0, 1] ?_
    refine RefR.evC (vs := [inb a2 a1.length]) (st' := ⟨[sP 13 0 0 0, (17, .agg (E25.cs (a1.getD (a2 : Int).toNat default)))], [.cells [.own 1 a0.fl.length], E9.row a0.fl], [], 2⟩) 3 2 5 [13, 17] [0, 1] rfl (by kernel_rfl) ?_
    refine RefR.cc 18 5 6 [0, 1] (ih18 (⟨a0.fl⟩ : S60) (a1.getD (a2 : Int).toNat default)) (fun r3 => ?_)
    refine RefR.nl 6 ?_
    refine Ref.ck ⟨[], [.cells [.own 2 r3.fl.length], .dead, E9.row r3.fl], [], 2⟩ [] [0, 1, 2] ?_
    exact Ref.n0 (t := ((⟨r3.fl⟩ : S60)))
  ·
   intro a0 a1 a2
   refine DFun.it Tryz.f46 (fun r => ⟨[], [.cells [.own 2 r.fl.length], .dead, E9.row r.fl], [], 2⟩) ?_
   rw [F46]
   refine Ref.sq ?_
   refine Ref.rn 0 ?_
   refine RefR.e0 (st' := ⟨[sP 0 0 0 0, (1, .c (E25.tree a1)), sI 2 a2, sI 6 0], [.cells [.own 1 a0.fl.length], E9.row a0.fl], [], 2⟩) 0 1 1 [0, 1, 2, 6] [0, 1] ?_
   refine RefR.nl 1 ?_
   refine Ref.sq ?_
   refine Ref.sq ?_
   refine Ref.rn 1 ?_
   refine RefR.e0 (st' := ⟨[sP 0 0 0 0, (1, .c (E25.tree a1)), sI 2 a2, sI 6 0, sB 10 (decide ((a2 : Int) < (Int.ofNat a1.length)))], [.cells [.own 1 a0.fl.length], E9.row a0.fl], [], 2⟩) 0 4 4 [0, 1, 2, 6, 10] [0, 1] ?_
   refine RefR.letC (stf := fun x1 => ⟨[sP 0 0 0 0, (1, .c (E25.tree a1)), sI 2 a2, sI 6 0, sB 10 x1], [.cells [.own 1 a0.fl.length], E9.row a0.fl], [], 2⟩) (by kernel_rfl) (fun x1 => ?_)
   refine RefR.nl 4 ?_
   refine Ref.bind (go1 := fun u2 => ⟨[sP 0 0 0 0, (1, .c (E25.tree a1)), sI 2 a2, sI 6 u2], [.cells [.own 1 a0.fl.length], E9.row a0.fl], [], 2⟩) ?_ (fun u2 => ?_)
   ·
    refine Ref.cn (.tmp 10) x1 (fun hc => ?_) (fun hc => ?_)
    ·
     refine Ref.rn 2 ?_
     refine RefR.e0 (st' := ⟨[sP 0 0 0 0, (1, .c (E25.tree a1)), sI 2 a2, (11, .c (E25.tree a1)), sI 12 a2], [.cells [.own 1 a0.fl.length], E9.row a0.fl], [], 2⟩) 0 2 2 [0, 1, 2, 11, 12] [0, 1] ?_
     refine RefR.evC (vs := [inb a2 a1.length]) (st' := ⟨[sP 0 0 0 0, (1, .c (E25.tree a1)), sI 2 a2, sI 6 ((a1.getD (a2 : Int).toNat default).fKind)], [.cells [.own 1 a0.fl.length], E9.row a0.fl], [], 2⟩) 2 4 6 [0, 1, 2, 6] [0, 1] rfl (by kernel_rfl) ?_
     refine RefR.nl 6 ?_
     exact Ref.n0 (t := ((a1.getD (a2 : Int).toNat default).fKind))
    ·
     refine Ref.sk ?_
     refine Ref.ck ⟨[sP 0 0 0 0, (1, .c (E25.tree a1)), sI 2 a2, sI 6 0], [.cells [.own 1 a0.fl.length], E9.row a0.fl], [], 2⟩ [0, 1, 2, 6] [0, 1] ?_
     exact Ref.n0 (t := (0))
   ·
    refine Ref.sq ?_
    refine Ref.rn 3 ?_
    refine RefR.e0 (st' := ⟨[sP 0 0 0 0, (1, .c (E25.tree a1)), sI 2 a2, sI 16 u2], [.cells [.own 1 a0.fl.length], E9.row a0.fl], [], 2⟩) 0 1 1 [0, 1, 2, 16] [0, 1] ?_
    refine RefR.nl 1 ?_
    refine Ref.ce (.block 0 (cd (bd Tryz.f46) [1, 1, 1, 0])) ?_
    refine Ref.block (go1 := fun u8 => ⟨[], [.cells [.own 2 u8.length], .dead, E9.row u8], [], 2⟩) ?_ (fun _ h => by cases h) (fun u8 => ?_)
    ·
     refine Ref.sq ?_
     refine Ref.sq ?_
     refine Ref.rn 5 ?_
     refine RefR.e0 (st' := ⟨[sP 0 0 0 0, (1, .c (E25.tree a1)), sI 2 a2, sI 16 u2, sB 21 ((u2 : Int) == 7)], [.cells [.own 1 a0.fl.length], E9.row a0.fl], [], 2⟩) 0 2 2 [0, 1, 2, 16, 21] [0, 1] ?_
     refine RefR.nl 2 ?_
     refine Ref.bind (go1 := fun u9 => ⟨[sP 0 0 0 0, (1, .c (E25.tree a1)), sI 2 a2, sB 21 u9], [.cells [.own 1 a0.fl.length], E9.row a0.fl], [], 2⟩) ?_ (fun u9 => ?_)
     ·
      refine Ref.cn (.tmp 21) ((u2 : Int) == 7) (fun hc => ?_) (fun hc => ?_)
      ·
       refine Ref.sk ?_
       refine Ref.ck ⟨[sP 0 0 0 0, (1, .c (E25.tree a1)), sI 2 a2, sB 21 ((u2 : Int) == 7)], [.cells [.own 1 a0.fl.length], E9.row a0.fl], [], 2⟩ [0, 1, 2, 21] [0, 1] ?_
       exact Ref.n0 (t := (((u2 : Int) == 7)))
      ·
       refine Ref.sq ?_
       refine Ref.rn 6 ?_
       refine RefR.e0 (st' := ⟨[sP 0 0 0 0, (1, .c (E25.tree a1)), sI 2 a2, sI 16 u2, sB 21 ((u2 : Int) == 8)], [.cells [.own 1 a0.fl.length], E9.row a0.fl], [], 2⟩) 0 2 2 [0, 1, 2, 16, 21] [0, 1] ?_
       refine RefR.nl 2 ?_
       refine Ref.cn (.tmp 21) ((u2 : Int) == 8) (fun hc => ?_) (fun hc => ?_)
       ·
        refine Ref.sk ?_
        refine Ref.ck ⟨[sP 0 0 0 0, (1, .c (E25.tree a1)), sI 2 a2, sB 21 ((u2 : Int) == 8)], [.cells [.own 1 a0.fl.length], E9.row a0.fl], [], 2⟩ [0, 1, 2, 21] [0, 1] ?_
        exact Ref.n0 (t := (((u2 : Int) == 8)))
       ·
        refine Ref.rn 7 ?_
        refine RefR.e0 (st' := ⟨[sP 0 0 0 0, (1, .c (E25.tree a1)), sI 2 a2, sB 21 ((u2 : Int) == 9)], [.cells [.own 1 a0.fl.length], E9.row a0.fl], [], 2⟩) 0 2 2 [0, 1, 2, 21] [0, 1] ?_
        refine RefR.nl 2 ?_
        exact Ref.n0 (t := (((u2 : Int) == 9)))
     ·
      refine Ref.cn (.tmp 21) u9 (fun hc => ?_) (fun hc => ?_)
      ·
       refine Ref.sq ?_
       refine Ref.rn 8 ?_
       refine RefR.e0 (st' := ⟨[sP 0 0 0 0, (1, .c (E25.tree a1)), sI 2 a2, sP 25 0 0 0], [.cells [.own 1 a0.fl.length], E9.row a0.fl], [], 2⟩) 0 1 1 [0, 1, 2, 25] [0, 1] ?_
       refine RefR.li 26 [] E9 ([[40]] : List Bytes) 1 2 ?_
       refine RefR.cc 27 2 3 [0, 1] (F43_ok K (⟨a0.fl⟩ : S60) ([[40]] : List Bytes)) (fun r10 => ?_)
       refine RefR.nl 3 ?_
       refine Ref.sq ?_
       refine Ref.rn 9 ?_
       refine RefR.e1 0 3 3 [0, 28, 29, 30] [0, 1, 3] ?_
       refine RefR.cc 31 3 4 [0, 2] (ih44 (⟨r10.fl⟩ : S60) a1 a2) (fun r11 => ?_)
       refine RefR.nl 4 ?_
       refine Ref.rn 10 ?_
       refine RefR.e0 (st' := ⟨[sP 32 0 0 0], [.cells [.own 2 r11.fl.length], .dead, E9.row r11.fl], [], 2⟩) 0 1 1 [32] [0, 1, 3] ?_
       refine RefR.li 33 [] E9 ([[41]] : List Bytes) 1 2 ?_
       refine RefR.cc 34 2 3 [0, 2] (F43_ok K (⟨r11.fl⟩ : S60) ([[41]] : List Bytes)) (fun r12 => ?_)
       refine RefR.nl 3 ?_
       refine Ref.ck ⟨[], [.cells [.own 2 r12.fl.length], .dead, E9.row r12.fl], [], 2⟩ [] [0, 1, 4] ?_
       exact Ref.n0 (t := (r12.fl))
      ·
       refine Ref.rn 4 ?_
       refine RefR.e1 0 3 3 [17, 18, 19] [0, 1] ?_
       refine RefR.cc 20 3 4 [0, 1] (ih44 (⟨a0.fl⟩ : S60) a1 a2) (fun r13 => ?_)
       refine RefR.nl 4 ?_
       refine Ref.ck ⟨[], [.cells [.own 2 r13.fl.length], .dead, E9.row r13.fl], [], 2⟩ [] [0, 1, 2] ?_
       exact Ref.n0 (t := (r13.fl))
    ·
     exact Ref.n0 (t := ((⟨u8⟩ : S60)))
  ·
   intro a0 a1
   refine DFun.it Tryz.f47 (fun r => ⟨[], [.cells [.own 2 r.fl.length], .dead, E9.row r.fl], [], 2⟩) ?_
   rw [F47]
   refine Ref.sq ?_
   refine Ref.rn 0 ?_
   refine RefR.e0 (st' := ⟨[sP 0 0 0 0, (6, .c (E25.tree a1)), sI 7 (Int.ofNat a1.length), sI 8 0], [.cells [.own 1 a0.fl.length], E9.row a0.fl], [], 2⟩) 0 3 3 [0, 6, 7, 8] [0, 1] ?_
   refine RefR.nl 3 ?_
   refine Ref.ce (.block 0 (cd (bd Tryz.f47) [1, 0])) ?_
   refine Ref.block (go1 := fun u33 => ⟨[], [.cells [.own 2 u33.length], .dead, E9.row u33], [], 2⟩) ?_ (fun _ h => by cases h) (fun u33 => ?_)
   ·
    refine Ref.ce (.loop (cd (bd Tryz.f47) [1, 0, 0])) ?_
    refine Ref.conv (Conv.move (st' := ⟨[sP 0 0 0 0, (6, .c (E25.tree a1)), sI 7 (Int.ofNat a1.length), sI 8 0], [.cells [.own 2 a0.fl.length], .dead, E9.row a0.fl], [], 2⟩) 1 (by kernel_rfl) (by kernel_rfl)) ?_
    refine Ref.loop (hd := fun u44 => ⟨[sP 0 0 0 0, (6, .c (E25.tree a1)), sI 7 (Int.ofNat a1.length), sI 8 u44.2], [.cells [.own 2 u44.1.length], .dead, E9.row u44.1], [], 2⟩) K (a0.fl, 0) (by kernel_rfl) (fun u44 => ?_)
    refine Ref.sq ?_
    refine Ref.rn 1 ?_
    refine RefR.e0 (st' := ⟨[sP 0 0 0 0, (6, .c (E25.tree a1)), sI 7 (Int.ofNat a1.length), sI 8 u44.2, sB 9 (decide ((u44.2 : Int) < (Int.ofNat a1.length)))], [.cells [.own 2 u44.1.length], .dead, E9.row u44.1], [], 2⟩) 0 1 1 [0, 6, 7, 8, 9] [0, 1, 2] ?_
    refine RefR.letC (stf := fun x56 => ⟨[sP 0 0 0 0, (6, .c (E25.tree a1)), sI 7 (Int.ofNat a1.length), sI 8 u44.2, sB 9 x56], [.cells [.own 2 u44.1.length], .dead, E9.row u44.1], [], 2⟩) (by kernel_rfl) (fun x56 => ?_)
    refine RefR.nl 1 ?_
    refine Ref.sq ?_
    refine Ref.cn (.tmp 9) x56 (fun hc => ?_) (fun hc => ?_)
    ·
     refine Ref.sk ?_
     refine Ref.sq ?_
     refine Ref.ce (.block 1 (cd (bd Tryz.f47) [1, 0, 0, 1, 1, 0, 0])) ?_
     refine Ref.block (go1 := fun u61 => ⟨[sP 0 0 0 0, (6, .c (E25.tree a1)), sI 7 (Int.ofNat a1.length), sI 8 u44.2], [.cells [.own 2 u61.length], .dead, E9.row u61], [], 2⟩) ?_ (fun a => match a with | .inl _ => (fun h => by cases h) | .inr _ => (fun h => by cases h)) (fun u61 => ?_)
     ·
      refine Ref.sq ?_
      refine Ref.rn 2 ?_
      refine RefR.evC (vs := [inb u44.2 a1.length]) (st' := ⟨[sP 0 0 0 0, sI 4 u44.2, sP 5 3 0 0, (6, .c (E25.tree a1)), sI 7 (Int.ofNat a1.length), sI 8 u44.2], [.cells [.own 2 u44.1.length], .dead, E9.row u44.1, E25.o (a1.getD (u44.2 : Int).toNat default)], [], 2⟩) 0 6 6 [0, 4, 5, 6, 7, 8] [0, 1, 2, 3] rfl (by kernel_rfl) ?_
      refine RefR.nl 6 ?_
      refine Ref.sq ?_
      refine Ref.sq ?_
      refine Ref.rn 3 ?_
      refine RefR.e0 (st' := ⟨[sP 0 0 0 0, sP 5 3 0 0, (6, .c (E25.tree a1)), sI 7 (Int.ofNat a1.length), sI 8 u44.2, sB 14 (decide ((u44.2 : Int) > 0))], [.cells [.own 2 u44.1.length], .dead, E9.row u44.1, E25.o (a1.getD (u44.2 : Int).toNat default)], [], 2⟩) 0 2 2 [0, 5, 6, 7, 8, 14] [0, 1, 2, 3] ?_
      refine RefR.nl 2 ?_
      refine Ref.bind (go1 := fun u63 => ⟨[sP 0 0 0 0, sP 5 3 0 0, (6, .c (E25.tree a1)), sI 7 (Int.ofNat a1.length), sI 8 u44.2], [.cells [.own 2 u63.length], .dead, E9.row u63, E25.o (a1.getD (u44.2 : Int).toNat default)], [], 2⟩) ?_ (fun u63 => ?_)
      ·
       refine Ref.cn (.tmp 14) (decide ((u44.2 : Int) > 0)) (fun hc => ?_) (fun hc => ?_)
       ·
        refine Ref.rn 4 ?_
        refine RefR.e0 (st' := ⟨[sP 0 0 0 0, sP 5 3 0 0, (6, .c (E25.tree a1)), sI 7 (Int.ofNat a1.length), sI 8 u44.2, sP 15 0 0 0], [.cells [.own 2 u44.1.length], .dead, E9.row u44.1, E25.o (a1.getD (u44.2 : Int).toNat default)], [], 2⟩) 0 1 1 [0, 5, 6, 7, 8, 15] [0, 1, 2, 3] ?_
        refine RefR.li 16 [] E9 ([[44]] : List Bytes) 1 2 ?_
        refine RefR.cc 17 2 3 [0, 2] (F43_ok K (⟨u44.1⟩ : S60) ([[44]] : List Bytes)) (fun r64 => ?_)
        refine RefR.nl 3 ?_
        refine Ref.ck ⟨[sP 0 0 0 0, sP 5 3 0 0, (6, .c (E25.tree a1)), sI 7 (Int.ofNat a1.length), sI 8 u44.2], [.cells [.own 2 r64.fl.length], .dead, E9.row r64.fl, E25.o (a1.getD (u44.2 : Int).toNat default)], [], 2⟩ [0, 5, 6, 7, 8] [0, 1, 5, 3] ?_
        exact Ref.n0 (t := (r64.fl))
       ·
        refine Ref.sk ?_
        refine Ref.ck ⟨[sP 0 0 0 0, sP 5 3 0 0, (6, .c (E25.tree a1)), sI 7 (Int.ofNat a1.length), sI 8 u44.2], [.cells [.own 2 u44.1.length], .dead, E9.row u44.1, E25.o (a1.getD (u44.2 : Int).toNat default)], [], 2⟩ [0, 5, 6, 7, 8] [0, 1, 2, 3] ?_
        exact Ref.n0 (t := (u44.1))
      ·
       refine Ref.rn 5 ?_
       refine RefR.e1 0 2 2 [0, 6, 7, 8, 18, 19] [0, 1, 2] ?_
       refine RefR.cc 20 2 3 [0, 2] (ih18 (⟨u63⟩ : S60) (a1.getD (u44.2 : Int).toNat default)) (fun r65 => ?_)
       refine RefR.nl 3 ?_
       refine Ref.ck ⟨[sP 0 0 0 0, (6, .c (E25.tree a1)), sI 7 (Int.ofNat a1.length), sI 8 u44.2], [.cells [.own 2 r65.fl.length], .dead, E9.row r65.fl], [], 2⟩ [0, 6, 7, 8] [0, 1, 3] ?_
       exact Ref.n0 (t := (r65.fl))
     ·
      refine Ref.rn 6 ?_
      refine RefR.e0 (st' := ⟨[sP 0 0 0 0, (6, .c (E25.tree a1)), sI 7 (Int.ofNat a1.length), sI 8 (IntKind.i64.wrap (u44.2 + 1))], [.cells [.own 2 u61.length], .dead, E9.row u61], [], 2⟩) 0 2 2 [0, 6, 7, 8] [0, 1, 2] ?_
      refine RefR.nl 2 ?_
      exact Ref.n0 (t := (u61, (IntKind.i64.wrap (u44.2 + 1))))
    ·
     refine Ref.ck ⟨[], [.cells [.own 2 u44.1.length], .dead, E9.row u44.1], [], 2⟩ [] [0, 1, 2] ?_
     exact Ref.xt 0 (t := (Sum.inl (u44.1)))
   ·
    exact Ref.n0 (t := ((⟨u33⟩ : S60)))
theorem F18_ok (K : Nat) (a0 : S60) (a1 : S25) : DFun Tryz.prog 18 [.c (.ptr 0 0 0), .agg (E25.cs a1)] [.cells [.own 1 a0.fl.length], E9.row a0.fl] (fnS (F18 K a0 a1)) (fun r => .tup []) (fun r => [.cells [.own 2 r.fl.length], .dead, E9.row r.fl]) := (G18_ok K).1 a0 a1
end Go.Proofs.YtidjangjfekfjaaGreatDoor
