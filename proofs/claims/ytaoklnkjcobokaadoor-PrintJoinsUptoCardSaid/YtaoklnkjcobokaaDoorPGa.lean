/- Plain functions, and that the Go functions do what these do: printed by gen2.py. No conditions. -/
import Derived.Test.YtaoklnkjcobokaaDoorPCe
import Derived.Test.YtaoklnkjcobokaaDoorDC
import Derived.Test.YtaoklnkjcobokaaDoorProg
set_option linter.unusedVariables false
set_option linter.unusedSimpArgs false
set_option linter.unusedSectionVars false
namespace Go.Proofs.YtaoklnkjcobokaaDoor
open Go Go.Proofs Go.Dl

/-- governor/print.named -/
def F45 (K : Nat) (a0 : Int) (a1 : (List Bytes)) : Option ((Bytes) ⊕ (Bytes)) :=
 (letV ((decide ((a0 : Int) < 1)) || (decide ((a0 : Int) > (Int.ofNat a1.length)))) (fun (x1 : Bool) => (if x1 = true then (some (.inl (([63] : Bytes)))) else (chk [inb (IntKind.i64.wrap (a0 - 1)) a1.length] (letV (a1.getD ((IntKind.i64.wrap (a0 - 1)) : Int).toNat default) (fun (x2 : Bytes) => (some (.inl (x2)))))))))

theorem F45_ok (K : Nat) (a0 : Int) (a1 : (List Bytes)) : DFun Tryd.prog 45 [.c (.val (.int .i64 a0)), .c (E9.tree a1)] [] (fnS (F45 K a0 a1)) (fun r => .c (.str r)) (fun r => []) := by
 refine DFun.intro (fn := Tryd.f45) (c := cd (bd Tryd.f45) []) (rs := fun r => ⟨[sS 4 r], [], [], 0⟩) (by kernel_rfl) (by kernel_rfl) (by kernel_rfl) ?_ (fun r => by kernel_rfl) (fun r => by kernel_rfl) (fun r => by kernel_rfl) (fun r => by kernel_rfl)
 unfold F45
 refine Ref.sq ?_
 refine Ref.rn 0 ?_
 refine RefR.e0 (st' := ⟨[sI 0 a0, (1, .c (E9.tree a1))], [], [], 0⟩) 0 1 1 [0, 1] [] ?_
 refine RefR.nl 1 ?_
 refine Ref.sq ?_
 refine Ref.sq ?_
 refine Ref.rn 1 ?_
 refine RefR.e0 (st' := ⟨[sI 0 a0, (1, .c (E9.tree a1)), sB 12 ((decide ((a0 : Int) < 1)) || (decide ((a0 : Int) > (Int.ofNat a1.length))))], [], [], 0⟩) 0 8 8 [0, 1, 12] [] ?_
 refine RefR.letC (stf := fun x1 => ⟨[sI 0 a0, (1, .c (E9.tree a1)), sB 12 x1], [], [], 0⟩) (by kernel_rfl) (fun x1 => ?_)
 refine RefR.nl 8 ?_
 refine Ref.cn (.tmp 12) x1 (fun hc => ?_) (fun hc => ?_)
 ·
  refine Ref.sq ?_
  refine Ref.rn 2 ?_
  refine RefR.e0 (st' := ⟨[sS 4 ([63] : Bytes)], [], [], 0⟩) 0 1 1 [4] [] ?_
  refine RefR.nl 1 ?_
  exact Ref.rt (t := (([63] : Bytes)))
 ·
  refine Ref.sk ?_
  refine Ref.sq ?_
  refine Ref.rn 3 ?_
  refine RefR.evC (vs := [inb (IntKind.i64.wrap (a0 - 1)) a1.length]) (st' := ⟨[sS 4 (a1.getD ((IntKind.i64.wrap (a0 - 1)) : Int).toNat default)], [], [], 0⟩) 0 6 6 [4] [] rfl (by kernel_rfl) ?_
  refine RefR.letC (stf := fun x2 => ⟨[sS 4 x2], [], [], 0⟩) (by kernel_rfl) (fun x2 => ?_)
  refine RefR.nl 6 ?_
  exact Ref.rt (t := (x2))

/-- (*governor/print.writer).put -/
def F33 (K : Nat) (a0 : S62) (a1 : (List Bytes)) : Option ((S62) ⊕ (S62)) :=
 (chk [room ((a0.fl.length + a1.length) * 16)] (some (.inr ((⟨(a0.fl ++ a1)⟩ : S62)))))

theorem F33_ok (K : Nat) (a0 : S62) (a1 : (List Bytes)) : DFun Tryd.prog 33 [.c (.ptr 0 0 0), .c (E9.tree a1)] [.cells [.own 1 a0.fl.length], E9.row a0.fl] (fnS (F33 K a0 a1)) (fun r => .tup []) (fun r => [.cells [.own 2 r.fl.length], .dead, E9.row r.fl]) := by
 refine DFun.intro (fn := Tryd.f33) (c := cd (bd Tryd.f33) []) (rs := fun r => ⟨[], [.cells [.own 2 r.fl.length], .dead, E9.row r.fl], [], 2⟩) (by kernel_rfl) (by kernel_rfl) (by kernel_rfl) ?_ (fun r => by kernel_rfl) (fun r => by kernel_rfl) (fun r => by kernel_rfl) (fun r => by kernel_rfl)
 unfold F33
 refine Ref.rn 0 ?_
 refine RefR.e0 (st' := ⟨[sP 4 0 0 0, (8, .c (.own 1 a0.fl.length)), (9, .c (E9.tree a1))], [.cells [.own 1 a0.fl.length], E9.row a0.fl], [], 2⟩) 0 6 6 [4, 8, 9] [0, 1] ?_
 refine RefR.evC (vs := [room ((a0.fl.length + a1.length) * 16)]) (st' := ⟨[sP 4 0 0 0, (10, .c (.own 2 (a0.fl.length + a1.length)))], [.cells [.own 1 a0.fl.length], .dead, .row 9 1 (a0.fl.length + a1.length) fun i j => bif Nat.blt i a0.fl.length then E9.at a0.fl i j else (E9.at a1) (i - a0.fl.length) j], [], 2⟩) 6 1 7 [4, 10] [0, 1, 2] rfl (by kernel_rfl) ?_
 refine RefR.conv (Conv.obj 2 (E9.row (a0.fl ++ a1)) (El.row_append E9 a0.fl a1 rfl rfl) (by kernel_rfl)) ?_
 refine RefR.conv (Conv.slot 10 (.c (.own 2 ((a0.fl ++ a1).length))) (DLe.c (CLe.own (by simp <;> omega))) (by kernel_rfl)) ?_
 refine RefR.e0 (st' := ⟨[], [.cells [.own 2 ((a0.fl ++ a1).length)], .dead, E9.row (a0.fl ++ a1)], [], 2⟩) 7 3 10 [] [0, 1, 2] ?_
 refine RefR.nl 10 ?_
 exact Ref.n0 (t := ((⟨(a0.fl ++ a1)⟩ : S62)))

/-- (*governor/print.writer).number -/
def F36 (K : Nat) (a0 : S62) (a1 : Int) : Option ((S62) ⊕ (S62)) :=
 ((fnS (F52 K a1)).bind (fun r1 => (bindS (if (decide ((a1 : Int) < 0)) = true then ((fnS (F33 K (⟨a0.fl⟩ : S62) [([45] : Bytes)])).bind (fun r5 => (chk [bndOk r1.length 1 (Int.ofNat r1.length)] (letV ((r1.drop (1 : Int).toNat).take (((Int.ofNat r1.length) : Int).toNat - (1 : Int).toNat)) (fun (x6 : Bytes) => (some (.inr (r5.fl, x6)))))))) else (some (.inr (a0.fl, r1)))) (fun (u4 : (List Bytes) × Bytes) => ((fnS (F33 K (⟨u4.1⟩ : S62) [u4.2])).bind (fun r7 => (some (.inr ((⟨r7.fl⟩ : S62))))))))))

theorem F36_ok (K : Nat) (a0 : S62) (a1 : Int) : DFun Tryd.prog 36 [.c (.ptr 0 0 0), .c (.val (.int .i64 a1))] [.cells [.own 1 a0.fl.length], E9.row a0.fl] (fnS (F36 K a0 a1)) (fun r => .tup []) (fun r => [.cells [.own 2 r.fl.length], .dead, E9.row r.fl]) := by
 refine DFun.intro (fn := Tryd.f36) (c := cd (bd Tryd.f36) []) (rs := fun r => ⟨[], [.cells [.own 2 r.fl.length], .dead, E9.row r.fl], [], 2⟩) (by kernel_rfl) (by kernel_rfl) (by kernel_rfl) ?_ (fun r => by kernel_rfl) (fun r => by kernel_rfl) (fun r => by kernel_rfl) (fun r => by kernel_rfl)
 unfold F36
 refine Ref.sq ?_
 refine Ref.rn 0 ?_
 refine RefR.e0 (st' := ⟨[sP 0 0 0 0, sI 1 a1, sI 5 a1], [.cells [.own 1 a0.fl.length], E9.row a0.fl], [], 2⟩) 0 1 1 [0, 1, 5] [0, 1] ?_
 refine RefR.callC (t := 6) 1 2 [] rfl (by kernel_rfl) (F52_ok K a1) (fun r1 => ?_)
 refine RefR.e0 (st' := ⟨[sP 0 0 0 0, sI 1 a1, sS 4 r1], [.cells [.own 1 a0.fl.length], E9.row a0.fl], [], 2⟩) 2 1 3 [0, 1, 4] [0, 1] ?_
 refine RefR.nl 3 ?_
 refine Ref.sq ?_
 refine Ref.sq ?_
 refine Ref.rn 1 ?_
 refine RefR.e0 (st' := ⟨[sP 0 0 0 0, sS 4 r1, sB 8 (decide ((a1 : Int) < 0))], [.cells [.own 1 a0.fl.length], E9.row a0.fl], [], 2⟩) 0 2 2 [0, 4, 8] [0, 1] ?_
 refine RefR.nl 2 ?_
 refine Ref.bind (go1 := fun u4 => ⟨[sP 0 0 0 0, sS 4 u4.2], [.cells [.own 2 u4.1.length], .dead, E9.row u4.1], [], 2⟩) ?_ (fun u4 => ?_)
 ·
  refine Ref.cn (.tmp 8) (decide ((a1 : Int) < 0)) (fun hc => ?_) (fun hc => ?_)
  ·
   refine Ref.sq ?_
   refine Ref.rn 2 ?_
   refine RefR.e0 (st' := ⟨[sP 0 0 0 0, sS 4 r1, sP 9 0 0 0], [.cells [.own 1 a0.fl.length], E9.row a0.fl], [], 2⟩) 0 1 1 [0, 4, 9] [0, 1] ?_
   refine RefR.e0 (st' := ⟨[sP 0 0 0 0, sS 4 r1, sP 9 0 0 0, (10, .c (.own 2 1))], [.cells [.own 1 a0.fl.length], E9.row a0.fl, .row 9 1 1 (tbl [[.str ([45] : Bytes)]])], [], 2⟩) 1 1 2 [0, 4, 9, 10] [0, 1, 2] ?_
   refine RefR.conv (Conv.obj 2 (E9.row [([45] : Bytes)]) (El.row_build E9 [([45] : Bytes)] rfl (by kernel_rfl)) (by kernel_rfl)) ?_
   refine RefR.conv (Conv.slot 10 (.c (.own 2 ([([45] : Bytes)].length))) (DLe.c (CLe.own (by simp <;> omega))) (by kernel_rfl)) ?_
   refine RefR.conv (Conv.freeze (st' := ⟨[(10, .c (E9.tree [([45] : Bytes)])), sP 0 0 0 0, sS 4 r1, sP 9 0 0 0], [.cells [.own 1 a0.fl.length], E9.row a0.fl, .dead], [], 2⟩) 2 (by kernel_rfl)) ?_
   refine RefR.callC (t := 11) 2 3 [0, 1] rfl (by kernel_rfl) (F33_ok K (⟨a0.fl⟩ : S62) [([45] : Bytes)]) (fun r5 => ?_)
   refine RefR.nl 3 ?_
   refine Ref.rn 3 ?_
   refine RefR.evC (vs := [bndOk r1.length 1 (Int.ofNat r1.length)]) (st' := ⟨[sP 0 0 0 0, sS 4 ((r1.drop (1 : Int).toNat).take (((Int.ofNat r1.length) : Int).toNat - (1 : Int).toNat))], [.cells [.own 2 r5.fl.length], .dead, E9.row r5.fl], [], 2⟩) 0 3 3 [0, 4] [0, 1, 3] rfl (by kernel_rfl) ?_
   refine RefR.letC (stf := fun x6 => ⟨[sP 0 0 0 0, sS 4 x6], [.cells [.own 2 r5.fl.length], .dead, E9.row r5.fl], [], 2⟩) (by kernel_rfl) (fun x6 => ?_)
   refine RefR.nl 3 ?_
   exact Ref.n0 (t := (r5.fl, x6))
  ·
   refine Ref.sk ?_
   refine Ref.conv (Conv.move (st' := ⟨[sP 0 0 0 0, sS 4 r1, sB 8 (decide ((a1 : Int) < 0))], [.cells [.own 2 a0.fl.length], .dead, E9.row a0.fl], [], 2⟩) 1 (by kernel_rfl) (by kernel_rfl)) ?_
   refine Ref.conv (Conv.keep (st' := ⟨[sP 0 0 0 0, sS 4 r1], [.cells [.own 2 a0.fl.length], .dead, E9.row a0.fl], [], 2⟩) [0, 4] [0, 1, 2] (by kernel_rfl)) ?_
   exact Ref.n0 (t := (a0.fl, r1))
 ·
  refine Ref.rn 4 ?_
  refine RefR.e0 (st' := ⟨[sP 14 0 0 0, sS 15 u4.2], [.cells [.own 2 u4.1.length], .dead, E9.row u4.1], [], 2⟩) 0 2 2 [14, 15] [0, 1, 2] ?_
  refine RefR.e0 (st' := ⟨[sP 14 0 0 0, (16, .c (.own 3 1))], [.cells [.own 2 u4.1.length], .dead, E9.row u4.1, .row 9 1 1 (tbl [[.str u4.2]])], [], 2⟩) 2 1 3 [14, 16] [0, 1, 2, 3] ?_
  refine RefR.conv (Conv.obj 3 (E9.row [u4.2]) (El.row_build E9 [u4.2] rfl (by kernel_rfl)) (by kernel_rfl)) ?_
  refine RefR.conv (Conv.slot 16 (.c (.own 3 ([u4.2].length))) (DLe.c (CLe.own (by simp <;> omega))) (by kernel_rfl)) ?_
  refine RefR.conv (Conv.freeze (st' := ⟨[(16, .c (E9.tree [u4.2])), sP 14 0 0 0], [.cells [.own 2 u4.1.length], .dead, E9.row u4.1, .dead], [], 2⟩) 3 (by kernel_rfl)) ?_
  refine RefR.callC (t := 17) 3 4 [0, 2] rfl (by kernel_rfl) (F33_ok K (⟨u4.1⟩ : S62) [u4.2]) (fun r7 => ?_)
  refine RefR.nl 4 ?_
  refine Ref.conv (Conv.keep (st' := ⟨[], [.cells [.own 2 r7.fl.length], .dead, E9.row r7.fl], [], 2⟩) [] [0, 1, 4] (by kernel_rfl)) ?_
  exact Ref.n0 (t := ((⟨r7.fl⟩ : S62)))

/-- (*governor/print.writer).typ -/
def F29 (K : Nat) (a0 : S62) (a1 : S29) : Option ((S62) ⊕ (S62)) :=
 (bindS (blockS (bindS (blockS (bindS (blockS (bindS (blockS (bindS (blockS (bindS (blockS (bindS (blockS (bindS (blockS (bindS (blockS (if ((a1.fKind : Int) == 1) = true then (some (.inl (Sum.inl ()))) else (if ((a1.fKind : Int) == 2) = true then (some (.inl (Sum.inr (Sum.inl ())))) else (if ((a1.fKind : Int) == 3) = true then (some (.inl (Sum.inr (Sum.inr (Sum.inl ()))))) else (if ((a1.fKind : Int) == 4) = true then (some (.inl (Sum.inr (Sum.inr (Sum.inr (Sum.inl ())))))) else (if ((a1.fKind : Int) == 5) = true then (some (.inl (Sum.inr (Sum.inr (Sum.inr (Sum.inr (Sum.inl ()))))))) else (if ((a1.fKind : Int) == 6) = true then (some (.inl (Sum.inr (Sum.inr (Sum.inr (Sum.inr (Sum.inr (Sum.inl (a0.fl))))))))) else (if ((a1.fKind : Int) == 7) = true then (some (.inl (Sum.inr (Sum.inr (Sum.inr (Sum.inr (Sum.inr (Sum.inr (Sum.inl ()))))))))) else (some (.inl (Sum.inr (Sum.inr (Sum.inr (Sum.inr (Sum.inr (Sum.inr (Sum.inr (Sum.inl ())))))))))))))))))) (fun (u1330 : Unit) => ((fnS (F33 K (⟨a0.fl⟩ : S62) [([73, 78, 84] : Bytes)])).bind (fun r1331 => (some (.inl (Sum.inr (Sum.inr (Sum.inr (Sum.inr (Sum.inr (Sum.inr (Sum.inr (Sum.inl (r1331.fl)))))))))))))))) (fun (u1329 : Unit) => ((fnS (F33 K (⟨a0.fl⟩ : S62) [([66, 79, 79, 76] : Bytes)])).bind (fun r1332 => (some (.inl (Sum.inr (Sum.inr (Sum.inr (Sum.inr (Sum.inr (Sum.inr (Sum.inl (r1332.fl))))))))))))))) (fun (u1326 : Unit) => ((fnS (F33 K (⟨a0.fl⟩ : S62) [([73, 78, 84] : Bytes), ([40] : Bytes)])).bind (fun r1333 => ((fnS (F36 K (⟨r1333.fl⟩ : S62) a1.fLo)).bind (fun r1334 => ((fnS (F33 K (⟨r1334.fl⟩ : S62) [([46, 46] : Bytes)])).bind (fun r1335 => ((fnS (F36 K (⟨r1335.fl⟩ : S62) a1.fHi)).bind (fun r1336 => ((fnS (F33 K (⟨r1336.fl⟩ : S62) [([41] : Bytes)])).bind (fun r1337 => (some (.inl (Sum.inr (Sum.inr (Sum.inr (Sum.inr (Sum.inr (Sum.inl (r1337.fl)))))))))))))))))))))) (fun (u1319 : Unit) => ((fnS (F33 K (⟨a0.fl⟩ : S62) [([65, 82, 82, 65, 89] : Bytes), ([91] : Bytes)])).bind (fun r1338 => ((fnS (F36 K (⟨r1338.fl⟩ : S62) a1.fHi)).bind (fun r1339 => ((fnS (F33 K (⟨r1339.fl⟩ : S62) [([93] : Bytes), ([79, 70] : Bytes), ([73, 78, 84] : Bytes)])).bind (fun r1340 => (some (.inl (Sum.inr (Sum.inr (Sum.inr (Sum.inr (Sum.inl (r1340.fl))))))))))))))))) (fun (u1300 : Unit) => ((fnS (F33 K (⟨a0.fl⟩ : S62) [([82, 69, 70, 95, 84, 79] : Bytes)])).bind (fun r1341 => (some (.inr (r1341.fl)))))))) (fun (u1259 : (List Bytes)) => ((fnS (F33 K (⟨u1259⟩ : S62) [a1.fName])).bind (fun r1342 => (some (.inl (Sum.inr (Sum.inr (Sum.inl (r1342.fl))))))))))) (fun (u1176 : Unit) => ((condM true (fnS (F45 K a1.fLo [([84, 79, 78] : Bytes), ([84, 79, 70] : Bytes), ([84, 80] : Bytes), ([67, 84, 85] : Bytes), ([67, 84, 68] : Bytes), ([82, 95, 84, 82, 73, 71] : Bytes), ([70, 95, 84, 82, 73, 71] : Bytes)])) default).bind (fun r1343 => ((fnS (F33 K (⟨a0.fl⟩ : S62) [r1343])).bind (fun r1344 => (some (.inl (Sum.inr (Sum.inl (r1344.fl)))))))))))) (fun (u1009 : Unit) => ((fnS (F33 K (⟨a0.fl⟩ : S62) [([63] : Bytes)])).bind (fun r1345 => (some (.inl (Sum.inl (r1345.fl))))))))) (fun (u673 : (List Bytes)) => (some (.inr ((⟨u673⟩ : S62))))))

theorem F29_ok (K : Nat) (a0 : S62) (a1 : S29) : DFun Tryd.prog 29 [.c (.ptr 0 0 0), .agg (E29.cs a1)] [.cells [.own 1 a0.fl.length], E9.row a0.fl] (fnS (F29 K a0 a1)) (fun r => .tup []) (fun r => [.cells [.own 2 r.fl.length], .dead, E9.row r.fl]) := by
 refine DFun.intro (fn := Tryd.f29) (c := cd (bd Tryd.f29) []) (rs := fun r => ⟨[], [.cells [.own 2 r.fl.length], .dead, E9.row r.fl], [], 2⟩) (by kernel_rfl) (by kernel_rfl) (by kernel_rfl) ?_ (fun r => by kernel_rfl) (fun r => by kernel_rfl) (fun r => by kernel_rfl) (fun r => by kernel_rfl)
 unfold F29
 refine Ref.sq ?_
 refine Ref.rn 0 ?_
 refine RefR.e0 (st' := ⟨[sP 0 0 0 0, sP 3 2 0 0], [.cells [.own 1 a0.fl.length], E9.row a0.fl, .cells (E29.cs a1)], [], 2⟩) 0 1 1 [0, 3] [0, 1, 2] ?_
 refine RefR.nl 1 ?_
 refine Ref.sq ?_
 refine Ref.rn 1 ?_
 refine RefR.e0 (st' := ⟨[sP 0 0 0 0, sP 3 2 0 0, sI 5 a1.fKind], [.cells [.own 1 a0.fl.length], E9.row a0.fl, .cells (E29.cs a1)], [], 2⟩) 0 2 2 [0, 3, 5] [0, 1, 2] ?_
 refine RefR.nl 2 ?_
 refine Ref.codeEq (c' := .block 0 (cd (bd Tryd.f29) [1, 1, 0])) (by kernel_rfl) ?_
 refine Ref.block (go1 := fun u673 => ⟨[], [.cells [.own 2 u673.length], .dead, E9.row u673], [], 2⟩) ?_ (fun _ h => by cases h) (fun u673 => ?_)
 ·
  refine Ref.sq ?_
  refine Ref.codeEq (c' := .block 8 (cd (bd Tryd.f29) [1, 1, 0, 0, 0])) (by kernel_rfl) ?_
  refine Ref.block (go1 := fun u1009 => ⟨[sP 0 0 0 0], [.cells [.own 1 a0.fl.length], E9.row a0.fl], [], 2⟩) ?_ (fun a => match a with | .inl _ => (fun h => by cases h) | .inr _ => (fun h => by cases h)) (fun u1009 => ?_)
  ·
   refine Ref.sq ?_
   refine Ref.codeEq (c' := .block 7 (cd (bd Tryd.f29) [1, 1, 0, 0, 0, 0, 0])) (by kernel_rfl) ?_
   refine Ref.block (go1 := fun u1176 => ⟨[sP 0 0 0 0, sP 3 2 0 0], [.cells [.own 1 a0.fl.length], E9.row a0.fl, .cells (E29.cs a1)], [], 2⟩) ?_ (fun a => match a with | .inl _ => (fun h => by cases h) | .inr (.inl _) => (fun h => by cases h) | .inr (.inr _) => (fun h => by cases h)) (fun u1176 => ?_)
   ·
    refine Ref.sq ?_
    refine Ref.codeEq (c' := .block 6 (cd (bd Tryd.f29) [1, 1, 0, 0, 0, 0, 0, 0, 0])) (by kernel_rfl) ?_
    refine Ref.block (go1 := fun u1259 => ⟨[sP 0 0 0 0, sP 3 3 0 0], [.cells [.own 2 u1259.length], .dead, E9.row u1259, .cells (E29.cs a1)], [], 2⟩) ?_ (fun a => match a with | .inl _ => (fun h => by cases h) | .inr (.inl _) => (fun h => by cases h) | .inr (.inr (.inl _)) => (fun h => by cases h) | .inr (.inr (.inr _)) => (fun h => by cases h)) (fun u1259 => ?_)
    ·
     refine Ref.sq ?_
     refine Ref.codeEq (c' := .block 5 (cd (bd Tryd.f29) [1, 1, 0, 0, 0, 0, 0, 0, 0, 0, 0])) (by kernel_rfl) ?_
     refine Ref.block (go1 := fun u1300 => ⟨[sP 0 0 0 0, sP 3 2 0 0], [.cells [.own 1 a0.fl.length], E9.row a0.fl, .cells (E29.cs a1)], [], 2⟩) ?_ (fun a => match a with | .inl _ => (fun h => by cases h) | .inr (.inl _) => (fun h => by cases h) | .inr (.inr (.inl _)) => (fun h => by cases h) | .inr (.inr (.inr (.inl _))) => (fun h => by cases h) | .inr (.inr (.inr (.inr _))) => (fun h => by cases h)) (fun u1300 => ?_)
     ·
      refine Ref.sq ?_
      refine Ref.codeEq (c' := .block 4 (cd (bd Tryd.f29) [1, 1, 0, 0, 0, 0, 0, 0, 0, 0, 0, 0, 0])) (by kernel_rfl) ?_
      refine Ref.block (go1 := fun u1319 => ⟨[sP 0 0 0 0, sP 3 2 0 0], [.cells [.own 1 a0.fl.length], E9.row a0.fl, .cells (E29.cs a1)], [], 2⟩) ?_ (fun a => match a with | .inl _ => (fun h => by cases h) | .inr (.inl _) => (fun h => by cases h) | .inr (.inr (.inl _)) => (fun h => by cases h) | .inr (.inr (.inr (.inl _))) => (fun h => by cases h) | .inr (.inr (.inr (.inr (.inl _)))) => (fun h => by cases h) | .inr (.inr (.inr (.inr (.inr _)))) => (fun h => by cases h)) (fun u1319 => ?_)
      ·
       refine Ref.sq ?_
       refine Ref.codeEq (c' := .block 3 (cd (bd Tryd.f29) [1, 1, 0, 0, 0, 0, 0, 0, 0, 0, 0, 0, 0, 0, 0])) (by kernel_rfl) ?_
       refine Ref.block (go1 := fun u1326 => ⟨[sP 0 0 0 0, sP 3 2 0 0], [.cells [.own 1 a0.fl.length], E9.row a0.fl, .cells (E29.cs a1)], [], 2⟩) ?_ (fun a => match a with | .inl _ => (fun h => by cases h) | .inr (.inl _) => (fun h => by cases h) | .inr (.inr (.inl _)) => (fun h => by cases h) | .inr (.inr (.inr (.inl _))) => (fun h => by cases h) | .inr (.inr (.inr (.inr (.inl _)))) => (fun h => by cases h) | .inr (.inr (.inr (.inr (.inr (.inl _))))) => (fun h => by cases h) | .inr (.inr (.inr (.inr (.inr (.inr _))))) => (fun h => by cases h)) (fun u1326 => ?_)
       ·
        refine Ref.sq ?_
        refine Ref.codeEq (c' := .block 2 (cd (bd Tryd.f29) [1, 1, 0, 0, 0, 0, 0, 0, 0, 0, 0, 0, 0, 0, 0, 0, 0])) (by kernel_rfl) ?_
        refine Ref.block (go1 := fun u1329 => ⟨[sP 0 0 0 0], [.cells [.own 1 a0.fl.length], E9.row a0.fl], [], 2⟩) ?_ (fun a => match a with | .inl _ => (fun h => by cases h) | .inr (.inl _) => (fun h => by cases h) | .inr (.inr (.inl _)) => (fun h => by cases h) | .inr (.inr (.inr (.inl _))) => (fun h => by cases h) | .inr (.inr (.inr (.inr (.inl _)))) => (fun h => by cases h) | .inr (.inr (.inr (.inr (.inr (.inl _))))) => (fun h => by cases h) | .inr (.inr (.inr (.inr (.inr (.inr (.inl _)))))) => (fun h => by cases h) | .inr (.inr (.inr (.inr (.inr (.inr (.inr _)))))) => (fun h => by cases h)) (fun u1329 => ?_)
        ·
         refine Ref.sq ?_
         refine Ref.codeEq (c' := .block 1 (cd (bd Tryd.f29) [1, 1, 0, 0, 0, 0, 0, 0, 0, 0, 0, 0, 0, 0, 0, 0, 0, 0, 0])) (by kernel_rfl) ?_
         refine Ref.block (go1 := fun u1330 => ⟨[sP 0 0 0 0], [.cells [.own 1 a0.fl.length], E9.row a0.fl], [], 2⟩) ?_ (fun a => match a with | .inl _ => (fun h => by cases h) | .inr (.inl _) => (fun h => by cases h) | .inr (.inr (.inl _)) => (fun h => by cases h) | .inr (.inr (.inr (.inl _))) => (fun h => by cases h) | .inr (.inr (.inr (.inr (.inl _)))) => (fun h => by cases h) | .inr (.inr (.inr (.inr (.inr (.inl _))))) => (fun h => by cases h) | .inr (.inr (.inr (.inr (.inr (.inr (.inl _)))))) => (fun h => by cases h) | .inr (.inr (.inr (.inr (.inr (.inr (.inr (.inl _))))))) => (fun h => by cases h) | .inr (.inr (.inr (.inr (.inr (.inr (.inr (.inr _))))))) => (fun h => by cases h)) (fun u1330 => ?_)
         ·
          refine Ref.sq ?_
          refine Ref.sq ?_
          refine Ref.sq ?_
          refine Ref.rn 2 ?_
          refine RefR.e0 (st' := ⟨[sP 0 0 0 0, sP 3 2 0 0, sI 5 a1.fKind, sB 6 ((a1.fKind : Int) == 1)], [.cells [.own 1 a0.fl.length], E9.row a0.fl, .cells (E29.cs a1)], [], 2⟩) 0 2 2 [0, 3, 5, 6] [0, 1, 2] ?_
          refine RefR.nl 2 ?_
          refine Ref.cn (.tmp 6) ((a1.fKind : Int) == 1) (fun hc => ?_) (fun hc => ?_)
          ·
           refine Ref.conv (Conv.keep (st' := ⟨[sP 0 0 0 0], [.cells [.own 1 a0.fl.length], E9.row a0.fl], [], 2⟩) [0] [0, 1] (by kernel_rfl)) ?_
           exact Ref.xt 1 (t := (Sum.inl ()))
          ·
           refine Ref.sk ?_
           refine Ref.sq ?_
           refine Ref.sq ?_
           refine Ref.rn 3 ?_
           refine RefR.e0 (st' := ⟨[sP 0 0 0 0, sP 3 2 0 0, sI 5 a1.fKind, sB 8 ((a1.fKind : Int) == 2)], [.cells [.own 1 a0.fl.length], E9.row a0.fl, .cells (E29.cs a1)], [], 2⟩) 0 2 2 [0, 3, 5, 8] [0, 1, 2] ?_
           refine RefR.nl 2 ?_
           refine Ref.cn (.tmp 8) ((a1.fKind : Int) == 2) (fun hc => ?_) (fun hc => ?_)
           ·
            refine Ref.conv (Conv.keep (st' := ⟨[sP 0 0 0 0], [.cells [.own 1 a0.fl.length], E9.row a0.fl], [], 2⟩) [0] [0, 1] (by kernel_rfl)) ?_
            exact Ref.xt 2 (t := (Sum.inr (Sum.inl ())))
           ·
            refine Ref.sk ?_
            refine Ref.sq ?_
            refine Ref.sq ?_
            refine Ref.rn 4 ?_
            refine RefR.e0 (st' := ⟨[sP 0 0 0 0, sP 3 2 0 0, sI 5 a1.fKind, sB 10 ((a1.fKind : Int) == 3)], [.cells [.own 1 a0.fl.length], E9.row a0.fl, .cells (E29.cs a1)], [], 2⟩) 0 2 2 [0, 3, 5, 10] [0, 1, 2] ?_
            refine RefR.nl 2 ?_
            refine Ref.cn (.tmp 10) ((a1.fKind : Int) == 3) (fun hc => ?_) (fun hc => ?_)
            ·
             refine Ref.conv (Conv.keep (st' := ⟨[sP 0 0 0 0, sP 3 2 0 0], [.cells [.own 1 a0.fl.length], E9.row a0.fl, .cells (E29.cs a1)], [], 2⟩) [0, 3] [0, 1, 2] (by kernel_rfl)) ?_
             exact Ref.xt 3 (t := (Sum.inr (Sum.inr (Sum.inl ()))))
            ·
             refine Ref.sk ?_
             refine Ref.sq ?_
             refine Ref.sq ?_
             refine Ref.rn 5 ?_
             refine RefR.e0 (st' := ⟨[sP 0 0 0 0, sP 3 2 0 0, sI 5 a1.fKind, sB 12 ((a1.fKind : Int) == 4)], [.cells [.own 1 a0.fl.length], E9.row a0.fl, .cells (E29.cs a1)], [], 2⟩) 0 2 2 [0, 3, 5, 12] [0, 1, 2] ?_
             refine RefR.nl 2 ?_
             refine Ref.cn (.tmp 12) ((a1.fKind : Int) == 4) (fun hc => ?_) (fun hc => ?_)
             ·
              refine Ref.conv (Conv.keep (st' := ⟨[sP 0 0 0 0, sP 3 2 0 0], [.cells [.own 1 a0.fl.length], E9.row a0.fl, .cells (E29.cs a1)], [], 2⟩) [0, 3] [0, 1, 2] (by kernel_rfl)) ?_
              exact Ref.xt 4 (t := (Sum.inr (Sum.inr (Sum.inr (Sum.inl ())))))
             ·
              refine Ref.sk ?_
              refine Ref.sq ?_
              refine Ref.sq ?_
              refine Ref.rn 6 ?_
              refine RefR.e0 (st' := ⟨[sP 0 0 0 0, sP 3 2 0 0, sI 5 a1.fKind, sB 14 ((a1.fKind : Int) == 5)], [.cells [.own 1 a0.fl.length], E9.row a0.fl, .cells (E29.cs a1)], [], 2⟩) 0 2 2 [0, 3, 5, 14] [0, 1, 2] ?_
              refine RefR.nl 2 ?_
              refine Ref.cn (.tmp 14) ((a1.fKind : Int) == 5) (fun hc => ?_) (fun hc => ?_)
              ·
               refine Ref.conv (Conv.keep (st' := ⟨[sP 0 0 0 0, sP 3 2 0 0], [.cells [.own 1 a0.fl.length], E9.row a0.fl, .cells (E29.cs a1)], [], 2⟩) [0, 3] [0, 1, 2] (by kernel_rfl)) ?_
               exact Ref.xt 5 (t := (Sum.inr (Sum.inr (Sum.inr (Sum.inr (Sum.inl ()))))))
              ·
               refine Ref.sk ?_
               refine Ref.sq ?_
               refine Ref.sq ?_
               refine Ref.rn 7 ?_
               refine RefR.e0 (st' := ⟨[sP 0 0 0 0, sP 3 2 0 0, sI 5 a1.fKind, sB 16 ((a1.fKind : Int) == 6)], [.cells [.own 1 a0.fl.length], E9.row a0.fl, .cells (E29.cs a1)], [], 2⟩) 0 2 2 [0, 3, 5, 16] [0, 1, 2] ?_
               refine RefR.nl 2 ?_
               refine Ref.cn (.tmp 16) ((a1.fKind : Int) == 6) (fun hc => ?_) (fun hc => ?_)
               ·
                refine Ref.conv (Conv.move (st' := ⟨[sP 0 0 0 0, sP 3 2 0 0, sI 5 a1.fKind, sB 16 ((a1.fKind : Int) == 6)], [.cells [.own 3 a0.fl.length], .dead, .cells (E29.cs a1), E9.row a0.fl], [], 2⟩) 1 (by kernel_rfl) (by kernel_rfl)) ?_
                refine Ref.conv (Conv.keep (st' := ⟨[sP 0 0 0 0, sP 3 3 0 0], [.cells [.own 2 a0.fl.length], .dead, E9.row a0.fl, .cells (E29.cs a1)], [], 2⟩) [0, 3] [0, 1, 3, 2] (by kernel_rfl)) ?_
                exact Ref.xt 6 (t := (Sum.inr (Sum.inr (Sum.inr (Sum.inr (Sum.inr (Sum.inl (a0.fl))))))))
               ·
                refine Ref.sk ?_
                refine Ref.sq ?_
                refine Ref.rn 8 ?_
                refine RefR.e0 (st' := ⟨[sP 0 0 0 0, sP 3 2 0 0, sB 18 ((a1.fKind : Int) == 7)], [.cells [.own 1 a0.fl.length], E9.row a0.fl, .cells (E29.cs a1)], [], 2⟩) 0 2 2 [0, 3, 18] [0, 1, 2] ?_
                refine RefR.nl 2 ?_
                refine Ref.cn (.tmp 18) ((a1.fKind : Int) == 7) (fun hc => ?_) (fun hc => ?_)
                ·
                 refine Ref.conv (Conv.keep (st' := ⟨[sP 0 0 0 0, sP 3 2 0 0], [.cells [.own 1 a0.fl.length], E9.row a0.fl, .cells (E29.cs a1)], [], 2⟩) [0, 3] [0, 1, 2] (by kernel_rfl)) ?_
                 exact Ref.xt 7 (t := (Sum.inr (Sum.inr (Sum.inr (Sum.inr (Sum.inr (Sum.inr (Sum.inl ()))))))))
                ·
                 refine Ref.sk ?_
                 refine Ref.conv (Conv.keep (st' := ⟨[sP 0 0 0 0], [.cells [.own 1 a0.fl.length], E9.row a0.fl], [], 2⟩) [0] [0, 1] (by kernel_rfl)) ?_
                 exact Ref.xt 8 (t := (Sum.inr (Sum.inr (Sum.inr (Sum.inr (Sum.inr (Sum.inr (Sum.inr (Sum.inl ())))))))))
         ·
          refine Ref.sq ?_
          refine Ref.rn 9 ?_
          refine RefR.e0 (st' := ⟨[sP 20 0 0 0], [.cells [.own 1 a0.fl.length], E9.row a0.fl], [], 2⟩) 0 1 1 [20] [0, 1] ?_
          refine RefR.e0 (st' := ⟨[sP 20 0 0 0, (21, .c (.own 2 1))], [.cells [.own 1 a0.fl.length], E9.row a0.fl, .row 9 1 1 (tbl [[.str ([73, 78, 84] : Bytes)]])], [], 2⟩) 1 1 2 [20, 21] [0, 1, 2] ?_
          refine RefR.conv (Conv.obj 2 (E9.row [([73, 78, 84] : Bytes)]) (El.row_build E9 [([73, 78, 84] : Bytes)] rfl (by kernel_rfl)) (by kernel_rfl)) ?_
          refine RefR.conv (Conv.slot 21 (.c (.own 2 ([([73, 78, 84] : Bytes)].length))) (DLe.c (CLe.own (by simp <;> omega))) (by kernel_rfl)) ?_
          refine RefR.conv (Conv.freeze (st' := ⟨[(21, .c (E9.tree [([73, 78, 84] : Bytes)])), sP 20 0 0 0], [.cells [.own 1 a0.fl.length], E9.row a0.fl, .dead], [], 2⟩) 2 (by kernel_rfl)) ?_
          refine RefR.callC (t := 22) 2 3 [0, 1] rfl (by kernel_rfl) (F33_ok K (⟨a0.fl⟩ : S62) [([73, 78, 84] : Bytes)]) (fun r1331 => ?_)
          refine RefR.nl 3 ?_
          refine Ref.conv (Conv.keep (st' := ⟨[], [.cells [.own 2 r1331.fl.length], .dead, E9.row r1331.fl], [], 2⟩) [] [0, 1, 3] (by kernel_rfl)) ?_
          exact Ref.xt 0 (t := (Sum.inr (Sum.inr (Sum.inr (Sum.inr (Sum.inr (Sum.inr (Sum.inr (Sum.inl (r1331.fl))))))))))
        ·
         refine Ref.sq ?_
         refine Ref.rn 10 ?_
         refine RefR.e0 (st' := ⟨[sP 23 0 0 0], [.cells [.own 1 a0.fl.length], E9.row a0.fl], [], 2⟩) 0 1 1 [23] [0, 1] ?_
         refine RefR.e0 (st' := ⟨[sP 23 0 0 0, (24, .c (.own 2 1))], [.cells [.own 1 a0.fl.length], E9.row a0.fl, .row 9 1 1 (tbl [[.str ([66, 79, 79, 76] : Bytes)]])], [], 2⟩) 1 1 2 [23, 24] [0, 1, 2] ?_
         refine RefR.conv (Conv.obj 2 (E9.row [([66, 79, 79, 76] : Bytes)]) (El.row_build E9 [([66, 79, 79, 76] : Bytes)] rfl (by kernel_rfl)) (by kernel_rfl)) ?_
         refine RefR.conv (Conv.slot 24 (.c (.own 2 ([([66, 79, 79, 76] : Bytes)].length))) (DLe.c (CLe.own (by simp <;> omega))) (by kernel_rfl)) ?_
         refine RefR.conv (Conv.freeze (st' := ⟨[(24, .c (E9.tree [([66, 79, 79, 76] : Bytes)])), sP 23 0 0 0], [.cells [.own 1 a0.fl.length], E9.row a0.fl, .dead], [], 2⟩) 2 (by kernel_rfl)) ?_
         refine RefR.callC (t := 25) 2 3 [0, 1] rfl (by kernel_rfl) (F33_ok K (⟨a0.fl⟩ : S62) [([66, 79, 79, 76] : Bytes)]) (fun r1332 => ?_)
         refine RefR.nl 3 ?_
         refine Ref.conv (Conv.keep (st' := ⟨[], [.cells [.own 2 r1332.fl.length], .dead, E9.row r1332.fl], [], 2⟩) [] [0, 1, 3] (by kernel_rfl)) ?_
         exact Ref.xt 0 (t := (Sum.inr (Sum.inr (Sum.inr (Sum.inr (Sum.inr (Sum.inr (Sum.inl (r1332.fl)))))))))
       ·
        refine Ref.sq ?_
        refine Ref.sq ?_
        refine Ref.rn 11 ?_
        refine RefR.e0 (st' := ⟨[sP 0 0 0 0, sP 3 2 0 0, sP 26 0 0 0], [.cells [.own 1 a0.fl.length], E9.row a0.fl, .cells (E29.cs a1)], [], 2⟩) 0 1 1 [0, 3, 26] [0, 1, 2] ?_
        refine RefR.e0 (st' := ⟨[sP 0 0 0 0, sP 3 2 0 0, sP 26 0 0 0, (27, .c (.own 3 2))], [.cells [.own 1 a0.fl.length], E9.row a0.fl, .cells (E29.cs a1), .row 9 1 2 (tbl [[.str ([73, 78, 84] : Bytes)], [.str ([40] : Bytes)]])], [], 2⟩) 1 1 2 [0, 3, 26, 27] [0, 1, 2, 3] ?_
        refine RefR.conv (Conv.obj 3 (E9.row [([73, 78, 84] : Bytes), ([40] : Bytes)]) (El.row_build E9 [([73, 78, 84] : Bytes), ([40] : Bytes)] rfl (by kernel_rfl)) (by kernel_rfl)) ?_
        refine RefR.conv (Conv.slot 27 (.c (.own 3 ([([73, 78, 84] : Bytes), ([40] : Bytes)].length))) (DLe.c (CLe.own (by simp <;> omega))) (by kernel_rfl)) ?_
        refine RefR.conv (Conv.freeze (st' := ⟨[(27, .c (E9.tree [([73, 78, 84] : Bytes), ([40] : Bytes)])), sP 0 0 0 0, sP 3 2 0 0, sP 26 0 0 0], [.cells [.own 1 a0.fl.length], E9.row a0.fl, .cells (E29.cs a1), .dead], [], 2⟩) 3 (by kernel_rfl)) ?_
        refine RefR.callC (t := 28) 2 3 [0, 1] rfl (by kernel_rfl) (F33_ok K (⟨a0.fl⟩ : S62) [([73, 78, 84] : Bytes), ([40] : Bytes)]) (fun r1333 => ?_)
        refine RefR.nl 3 ?_
        refine Ref.sq ?_
        refine Ref.rn 12 ?_
        refine RefR.e0 (st' := ⟨[sP 0 0 0 0, sP 3 2 0 0, sP 29 0 0 0, sI 31 a1.fLo], [.cells [.own 3 r1333.fl.length], .dead, .cells (E29.cs a1), E9.row r1333.fl], [], 2⟩) 0 3 3 [0, 3, 29, 31] [0, 1, 2, 4] ?_
        refine RefR.callC (t := 32) 3 4 [0, 3] rfl (by kernel_rfl) (F36_ok K (⟨r1333.fl⟩ : S62) a1.fLo) (fun r1334 => ?_)
        refine RefR.nl 4 ?_
        refine Ref.sq ?_
        refine Ref.rn 13 ?_
        refine RefR.e0 (st' := ⟨[sP 0 0 0 0, sP 3 2 0 0, sP 33 0 0 0], [.cells [.own 3 r1334.fl.length], .dead, .cells (E29.cs a1), E9.row r1334.fl], [], 2⟩) 0 1 1 [0, 3, 33] [0, 1, 2, 4] ?_
        refine RefR.e0 (st' := ⟨[sP 0 0 0 0, sP 3 2 0 0, sP 33 0 0 0, (34, .c (.own 4 1))], [.cells [.own 3 r1334.fl.length], .dead, .cells (E29.cs a1), E9.row r1334.fl, .row 9 1 1 (tbl [[.str ([46, 46] : Bytes)]])], [], 2⟩) 1 1 2 [0, 3, 33, 34] [0, 1, 2, 3, 4] ?_
        refine RefR.conv (Conv.obj 4 (E9.row [([46, 46] : Bytes)]) (El.row_build E9 [([46, 46] : Bytes)] rfl (by kernel_rfl)) (by kernel_rfl)) ?_
        refine RefR.conv (Conv.slot 34 (.c (.own 4 ([([46, 46] : Bytes)].length))) (DLe.c (CLe.own (by simp <;> omega))) (by kernel_rfl)) ?_
        refine RefR.conv (Conv.freeze (st' := ⟨[(34, .c (E9.tree [([46, 46] : Bytes)])), sP 0 0 0 0, sP 3 2 0 0, sP 33 0 0 0], [.cells [.own 3 r1334.fl.length], .dead, .cells (E29.cs a1), E9.row r1334.fl, .dead], [], 2⟩) 4 (by kernel_rfl)) ?_
        refine RefR.callC (t := 35) 2 3 [0, 3] rfl (by kernel_rfl) (F33_ok K (⟨r1334.fl⟩ : S62) [([46, 46] : Bytes)]) (fun r1335 => ?_)
        refine RefR.nl 3 ?_
        refine Ref.sq ?_
        refine Ref.rn 14 ?_
        refine RefR.e0 (st' := ⟨[sP 0 0 0 0, sP 36 0 0 0, sI 38 a1.fHi], [.cells [.own 2 r1335.fl.length], .dead, E9.row r1335.fl], [], 2⟩) 0 3 3 [0, 36, 38] [0, 1, 5] ?_
        refine RefR.callC (t := 39) 3 4 [0, 2] rfl (by kernel_rfl) (F36_ok K (⟨r1335.fl⟩ : S62) a1.fHi) (fun r1336 => ?_)
        refine RefR.nl 4 ?_
        refine Ref.rn 15 ?_
        refine RefR.e0 (st' := ⟨[sP 40 0 0 0], [.cells [.own 2 r1336.fl.length], .dead, E9.row r1336.fl], [], 2⟩) 0 1 1 [40] [0, 1, 3] ?_
        refine RefR.e0 (st' := ⟨[sP 40 0 0 0, (41, .c (.own 3 1))], [.cells [.own 2 r1336.fl.length], .dead, E9.row r1336.fl, .row 9 1 1 (tbl [[.str ([41] : Bytes)]])], [], 2⟩) 1 1 2 [40, 41] [0, 1, 2, 3] ?_
        refine RefR.conv (Conv.obj 3 (E9.row [([41] : Bytes)]) (El.row_build E9 [([41] : Bytes)] rfl (by kernel_rfl)) (by kernel_rfl)) ?_
        refine RefR.conv (Conv.slot 41 (.c (.own 3 ([([41] : Bytes)].length))) (DLe.c (CLe.own (by simp <;> omega))) (by kernel_rfl)) ?_
        refine RefR.conv (Conv.freeze (st' := ⟨[(41, .c (E9.tree [([41] : Bytes)])), sP 40 0 0 0], [.cells [.own 2 r1336.fl.length], .dead, E9.row r1336.fl, .dead], [], 2⟩) 3 (by kernel_rfl)) ?_
        refine RefR.callC (t := 42) 2 3 [0, 2] rfl (by kernel_rfl) (F33_ok K (⟨r1336.fl⟩ : S62) [([41] : Bytes)]) (fun r1337 => ?_)
        refine RefR.nl 3 ?_
        refine Ref.conv (Conv.keep (st' := ⟨[], [.cells [.own 2 r1337.fl.length], .dead, E9.row r1337.fl], [], 2⟩) [] [0, 1, 4] (by kernel_rfl)) ?_
        exact Ref.xt 0 (t := (Sum.inr (Sum.inr (Sum.inr (Sum.inr (Sum.inr (Sum.inl (r1337.fl))))))))
      ·
       refine Ref.sq ?_
       refine Ref.sq ?_
       refine Ref.rn 16 ?_
       refine RefR.e0 (st' := ⟨[sP 0 0 0 0, sP 3 2 0 0, sP 43 0 0 0], [.cells [.own 1 a0.fl.length], E9.row a0.fl, .cells (E29.cs a1)], [], 2⟩) 0 1 1 [0, 3, 43] [0, 1, 2] ?_
       refine RefR.e0 (st' := ⟨[sP 0 0 0 0, sP 3 2 0 0, sP 43 0 0 0, (44, .c (.own 3 2))], [.cells [.own 1 a0.fl.length], E9.row a0.fl, .cells (E29.cs a1), .row 9 1 2 (tbl [[.str ([65, 82, 82, 65, 89] : Bytes)], [.str ([91] : Bytes)]])], [], 2⟩) 1 1 2 [0, 3, 43, 44] [0, 1, 2, 3] ?_
       refine RefR.conv (Conv.obj 3 (E9.row [([65, 82, 82, 65, 89] : Bytes), ([91] : Bytes)]) (El.row_build E9 [([65, 82, 82, 65, 89] : Bytes), ([91] : Bytes)] rfl (by kernel_rfl)) (by kernel_rfl)) ?_
       refine RefR.conv (Conv.slot 44 (.c (.own 3 ([([65, 82, 82, 65, 89] : Bytes), ([91] : Bytes)].length))) (DLe.c (CLe.own (by simp <;> omega))) (by kernel_rfl)) ?_
       refine RefR.conv (Conv.freeze (st' := ⟨[(44, .c (E9.tree [([65, 82, 82, 65, 89] : Bytes), ([91] : Bytes)])), sP 0 0 0 0, sP 3 2 0 0, sP 43 0 0 0], [.cells [.own 1 a0.fl.length], E9.row a0.fl, .cells (E29.cs a1), .dead], [], 2⟩) 3 (by kernel_rfl)) ?_
       refine RefR.callC (t := 45) 2 3 [0, 1] rfl (by kernel_rfl) (F33_ok K (⟨a0.fl⟩ : S62) [([65, 82, 82, 65, 89] : Bytes), ([91] : Bytes)]) (fun r1338 => ?_)
       refine RefR.nl 3 ?_
       refine Ref.sq ?_
       refine Ref.rn 17 ?_
       refine RefR.e0 (st' := ⟨[sP 0 0 0 0, sP 46 0 0 0, sI 48 a1.fHi], [.cells [.own 2 r1338.fl.length], .dead, E9.row r1338.fl], [], 2⟩) 0 3 3 [0, 46, 48] [0, 1, 4] ?_
       refine RefR.callC (t := 49) 3 4 [0, 2] rfl (by kernel_rfl) (F36_ok K (⟨r1338.fl⟩ : S62) a1.fHi) (fun r1339 => ?_)
       refine RefR.nl 4 ?_
       refine Ref.rn 18 ?_
       refine RefR.e0 (st' := ⟨[sP 50 0 0 0], [.cells [.own 2 r1339.fl.length], .dead, E9.row r1339.fl], [], 2⟩) 0 1 1 [50] [0, 1, 3] ?_
       refine RefR.e0 (st' := ⟨[sP 50 0 0 0, (51, .c (.own 3 3))], [.cells [.own 2 r1339.fl.length], .dead, E9.row r1339.fl, .row 9 1 3 (tbl [[.str ([93] : Bytes)], [.str ([79, 70] : Bytes)], [.str ([73, 78, 84] : Bytes)]])], [], 2⟩) 1 1 2 [50, 51] [0, 1, 2, 3] ?_
       refine RefR.conv (Conv.obj 3 (E9.row [([93] : Bytes), ([79, 70] : Bytes), ([73, 78, 84] : Bytes)]) (El.row_build E9 [([93] : Bytes), ([79, 70] : Bytes), ([73, 78, 84] : Bytes)] rfl (by kernel_rfl)) (by kernel_rfl)) ?_
       refine RefR.conv (Conv.slot 51 (.c (.own 3 ([([93] : Bytes), ([79, 70] : Bytes), ([73, 78, 84] : Bytes)].length))) (DLe.c (CLe.own (by simp <;> omega))) (by kernel_rfl)) ?_
       refine RefR.conv (Conv.freeze (st' := ⟨[(51, .c (E9.tree [([93] : Bytes), ([79, 70] : Bytes), ([73, 78, 84] : Bytes)])), sP 50 0 0 0], [.cells [.own 2 r1339.fl.length], .dead, E9.row r1339.fl, .dead], [], 2⟩) 3 (by kernel_rfl)) ?_
       refine RefR.callC (t := 52) 2 3 [0, 2] rfl (by kernel_rfl) (F33_ok K (⟨r1339.fl⟩ : S62) [([93] : Bytes), ([79, 70] : Bytes), ([73, 78, 84] : Bytes)]) (fun r1340 => ?_)
       refine RefR.nl 3 ?_
       refine Ref.conv (Conv.keep (st' := ⟨[], [.cells [.own 2 r1340.fl.length], .dead, E9.row r1340.fl], [], 2⟩) [] [0, 1, 4] (by kernel_rfl)) ?_
       exact Ref.xt 0 (t := (Sum.inr (Sum.inr (Sum.inr (Sum.inr (Sum.inl (r1340.fl)))))))
     ·
      refine Ref.rn 19 ?_
      refine RefR.e0 (st' := ⟨[sP 0 0 0 0, sP 3 2 0 0, sP 53 0 0 0], [.cells [.own 1 a0.fl.length], E9.row a0.fl, .cells (E29.cs a1)], [], 2⟩) 0 1 1 [0, 3, 53] [0, 1, 2] ?_
      refine RefR.e0 (st' := ⟨[sP 0 0 0 0, sP 3 2 0 0, sP 53 0 0 0, (54, .c (.own 3 1))], [.cells [.own 1 a0.fl.length], E9.row a0.fl, .cells (E29.cs a1), .row 9 1 1 (tbl [[.str ([82, 69, 70, 95, 84, 79] : Bytes)]])], [], 2⟩) 1 1 2 [0, 3, 53, 54] [0, 1, 2, 3] ?_
      refine RefR.conv (Conv.obj 3 (E9.row [([82, 69, 70, 95, 84, 79] : Bytes)]) (El.row_build E9 [([82, 69, 70, 95, 84, 79] : Bytes)] rfl (by kernel_rfl)) (by kernel_rfl)) ?_
      refine RefR.conv (Conv.slot 54 (.c (.own 3 ([([82, 69, 70, 95, 84, 79] : Bytes)].length))) (DLe.c (CLe.own (by simp <;> omega))) (by kernel_rfl)) ?_
      refine RefR.conv (Conv.freeze (st' := ⟨[(54, .c (E9.tree [([82, 69, 70, 95, 84, 79] : Bytes)])), sP 0 0 0 0, sP 3 2 0 0, sP 53 0 0 0], [.cells [.own 1 a0.fl.length], E9.row a0.fl, .cells (E29.cs a1), .dead], [], 2⟩) 3 (by kernel_rfl)) ?_
      refine RefR.callC (t := 55) 2 3 [0, 1] rfl (by kernel_rfl) (F33_ok K (⟨a0.fl⟩ : S62) [([82, 69, 70, 95, 84, 79] : Bytes)]) (fun r1341 => ?_)
      refine RefR.nl 3 ?_
      refine Ref.conv (Conv.keep (st' := ⟨[sP 0 0 0 0, sP 3 3 0 0], [.cells [.own 2 r1341.fl.length], .dead, E9.row r1341.fl, .cells (E29.cs a1)], [], 2⟩) [0, 3] [0, 1, 4, 2] (by kernel_rfl)) ?_
      exact Ref.n0 (t := (r1341.fl))
    ·
     refine Ref.sq ?_
     refine Ref.rn 20 ?_
     refine RefR.e0 (st' := ⟨[sP 56 0 0 0, sS 58 a1.fName], [.cells [.own 2 u1259.length], .dead, E9.row u1259], [], 2⟩) 0 3 3 [56, 58] [0, 1, 2] ?_
     refine RefR.e0 (st' := ⟨[sP 56 0 0 0, (59, .c (.own 3 1))], [.cells [.own 2 u1259.length], .dead, E9.row u1259, .row 9 1 1 (tbl [[.str a1.fName]])], [], 2⟩) 3 1 4 [56, 59] [0, 1, 2, 3] ?_
     refine RefR.conv (Conv.obj 3 (E9.row [a1.fName]) (El.row_build E9 [a1.fName] rfl (by kernel_rfl)) (by kernel_rfl)) ?_
     refine RefR.conv (Conv.slot 59 (.c (.own 3 ([a1.fName].length))) (DLe.c (CLe.own (by simp <;> omega))) (by kernel_rfl)) ?_
     refine RefR.conv (Conv.freeze (st' := ⟨[(59, .c (E9.tree [a1.fName])), sP 56 0 0 0], [.cells [.own 2 u1259.length], .dead, E9.row u1259, .dead], [], 2⟩) 3 (by kernel_rfl)) ?_
     refine RefR.callC (t := 60) 4 5 [0, 2] rfl (by kernel_rfl) (F33_ok K (⟨u1259⟩ : S62) [a1.fName]) (fun r1342 => ?_)
     refine RefR.nl 5 ?_
     refine Ref.conv (Conv.keep (st' := ⟨[], [.cells [.own 2 r1342.fl.length], .dead, E9.row r1342.fl], [], 2⟩) [] [0, 1, 4] (by kernel_rfl)) ?_
     exact Ref.xt 0 (t := (Sum.inr (Sum.inr (Sum.inl (r1342.fl)))))
   ·
    refine Ref.sq ?_
    refine Ref.rn 21 ?_
    refine RefR.e0 (st' := ⟨[sP 61 0 0 0, sI 63 a1.fLo], [.cells [.own 1 a0.fl.length], E9.row a0.fl], [], 2⟩) 0 3 3 [61, 63] [0, 1] ?_
    refine RefR.e0 (st' := ⟨[sP 61 0 0 0, sI 63 a1.fLo, (64, .c (.own 2 7))], [.cells [.own 1 a0.fl.length], E9.row a0.fl, .row 9 1 7 (tbl [[.str ([84, 79, 78] : Bytes)], [.str ([84, 79, 70] : Bytes)], [.str ([84, 80] : Bytes)], [.str ([67, 84, 85] : Bytes)], [.str ([67, 84, 68] : Bytes)], [.str ([82, 95, 84, 82, 73, 71] : Bytes)], [.str ([70, 95, 84, 82, 73, 71] : Bytes)]])], [], 2⟩) 3 1 4 [61, 63, 64] [0, 1, 2] ?_
    refine RefR.conv (Conv.obj 2 (E9.row [([84, 79, 78] : Bytes), ([84, 79, 70] : Bytes), ([84, 80] : Bytes), ([67, 84, 85] : Bytes), ([67, 84, 68] : Bytes), ([82, 95, 84, 82, 73, 71] : Bytes), ([70, 95, 84, 82, 73, 71] : Bytes)]) (El.row_build E9 [([84, 79, 78] : Bytes), ([84, 79, 70] : Bytes), ([84, 80] : Bytes), ([67, 84, 85] : Bytes), ([67, 84, 68] : Bytes), ([82, 95, 84, 82, 73, 71] : Bytes), ([70, 95, 84, 82, 73, 71] : Bytes)] rfl (by kernel_rfl)) (by kernel_rfl)) ?_
    refine RefR.conv (Conv.slot 64 (.c (.own 2 ([([84, 79, 78] : Bytes), ([84, 79, 70] : Bytes), ([84, 80] : Bytes), ([67, 84, 85] : Bytes), ([67, 84, 68] : Bytes), ([82, 95, 84, 82, 73, 71] : Bytes), ([70, 95, 84, 82, 73, 71] : Bytes)].length))) (DLe.c (CLe.own (by simp <;> omega))) (by kernel_rfl)) ?_
    refine RefR.lookC (t := 65) (g := []) (b := true) 4 5 [2] (default : Bytes) rfl (by kernel_rfl) (F45_ok K a1.fLo [([84, 79, 78] : Bytes), ([84, 79, 70] : Bytes), ([84, 80] : Bytes), ([67, 84, 85] : Bytes), ([67, 84, 68] : Bytes), ([82, 95, 84, 82, 73, 71] : Bytes), ([70, 95, 84, 82, 73, 71] : Bytes)]) (fun _ => rfl) (fun r1343 => ?_)
    refine RefR.e0 (st' := ⟨[sP 61 0 0 0, (66, .c (.own 2 1))], [.cells [.own 1 a0.fl.length], E9.row a0.fl, .row 9 1 1 (tbl [[.str r1343]])], [], 2⟩) 5 1 6 [61, 66] [0, 1, 3] ?_
    refine RefR.conv (Conv.obj 2 (E9.row [r1343]) (El.row_build E9 [r1343] rfl (by kernel_rfl)) (by kernel_rfl)) ?_
    refine RefR.conv (Conv.slot 66 (.c (.own 2 ([r1343].length))) (DLe.c (CLe.own (by simp <;> omega))) (by kernel_rfl)) ?_
    refine RefR.conv (Conv.freeze (st' := ⟨[(66, .c (E9.tree [r1343])), sP 61 0 0 0], [.cells [.own 1 a0.fl.length], E9.row a0.fl, .dead], [], 2⟩) 2 (by kernel_rfl)) ?_
    refine RefR.callC (t := 67) 6 7 [0, 1] rfl (by kernel_rfl) (F33_ok K (⟨a0.fl⟩ : S62) [r1343]) (fun r1344 => ?_)
    refine RefR.nl 7 ?_
    refine Ref.conv (Conv.keep (st' := ⟨[], [.cells [.own 2 r1344.fl.length], .dead, E9.row r1344.fl], [], 2⟩) [] [0, 1, 3] (by kernel_rfl)) ?_
    exact Ref.xt 0 (t := (Sum.inr (Sum.inl (r1344.fl))))
  ·
   refine Ref.sq ?_
   refine Ref.rn 22 ?_
   refine RefR.e0 (st' := ⟨[sP 68 0 0 0], [.cells [.own 1 a0.fl.length], E9.row a0.fl], [], 2⟩) 0 1 1 [68] [0, 1] ?_
   refine RefR.e0 (st' := ⟨[sP 68 0 0 0, (69, .c (.own 2 1))], [.cells [.own 1 a0.fl.length], E9.row a0.fl, .row 9 1 1 (tbl [[.str ([63] : Bytes)]])], [], 2⟩) 1 1 2 [68, 69] [0, 1, 2] ?_
   refine RefR.conv (Conv.obj 2 (E9.row [([63] : Bytes)]) (El.row_build E9 [([63] : Bytes)] rfl (by kernel_rfl)) (by kernel_rfl)) ?_
   refine RefR.conv (Conv.slot 69 (.c (.own 2 ([([63] : Bytes)].length))) (DLe.c (CLe.own (by simp <;> omega))) (by kernel_rfl)) ?_
   refine RefR.conv (Conv.freeze (st' := ⟨[(69, .c (E9.tree [([63] : Bytes)])), sP 68 0 0 0], [.cells [.own 1 a0.fl.length], E9.row a0.fl, .dead], [], 2⟩) 2 (by kernel_rfl)) ?_
   refine RefR.callC (t := 70) 2 3 [0, 1] rfl (by kernel_rfl) (F33_ok K (⟨a0.fl⟩ : S62) [([63] : Bytes)]) (fun r1345 => ?_)
   refine RefR.nl 3 ?_
   refine Ref.conv (Conv.keep (st' := ⟨[], [.cells [.own 2 r1345.fl.length], .dead, E9.row r1345.fl], [], 2⟩) [] [0, 1, 3] (by kernel_rfl)) ?_
   exact Ref.xt 0 (t := (Sum.inl (r1345.fl)))
 ·
  exact Ref.n0 (t := ((⟨u673⟩ : S62)))

mutual

/-- (*governor/print.writer).expr -/
def F23 : (K : Nat) → (S62) → (S27) → Option ((S62) ⊕ (S62))
 | 0, _, _ => none
 | K + 1, a0, a1 =>
 (bindS (blockS (if ((a1.fKind : Int) == 1) = true then ((fnS (F36 K (⟨a0.fl⟩ : S62) a1.fN)).bind (fun r31 => (some (.inr (r31.fl))))) else (if ((a1.fKind : Int) == 2) = true then ((fnS (F33 K (⟨a0.fl⟩ : S62) [([84, 82, 85, 69] : Bytes)])).bind (fun r32 => (some (.inr (r32.fl))))) else (if ((a1.fKind : Int) == 3) = true then ((fnS (F33 K (⟨a0.fl⟩ : S62) [([70, 65, 76, 83, 69] : Bytes)])).bind (fun r33 => (some (.inr (r33.fl))))) else (if ((a1.fKind : Int) == 4) = true then ((fnS (F33 K (⟨a0.fl⟩ : S62) [([78, 85, 76, 76] : Bytes)])).bind (fun r34 => (some (.inr (r34.fl))))) else (if ((a1.fKind : Int) == 5) = true then ((fnS (F33 K (⟨a0.fl⟩ : S62) [a1.fName])).bind (fun r35 => (some (.inr (r35.fl))))) else (if ((a1.fKind : Int) == 6) = true then ((fnS (F33 K (⟨a0.fl⟩ : S62) [a1.fName, ([91] : Bytes)])).bind (fun r36 => ((fnS (F44 K (⟨r36.fl⟩ : S62) a1.fArgs 0)).bind (fun r37 => ((fnS (F33 K (⟨r37.fl⟩ : S62) [([93] : Bytes)])).bind (fun r38 => (some (.inr (r38.fl))))))))) else (bindS (if ((a1.fKind : Int) == 7) = true then (some (.inr (((a1.fKind : Int) == 7)))) else (some (.inr (((a1.fKind : Int) == 8))))) (fun (u39 : Bool) => (if u39 = true then (letV (IntKind.i64.wrap ((IntKind.i64.wrap (a1.fKind - 7)) + 1)) (fun (x40 : Int) => ((condM true (fnS (F45 K x40 [([45] : Bytes), ([78, 79, 84] : Bytes)])) default).bind (fun r41 => ((fnS (F33 K (⟨a0.fl⟩ : S62) [r41])).bind (fun r42 => ((fnS (F46 K (⟨r42.fl⟩ : S62) a1.fArgs 0)).bind (fun r43 => (some (.inr (r43.fl))))))))))) else (if ((a1.fKind : Int) == 9) = true then ((fnS (F46 K (⟨a0.fl⟩ : S62) a1.fArgs 0)).bind (fun r44 => ((condM true (fnS (F45 K a1.fN [([43] : Bytes), ([45] : Bytes), ([42] : Bytes), ([47] : Bytes), ([77, 79, 68] : Bytes), ([61] : Bytes), ([60, 62] : Bytes), ([60] : Bytes), ([60, 61] : Bytes), ([62] : Bytes), ([62, 61] : Bytes), ([65, 78, 68] : Bytes), ([79, 82] : Bytes), ([88, 79, 82] : Bytes)])) default).bind (fun r45 => ((fnS (F33 K (⟨r44.fl⟩ : S62) [r45])).bind (fun r46 => ((fnS (F46 K (⟨r46.fl⟩ : S62) a1.fArgs 1)).bind (fun r47 => (some (.inr (r47.fl))))))))))) else (bindS (if ((a1.fKind : Int) == 10) = true then (some (.inr (((a1.fKind : Int) == 10)))) else (if ((a1.fKind : Int) == 11) = true then (some (.inr (((a1.fKind : Int) == 11)))) else (some (.inr (((a1.fKind : Int) == 12)))))) (fun (u48 : Bool) => (if u48 = true then (letV (IntKind.i64.wrap ((IntKind.i64.wrap (a1.fKind - 10)) + 1)) (fun (x49 : Int) => ((condM true (fnS (F45 K x49 [([82, 69, 70] : Bytes), ([68, 79, 78, 69] : Bytes), ([67, 79, 85, 78, 84] : Bytes)])) default).bind (fun r50 => ((fnS (F33 K (⟨a0.fl⟩ : S62) [r50, ([40] : Bytes), a1.fName, ([41] : Bytes)])).bind (fun r51 => (some (.inr (r51.fl))))))))) else (if ((a1.fKind : Int) == 14) = true then ((fnS (F33 K (⟨a0.fl⟩ : S62) [([65, 83] : Bytes), a1.fName, ([40] : Bytes)])).bind (fun r52 => ((fnS (F44 K (⟨r52.fl⟩ : S62) a1.fArgs 0)).bind (fun r53 => ((fnS (F33 K (⟨r53.fl⟩ : S62) [([41] : Bytes)])).bind (fun r54 => (some (.inr (r54.fl))))))))) else (if ((a1.fKind : Int) == 13) = true then ((condM true (fnS (F45 K (IntKind.i64.wrap (a1.fN + 1)) [a1.fName, ([84, 72, 73, 83] : Bytes), ([83, 85, 80, 69, 82] : Bytes)])) default).bind (fun r55 => ((fnS (F33 K (⟨a0.fl⟩ : S62) [r55, ([46] : Bytes), a1.fWhat, ([40] : Bytes)])).bind (fun r56 => ((fnS (F47 K (⟨r56.fl⟩ : S62) a1.fArgs)).bind (fun r57 => ((fnS (F33 K (⟨r57.fl⟩ : S62) [([41] : Bytes)])).bind (fun r58 => (some (.inr (r58.fl))))))))))) else ((fnS (F33 K (⟨a0.fl⟩ : S62) [([63] : Bytes)])).bind (fun r59 => (some (.inr (r59.fl))))))))))))))))))))) (fun (u30 : (List Bytes)) => (some (.inr ((⟨u30⟩ : S62))))))

/-- (*governor/print.writer).at -/
def F44 : (K : Nat) → (S62) → ((List S27)) → (Int) → Option ((S62) ⊕ (S62))
 | 0, _, _, _ => none
 | K + 1, a0, a1, a2 =>
 (letV (decide ((a2 : Int) ≥ (Int.ofNat a1.length))) (fun (x1 : Bool) => (if x1 = true then ((fnS (F33 K (⟨a0.fl⟩ : S62) [([63] : Bytes)])).bind (fun r2 => (some (.inl ((⟨r2.fl⟩ : S62)))))) else (chk [inb a2 a1.length] ((fnS (F23 K (⟨a0.fl⟩ : S62) (a1.getD (a2 : Int).toNat default))).bind (fun r3 => (some (.inr ((⟨r3.fl⟩ : S62))))))))))

/-- (*governor/print.writer).operand -/
def F46 : (K : Nat) → (S62) → ((List S27)) → (Int) → Option ((S62) ⊕ (S62))
 | 0, _, _, _ => none
 | K + 1, a0, a1, a2 =>
 (letV (decide ((a2 : Int) < (Int.ofNat a1.length))) (fun (x1 : Bool) => (bindS (if x1 = true then (chk [inb a2 a1.length] (some (.inr ((a1.getD (a2 : Int).toNat default).fKind)))) else (some (.inr (0)))) (fun (u2 : Int) => (bindS (blockS (bindS (if ((u2 : Int) == 7) = true then (some (.inr (((u2 : Int) == 7)))) else (if ((u2 : Int) == 8) = true then (some (.inr (((u2 : Int) == 8)))) else (some (.inr (((u2 : Int) == 9)))))) (fun (u9 : Bool) => (if u9 = true then ((fnS (F33 K (⟨a0.fl⟩ : S62) [([40] : Bytes)])).bind (fun r10 => ((fnS (F44 K (⟨r10.fl⟩ : S62) a1 a2)).bind (fun r11 => ((fnS (F33 K (⟨r11.fl⟩ : S62) [([41] : Bytes)])).bind (fun r12 => (some (.inr (r12.fl))))))))) else ((fnS (F44 K (⟨a0.fl⟩ : S62) a1 a2)).bind (fun r13 => (some (.inr (r13.fl))))))))) (fun (u8 : (List Bytes)) => (some (.inr ((⟨u8⟩ : S62))))))))))

/-- (*governor/print.writer).list -/
def F47 : (K : Nat) → (S62) → ((List S27)) → Option ((S62) ⊕ (S62))
 | 0, _, _ => none
 | K + 1, a0, a1 =>
 (bindS (blockS ((iter K (fun (u44 : (List Bytes) × Int) => (letV (decide ((u44.2 : Int) < (Int.ofNat a1.length))) (fun (x56 : Bool) => (if x56 = true then (bindS (blockS (chk [inb u44.2 a1.length] (bindS (if (decide ((u44.2 : Int) > 0)) = true then ((fnS (F33 K (⟨u44.1⟩ : S62) [([44] : Bytes)])).bind (fun r64 => (some (.inr (r64.fl))))) else (some (.inr (u44.1)))) (fun (u63 : (List Bytes)) => ((fnS (F23 K (⟨u63⟩ : S62) (a1.getD (u44.2 : Int).toNat default))).bind (fun r65 => (some (.inr (r65.fl))))))))) (fun (u61 : (List Bytes)) => (some (.inr (u61, (IntKind.i64.wrap (u44.2 + 1))))))) else (some (.inl (Sum.inl (u44.1)))))))) (a0.fl, 0)).map .inl)) (fun (u33 : (List Bytes)) => (some (.inr ((⟨u33⟩ : S62))))))

end

theorem G23_ok : ∀ K : Nat, (∀ (a0 : S62), ∀ (a1 : S27), DFun Tryd.prog 23 [.c (.ptr 0 0 0), .agg (E27.cs a1)] [.cells [.own 1 a0.fl.length], E9.row a0.fl] (fnS (F23 K a0 a1)) (fun r => .tup []) (fun r => [.cells [.own 2 r.fl.length], .dead, E9.row r.fl])) ∧ (∀ (a0 : S62), ∀ (a1 : (List S27)), ∀ (a2 : Int), DFun Tryd.prog 44 [.c (.ptr 0 0 0), .c (E27.tree a1), .c (.val (.int .i64 a2))] [.cells [.own 1 a0.fl.length], E9.row a0.fl] (fnS (F44 K a0 a1 a2)) (fun r => .tup []) (fun r => [.cells [.own 2 r.fl.length], .dead, E9.row r.fl])) ∧ (∀ (a0 : S62), ∀ (a1 : (List S27)), ∀ (a2 : Int), DFun Tryd.prog 46 [.c (.ptr 0 0 0), .c (E27.tree a1), .c (.val (.int .i64 a2))] [.cells [.own 1 a0.fl.length], E9.row a0.fl] (fnS (F46 K a0 a1 a2)) (fun r => .tup []) (fun r => [.cells [.own 2 r.fl.length], .dead, E9.row r.fl])) ∧ (∀ (a0 : S62), ∀ (a1 : (List S27)), DFun Tryd.prog 47 [.c (.ptr 0 0 0), .c (E27.tree a1)] [.cells [.own 1 a0.fl.length], E9.row a0.fl] (fnS (F47 K a0 a1)) (fun r => .tup []) (fun r => [.cells [.own 2 r.fl.length], .dead, E9.row r.fl])) := by
 intro K
 induction K with
 | zero => exact ⟨fun a0 a1 => DFun.none (by rw [F23]; rfl), fun a0 a1 a2 => DFun.none (by rw [F44]; rfl), fun a0 a1 a2 => DFun.none (by rw [F46]; rfl), fun a0 a1 => DFun.none (by rw [F47]; rfl)⟩
 | succ K ih =>
  obtain ⟨ih23, ih44, ih46, ih47⟩ := ih
  refine ⟨?_, ?_, ?_, ?_⟩

  ·
   intro a0 a1
   refine DFun.intro (fn := Tryd.f23) (c := cd (bd Tryd.f23) []) (rs := fun r => ⟨[], [.cells [.own 2 r.fl.length], .dead, E9.row r.fl], [], 2⟩) (by kernel_rfl) (by kernel_rfl) (by kernel_rfl) ?_ (fun r => by kernel_rfl) (fun r => by kernel_rfl) (fun r => by kernel_rfl) (fun r => by kernel_rfl)
   rw [F23]
   refine Ref.sq ?_
   refine Ref.rn 0 ?_
   refine RefR.e0 (st' := ⟨[sP 0 0 0 0, sP 3 2 0 0], [.cells [.own 1 a0.fl.length], E9.row a0.fl, .cells (E27.cs a1)], [], 2⟩) 0 1 1 [0, 3] [0, 1, 2] ?_
   refine RefR.nl 1 ?_
   refine Ref.sq ?_
   refine Ref.rn 1 ?_
   refine RefR.e0 (st' := ⟨[sP 0 0 0 0, sP 3 2 0 0, sI 5 a1.fKind], [.cells [.own 1 a0.fl.length], E9.row a0.fl, .cells (E27.cs a1)], [], 2⟩) 0 2 2 [0, 3, 5] [0, 1, 2] ?_
   refine RefR.nl 2 ?_
   refine Ref.codeEq (c' := .block 0 (cd (bd Tryd.f23) [1, 1, 0])) (by kernel_rfl) ?_
   refine Ref.block (go1 := fun u30 => ⟨[], [.cells [.own 2 u30.length], .dead, E9.row u30], [], 2⟩) ?_ (fun _ h => by cases h) (fun u30 => ?_)
   ·
    refine Ref.sq ?_
    refine Ref.rn 3 ?_
    refine RefR.e0 (st' := ⟨[sP 0 0 0 0, sP 3 2 0 0, sI 5 a1.fKind, sB 9 ((a1.fKind : Int) == 1)], [.cells [.own 1 a0.fl.length], E9.row a0.fl, .cells (E27.cs a1)], [], 2⟩) 0 2 2 [0, 3, 5, 9] [0, 1, 2] ?_
    refine RefR.nl 2 ?_
    refine Ref.cn (.tmp 9) ((a1.fKind : Int) == 1) (fun hc => ?_) (fun hc => ?_)
    ·
     refine Ref.rn 4 ?_
     refine RefR.e0 (st' := ⟨[sP 11 0 0 0, sI 13 a1.fN], [.cells [.own 1 a0.fl.length], E9.row a0.fl], [], 2⟩) 0 3 3 [11, 13] [0, 1] ?_
     refine RefR.callC (t := 14) 3 4 [0, 1] rfl (by kernel_rfl) (F36_ok K (⟨a0.fl⟩ : S62) a1.fN) (fun r31 => ?_)
     refine RefR.nl 4 ?_
     refine Ref.conv (Conv.keep (st' := ⟨[], [.cells [.own 2 r31.fl.length], .dead, E9.row r31.fl], [], 2⟩) [] [0, 1, 2] (by kernel_rfl)) ?_
     exact Ref.n0 (t := (r31.fl))
    ·
     refine Ref.sq ?_
     refine Ref.rn 5 ?_
     refine RefR.e0 (st' := ⟨[sP 0 0 0 0, sP 3 2 0 0, sI 5 a1.fKind, sB 15 ((a1.fKind : Int) == 2)], [.cells [.own 1 a0.fl.length], E9.row a0.fl, .cells (E27.cs a1)], [], 2⟩) 0 2 2 [0, 3, 5, 15] [0, 1, 2] ?_
     refine RefR.nl 2 ?_
     refine Ref.cn (.tmp 15) ((a1.fKind : Int) == 2) (fun hc => ?_) (fun hc => ?_)
     ·
      refine Ref.rn 6 ?_
      refine RefR.e0 (st' := ⟨[sP 17 0 0 0], [.cells [.own 1 a0.fl.length], E9.row a0.fl], [], 2⟩) 0 1 1 [17] [0, 1] ?_
      refine RefR.e0 (st' := ⟨[sP 17 0 0 0, (18, .c (.own 2 1))], [.cells [.own 1 a0.fl.length], E9.row a0.fl, .row 9 1 1 (tbl [[.str ([84, 82, 85, 69] : Bytes)]])], [], 2⟩) 1 1 2 [17, 18] [0, 1, 2] ?_
      refine RefR.conv (Conv.obj 2 (E9.row [([84, 82, 85, 69] : Bytes)]) (El.row_build E9 [([84, 82, 85, 69] : Bytes)] rfl (by kernel_rfl)) (by kernel_rfl)) ?_
      refine RefR.conv (Conv.slot 18 (.c (.own 2 ([([84, 82, 85, 69] : Bytes)].length))) (DLe.c (CLe.own (by simp <;> omega))) (by kernel_rfl)) ?_
      refine RefR.conv (Conv.freeze (st' := ⟨[(18, .c (E9.tree [([84, 82, 85, 69] : Bytes)])), sP 17 0 0 0], [.cells [.own 1 a0.fl.length], E9.row a0.fl, .dead], [], 2⟩) 2 (by kernel_rfl)) ?_
      refine RefR.callC (t := 19) 2 3 [0, 1] rfl (by kernel_rfl) (F33_ok K (⟨a0.fl⟩ : S62) [([84, 82, 85, 69] : Bytes)]) (fun r32 => ?_)
      refine RefR.nl 3 ?_
      refine Ref.conv (Conv.keep (st' := ⟨[], [.cells [.own 2 r32.fl.length], .dead, E9.row r32.fl], [], 2⟩) [] [0, 1, 3] (by kernel_rfl)) ?_
      exact Ref.n0 (t := (r32.fl))
     ·
      refine Ref.sq ?_
      refine Ref.rn 7 ?_
      refine RefR.e0 (st' := ⟨[sP 0 0 0 0, sP 3 2 0 0, sI 5 a1.fKind, sB 20 ((a1.fKind : Int) == 3)], [.cells [.own 1 a0.fl.length], E9.row a0.fl, .cells (E27.cs a1)], [], 2⟩) 0 2 2 [0, 3, 5, 20] [0, 1, 2] ?_
      refine RefR.nl 2 ?_
      refine Ref.cn (.tmp 20) ((a1.fKind : Int) == 3) (fun hc => ?_) (fun hc => ?_)
      ·
       refine Ref.rn 8 ?_
       refine RefR.e0 (st' := ⟨[sP 22 0 0 0], [.cells [.own 1 a0.fl.length], E9.row a0.fl], [], 2⟩) 0 1 1 [22] [0, 1] ?_
       refine RefR.e0 (st' := ⟨[sP 22 0 0 0, (23, .c (.own 2 1))], [.cells [.own 1 a0.fl.length], E9.row a0.fl, .row 9 1 1 (tbl [[.str ([70, 65, 76, 83, 69] : Bytes)]])], [], 2⟩) 1 1 2 [22, 23] [0, 1, 2] ?_
       refine RefR.conv (Conv.obj 2 (E9.row [([70, 65, 76, 83, 69] : Bytes)]) (El.row_build E9 [([70, 65, 76, 83, 69] : Bytes)] rfl (by kernel_rfl)) (by kernel_rfl)) ?_
       refine RefR.conv (Conv.slot 23 (.c (.own 2 ([([70, 65, 76, 83, 69] : Bytes)].length))) (DLe.c (CLe.own (by simp <;> omega))) (by kernel_rfl)) ?_
       refine RefR.conv (Conv.freeze (st' := ⟨[(23, .c (E9.tree [([70, 65, 76, 83, 69] : Bytes)])), sP 22 0 0 0], [.cells [.own 1 a0.fl.length], E9.row a0.fl, .dead], [], 2⟩) 2 (by kernel_rfl)) ?_
       refine RefR.callC (t := 24) 2 3 [0, 1] rfl (by kernel_rfl) (F33_ok K (⟨a0.fl⟩ : S62) [([70, 65, 76, 83, 69] : Bytes)]) (fun r33 => ?_)
       refine RefR.nl 3 ?_
       refine Ref.conv (Conv.keep (st' := ⟨[], [.cells [.own 2 r33.fl.length], .dead, E9.row r33.fl], [], 2⟩) [] [0, 1, 3] (by kernel_rfl)) ?_
       exact Ref.n0 (t := (r33.fl))
      ·
       refine Ref.sq ?_
       refine Ref.rn 9 ?_
       refine RefR.e0 (st' := ⟨[sP 0 0 0 0, sP 3 2 0 0, sI 5 a1.fKind, sB 25 ((a1.fKind : Int) == 4)], [.cells [.own 1 a0.fl.length], E9.row a0.fl, .cells (E27.cs a1)], [], 2⟩) 0 2 2 [0, 3, 5, 25] [0, 1, 2] ?_
       refine RefR.nl 2 ?_
       refine Ref.cn (.tmp 25) ((a1.fKind : Int) == 4) (fun hc => ?_) (fun hc => ?_)
       ·
        refine Ref.rn 10 ?_
        refine RefR.e0 (st' := ⟨[sP 27 0 0 0], [.cells [.own 1 a0.fl.length], E9.row a0.fl], [], 2⟩) 0 1 1 [27] [0, 1] ?_
        refine RefR.e0 (st' := ⟨[sP 27 0 0 0, (28, .c (.own 2 1))], [.cells [.own 1 a0.fl.length], E9.row a0.fl, .row 9 1 1 (tbl [[.str ([78, 85, 76, 76] : Bytes)]])], [], 2⟩) 1 1 2 [27, 28] [0, 1, 2] ?_
        refine RefR.conv (Conv.obj 2 (E9.row [([78, 85, 76, 76] : Bytes)]) (El.row_build E9 [([78, 85, 76, 76] : Bytes)] rfl (by kernel_rfl)) (by kernel_rfl)) ?_
        refine RefR.conv (Conv.slot 28 (.c (.own 2 ([([78, 85, 76, 76] : Bytes)].length))) (DLe.c (CLe.own (by simp <;> omega))) (by kernel_rfl)) ?_
        refine RefR.conv (Conv.freeze (st' := ⟨[(28, .c (E9.tree [([78, 85, 76, 76] : Bytes)])), sP 27 0 0 0], [.cells [.own 1 a0.fl.length], E9.row a0.fl, .dead], [], 2⟩) 2 (by kernel_rfl)) ?_
        refine RefR.callC (t := 29) 2 3 [0, 1] rfl (by kernel_rfl) (F33_ok K (⟨a0.fl⟩ : S62) [([78, 85, 76, 76] : Bytes)]) (fun r34 => ?_)
        refine RefR.nl 3 ?_
        refine Ref.conv (Conv.keep (st' := ⟨[], [.cells [.own 2 r34.fl.length], .dead, E9.row r34.fl], [], 2⟩) [] [0, 1, 3] (by kernel_rfl)) ?_
        exact Ref.n0 (t := (r34.fl))
       ·
        refine Ref.sq ?_
        refine Ref.rn 11 ?_
        refine RefR.e0 (st' := ⟨[sP 0 0 0 0, sP 3 2 0 0, sI 5 a1.fKind, sB 30 ((a1.fKind : Int) == 5)], [.cells [.own 1 a0.fl.length], E9.row a0.fl, .cells (E27.cs a1)], [], 2⟩) 0 2 2 [0, 3, 5, 30] [0, 1, 2] ?_
        refine RefR.nl 2 ?_
        refine Ref.cn (.tmp 30) ((a1.fKind : Int) == 5) (fun hc => ?_) (fun hc => ?_)
        ·
         refine Ref.rn 12 ?_
         refine RefR.e0 (st' := ⟨[sP 32 0 0 0, sS 34 a1.fName], [.cells [.own 1 a0.fl.length], E9.row a0.fl], [], 2⟩) 0 3 3 [32, 34] [0, 1] ?_
         refine RefR.e0 (st' := ⟨[sP 32 0 0 0, (35, .c (.own 2 1))], [.cells [.own 1 a0.fl.length], E9.row a0.fl, .row 9 1 1 (tbl [[.str a1.fName]])], [], 2⟩) 3 1 4 [32, 35] [0, 1, 2] ?_
         refine RefR.conv (Conv.obj 2 (E9.row [a1.fName]) (El.row_build E9 [a1.fName] rfl (by kernel_rfl)) (by kernel_rfl)) ?_
         refine RefR.conv (Conv.slot 35 (.c (.own 2 ([a1.fName].length))) (DLe.c (CLe.own (by simp <;> omega))) (by kernel_rfl)) ?_
         refine RefR.conv (Conv.freeze (st' := ⟨[(35, .c (E9.tree [a1.fName])), sP 32 0 0 0], [.cells [.own 1 a0.fl.length], E9.row a0.fl, .dead], [], 2⟩) 2 (by kernel_rfl)) ?_
         refine RefR.callC (t := 36) 4 5 [0, 1] rfl (by kernel_rfl) (F33_ok K (⟨a0.fl⟩ : S62) [a1.fName]) (fun r35 => ?_)
         refine RefR.nl 5 ?_
         refine Ref.conv (Conv.keep (st' := ⟨[], [.cells [.own 2 r35.fl.length], .dead, E9.row r35.fl], [], 2⟩) [] [0, 1, 3] (by kernel_rfl)) ?_
         exact Ref.n0 (t := (r35.fl))
        ·
         refine Ref.sq ?_
         refine Ref.rn 13 ?_
         refine RefR.e0 (st' := ⟨[sP 0 0 0 0, sP 3 2 0 0, sI 5 a1.fKind, sB 37 ((a1.fKind : Int) == 6)], [.cells [.own 1 a0.fl.length], E9.row a0.fl, .cells (E27.cs a1)], [], 2⟩) 0 2 2 [0, 3, 5, 37] [0, 1, 2] ?_
         refine RefR.nl 2 ?_
         refine Ref.cn (.tmp 37) ((a1.fKind : Int) == 6) (fun hc => ?_) (fun hc => ?_)
         ·
          refine Ref.sq ?_
          refine Ref.rn 14 ?_
          refine RefR.e0 (st' := ⟨[sP 0 0 0 0, sP 3 2 0 0, sP 39 0 0 0, sS 41 a1.fName], [.cells [.own 1 a0.fl.length], E9.row a0.fl, .cells (E27.cs a1)], [], 2⟩) 0 3 3 [0, 3, 39, 41] [0, 1, 2] ?_
          refine RefR.e0 (st' := ⟨[sP 0 0 0 0, sP 3 2 0 0, sP 39 0 0 0, (42, .c (.own 3 2))], [.cells [.own 1 a0.fl.length], E9.row a0.fl, .cells (E27.cs a1), .row 9 1 2 (tbl [[.str a1.fName], [.str ([91] : Bytes)]])], [], 2⟩) 3 1 4 [0, 3, 39, 42] [0, 1, 2, 3] ?_
          refine RefR.conv (Conv.obj 3 (E9.row [a1.fName, ([91] : Bytes)]) (El.row_build E9 [a1.fName, ([91] : Bytes)] rfl (by kernel_rfl)) (by kernel_rfl)) ?_
          refine RefR.conv (Conv.slot 42 (.c (.own 3 ([a1.fName, ([91] : Bytes)].length))) (DLe.c (CLe.own (by simp <;> omega))) (by kernel_rfl)) ?_
          refine RefR.conv (Conv.freeze (st' := ⟨[(42, .c (E9.tree [a1.fName, ([91] : Bytes)])), sP 0 0 0 0, sP 3 2 0 0, sP 39 0 0 0], [.cells [.own 1 a0.fl.length], E9.row a0.fl, .cells (E27.cs a1), .dead], [], 2⟩) 3 (by kernel_rfl)) ?_
          refine RefR.callC (t := 43) 4 5 [0, 1] rfl (by kernel_rfl) (F33_ok K (⟨a0.fl⟩ : S62) [a1.fName, ([91] : Bytes)]) (fun r36 => ?_)
          refine RefR.nl 5 ?_
          refine Ref.sq ?_
          refine Ref.rn 15 ?_
          refine RefR.e0 (st' := ⟨[sP 0 0 0 0, sP 44 0 0 0, (46, .c (NT27 a1.fArgs))], [.cells [.own 2 r36.fl.length], .dead, E9.row r36.fl], [], 2⟩) 0 3 3 [0, 44, 46] [0, 1, 4] ?_
          refine RefR.conv (Conv.slot 46 (.c (E27.tree a1.fArgs)) (DLe.c (NT27_le _)) (by kernel_rfl)) ?_
          refine RefR.callC (t := 47) 3 4 [0, 2] rfl (by kernel_rfl) (ih44 (⟨r36.fl⟩ : S62) a1.fArgs 0) (fun r37 => ?_)
          refine RefR.nl 4 ?_
          refine Ref.rn 16 ?_
          refine RefR.e0 (st' := ⟨[sP 48 0 0 0], [.cells [.own 2 r37.fl.length], .dead, E9.row r37.fl], [], 2⟩) 0 1 1 [48] [0, 1, 3] ?_
          refine RefR.e0 (st' := ⟨[sP 48 0 0 0, (49, .c (.own 3 1))], [.cells [.own 2 r37.fl.length], .dead, E9.row r37.fl, .row 9 1 1 (tbl [[.str ([93] : Bytes)]])], [], 2⟩) 1 1 2 [48, 49] [0, 1, 2, 3] ?_
          refine RefR.conv (Conv.obj 3 (E9.row [([93] : Bytes)]) (El.row_build E9 [([93] : Bytes)] rfl (by kernel_rfl)) (by kernel_rfl)) ?_
          refine RefR.conv (Conv.slot 49 (.c (.own 3 ([([93] : Bytes)].length))) (DLe.c (CLe.own (by simp <;> omega))) (by kernel_rfl)) ?_
          refine RefR.conv (Conv.freeze (st' := ⟨[(49, .c (E9.tree [([93] : Bytes)])), sP 48 0 0 0], [.cells [.own 2 r37.fl.length], .dead, E9.row r37.fl, .dead], [], 2⟩) 3 (by kernel_rfl)) ?_
          refine RefR.callC (t := 50) 2 3 [0, 2] rfl (by kernel_rfl) (F33_ok K (⟨r37.fl⟩ : S62) [([93] : Bytes)]) (fun r38 => ?_)
          refine RefR.nl 3 ?_
          refine Ref.conv (Conv.keep (st' := ⟨[], [.cells [.own 2 r38.fl.length], .dead, E9.row r38.fl], [], 2⟩) [] [0, 1, 4] (by kernel_rfl)) ?_
          exact Ref.n0 (t := (r38.fl))
         ·
          refine Ref.sq ?_
          refine Ref.sq ?_
          refine Ref.rn 17 ?_
          refine RefR.e0 (st' := ⟨[sP 0 0 0 0, sP 3 2 0 0, sI 5 a1.fKind, sB 51 ((a1.fKind : Int) == 7)], [.cells [.own 1 a0.fl.length], E9.row a0.fl, .cells (E27.cs a1)], [], 2⟩) 0 2 2 [0, 3, 5, 51] [0, 1, 2] ?_
          refine RefR.nl 2 ?_
          refine Ref.bind (go1 := fun u39 => ⟨[sP 0 0 0 0, sP 3 2 0 0, sI 5 a1.fKind, sB 51 u39], [.cells [.own 1 a0.fl.length], E9.row a0.fl, .cells (E27.cs a1)], [], 2⟩) ?_ (fun u39 => ?_)
          ·
           refine Ref.cn (.tmp 51) ((a1.fKind : Int) == 7) (fun hc => ?_) (fun hc => ?_)
           ·
            refine Ref.sk ?_
            exact Ref.n0 (t := (((a1.fKind : Int) == 7)))
           ·
            refine Ref.rn 18 ?_
            refine RefR.e0 (st' := ⟨[sP 0 0 0 0, sP 3 2 0 0, sI 5 a1.fKind, sB 51 ((a1.fKind : Int) == 8)], [.cells [.own 1 a0.fl.length], E9.row a0.fl, .cells (E27.cs a1)], [], 2⟩) 0 2 2 [0, 3, 5, 51] [0, 1, 2] ?_
            refine RefR.nl 2 ?_
            exact Ref.n0 (t := (((a1.fKind : Int) == 8)))
          ·
           refine Ref.cn (.tmp 51) u39 (fun hc => ?_) (fun hc => ?_)
           ·
            refine Ref.sq ?_
            refine Ref.rn 19 ?_
            refine RefR.e0 (st' := ⟨[sP 0 0 0 0, sP 3 2 0 0, sP 54 0 0 0, sI 58 (IntKind.i64.wrap ((IntKind.i64.wrap (a1.fKind - 7)) + 1))], [.cells [.own 1 a0.fl.length], E9.row a0.fl, .cells (E27.cs a1)], [], 2⟩) 0 5 5 [0, 3, 54, 58] [0, 1, 2] ?_
            refine RefR.letC (stf := fun x40 => ⟨[sP 0 0 0 0, sP 3 2 0 0, sP 54 0 0 0, sI 58 x40], [.cells [.own 1 a0.fl.length], E9.row a0.fl, .cells (E27.cs a1)], [], 2⟩) (by kernel_rfl) (fun x40 => ?_)
            refine RefR.e0 (st' := ⟨[sP 0 0 0 0, sP 3 2 0 0, sP 54 0 0 0, sI 58 x40, (59, .c (.own 3 2))], [.cells [.own 1 a0.fl.length], E9.row a0.fl, .cells (E27.cs a1), .row 9 1 2 (tbl [[.str ([45] : Bytes)], [.str ([78, 79, 84] : Bytes)]])], [], 2⟩) 5 1 6 [0, 3, 54, 58, 59] [0, 1, 2, 3] ?_
            refine RefR.conv (Conv.obj 3 (E9.row [([45] : Bytes), ([78, 79, 84] : Bytes)]) (El.row_build E9 [([45] : Bytes), ([78, 79, 84] : Bytes)] rfl (by kernel_rfl)) (by kernel_rfl)) ?_
            refine RefR.conv (Conv.slot 59 (.c (.own 3 ([([45] : Bytes), ([78, 79, 84] : Bytes)].length))) (DLe.c (CLe.own (by simp <;> omega))) (by kernel_rfl)) ?_
            refine RefR.lookC (t := 60) (g := []) (b := true) 6 7 [3] (default : Bytes) rfl (by kernel_rfl) (F45_ok K x40 [([45] : Bytes), ([78, 79, 84] : Bytes)]) (fun _ => rfl) (fun r41 => ?_)
            refine RefR.e0 (st' := ⟨[sP 0 0 0 0, sP 3 2 0 0, sP 54 0 0 0, (61, .c (.own 3 1))], [.cells [.own 1 a0.fl.length], E9.row a0.fl, .cells (E27.cs a1), .row 9 1 1 (tbl [[.str r41]])], [], 2⟩) 7 1 8 [0, 3, 54, 61] [0, 1, 2, 4] ?_
            refine RefR.conv (Conv.obj 3 (E9.row [r41]) (El.row_build E9 [r41] rfl (by kernel_rfl)) (by kernel_rfl)) ?_
            refine RefR.conv (Conv.slot 61 (.c (.own 3 ([r41].length))) (DLe.c (CLe.own (by simp <;> omega))) (by kernel_rfl)) ?_
            refine RefR.conv (Conv.freeze (st' := ⟨[(61, .c (E9.tree [r41])), sP 0 0 0 0, sP 3 2 0 0, sP 54 0 0 0], [.cells [.own 1 a0.fl.length], E9.row a0.fl, .cells (E27.cs a1), .dead], [], 2⟩) 3 (by kernel_rfl)) ?_
            refine RefR.callC (t := 62) 8 9 [0, 1] rfl (by kernel_rfl) (F33_ok K (⟨a0.fl⟩ : S62) [r41]) (fun r42 => ?_)
            refine RefR.nl 9 ?_
            refine Ref.rn 20 ?_
            refine RefR.e0 (st' := ⟨[sP 63 0 0 0, (65, .c (NT27 a1.fArgs))], [.cells [.own 2 r42.fl.length], .dead, E9.row r42.fl], [], 2⟩) 0 3 3 [63, 65] [0, 1, 4] ?_
            refine RefR.conv (Conv.slot 65 (.c (E27.tree a1.fArgs)) (DLe.c (NT27_le _)) (by kernel_rfl)) ?_
            refine RefR.callC (t := 66) 3 4 [0, 2] rfl (by kernel_rfl) (ih46 (⟨r42.fl⟩ : S62) a1.fArgs 0) (fun r43 => ?_)
            refine RefR.nl 4 ?_
            refine Ref.conv (Conv.keep (st' := ⟨[], [.cells [.own 2 r43.fl.length], .dead, E9.row r43.fl], [], 2⟩) [] [0, 1, 3] (by kernel_rfl)) ?_
            exact Ref.n0 (t := (r43.fl))
           ·
            refine Ref.sq ?_
            refine Ref.rn 21 ?_
            refine RefR.e0 (st' := ⟨[sP 0 0 0 0, sP 3 2 0 0, sI 5 a1.fKind, sB 67 ((a1.fKind : Int) == 9)], [.cells [.own 1 a0.fl.length], E9.row a0.fl, .cells (E27.cs a1)], [], 2⟩) 0 2 2 [0, 3, 5, 67] [0, 1, 2] ?_
            refine RefR.nl 2 ?_
            refine Ref.cn (.tmp 67) ((a1.fKind : Int) == 9) (fun hc => ?_) (fun hc => ?_)
            ·
             refine Ref.sq ?_
             refine Ref.rn 22 ?_
             refine RefR.e0 (st' := ⟨[sP 0 0 0 0, sP 3 2 0 0, sP 69 0 0 0, (71, .c (NT27 a1.fArgs))], [.cells [.own 1 a0.fl.length], E9.row a0.fl, .cells (E27.cs a1)], [], 2⟩) 0 3 3 [0, 3, 69, 71] [0, 1, 2] ?_
             refine RefR.conv (Conv.slot 71 (.c (E27.tree a1.fArgs)) (DLe.c (NT27_le _)) (by kernel_rfl)) ?_
             refine RefR.callC (t := 72) 3 4 [0, 1] rfl (by kernel_rfl) (ih46 (⟨a0.fl⟩ : S62) a1.fArgs 0) (fun r44 => ?_)
             refine RefR.nl 4 ?_
             refine Ref.sq ?_
             refine Ref.rn 23 ?_
             refine RefR.e0 (st' := ⟨[sP 0 0 0 0, sP 3 2 0 0, sP 73 0 0 0, sI 75 a1.fN], [.cells [.own 3 r44.fl.length], .dead, .cells (E27.cs a1), E9.row r44.fl], [], 2⟩) 0 3 3 [0, 3, 73, 75] [0, 1, 2, 3] ?_
             refine RefR.e0 (st' := ⟨[sP 0 0 0 0, sP 3 2 0 0, sP 73 0 0 0, sI 75 a1.fN, (76, .c (.own 4 14))], [.cells [.own 3 r44.fl.length], .dead, .cells (E27.cs a1), E9.row r44.fl, .row 9 1 14 (tbl [[.str ([43] : Bytes)], [.str ([45] : Bytes)], [.str ([42] : Bytes)], [.str ([47] : Bytes)], [.str ([77, 79, 68] : Bytes)], [.str ([61] : Bytes)], [.str ([60, 62] : Bytes)], [.str ([60] : Bytes)], [.str ([60, 61] : Bytes)], [.str ([62] : Bytes)], [.str ([62, 61] : Bytes)], [.str ([65, 78, 68] : Bytes)], [.str ([79, 82] : Bytes)], [.str ([88, 79, 82] : Bytes)]])], [], 2⟩) 3 1 4 [0, 3, 73, 75, 76] [0, 1, 2, 3, 4] ?_
             refine RefR.conv (Conv.obj 4 (E9.row [([43] : Bytes), ([45] : Bytes), ([42] : Bytes), ([47] : Bytes), ([77, 79, 68] : Bytes), ([61] : Bytes), ([60, 62] : Bytes), ([60] : Bytes), ([60, 61] : Bytes), ([62] : Bytes), ([62, 61] : Bytes), ([65, 78, 68] : Bytes), ([79, 82] : Bytes), ([88, 79, 82] : Bytes)]) (El.row_build E9 [([43] : Bytes), ([45] : Bytes), ([42] : Bytes), ([47] : Bytes), ([77, 79, 68] : Bytes), ([61] : Bytes), ([60, 62] : Bytes), ([60] : Bytes), ([60, 61] : Bytes), ([62] : Bytes), ([62, 61] : Bytes), ([65, 78, 68] : Bytes), ([79, 82] : Bytes), ([88, 79, 82] : Bytes)] rfl (by kernel_rfl)) (by kernel_rfl)) ?_
             refine RefR.conv (Conv.slot 76 (.c (.own 4 ([([43] : Bytes), ([45] : Bytes), ([42] : Bytes), ([47] : Bytes), ([77, 79, 68] : Bytes), ([61] : Bytes), ([60, 62] : Bytes), ([60] : Bytes), ([60, 61] : Bytes), ([62] : Bytes), ([62, 61] : Bytes), ([65, 78, 68] : Bytes), ([79, 82] : Bytes), ([88, 79, 82] : Bytes)].length))) (DLe.c (CLe.own (by simp <;> omega))) (by kernel_rfl)) ?_
             refine RefR.lookC (t := 77) (g := []) (b := true) 4 5 [4] (default : Bytes) rfl (by kernel_rfl) (F45_ok K a1.fN [([43] : Bytes), ([45] : Bytes), ([42] : Bytes), ([47] : Bytes), ([77, 79, 68] : Bytes), ([61] : Bytes), ([60, 62] : Bytes), ([60] : Bytes), ([60, 61] : Bytes), ([62] : Bytes), ([62, 61] : Bytes), ([65, 78, 68] : Bytes), ([79, 82] : Bytes), ([88, 79, 82] : Bytes)]) (fun _ => rfl) (fun r45 => ?_)
             refine RefR.e0 (st' := ⟨[sP 0 0 0 0, sP 3 2 0 0, sP 73 0 0 0, (78, .c (.own 4 1))], [.cells [.own 3 r44.fl.length], .dead, .cells (E27.cs a1), E9.row r44.fl, .row 9 1 1 (tbl [[.str r45]])], [], 2⟩) 5 1 6 [0, 3, 73, 78] [0, 1, 2, 3, 5] ?_
             refine RefR.conv (Conv.obj 4 (E9.row [r45]) (El.row_build E9 [r45] rfl (by kernel_rfl)) (by kernel_rfl)) ?_
             refine RefR.conv (Conv.slot 78 (.c (.own 4 ([r45].length))) (DLe.c (CLe.own (by simp <;> omega))) (by kernel_rfl)) ?_
             refine RefR.conv (Conv.freeze (st' := ⟨[(78, .c (E9.tree [r45])), sP 0 0 0 0, sP 3 2 0 0, sP 73 0 0 0], [.cells [.own 3 r44.fl.length], .dead, .cells (E27.cs a1), E9.row r44.fl, .dead], [], 2⟩) 4 (by kernel_rfl)) ?_
             refine RefR.callC (t := 79) 6 7 [0, 3] rfl (by kernel_rfl) (F33_ok K (⟨r44.fl⟩ : S62) [r45]) (fun r46 => ?_)
             refine RefR.nl 7 ?_
             refine Ref.rn 24 ?_
             refine RefR.e0 (st' := ⟨[sP 80 0 0 0, (82, .c (NT27 a1.fArgs))], [.cells [.own 2 r46.fl.length], .dead, E9.row r46.fl], [], 2⟩) 0 3 3 [80, 82] [0, 1, 5] ?_
             refine RefR.conv (Conv.slot 82 (.c (E27.tree a1.fArgs)) (DLe.c (NT27_le _)) (by kernel_rfl)) ?_
             refine RefR.callC (t := 83) 3 4 [0, 2] rfl (by kernel_rfl) (ih46 (⟨r46.fl⟩ : S62) a1.fArgs 1) (fun r47 => ?_)
             refine RefR.nl 4 ?_
             refine Ref.conv (Conv.keep (st' := ⟨[], [.cells [.own 2 r47.fl.length], .dead, E9.row r47.fl], [], 2⟩) [] [0, 1, 3] (by kernel_rfl)) ?_
             exact Ref.n0 (t := (r47.fl))
            ·
             refine Ref.sq ?_
             refine Ref.sq ?_
             refine Ref.rn 25 ?_
             refine RefR.e0 (st' := ⟨[sP 0 0 0 0, sP 3 2 0 0, sI 5 a1.fKind, sB 84 ((a1.fKind : Int) == 10)], [.cells [.own 1 a0.fl.length], E9.row a0.fl, .cells (E27.cs a1)], [], 2⟩) 0 2 2 [0, 3, 5, 84] [0, 1, 2] ?_
             refine RefR.nl 2 ?_
             refine Ref.bind (go1 := fun u48 => ⟨[sP 0 0 0 0, sP 3 2 0 0, sI 5 a1.fKind, sB 84 u48], [.cells [.own 1 a0.fl.length], E9.row a0.fl, .cells (E27.cs a1)], [], 2⟩) ?_ (fun u48 => ?_)
             ·
              refine Ref.cn (.tmp 84) ((a1.fKind : Int) == 10) (fun hc => ?_) (fun hc => ?_)
              ·
               refine Ref.sk ?_
               exact Ref.n0 (t := (((a1.fKind : Int) == 10)))
              ·
               refine Ref.sq ?_
               refine Ref.rn 26 ?_
               refine RefR.e0 (st' := ⟨[sP 0 0 0 0, sP 3 2 0 0, sI 5 a1.fKind, sB 84 ((a1.fKind : Int) == 11)], [.cells [.own 1 a0.fl.length], E9.row a0.fl, .cells (E27.cs a1)], [], 2⟩) 0 2 2 [0, 3, 5, 84] [0, 1, 2] ?_
               refine RefR.nl 2 ?_
               refine Ref.cn (.tmp 84) ((a1.fKind : Int) == 11) (fun hc => ?_) (fun hc => ?_)
               ·
                refine Ref.sk ?_
                exact Ref.n0 (t := (((a1.fKind : Int) == 11)))
               ·
                refine Ref.rn 27 ?_
                refine RefR.e0 (st' := ⟨[sP 0 0 0 0, sP 3 2 0 0, sI 5 a1.fKind, sB 84 ((a1.fKind : Int) == 12)], [.cells [.own 1 a0.fl.length], E9.row a0.fl, .cells (E27.cs a1)], [], 2⟩) 0 2 2 [0, 3, 5, 84] [0, 1, 2] ?_
                refine RefR.nl 2 ?_
                exact Ref.n0 (t := (((a1.fKind : Int) == 12)))
             ·
              refine Ref.cn (.tmp 84) u48 (fun hc => ?_) (fun hc => ?_)
              ·
               refine Ref.drawnY 28 (by kernel_rfl) (by kernel_rfl) ?_
               refine RefY.evC0 (st' := ⟨[sP 88 0 0 0, sP 89 2 0 0, sP 95 2 0 2], [.cells [.own 1 a0.fl.length], E9.row a0.fl, .cells (E27.cs a1)], [], 2⟩) (fuel' := 8) [0, 1, 7] [88, 89, 95] [0, 1, 2] rfl (by kernel_rfl) (by kernel_rfl) ?_
               refine RefY.toX [10] ?_
               refine RefX.evC0 (st' := ⟨[sP 88 0 0 0, sI 92 (IntKind.i64.wrap ((IntKind.i64.wrap (a1.fKind - 10)) + 1)), sS 96 a1.fName], [.cells [.own 1 a0.fl.length], E9.row a0.fl], [], 2⟩) (fuel' := 4) [2, 3, 4, 8] [88, 92, 96] [0, 1] rfl (by kernel_rfl) (by kernel_rfl) ?_
               refine RefX.letC (stf := fun x49 => ⟨[sP 88 0 0 0, sI 92 x49, sS 96 a1.fName], [.cells [.own 1 a0.fl.length], E9.row a0.fl], [], 2⟩) (by kernel_rfl) (fun x49 => ?_)
               refine RefX.madeC0 (st' := ⟨[sP 88 0 0 0, sI 92 x49, (93, .c (.own 2 3)), sS 96 a1.fName], [.cells [.own 1 a0.fl.length], E9.row a0.fl, .row 9 1 3 (tbl [[.str ([82, 69, 70] : Bytes)], [.str ([68, 79, 78, 69] : Bytes)], [.str ([67, 79, 85, 78, 84] : Bytes)]])], [], 2⟩) (fuel' := 3) 5 [88, 92, 93, 96] [0, 1, 2] rfl (by kernel_rfl) (by kernel_rfl) ?_
               refine RefX.conv (Conv.obj 2 (E9.row [([82, 69, 70] : Bytes), ([68, 79, 78, 69] : Bytes), ([67, 79, 85, 78, 84] : Bytes)]) (El.row_build E9 [([82, 69, 70] : Bytes), ([68, 79, 78, 69] : Bytes), ([67, 79, 85, 78, 84] : Bytes)] rfl (by kernel_rfl)) (by kernel_rfl)) ?_
               refine RefX.conv (Conv.slot 93 (.c (.own 2 ([([82, 69, 70] : Bytes), ([68, 79, 78, 69] : Bytes), ([67, 79, 85, 78, 84] : Bytes)].length))) (DLe.c (CLe.own (by simp <;> omega))) (by kernel_rfl)) ?_
               refine RefX.lookC (t := 94) (g := []) (b := true) (fuel' := 2) 6 [2] (default : Bytes) rfl (by kernel_rfl) (by kernel_rfl) (F45_ok K x49 [([82, 69, 70] : Bytes), ([68, 79, 78, 69] : Bytes), ([67, 79, 85, 78, 84] : Bytes)]) (fun _ => rfl) (fun r50 => ?_)
               refine RefX.madeC0 (st' := ⟨[sP 88 0 0 0, (97, .c (.own 2 4))], [.cells [.own 1 a0.fl.length], E9.row a0.fl, .row 9 1 4 (tbl [[.str r50], [.str ([40] : Bytes)], [.str a1.fName], [.str ([41] : Bytes)]])], [], 2⟩) (fuel' := 1) 9 [88, 97] [0, 1, 3] rfl (by kernel_rfl) (by kernel_rfl) ?_
               refine RefX.conv (Conv.obj 2 (E9.row [r50, ([40] : Bytes), a1.fName, ([41] : Bytes)]) (El.row_build E9 [r50, ([40] : Bytes), a1.fName, ([41] : Bytes)] rfl (by kernel_rfl)) (by kernel_rfl)) ?_
               refine RefX.conv (Conv.slot 97 (.c (.own 2 ([r50, ([40] : Bytes), a1.fName, ([41] : Bytes)].length))) (DLe.c (CLe.own (by simp <;> omega))) (by kernel_rfl)) ?_
               refine RefX.tailC [10] rfl (by kernel_rfl) ?_
               refine RefR.conv (Conv.freeze (st' := ⟨[(97, .c (E9.tree [r50, ([40] : Bytes), a1.fName, ([41] : Bytes)])), sP 88 0 0 0], [.cells [.own 1 a0.fl.length], E9.row a0.fl, .dead], [], 2⟩) 2 (by kernel_rfl)) ?_
               refine RefR.callC (t := 98) 0 1 [0, 1] rfl (by kernel_rfl) (F33_ok K (⟨a0.fl⟩ : S62) [r50, ([40] : Bytes), a1.fName, ([41] : Bytes)]) (fun r51 => ?_)
               refine RefR.nl 1 ?_
               refine Ref.conv (Conv.keep (st' := ⟨[], [.cells [.own 2 r51.fl.length], .dead, E9.row r51.fl], [], 2⟩) [] [0, 1, 3] (by kernel_rfl)) ?_
               exact Ref.n0 (t := (r51.fl))
              ·
               refine Ref.sq ?_
               refine Ref.rn 29 ?_
               refine RefR.e0 (st' := ⟨[sP 0 0 0 0, sP 3 2 0 0, sI 5 a1.fKind, sB 99 ((a1.fKind : Int) == 14)], [.cells [.own 1 a0.fl.length], E9.row a0.fl, .cells (E27.cs a1)], [], 2⟩) 0 2 2 [0, 3, 5, 99] [0, 1, 2] ?_
               refine RefR.nl 2 ?_
               refine Ref.cn (.tmp 99) ((a1.fKind : Int) == 14) (fun hc => ?_) (fun hc => ?_)
               ·
                refine Ref.sq ?_
                refine Ref.rn 30 ?_
                refine RefR.e0 (st' := ⟨[sP 0 0 0 0, sP 3 2 0 0, sP 101 0 0 0, sS 103 a1.fName], [.cells [.own 1 a0.fl.length], E9.row a0.fl, .cells (E27.cs a1)], [], 2⟩) 0 3 3 [0, 3, 101, 103] [0, 1, 2] ?_
                refine RefR.e0 (st' := ⟨[sP 0 0 0 0, sP 3 2 0 0, sP 101 0 0 0, (104, .c (.own 3 3))], [.cells [.own 1 a0.fl.length], E9.row a0.fl, .cells (E27.cs a1), .row 9 1 3 (tbl [[.str ([65, 83] : Bytes)], [.str a1.fName], [.str ([40] : Bytes)]])], [], 2⟩) 3 1 4 [0, 3, 101, 104] [0, 1, 2, 3] ?_
                refine RefR.conv (Conv.obj 3 (E9.row [([65, 83] : Bytes), a1.fName, ([40] : Bytes)]) (El.row_build E9 [([65, 83] : Bytes), a1.fName, ([40] : Bytes)] rfl (by kernel_rfl)) (by kernel_rfl)) ?_
                refine RefR.conv (Conv.slot 104 (.c (.own 3 ([([65, 83] : Bytes), a1.fName, ([40] : Bytes)].length))) (DLe.c (CLe.own (by simp <;> omega))) (by kernel_rfl)) ?_
                refine RefR.conv (Conv.freeze (st' := ⟨[(104, .c (E9.tree [([65, 83] : Bytes), a1.fName, ([40] : Bytes)])), sP 0 0 0 0, sP 3 2 0 0, sP 101 0 0 0], [.cells [.own 1 a0.fl.length], E9.row a0.fl, .cells (E27.cs a1), .dead], [], 2⟩) 3 (by kernel_rfl)) ?_
                refine RefR.callC (t := 105) 4 5 [0, 1] rfl (by kernel_rfl) (F33_ok K (⟨a0.fl⟩ : S62) [([65, 83] : Bytes), a1.fName, ([40] : Bytes)]) (fun r52 => ?_)
                refine RefR.nl 5 ?_
                refine Ref.sq ?_
                refine Ref.rn 31 ?_
                refine RefR.e0 (st' := ⟨[sP 0 0 0 0, sP 106 0 0 0, (108, .c (NT27 a1.fArgs))], [.cells [.own 2 r52.fl.length], .dead, E9.row r52.fl], [], 2⟩) 0 3 3 [0, 106, 108] [0, 1, 4] ?_
                refine RefR.conv (Conv.slot 108 (.c (E27.tree a1.fArgs)) (DLe.c (NT27_le _)) (by kernel_rfl)) ?_
                refine RefR.callC (t := 109) 3 4 [0, 2] rfl (by kernel_rfl) (ih44 (⟨r52.fl⟩ : S62) a1.fArgs 0) (fun r53 => ?_)
                refine RefR.nl 4 ?_
                refine Ref.rn 32 ?_
                refine RefR.e0 (st' := ⟨[sP 110 0 0 0], [.cells [.own 2 r53.fl.length], .dead, E9.row r53.fl], [], 2⟩) 0 1 1 [110] [0, 1, 3] ?_
                refine RefR.e0 (st' := ⟨[sP 110 0 0 0, (111, .c (.own 3 1))], [.cells [.own 2 r53.fl.length], .dead, E9.row r53.fl, .row 9 1 1 (tbl [[.str ([41] : Bytes)]])], [], 2⟩) 1 1 2 [110, 111] [0, 1, 2, 3] ?_
                refine RefR.conv (Conv.obj 3 (E9.row [([41] : Bytes)]) (El.row_build E9 [([41] : Bytes)] rfl (by kernel_rfl)) (by kernel_rfl)) ?_
                refine RefR.conv (Conv.slot 111 (.c (.own 3 ([([41] : Bytes)].length))) (DLe.c (CLe.own (by simp <;> omega))) (by kernel_rfl)) ?_
                refine RefR.conv (Conv.freeze (st' := ⟨[(111, .c (E9.tree [([41] : Bytes)])), sP 110 0 0 0], [.cells [.own 2 r53.fl.length], .dead, E9.row r53.fl, .dead], [], 2⟩) 3 (by kernel_rfl)) ?_
                refine RefR.callC (t := 112) 2 3 [0, 2] rfl (by kernel_rfl) (F33_ok K (⟨r53.fl⟩ : S62) [([41] : Bytes)]) (fun r54 => ?_)
                refine RefR.nl 3 ?_
                refine Ref.conv (Conv.keep (st' := ⟨[], [.cells [.own 2 r54.fl.length], .dead, E9.row r54.fl], [], 2⟩) [] [0, 1, 4] (by kernel_rfl)) ?_
                exact Ref.n0 (t := (r54.fl))
               ·
                refine Ref.sq ?_
                refine Ref.rn 33 ?_
                refine RefR.e0 (st' := ⟨[sP 0 0 0 0, sP 3 2 0 0, sB 113 ((a1.fKind : Int) == 13)], [.cells [.own 1 a0.fl.length], E9.row a0.fl, .cells (E27.cs a1)], [], 2⟩) 0 2 2 [0, 3, 113] [0, 1, 2] ?_
                refine RefR.nl 2 ?_
                refine Ref.cn (.tmp 113) ((a1.fKind : Int) == 13) (fun hc => ?_) (fun hc => ?_)
                ·
                 refine Ref.sq ?_
                 refine Ref.drawnY 34 (by kernel_rfl) (by kernel_rfl) ?_
                 refine RefY.evC0 (st' := ⟨[sP 0 0 0 0, sP 3 2 0 0, sP 115 0 0 0, sP 116 2 0 1, sP 119 2 0 2, sP 123 2 0 3], [.cells [.own 1 a0.fl.length], E9.row a0.fl, .cells (E27.cs a1)], [], 2⟩) (fuel' := 8) [0, 1, 4, 8] [0, 3, 115, 116, 119, 123] [0, 1, 2] rfl (by kernel_rfl) (by kernel_rfl) ?_
                 refine RefY.toX [11] ?_
                 refine RefX.evC0 (st' := ⟨[sP 0 0 0 0, sP 3 2 0 0, sP 115 0 0 0, sI 118 (IntKind.i64.wrap (a1.fN + 1)), sS 120 a1.fName, sS 124 a1.fWhat], [.cells [.own 1 a0.fl.length], E9.row a0.fl, .cells (E27.cs a1)], [], 2⟩) (fuel' := 4) [2, 3, 5, 9] [0, 3, 115, 118, 120, 124] [0, 1, 2] rfl (by kernel_rfl) (by kernel_rfl) ?_
                 refine RefX.madeC0 (st' := ⟨[sP 0 0 0 0, sP 3 2 0 0, sP 115 0 0 0, sI 118 (IntKind.i64.wrap (a1.fN + 1)), (121, .c (.own 3 3)), sS 124 a1.fWhat], [.cells [.own 1 a0.fl.length], E9.row a0.fl, .cells (E27.cs a1), .row 9 1 3 (tbl [[.str a1.fName], [.str ([84, 72, 73, 83] : Bytes)], [.str ([83, 85, 80, 69, 82] : Bytes)]])], [], 2⟩) (fuel' := 3) 6 [0, 3, 115, 118, 121, 124] [0, 1, 2, 3] rfl (by kernel_rfl) (by kernel_rfl) ?_
                 refine RefX.conv (Conv.obj 3 (E9.row [a1.fName, ([84, 72, 73, 83] : Bytes), ([83, 85, 80, 69, 82] : Bytes)]) (El.row_build E9 [a1.fName, ([84, 72, 73, 83] : Bytes), ([83, 85, 80, 69, 82] : Bytes)] rfl (by kernel_rfl)) (by kernel_rfl)) ?_
                 refine RefX.conv (Conv.slot 121 (.c (.own 3 ([a1.fName, ([84, 72, 73, 83] : Bytes), ([83, 85, 80, 69, 82] : Bytes)].length))) (DLe.c (CLe.own (by simp <;> omega))) (by kernel_rfl)) ?_
                 refine RefX.lookC (t := 122) (g := []) (b := true) (fuel' := 2) 7 [3] (default : Bytes) rfl (by kernel_rfl) (by kernel_rfl) (F45_ok K (IntKind.i64.wrap (a1.fN + 1)) [a1.fName, ([84, 72, 73, 83] : Bytes), ([83, 85, 80, 69, 82] : Bytes)]) (fun _ => rfl) (fun r55 => ?_)
                 refine RefX.madeC0 (st' := ⟨[sP 0 0 0 0, sP 3 2 0 0, sP 115 0 0 0, (125, .c (.own 3 4))], [.cells [.own 1 a0.fl.length], E9.row a0.fl, .cells (E27.cs a1), .row 9 1 4 (tbl [[.str r55], [.str ([46] : Bytes)], [.str a1.fWhat], [.str ([40] : Bytes)]])], [], 2⟩) (fuel' := 1) 10 [0, 3, 115, 125] [0, 1, 2, 4] rfl (by kernel_rfl) (by kernel_rfl) ?_
                 refine RefX.conv (Conv.obj 3 (E9.row [r55, ([46] : Bytes), a1.fWhat, ([40] : Bytes)]) (El.row_build E9 [r55, ([46] : Bytes), a1.fWhat, ([40] : Bytes)] rfl (by kernel_rfl)) (by kernel_rfl)) ?_
                 refine RefX.conv (Conv.slot 125 (.c (.own 3 ([r55, ([46] : Bytes), a1.fWhat, ([40] : Bytes)].length))) (DLe.c (CLe.own (by simp <;> omega))) (by kernel_rfl)) ?_
                 refine RefX.tailC [11] rfl (by kernel_rfl) ?_
                 refine RefR.conv (Conv.freeze (st' := ⟨[(125, .c (E9.tree [r55, ([46] : Bytes), a1.fWhat, ([40] : Bytes)])), sP 0 0 0 0, sP 3 2 0 0, sP 115 0 0 0], [.cells [.own 1 a0.fl.length], E9.row a0.fl, .cells (E27.cs a1), .dead], [], 2⟩) 3 (by kernel_rfl)) ?_
                 refine RefR.callC (t := 126) 0 1 [0, 1] rfl (by kernel_rfl) (F33_ok K (⟨a0.fl⟩ : S62) [r55, ([46] : Bytes), a1.fWhat, ([40] : Bytes)]) (fun r56 => ?_)
                 refine RefR.nl 1 ?_
                 refine Ref.sq ?_
                 refine Ref.rn 35 ?_
                 refine RefR.e0 (st' := ⟨[sP 0 0 0 0, sP 127 0 0 0, (129, .c (NT27 a1.fArgs))], [.cells [.own 2 r56.fl.length], .dead, E9.row r56.fl], [], 2⟩) 0 3 3 [0, 127, 129] [0, 1, 4] ?_
                 refine RefR.conv (Conv.slot 129 (.c (E27.tree a1.fArgs)) (DLe.c (NT27_le _)) (by kernel_rfl)) ?_
                 refine RefR.callC (t := 130) 3 4 [0, 2] rfl (by kernel_rfl) (ih47 (⟨r56.fl⟩ : S62) a1.fArgs) (fun r57 => ?_)
                 refine RefR.nl 4 ?_
                 refine Ref.rn 36 ?_
                 refine RefR.e0 (st' := ⟨[sP 131 0 0 0], [.cells [.own 2 r57.fl.length], .dead, E9.row r57.fl], [], 2⟩) 0 1 1 [131] [0, 1, 3] ?_
                 refine RefR.e0 (st' := ⟨[sP 131 0 0 0, (132, .c (.own 3 1))], [.cells [.own 2 r57.fl.length], .dead, E9.row r57.fl, .row 9 1 1 (tbl [[.str ([41] : Bytes)]])], [], 2⟩) 1 1 2 [131, 132] [0, 1, 2, 3] ?_
                 refine RefR.conv (Conv.obj 3 (E9.row [([41] : Bytes)]) (El.row_build E9 [([41] : Bytes)] rfl (by kernel_rfl)) (by kernel_rfl)) ?_
                 refine RefR.conv (Conv.slot 132 (.c (.own 3 ([([41] : Bytes)].length))) (DLe.c (CLe.own (by simp <;> omega))) (by kernel_rfl)) ?_
                 refine RefR.conv (Conv.freeze (st' := ⟨[(132, .c (E9.tree [([41] : Bytes)])), sP 131 0 0 0], [.cells [.own 2 r57.fl.length], .dead, E9.row r57.fl, .dead], [], 2⟩) 3 (by kernel_rfl)) ?_
                 refine RefR.callC (t := 133) 2 3 [0, 2] rfl (by kernel_rfl) (F33_ok K (⟨r57.fl⟩ : S62) [([41] : Bytes)]) (fun r58 => ?_)
                 refine RefR.nl 3 ?_
                 refine Ref.conv (Conv.keep (st' := ⟨[], [.cells [.own 2 r58.fl.length], .dead, E9.row r58.fl], [], 2⟩) [] [0, 1, 4] (by kernel_rfl)) ?_
                 exact Ref.n0 (t := (r58.fl))
                ·
                 refine Ref.rn 2 ?_
                 refine RefR.e0 (st' := ⟨[sP 6 0 0 0], [.cells [.own 1 a0.fl.length], E9.row a0.fl], [], 2⟩) 0 1 1 [6] [0, 1] ?_
                 refine RefR.e0 (st' := ⟨[sP 6 0 0 0, (7, .c (.own 2 1))], [.cells [.own 1 a0.fl.length], E9.row a0.fl, .row 9 1 1 (tbl [[.str ([63] : Bytes)]])], [], 2⟩) 1 1 2 [6, 7] [0, 1, 2] ?_
                 refine RefR.conv (Conv.obj 2 (E9.row [([63] : Bytes)]) (El.row_build E9 [([63] : Bytes)] rfl (by kernel_rfl)) (by kernel_rfl)) ?_
                 refine RefR.conv (Conv.slot 7 (.c (.own 2 ([([63] : Bytes)].length))) (DLe.c (CLe.own (by simp <;> omega))) (by kernel_rfl)) ?_
                 refine RefR.conv (Conv.freeze (st' := ⟨[(7, .c (E9.tree [([63] : Bytes)])), sP 6 0 0 0], [.cells [.own 1 a0.fl.length], E9.row a0.fl, .dead], [], 2⟩) 2 (by kernel_rfl)) ?_
                 refine RefR.callC (t := 8) 2 3 [0, 1] rfl (by kernel_rfl) (F33_ok K (⟨a0.fl⟩ : S62) [([63] : Bytes)]) (fun r59 => ?_)
                 refine RefR.nl 3 ?_
                 refine Ref.conv (Conv.keep (st' := ⟨[], [.cells [.own 2 r59.fl.length], .dead, E9.row r59.fl], [], 2⟩) [] [0, 1, 3] (by kernel_rfl)) ?_
                 exact Ref.n0 (t := (r59.fl))
   ·
    exact Ref.n0 (t := ((⟨u30⟩ : S62)))

  ·
   intro a0 a1 a2
   refine DFun.intro (fn := Tryd.f44) (c := cd (bd Tryd.f44) []) (rs := fun r => ⟨[], [.cells [.own 2 r.fl.length], .dead, E9.row r.fl], [], 2⟩) (by kernel_rfl) (by kernel_rfl) (by kernel_rfl) ?_ (fun r => by kernel_rfl) (fun r => by kernel_rfl) (fun r => by kernel_rfl) (fun r => by kernel_rfl)
   rw [F44]
   refine Ref.sq ?_
   refine Ref.sq ?_
   refine Ref.rn 0 ?_
   refine RefR.e0 (st' := ⟨[sP 0 0 0 0, (1, .c (E27.tree a1)), sI 2 a2, sB 9 (decide ((a2 : Int) ≥ (Int.ofNat a1.length)))], [.cells [.own 1 a0.fl.length], E9.row a0.fl], [], 2⟩) 0 4 4 [0, 1, 2, 9] [0, 1] ?_
   refine RefR.letC (stf := fun x1 => ⟨[sP 0 0 0 0, (1, .c (E27.tree a1)), sI 2 a2, sB 9 x1], [.cells [.own 1 a0.fl.length], E9.row a0.fl], [], 2⟩) (by kernel_rfl) (fun x1 => ?_)
   refine RefR.nl 4 ?_
   refine Ref.cn (.tmp 9) x1 (fun hc => ?_) (fun hc => ?_)
   ·
    refine Ref.sq ?_
    refine Ref.rn 1 ?_
    refine RefR.e0 (st' := ⟨[sP 10 0 0 0], [.cells [.own 1 a0.fl.length], E9.row a0.fl], [], 2⟩) 0 1 1 [10] [0, 1] ?_
    refine RefR.e0 (st' := ⟨[sP 10 0 0 0, (11, .c (.own 2 1))], [.cells [.own 1 a0.fl.length], E9.row a0.fl, .row 9 1 1 (tbl [[.str ([63] : Bytes)]])], [], 2⟩) 1 1 2 [10, 11] [0, 1, 2] ?_
    refine RefR.conv (Conv.obj 2 (E9.row [([63] : Bytes)]) (El.row_build E9 [([63] : Bytes)] rfl (by kernel_rfl)) (by kernel_rfl)) ?_
    refine RefR.conv (Conv.slot 11 (.c (.own 2 ([([63] : Bytes)].length))) (DLe.c (CLe.own (by simp <;> omega))) (by kernel_rfl)) ?_
    refine RefR.conv (Conv.freeze (st' := ⟨[(11, .c (E9.tree [([63] : Bytes)])), sP 10 0 0 0], [.cells [.own 1 a0.fl.length], E9.row a0.fl, .dead], [], 2⟩) 2 (by kernel_rfl)) ?_
    refine RefR.callC (t := 12) 2 3 [0, 1] rfl (by kernel_rfl) (F33_ok K (⟨a0.fl⟩ : S62) [([63] : Bytes)]) (fun r2 => ?_)
    refine RefR.nl 3 ?_
    refine Ref.conv (Conv.keep (st' := ⟨[], [.cells [.own 2 r2.fl.length], .dead, E9.row r2.fl], [], 2⟩) [] [0, 1, 3] (by kernel_rfl)) ?_
    exact Ref.rt (t := ((⟨r2.fl⟩ : S62)))
   ·
    refine Ref.sk ?_
    refine Ref.rn 2 ?_
    refine RefR.e0 (st' := ⟨[sP 13 0 0 0, (14, .c (E27.tree a1)), sI 15 a2], [.cells [.own 1 a0.fl.length], E9.row a0.fl], [], 2⟩) 0 3 3 [13, 14, 15] [0, 1] ?_
    refine RefR.evC (vs := [inb a2 a1.length]) (st' := ⟨[sP 13 0 0 0, (17, .agg (E27.cs (a1.getD (a2 : Int).toNat default)))], [.cells [.own 1 a0.fl.length], E9.row a0.fl], [], 2⟩) 3 2 5 [13, 17] [0, 1] rfl (by kernel_rfl) ?_
    refine RefR.callC (t := 18) 5 6 [0, 1] rfl (by kernel_rfl) (ih23 (⟨a0.fl⟩ : S62) (a1.getD (a2 : Int).toNat default)) (fun r3 => ?_)
    refine RefR.nl 6 ?_
    refine Ref.conv (Conv.keep (st' := ⟨[], [.cells [.own 2 r3.fl.length], .dead, E9.row r3.fl], [], 2⟩) [] [0, 1, 2] (by kernel_rfl)) ?_
    exact Ref.n0 (t := ((⟨r3.fl⟩ : S62)))

  ·
   intro a0 a1 a2
   refine DFun.intro (fn := Tryd.f46) (c := cd (bd Tryd.f46) []) (rs := fun r => ⟨[], [.cells [.own 2 r.fl.length], .dead, E9.row r.fl], [], 2⟩) (by kernel_rfl) (by kernel_rfl) (by kernel_rfl) ?_ (fun r => by kernel_rfl) (fun r => by kernel_rfl) (fun r => by kernel_rfl) (fun r => by kernel_rfl)
   rw [F46]
   refine Ref.sq ?_
   refine Ref.rn 0 ?_
   refine RefR.e0 (st' := ⟨[sP 0 0 0 0, (1, .c (E27.tree a1)), sI 2 a2, sI 6 0], [.cells [.own 1 a0.fl.length], E9.row a0.fl], [], 2⟩) 0 1 1 [0, 1, 2, 6] [0, 1] ?_
   refine RefR.nl 1 ?_
   refine Ref.sq ?_
   refine Ref.sq ?_
   refine Ref.rn 1 ?_
   refine RefR.e0 (st' := ⟨[sP 0 0 0 0, (1, .c (E27.tree a1)), sI 2 a2, sI 6 0, sB 10 (decide ((a2 : Int) < (Int.ofNat a1.length)))], [.cells [.own 1 a0.fl.length], E9.row a0.fl], [], 2⟩) 0 4 4 [0, 1, 2, 6, 10] [0, 1] ?_
   refine RefR.letC (stf := fun x1 => ⟨[sP 0 0 0 0, (1, .c (E27.tree a1)), sI 2 a2, sI 6 0, sB 10 x1], [.cells [.own 1 a0.fl.length], E9.row a0.fl], [], 2⟩) (by kernel_rfl) (fun x1 => ?_)
   refine RefR.nl 4 ?_
   refine Ref.bind (go1 := fun u2 => ⟨[sP 0 0 0 0, (1, .c (E27.tree a1)), sI 2 a2, sI 6 u2], [.cells [.own 1 a0.fl.length], E9.row a0.fl], [], 2⟩) ?_ (fun u2 => ?_)
   ·
    refine Ref.cn (.tmp 10) x1 (fun hc => ?_) (fun hc => ?_)
    ·
     refine Ref.rn 2 ?_
     refine RefR.e0 (st' := ⟨[sP 0 0 0 0, (1, .c (E27.tree a1)), sI 2 a2, (11, .c (E27.tree a1)), sI 12 a2], [.cells [.own 1 a0.fl.length], E9.row a0.fl], [], 2⟩) 0 2 2 [0, 1, 2, 11, 12] [0, 1] ?_
     refine RefR.evC (vs := [inb a2 a1.length]) (st' := ⟨[sP 0 0 0 0, (1, .c (E27.tree a1)), sI 2 a2, sI 6 ((a1.getD (a2 : Int).toNat default).fKind)], [.cells [.own 1 a0.fl.length], E9.row a0.fl], [], 2⟩) 2 4 6 [0, 1, 2, 6] [0, 1] rfl (by kernel_rfl) ?_
     refine RefR.nl 6 ?_
     exact Ref.n0 (t := ((a1.getD (a2 : Int).toNat default).fKind))
    ·
     refine Ref.sk ?_
     refine Ref.conv (Conv.keep (st' := ⟨[sP 0 0 0 0, (1, .c (E27.tree a1)), sI 2 a2, sI 6 0], [.cells [.own 1 a0.fl.length], E9.row a0.fl], [], 2⟩) [0, 1, 2, 6] [0, 1] (by kernel_rfl)) ?_
     exact Ref.n0 (t := (0))
   ·
    refine Ref.sq ?_
    refine Ref.rn 3 ?_
    refine RefR.e0 (st' := ⟨[sP 0 0 0 0, (1, .c (E27.tree a1)), sI 2 a2, sI 16 u2], [.cells [.own 1 a0.fl.length], E9.row a0.fl], [], 2⟩) 0 1 1 [0, 1, 2, 16] [0, 1] ?_
    refine RefR.nl 1 ?_
    refine Ref.codeEq (c' := .block 0 (cd (bd Tryd.f46) [1, 1, 1, 0])) (by kernel_rfl) ?_
    refine Ref.block (go1 := fun u8 => ⟨[], [.cells [.own 2 u8.length], .dead, E9.row u8], [], 2⟩) ?_ (fun _ h => by cases h) (fun u8 => ?_)
    ·
     refine Ref.sq ?_
     refine Ref.sq ?_
     refine Ref.rn 5 ?_
     refine RefR.e0 (st' := ⟨[sP 0 0 0 0, (1, .c (E27.tree a1)), sI 2 a2, sI 16 u2, sB 21 ((u2 : Int) == 7)], [.cells [.own 1 a0.fl.length], E9.row a0.fl], [], 2⟩) 0 2 2 [0, 1, 2, 16, 21] [0, 1] ?_
     refine RefR.nl 2 ?_
     refine Ref.bind (go1 := fun u9 => ⟨[sP 0 0 0 0, (1, .c (E27.tree a1)), sI 2 a2, sB 21 u9], [.cells [.own 1 a0.fl.length], E9.row a0.fl], [], 2⟩) ?_ (fun u9 => ?_)
     ·
      refine Ref.cn (.tmp 21) ((u2 : Int) == 7) (fun hc => ?_) (fun hc => ?_)
      ·
       refine Ref.sk ?_
       refine Ref.conv (Conv.keep (st' := ⟨[sP 0 0 0 0, (1, .c (E27.tree a1)), sI 2 a2, sB 21 ((u2 : Int) == 7)], [.cells [.own 1 a0.fl.length], E9.row a0.fl], [], 2⟩) [0, 1, 2, 21] [0, 1] (by kernel_rfl)) ?_
       exact Ref.n0 (t := (((u2 : Int) == 7)))
      ·
       refine Ref.sq ?_
       refine Ref.rn 6 ?_
       refine RefR.e0 (st' := ⟨[sP 0 0 0 0, (1, .c (E27.tree a1)), sI 2 a2, sI 16 u2, sB 21 ((u2 : Int) == 8)], [.cells [.own 1 a0.fl.length], E9.row a0.fl], [], 2⟩) 0 2 2 [0, 1, 2, 16, 21] [0, 1] ?_
       refine RefR.nl 2 ?_
       refine Ref.cn (.tmp 21) ((u2 : Int) == 8) (fun hc => ?_) (fun hc => ?_)
       ·
        refine Ref.sk ?_
        refine Ref.conv (Conv.keep (st' := ⟨[sP 0 0 0 0, (1, .c (E27.tree a1)), sI 2 a2, sB 21 ((u2 : Int) == 8)], [.cells [.own 1 a0.fl.length], E9.row a0.fl], [], 2⟩) [0, 1, 2, 21] [0, 1] (by kernel_rfl)) ?_
        exact Ref.n0 (t := (((u2 : Int) == 8)))
       ·
        refine Ref.rn 7 ?_
        refine RefR.e0 (st' := ⟨[sP 0 0 0 0, (1, .c (E27.tree a1)), sI 2 a2, sB 21 ((u2 : Int) == 9)], [.cells [.own 1 a0.fl.length], E9.row a0.fl], [], 2⟩) 0 2 2 [0, 1, 2, 21] [0, 1] ?_
        refine RefR.nl 2 ?_
        exact Ref.n0 (t := (((u2 : Int) == 9)))
     ·
      refine Ref.cn (.tmp 21) u9 (fun hc => ?_) (fun hc => ?_)
      ·
       refine Ref.sq ?_
       refine Ref.rn 8 ?_
       refine RefR.e0 (st' := ⟨[sP 0 0 0 0, (1, .c (E27.tree a1)), sI 2 a2, sP 25 0 0 0], [.cells [.own 1 a0.fl.length], E9.row a0.fl], [], 2⟩) 0 1 1 [0, 1, 2, 25] [0, 1] ?_
       refine RefR.e0 (st' := ⟨[sP 0 0 0 0, (1, .c (E27.tree a1)), sI 2 a2, sP 25 0 0 0, (26, .c (.own 2 1))], [.cells [.own 1 a0.fl.length], E9.row a0.fl, .row 9 1 1 (tbl [[.str ([40] : Bytes)]])], [], 2⟩) 1 1 2 [0, 1, 2, 25, 26] [0, 1, 2] ?_
       refine RefR.conv (Conv.obj 2 (E9.row [([40] : Bytes)]) (El.row_build E9 [([40] : Bytes)] rfl (by kernel_rfl)) (by kernel_rfl)) ?_
       refine RefR.conv (Conv.slot 26 (.c (.own 2 ([([40] : Bytes)].length))) (DLe.c (CLe.own (by simp <;> omega))) (by kernel_rfl)) ?_
       refine RefR.conv (Conv.freeze (st' := ⟨[(26, .c (E9.tree [([40] : Bytes)])), sP 0 0 0 0, (1, .c (E27.tree a1)), sI 2 a2, sP 25 0 0 0], [.cells [.own 1 a0.fl.length], E9.row a0.fl, .dead], [], 2⟩) 2 (by kernel_rfl)) ?_
       refine RefR.callC (t := 27) 2 3 [0, 1] rfl (by kernel_rfl) (F33_ok K (⟨a0.fl⟩ : S62) [([40] : Bytes)]) (fun r10 => ?_)
       refine RefR.nl 3 ?_
       refine Ref.sq ?_
       refine Ref.rn 9 ?_
       refine RefR.e0 (st' := ⟨[sP 0 0 0 0, sP 28 0 0 0, (29, .c (E27.tree a1)), sI 30 a2], [.cells [.own 2 r10.fl.length], .dead, E9.row r10.fl], [], 2⟩) 0 3 3 [0, 28, 29, 30] [0, 1, 3] ?_
       refine RefR.callC (t := 31) 3 4 [0, 2] rfl (by kernel_rfl) (ih44 (⟨r10.fl⟩ : S62) a1 a2) (fun r11 => ?_)
       refine RefR.nl 4 ?_
       refine Ref.rn 10 ?_
       refine RefR.e0 (st' := ⟨[sP 32 0 0 0], [.cells [.own 2 r11.fl.length], .dead, E9.row r11.fl], [], 2⟩) 0 1 1 [32] [0, 1, 3] ?_
       refine RefR.e0 (st' := ⟨[sP 32 0 0 0, (33, .c (.own 3 1))], [.cells [.own 2 r11.fl.length], .dead, E9.row r11.fl, .row 9 1 1 (tbl [[.str ([41] : Bytes)]])], [], 2⟩) 1 1 2 [32, 33] [0, 1, 2, 3] ?_
       refine RefR.conv (Conv.obj 3 (E9.row [([41] : Bytes)]) (El.row_build E9 [([41] : Bytes)] rfl (by kernel_rfl)) (by kernel_rfl)) ?_
       refine RefR.conv (Conv.slot 33 (.c (.own 3 ([([41] : Bytes)].length))) (DLe.c (CLe.own (by simp <;> omega))) (by kernel_rfl)) ?_
       refine RefR.conv (Conv.freeze (st' := ⟨[(33, .c (E9.tree [([41] : Bytes)])), sP 32 0 0 0], [.cells [.own 2 r11.fl.length], .dead, E9.row r11.fl, .dead], [], 2⟩) 3 (by kernel_rfl)) ?_
       refine RefR.callC (t := 34) 2 3 [0, 2] rfl (by kernel_rfl) (F33_ok K (⟨r11.fl⟩ : S62) [([41] : Bytes)]) (fun r12 => ?_)
       refine RefR.nl 3 ?_
       refine Ref.conv (Conv.keep (st' := ⟨[], [.cells [.own 2 r12.fl.length], .dead, E9.row r12.fl], [], 2⟩) [] [0, 1, 4] (by kernel_rfl)) ?_
       exact Ref.n0 (t := (r12.fl))
      ·
       refine Ref.rn 4 ?_
       refine RefR.e0 (st' := ⟨[sP 17 0 0 0, (18, .c (E27.tree a1)), sI 19 a2], [.cells [.own 1 a0.fl.length], E9.row a0.fl], [], 2⟩) 0 3 3 [17, 18, 19] [0, 1] ?_
       refine RefR.callC (t := 20) 3 4 [0, 1] rfl (by kernel_rfl) (ih44 (⟨a0.fl⟩ : S62) a1 a2) (fun r13 => ?_)
       refine RefR.nl 4 ?_
       refine Ref.conv (Conv.keep (st' := ⟨[], [.cells [.own 2 r13.fl.length], .dead, E9.row r13.fl], [], 2⟩) [] [0, 1, 2] (by kernel_rfl)) ?_
       exact Ref.n0 (t := (r13.fl))
    ·
     exact Ref.n0 (t := ((⟨u8⟩ : S62)))

  ·
   intro a0 a1
   refine DFun.intro (fn := Tryd.f47) (c := cd (bd Tryd.f47) []) (rs := fun r => ⟨[], [.cells [.own 2 r.fl.length], .dead, E9.row r.fl], [], 2⟩) (by kernel_rfl) (by kernel_rfl) (by kernel_rfl) ?_ (fun r => by kernel_rfl) (fun r => by kernel_rfl) (fun r => by kernel_rfl) (fun r => by kernel_rfl)
   rw [F47]
   refine Ref.sq ?_
   refine Ref.rn 0 ?_
   refine RefR.e0 (st' := ⟨[sP 0 0 0 0, (6, .c (E27.tree a1)), sI 7 (Int.ofNat a1.length), sI 8 0], [.cells [.own 1 a0.fl.length], E9.row a0.fl], [], 2⟩) 0 3 3 [0, 6, 7, 8] [0, 1] ?_
   refine RefR.nl 3 ?_
   refine Ref.codeEq (c' := .block 0 (cd (bd Tryd.f47) [1, 0])) (by kernel_rfl) ?_
   refine Ref.block (go1 := fun u33 => ⟨[], [.cells [.own 2 u33.length], .dead, E9.row u33], [], 2⟩) ?_ (fun _ h => by cases h) (fun u33 => ?_)
   ·
    refine Ref.codeEq (c' := .loop (cd (bd Tryd.f47) [1, 0, 0])) (by kernel_rfl) ?_
    refine Ref.conv (Conv.move (st' := ⟨[sP 0 0 0 0, (6, .c (E27.tree a1)), sI 7 (Int.ofNat a1.length), sI 8 0], [.cells [.own 2 a0.fl.length], .dead, E9.row a0.fl], [], 2⟩) 1 (by kernel_rfl) (by kernel_rfl)) ?_
    refine Ref.loop (hd := fun u44 => ⟨[sP 0 0 0 0, (6, .c (E27.tree a1)), sI 7 (Int.ofNat a1.length), sI 8 u44.2], [.cells [.own 2 u44.1.length], .dead, E9.row u44.1], [], 2⟩) K (a0.fl, 0) (by kernel_rfl) (fun u44 => ?_)
    refine Ref.sq ?_
    refine Ref.rn 1 ?_
    refine RefR.e0 (st' := ⟨[sP 0 0 0 0, (6, .c (E27.tree a1)), sI 7 (Int.ofNat a1.length), sI 8 u44.2, sB 9 (decide ((u44.2 : Int) < (Int.ofNat a1.length)))], [.cells [.own 2 u44.1.length], .dead, E9.row u44.1], [], 2⟩) 0 1 1 [0, 6, 7, 8, 9] [0, 1, 2] ?_
    refine RefR.letC (stf := fun x56 => ⟨[sP 0 0 0 0, (6, .c (E27.tree a1)), sI 7 (Int.ofNat a1.length), sI 8 u44.2, sB 9 x56], [.cells [.own 2 u44.1.length], .dead, E9.row u44.1], [], 2⟩) (by kernel_rfl) (fun x56 => ?_)
    refine RefR.nl 1 ?_
    refine Ref.sq ?_
    refine Ref.cn (.tmp 9) x56 (fun hc => ?_) (fun hc => ?_)
    ·
     refine Ref.sk ?_
     refine Ref.sq ?_
     refine Ref.codeEq (c' := .block 1 (cd (bd Tryd.f47) [1, 0, 0, 1, 1, 0, 0])) (by kernel_rfl) ?_
     refine Ref.block (go1 := fun u61 => ⟨[sP 0 0 0 0, (6, .c (E27.tree a1)), sI 7 (Int.ofNat a1.length), sI 8 u44.2], [.cells [.own 2 u61.length], .dead, E9.row u61], [], 2⟩) ?_ (fun a => match a with | .inl _ => (fun h => by cases h) | .inr _ => (fun h => by cases h)) (fun u61 => ?_)
     ·
      refine Ref.sq ?_
      refine Ref.rn 2 ?_
      refine RefR.evC (vs := [inb u44.2 a1.length]) (st' := ⟨[sP 0 0 0 0, sI 4 u44.2, sP 5 3 0 0, (6, .c (E27.tree a1)), sI 7 (Int.ofNat a1.length), sI 8 u44.2], [.cells [.own 2 u44.1.length], .dead, E9.row u44.1, .cells (E27.cs (a1.getD (u44.2 : Int).toNat default))], [], 2⟩) 0 6 6 [0, 4, 5, 6, 7, 8] [0, 1, 2, 3] rfl (by kernel_rfl) ?_
      refine RefR.nl 6 ?_
      refine Ref.sq ?_
      refine Ref.sq ?_
      refine Ref.rn 3 ?_
      refine RefR.e0 (st' := ⟨[sP 0 0 0 0, sP 5 3 0 0, (6, .c (E27.tree a1)), sI 7 (Int.ofNat a1.length), sI 8 u44.2, sB 14 (decide ((u44.2 : Int) > 0))], [.cells [.own 2 u44.1.length], .dead, E9.row u44.1, .cells (E27.cs (a1.getD (u44.2 : Int).toNat default))], [], 2⟩) 0 2 2 [0, 5, 6, 7, 8, 14] [0, 1, 2, 3] ?_
      refine RefR.nl 2 ?_
      refine Ref.bind (go1 := fun u63 => ⟨[sP 0 0 0 0, sP 5 3 0 0, (6, .c (E27.tree a1)), sI 7 (Int.ofNat a1.length), sI 8 u44.2], [.cells [.own 2 u63.length], .dead, E9.row u63, .cells (E27.cs (a1.getD (u44.2 : Int).toNat default))], [], 2⟩) ?_ (fun u63 => ?_)
      ·
       refine Ref.cn (.tmp 14) (decide ((u44.2 : Int) > 0)) (fun hc => ?_) (fun hc => ?_)
       ·
        refine Ref.rn 4 ?_
        refine RefR.e0 (st' := ⟨[sP 0 0 0 0, sP 5 3 0 0, (6, .c (E27.tree a1)), sI 7 (Int.ofNat a1.length), sI 8 u44.2, sP 15 0 0 0], [.cells [.own 2 u44.1.length], .dead, E9.row u44.1, .cells (E27.cs (a1.getD (u44.2 : Int).toNat default))], [], 2⟩) 0 1 1 [0, 5, 6, 7, 8, 15] [0, 1, 2, 3] ?_
        refine RefR.e0 (st' := ⟨[sP 0 0 0 0, sP 5 3 0 0, (6, .c (E27.tree a1)), sI 7 (Int.ofNat a1.length), sI 8 u44.2, sP 15 0 0 0, (16, .c (.own 4 1))], [.cells [.own 2 u44.1.length], .dead, E9.row u44.1, .cells (E27.cs (a1.getD (u44.2 : Int).toNat default)), .row 9 1 1 (tbl [[.str ([44] : Bytes)]])], [], 2⟩) 1 1 2 [0, 5, 6, 7, 8, 15, 16] [0, 1, 2, 3, 4] ?_
        refine RefR.conv (Conv.obj 4 (E9.row [([44] : Bytes)]) (El.row_build E9 [([44] : Bytes)] rfl (by kernel_rfl)) (by kernel_rfl)) ?_
        refine RefR.conv (Conv.slot 16 (.c (.own 4 ([([44] : Bytes)].length))) (DLe.c (CLe.own (by simp <;> omega))) (by kernel_rfl)) ?_
        refine RefR.conv (Conv.freeze (st' := ⟨[(16, .c (E9.tree [([44] : Bytes)])), sP 0 0 0 0, sP 5 3 0 0, (6, .c (E27.tree a1)), sI 7 (Int.ofNat a1.length), sI 8 u44.2, sP 15 0 0 0], [.cells [.own 2 u44.1.length], .dead, E9.row u44.1, .cells (E27.cs (a1.getD (u44.2 : Int).toNat default)), .dead], [], 2⟩) 4 (by kernel_rfl)) ?_
        refine RefR.callC (t := 17) 2 3 [0, 2] rfl (by kernel_rfl) (F33_ok K (⟨u44.1⟩ : S62) [([44] : Bytes)]) (fun r64 => ?_)
        refine RefR.nl 3 ?_
        refine Ref.conv (Conv.keep (st' := ⟨[sP 0 0 0 0, sP 5 3 0 0, (6, .c (E27.tree a1)), sI 7 (Int.ofNat a1.length), sI 8 u44.2], [.cells [.own 2 r64.fl.length], .dead, E9.row r64.fl, .cells (E27.cs (a1.getD (u44.2 : Int).toNat default))], [], 2⟩) [0, 5, 6, 7, 8] [0, 1, 5, 3] (by kernel_rfl)) ?_
        exact Ref.n0 (t := (r64.fl))
       ·
        refine Ref.sk ?_
        refine Ref.conv (Conv.keep (st' := ⟨[sP 0 0 0 0, sP 5 3 0 0, (6, .c (E27.tree a1)), sI 7 (Int.ofNat a1.length), sI 8 u44.2], [.cells [.own 2 u44.1.length], .dead, E9.row u44.1, .cells (E27.cs (a1.getD (u44.2 : Int).toNat default))], [], 2⟩) [0, 5, 6, 7, 8] [0, 1, 2, 3] (by kernel_rfl)) ?_
        exact Ref.n0 (t := (u44.1))
      ·
       refine Ref.rn 5 ?_
       refine RefR.e0 (st' := ⟨[sP 0 0 0 0, (6, .c (E27.tree a1)), sI 7 (Int.ofNat a1.length), sI 8 u44.2, sP 18 0 0 0, (19, .agg (E27.cs (a1.getD (u44.2 : Int).toNat default)))], [.cells [.own 2 u63.length], .dead, E9.row u63], [], 2⟩) 0 2 2 [0, 6, 7, 8, 18, 19] [0, 1, 2] ?_
       refine RefR.callC (t := 20) 2 3 [0, 2] rfl (by kernel_rfl) (ih23 (⟨u63⟩ : S62) (a1.getD (u44.2 : Int).toNat default)) (fun r65 => ?_)
       refine RefR.nl 3 ?_
       refine Ref.conv (Conv.keep (st' := ⟨[sP 0 0 0 0, (6, .c (E27.tree a1)), sI 7 (Int.ofNat a1.length), sI 8 u44.2], [.cells [.own 2 r65.fl.length], .dead, E9.row r65.fl], [], 2⟩) [0, 6, 7, 8] [0, 1, 3] (by kernel_rfl)) ?_
       exact Ref.n0 (t := (r65.fl))
     ·
      refine Ref.rn 6 ?_
      refine RefR.e0 (st' := ⟨[sP 0 0 0 0, (6, .c (E27.tree a1)), sI 7 (Int.ofNat a1.length), sI 8 (IntKind.i64.wrap (u44.2 + 1))], [.cells [.own 2 u61.length], .dead, E9.row u61], [], 2⟩) 0 2 2 [0, 6, 7, 8] [0, 1, 2] ?_
      refine RefR.nl 2 ?_
      exact Ref.n0 (t := (u61, (IntKind.i64.wrap (u44.2 + 1))))
    ·
     refine Ref.conv (Conv.keep (st' := ⟨[], [.cells [.own 2 u44.1.length], .dead, E9.row u44.1], [], 2⟩) [] [0, 1, 2] (by kernel_rfl)) ?_
     exact Ref.xt 0 (t := (Sum.inl (u44.1)))
   ·
    exact Ref.n0 (t := ((⟨u33⟩ : S62)))

theorem F23_ok (K : Nat) (a0 : S62) (a1 : S27) : DFun Tryd.prog 23 [.c (.ptr 0 0 0), .agg (E27.cs a1)] [.cells [.own 1 a0.fl.length], E9.row a0.fl] (fnS (F23 K a0 a1)) (fun r => .tup []) (fun r => [.cells [.own 2 r.fl.length], .dead, E9.row r.fl]) := (G23_ok K).1 a0 a1

theorem F44_ok (K : Nat) (a0 : S62) (a1 : (List S27)) (a2 : Int) : DFun Tryd.prog 44 [.c (.ptr 0 0 0), .c (E27.tree a1), .c (.val (.int .i64 a2))] [.cells [.own 1 a0.fl.length], E9.row a0.fl] (fnS (F44 K a0 a1 a2)) (fun r => .tup []) (fun r => [.cells [.own 2 r.fl.length], .dead, E9.row r.fl]) := (G23_ok K).2.1 a0 a1 a2

theorem F46_ok (K : Nat) (a0 : S62) (a1 : (List S27)) (a2 : Int) : DFun Tryd.prog 46 [.c (.ptr 0 0 0), .c (E27.tree a1), .c (.val (.int .i64 a2))] [.cells [.own 1 a0.fl.length], E9.row a0.fl] (fnS (F46 K a0 a1 a2)) (fun r => .tup []) (fun r => [.cells [.own 2 r.fl.length], .dead, E9.row r.fl]) := (G23_ok K).2.2.1 a0 a1 a2

theorem F47_ok (K : Nat) (a0 : S62) (a1 : (List S27)) : DFun Tryd.prog 47 [.c (.ptr 0 0 0), .c (E27.tree a1)] [.cells [.own 1 a0.fl.length], E9.row a0.fl] (fnS (F47 K a0 a1)) (fun r => .tup []) (fun r => [.cells [.own 2 r.fl.length], .dead, E9.row r.fl]) := (G23_ok K).2.2.2 a0 a1

/-- (*governor/print.writer).flag -/
def F50 (K : Nat) (a0 : S62) (a1 : Bool) (a2 : Bytes) : Option ((S62) ⊕ (S62)) :=
 (if a1 = true then ((fnS (F33 K (⟨a0.fl⟩ : S62) [a2])).bind (fun r1 => (some (.inr ((⟨r1.fl⟩ : S62)))))) else (some (.inr ((⟨a0.fl⟩ : S62)))))

theorem F50_ok (K : Nat) (a0 : S62) (a1 : Bool) (a2 : Bytes) : DFun Tryd.prog 50 [.c (.ptr 0 0 0), .c (.val (.bool a1)), .c (.str a2)] [.cells [.own 1 a0.fl.length], E9.row a0.fl] (fnS (F50 K a0 a1 a2)) (fun r => .tup []) (fun r => [.cells [.own 2 r.fl.length], .dead, E9.row r.fl]) := by
 refine DFun.intro (fn := Tryd.f50) (c := cd (bd Tryd.f50) []) (rs := fun r => ⟨[], [.cells [.own 2 r.fl.length], .dead, E9.row r.fl], [], 2⟩) (by kernel_rfl) (by kernel_rfl) (by kernel_rfl) ?_ (fun r => by kernel_rfl) (fun r => by kernel_rfl) (fun r => by kernel_rfl) (fun r => by kernel_rfl)
 unfold F50
 refine Ref.sq ?_
 refine Ref.rn 0 ?_
 refine RefR.e0 (st' := ⟨[sP 0 0 0 0, sS 2 a2, sB 6 a1], [.cells [.own 1 a0.fl.length], E9.row a0.fl], [], 2⟩) 0 1 1 [0, 2, 6] [0, 1] ?_
 refine RefR.nl 1 ?_
 refine Ref.cn (.tmp 6) a1 (fun hc => ?_) (fun hc => ?_)
 ·
  refine Ref.rn 1 ?_
  refine RefR.e0 (st' := ⟨[sP 7 0 0 0, sS 8 a2], [.cells [.own 1 a0.fl.length], E9.row a0.fl], [], 2⟩) 0 2 2 [7, 8] [0, 1] ?_
  refine RefR.e0 (st' := ⟨[sP 7 0 0 0, (9, .c (.own 2 1))], [.cells [.own 1 a0.fl.length], E9.row a0.fl, .row 9 1 1 (tbl [[.str a2]])], [], 2⟩) 2 1 3 [7, 9] [0, 1, 2] ?_
  refine RefR.conv (Conv.obj 2 (E9.row [a2]) (El.row_build E9 [a2] rfl (by kernel_rfl)) (by kernel_rfl)) ?_
  refine RefR.conv (Conv.slot 9 (.c (.own 2 ([a2].length))) (DLe.c (CLe.own (by simp <;> omega))) (by kernel_rfl)) ?_
  refine RefR.conv (Conv.freeze (st' := ⟨[(9, .c (E9.tree [a2])), sP 7 0 0 0], [.cells [.own 1 a0.fl.length], E9.row a0.fl, .dead], [], 2⟩) 2 (by kernel_rfl)) ?_
  refine RefR.callC (t := 10) 3 4 [0, 1] rfl (by kernel_rfl) (F33_ok K (⟨a0.fl⟩ : S62) [a2]) (fun r1 => ?_)
  refine RefR.nl 4 ?_
  refine Ref.conv (Conv.keep (st' := ⟨[], [.cells [.own 2 r1.fl.length], .dead, E9.row r1.fl], [], 2⟩) [] [0, 1, 3] (by kernel_rfl)) ?_
  exact Ref.n0 (t := ((⟨r1.fl⟩ : S62)))
 ·
  refine Ref.sk ?_
  refine Ref.conv (Conv.move (st' := ⟨[sP 0 0 0 0, sS 2 a2, sB 6 a1], [.cells [.own 2 a0.fl.length], .dead, E9.row a0.fl], [], 2⟩) 1 (by kernel_rfl) (by kernel_rfl)) ?_
  refine Ref.conv (Conv.keep (st' := ⟨[], [.cells [.own 2 a0.fl.length], .dead, E9.row a0.fl], [], 2⟩) [] [0, 1, 2] (by kernel_rfl)) ?_
  exact Ref.n0 (t := ((⟨a0.fl⟩ : S62)))

/-- (*governor/print.writer).vars -/
def F34 (K : Nat) (a0 : S62) (a1 : (List S38)) : Option ((S62) ⊕ (S62)) :=
 (bindS (blockS ((iter K (fun (u148 : (List Bytes) × Int) => (letV (decide ((u148.2 : Int) < (Int.ofNat a1.length))) (fun (x186 : Bool) => (if x186 = true then (bindS (blockS (chk [inb u148.2 a1.length] ((fnS (F33 K (⟨u148.1⟩ : S62) [([86, 65, 82] : Bytes), (a1.getD (u148.2 : Int).toNat default).fName, ([58] : Bytes)])).bind (fun r205 => ((fnS (F29 K (⟨r205.fl⟩ : S62) ((a1.getD (u148.2 : Int).toNat default).fType))).bind (fun r206 => (letV ((((a1.getD (u148.2 : Int).toNat default).fInit) : Int) != 0) (fun (x207 : Bool) => (bindS (if x207 = true then ((fnS (F33 K (⟨r206.fl⟩ : S62) [([58, 61] : Bytes)])).bind (fun r211 => ((fnS (F36 K (⟨r211.fl⟩ : S62) ((a1.getD (u148.2 : Int).toNat default).fInit))).bind (fun r212 => (some (.inr (r212.fl))))))) else (some (.inr (r206.fl)))) (fun (u210 : (List Bytes)) => (letV (((((a1.getD (u148.2 : Int).toNat default).fDir) : Int) == 1) || ((((a1.getD (u148.2 : Int).toNat default).fDir) : Int) == 2)) (fun (x213 : Bool) => (bindS (if x213 = true then ((condM true (fnS (F45 K ((a1.getD (u148.2 : Int).toNat default).fDir) [([73, 78] : Bytes), ([79, 85, 84] : Bytes)])) default).bind (fun r218 => ((fnS (F33 K (⟨u210⟩ : S62) [([65, 84] : Bytes), r218])).bind (fun r219 => ((fnS (F36 K (⟨r219.fl⟩ : S62) ((a1.getD (u148.2 : Int).toNat default).fSlot))).bind (fun r220 => (some (.inr (r220.fl))))))))) else (some (.inr (u210)))) (fun (u217 : (List Bytes)) => ((fnS (F33 K (⟨u217⟩ : S62) [([59] : Bytes)])).bind (fun r221 => (some (.inr (r221.fl))))))))))))))))))) (fun (u204 : (List Bytes)) => (some (.inr (u204, (IntKind.i64.wrap (u148.2 + 1))))))) else (some (.inl (Sum.inl (u148.1)))))))) (a0.fl, 0)).map .inl)) (fun (u111 : (List Bytes)) => (some (.inr ((⟨u111⟩ : S62))))))

theorem F34_ok (K : Nat) (a0 : S62) (a1 : (List S38)) : DFun Tryd.prog 34 [.c (.ptr 0 0 0), .c (E38.tree a1)] [.cells [.own 1 a0.fl.length], E9.row a0.fl] (fnS (F34 K a0 a1)) (fun r => .tup []) (fun r => [.cells [.own 2 r.fl.length], .dead, E9.row r.fl]) := by
 refine DFun.intro (fn := Tryd.f34) (c := cd (bd Tryd.f34) []) (rs := fun r => ⟨[], [.cells [.own 2 r.fl.length], .dead, E9.row r.fl], [], 2⟩) (by kernel_rfl) (by kernel_rfl) (by kernel_rfl) ?_ (fun r => by kernel_rfl) (fun r => by kernel_rfl) (fun r => by kernel_rfl) (fun r => by kernel_rfl)
 unfold F34
 refine Ref.sq ?_
 refine Ref.rn 0 ?_
 refine RefR.e0 (st' := ⟨[sP 0 0 0 0, (6, .c (E38.tree a1)), sI 7 (Int.ofNat a1.length), sI 8 0], [.cells [.own 1 a0.fl.length], E9.row a0.fl], [], 2⟩) 0 3 3 [0, 6, 7, 8] [0, 1] ?_
 refine RefR.nl 3 ?_
 refine Ref.codeEq (c' := .block 0 (cd (bd Tryd.f34) [1, 0])) (by kernel_rfl) ?_
 refine Ref.block (go1 := fun u111 => ⟨[], [.cells [.own 2 u111.length], .dead, E9.row u111], [], 2⟩) ?_ (fun _ h => by cases h) (fun u111 => ?_)
 ·
  refine Ref.codeEq (c' := .loop (cd (bd Tryd.f34) [1, 0, 0])) (by kernel_rfl) ?_
  refine Ref.conv (Conv.move (st' := ⟨[sP 0 0 0 0, (6, .c (E38.tree a1)), sI 7 (Int.ofNat a1.length), sI 8 0], [.cells [.own 2 a0.fl.length], .dead, E9.row a0.fl], [], 2⟩) 1 (by kernel_rfl) (by kernel_rfl)) ?_
  refine Ref.loop (hd := fun u148 => ⟨[sP 0 0 0 0, (6, .c (E38.tree a1)), sI 7 (Int.ofNat a1.length), sI 8 u148.2], [.cells [.own 2 u148.1.length], .dead, E9.row u148.1], [], 2⟩) K (a0.fl, 0) (by kernel_rfl) (fun u148 => ?_)
  refine Ref.sq ?_
  refine Ref.rn 1 ?_
  refine RefR.e0 (st' := ⟨[sP 0 0 0 0, (6, .c (E38.tree a1)), sI 7 (Int.ofNat a1.length), sI 8 u148.2, sB 9 (decide ((u148.2 : Int) < (Int.ofNat a1.length)))], [.cells [.own 2 u148.1.length], .dead, E9.row u148.1], [], 2⟩) 0 1 1 [0, 6, 7, 8, 9] [0, 1, 2] ?_
  refine RefR.letC (stf := fun x186 => ⟨[sP 0 0 0 0, (6, .c (E38.tree a1)), sI 7 (Int.ofNat a1.length), sI 8 u148.2, sB 9 x186], [.cells [.own 2 u148.1.length], .dead, E9.row u148.1], [], 2⟩) (by kernel_rfl) (fun x186 => ?_)
  refine RefR.nl 1 ?_
  refine Ref.sq ?_
  refine Ref.cn (.tmp 9) x186 (fun hc => ?_) (fun hc => ?_)
  ·
   refine Ref.sk ?_
   refine Ref.sq ?_
   refine Ref.codeEq (c' := .block 1 (cd (bd Tryd.f34) [1, 0, 0, 1, 1, 0, 0])) (by kernel_rfl) ?_
   refine Ref.block (go1 := fun u204 => ⟨[sP 0 0 0 0, (6, .c (E38.tree a1)), sI 7 (Int.ofNat a1.length), sI 8 u148.2], [.cells [.own 2 u204.length], .dead, E9.row u204], [], 2⟩) ?_ (fun a => match a with | .inl _ => (fun h => by cases h) | .inr _ => (fun h => by cases h)) (fun u204 => ?_)
   ·
    refine Ref.sq ?_
    refine Ref.rn 2 ?_
    refine RefR.evC (vs := [inb u148.2 a1.length]) (st' := ⟨[sP 0 0 0 0, sP 5 3 0 0, (6, .c (E38.tree a1)), sI 7 (Int.ofNat a1.length), sI 8 u148.2], [.cells [.own 2 u148.1.length], .dead, E9.row u148.1, .cells (E38.cs (a1.getD (u148.2 : Int).toNat default))], [], 2⟩) 0 4 4 [0, 5, 6, 7, 8] [0, 1, 2, 3] rfl (by kernel_rfl) ?_
    refine RefR.nl 4 ?_
    refine Ref.sq ?_
    refine Ref.rn 3 ?_
    refine RefR.e0 (st' := ⟨[sP 0 0 0 0, sP 5 3 0 0, (6, .c (E38.tree a1)), sI 7 (Int.ofNat a1.length), sI 8 u148.2, sP 12 0 0 0, sS 14 ((a1.getD (u148.2 : Int).toNat default).fName)], [.cells [.own 2 u148.1.length], .dead, E9.row u148.1, .cells (E38.cs (a1.getD (u148.2 : Int).toNat default))], [], 2⟩) 0 3 3 [0, 5, 6, 7, 8, 12, 14] [0, 1, 2, 3] ?_
    refine RefR.e0 (st' := ⟨[sP 0 0 0 0, sP 5 3 0 0, (6, .c (E38.tree a1)), sI 7 (Int.ofNat a1.length), sI 8 u148.2, sP 12 0 0 0, (15, .c (.own 4 3))], [.cells [.own 2 u148.1.length], .dead, E9.row u148.1, .cells (E38.cs (a1.getD (u148.2 : Int).toNat default)), .row 9 1 3 (tbl [[.str ([86, 65, 82] : Bytes)], [.str ((a1.getD (u148.2 : Int).toNat default).fName)], [.str ([58] : Bytes)]])], [], 2⟩) 3 1 4 [0, 5, 6, 7, 8, 12, 15] [0, 1, 2, 3, 4] ?_
    refine RefR.conv (Conv.obj 4 (E9.row [([86, 65, 82] : Bytes), (a1.getD (u148.2 : Int).toNat default).fName, ([58] : Bytes)]) (El.row_build E9 [([86, 65, 82] : Bytes), (a1.getD (u148.2 : Int).toNat default).fName, ([58] : Bytes)] rfl (by kernel_rfl)) (by kernel_rfl)) ?_
    refine RefR.conv (Conv.slot 15 (.c (.own 4 ([([86, 65, 82] : Bytes), (a1.getD (u148.2 : Int).toNat default).fName, ([58] : Bytes)].length))) (DLe.c (CLe.own (by simp <;> omega))) (by kernel_rfl)) ?_
    refine RefR.conv (Conv.freeze (st' := ⟨[(15, .c (E9.tree [([86, 65, 82] : Bytes), (a1.getD (u148.2 : Int).toNat default).fName, ([58] : Bytes)])), sP 0 0 0 0, sP 5 3 0 0, (6, .c (E38.tree a1)), sI 7 (Int.ofNat a1.length), sI 8 u148.2, sP 12 0 0 0], [.cells [.own 2 u148.1.length], .dead, E9.row u148.1, .cells (E38.cs (a1.getD (u148.2 : Int).toNat default)), .dead], [], 2⟩) 4 (by kernel_rfl)) ?_
    refine RefR.callC (t := 16) 4 5 [0, 2] rfl (by kernel_rfl) (F33_ok K (⟨u148.1⟩ : S62) [([86, 65, 82] : Bytes), (a1.getD (u148.2 : Int).toNat default).fName, ([58] : Bytes)]) (fun r205 => ?_)
    refine RefR.nl 5 ?_
    refine Ref.sq ?_
    refine Ref.rn 4 ?_
    refine RefR.e0 (st' := ⟨[sP 0 0 0 0, sP 5 2 0 0, (6, .c (E38.tree a1)), sI 7 (Int.ofNat a1.length), sI 8 u148.2, sP 17 0 0 0, (19, .agg (E29.cs ((a1.getD (u148.2 : Int).toNat default).fType)))], [.cells [.own 3 r205.fl.length], .dead, .cells (E38.cs (a1.getD (u148.2 : Int).toNat default)), E9.row r205.fl], [], 2⟩) 0 3 3 [0, 5, 6, 7, 8, 17, 19] [0, 1, 3, 5] ?_
    refine RefR.callC (t := 20) 3 4 [0, 3] rfl (by kernel_rfl) (F29_ok K (⟨r205.fl⟩ : S62) ((a1.getD (u148.2 : Int).toNat default).fType)) (fun r206 => ?_)
    refine RefR.nl 4 ?_
    refine Ref.sq ?_
    refine Ref.sq ?_
    refine Ref.rn 5 ?_
    refine RefR.e0 (st' := ⟨[sP 0 0 0 0, sP 5 2 0 0, (6, .c (E38.tree a1)), sI 7 (Int.ofNat a1.length), sI 8 u148.2, sB 23 ((((a1.getD (u148.2 : Int).toNat default).fInit) : Int) != 0)], [.cells [.own 3 r206.fl.length], .dead, .cells (E38.cs (a1.getD (u148.2 : Int).toNat default)), E9.row r206.fl], [], 2⟩) 0 3 3 [0, 5, 6, 7, 8, 23] [0, 1, 2, 4] ?_
    refine RefR.letC (stf := fun x207 => ⟨[sP 0 0 0 0, sP 5 2 0 0, (6, .c (E38.tree a1)), sI 7 (Int.ofNat a1.length), sI 8 u148.2, sB 23 x207], [.cells [.own 3 r206.fl.length], .dead, .cells (E38.cs (a1.getD (u148.2 : Int).toNat default)), E9.row r206.fl], [], 2⟩) (by kernel_rfl) (fun x207 => ?_)
    refine RefR.nl 3 ?_
    refine Ref.bind (go1 := fun u210 => ⟨[sP 0 0 0 0, sP 5 3 0 0, (6, .c (E38.tree a1)), sI 7 (Int.ofNat a1.length), sI 8 u148.2], [.cells [.own 2 u210.length], .dead, E9.row u210, .cells (E38.cs (a1.getD (u148.2 : Int).toNat default))], [], 2⟩) ?_ (fun u210 => ?_)
    ·
     refine Ref.cn (.tmp 23) x207 (fun hc => ?_) (fun hc => ?_)
     ·
      refine Ref.sq ?_
      refine Ref.rn 6 ?_
      refine RefR.e0 (st' := ⟨[sP 0 0 0 0, sP 5 2 0 0, (6, .c (E38.tree a1)), sI 7 (Int.ofNat a1.length), sI 8 u148.2, sP 24 0 0 0], [.cells [.own 3 r206.fl.length], .dead, .cells (E38.cs (a1.getD (u148.2 : Int).toNat default)), E9.row r206.fl], [], 2⟩) 0 1 1 [0, 5, 6, 7, 8, 24] [0, 1, 2, 3] ?_
      refine RefR.e0 (st' := ⟨[sP 0 0 0 0, sP 5 2 0 0, (6, .c (E38.tree a1)), sI 7 (Int.ofNat a1.length), sI 8 u148.2, sP 24 0 0 0, (25, .c (.own 4 1))], [.cells [.own 3 r206.fl.length], .dead, .cells (E38.cs (a1.getD (u148.2 : Int).toNat default)), E9.row r206.fl, .row 9 1 1 (tbl [[.str ([58, 61] : Bytes)]])], [], 2⟩) 1 1 2 [0, 5, 6, 7, 8, 24, 25] [0, 1, 2, 3, 4] ?_
      refine RefR.conv (Conv.obj 4 (E9.row [([58, 61] : Bytes)]) (El.row_build E9 [([58, 61] : Bytes)] rfl (by kernel_rfl)) (by kernel_rfl)) ?_
      refine RefR.conv (Conv.slot 25 (.c (.own 4 ([([58, 61] : Bytes)].length))) (DLe.c (CLe.own (by simp <;> omega))) (by kernel_rfl)) ?_
      refine RefR.conv (Conv.freeze (st' := ⟨[(25, .c (E9.tree [([58, 61] : Bytes)])), sP 0 0 0 0, sP 5 2 0 0, (6, .c (E38.tree a1)), sI 7 (Int.ofNat a1.length), sI 8 u148.2, sP 24 0 0 0], [.cells [.own 3 r206.fl.length], .dead, .cells (E38.cs (a1.getD (u148.2 : Int).toNat default)), E9.row r206.fl, .dead], [], 2⟩) 4 (by kernel_rfl)) ?_
      refine RefR.callC (t := 26) 2 3 [0, 3] rfl (by kernel_rfl) (F33_ok K (⟨r206.fl⟩ : S62) [([58, 61] : Bytes)]) (fun r211 => ?_)
      refine RefR.nl 3 ?_
      refine Ref.rn 7 ?_
      refine RefR.e0 (st' := ⟨[sP 0 0 0 0, sP 5 2 0 0, (6, .c (E38.tree a1)), sI 7 (Int.ofNat a1.length), sI 8 u148.2, sP 27 0 0 0, sI 29 ((a1.getD (u148.2 : Int).toNat default).fInit)], [.cells [.own 3 r211.fl.length], .dead, .cells (E38.cs (a1.getD (u148.2 : Int).toNat default)), E9.row r211.fl], [], 2⟩) 0 3 3 [0, 5, 6, 7, 8, 27, 29] [0, 1, 2, 5] ?_
      refine RefR.callC (t := 30) 3 4 [0, 3] rfl (by kernel_rfl) (F36_ok K (⟨r211.fl⟩ : S62) ((a1.getD (u148.2 : Int).toNat default).fInit)) (fun r212 => ?_)
      refine RefR.nl 4 ?_
      refine Ref.conv (Conv.keep (st' := ⟨[sP 0 0 0 0, sP 5 3 0 0, (6, .c (E38.tree a1)), sI 7 (Int.ofNat a1.length), sI 8 u148.2], [.cells [.own 2 r212.fl.length], .dead, E9.row r212.fl, .cells (E38.cs (a1.getD (u148.2 : Int).toNat default))], [], 2⟩) [0, 5, 6, 7, 8] [0, 1, 4, 2] (by kernel_rfl)) ?_
      exact Ref.n0 (t := (r212.fl))
     ·
      refine Ref.sk ?_
      refine Ref.conv (Conv.keep (st' := ⟨[sP 0 0 0 0, sP 5 3 0 0, (6, .c (E38.tree a1)), sI 7 (Int.ofNat a1.length), sI 8 u148.2], [.cells [.own 2 r206.fl.length], .dead, E9.row r206.fl, .cells (E38.cs (a1.getD (u148.2 : Int).toNat default))], [], 2⟩) [0, 5, 6, 7, 8] [0, 1, 3, 2] (by kernel_rfl)) ?_
      exact Ref.n0 (t := (r206.fl))
    ·
     refine Ref.sq ?_
     refine Ref.sq ?_
     refine Ref.rn 8 ?_
     refine RefR.e0 (st' := ⟨[sP 0 0 0 0, sP 5 3 0 0, (6, .c (E38.tree a1)), sI 7 (Int.ofNat a1.length), sI 8 u148.2, sB 38 (((((a1.getD (u148.2 : Int).toNat default).fDir) : Int) == 1) || ((((a1.getD (u148.2 : Int).toNat default).fDir) : Int) == 2))], [.cells [.own 2 u210.length], .dead, E9.row u210, .cells (E38.cs (a1.getD (u148.2 : Int).toNat default))], [], 2⟩) 0 8 8 [0, 5, 6, 7, 8, 38] [0, 1, 2, 3] ?_
     refine RefR.letC (stf := fun x213 => ⟨[sP 0 0 0 0, sP 5 3 0 0, (6, .c (E38.tree a1)), sI 7 (Int.ofNat a1.length), sI 8 u148.2, sB 38 x213], [.cells [.own 2 u210.length], .dead, E9.row u210, .cells (E38.cs (a1.getD (u148.2 : Int).toNat default))], [], 2⟩) (by kernel_rfl) (fun x213 => ?_)
     refine RefR.nl 8 ?_
     refine Ref.bind (go1 := fun u217 => ⟨[sP 0 0 0 0, (6, .c (E38.tree a1)), sI 7 (Int.ofNat a1.length), sI 8 u148.2], [.cells [.own 2 u217.length], .dead, E9.row u217], [], 2⟩) ?_ (fun u217 => ?_)
     ·
      refine Ref.cn (.tmp 38) x213 (fun hc => ?_) (fun hc => ?_)
      ·
       refine Ref.sq ?_
       refine Ref.rn 9 ?_
       refine RefR.e0 (st' := ⟨[sP 0 0 0 0, sP 5 3 0 0, (6, .c (E38.tree a1)), sI 7 (Int.ofNat a1.length), sI 8 u148.2, sP 39 0 0 0, sI 41 ((a1.getD (u148.2 : Int).toNat default).fDir)], [.cells [.own 2 u210.length], .dead, E9.row u210, .cells (E38.cs (a1.getD (u148.2 : Int).toNat default))], [], 2⟩) 0 3 3 [0, 5, 6, 7, 8, 39, 41] [0, 1, 2, 3] ?_
       refine RefR.e0 (st' := ⟨[sP 0 0 0 0, sP 5 3 0 0, (6, .c (E38.tree a1)), sI 7 (Int.ofNat a1.length), sI 8 u148.2, sP 39 0 0 0, sI 41 ((a1.getD (u148.2 : Int).toNat default).fDir), (42, .c (.own 4 2))], [.cells [.own 2 u210.length], .dead, E9.row u210, .cells (E38.cs (a1.getD (u148.2 : Int).toNat default)), .row 9 1 2 (tbl [[.str ([73, 78] : Bytes)], [.str ([79, 85, 84] : Bytes)]])], [], 2⟩) 3 1 4 [0, 5, 6, 7, 8, 39, 41, 42] [0, 1, 2, 3, 4] ?_
       refine RefR.conv (Conv.obj 4 (E9.row [([73, 78] : Bytes), ([79, 85, 84] : Bytes)]) (El.row_build E9 [([73, 78] : Bytes), ([79, 85, 84] : Bytes)] rfl (by kernel_rfl)) (by kernel_rfl)) ?_
       refine RefR.conv (Conv.slot 42 (.c (.own 4 ([([73, 78] : Bytes), ([79, 85, 84] : Bytes)].length))) (DLe.c (CLe.own (by simp <;> omega))) (by kernel_rfl)) ?_
       refine RefR.lookC (t := 43) (g := []) (b := true) 4 5 [4] (default : Bytes) rfl (by kernel_rfl) (F45_ok K ((a1.getD (u148.2 : Int).toNat default).fDir) [([73, 78] : Bytes), ([79, 85, 84] : Bytes)]) (fun _ => rfl) (fun r218 => ?_)
       refine RefR.e0 (st' := ⟨[sP 0 0 0 0, sP 5 3 0 0, (6, .c (E38.tree a1)), sI 7 (Int.ofNat a1.length), sI 8 u148.2, sP 39 0 0 0, (44, .c (.own 4 2))], [.cells [.own 2 u210.length], .dead, E9.row u210, .cells (E38.cs (a1.getD (u148.2 : Int).toNat default)), .row 9 1 2 (tbl [[.str ([65, 84] : Bytes)], [.str r218]])], [], 2⟩) 5 1 6 [0, 5, 6, 7, 8, 39, 44] [0, 1, 2, 3, 5] ?_
       refine RefR.conv (Conv.obj 4 (E9.row [([65, 84] : Bytes), r218]) (El.row_build E9 [([65, 84] : Bytes), r218] rfl (by kernel_rfl)) (by kernel_rfl)) ?_
       refine RefR.conv (Conv.slot 44 (.c (.own 4 ([([65, 84] : Bytes), r218].length))) (DLe.c (CLe.own (by simp <;> omega))) (by kernel_rfl)) ?_
       refine RefR.conv (Conv.freeze (st' := ⟨[(44, .c (E9.tree [([65, 84] : Bytes), r218])), sP 0 0 0 0, sP 5 3 0 0, (6, .c (E38.tree a1)), sI 7 (Int.ofNat a1.length), sI 8 u148.2, sP 39 0 0 0], [.cells [.own 2 u210.length], .dead, E9.row u210, .cells (E38.cs (a1.getD (u148.2 : Int).toNat default)), .dead], [], 2⟩) 4 (by kernel_rfl)) ?_
       refine RefR.callC (t := 45) 6 7 [0, 2] rfl (by kernel_rfl) (F33_ok K (⟨u210⟩ : S62) [([65, 84] : Bytes), r218]) (fun r219 => ?_)
       refine RefR.nl 7 ?_
       refine Ref.rn 10 ?_
       refine RefR.e0 (st' := ⟨[sP 0 0 0 0, (6, .c (E38.tree a1)), sI 7 (Int.ofNat a1.length), sI 8 u148.2, sP 46 0 0 0, sI 48 ((a1.getD (u148.2 : Int).toNat default).fSlot)], [.cells [.own 2 r219.fl.length], .dead, E9.row r219.fl], [], 2⟩) 0 3 3 [0, 6, 7, 8, 46, 48] [0, 1, 5] ?_
       refine RefR.callC (t := 49) 3 4 [0, 2] rfl (by kernel_rfl) (F36_ok K (⟨r219.fl⟩ : S62) ((a1.getD (u148.2 : Int).toNat default).fSlot)) (fun r220 => ?_)
       refine RefR.nl 4 ?_
       refine Ref.conv (Conv.keep (st' := ⟨[sP 0 0 0 0, (6, .c (E38.tree a1)), sI 7 (Int.ofNat a1.length), sI 8 u148.2], [.cells [.own 2 r220.fl.length], .dead, E9.row r220.fl], [], 2⟩) [0, 6, 7, 8] [0, 1, 3] (by kernel_rfl)) ?_
       exact Ref.n0 (t := (r220.fl))
      ·
       refine Ref.sk ?_
       refine Ref.conv (Conv.keep (st' := ⟨[sP 0 0 0 0, (6, .c (E38.tree a1)), sI 7 (Int.ofNat a1.length), sI 8 u148.2], [.cells [.own 2 u210.length], .dead, E9.row u210], [], 2⟩) [0, 6, 7, 8] [0, 1, 2] (by kernel_rfl)) ?_
       exact Ref.n0 (t := (u210))
     ·
      refine Ref.rn 11 ?_
      refine RefR.e0 (st' := ⟨[sP 0 0 0 0, (6, .c (E38.tree a1)), sI 7 (Int.ofNat a1.length), sI 8 u148.2, sP 50 0 0 0], [.cells [.own 2 u217.length], .dead, E9.row u217], [], 2⟩) 0 1 1 [0, 6, 7, 8, 50] [0, 1, 2] ?_
      refine RefR.e0 (st' := ⟨[sP 0 0 0 0, (6, .c (E38.tree a1)), sI 7 (Int.ofNat a1.length), sI 8 u148.2, sP 50 0 0 0, (51, .c (.own 3 1))], [.cells [.own 2 u217.length], .dead, E9.row u217, .row 9 1 1 (tbl [[.str ([59] : Bytes)]])], [], 2⟩) 1 1 2 [0, 6, 7, 8, 50, 51] [0, 1, 2, 3] ?_
      refine RefR.conv (Conv.obj 3 (E9.row [([59] : Bytes)]) (El.row_build E9 [([59] : Bytes)] rfl (by kernel_rfl)) (by kernel_rfl)) ?_
      refine RefR.conv (Conv.slot 51 (.c (.own 3 ([([59] : Bytes)].length))) (DLe.c (CLe.own (by simp <;> omega))) (by kernel_rfl)) ?_
      refine RefR.conv (Conv.freeze (st' := ⟨[(51, .c (E9.tree [([59] : Bytes)])), sP 0 0 0 0, (6, .c (E38.tree a1)), sI 7 (Int.ofNat a1.length), sI 8 u148.2, sP 50 0 0 0], [.cells [.own 2 u217.length], .dead, E9.row u217, .dead], [], 2⟩) 3 (by kernel_rfl)) ?_
      refine RefR.callC (t := 52) 2 3 [0, 2] rfl (by kernel_rfl) (F33_ok K (⟨u217⟩ : S62) [([59] : Bytes)]) (fun r221 => ?_)
      refine RefR.nl 3 ?_
      refine Ref.conv (Conv.keep (st' := ⟨[sP 0 0 0 0, (6, .c (E38.tree a1)), sI 7 (Int.ofNat a1.length), sI 8 u148.2], [.cells [.own 2 r221.fl.length], .dead, E9.row r221.fl], [], 2⟩) [0, 6, 7, 8] [0, 1, 4] (by kernel_rfl)) ?_
      exact Ref.n0 (t := (r221.fl))
   ·
    refine Ref.rn 12 ?_
    refine RefR.e0 (st' := ⟨[sP 0 0 0 0, (6, .c (E38.tree a1)), sI 7 (Int.ofNat a1.length), sI 8 (IntKind.i64.wrap (u148.2 + 1))], [.cells [.own 2 u204.length], .dead, E9.row u204], [], 2⟩) 0 2 2 [0, 6, 7, 8] [0, 1, 2] ?_
    refine RefR.nl 2 ?_
    exact Ref.n0 (t := (u204, (IntKind.i64.wrap (u148.2 + 1))))
  ·
   refine Ref.conv (Conv.keep (st' := ⟨[], [.cells [.own 2 u148.1.length], .dead, E9.row u148.1], [], 2⟩) [] [0, 1, 2] (by kernel_rfl)) ?_
   exact Ref.xt 0 (t := (Sum.inl (u148.1)))
 ·
  exact Ref.n0 (t := ((⟨u111⟩ : S62)))

end Go.Proofs.YtaoklnkjcobokaaDoor
