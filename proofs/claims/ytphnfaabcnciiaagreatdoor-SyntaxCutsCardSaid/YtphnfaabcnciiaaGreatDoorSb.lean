/- Plain functions, and that the Go functions do what these do: printed by gen2.py. No conditions. -/
import Derived.Test.YtphnfaabcnciiaaGreatDoorSa
import Derived.Test.YtphnfaabcnciiaaGreatDoorProg
set_option linter.unusedVariables false
set_option linter.unusedSimpArgs false
set_option linter.unusedSectionVars false
namespace Go.Proofs.YtphnfaabcnciiaaGreatDoor
open Go Go.Proofs Go.Dl
set_option maxRecDepth 100000
set_option maxHeartbeats 4000000
def F35 : (K : Nat) → ((List S122)) → ((List S122)) → Option ((Bool) ⊕ (Bool))
 | 0, _, _ => none
 | K + 1, a0, a1 =>
 (letV (((Int.ofNat a0.length) : Int) != (Int.ofNat a1.length)) (fun (x1 : Bool) => (if x1 = true then (some (.inl (false))) else (bindS (blockS ((iter K (fun (u925 : Int) => (letV (decide ((u925 : Int) < (Int.ofNat a0.length))) (fun (x1157 : Bool) => (if x1157 = true then (bindS (blockS (chk [inb u925 a0.length] (chk [inb u925 a1.length] (letV ((((((a0.getD (u925 : Int).toNat default).fKind) : Int) != ((a1.getD (u925 : Int).toNat default).fKind)) || ((((a0.getD (u925 : Int).toNat default).fN) : Int) != ((a1.getD (u925 : Int).toNat default).fN))) || (!(((a0.getD (u925 : Int).toNat default).fName) == ((a1.getD (u925 : Int).toNat default).fName)))) (fun (x1274 : Bool) => ((condM (!x1274) (fnS (F26 K ((a0.getD (u925 : Int).toNat default).fExprs) ((a1.getD (u925 : Int).toNat default).fExprs))) default).bind (fun r1275 => (letV (((x1274 || (!r1275)) || (((Int.ofNat ((a0.getD (u925 : Int).toNat default).fLabels).length) : Int) != (Int.ofNat ((a1.getD (u925 : Int).toNat default).fLabels).length))) || (((Int.ofNat ((a0.getD (u925 : Int).toNat default).fBlocks).length) : Int) != (Int.ofNat ((a1.getD (u925 : Int).toNat default).fBlocks).length))) (fun (x1276 : Bool) => (if x1276 = true then (some (.inl (Sum.inr (Sum.inr (false))))) else (bindS (blockS ((iter K (fun (u1314 : Int) => (letV (decide ((u1314 : Int) < (Int.ofNat ((a0.getD (u925 : Int).toNat default).fLabels).length))) (fun (x1324 : Bool) => (if x1324 = true then (bindS (blockS (chk [inb u1314 ((a0.getD (u925 : Int).toNat default).fLabels).length, inb u1314 ((a1.getD (u925 : Int).toNat default).fLabels).length] (letV (((a0.getD (u925 : Int).toNat default).fLabels).getD (u1314 : Int).toNat default) (fun (x1329 : (List Int)) => (letV (((a1.getD (u925 : Int).toNat default).fLabels).getD (u1314 : Int).toNat default) (fun (x1330 : (List Int)) => ((condM true (fnS (F17 K x1329 x1330)) default).bind (fun r1331 => (if (!r1331) = true then (some (.inl (Sum.inr (Sum.inr (Sum.inr (Sum.inr (false))))))) else (some (.inr ()))))))))))) (fun (u1328 : Unit) => (some (.inr ((IntKind.i64.wrap (u1314 + 1))))))) else (some (.inl (Sum.inl ()))))))) (0)).map .inl)) (fun (u1304 : Unit) => (bindS (blockS ((iter K (fun (u1369 : Int) => (letV (decide ((u1369 : Int) < (Int.ofNat ((a0.getD (u925 : Int).toNat default).fBlocks).length))) (fun (x1379 : Bool) => (if x1379 = true then (bindS (blockS (chk [inb u1369 ((a0.getD (u925 : Int).toNat default).fBlocks).length, inb u1369 ((a1.getD (u925 : Int).toNat default).fBlocks).length] (letV (((a0.getD (u925 : Int).toNat default).fBlocks).getD (u1369 : Int).toNat default) (fun (x1384 : (List S122)) => (letV (((a1.getD (u925 : Int).toNat default).fBlocks).getD (u1369 : Int).toNat default) (fun (x1385 : (List S122)) => ((condM true (fnS (F35 K x1384 x1385)) default).bind (fun r1386 => (if (!r1386) = true then (some (.inl (Sum.inr (Sum.inr (Sum.inr (Sum.inr (false))))))) else (some (.inr ()))))))))))) (fun (u1383 : Unit) => (some (.inr ((IntKind.i64.wrap (u1369 + 1))))))) else (some (.inl (Sum.inl ()))))))) (0)).map .inl)) (fun (u1359 : Unit) => (some (.inr ())))))))))))))))) (fun (u1272 : Unit) => (some (.inr ((IntKind.i64.wrap (u925 + 1))))))) else (some (.inl (Sum.inl ()))))))) (0)).map .inl)) (fun (u694 : Unit) => (some (.inl (true))))))))
theorem G35_ok : ∀ K : Nat, (∀ (a0 : (List S122)), ∀ (a1 : (List S122)), DFun Tryz.prog 35 [.c (E122.tree a0), .c (E122.tree a1)] [] (fnS (F35 K a0 a1)) (fun r => .c (.val (.bool r))) (fun r => [])) := by
 intro K
 induction K with
 | zero => exact fun a0 a1 => DFun.none (by rw [F35]; rfl)
 | succ K ih =>
  have ih35 := ih
  refine ?_
  ·
   intro a0 a1
   refine DFun.it Tryz.f35 (fun r => ⟨[sB 4 r], [], [], 0⟩) ?_
   rw [F35]
   refine Ref.sq ?_
   refine Ref.rn 0 ?_
   refine RefR.e0 (st' := ⟨[(0, .c (E122.tree a0)), (1, .c (E122.tree a1))], [], [], 0⟩) 0 1 1 [0, 1] [] ?_
   refine RefR.nl 1 ?_
   refine Ref.sq ?_
   refine Ref.sq ?_
   refine Ref.rn 1 ?_
   refine RefR.e0 (st' := ⟨[(0, .c (E122.tree a0)), (1, .c (E122.tree a1)), sB 14 (((Int.ofNat a0.length) : Int) != (Int.ofNat a1.length))], [], [], 0⟩) 0 5 5 [0, 1, 14] [] ?_
   refine RefR.letC (stf := fun x1 => ⟨[(0, .c (E122.tree a0)), (1, .c (E122.tree a1)), sB 14 x1], [], [], 0⟩) (by kernel_rfl) (fun x1 => ?_)
   refine RefR.nl 5 ?_
   refine Ref.cn (.tmp 14) x1 (fun hc => ?_) (fun hc => ?_)
   ·
    refine Ref.sq ?_
    refine Ref.rn 2 ?_
    refine RefR.e0 (st' := ⟨[sB 4 false], [], [], 0⟩) 0 1 1 [4] [] ?_
    refine RefR.nl 1 ?_
    exact Ref.rt (t := (false))
   ·
    refine Ref.sk ?_
    refine Ref.sq ?_
    refine Ref.sq ?_
    refine Ref.rn 3 ?_
    refine RefR.e0 (st' := ⟨[(0, .c (E122.tree a0)), (1, .c (E122.tree a1)), sI 5 0], [], [], 0⟩) 0 1 1 [0, 1, 5] [] ?_
    refine RefR.nl 1 ?_
    refine Ref.ce (.block 0 (cd (bd Tryz.f35) [1, 1, 0, 1, 0])) ?_
    refine Ref.block (go1 := fun u694 => ⟨[], [], [], 0⟩) ?_ (fun _ h => by cases h) (fun u694 => ?_)
    ·
     refine Ref.ce (.loop (cd (bd Tryz.f35) [1, 1, 0, 1, 0, 0])) ?_
     refine Ref.loop (hd := fun u925 => ⟨[(0, .c (E122.tree a0)), (1, .c (E122.tree a1)), sI 5 u925], [], [], 0⟩) K (0) (by kernel_rfl) (fun u925 => ?_)
     refine Ref.sq ?_
     refine Ref.sq ?_
     refine Ref.rn 4 ?_
     refine RefR.e0 (st' := ⟨[(0, .c (E122.tree a0)), (1, .c (E122.tree a1)), sI 5 u925, sB 18 (decide ((u925 : Int) < (Int.ofNat a0.length)))], [], [], 0⟩) 0 4 4 [0, 1, 5, 18] [] ?_
     refine RefR.letC (stf := fun x1157 => ⟨[(0, .c (E122.tree a0)), (1, .c (E122.tree a1)), sI 5 u925, sB 18 x1157], [], [], 0⟩) (by kernel_rfl) (fun x1157 => ?_)
     refine RefR.nl 4 ?_
     refine Ref.cn (.tmp 18) x1157 (fun hc => ?_) (fun hc => ?_)
     ·
      refine Ref.sk ?_
      refine Ref.sq ?_
      refine Ref.ce (.block 1 (cd (bd Tryz.f35) [1, 1, 0, 1, 0, 0, 1, 0, 0])) ?_
      refine Ref.block (go1 := fun u1272 => ⟨[(0, .c (E122.tree a0)), (1, .c (E122.tree a1)), sI 5 u925], [], [], 0⟩) ?_ (fun a => match a with | .inl _ => (fun h => by cases h) | .inr _ => (fun h => by cases h)) (fun u1272 => ?_)
      ·
       refine Ref.sq ?_
       refine Ref.drawnY 6 (by kernel_rfl) (by kernel_rfl) ?_
       refine RefY.evC0 (st' := ⟨[(0, .c (E122.tree a0)), (1, .c (E122.tree a1)), sI 5 u925, (21, .c (E122.tree a0)), sI 22 u925, (25, .c (E122.tree a1)), sI 26 u925], [], [], 0⟩) (fuel' := 8) [0, 1, 4, 5] [0, 1, 5, 21, 22, 25, 26] [] rfl (by kernel_rfl) (by kernel_rfl) ?_
       refine RefY.toX [10, 11] ?_
       refine RefX.withK0 (⟨[(0, .c (E122.tree a0)), (1, .c (E122.tree a1)), sI 5 u925, sP 6 0 0 0, sP 7 1 0 0], [E122.o (a0.getD (u925 : Int).toNat default), E122.o (a1.getD (u925 : Int).toNat default)], [], 0⟩) ((letV ((((((a0.getD (u925 : Int).toNat default).fKind) : Int) != ((a1.getD (u925 : Int).toNat default).fKind)) || ((((a0.getD (u925 : Int).toNat default).fN) : Int) != ((a1.getD (u925 : Int).toNat default).fN))) || (!(((a0.getD (u925 : Int).toNat default).fName) == ((a1.getD (u925 : Int).toNat default).fName)))) (fun (x1274 : Bool) => ((condM (!x1274) (fnS (F26 K ((a0.getD (u925 : Int).toNat default).fExprs) ((a1.getD (u925 : Int).toNat default).fExprs))) default).bind (fun r1275 => (letV (((x1274 || (!r1275)) || (((Int.ofNat ((a0.getD (u925 : Int).toNat default).fLabels).length) : Int) != (Int.ofNat ((a1.getD (u925 : Int).toNat default).fLabels).length))) || (((Int.ofNat ((a0.getD (u925 : Int).toNat default).fBlocks).length) : Int) != (Int.ofNat ((a1.getD (u925 : Int).toNat default).fBlocks).length))) (fun (x1276 : Bool) => (if x1276 = true then (some (.inl (Sum.inr (Sum.inr (false))))) else (bindS (blockS ((iter K (fun (u1314 : Int) => (letV (decide ((u1314 : Int) < (Int.ofNat ((a0.getD (u925 : Int).toNat default).fLabels).length))) (fun (x1324 : Bool) => (if x1324 = true then (bindS (blockS (chk [inb u1314 ((a0.getD (u925 : Int).toNat default).fLabels).length, inb u1314 ((a1.getD (u925 : Int).toNat default).fLabels).length] (letV (((a0.getD (u925 : Int).toNat default).fLabels).getD (u1314 : Int).toNat default) (fun (x1329 : (List Int)) => (letV (((a1.getD (u925 : Int).toNat default).fLabels).getD (u1314 : Int).toNat default) (fun (x1330 : (List Int)) => ((condM true (fnS (F17 K x1329 x1330)) default).bind (fun r1331 => (if (!r1331) = true then (some (.inl (Sum.inr (Sum.inr (Sum.inr (Sum.inr (false))))))) else (some (.inr ()))))))))))) (fun (u1328 : Unit) => (some (.inr ((IntKind.i64.wrap (u1314 + 1))))))) else (some (.inl (Sum.inl ()))))))) (0)).map .inl)) (fun (u1304 : Unit) => (bindS (blockS ((iter K (fun (u1369 : Int) => (letV (decide ((u1369 : Int) < (Int.ofNat ((a0.getD (u925 : Int).toNat default).fBlocks).length))) (fun (x1379 : Bool) => (if x1379 = true then (bindS (blockS (chk [inb u1369 ((a0.getD (u925 : Int).toNat default).fBlocks).length, inb u1369 ((a1.getD (u925 : Int).toNat default).fBlocks).length] (letV (((a0.getD (u925 : Int).toNat default).fBlocks).getD (u1369 : Int).toNat default) (fun (x1384 : (List S122)) => (letV (((a1.getD (u925 : Int).toNat default).fBlocks).getD (u1369 : Int).toNat default) (fun (x1385 : (List S122)) => ((condM true (fnS (F35 K x1384 x1385)) default).bind (fun r1386 => (if (!r1386) = true then (some (.inl (Sum.inr (Sum.inr (Sum.inr (Sum.inr (false))))))) else (some (.inr ()))))))))))) (fun (u1383 : Unit) => (some (.inr ((IntKind.i64.wrap (u1369 + 1))))))) else (some (.inl (Sum.inl ()))))))) (0)).map .inl)) (fun (u1359 : Unit) => (some (.inr ())))))))))))))) ?_ (fun hk => ?_)
       ·
        refine Ref.sq ?_
        refine Ref.sq ?_
        refine Ref.rn 7 ?_
        refine RefR.e0 (st' := ⟨[(0, .c (E122.tree a0)), (1, .c (E122.tree a1)), sI 5 u925, sP 6 0 0 0, sP 7 1 0 0, sB 48 ((((((a0.getD (u925 : Int).toNat default).fKind) : Int) != ((a1.getD (u925 : Int).toNat default).fKind)) || ((((a0.getD (u925 : Int).toNat default).fN) : Int) != ((a1.getD (u925 : Int).toNat default).fN))) || (!(((a0.getD (u925 : Int).toNat default).fName) == ((a1.getD (u925 : Int).toNat default).fName)))), (50, .c (E25.tree ((a0.getD (u925 : Int).toNat default).fExprs))), (52, .c (E25.tree ((a1.getD (u925 : Int).toNat default).fExprs)))], [E122.o (a0.getD (u925 : Int).toNat default), E122.o (a1.getD (u925 : Int).toNat default)], [(52, [(48, false)]), (50, [(48, false)])], 0⟩) 0 24 24 [0, 1, 5, 6, 7, 48, 50, 52] [0, 1] ?_
        refine RefR.letC (stf := fun x1274 => ⟨[(0, .c (E122.tree a0)), (1, .c (E122.tree a1)), sI 5 u925, sP 6 0 0 0, sP 7 1 0 0, sB 48 x1274, (50, .c (E25.tree ((a0.getD (u925 : Int).toNat default).fExprs))), (52, .c (E25.tree ((a1.getD (u925 : Int).toNat default).fExprs)))], [E122.o (a0.getD (u925 : Int).toNat default), E122.o (a1.getD (u925 : Int).toNat default)], [(52, [(48, false)]), (50, [(48, false)])], 0⟩) (by kernel_rfl) (fun x1274 => ?_)
        refine RefR.lookC (t := 53) (g := [(48, false)]) (b := (!x1274)) 24 25 [] (default : Bool) rfl (by kernel_rfl) (F26_ok K ((a0.getD (u925 : Int).toNat default).fExprs) ((a1.getD (u925 : Int).toNat default).fExprs)) (fun _ => rfl) (fun r1275 => ?_)
        refine RefR.e0 (st' := ⟨[(0, .c (E122.tree a0)), (1, .c (E122.tree a1)), sI 5 u925, sP 6 0 0 0, sP 7 1 0 0, sB 73 (((x1274 || (!r1275)) || (((Int.ofNat ((a0.getD (u925 : Int).toNat default).fLabels).length) : Int) != (Int.ofNat ((a1.getD (u925 : Int).toNat default).fLabels).length))) || (((Int.ofNat ((a0.getD (u925 : Int).toNat default).fBlocks).length) : Int) != (Int.ofNat ((a1.getD (u925 : Int).toNat default).fBlocks).length)))], [E122.o (a0.getD (u925 : Int).toNat default), E122.o (a1.getD (u925 : Int).toNat default)], [], 0⟩) 25 20 45 [0, 1, 5, 6, 7, 73] [0, 1] ?_
        refine RefR.letC (stf := fun x1276 => ⟨[(0, .c (E122.tree a0)), (1, .c (E122.tree a1)), sI 5 u925, sP 6 0 0 0, sP 7 1 0 0, sB 73 x1276], [E122.o (a0.getD (u925 : Int).toNat default), E122.o (a1.getD (u925 : Int).toNat default)], [], 0⟩) (by kernel_rfl) (fun x1276 => ?_)
        refine RefR.nl 45 ?_
        refine Ref.cn (.tmp 73) x1276 (fun hc => ?_) (fun hc => ?_)
        ·
         refine Ref.sq ?_
         refine Ref.rn 8 ?_
         refine RefR.e0 (st' := ⟨[sB 4 false], [], [], 0⟩) 0 1 1 [4] [] ?_
         refine RefR.nl 1 ?_
         exact Ref.rt (t := (Sum.inr (Sum.inr (false))))
        ·
         refine Ref.sk ?_
         refine Ref.sq ?_
         refine Ref.sq ?_
         refine Ref.rn 9 ?_
         refine RefR.e0 (st' := ⟨[(0, .c (E122.tree a0)), (1, .c (E122.tree a1)), sI 5 u925, sP 6 0 0 0, sP 7 1 0 0, sI 8 0], [E122.o (a0.getD (u925 : Int).toNat default), E122.o (a1.getD (u925 : Int).toNat default)], [], 0⟩) 0 1 1 [0, 1, 5, 6, 7, 8] [0, 1] ?_
         refine RefR.nl 1 ?_
         refine Ref.ce (.block 2 (cd (bd Tryz.f35) [1, 1, 0, 1, 0, 0, 1, 0, 0, 1, 1, 0, 1, 0])) ?_
         refine Ref.block (go1 := fun u1304 => ⟨[(0, .c (E122.tree a0)), (1, .c (E122.tree a1)), sI 5 u925, sP 6 0 0 0, sP 7 1 0 0], [E122.o (a0.getD (u925 : Int).toNat default), E122.o (a1.getD (u925 : Int).toNat default)], [], 0⟩) ?_ (fun a => match a with | .inl _ => (fun h => by cases h) | .inr (.inl _) => (fun h => by cases h) | .inr (.inr _) => (fun h => by cases h)) (fun u1304 => ?_)
         ·
          refine Ref.ce (.loop (cd (bd Tryz.f35) [1, 1, 0, 1, 0, 0, 1, 0, 0, 1, 1, 0, 1, 0, 0])) ?_
          refine Ref.loop (hd := fun u1314 => ⟨[(0, .c (E122.tree a0)), (1, .c (E122.tree a1)), sI 5 u925, sP 6 0 0 0, sP 7 1 0 0, sI 8 u1314], [E122.o (a0.getD (u925 : Int).toNat default), E122.o (a1.getD (u925 : Int).toNat default)], [], 0⟩) K (0) (by kernel_rfl) (fun u1314 => ?_)
          refine Ref.sq ?_
          refine Ref.sq ?_
          refine Ref.rn 10 ?_
          refine RefR.e0 (st' := ⟨[(0, .c (E122.tree a0)), (1, .c (E122.tree a1)), sI 5 u925, sP 6 0 0 0, sP 7 1 0 0, sI 8 u1314, sB 78 (decide ((u1314 : Int) < (Int.ofNat ((a0.getD (u925 : Int).toNat default).fLabels).length)))], [E122.o (a0.getD (u925 : Int).toNat default), E122.o (a1.getD (u925 : Int).toNat default)], [], 0⟩) 0 5 5 [0, 1, 5, 6, 7, 8, 78] [0, 1] ?_
          refine RefR.letC (stf := fun x1324 => ⟨[(0, .c (E122.tree a0)), (1, .c (E122.tree a1)), sI 5 u925, sP 6 0 0 0, sP 7 1 0 0, sI 8 u1314, sB 78 x1324], [E122.o (a0.getD (u925 : Int).toNat default), E122.o (a1.getD (u925 : Int).toNat default)], [], 0⟩) (by kernel_rfl) (fun x1324 => ?_)
          refine RefR.nl 5 ?_
          refine Ref.cn (.tmp 78) x1324 (fun hc => ?_) (fun hc => ?_)
          ·
           refine Ref.sk ?_
           refine Ref.sq ?_
           refine Ref.ce (.block 3 (cd (bd Tryz.f35) [1, 1, 0, 1, 0, 0, 1, 0, 0, 1, 1, 0, 1, 0, 0, 1, 0, 0])) ?_
           refine Ref.block (go1 := fun u1328 => ⟨[(0, .c (E122.tree a0)), (1, .c (E122.tree a1)), sI 5 u925, sP 6 0 0 0, sP 7 1 0 0, sI 8 u1314], [E122.o (a0.getD (u925 : Int).toNat default), E122.o (a1.getD (u925 : Int).toNat default)], [], 0⟩) ?_ (fun a => match a with | .inl _ => (fun h => by cases h) | .inr (.inl _) => (fun h => by cases h) | .inr (.inr (.inl _)) => (fun h => by cases h) | .inr (.inr (.inr _)) => (fun h => by cases h)) (fun u1328 => ?_)
           ·
            refine Ref.sq ?_
            refine Ref.drawnY 12 (by kernel_rfl) (by kernel_rfl) ?_
            refine RefY.evC0 (st' := ⟨[(0, .c (E122.tree a0)), (1, .c (E122.tree a1)), sI 5 u925, sP 6 0 0 0, sP 7 1 0 0, sI 8 u1314, sP 81 0 0 4, sI 83 u1314, sP 86 1 0 4, sI 88 u1314], [E122.o (a0.getD (u925 : Int).toNat default), E122.o (a1.getD (u925 : Int).toNat default)], [], 0⟩) (fuel' := 8) [0, 2, 5, 7] [0, 1, 5, 6, 7, 8, 81, 83, 86, 88] [0, 1] rfl (by kernel_rfl) (by kernel_rfl) ?_
            refine RefY.toX [] ?_
            refine RefX.evC (vs := [inb u1314 ((a0.getD (u925 : Int).toNat default).fLabels).length, inb u1314 ((a1.getD (u925 : Int).toNat default).fLabels).length]) (st' := ⟨[(0, .c (E122.tree a0)), (1, .c (E122.tree a1)), sI 5 u925, sP 6 0 0 0, sP 7 1 0 0, sI 8 u1314, (85, .c (E3.tree (((a0.getD (u925 : Int).toNat default).fLabels).getD (u1314 : Int).toNat default))), (90, .c (E3.tree (((a1.getD (u925 : Int).toNat default).fLabels).getD (u1314 : Int).toNat default)))], [E122.o (a0.getD (u925 : Int).toNat default), E122.o (a1.getD (u925 : Int).toNat default)], [], 0⟩) (fuel' := 2) [1, 3, 4, 6, 8, 9] [0, 1, 5, 6, 7, 8, 85, 90] [0, 1] rfl (by kernel_rfl) (by kernel_rfl) ?_
            refine RefX.letC (stf := fun x1329 => ⟨[(0, .c (E122.tree a0)), (1, .c (E122.tree a1)), sI 5 u925, sP 6 0 0 0, sP 7 1 0 0, sI 8 u1314, (85, .c (E3.tree x1329)), (90, .c (E3.tree (((a1.getD (u925 : Int).toNat default).fLabels).getD (u1314 : Int).toNat default)))], [E122.o (a0.getD (u925 : Int).toNat default), E122.o (a1.getD (u925 : Int).toNat default)], [], 0⟩) (by kernel_rfl) (fun x1329 => ?_)
            refine RefX.letC (stf := fun x1330 => ⟨[(0, .c (E122.tree a0)), (1, .c (E122.tree a1)), sI 5 u925, sP 6 0 0 0, sP 7 1 0 0, sI 8 u1314, (85, .c (E3.tree x1329)), (90, .c (E3.tree x1330))], [E122.o (a0.getD (u925 : Int).toNat default), E122.o (a1.getD (u925 : Int).toNat default)], [], 0⟩) (by kernel_rfl) (fun x1330 => ?_)
            refine RefX.lookC (t := 91) (g := []) (b := true) (fuel' := 1) 10 [] (default : Bool) rfl (by kernel_rfl) (by kernel_rfl) (F17_ok K x1329 x1330) (fun _ => rfl) (fun r1331 => ?_)
            refine RefX.evC0 (st' := ⟨[(0, .c (E122.tree a0)), (1, .c (E122.tree a1)), sI 5 u925, sP 6 0 0 0, sP 7 1 0 0, sI 8 u1314, sB 92 (!r1331)], [E122.o (a0.getD (u925 : Int).toNat default), E122.o (a1.getD (u925 : Int).toNat default)], [], 0⟩) (fuel' := 0) [11] [0, 1, 5, 6, 7, 8, 92] [0, 1] rfl (by kernel_rfl) (by kernel_rfl) ?_
            refine RefX.done (by kernel_rfl) ?_
            refine Ref.cn (.tmp 92) (!r1331) (fun hc => ?_) (fun hc => ?_)
            ·
             refine Ref.sq ?_
             refine Ref.rn 13 ?_
             refine RefR.e0 (st' := ⟨[sB 4 false], [], [], 0⟩) 0 1 1 [4] [] ?_
             refine RefR.nl 1 ?_
             exact Ref.rt (t := (Sum.inr (Sum.inr (Sum.inr (Sum.inr (false))))))
            ·
             refine Ref.sk ?_
             refine Ref.ck ⟨[(0, .c (E122.tree a0)), (1, .c (E122.tree a1)), sI 5 u925, sP 6 0 0 0, sP 7 1 0 0, sI 8 u1314], [E122.o (a0.getD (u925 : Int).toNat default), E122.o (a1.getD (u925 : Int).toNat default)], [], 0⟩ [0, 1, 5, 6, 7, 8] [0, 1] ?_
             exact Ref.n0 (t := ())
           ·
            refine Ref.rn 11 ?_
            refine RefR.e0 (st' := ⟨[(0, .c (E122.tree a0)), (1, .c (E122.tree a1)), sI 5 u925, sP 6 0 0 0, sP 7 1 0 0, sI 8 (IntKind.i64.wrap (u1314 + 1))], [E122.o (a0.getD (u925 : Int).toNat default), E122.o (a1.getD (u925 : Int).toNat default)], [], 0⟩) 0 3 3 [0, 1, 5, 6, 7, 8] [0, 1] ?_
            refine RefR.nl 3 ?_
            exact Ref.n0 (t := ((IntKind.i64.wrap (u1314 + 1))))
          ·
           refine Ref.ck ⟨[(0, .c (E122.tree a0)), (1, .c (E122.tree a1)), sI 5 u925, sP 6 0 0 0, sP 7 1 0 0], [E122.o (a0.getD (u925 : Int).toNat default), E122.o (a1.getD (u925 : Int).toNat default)], [], 0⟩ [0, 1, 5, 6, 7] [0, 1] ?_
           exact Ref.xt 2 (t := (Sum.inl ()))
         ·
          refine Ref.sq ?_
          refine Ref.rn 14 ?_
          refine RefR.e0 (st' := ⟨[(0, .c (E122.tree a0)), (1, .c (E122.tree a1)), sI 5 u925, sP 6 0 0 0, sP 7 1 0 0, sI 9 0], [E122.o (a0.getD (u925 : Int).toNat default), E122.o (a1.getD (u925 : Int).toNat default)], [], 0⟩) 0 1 1 [0, 1, 5, 6, 7, 9] [0, 1] ?_
          refine RefR.nl 1 ?_
          refine Ref.ce (.block 4 (cd (bd Tryz.f35) [1, 1, 0, 1, 0, 0, 1, 0, 0, 1, 1, 1, 1, 0])) ?_
          refine Ref.block (go1 := fun u1359 => ⟨[(0, .c (E122.tree a0)), (1, .c (E122.tree a1)), sI 5 u925], [], [], 0⟩) ?_ (fun a => match a with | .inl _ => (fun h => by cases h) | .inr (.inl _) => (fun h => by cases h) | .inr (.inr _) => (fun h => by cases h)) (fun u1359 => ?_)
          ·
           refine Ref.ce (.loop (cd (bd Tryz.f35) [1, 1, 0, 1, 0, 0, 1, 0, 0, 1, 1, 1, 1, 0, 0])) ?_
           refine Ref.loop (hd := fun u1369 => ⟨[(0, .c (E122.tree a0)), (1, .c (E122.tree a1)), sI 5 u925, sP 6 0 0 0, sP 7 1 0 0, sI 9 u1369], [E122.o (a0.getD (u925 : Int).toNat default), E122.o (a1.getD (u925 : Int).toNat default)], [], 0⟩) K (0) (by kernel_rfl) (fun u1369 => ?_)
           refine Ref.sq ?_
           refine Ref.sq ?_
           refine Ref.rn 15 ?_
           refine RefR.e0 (st' := ⟨[(0, .c (E122.tree a0)), (1, .c (E122.tree a1)), sI 5 u925, sP 6 0 0 0, sP 7 1 0 0, sI 9 u1369, sB 97 (decide ((u1369 : Int) < (Int.ofNat ((a0.getD (u925 : Int).toNat default).fBlocks).length)))], [E122.o (a0.getD (u925 : Int).toNat default), E122.o (a1.getD (u925 : Int).toNat default)], [], 0⟩) 0 5 5 [0, 1, 5, 6, 7, 9, 97] [0, 1] ?_
           refine RefR.letC (stf := fun x1379 => ⟨[(0, .c (E122.tree a0)), (1, .c (E122.tree a1)), sI 5 u925, sP 6 0 0 0, sP 7 1 0 0, sI 9 u1369, sB 97 x1379], [E122.o (a0.getD (u925 : Int).toNat default), E122.o (a1.getD (u925 : Int).toNat default)], [], 0⟩) (by kernel_rfl) (fun x1379 => ?_)
           refine RefR.nl 5 ?_
           refine Ref.cn (.tmp 97) x1379 (fun hc => ?_) (fun hc => ?_)
           ·
            refine Ref.sk ?_
            refine Ref.sq ?_
            refine Ref.ce (.block 5 (cd (bd Tryz.f35) [1, 1, 0, 1, 0, 0, 1, 0, 0, 1, 1, 1, 1, 0, 0, 1, 0, 0])) ?_
            refine Ref.block (go1 := fun u1383 => ⟨[(0, .c (E122.tree a0)), (1, .c (E122.tree a1)), sI 5 u925, sP 6 0 0 0, sP 7 1 0 0, sI 9 u1369], [E122.o (a0.getD (u925 : Int).toNat default), E122.o (a1.getD (u925 : Int).toNat default)], [], 0⟩) ?_ (fun a => match a with | .inl _ => (fun h => by cases h) | .inr (.inl _) => (fun h => by cases h) | .inr (.inr (.inl _)) => (fun h => by cases h) | .inr (.inr (.inr _)) => (fun h => by cases h)) (fun u1383 => ?_)
            ·
             refine Ref.sq ?_
             refine Ref.drawnY 17 (by kernel_rfl) (by kernel_rfl) ?_
             refine RefY.evC0 (st' := ⟨[(0, .c (E122.tree a0)), (1, .c (E122.tree a1)), sI 5 u925, sP 6 0 0 0, sP 7 1 0 0, sI 9 u1369, sP 100 0 0 5, sI 102 u1369, sP 105 1 0 5, sI 107 u1369], [E122.o (a0.getD (u925 : Int).toNat default), E122.o (a1.getD (u925 : Int).toNat default)], [], 0⟩) (fuel' := 8) [0, 2, 5, 7] [0, 1, 5, 6, 7, 9, 100, 102, 105, 107] [0, 1] rfl (by kernel_rfl) (by kernel_rfl) ?_
             refine RefY.toX [] ?_
             refine RefX.evC0 (st' := ⟨[(0, .c (E122.tree a0)), (1, .c (E122.tree a1)), sI 5 u925, sP 6 0 0 0, sP 7 1 0 0, sI 9 u1369, (101, .c (NTT122 ((a0.getD (u925 : Int).toNat default).fBlocks))), sI 102 u1369, (106, .c (NTT122 ((a1.getD (u925 : Int).toNat default).fBlocks))), sI 107 u1369], [E122.o (a0.getD (u925 : Int).toNat default), E122.o (a1.getD (u925 : Int).toNat default)], [], 0⟩) (fuel' := 6) [1, 6] [0, 1, 5, 6, 7, 9, 101, 102, 106, 107] [0, 1] rfl (by kernel_rfl) (by kernel_rfl) ?_
             refine RefX.conv (Conv.sl 101 (.c (E58.tree ((a0.getD (u925 : Int).toNat default).fBlocks))) (DLe.c (NTT122_le _))) ?_
             refine RefX.conv (Conv.sl 106 (.c (E58.tree ((a1.getD (u925 : Int).toNat default).fBlocks))) (DLe.c (NTT122_le _))) ?_
             refine RefX.evC (vs := [inb u1369 ((a0.getD (u925 : Int).toNat default).fBlocks).length, inb u1369 ((a1.getD (u925 : Int).toNat default).fBlocks).length]) (st' := ⟨[(0, .c (E122.tree a0)), (1, .c (E122.tree a1)), sI 5 u925, sP 6 0 0 0, sP 7 1 0 0, sI 9 u1369, (104, .c (E122.tree (((a0.getD (u925 : Int).toNat default).fBlocks).getD (u1369 : Int).toNat default))), (109, .c (E122.tree (((a1.getD (u925 : Int).toNat default).fBlocks).getD (u1369 : Int).toNat default)))], [E122.o (a0.getD (u925 : Int).toNat default), E122.o (a1.getD (u925 : Int).toNat default)], [], 0⟩) (fuel' := 2) [3, 4, 8, 9] [0, 1, 5, 6, 7, 9, 104, 109] [0, 1] rfl (by kernel_rfl) (by kernel_rfl) ?_
             refine RefX.letC (stf := fun x1384 => ⟨[(0, .c (E122.tree a0)), (1, .c (E122.tree a1)), sI 5 u925, sP 6 0 0 0, sP 7 1 0 0, sI 9 u1369, (104, .c (E122.tree x1384)), (109, .c (E122.tree (((a1.getD (u925 : Int).toNat default).fBlocks).getD (u1369 : Int).toNat default)))], [E122.o (a0.getD (u925 : Int).toNat default), E122.o (a1.getD (u925 : Int).toNat default)], [], 0⟩) (by kernel_rfl) (fun x1384 => ?_)
             refine RefX.letC (stf := fun x1385 => ⟨[(0, .c (E122.tree a0)), (1, .c (E122.tree a1)), sI 5 u925, sP 6 0 0 0, sP 7 1 0 0, sI 9 u1369, (104, .c (E122.tree x1384)), (109, .c (E122.tree x1385))], [E122.o (a0.getD (u925 : Int).toNat default), E122.o (a1.getD (u925 : Int).toNat default)], [], 0⟩) (by kernel_rfl) (fun x1385 => ?_)
             refine RefX.lookC (t := 110) (g := []) (b := true) (fuel' := 1) 10 [] (default : Bool) rfl (by kernel_rfl) (by kernel_rfl) (ih35 x1384 x1385) (fun _ => rfl) (fun r1386 => ?_)
             refine RefX.evC0 (st' := ⟨[(0, .c (E122.tree a0)), (1, .c (E122.tree a1)), sI 5 u925, sP 6 0 0 0, sP 7 1 0 0, sI 9 u1369, sB 111 (!r1386)], [E122.o (a0.getD (u925 : Int).toNat default), E122.o (a1.getD (u925 : Int).toNat default)], [], 0⟩) (fuel' := 0) [11] [0, 1, 5, 6, 7, 9, 111] [0, 1] rfl (by kernel_rfl) (by kernel_rfl) ?_
             refine RefX.done (by kernel_rfl) ?_
             refine Ref.cn (.tmp 111) (!r1386) (fun hc => ?_) (fun hc => ?_)
             ·
              refine Ref.sq ?_
              refine Ref.rn 18 ?_
              refine RefR.e0 (st' := ⟨[sB 4 false], [], [], 0⟩) 0 1 1 [4] [] ?_
              refine RefR.nl 1 ?_
              exact Ref.rt (t := (Sum.inr (Sum.inr (Sum.inr (Sum.inr (false))))))
             ·
              refine Ref.sk ?_
              refine Ref.ck ⟨[(0, .c (E122.tree a0)), (1, .c (E122.tree a1)), sI 5 u925, sP 6 0 0 0, sP 7 1 0 0, sI 9 u1369], [E122.o (a0.getD (u925 : Int).toNat default), E122.o (a1.getD (u925 : Int).toNat default)], [], 0⟩ [0, 1, 5, 6, 7, 9] [0, 1] ?_
              exact Ref.n0 (t := ())
            ·
             refine Ref.rn 16 ?_
             refine RefR.e0 (st' := ⟨[(0, .c (E122.tree a0)), (1, .c (E122.tree a1)), sI 5 u925, sP 6 0 0 0, sP 7 1 0 0, sI 9 (IntKind.i64.wrap (u1369 + 1))], [E122.o (a0.getD (u925 : Int).toNat default), E122.o (a1.getD (u925 : Int).toNat default)], [], 0⟩) 0 3 3 [0, 1, 5, 6, 7, 9] [0, 1] ?_
             refine RefR.nl 3 ?_
             exact Ref.n0 (t := ((IntKind.i64.wrap (u1369 + 1))))
           ·
            refine Ref.ck ⟨[(0, .c (E122.tree a0)), (1, .c (E122.tree a1)), sI 5 u925], [], [], 0⟩ [0, 1, 5] [] ?_
            exact Ref.xt 4 (t := (Sum.inl ()))
          ·
           exact Ref.n0 (t := ())
       ·
        refine RefX.evC (vs := [inb u925 a0.length]) (st' := ⟨[(0, .c (E122.tree a0)), (1, .c (E122.tree a1)), sI 5 u925, (24, .agg (E122.cs (a0.getD (u925 : Int).toNat default))), (25, .c (E122.tree a1)), sI 26 u925], [], [], 0⟩) (fuel' := 6) [2, 3] [0, 1, 5, 24, 25, 26] [] rfl (by kernel_rfl) (by kernel_rfl) ?_
        refine RefX.pend (fuel' := 4) [[], [(7, 28)], [(6, 27), (7, 28)]] [(6, [inb u925 a1.length])] [(6, 27), (7, 28)] [0, 1, 5, 24, 25, 26] [] ⟨[(0, .c (E122.tree a0)), (1, .c (E122.tree a1)), sI 5 u925, (24, .agg (E122.cs (a0.getD (u925 : Int).toNat default))), (25, .c (E122.tree a1)), sI 26 u925, (27, .c (E122.ep (a1.getD (u925 : Int).toNat default) 0)), (28, .agg (E122.cs (a1.getD (u925 : Int).toNat default)))], [], [], 0⟩ ?_
        refine RefXq.fork2 (fuel' := 3) 8 9 ?_ ?_
        ·
         refine RefXqi.adds0 (st' := ⟨[(0, .c (E122.tree a0)), (1, .c (E122.tree a1)), sI 5 u925, sP 6 0 0 0, (24, .agg (E122.cs (a0.getD (u925 : Int).toNat default))), (25, .c (E122.tree a1)), sI 26 u925, (27, .c (E122.ep (a1.getD (u925 : Int).toNat default) 0)), (28, .agg (E122.cs (a1.getD (u925 : Int).toNat default)))], [oX0], [], 0⟩) 8 [0, 1, 5, 6, 24, 25, 26, 27, 28] [0] (by kernel_rfl) (by kernel_rfl) ?_
         refine RefXq.fork1 (fuel' := 2) 9 ?_
         refine RefXqi.adds0 (st' := ⟨[(0, .c (E122.tree a0)), (1, .c (E122.tree a1)), sI 5 u925, sP 6 0 0 0, sP 7 1 0 0, (24, .agg (E122.cs (a0.getD (u925 : Int).toNat default))), (25, .c (E122.tree a1)), sI 26 u925, (27, .c (E122.ep (a1.getD (u925 : Int).toNat default) 0)), (28, .agg (E122.cs (a1.getD (u925 : Int).toNat default)))], [oX0, oX0], [], 0⟩) 9 [0, 1, 5, 6, 7, 24, 25, 26, 27, 28] [0, 1] (by kernel_rfl) (by kernel_rfl) ?_
         refine RefXq.fork1 (fuel' := 1) 10 ?_
         refine RefXqi.writes0 (st' := ⟨[(0, .c (E122.tree a0)), (1, .c (E122.tree a1)), sI 5 u925, sP 6 0 0 0, sP 7 1 0 0, (25, .c (E122.tree a1)), sI 26 u925, (27, .c (E122.ep (a1.getD (u925 : Int).toNat default) 0)), (28, .agg (E122.cs (a1.getD (u925 : Int).toNat default)))], [E122.o (a0.getD (u925 : Int).toNat default), oX0], [], 0⟩) 10 [0, 1, 5, 6, 7, 25, 26, 27, 28] [0, 1] (by kernel_rfl) (by kernel_rfl) ?_
         refine RefXq.close ?_
         refine RefX.fork1 (fuel' := 0) 11 (by kernel_rfl) ?_
         refine RefXi.w0 11 [0, 1, 5, 6, 7] [0, 1] ?_
         refine RefX.done (by kernel_rfl) ?_
         refine Ref.ck ⟨[(0, .c (E122.tree a0)), (1, .c (E122.tree a1)), sI 5 u925, sP 6 0 0 0, sP 7 1 0 0], [E122.o (a0.getD (u925 : Int).toNat default), E122.o (a1.getD (u925 : Int).toNat default)], [], 0⟩ [0, 1, 5, 6, 7] [0, 1] ?_
         exact hk
        ·
         refine RefXqi.adds0 (st' := ⟨[(0, .c (E122.tree a0)), (1, .c (E122.tree a1)), sI 5 u925, sP 7 0 0 0, (24, .agg (E122.cs (a0.getD (u925 : Int).toNat default))), (25, .c (E122.tree a1)), sI 26 u925, (27, .c (E122.ep (a1.getD (u925 : Int).toNat default) 0)), (28, .agg (E122.cs (a1.getD (u925 : Int).toNat default)))], [oX0], [], 0⟩) 9 [0, 1, 5, 7, 24, 25, 26, 27, 28] [0] (by kernel_rfl) (by kernel_rfl) ?_
         refine RefXq.fork1 (fuel' := 2) 8 ?_
         refine RefXqi.adds0 (st' := ⟨[(0, .c (E122.tree a0)), (1, .c (E122.tree a1)), sI 5 u925, sP 6 1 0 0, sP 7 0 0 0, (24, .agg (E122.cs (a0.getD (u925 : Int).toNat default))), (25, .c (E122.tree a1)), sI 26 u925, (27, .c (E122.ep (a1.getD (u925 : Int).toNat default) 0)), (28, .agg (E122.cs (a1.getD (u925 : Int).toNat default)))], [oX0, oX0], [], 0⟩) 8 [0, 1, 5, 6, 7, 24, 25, 26, 27, 28] [0, 1] (by kernel_rfl) (by kernel_rfl) ?_
         refine RefXq.fork1 (fuel' := 1) 10 ?_
         refine RefXqi.writes0 (st' := ⟨[(0, .c (E122.tree a0)), (1, .c (E122.tree a1)), sI 5 u925, sP 6 1 0 0, sP 7 0 0 0, (25, .c (E122.tree a1)), sI 26 u925, (27, .c (E122.ep (a1.getD (u925 : Int).toNat default) 0)), (28, .agg (E122.cs (a1.getD (u925 : Int).toNat default)))], [oX0, E122.o (a0.getD (u925 : Int).toNat default)], [], 0⟩) 10 [0, 1, 5, 6, 7, 25, 26, 27, 28] [0, 1] (by kernel_rfl) (by kernel_rfl) ?_
         refine RefXq.close ?_
         refine RefX.fork1 (fuel' := 0) 11 (by kernel_rfl) ?_
         refine RefXi.w0 11 [0, 1, 5, 6, 7] [0, 1] ?_
         refine RefX.done (by kernel_rfl) ?_
         refine Ref.ck ⟨[(0, .c (E122.tree a0)), (1, .c (E122.tree a1)), sI 5 u925, sP 6 0 0 0, sP 7 1 0 0], [E122.o (a0.getD (u925 : Int).toNat default), E122.o (a1.getD (u925 : Int).toNat default)], [], 0⟩ [0, 1, 5, 6, 7] [1, 0] ?_
         exact hk
      ·
       refine Ref.rn 5 ?_
       refine RefR.e0 (st' := ⟨[(0, .c (E122.tree a0)), (1, .c (E122.tree a1)), sI 5 (IntKind.i64.wrap (u925 + 1))], [], [], 0⟩) 0 3 3 [0, 1, 5] [] ?_
       refine RefR.nl 3 ?_
       exact Ref.n0 (t := ((IntKind.i64.wrap (u925 + 1))))
     ·
      refine Ref.ck ⟨[], [], [], 0⟩ [] [] ?_
      exact Ref.xt 0 (t := (Sum.inl ()))
    ·
     refine Ref.sq ?_
     refine Ref.rn 19 ?_
     refine RefR.e0 (st' := ⟨[sB 4 true], [], [], 0⟩) 0 1 1 [4] [] ?_
     refine RefR.nl 1 ?_
     exact Ref.rt (t := (true))
theorem F35_ok (K : Nat) (a0 : (List S122)) (a1 : (List S122)) : DFun Tryz.prog 35 [.c (E122.tree a0), .c (E122.tree a1)] [] (fnS (F35 K a0 a1)) (fun r => .c (.val (.bool r))) (fun r => []) := (G35_ok K) a0 a1
def F15 (K : Nat) (a0 : S44) (a1 : S44) : Option ((Bool) ⊕ (Bool)) :=
 (letV (((Int.ofNat a0.fDecls.length) : Int) != (Int.ofNat a1.fDecls.length)) (fun (x1 : Bool) => (if x1 = true then (some (.inl (false))) else (bindS (blockS ((iter K (fun (u807 : Int) => (letV (decide ((u807 : Int) < (Int.ofNat a0.fDecls.length))) (fun (x1009 : Bool) => (if x1009 = true then (bindS (blockS (chk [inb u807 a0.fDecls.length] (chk [inb u807 a1.fDecls.length] (letV ((((((a0.fDecls.getD (u807 : Int).toNat default).fKind) : Int) != ((a1.fDecls.getD (u807 : Int).toNat default).fKind)) || (!(((a0.fDecls.getD (u807 : Int).toNat default).fName) == ((a1.fDecls.getD (u807 : Int).toNat default).fName)))) || (!(((a0.fDecls.getD (u807 : Int).toNat default).fBase) == ((a1.fDecls.getD (u807 : Int).toNat default).fBase)))) (fun (x1111 : Bool) => ((condM (!x1111) (fnS (F33 K ((a0.fDecls.getD (u807 : Int).toNat default).fFaces) ((a1.fDecls.getD (u807 : Int).toNat default).fFaces))) default).bind (fun r1112 => (letV (((x1111 || (!r1112)) || (!(((a0.fDecls.getD (u807 : Int).toNat default).fAbstract) == ((a1.fDecls.getD (u807 : Int).toNat default).fAbstract)))) || (!(((a0.fDecls.getD (u807 : Int).toNat default).fFinal) == ((a1.fDecls.getD (u807 : Int).toNat default).fFinal)))) (fun (x1113 : Bool) => ((condM (!x1113) (fnS (F34 K ((a0.fDecls.getD (u807 : Int).toNat default).fVars) ((a1.fDecls.getD (u807 : Int).toNat default).fVars))) default).bind (fun r1114 => (letV ((x1113 || (!r1114)) || (((Int.ofNat ((a0.fDecls.getD (u807 : Int).toNat default).fMethods).length) : Int) != (Int.ofNat ((a1.fDecls.getD (u807 : Int).toNat default).fMethods).length))) (fun (x1115 : Bool) => ((condM (!x1115) (fnS (F35 K ((a0.fDecls.getD (u807 : Int).toNat default).fBody) ((a1.fDecls.getD (u807 : Int).toNat default).fBody))) default).bind (fun r1116 => (letV (((x1115 || (!r1116)) || ((((a0.fDecls.getD (u807 : Int).toNat default).fEvery) : Int) != ((a1.fDecls.getD (u807 : Int).toNat default).fEvery))) || ((((a0.fDecls.getD (u807 : Int).toNat default).fFirst) : Int) != ((a1.fDecls.getD (u807 : Int).toNat default).fFirst))) (fun (x1117 : Bool) => (if x1117 = true then (some (.inl (Sum.inr (Sum.inr (false))))) else (bindS (blockS ((iter K (fun (u1179 : Int) => (letV (decide ((u1179 : Int) < (Int.ofNat ((a0.fDecls.getD (u807 : Int).toNat default).fMethods).length))) (fun (x1195 : Bool) => (if x1195 = true then (bindS (blockS (chk [inb u1179 ((a0.fDecls.getD (u807 : Int).toNat default).fMethods).length] (chk [inb u1179 ((a1.fDecls.getD (u807 : Int).toNat default).fMethods).length] (letV ((((!(((((a0.fDecls.getD (u807 : Int).toNat default).fMethods).getD (u1179 : Int).toNat default).fName) == ((((a1.fDecls.getD (u807 : Int).toNat default).fMethods).getD (u1179 : Int).toNat default).fName))) || (!(((((a0.fDecls.getD (u807 : Int).toNat default).fMethods).getD (u1179 : Int).toNat default).fOver) == ((((a1.fDecls.getD (u807 : Int).toNat default).fMethods).getD (u1179 : Int).toNat default).fOver)))) || (!(((((a0.fDecls.getD (u807 : Int).toNat default).fMethods).getD (u1179 : Int).toNat default).fAbstract) == ((((a1.fDecls.getD (u807 : Int).toNat default).fMethods).getD (u1179 : Int).toNat default).fAbstract)))) || (!(((((a0.fDecls.getD (u807 : Int).toNat default).fMethods).getD (u1179 : Int).toNat default).fFinal) == ((((a1.fDecls.getD (u807 : Int).toNat default).fMethods).getD (u1179 : Int).toNat default).fFinal)))) (fun (x1204 : Bool) => ((condM (!x1204) (fnS (F34 K ((((a0.fDecls.getD (u807 : Int).toNat default).fMethods).getD (u1179 : Int).toNat default).fParams) ((((a1.fDecls.getD (u807 : Int).toNat default).fMethods).getD (u1179 : Int).toNat default).fParams))) default).bind (fun r1205 => (letV ((x1204 || (!r1205)) || (!(((((((a0.fDecls.getD (u807 : Int).toNat default).fMethods).getD (u1179 : Int).toNat default).fResult).fKind : Int) == (((((a1.fDecls.getD (u807 : Int).toNat default).fMethods).getD (u1179 : Int).toNat default).fResult).fKind)) && (((((((a0.fDecls.getD (u807 : Int).toNat default).fMethods).getD (u1179 : Int).toNat default).fResult).fLo : Int) == (((((a1.fDecls.getD (u807 : Int).toNat default).fMethods).getD (u1179 : Int).toNat default).fResult).fLo)) && (((((((a0.fDecls.getD (u807 : Int).toNat default).fMethods).getD (u1179 : Int).toNat default).fResult).fHi : Int) == (((((a1.fDecls.getD (u807 : Int).toNat default).fMethods).getD (u1179 : Int).toNat default).fResult).fHi)) && (((((((a0.fDecls.getD (u807 : Int).toNat default).fMethods).getD (u1179 : Int).toNat default).fResult).fName) == (((((a1.fDecls.getD (u807 : Int).toNat default).fMethods).getD (u1179 : Int).toNat default).fResult).fName)) && true)))))) (fun (x1206 : Bool) => ((condM (!x1206) (fnS (F34 K ((((a0.fDecls.getD (u807 : Int).toNat default).fMethods).getD (u1179 : Int).toNat default).fVars) ((((a1.fDecls.getD (u807 : Int).toNat default).fMethods).getD (u1179 : Int).toNat default).fVars))) default).bind (fun r1207 => ((condM (!(x1206 || (!r1207))) (fnS (F35 K ((((a0.fDecls.getD (u807 : Int).toNat default).fMethods).getD (u1179 : Int).toNat default).fBody) ((((a1.fDecls.getD (u807 : Int).toNat default).fMethods).getD (u1179 : Int).toNat default).fBody))) default).bind (fun r1208 => (if ((x1206 || (!r1207)) || (!r1208)) = true then (some (.inl (Sum.inr (Sum.inr (Sum.inr (Sum.inr (false))))))) else (some (.inr ())))))))))))))))) (fun (u1202 : Unit) => (some (.inr ((IntKind.i64.wrap (u1179 + 1))))))) else (some (.inl (Sum.inl ()))))))) (0)).map .inl)) (fun (u1163 : Unit) => (some (.inr ())))))))))))))))))))))) (fun (u1109 : Unit) => (some (.inr ((IntKind.i64.wrap (u807 + 1))))))) else (some (.inl (Sum.inl ()))))))) (0)).map .inl)) (fun (u605 : Unit) => (some (.inl (true))))))))
theorem F15_ok (K : Nat) (a0 : S44) (a1 : S44) : DFun Tryz.prog 15 [.agg (E44.cs a0), .agg (E44.cs a1)] [] (fnS (F15 K a0 a1)) (fun r => .c (.val (.bool r))) (fun r => []) := by
 refine DFun.it Tryz.f15 (fun r => ⟨[sB 4 r], [], [], 0⟩) ?_
 unfold F15
 refine Ref.sq ?_
 refine Ref.rn 0 ?_
 refine RefR.e0 (st' := ⟨[sP 2 0 0 0, sP 3 1 0 0], [.cells (E44.cs a0), .cells (E44.cs a1)], [], 0⟩) 0 3 3 [2, 3] [0, 1] ?_
 refine RefR.nl 3 ?_
 refine Ref.sq ?_
 refine Ref.sq ?_
 refine Ref.rn 1 ?_
 refine RefR.e0 (st' := ⟨[sP 2 0 0 0, sP 3 1 0 0, sB 17 (((Int.ofNat a0.fDecls.length) : Int) != (Int.ofNat a1.fDecls.length))], [.cells (E44.cs a0), .cells (E44.cs a1)], [], 0⟩) 0 7 7 [2, 3, 17] [0, 1] ?_
 refine RefR.letC (stf := fun x1 => ⟨[sP 2 0 0 0, sP 3 1 0 0, sB 17 x1], [.cells (E44.cs a0), .cells (E44.cs a1)], [], 0⟩) (by kernel_rfl) (fun x1 => ?_)
 refine RefR.nl 7 ?_
 refine Ref.cn (.tmp 17) x1 (fun hc => ?_) (fun hc => ?_)
 ·
  refine Ref.sq ?_
  refine Ref.rn 2 ?_
  refine RefR.e0 (st' := ⟨[sB 4 false], [], [], 0⟩) 0 1 1 [4] [] ?_
  refine RefR.nl 1 ?_
  exact Ref.rt (t := (false))
 ·
  refine Ref.sk ?_
  refine Ref.sq ?_
  refine Ref.sq ?_
  refine Ref.rn 3 ?_
  refine RefR.e0 (st' := ⟨[sP 2 0 0 0, sP 3 1 0 0, sI 5 0], [.cells (E44.cs a0), .cells (E44.cs a1)], [], 0⟩) 0 1 1 [2, 3, 5] [0, 1] ?_
  refine RefR.nl 1 ?_
  refine Ref.ce (.block 0 (cd (bd Tryz.f15) [1, 1, 0, 1, 0])) ?_
  refine Ref.block (go1 := fun u605 => ⟨[], [], [], 0⟩) ?_ (fun _ h => by cases h) (fun u605 => ?_)
  ·
   refine Ref.ce (.loop (cd (bd Tryz.f15) [1, 1, 0, 1, 0, 0])) ?_
   refine Ref.loop (hd := fun u807 => ⟨[sP 2 0 0 0, sP 3 1 0 0, sI 5 u807], [.cells (E44.cs a0), .cells (E44.cs a1)], [], 0⟩) K (0) (by kernel_rfl) (fun u807 => ?_)
   refine Ref.sq ?_
   refine Ref.sq ?_
   refine Ref.rn 4 ?_
   refine RefR.e0 (st' := ⟨[sP 2 0 0 0, sP 3 1 0 0, sI 5 u807, sB 22 (decide ((u807 : Int) < (Int.ofNat a0.fDecls.length)))], [.cells (E44.cs a0), .cells (E44.cs a1)], [], 0⟩) 0 5 5 [2, 3, 5, 22] [0, 1] ?_
   refine RefR.letC (stf := fun x1009 => ⟨[sP 2 0 0 0, sP 3 1 0 0, sI 5 u807, sB 22 x1009], [.cells (E44.cs a0), .cells (E44.cs a1)], [], 0⟩) (by kernel_rfl) (fun x1009 => ?_)
   refine RefR.nl 5 ?_
   refine Ref.cn (.tmp 22) x1009 (fun hc => ?_) (fun hc => ?_)
   ·
    refine Ref.sk ?_
    refine Ref.sq ?_
    refine Ref.ce (.block 1 (cd (bd Tryz.f15) [1, 1, 0, 1, 0, 0, 1, 0, 0])) ?_
    refine Ref.block (go1 := fun u1109 => ⟨[sP 2 0 0 0, sP 3 1 0 0, sI 5 u807], [.cells (E44.cs a0), .cells (E44.cs a1)], [], 0⟩) ?_ (fun a => match a with | .inl _ => (fun h => by cases h) | .inr _ => (fun h => by cases h)) (fun u1109 => ?_)
    ·
     refine Ref.sq ?_
     refine Ref.drawnY 6 (by kernel_rfl) (by kernel_rfl) ?_
     refine RefY.evC0 (st' := ⟨[sP 2 0 0 0, sP 3 1 0 0, sI 5 u807, sP 25 0 0 0, sI 27 u807, sP 30 1 0 0, sI 32 u807], [.cells (E44.cs a0), .cells (E44.cs a1)], [], 0⟩) (fuel' := 10) [0, 2, 5, 7] [2, 3, 5, 25, 27, 30, 32] [0, 1] rfl (by kernel_rfl) (by kernel_rfl) ?_
     refine RefY.toX [12, 13] ?_
     refine RefX.withK0 (⟨[sP 2 0 0 0, sP 3 1 0 0, sI 5 u807, sP 6 2 0 0, sP 7 3 0 0], [.cells (E44.cs a0), .cells (E44.cs a1), .cells (E60.cs (a0.fDecls.getD (u807 : Int).toNat default)), .cells (E60.cs (a1.fDecls.getD (u807 : Int).toNat default))], [], 0⟩) ((letV ((((((a0.fDecls.getD (u807 : Int).toNat default).fKind) : Int) != ((a1.fDecls.getD (u807 : Int).toNat default).fKind)) || (!(((a0.fDecls.getD (u807 : Int).toNat default).fName) == ((a1.fDecls.getD (u807 : Int).toNat default).fName)))) || (!(((a0.fDecls.getD (u807 : Int).toNat default).fBase) == ((a1.fDecls.getD (u807 : Int).toNat default).fBase)))) (fun (x1111 : Bool) => ((condM (!x1111) (fnS (F33 K ((a0.fDecls.getD (u807 : Int).toNat default).fFaces) ((a1.fDecls.getD (u807 : Int).toNat default).fFaces))) default).bind (fun r1112 => (letV (((x1111 || (!r1112)) || (!(((a0.fDecls.getD (u807 : Int).toNat default).fAbstract) == ((a1.fDecls.getD (u807 : Int).toNat default).fAbstract)))) || (!(((a0.fDecls.getD (u807 : Int).toNat default).fFinal) == ((a1.fDecls.getD (u807 : Int).toNat default).fFinal)))) (fun (x1113 : Bool) => ((condM (!x1113) (fnS (F34 K ((a0.fDecls.getD (u807 : Int).toNat default).fVars) ((a1.fDecls.getD (u807 : Int).toNat default).fVars))) default).bind (fun r1114 => (letV ((x1113 || (!r1114)) || (((Int.ofNat ((a0.fDecls.getD (u807 : Int).toNat default).fMethods).length) : Int) != (Int.ofNat ((a1.fDecls.getD (u807 : Int).toNat default).fMethods).length))) (fun (x1115 : Bool) => ((condM (!x1115) (fnS (F35 K ((a0.fDecls.getD (u807 : Int).toNat default).fBody) ((a1.fDecls.getD (u807 : Int).toNat default).fBody))) default).bind (fun r1116 => (letV (((x1115 || (!r1116)) || ((((a0.fDecls.getD (u807 : Int).toNat default).fEvery) : Int) != ((a1.fDecls.getD (u807 : Int).toNat default).fEvery))) || ((((a0.fDecls.getD (u807 : Int).toNat default).fFirst) : Int) != ((a1.fDecls.getD (u807 : Int).toNat default).fFirst))) (fun (x1117 : Bool) => (if x1117 = true then (some (.inl (Sum.inr (Sum.inr (false))))) else (bindS (blockS ((iter K (fun (u1179 : Int) => (letV (decide ((u1179 : Int) < (Int.ofNat ((a0.fDecls.getD (u807 : Int).toNat default).fMethods).length))) (fun (x1195 : Bool) => (if x1195 = true then (bindS (blockS (chk [inb u1179 ((a0.fDecls.getD (u807 : Int).toNat default).fMethods).length] (chk [inb u1179 ((a1.fDecls.getD (u807 : Int).toNat default).fMethods).length] (letV ((((!(((((a0.fDecls.getD (u807 : Int).toNat default).fMethods).getD (u1179 : Int).toNat default).fName) == ((((a1.fDecls.getD (u807 : Int).toNat default).fMethods).getD (u1179 : Int).toNat default).fName))) || (!(((((a0.fDecls.getD (u807 : Int).toNat default).fMethods).getD (u1179 : Int).toNat default).fOver) == ((((a1.fDecls.getD (u807 : Int).toNat default).fMethods).getD (u1179 : Int).toNat default).fOver)))) || (!(((((a0.fDecls.getD (u807 : Int).toNat default).fMethods).getD (u1179 : Int).toNat default).fAbstract) == ((((a1.fDecls.getD (u807 : Int).toNat default).fMethods).getD (u1179 : Int).toNat default).fAbstract)))) || (!(((((a0.fDecls.getD (u807 : Int).toNat default).fMethods).getD (u1179 : Int).toNat default).fFinal) == ((((a1.fDecls.getD (u807 : Int).toNat default).fMethods).getD (u1179 : Int).toNat default).fFinal)))) (fun (x1204 : Bool) => ((condM (!x1204) (fnS (F34 K ((((a0.fDecls.getD (u807 : Int).toNat default).fMethods).getD (u1179 : Int).toNat default).fParams) ((((a1.fDecls.getD (u807 : Int).toNat default).fMethods).getD (u1179 : Int).toNat default).fParams))) default).bind (fun r1205 => (letV ((x1204 || (!r1205)) || (!(((((((a0.fDecls.getD (u807 : Int).toNat default).fMethods).getD (u1179 : Int).toNat default).fResult).fKind : Int) == (((((a1.fDecls.getD (u807 : Int).toNat default).fMethods).getD (u1179 : Int).toNat default).fResult).fKind)) && (((((((a0.fDecls.getD (u807 : Int).toNat default).fMethods).getD (u1179 : Int).toNat default).fResult).fLo : Int) == (((((a1.fDecls.getD (u807 : Int).toNat default).fMethods).getD (u1179 : Int).toNat default).fResult).fLo)) && (((((((a0.fDecls.getD (u807 : Int).toNat default).fMethods).getD (u1179 : Int).toNat default).fResult).fHi : Int) == (((((a1.fDecls.getD (u807 : Int).toNat default).fMethods).getD (u1179 : Int).toNat default).fResult).fHi)) && (((((((a0.fDecls.getD (u807 : Int).toNat default).fMethods).getD (u1179 : Int).toNat default).fResult).fName) == (((((a1.fDecls.getD (u807 : Int).toNat default).fMethods).getD (u1179 : Int).toNat default).fResult).fName)) && true)))))) (fun (x1206 : Bool) => ((condM (!x1206) (fnS (F34 K ((((a0.fDecls.getD (u807 : Int).toNat default).fMethods).getD (u1179 : Int).toNat default).fVars) ((((a1.fDecls.getD (u807 : Int).toNat default).fMethods).getD (u1179 : Int).toNat default).fVars))) default).bind (fun r1207 => ((condM (!(x1206 || (!r1207))) (fnS (F35 K ((((a0.fDecls.getD (u807 : Int).toNat default).fMethods).getD (u1179 : Int).toNat default).fBody) ((((a1.fDecls.getD (u807 : Int).toNat default).fMethods).getD (u1179 : Int).toNat default).fBody))) default).bind (fun r1208 => (if ((x1206 || (!r1207)) || (!r1208)) = true then (some (.inl (Sum.inr (Sum.inr (Sum.inr (Sum.inr (false))))))) else (some (.inr ())))))))))))))))) (fun (u1202 : Unit) => (some (.inr ((IntKind.i64.wrap (u1179 + 1))))))) else (some (.inl (Sum.inl ()))))))) (0)).map .inl)) (fun (u1163 : Unit) => (some (.inr ())))))))))))))))))))) ?_ (fun hk => ?_)
     ·
      refine Ref.sq ?_
      refine Ref.sq ?_
      refine Ref.rn 7 ?_
      refine RefR.e0 (st' := ⟨[sP 2 0 0 0, sP 3 1 0 0, sI 5 u807, sP 6 2 0 0, sP 7 3 0 0, sB 54 ((((((a0.fDecls.getD (u807 : Int).toNat default).fKind) : Int) != ((a1.fDecls.getD (u807 : Int).toNat default).fKind)) || (!(((a0.fDecls.getD (u807 : Int).toNat default).fName) == ((a1.fDecls.getD (u807 : Int).toNat default).fName)))) || (!(((a0.fDecls.getD (u807 : Int).toNat default).fBase) == ((a1.fDecls.getD (u807 : Int).toNat default).fBase)))), (56, .c (E9.tree ((a0.fDecls.getD (u807 : Int).toNat default).fFaces))), (58, .c (E9.tree ((a1.fDecls.getD (u807 : Int).toNat default).fFaces)))], [.cells (E44.cs a0), .cells (E44.cs a1), .cells (E60.cs (a0.fDecls.getD (u807 : Int).toNat default)), .cells (E60.cs (a1.fDecls.getD (u807 : Int).toNat default))], [(58, [(54, false)]), (56, [(54, false)])], 0⟩) 0 24 24 [2, 3, 5, 6, 7, 54, 56, 58] [0, 1, 2, 3] ?_
      refine RefR.letC (stf := fun x1111 => ⟨[sP 2 0 0 0, sP 3 1 0 0, sI 5 u807, sP 6 2 0 0, sP 7 3 0 0, sB 54 x1111, (56, .c (E9.tree ((a0.fDecls.getD (u807 : Int).toNat default).fFaces))), (58, .c (E9.tree ((a1.fDecls.getD (u807 : Int).toNat default).fFaces)))], [.cells (E44.cs a0), .cells (E44.cs a1), .cells (E60.cs (a0.fDecls.getD (u807 : Int).toNat default)), .cells (E60.cs (a1.fDecls.getD (u807 : Int).toNat default))], [(58, [(54, false)]), (56, [(54, false)])], 0⟩) (by kernel_rfl) (fun x1111 => ?_)
      refine RefR.lookC (t := 59) (g := [(54, false)]) (b := (!x1111)) 24 25 [] (default : Bool) rfl (by kernel_rfl) (F33_ok K ((a0.fDecls.getD (u807 : Int).toNat default).fFaces) ((a1.fDecls.getD (u807 : Int).toNat default).fFaces)) (fun _ => rfl) (fun r1112 => ?_)
      refine RefR.e0 (st' := ⟨[sP 2 0 0 0, sP 3 1 0 0, sI 5 u807, sP 6 2 0 0, sP 7 3 0 0, sB 76 (((x1111 || (!r1112)) || (!(((a0.fDecls.getD (u807 : Int).toNat default).fAbstract) == ((a1.fDecls.getD (u807 : Int).toNat default).fAbstract)))) || (!(((a0.fDecls.getD (u807 : Int).toNat default).fFinal) == ((a1.fDecls.getD (u807 : Int).toNat default).fFinal)))), (78, .c (E118.tree ((a0.fDecls.getD (u807 : Int).toNat default).fVars))), (80, .c (E118.tree ((a1.fDecls.getD (u807 : Int).toNat default).fVars)))], [.cells (E44.cs a0), .cells (E44.cs a1), .cells (E60.cs (a0.fDecls.getD (u807 : Int).toNat default)), .cells (E60.cs (a1.fDecls.getD (u807 : Int).toNat default))], [(80, [(76, false)]), (78, [(76, false)])], 0⟩) 25 21 46 [2, 3, 5, 6, 7, 76, 78, 80] [0, 1, 2, 3] ?_
      refine RefR.letC (stf := fun x1113 => ⟨[sP 2 0 0 0, sP 3 1 0 0, sI 5 u807, sP 6 2 0 0, sP 7 3 0 0, sB 76 x1113, (78, .c (E118.tree ((a0.fDecls.getD (u807 : Int).toNat default).fVars))), (80, .c (E118.tree ((a1.fDecls.getD (u807 : Int).toNat default).fVars)))], [.cells (E44.cs a0), .cells (E44.cs a1), .cells (E60.cs (a0.fDecls.getD (u807 : Int).toNat default)), .cells (E60.cs (a1.fDecls.getD (u807 : Int).toNat default))], [(80, [(76, false)]), (78, [(76, false)])], 0⟩) (by kernel_rfl) (fun x1113 => ?_)
      refine RefR.lookC (t := 81) (g := [(76, false)]) (b := (!x1113)) 46 47 [] (default : Bool) rfl (by kernel_rfl) (F34_ok K ((a0.fDecls.getD (u807 : Int).toNat default).fVars) ((a1.fDecls.getD (u807 : Int).toNat default).fVars)) (fun _ => rfl) (fun r1114 => ?_)
      refine RefR.e0 (st' := ⟨[sP 2 0 0 0, sP 3 1 0 0, sI 5 u807, sP 6 2 0 0, sP 7 3 0 0, sB 93 ((x1113 || (!r1114)) || (((Int.ofNat ((a0.fDecls.getD (u807 : Int).toNat default).fMethods).length) : Int) != (Int.ofNat ((a1.fDecls.getD (u807 : Int).toNat default).fMethods).length))), (95, .c (E122.tree ((a0.fDecls.getD (u807 : Int).toNat default).fBody))), (97, .c (E122.tree ((a1.fDecls.getD (u807 : Int).toNat default).fBody)))], [.cells (E44.cs a0), .cells (E44.cs a1), .cells (E60.cs (a0.fDecls.getD (u807 : Int).toNat default)), .cells (E60.cs (a1.fDecls.getD (u807 : Int).toNat default))], [(97, [(93, false)]), (95, [(93, false)])], 0⟩) 47 16 63 [2, 3, 5, 6, 7, 93, 95, 97] [0, 1, 2, 3] ?_
      refine RefR.letC (stf := fun x1115 => ⟨[sP 2 0 0 0, sP 3 1 0 0, sI 5 u807, sP 6 2 0 0, sP 7 3 0 0, sB 93 x1115, (95, .c (E122.tree ((a0.fDecls.getD (u807 : Int).toNat default).fBody))), (97, .c (E122.tree ((a1.fDecls.getD (u807 : Int).toNat default).fBody)))], [.cells (E44.cs a0), .cells (E44.cs a1), .cells (E60.cs (a0.fDecls.getD (u807 : Int).toNat default)), .cells (E60.cs (a1.fDecls.getD (u807 : Int).toNat default))], [(97, [(93, false)]), (95, [(93, false)])], 0⟩) (by kernel_rfl) (fun x1115 => ?_)
      refine RefR.lookC (t := 98) (g := [(93, false)]) (b := (!x1115)) 63 64 [] (default : Bool) rfl (by kernel_rfl) (F35_ok K ((a0.fDecls.getD (u807 : Int).toNat default).fBody) ((a1.fDecls.getD (u807 : Int).toNat default).fBody)) (fun _ => rfl) (fun r1116 => ?_)
      refine RefR.e0 (st' := ⟨[sP 2 0 0 0, sP 3 1 0 0, sI 5 u807, sP 6 2 0 0, sP 7 3 0 0, sB 114 (((x1115 || (!r1116)) || ((((a0.fDecls.getD (u807 : Int).toNat default).fEvery) : Int) != ((a1.fDecls.getD (u807 : Int).toNat default).fEvery))) || ((((a0.fDecls.getD (u807 : Int).toNat default).fFirst) : Int) != ((a1.fDecls.getD (u807 : Int).toNat default).fFirst)))], [.cells (E44.cs a0), .cells (E44.cs a1), .cells (E60.cs (a0.fDecls.getD (u807 : Int).toNat default)), .cells (E60.cs (a1.fDecls.getD (u807 : Int).toNat default))], [], 0⟩) 64 16 80 [2, 3, 5, 6, 7, 114] [0, 1, 2, 3] ?_
      refine RefR.letC (stf := fun x1117 => ⟨[sP 2 0 0 0, sP 3 1 0 0, sI 5 u807, sP 6 2 0 0, sP 7 3 0 0, sB 114 x1117], [.cells (E44.cs a0), .cells (E44.cs a1), .cells (E60.cs (a0.fDecls.getD (u807 : Int).toNat default)), .cells (E60.cs (a1.fDecls.getD (u807 : Int).toNat default))], [], 0⟩) (by kernel_rfl) (fun x1117 => ?_)
      refine RefR.nl 80 ?_
      refine Ref.cn (.tmp 114) x1117 (fun hc => ?_) (fun hc => ?_)
      ·
       refine Ref.sq ?_
       refine Ref.rn 8 ?_
       refine RefR.e0 (st' := ⟨[sB 4 false], [], [], 0⟩) 0 1 1 [4] [] ?_
       refine RefR.nl 1 ?_
       exact Ref.rt (t := (Sum.inr (Sum.inr (false))))
      ·
       refine Ref.sk ?_
       refine Ref.sq ?_
       refine Ref.rn 9 ?_
       refine RefR.e0 (st' := ⟨[sP 2 0 0 0, sP 3 1 0 0, sI 5 u807, sP 6 2 0 0, sP 7 3 0 0, sI 8 0], [.cells (E44.cs a0), .cells (E44.cs a1), .cells (E60.cs (a0.fDecls.getD (u807 : Int).toNat default)), .cells (E60.cs (a1.fDecls.getD (u807 : Int).toNat default))], [], 0⟩) 0 1 1 [2, 3, 5, 6, 7, 8] [0, 1, 2, 3] ?_
       refine RefR.nl 1 ?_
       refine Ref.ce (.block 2 (cd (bd Tryz.f15) [1, 1, 0, 1, 0, 0, 1, 0, 0, 1, 1, 1, 0])) ?_
       refine Ref.block (go1 := fun u1163 => ⟨[sP 2 0 0 0, sP 3 1 0 0, sI 5 u807], [.cells (E44.cs a0), .cells (E44.cs a1)], [], 0⟩) ?_ (fun a => match a with | .inl _ => (fun h => by cases h) | .inr (.inl _) => (fun h => by cases h) | .inr (.inr _) => (fun h => by cases h)) (fun u1163 => ?_)
       ·
        refine Ref.ce (.loop (cd (bd Tryz.f15) [1, 1, 0, 1, 0, 0, 1, 0, 0, 1, 1, 1, 0, 0])) ?_
        refine Ref.loop (hd := fun u1179 => ⟨[sP 2 0 0 0, sP 3 1 0 0, sI 5 u807, sP 6 2 0 0, sP 7 3 0 0, sI 8 u1179], [.cells (E44.cs a0), .cells (E44.cs a1), .cells (E60.cs (a0.fDecls.getD (u807 : Int).toNat default)), .cells (E60.cs (a1.fDecls.getD (u807 : Int).toNat default))], [], 0⟩) K (0) (by kernel_rfl) (fun u1179 => ?_)
        refine Ref.sq ?_
        refine Ref.sq ?_
        refine Ref.rn 10 ?_
        refine RefR.e0 (st' := ⟨[sP 2 0 0 0, sP 3 1 0 0, sI 5 u807, sP 6 2 0 0, sP 7 3 0 0, sI 8 u1179, sB 119 (decide ((u1179 : Int) < (Int.ofNat ((a0.fDecls.getD (u807 : Int).toNat default).fMethods).length)))], [.cells (E44.cs a0), .cells (E44.cs a1), .cells (E60.cs (a0.fDecls.getD (u807 : Int).toNat default)), .cells (E60.cs (a1.fDecls.getD (u807 : Int).toNat default))], [], 0⟩) 0 5 5 [2, 3, 5, 6, 7, 8, 119] [0, 1, 2, 3] ?_
        refine RefR.letC (stf := fun x1195 => ⟨[sP 2 0 0 0, sP 3 1 0 0, sI 5 u807, sP 6 2 0 0, sP 7 3 0 0, sI 8 u1179, sB 119 x1195], [.cells (E44.cs a0), .cells (E44.cs a1), .cells (E60.cs (a0.fDecls.getD (u807 : Int).toNat default)), .cells (E60.cs (a1.fDecls.getD (u807 : Int).toNat default))], [], 0⟩) (by kernel_rfl) (fun x1195 => ?_)
        refine RefR.nl 5 ?_
        refine Ref.cn (.tmp 119) x1195 (fun hc => ?_) (fun hc => ?_)
        ·
         refine Ref.sk ?_
         refine Ref.sq ?_
         refine Ref.ce (.block 3 (cd (bd Tryz.f15) [1, 1, 0, 1, 0, 0, 1, 0, 0, 1, 1, 1, 0, 0, 1, 0, 0])) ?_
         refine Ref.block (go1 := fun u1202 => ⟨[sP 2 0 0 0, sP 3 1 0 0, sI 5 u807, sP 6 2 0 0, sP 7 3 0 0, sI 8 u1179], [.cells (E44.cs a0), .cells (E44.cs a1), .cells (E60.cs (a0.fDecls.getD (u807 : Int).toNat default)), .cells (E60.cs (a1.fDecls.getD (u807 : Int).toNat default))], [], 0⟩) ?_ (fun a => match a with | .inl _ => (fun h => by cases h) | .inr (.inl _) => (fun h => by cases h) | .inr (.inr (.inl _)) => (fun h => by cases h) | .inr (.inr (.inr _)) => (fun h => by cases h)) (fun u1202 => ?_)
         ·
          refine Ref.sq ?_
          refine Ref.drawnY 12 (by kernel_rfl) (by kernel_rfl) ?_
          refine RefY.evC0 (st' := ⟨[sP 2 0 0 0, sP 3 1 0 0, sI 5 u807, sP 6 2 0 0, sP 7 3 0 0, sI 8 u1179, sP 122 2 0 7, sI 124 u1179, sP 127 3 0 7, sI 129 u1179], [.cells (E44.cs a0), .cells (E44.cs a1), .cells (E60.cs (a0.fDecls.getD (u807 : Int).toNat default)), .cells (E60.cs (a1.fDecls.getD (u807 : Int).toNat default))], [], 0⟩) (fuel' := 10) [0, 2, 5, 7] [2, 3, 5, 6, 7, 8, 122, 124, 127, 129] [0, 1, 2, 3] rfl (by kernel_rfl) (by kernel_rfl) ?_
          refine RefY.toX [12, 13] ?_
          refine RefX.withK0 (⟨[sP 2 0 0 0, sP 3 1 0 0, sI 5 u807, sP 6 2 0 0, sP 7 3 0 0, sI 8 u1179, sP 9 4 0 0, sP 10 5 0 0], [.cells (E44.cs a0), .cells (E44.cs a1), .cells (E60.cs (a0.fDecls.getD (u807 : Int).toNat default)), .cells (E60.cs (a1.fDecls.getD (u807 : Int).toNat default)), E93.o (((a0.fDecls.getD (u807 : Int).toNat default).fMethods).getD (u1179 : Int).toNat default), E93.o (((a1.fDecls.getD (u807 : Int).toNat default).fMethods).getD (u1179 : Int).toNat default)], [], 0⟩) ((letV ((((!(((((a0.fDecls.getD (u807 : Int).toNat default).fMethods).getD (u1179 : Int).toNat default).fName) == ((((a1.fDecls.getD (u807 : Int).toNat default).fMethods).getD (u1179 : Int).toNat default).fName))) || (!(((((a0.fDecls.getD (u807 : Int).toNat default).fMethods).getD (u1179 : Int).toNat default).fOver) == ((((a1.fDecls.getD (u807 : Int).toNat default).fMethods).getD (u1179 : Int).toNat default).fOver)))) || (!(((((a0.fDecls.getD (u807 : Int).toNat default).fMethods).getD (u1179 : Int).toNat default).fAbstract) == ((((a1.fDecls.getD (u807 : Int).toNat default).fMethods).getD (u1179 : Int).toNat default).fAbstract)))) || (!(((((a0.fDecls.getD (u807 : Int).toNat default).fMethods).getD (u1179 : Int).toNat default).fFinal) == ((((a1.fDecls.getD (u807 : Int).toNat default).fMethods).getD (u1179 : Int).toNat default).fFinal)))) (fun (x1204 : Bool) => ((condM (!x1204) (fnS (F34 K ((((a0.fDecls.getD (u807 : Int).toNat default).fMethods).getD (u1179 : Int).toNat default).fParams) ((((a1.fDecls.getD (u807 : Int).toNat default).fMethods).getD (u1179 : Int).toNat default).fParams))) default).bind (fun r1205 => (letV ((x1204 || (!r1205)) || (!(((((((a0.fDecls.getD (u807 : Int).toNat default).fMethods).getD (u1179 : Int).toNat default).fResult).fKind : Int) == (((((a1.fDecls.getD (u807 : Int).toNat default).fMethods).getD (u1179 : Int).toNat default).fResult).fKind)) && (((((((a0.fDecls.getD (u807 : Int).toNat default).fMethods).getD (u1179 : Int).toNat default).fResult).fLo : Int) == (((((a1.fDecls.getD (u807 : Int).toNat default).fMethods).getD (u1179 : Int).toNat default).fResult).fLo)) && (((((((a0.fDecls.getD (u807 : Int).toNat default).fMethods).getD (u1179 : Int).toNat default).fResult).fHi : Int) == (((((a1.fDecls.getD (u807 : Int).toNat default).fMethods).getD (u1179 : Int).toNat default).fResult).fHi)) && (((((((a0.fDecls.getD (u807 : Int).toNat default).fMethods).getD (u1179 : Int).toNat default).fResult).fName) == (((((a1.fDecls.getD (u807 : Int).toNat default).fMethods).getD (u1179 : Int).toNat default).fResult).fName)) && true)))))) (fun (x1206 : Bool) => ((condM (!x1206) (fnS (F34 K ((((a0.fDecls.getD (u807 : Int).toNat default).fMethods).getD (u1179 : Int).toNat default).fVars) ((((a1.fDecls.getD (u807 : Int).toNat default).fMethods).getD (u1179 : Int).toNat default).fVars))) default).bind (fun r1207 => ((condM (!(x1206 || (!r1207))) (fnS (F35 K ((((a0.fDecls.getD (u807 : Int).toNat default).fMethods).getD (u1179 : Int).toNat default).fBody) ((((a1.fDecls.getD (u807 : Int).toNat default).fMethods).getD (u1179 : Int).toNat default).fBody))) default).bind (fun r1208 => (if ((x1206 || (!r1207)) || (!r1208)) = true then (some (.inl (Sum.inr (Sum.inr (Sum.inr (Sum.inr (false))))))) else (some (.inr ())))))))))))))) ?_ (fun hk => ?_)
          ·
           refine Ref.sq ?_
           refine Ref.rn 13 ?_
           refine RefR.e0 (st' := ⟨[sP 2 0 0 0, sP 3 1 0 0, sI 5 u807, sP 6 2 0 0, sP 7 3 0 0, sI 8 u1179, sP 9 4 0 0, sP 10 5 0 0, sB 158 ((((!(((((a0.fDecls.getD (u807 : Int).toNat default).fMethods).getD (u1179 : Int).toNat default).fName) == ((((a1.fDecls.getD (u807 : Int).toNat default).fMethods).getD (u1179 : Int).toNat default).fName))) || (!(((((a0.fDecls.getD (u807 : Int).toNat default).fMethods).getD (u1179 : Int).toNat default).fOver) == ((((a1.fDecls.getD (u807 : Int).toNat default).fMethods).getD (u1179 : Int).toNat default).fOver)))) || (!(((((a0.fDecls.getD (u807 : Int).toNat default).fMethods).getD (u1179 : Int).toNat default).fAbstract) == ((((a1.fDecls.getD (u807 : Int).toNat default).fMethods).getD (u1179 : Int).toNat default).fAbstract)))) || (!(((((a0.fDecls.getD (u807 : Int).toNat default).fMethods).getD (u1179 : Int).toNat default).fFinal) == ((((a1.fDecls.getD (u807 : Int).toNat default).fMethods).getD (u1179 : Int).toNat default).fFinal)))), (160, .c (E118.tree ((((a0.fDecls.getD (u807 : Int).toNat default).fMethods).getD (u1179 : Int).toNat default).fParams))), (162, .c (E118.tree ((((a1.fDecls.getD (u807 : Int).toNat default).fMethods).getD (u1179 : Int).toNat default).fParams)))], [.cells (E44.cs a0), .cells (E44.cs a1), .cells (E60.cs (a0.fDecls.getD (u807 : Int).toNat default)), .cells (E60.cs (a1.fDecls.getD (u807 : Int).toNat default)), E93.o (((a0.fDecls.getD (u807 : Int).toNat default).fMethods).getD (u1179 : Int).toNat default), E93.o (((a1.fDecls.getD (u807 : Int).toNat default).fMethods).getD (u1179 : Int).toNat default)], [(162, [(158, false)]), (160, [(158, false)])], 0⟩) 0 31 31 [2, 3, 5, 6, 7, 8, 9, 10, 158, 160, 162] [0, 1, 2, 3, 4, 5] ?_
           refine RefR.letC (stf := fun x1204 => ⟨[sP 2 0 0 0, sP 3 1 0 0, sI 5 u807, sP 6 2 0 0, sP 7 3 0 0, sI 8 u1179, sP 9 4 0 0, sP 10 5 0 0, sB 158 x1204, (160, .c (E118.tree ((((a0.fDecls.getD (u807 : Int).toNat default).fMethods).getD (u1179 : Int).toNat default).fParams))), (162, .c (E118.tree ((((a1.fDecls.getD (u807 : Int).toNat default).fMethods).getD (u1179 : Int).toNat default).fParams)))], [.cells (E44.cs a0), .cells (E44.cs a1), .cells (E60.cs (a0.fDecls.getD (u807 : Int).toNat default)), .cells (E60.cs (a1.fDecls.getD (u807 : Int).toNat default)), E93.o (((a0.fDecls.getD (u807 : Int).toNat default).fMethods).getD (u1179 : Int).toNat default), E93.o (((a1.fDecls.getD (u807 : Int).toNat default).fMethods).getD (u1179 : Int).toNat default)], [(162, [(158, false)]), (160, [(158, false)])], 0⟩) (by kernel_rfl) (fun x1204 => ?_)
           refine RefR.lookC (t := 163) (g := [(158, false)]) (b := (!x1204)) 31 32 [] (default : Bool) rfl (by kernel_rfl) (F34_ok K ((((a0.fDecls.getD (u807 : Int).toNat default).fMethods).getD (u1179 : Int).toNat default).fParams) ((((a1.fDecls.getD (u807 : Int).toNat default).fMethods).getD (u1179 : Int).toNat default).fParams)) (fun _ => rfl) (fun r1205 => ?_)
           refine RefR.e0 (st' := ⟨[sP 2 0 0 0, sP 3 1 0 0, sI 5 u807, sP 6 2 0 0, sP 7 3 0 0, sI 8 u1179, sP 9 4 0 0, sP 10 5 0 0, sB 173 ((x1204 || (!r1205)) || (!(((((((a0.fDecls.getD (u807 : Int).toNat default).fMethods).getD (u1179 : Int).toNat default).fResult).fKind : Int) == (((((a1.fDecls.getD (u807 : Int).toNat default).fMethods).getD (u1179 : Int).toNat default).fResult).fKind)) && (((((((a0.fDecls.getD (u807 : Int).toNat default).fMethods).getD (u1179 : Int).toNat default).fResult).fLo : Int) == (((((a1.fDecls.getD (u807 : Int).toNat default).fMethods).getD (u1179 : Int).toNat default).fResult).fLo)) && (((((((a0.fDecls.getD (u807 : Int).toNat default).fMethods).getD (u1179 : Int).toNat default).fResult).fHi : Int) == (((((a1.fDecls.getD (u807 : Int).toNat default).fMethods).getD (u1179 : Int).toNat default).fResult).fHi)) && (((((((a0.fDecls.getD (u807 : Int).toNat default).fMethods).getD (u1179 : Int).toNat default).fResult).fName) == (((((a1.fDecls.getD (u807 : Int).toNat default).fMethods).getD (u1179 : Int).toNat default).fResult).fName)) && true)))))), (175, .c (E118.tree ((((a0.fDecls.getD (u807 : Int).toNat default).fMethods).getD (u1179 : Int).toNat default).fVars))), (177, .c (E118.tree ((((a1.fDecls.getD (u807 : Int).toNat default).fMethods).getD (u1179 : Int).toNat default).fVars)))], [.cells (E44.cs a0), .cells (E44.cs a1), .cells (E60.cs (a0.fDecls.getD (u807 : Int).toNat default)), .cells (E60.cs (a1.fDecls.getD (u807 : Int).toNat default)), E93.o (((a0.fDecls.getD (u807 : Int).toNat default).fMethods).getD (u1179 : Int).toNat default), E93.o (((a1.fDecls.getD (u807 : Int).toNat default).fMethods).getD (u1179 : Int).toNat default)], [(177, [(173, false)]), (175, [(173, false)])], 0⟩) 32 14 46 [2, 3, 5, 6, 7, 8, 9, 10, 173, 175, 177] [0, 1, 2, 3, 4, 5] ?_
           refine RefR.letC (stf := fun x1206 => ⟨[sP 2 0 0 0, sP 3 1 0 0, sI 5 u807, sP 6 2 0 0, sP 7 3 0 0, sI 8 u1179, sP 9 4 0 0, sP 10 5 0 0, sB 173 x1206, (175, .c (E118.tree ((((a0.fDecls.getD (u807 : Int).toNat default).fMethods).getD (u1179 : Int).toNat default).fVars))), (177, .c (E118.tree ((((a1.fDecls.getD (u807 : Int).toNat default).fMethods).getD (u1179 : Int).toNat default).fVars)))], [.cells (E44.cs a0), .cells (E44.cs a1), .cells (E60.cs (a0.fDecls.getD (u807 : Int).toNat default)), .cells (E60.cs (a1.fDecls.getD (u807 : Int).toNat default)), E93.o (((a0.fDecls.getD (u807 : Int).toNat default).fMethods).getD (u1179 : Int).toNat default), E93.o (((a1.fDecls.getD (u807 : Int).toNat default).fMethods).getD (u1179 : Int).toNat default)], [(177, [(173, false)]), (175, [(173, false)])], 0⟩) (by kernel_rfl) (fun x1206 => ?_)
           refine RefR.lookC (t := 178) (g := [(173, false)]) (b := (!x1206)) 46 47 [] (default : Bool) rfl (by kernel_rfl) (F34_ok K ((((a0.fDecls.getD (u807 : Int).toNat default).fMethods).getD (u1179 : Int).toNat default).fVars) ((((a1.fDecls.getD (u807 : Int).toNat default).fMethods).getD (u1179 : Int).toNat default).fVars)) (fun _ => rfl) (fun r1207 => ?_)
           refine RefR.e1 47 7 54 [2, 3, 5, 6, 7, 8, 181, 183, 185] [0, 1, 2, 3] ?_
           refine RefR.lookC (t := 186) (g := [(181, false)]) (b := (!(x1206 || (!r1207)))) 54 55 [] (default : Bool) rfl (by kernel_rfl) (F35_ok K ((((a0.fDecls.getD (u807 : Int).toNat default).fMethods).getD (u1179 : Int).toNat default).fBody) ((((a1.fDecls.getD (u807 : Int).toNat default).fMethods).getD (u1179 : Int).toNat default).fBody)) (fun _ => rfl) (fun r1208 => ?_)
           refine RefR.e0 (st' := ⟨[sP 2 0 0 0, sP 3 1 0 0, sI 5 u807, sP 6 2 0 0, sP 7 3 0 0, sI 8 u1179, sB 188 ((x1206 || (!r1207)) || (!r1208))], [.cells (E44.cs a0), .cells (E44.cs a1), .cells (E60.cs (a0.fDecls.getD (u807 : Int).toNat default)), .cells (E60.cs (a1.fDecls.getD (u807 : Int).toNat default))], [], 0⟩) 55 2 57 [2, 3, 5, 6, 7, 8, 188] [0, 1, 2, 3] ?_
           refine RefR.nl 57 ?_
           refine Ref.cn (.tmp 188) ((x1206 || (!r1207)) || (!r1208)) (fun hc => ?_) (fun hc => ?_)
           ·
            refine Ref.sq ?_
            refine Ref.rn 14 ?_
            refine RefR.e0 (st' := ⟨[sB 4 false], [], [], 0⟩) 0 1 1 [4] [] ?_
            refine RefR.nl 1 ?_
            exact Ref.rt (t := (Sum.inr (Sum.inr (Sum.inr (Sum.inr (false))))))
           ·
            refine Ref.sk ?_
            refine Ref.ck ⟨[sP 2 0 0 0, sP 3 1 0 0, sI 5 u807, sP 6 2 0 0, sP 7 3 0 0, sI 8 u1179], [.cells (E44.cs a0), .cells (E44.cs a1), .cells (E60.cs (a0.fDecls.getD (u807 : Int).toNat default)), .cells (E60.cs (a1.fDecls.getD (u807 : Int).toNat default))], [], 0⟩ [2, 3, 5, 6, 7, 8] [0, 1, 2, 3] ?_
            exact Ref.n0 (t := ())
          ·
           refine RefX.evC (vs := [inb u1179 ((a0.fDecls.getD (u807 : Int).toNat default).fMethods).length]) (st' := ⟨[sP 2 0 0 0, sP 3 1 0 0, sI 5 u807, sP 6 2 0 0, sP 7 3 0 0, sI 8 u1179, (126, .agg (E93.cs (((a0.fDecls.getD (u807 : Int).toNat default).fMethods).getD (u1179 : Int).toNat default))), sP 127 3 0 7, sI 129 u1179], [.cells (E44.cs a0), .cells (E44.cs a1), .cells (E60.cs (a0.fDecls.getD (u807 : Int).toNat default)), .cells (E60.cs (a1.fDecls.getD (u807 : Int).toNat default))], [], 0⟩) (fuel' := 7) [1, 3, 4] [2, 3, 5, 6, 7, 8, 126, 127, 129] [0, 1, 2, 3] rfl (by kernel_rfl) (by kernel_rfl) ?_
           refine RefX.pend (fuel' := 4) [[], [(9, 131)], [(8, 130), (9, 131)], [(6, 128), (8, 130), (9, 131)]] [(8, [inb u1179 ((a1.fDecls.getD (u807 : Int).toNat default).fMethods).length])] [(6, 128), (8, 130), (9, 131)] [2, 3, 5, 6, 7, 8, 126, 127, 129] [0, 1, 2, 3] ⟨[sP 2 0 0 0, sP 3 1 0 0, sI 5 u807, sP 6 2 0 0, sP 7 3 0 0, sI 8 u1179, (126, .agg (E93.cs (((a0.fDecls.getD (u807 : Int).toNat default).fMethods).getD (u1179 : Int).toNat default))), sP 127 3 0 7, (128, .c (E93.tree ((a1.fDecls.getD (u807 : Int).toNat default).fMethods))), sI 129 u1179, (130, .c (E93.ep (((a1.fDecls.getD (u807 : Int).toNat default).fMethods).getD (u1179 : Int).toNat default) 0)), (131, .agg (E93.cs (((a1.fDecls.getD (u807 : Int).toNat default).fMethods).getD (u1179 : Int).toNat default)))], [.cells (E44.cs a0), .cells (E44.cs a1), .cells (E60.cs (a0.fDecls.getD (u807 : Int).toNat default)), .cells (E60.cs (a1.fDecls.getD (u807 : Int).toNat default))], [], 0⟩ ?_
           refine RefXq.fork2 (fuel' := 3) 10 11 ?_ ?_
           ·
            refine RefXqi.adds0 (st' := ⟨[sP 2 0 0 0, sP 3 1 0 0, sI 5 u807, sP 6 2 0 0, sP 7 3 0 0, sI 8 u1179, sP 9 4 0 0, (126, .agg (E93.cs (((a0.fDecls.getD (u807 : Int).toNat default).fMethods).getD (u1179 : Int).toNat default))), sP 127 3 0 7, (128, .c (E93.tree ((a1.fDecls.getD (u807 : Int).toNat default).fMethods))), sI 129 u1179, (130, .c (E93.ep (((a1.fDecls.getD (u807 : Int).toNat default).fMethods).getD (u1179 : Int).toNat default) 0)), (131, .agg (E93.cs (((a1.fDecls.getD (u807 : Int).toNat default).fMethods).getD (u1179 : Int).toNat default)))], [.cells (E44.cs a0), .cells (E44.cs a1), .cells (E60.cs (a0.fDecls.getD (u807 : Int).toNat default)), .cells (E60.cs (a1.fDecls.getD (u807 : Int).toNat default)), oX3], [], 0⟩) 10 [2, 3, 5, 6, 7, 8, 9, 126, 127, 128, 129, 130, 131] [0, 1, 2, 3, 4] (by kernel_rfl) (by kernel_rfl) ?_
            refine RefXq.fork1 (fuel' := 2) 11 ?_
            refine RefXqi.adds0 (st' := ⟨[sP 2 0 0 0, sP 3 1 0 0, sI 5 u807, sP 6 2 0 0, sP 7 3 0 0, sI 8 u1179, sP 9 4 0 0, sP 10 5 0 0, (126, .agg (E93.cs (((a0.fDecls.getD (u807 : Int).toNat default).fMethods).getD (u1179 : Int).toNat default))), sP 127 3 0 7, (128, .c (E93.tree ((a1.fDecls.getD (u807 : Int).toNat default).fMethods))), sI 129 u1179, (130, .c (E93.ep (((a1.fDecls.getD (u807 : Int).toNat default).fMethods).getD (u1179 : Int).toNat default) 0)), (131, .agg (E93.cs (((a1.fDecls.getD (u807 : Int).toNat default).fMethods).getD (u1179 : Int).toNat default)))], [.cells (E44.cs a0), .cells (E44.cs a1), .cells (E60.cs (a0.fDecls.getD (u807 : Int).toNat default)), .cells (E60.cs (a1.fDecls.getD (u807 : Int).toNat default)), oX3, oX3], [], 0⟩) 11 [2, 3, 5, 6, 7, 8, 9, 10, 126, 127, 128, 129, 130, 131] [0, 1, 2, 3, 4, 5] (by kernel_rfl) (by kernel_rfl) ?_
            refine RefXq.fork1 (fuel' := 1) 12 ?_
            refine RefXqi.writes0 (st' := ⟨[sP 2 0 0 0, sP 3 1 0 0, sI 5 u807, sP 6 2 0 0, sP 7 3 0 0, sI 8 u1179, sP 9 4 0 0, sP 10 5 0 0, sP 127 3 0 7, (128, .c (E93.tree ((a1.fDecls.getD (u807 : Int).toNat default).fMethods))), sI 129 u1179, (130, .c (E93.ep (((a1.fDecls.getD (u807 : Int).toNat default).fMethods).getD (u1179 : Int).toNat default) 0)), (131, .agg (E93.cs (((a1.fDecls.getD (u807 : Int).toNat default).fMethods).getD (u1179 : Int).toNat default)))], [.cells (E44.cs a0), .cells (E44.cs a1), .cells (E60.cs (a0.fDecls.getD (u807 : Int).toNat default)), .cells (E60.cs (a1.fDecls.getD (u807 : Int).toNat default)), E93.o (((a0.fDecls.getD (u807 : Int).toNat default).fMethods).getD (u1179 : Int).toNat default), oX3], [], 0⟩) 12 [2, 3, 5, 6, 7, 8, 9, 10, 127, 128, 129, 130, 131] [0, 1, 2, 3, 4, 5] (by kernel_rfl) (by kernel_rfl) ?_
            refine RefXq.close ?_
            refine RefX.fork1 (fuel' := 0) 13 (by kernel_rfl) ?_
            refine RefXi.w0 13 [2, 3, 5, 6, 7, 8, 9, 10] [0, 1, 2, 3, 4, 5] ?_
            refine RefX.done (by kernel_rfl) ?_
            refine Ref.ck ⟨[sP 2 0 0 0, sP 3 1 0 0, sI 5 u807, sP 6 2 0 0, sP 7 3 0 0, sI 8 u1179, sP 9 4 0 0, sP 10 5 0 0], [.cells (E44.cs a0), .cells (E44.cs a1), .cells (E60.cs (a0.fDecls.getD (u807 : Int).toNat default)), .cells (E60.cs (a1.fDecls.getD (u807 : Int).toNat default)), E93.o (((a0.fDecls.getD (u807 : Int).toNat default).fMethods).getD (u1179 : Int).toNat default), E93.o (((a1.fDecls.getD (u807 : Int).toNat default).fMethods).getD (u1179 : Int).toNat default)], [], 0⟩ [2, 3, 5, 6, 7, 8, 9, 10] [0, 1, 2, 3, 4, 5] ?_
            exact hk
           ·
            refine RefXqi.adds0 (st' := ⟨[sP 2 0 0 0, sP 3 1 0 0, sI 5 u807, sP 6 2 0 0, sP 7 3 0 0, sI 8 u1179, sP 10 4 0 0, (126, .agg (E93.cs (((a0.fDecls.getD (u807 : Int).toNat default).fMethods).getD (u1179 : Int).toNat default))), sP 127 3 0 7, (128, .c (E93.tree ((a1.fDecls.getD (u807 : Int).toNat default).fMethods))), sI 129 u1179, (130, .c (E93.ep (((a1.fDecls.getD (u807 : Int).toNat default).fMethods).getD (u1179 : Int).toNat default) 0)), (131, .agg (E93.cs (((a1.fDecls.getD (u807 : Int).toNat default).fMethods).getD (u1179 : Int).toNat default)))], [.cells (E44.cs a0), .cells (E44.cs a1), .cells (E60.cs (a0.fDecls.getD (u807 : Int).toNat default)), .cells (E60.cs (a1.fDecls.getD (u807 : Int).toNat default)), oX3], [], 0⟩) 11 [2, 3, 5, 6, 7, 8, 10, 126, 127, 128, 129, 130, 131] [0, 1, 2, 3, 4] (by kernel_rfl) (by kernel_rfl) ?_
            refine RefXq.fork1 (fuel' := 2) 10 ?_
            refine RefXqi.adds0 (st' := ⟨[sP 2 0 0 0, sP 3 1 0 0, sI 5 u807, sP 6 2 0 0, sP 7 3 0 0, sI 8 u1179, sP 9 5 0 0, sP 10 4 0 0, (126, .agg (E93.cs (((a0.fDecls.getD (u807 : Int).toNat default).fMethods).getD (u1179 : Int).toNat default))), sP 127 3 0 7, (128, .c (E93.tree ((a1.fDecls.getD (u807 : Int).toNat default).fMethods))), sI 129 u1179, (130, .c (E93.ep (((a1.fDecls.getD (u807 : Int).toNat default).fMethods).getD (u1179 : Int).toNat default) 0)), (131, .agg (E93.cs (((a1.fDecls.getD (u807 : Int).toNat default).fMethods).getD (u1179 : Int).toNat default)))], [.cells (E44.cs a0), .cells (E44.cs a1), .cells (E60.cs (a0.fDecls.getD (u807 : Int).toNat default)), .cells (E60.cs (a1.fDecls.getD (u807 : Int).toNat default)), oX3, oX3], [], 0⟩) 10 [2, 3, 5, 6, 7, 8, 9, 10, 126, 127, 128, 129, 130, 131] [0, 1, 2, 3, 4, 5] (by kernel_rfl) (by kernel_rfl) ?_
            refine RefXq.fork1 (fuel' := 1) 12 ?_
            refine RefXqi.writes0 (st' := ⟨[sP 2 0 0 0, sP 3 1 0 0, sI 5 u807, sP 6 2 0 0, sP 7 3 0 0, sI 8 u1179, sP 9 5 0 0, sP 10 4 0 0, sP 127 3 0 7, (128, .c (E93.tree ((a1.fDecls.getD (u807 : Int).toNat default).fMethods))), sI 129 u1179, (130, .c (E93.ep (((a1.fDecls.getD (u807 : Int).toNat default).fMethods).getD (u1179 : Int).toNat default) 0)), (131, .agg (E93.cs (((a1.fDecls.getD (u807 : Int).toNat default).fMethods).getD (u1179 : Int).toNat default)))], [.cells (E44.cs a0), .cells (E44.cs a1), .cells (E60.cs (a0.fDecls.getD (u807 : Int).toNat default)), .cells (E60.cs (a1.fDecls.getD (u807 : Int).toNat default)), oX3, E93.o (((a0.fDecls.getD (u807 : Int).toNat default).fMethods).getD (u1179 : Int).toNat default)], [], 0⟩) 12 [2, 3, 5, 6, 7, 8, 9, 10, 127, 128, 129, 130, 131] [0, 1, 2, 3, 4, 5] (by kernel_rfl) (by kernel_rfl) ?_
            refine RefXq.close ?_
            refine RefX.fork1 (fuel' := 0) 13 (by kernel_rfl) ?_
            refine RefXi.w0 13 [2, 3, 5, 6, 7, 8, 9, 10] [0, 1, 2, 3, 4, 5] ?_
            refine RefX.done (by kernel_rfl) ?_
            refine Ref.ck ⟨[sP 2 0 0 0, sP 3 1 0 0, sI 5 u807, sP 6 2 0 0, sP 7 3 0 0, sI 8 u1179, sP 9 4 0 0, sP 10 5 0 0], [.cells (E44.cs a0), .cells (E44.cs a1), .cells (E60.cs (a0.fDecls.getD (u807 : Int).toNat default)), .cells (E60.cs (a1.fDecls.getD (u807 : Int).toNat default)), E93.o (((a0.fDecls.getD (u807 : Int).toNat default).fMethods).getD (u1179 : Int).toNat default), E93.o (((a1.fDecls.getD (u807 : Int).toNat default).fMethods).getD (u1179 : Int).toNat default)], [], 0⟩ [2, 3, 5, 6, 7, 8, 9, 10] [0, 1, 2, 3, 5, 4] ?_
            exact hk
         ·
          refine Ref.rn 11 ?_
          refine RefR.e0 (st' := ⟨[sP 2 0 0 0, sP 3 1 0 0, sI 5 u807, sP 6 2 0 0, sP 7 3 0 0, sI 8 (IntKind.i64.wrap (u1179 + 1))], [.cells (E44.cs a0), .cells (E44.cs a1), .cells (E60.cs (a0.fDecls.getD (u807 : Int).toNat default)), .cells (E60.cs (a1.fDecls.getD (u807 : Int).toNat default))], [], 0⟩) 0 3 3 [2, 3, 5, 6, 7, 8] [0, 1, 2, 3] ?_
          refine RefR.nl 3 ?_
          exact Ref.n0 (t := ((IntKind.i64.wrap (u1179 + 1))))
        ·
         refine Ref.ck ⟨[sP 2 0 0 0, sP 3 1 0 0, sI 5 u807], [.cells (E44.cs a0), .cells (E44.cs a1)], [], 0⟩ [2, 3, 5] [0, 1] ?_
         exact Ref.xt 2 (t := (Sum.inl ()))
       ·
        exact Ref.n0 (t := ())
     ·
      refine RefX.evC (vs := [inb u807 a0.fDecls.length]) (st' := ⟨[sP 2 0 0 0, sP 3 1 0 0, sI 5 u807, (29, .agg (E60.cs (a0.fDecls.getD (u807 : Int).toNat default))), sP 30 1 0 0, sI 32 u807], [.cells (E44.cs a0), .cells (E44.cs a1)], [], 0⟩) (fuel' := 7) [1, 3, 4] [2, 3, 5, 29, 30, 32] [0, 1] rfl (by kernel_rfl) (by kernel_rfl) ?_
      refine RefX.pend (fuel' := 4) [[], [(9, 34)], [(8, 33), (9, 34)], [(6, 31), (8, 33), (9, 34)]] [(8, [inb u807 a1.fDecls.length])] [(6, 31), (8, 33), (9, 34)] [2, 3, 5, 29, 30, 32] [0, 1] ⟨[sP 2 0 0 0, sP 3 1 0 0, sI 5 u807, (29, .agg (E60.cs (a0.fDecls.getD (u807 : Int).toNat default))), sP 30 1 0 0, (31, .c (E60.tree a1.fDecls)), sI 32 u807, (33, .c (E60.ep (a1.fDecls.getD (u807 : Int).toNat default) 0)), (34, .agg (E60.cs (a1.fDecls.getD (u807 : Int).toNat default)))], [.cells (E44.cs a0), .cells (E44.cs a1)], [], 0⟩ ?_
      refine RefXq.fork2 (fuel' := 3) 10 11 ?_ ?_
      ·
       refine RefXqi.adds0 (st' := ⟨[sP 2 0 0 0, sP 3 1 0 0, sI 5 u807, sP 6 2 0 0, (29, .agg (E60.cs (a0.fDecls.getD (u807 : Int).toNat default))), sP 30 1 0 0, (31, .c (E60.tree a1.fDecls)), sI 32 u807, (33, .c (E60.ep (a1.fDecls.getD (u807 : Int).toNat default) 0)), (34, .agg (E60.cs (a1.fDecls.getD (u807 : Int).toNat default)))], [.cells (E44.cs a0), .cells (E44.cs a1), oX1], [], 0⟩) 10 [2, 3, 5, 6, 29, 30, 31, 32, 33, 34] [0, 1, 2] (by kernel_rfl) (by kernel_rfl) ?_
       refine RefXq.fork1 (fuel' := 2) 11 ?_
       refine RefXqi.adds0 (st' := ⟨[sP 2 0 0 0, sP 3 1 0 0, sI 5 u807, sP 6 2 0 0, sP 7 3 0 0, (29, .agg (E60.cs (a0.fDecls.getD (u807 : Int).toNat default))), sP 30 1 0 0, (31, .c (E60.tree a1.fDecls)), sI 32 u807, (33, .c (E60.ep (a1.fDecls.getD (u807 : Int).toNat default) 0)), (34, .agg (E60.cs (a1.fDecls.getD (u807 : Int).toNat default)))], [.cells (E44.cs a0), .cells (E44.cs a1), oX1, oX1], [], 0⟩) 11 [2, 3, 5, 6, 7, 29, 30, 31, 32, 33, 34] [0, 1, 2, 3] (by kernel_rfl) (by kernel_rfl) ?_
       refine RefXq.fork1 (fuel' := 1) 12 ?_
       refine RefXqi.writes0 (st' := ⟨[sP 2 0 0 0, sP 3 1 0 0, sI 5 u807, sP 6 2 0 0, sP 7 3 0 0, sP 30 1 0 0, (31, .c (E60.tree a1.fDecls)), sI 32 u807, (33, .c (E60.ep (a1.fDecls.getD (u807 : Int).toNat default) 0)), (34, .agg (E60.cs (a1.fDecls.getD (u807 : Int).toNat default)))], [.cells (E44.cs a0), .cells (E44.cs a1), .cells (E60.cs (a0.fDecls.getD (u807 : Int).toNat default)), oX1], [], 0⟩) 12 [2, 3, 5, 6, 7, 30, 31, 32, 33, 34] [0, 1, 2, 3] (by kernel_rfl) (by kernel_rfl) ?_
       refine RefXq.close ?_
       refine RefX.fork1 (fuel' := 0) 13 (by kernel_rfl) ?_
       refine RefXi.w0 13 [2, 3, 5, 6, 7] [0, 1, 2, 3] ?_
       refine RefX.done (by kernel_rfl) ?_
       refine Ref.ck ⟨[sP 2 0 0 0, sP 3 1 0 0, sI 5 u807, sP 6 2 0 0, sP 7 3 0 0], [.cells (E44.cs a0), .cells (E44.cs a1), .cells (E60.cs (a0.fDecls.getD (u807 : Int).toNat default)), .cells (E60.cs (a1.fDecls.getD (u807 : Int).toNat default))], [], 0⟩ [2, 3, 5, 6, 7] [0, 1, 2, 3] ?_
       exact hk
      ·
       refine RefXqi.adds0 (st' := ⟨[sP 2 0 0 0, sP 3 1 0 0, sI 5 u807, sP 7 2 0 0, (29, .agg (E60.cs (a0.fDecls.getD (u807 : Int).toNat default))), sP 30 1 0 0, (31, .c (E60.tree a1.fDecls)), sI 32 u807, (33, .c (E60.ep (a1.fDecls.getD (u807 : Int).toNat default) 0)), (34, .agg (E60.cs (a1.fDecls.getD (u807 : Int).toNat default)))], [.cells (E44.cs a0), .cells (E44.cs a1), oX1], [], 0⟩) 11 [2, 3, 5, 7, 29, 30, 31, 32, 33, 34] [0, 1, 2] (by kernel_rfl) (by kernel_rfl) ?_
       refine RefXq.fork1 (fuel' := 2) 10 ?_
       refine RefXqi.adds0 (st' := ⟨[sP 2 0 0 0, sP 3 1 0 0, sI 5 u807, sP 6 3 0 0, sP 7 2 0 0, (29, .agg (E60.cs (a0.fDecls.getD (u807 : Int).toNat default))), sP 30 1 0 0, (31, .c (E60.tree a1.fDecls)), sI 32 u807, (33, .c (E60.ep (a1.fDecls.getD (u807 : Int).toNat default) 0)), (34, .agg (E60.cs (a1.fDecls.getD (u807 : Int).toNat default)))], [.cells (E44.cs a0), .cells (E44.cs a1), oX1, oX1], [], 0⟩) 10 [2, 3, 5, 6, 7, 29, 30, 31, 32, 33, 34] [0, 1, 2, 3] (by kernel_rfl) (by kernel_rfl) ?_
       refine RefXq.fork1 (fuel' := 1) 12 ?_
       refine RefXqi.writes0 (st' := ⟨[sP 2 0 0 0, sP 3 1 0 0, sI 5 u807, sP 6 3 0 0, sP 7 2 0 0, sP 30 1 0 0, (31, .c (E60.tree a1.fDecls)), sI 32 u807, (33, .c (E60.ep (a1.fDecls.getD (u807 : Int).toNat default) 0)), (34, .agg (E60.cs (a1.fDecls.getD (u807 : Int).toNat default)))], [.cells (E44.cs a0), .cells (E44.cs a1), oX1, .cells (E60.cs (a0.fDecls.getD (u807 : Int).toNat default))], [], 0⟩) 12 [2, 3, 5, 6, 7, 30, 31, 32, 33, 34] [0, 1, 2, 3] (by kernel_rfl) (by kernel_rfl) ?_
       refine RefXq.close ?_
       refine RefX.fork1 (fuel' := 0) 13 (by kernel_rfl) ?_
       refine RefXi.w0 13 [2, 3, 5, 6, 7] [0, 1, 2, 3] ?_
       refine RefX.done (by kernel_rfl) ?_
       refine Ref.ck ⟨[sP 2 0 0 0, sP 3 1 0 0, sI 5 u807, sP 6 2 0 0, sP 7 3 0 0], [.cells (E44.cs a0), .cells (E44.cs a1), .cells (E60.cs (a0.fDecls.getD (u807 : Int).toNat default)), .cells (E60.cs (a1.fDecls.getD (u807 : Int).toNat default))], [], 0⟩ [2, 3, 5, 6, 7] [0, 1, 3, 2] ?_
       exact hk
    ·
     refine Ref.rn 5 ?_
     refine RefR.e0 (st' := ⟨[sP 2 0 0 0, sP 3 1 0 0, sI 5 (IntKind.i64.wrap (u807 + 1))], [.cells (E44.cs a0), .cells (E44.cs a1)], [], 0⟩) 0 3 3 [2, 3, 5] [0, 1] ?_
     refine RefR.nl 3 ?_
     exact Ref.n0 (t := ((IntKind.i64.wrap (u807 + 1))))
   ·
    refine Ref.ck ⟨[], [], [], 0⟩ [] [] ?_
    exact Ref.xt 0 (t := (Sum.inl ()))
  ·
   refine Ref.sq ?_
   refine Ref.rn 15 ?_
   refine RefR.e0 (st' := ⟨[sB 4 true], [], [], 0⟩) 0 1 1 [4] [] ?_
   refine RefR.nl 1 ?_
   exact Ref.rt (t := (true))
end Go.Proofs.YtphnfaabcnciiaaGreatDoor
