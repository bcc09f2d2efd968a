/- Plain functions, and that the Go functions do what these do: printed by gen2.py. No conditions. -/
import Derived.Test.YtphnfaabcnciiaaGreatDoorTm
import Derived.Test.YtphnfaabcnciiaaGreatDoorProg
set_option linter.unusedVariables false
set_option linter.unusedSimpArgs false
set_option linter.unusedSectionVars false
namespace Go.Proofs.YtphnfaabcnciiaaGreatDoor
open Go Go.Proofs Go.Dl
set_option maxRecDepth 100000
set_option maxHeartbeats 4000000
noncomputable def F5 (K : Nat) (a0 : Bytes) (a1 : Int) : Option ((Bool) ⊕ (Bool)) :=
 (letV (decide (((Int.ofNat a0.length) : Int) > 1500)) (fun (x1 : Bool) => (if x1 = true then ((fnS (F7 K)).bind (fun r2 => (some (.inl (r2))))) else ((fnS (F13 K a0)).bind (fun r3 => (if (!(!errS r3.2.2)) = true then ((fnS (F10 K r3.2.2)).bind (fun r4 => (letV ((((((decide ((r4.1 : Int) ≥ 1)) && (decide ((r4.1 : Int) ≤ 5))) && (decide ((r4.2 : Int) ≥ 0))) && (decide ((r4.2 : Int) ≤ (Int.ofNat a0.length)))) && (((Int.ofNat r3.1.fDecls.length) : Int) == 0)) && (((Int.ofNat r3.2.1.length) : Int) == 0)) (fun (x5 : Bool) => ((condM x5 (fnS (F7 K)) default).bind (fun r6 => (some (.inl ((x5 && r6)))))))))) else ((fnS (F12 K a0)).bind (fun r7 => (letV ((!(!errS r7.2)) || (((Int.ofNat r3.2.1.length) : Int) != (Int.ofNat r3.1.fDecls.length))) (fun (x8 : Bool) => (if x8 = true then (some (.inl (false))) else (if (((Int.ofNat r7.1.length) : Int) == 0) = true then (letV (((Int.ofNat r3.1.fDecls.length) : Int) == 0) (fun (x9 : Bool) => ((condM x9 (fnS (F7 K)) default).bind (fun r10 => (some (.inl ((x9 && r10)))))))) else ((fnS (F16 K a1 (Int.ofNat r7.1.length))).bind (fun r11 => (chk [inb r11 r7.1.length, !(!(decide ((((r7.1.getD (r11 : Int).toNat default).fAt) : Int) < 0))) || inb r11 r7.1.length] (letV ((decide ((((r7.1.getD (r11 : Int).toNat default).fAt) : Int) < 0)) || (decide ((((r7.1.getD (r11 : Int).toNat default).fAt) : Int) > (Int.ofNat a0.length)))) (fun (x12 : Bool) => (if x12 = true then (some (.inl (false))) else (chk [inb r11 r7.1.length, bndOk a0.length 0 ((r7.1.getD (r11 : Int).toNat default).fAt)] (letV ((a0.drop (0 : Int).toNat).take ((((r7.1.getD (r11 : Int).toNat default).fAt) : Int).toNat - (0 : Int).toNat)) (fun (x13 : Bytes) => ((fnS (F13 K x13)).bind (fun r14 => (if (!(!errS r14.2.2)) = true then ((fnS (F10 K r14.2.2)).bind (fun r15 => (letV (((r15.1 : Int) == 3) && ((r15.2 : Int) == (Int.ofNat x13.length))) (fun (x16 : Bool) => ((condM x16 (fnS (F7 K)) default).bind (fun r17 => (some (.inl ((x16 && r17)))))))))) else (letV (decide (((Int.ofNat r14.1.fDecls.length) : Int) ≤ (Int.ofNat r3.1.fDecls.length))) (fun (x18 : Bool) => (chk [x18] (chk [bndOk r3.1.fDecls.length 0 (Int.ofNat r14.1.fDecls.length)] ((condM true (fnS (F15e K r14.1 (⟨((r3.1.fDecls.drop (0 : Int).toNat).take (((Int.ofNat r14.1.fDecls.length) : Int).toNat - (0 : Int).toNat))⟩ : S44))) default).bind (fun r20 => ((condM (true && r20) (fnS (F7 K)) default).bind (fun r21 => (some (.inl (((true && r20) && r21))))))))))))))))))))))))))))))))))))
theorem F5_ok (K : Nat) (a0 : Bytes) (a1 : Int) : DFun Tryz.prog 5 [.c (.str a0), .c (.val (.int .i64 a1))] [] (fnS (F5 K a0 a1)) (fun r => .c (.val (.bool r))) (fun r => []) := by
 refine DFun.it Tryz.f5 (fun r => ⟨[sB 4 r], [], [], 0⟩) ?_
 unfold F5
 refine Ref.sq ?_
 refine Ref.rn 0 ?_
 refine RefR.e0 (st' := ⟨[sS 0 a0, sI 1 a1], [], [], 0⟩) 0 1 1 [0, 1] [] ?_
 refine RefR.nl 1 ?_
 refine Ref.sq ?_
 refine Ref.sq ?_
 refine Ref.rn 1 ?_
 refine RefR.e0 (st' := ⟨[sS 0 a0, sI 1 a1, sB 20 (decide (((Int.ofNat a0.length) : Int) > 1500))], [], [], 0⟩) 0 3 3 [0, 1, 20] [] ?_
 refine RefR.letC (stf := fun x1 => ⟨[sS 0 a0, sI 1 a1, sB 20 x1], [], [], 0⟩) (by kernel_rfl) (fun x1 => ?_)
 refine RefR.nl 3 ?_
 refine Ref.cn (.tmp 20) x1 (fun hc => ?_) (fun hc => ?_)
 ·
  refine Ref.sq ?_
  refine Ref.rn 2 ?_
  refine RefR.cc 21 0 1 [] (F7_ok K) (fun r2 => ?_)
  refine RefR.e0 (st' := ⟨[sB 4 r2], [], [], 0⟩) 1 1 2 [4] [] ?_
  refine RefR.nl 2 ?_
  exact Ref.rt (t := (r2))
 ·
  refine Ref.sk ?_
  refine Ref.sq ?_
  refine Ref.rn 3 ?_
  refine RefR.e1 0 1 1 [0, 1, 23] [] ?_
  refine RefR.cc 24 1 2 [] (F13_ok K a0) (fun r3 => ?_)
  refine RefR.e0 (st' := ⟨[sS 0 a0, sI 1 a1, sP 5 0 0 0, (6, .c (E3.tree r3.2.1)), (7, .c (errC r3.2.2))], [.cells (E44.cs r3.1)], [], 0⟩) 2 8 10 [0, 1, 5, 6, 7] [1] ?_
  refine RefR.nl 10 ?_
  refine Ref.sq ?_
  refine Ref.sq ?_
  refine Ref.rn 4 ?_
  refine RefR.e0 (st' := ⟨[sS 0 a0, sI 1 a1, sP 5 0 0 0, (6, .c (E3.tree r3.2.1)), (7, .c (errC r3.2.2)), sB 29 (!(!errS r3.2.2))], [.cells (E44.cs r3.1)], [], 0⟩) 0 2 2 [0, 1, 5, 6, 7, 29] [0] ?_
  refine RefR.nl 2 ?_
  refine Ref.cn (.tmp 29) (!(!errS r3.2.2)) (fun hc => ?_) (fun hc => ?_)
  ·
   refine Ref.sq ?_
   refine Ref.rn 5 ?_
   refine RefR.e1 0 1 1 [0, 5, 6, 31] [0] ?_
   refine RefR.cc 32 1 2 [] (F10_ok K r3.2.2) (fun r4 => ?_)
   refine RefR.e0 (st' := ⟨[sS 0 a0, sP 5 0 0 0, (6, .c (E3.tree r3.2.1)), sI 8 r4.1, sI 9 r4.2], [.cells (E44.cs r3.1)], [], 0⟩) 2 5 7 [0, 5, 6, 8, 9] [0] ?_
   refine RefR.nl 7 ?_
   refine Ref.sq ?_
   refine Ref.rn 6 ?_
   refine RefR.e0 (st' := ⟨[sB 62 ((((((decide ((r4.1 : Int) ≥ 1)) && (decide ((r4.1 : Int) ≤ 5))) && (decide ((r4.2 : Int) ≥ 0))) && (decide ((r4.2 : Int) ≤ (Int.ofNat a0.length)))) && (((Int.ofNat r3.1.fDecls.length) : Int) == 0)) && (((Int.ofNat r3.2.1.length) : Int) == 0))], [], [], 0⟩) 0 28 28 [62] [] ?_
   refine RefR.letC (stf := fun x5 => ⟨[sB 62 x5], [], [], 0⟩) (by kernel_rfl) (fun x5 => ?_)
   refine RefR.lookC (t := 63) (g := [(62, true)]) (b := x5) 28 29 [] (default : Bool) rfl (by kernel_rfl) (F7_ok K) (fun _ => rfl) (fun r6 => ?_)
   refine RefR.e0 (st' := ⟨[sB 4 (x5 && r6)], [], [], 0⟩) 29 2 31 [4] [] ?_
   refine RefR.nl 31 ?_
   exact Ref.rt (t := ((x5 && r6)))
  ·
   refine Ref.sk ?_
   refine Ref.sq ?_
   refine Ref.rn 7 ?_
   refine RefR.e1 0 1 1 [0, 1, 5, 6, 66] [0] ?_
   refine RefR.cc 67 1 2 [] (F12_ok K a0) (fun r7 => ?_)
   refine RefR.e0 (st' := ⟨[sS 0 a0, sI 1 a1, sP 5 0 0 0, (6, .c (E3.tree r3.2.1)), (10, .c (E41.tree r7.1)), (11, .c (errC r7.2))], [.cells (E44.cs r3.1)], [], 0⟩) 2 5 7 [0, 1, 5, 6, 10, 11] [0] ?_
   refine RefR.nl 7 ?_
   refine Ref.sq ?_
   refine Ref.sq ?_
   refine Ref.rn 8 ?_
   refine RefR.e0 (st' := ⟨[sS 0 a0, sI 1 a1, sP 5 0 0 0, (10, .c (E41.tree r7.1)), sB 79 ((!(!errS r7.2)) || (((Int.ofNat r3.2.1.length) : Int) != (Int.ofNat r3.1.fDecls.length)))], [.cells (E44.cs r3.1)], [], 0⟩) 0 10 10 [0, 1, 5, 10, 79] [0] ?_
   refine RefR.letC (stf := fun x8 => ⟨[sS 0 a0, sI 1 a1, sP 5 0 0 0, (10, .c (E41.tree r7.1)), sB 79 x8], [.cells (E44.cs r3.1)], [], 0⟩) (by kernel_rfl) (fun x8 => ?_)
   refine RefR.nl 10 ?_
   refine Ref.cn (.tmp 79) x8 (fun hc => ?_) (fun hc => ?_)
   ·
    refine Ref.sq ?_
    refine Ref.rn 9 ?_
    refine RefR.e0 (st' := ⟨[sB 4 false], [], [], 0⟩) 0 1 1 [4] [] ?_
    refine RefR.nl 1 ?_
    exact Ref.rt (t := (false))
   ·
    refine Ref.sk ?_
    refine Ref.sq ?_
    refine Ref.sq ?_
    refine Ref.rn 10 ?_
    refine RefR.e0 (st' := ⟨[sS 0 a0, sI 1 a1, sP 5 0 0 0, (10, .c (E41.tree r7.1)), sB 82 (((Int.ofNat r7.1.length) : Int) == 0)], [.cells (E44.cs r3.1)], [], 0⟩) 0 3 3 [0, 1, 5, 10, 82] [0] ?_
    refine RefR.nl 3 ?_
    refine Ref.cn (.tmp 82) (((Int.ofNat r7.1.length) : Int) == 0) (fun hc => ?_) (fun hc => ?_)
    ·
     refine Ref.sq ?_
     refine Ref.rn 11 ?_
     refine RefR.e0 (st' := ⟨[sB 87 (((Int.ofNat r3.1.fDecls.length) : Int) == 0)], [], [], 0⟩) 0 5 5 [87] [] ?_
     refine RefR.letC (stf := fun x9 => ⟨[sB 87 x9], [], [], 0⟩) (by kernel_rfl) (fun x9 => ?_)
     refine RefR.lookC (t := 88) (g := [(87, true)]) (b := x9) 5 6 [] (default : Bool) rfl (by kernel_rfl) (F7_ok K) (fun _ => rfl) (fun r10 => ?_)
     refine RefR.e0 (st' := ⟨[sB 4 (x9 && r10)], [], [], 0⟩) 6 2 8 [4] [] ?_
     refine RefR.nl 8 ?_
     exact Ref.rt (t := ((x9 && r10)))
    ·
     refine Ref.sk ?_
     refine Ref.sq ?_
     refine Ref.rn 12 ?_
     refine RefR.e1 0 3 3 [0, 5, 10, 90, 92] [0] ?_
     refine RefR.cc 93 3 4 [] (F16_ok K a1 (Int.ofNat r7.1.length)) (fun r11 => ?_)
     refine RefR.e0 (st' := ⟨[sS 0 a0, sI 1 r11, sP 5 0 0 0, (10, .c (E41.tree r7.1))], [.cells (E44.cs r3.1)], [], 0⟩) 4 1 5 [0, 1, 5, 10] [0] ?_
     refine RefR.nl 5 ?_
     refine Ref.sq ?_
     refine Ref.sq ?_
     refine Ref.rn 13 ?_
     refine RefR.evC (vs := [inb r11 r7.1.length, !(!(decide ((((r7.1.getD (r11 : Int).toNat default).fAt) : Int) < 0))) || inb r11 r7.1.length]) (st' := ⟨[sS 0 a0, sI 1 r11, sP 5 0 0 0, (10, .c (E41.tree r7.1)), sB 109 ((decide ((((r7.1.getD (r11 : Int).toNat default).fAt) : Int) < 0)) || (decide ((((r7.1.getD (r11 : Int).toNat default).fAt) : Int) > (Int.ofNat a0.length))))], [.cells (E44.cs r3.1)], [], 0⟩) 0 16 16 [0, 1, 5, 10, 109] [0] rfl (by kernel_rfl) ?_
     refine RefR.letC (stf := fun x12 => ⟨[sS 0 a0, sI 1 r11, sP 5 0 0 0, (10, .c (E41.tree r7.1)), sB 109 x12], [.cells (E44.cs r3.1)], [], 0⟩) (by kernel_rfl) (fun x12 => ?_)
     refine RefR.nl 16 ?_
     refine Ref.cn (.tmp 109) x12 (fun hc => ?_) (fun hc => ?_)
     ·
      refine Ref.sq ?_
      refine Ref.rn 14 ?_
      refine RefR.e0 (st' := ⟨[sB 4 false], [], [], 0⟩) 0 1 1 [4] [] ?_
      refine RefR.nl 1 ?_
      exact Ref.rt (t := (false))
     ·
      refine Ref.sk ?_
      refine Ref.sq ?_
      refine Ref.rn 15 ?_
      refine RefR.evC (vs := [inb r11 r7.1.length, bndOk a0.length 0 ((r7.1.getD (r11 : Int).toNat default).fAt)]) (st' := ⟨[sP 5 0 0 0, sS 12 ((a0.drop (0 : Int).toNat).take ((((r7.1.getD (r11 : Int).toNat default).fAt) : Int).toNat - (0 : Int).toNat))], [.cells (E44.cs r3.1)], [], 0⟩) 0 8 8 [5, 12] [0] rfl (by kernel_rfl) ?_
      refine RefR.letC (stf := fun x13 => ⟨[sP 5 0 0 0, sS 12 x13], [.cells (E44.cs r3.1)], [], 0⟩) (by kernel_rfl) (fun x13 => ?_)
      refine RefR.nl 8 ?_
      refine Ref.sq ?_
      refine Ref.rn 16 ?_
      refine RefR.e1 0 1 1 [5, 12, 118] [0] ?_
      refine RefR.cc 119 1 2 [] (F13_ok K x13) (fun r14 => ?_)
      refine RefR.e0 (st' := ⟨[sP 5 0 0 0, sS 12 x13, sP 13 1 0 0, (15, .c (errC r14.2.2))], [.cells (E44.cs r3.1), .cells (E44.cs r14.1)], [], 0⟩) 2 8 10 [5, 12, 13, 15] [0, 2] ?_
      refine RefR.nl 10 ?_
      refine Ref.sq ?_
      refine Ref.sq ?_
      refine Ref.rn 17 ?_
      refine RefR.e0 (st' := ⟨[sP 5 0 0 0, sS 12 x13, sP 13 1 0 0, (15, .c (errC r14.2.2)), sB 124 (!(!errS r14.2.2))], [.cells (E44.cs r3.1), .cells (E44.cs r14.1)], [], 0⟩) 0 2 2 [5, 12, 13, 15, 124] [0, 1] ?_
      refine RefR.nl 2 ?_
      refine Ref.cn (.tmp 124) (!(!errS r14.2.2)) (fun hc => ?_) (fun hc => ?_)
      ·
       refine Ref.sq ?_
       refine Ref.rn 18 ?_
       refine RefR.e1 0 1 1 [12, 126] [] ?_
       refine RefR.cc 127 1 2 [] (F10_ok K r14.2.2) (fun r15 => ?_)
       refine RefR.e0 (st' := ⟨[sS 12 x13, sI 16 r15.1, sI 17 r15.2], [], [], 0⟩) 2 5 7 [12, 16, 17] [] ?_
       refine RefR.nl 7 ?_
       refine Ref.sq ?_
       refine Ref.rn 19 ?_
       refine RefR.e0 (st' := ⟨[sB 138 (((r15.1 : Int) == 3) && ((r15.2 : Int) == (Int.ofNat x13.length)))], [], [], 0⟩) 0 9 9 [138] [] ?_
       refine RefR.letC (stf := fun x16 => ⟨[sB 138 x16], [], [], 0⟩) (by kernel_rfl) (fun x16 => ?_)
       refine RefR.lookC (t := 139) (g := [(138, true)]) (b := x16) 9 10 [] (default : Bool) rfl (by kernel_rfl) (F7_ok K) (fun _ => rfl) (fun r17 => ?_)
       refine RefR.e0 (st' := ⟨[sB 4 (x16 && r17)], [], [], 0⟩) 10 2 12 [4] [] ?_
       refine RefR.nl 12 ?_
       exact Ref.rt (t := ((x16 && r17)))
      ·
       refine Ref.sk ?_
       refine Ref.sq ?_
       refine Ref.drawnY 20 (by kernel_rfl) (by kernel_rfl) ?_
       refine RefY.evC0 (st' := ⟨[sP 5 0 0 0, sP 13 1 0 0, sP 141 1 0 0, sP 144 0 0 0], [.cells (E44.cs r3.1), .cells (E44.cs r14.1)], [], 0⟩) (fuel' := 20) [0, 3] [5, 13, 141, 144] [0, 1] rfl (by kernel_rfl) (by kernel_rfl) ?_
       refine RefY.toX [] ?_
       refine RefX.evC0 (st' := ⟨[sB 148 (decide (((Int.ofNat r14.1.fDecls.length) : Int) ≤ (Int.ofNat r3.1.fDecls.length))), (149, .agg (E44.cs r14.1)), (151, .c (E60.tree r3.1.fDecls)), sI 154 (Int.ofNat r14.1.fDecls.length)], [], [(154, [(148, true)]), (151, [(148, true)]), (149, [(148, true)])], 0⟩) (fuel' := 8) [1, 2, 4, 5, 6, 7, 8, 9, 10, 11, 12, 13] [148, 149, 151, 154] [] rfl (by kernel_rfl) (by kernel_rfl) ?_
       refine RefX.letC (stf := fun x18 => ⟨[sB 148 x18, (149, .agg (E44.cs r14.1)), (151, .c (E60.tree r3.1.fDecls)), sI 154 (Int.ofNat r14.1.fDecls.length)], [], [(154, [(148, true)]), (151, [(148, true)]), (149, [(148, true)])], 0⟩) (by kernel_rfl) (fun x18 => ?_)
       refine RefX.assumeC (b := x18) (stf := fun v19 => ⟨[sB 148 v19, (149, .agg (E44.cs r14.1)), (151, .c (E60.tree r3.1.fDecls)), sI 154 (Int.ofNat r14.1.fDecls.length)], [], [(154, [(148, true)]), (151, [(148, true)]), (149, [(148, true)])], 0⟩) (by kernel_rfl) ?_
       refine RefX.conv (Conv.clear (by kernel_rfl)) ?_
       refine RefX.evH (vs := [bndOk r3.1.fDecls.length 0 (Int.ofNat r14.1.fDecls.length)]) (st' := ⟨[sB 148 true, (149, .agg (E44.cs r14.1)), (155, .c (.tree E60.w (((Int.ofNat r14.1.fDecls.length) : Int).toNat - (0 : Int).toNat) fun i j => E60.at r3.1.fDecls ((0 : Int).toNat + i) j))], [], [(155, [(148, true)])], 0⟩) (fuel' := 7) [14] [148, 149, 155] [] rfl (by kernel_rfl) (by kernel_rfl) (fun hv => ?_)
       refine RefX.conv (Conv.slotG 155 (.c (E60.tree ((r3.1.fDecls.drop (0 : Int).toNat).take (((Int.ofNat r14.1.fDecls.length) : Int).toNat - (0 : Int).toNat)))) (DLe.c (El.tree_slice E60 _ (bndOk_le (hv _ (List.Mem.head _))))) (by kernel_rfl)) ?_
       refine RefX.v0 (fuel' := 6) [15] [148, 149, 156] [] ?_
       refine RefX.lookC (t := 157) (g := [(148, true)]) (b := true) (fuel' := 5) 16 [] (default : Bool) rfl (by kernel_rfl) (by kernel_rfl) (F15e_ok K r14.1 (⟨((r3.1.fDecls.drop (0 : Int).toNat).take (((Int.ofNat r14.1.fDecls.length) : Int).toNat - (0 : Int).toNat))⟩ : S44)) (fun _ => rfl) (fun r20 => ?_)
       refine RefX.v0 (fuel' := 3) [17, 18] [159] [] ?_
       refine RefX.lookC (t := 160) (g := [(159, true)]) (b := (true && r20)) (fuel' := 2) 19 [] (default : Bool) rfl (by kernel_rfl) (by kernel_rfl) (F7_ok K) (fun _ => rfl) (fun r21 => ?_)
       refine RefX.evC0 (st' := ⟨[sB 4 ((true && r20) && r21)], [], [], 0⟩) (fuel' := 0) [20, 21] [4] [] rfl (by kernel_rfl) (by kernel_rfl) ?_
       refine RefX.done (by kernel_rfl) ?_
       exact Ref.rt (t := (((true && r20) && r21)))
end Go.Proofs.YtphnfaabcnciiaaGreatDoor
