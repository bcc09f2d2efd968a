/- Plain functions, and that the Go functions do what these do: printed by gen2.py. No conditions. -/
import Derived.Test.YtphnfaabcnciiaaGreatDoorGb
import Derived.Test.YtphnfaabcnciiaaGreatDoorProg
set_option linter.unusedVariables false
set_option linter.unusedSimpArgs false
set_option linter.unusedSectionVars false
namespace Go.Proofs.YtphnfaabcnciiaaGreatDoor
open Go Go.Proofs Go.Dl
variable [WInv]
set_option maxRecDepth 100000
set_option maxHeartbeats 4000000
def F128 (K : Nat) : Option (((List Bytes)) ⊕ ((List Bytes))) :=
 (some (.inl ([([84, 79, 78] : Bytes), ([84, 79, 70] : Bytes), ([84, 80] : Bytes), ([67, 84, 85] : Bytes), ([67, 84, 68] : Bytes), ([82, 95, 84, 82, 73, 71] : Bytes), ([70, 95, 84, 82, 73, 71] : Bytes)])))
theorem F128_ok (K : Nat) : DFun Tryz.prog 128 [] [] (fnS (F128 K)) (fun r => .c (E9.tree r)) (fun r => []) := by
 refine DFun.it Tryz.f128 (fun r => ⟨[(0, .c (E9.tree r))], [], [], 0⟩) ?_
 unfold F128
 refine Ref.sq ?_
 refine Ref.rn 0 ?_
 refine RefR.e0 (st' := ⟨[], [], [], 0⟩) 0 1 1 [] [] ?_
 refine RefR.nl 1 ?_
 refine Ref.sq ?_
 refine Ref.rn 1 ?_
 refine RefR.e0 (st' := ⟨[(1, .c (.own 0 7))], [.row 9 1 7 (tbl [[.str wTON], [.str wTOF], [.str wTP], [.str wCTU], [.str wCTD], [.str wR_TRIG], [.str wF_TRIG]])], [], 0⟩) 0 1 1 [1] [0] ?_
 refine RefR.conv (Conv.ob 0 (E9.row [wTON, wTOF, wTP, wCTU, wCTD, wR_TRIG, wF_TRIG]) (El.row_build E9 [wTON, wTOF, wTP, wCTU, wCTD, wR_TRIG, wF_TRIG] rfl (by kernel_rfl))) ?_
 refine RefR.conv (Conv.sl 1 (.c (.own 0 ([wTON, wTOF, wTP, wCTU, wCTD, wR_TRIG, wF_TRIG].length))) (DLe.c (CLe.own (by simp <;> omega)))) ?_
 refine RefR.e0 (st' := ⟨[(0, .c (.own 0 ([wTON, wTOF, wTP, wCTU, wCTD, wR_TRIG, wF_TRIG].length)))], [E9.row [wTON, wTOF, wTP, wCTU, wCTD, wR_TRIG, wF_TRIG]], [], 0⟩) 1 1 2 [0] [0] ?_
 refine RefR.nl 2 ?_
 refine Ref.conv (Conv.freeze (st' := ⟨[(0, .c (E9.tree [wTON, wTOF, wTP, wCTU, wCTD, wR_TRIG, wF_TRIG]))], [.dead], [], 0⟩) 0 (by kernel_rfl)) ?_
 refine Ref.ck ⟨[(0, .c (E9.tree [wTON, wTOF, wTP, wCTU, wCTD, wR_TRIG, wF_TRIG]))], [], [], 0⟩ [0] [] ?_
 exact Ref.rt (t := ([wTON, wTOF, wTP, wCTU, wCTD, wR_TRIG, wF_TRIG]))
def F111 (K : Nat) (a0 : S65) : Option ((S91 × S65) ⊕ (S91 × S65)) :=
 ((condM true (fnS (F31 K a0)) default).bind (fun r1 => (bindS (blockS ((condM true (fnS (F69 K a0 1)) default).bind (fun r17 => (if r17 = true then ((fnS (F72 K a0)).bind (fun r18 => (some (.inl (Sum.inr ((⟨6, 0, 0, r18.1⟩ : S91), r18.2)))))) else ((fnS (F128 K)).bind (fun r19 => ((condM true (fnS (F29 K a0 r19)) default).bind (fun r20 => (if r20 = true then ((fnS (F128 K)).bind (fun r21 => ((condM true (fnS (F42 K r21 r1.fText)) default).bind (fun r22 => (some (.inl (Sum.inr ((⟨7, (IntKind.i64.wrap (r22 + 1)), 0, ([] : Bytes)⟩ : S91), (⟨a0.ftokens, (IntKind.i64.wrap (a0.fi + 1)), a0.fend, a0.ferr⟩ : S65))))))))) else ((fnS (F39 K a0 ([66, 79, 79, 76] : Bytes))).bind (fun r24 => (if r24.1 = true then (some (.inl (Sum.inr ((⟨2, 0, 0, ([] : Bytes)⟩ : S91), r24.2)))) else ((fnS (F39 K r24.2 ([82, 69, 70, 95, 84, 79] : Bytes))).bind (fun r25 => (if r25.1 = true then ((fnS (F72 K r25.2)).bind (fun r26 => (some (.inl (Sum.inr ((⟨5, 0, 0, r26.1⟩ : S91), r26.2)))))) else ((fnS (F39 K r25.2 ([65, 82, 82, 65, 89] : Bytes))).bind (fun r27 => (if r27.1 = true then ((fnS (F93 K r27.2 ([[91]] : List Bytes))).bind (fun r28 => ((fnS (F70 K r28)).bind (fun r29 => ((fnS (F93 K r29.2 ([[93], [79, 70], [73, 78, 84]] : List Bytes))).bind (fun r30 => (some (.inl (Sum.inr ((⟨4, 0, r29.1, ([] : Bytes)⟩ : S91), r30)))))))))) else (some (.inr (r27.2))))))))))))))))))))) (fun (u16 : S65) => ((fnS (F93 K u16 ([[73, 78, 84]] : List Bytes))).bind (fun r31 => ((fnS (F39 K r31 ([40] : Bytes))).bind (fun r32 => (if (!r32.1) = true then (some (.inl ((⟨1, 0, 0, ([] : Bytes)⟩ : S91), r32.2))) else ((fnS (F112 K r32.2)).bind (fun r33 => ((fnS (F93 K r33.2 ([[46, 46]] : List Bytes))).bind (fun r34 => ((fnS (F112 K r34)).bind (fun r35 => ((fnS (F93 K r35.2 ([[41]] : List Bytes))).bind (fun r36 => (some (.inl ((⟨3, r33.1, r35.1, ([] : Bytes)⟩ : S91), r36))))))))))))))))))))
theorem F111_ok (K : Nat) (a0 : S65) : DFun Tryz.prog 111 [.c (.ptr 0 0 0)] [E65.o a0] (fnS (F111 K a0)) (fun r => .agg (E91.cs r.1)) (fun r => [E65.o r.2, .cells (E91.cs r.1)]) := by
 refine DFun.it Tryz.f111 (fun r => ⟨[sP 2 1 0 0], [E65.o r.2, .cells (E91.cs r.1)], [], 1⟩) ?_
 unfold F111
 refine Ref.sq ?_
 refine Ref.rn 0 ?_
 refine RefR.e0 (st' := ⟨[sP 0 0 0 0, sP 2 1 0 0], [E65.o a0, oX4], [], 1⟩) 0 1 1 [0, 2] [0, 1] ?_
 refine RefR.nl 1 ?_
 refine Ref.sq ?_
 refine Ref.rn 1 ?_
 refine RefR.e1 0 1 1 [0, 2, 7] [0, 1] ?_
 refine RefR.lookC (t := 8) (g := []) (b := true) 1 2 [0] (default : S41) rfl (by kernel_rfl) (DFun.forget (F31_ok K a0) (fun _ => rfl)) (fun _ => rfl) (fun r1 => ?_)
 refine RefR.e0 (st' := ⟨[sP 0 0 0 0, sP 2 1 0 0, sP 3 2 0 0], [E65.o a0, oX4, E41.o r1], [], 1⟩) 2 2 4 [0, 2, 3] [0, 1, 2] ?_
 refine RefR.nl 4 ?_
 refine Ref.sq ?_
 refine Ref.ce (.block 0 (cd (bd Tryz.f111) [1, 1, 0, 0])) ?_
 refine Ref.block (go1 := fun u16 => ⟨[sP 0 0 0 0, sP 2 1 0 0], [E65.o u16, oX4], [], 1⟩) ?_ (fun _ h => by cases h) (fun u16 => ?_)
 ·
  refine Ref.sq ?_
  refine Ref.rn 2 ?_
  refine RefR.e1 0 1 1 [0, 2, 3, 10] [0, 1, 2] ?_
  refine RefR.lookC (t := 11) (g := []) (b := true) 1 2 [0] (default : Bool) rfl (by kernel_rfl) (F69_ok K a0 1) (fun _ => rfl) (fun r17 => ?_)
  refine RefR.e0 (st' := ⟨[sP 0 0 0 0, sP 2 1 0 0, sP 3 2 0 0, sB 9 r17], [E65.o a0, oX4, E41.o r1], [], 1⟩) 2 1 3 [0, 2, 3, 9] [0, 1, 2] ?_
  refine RefR.nl 3 ?_
  refine Ref.cn (.tmp 9) r17 (fun hc => ?_) (fun hc => ?_)
  ·
   refine Ref.sq ?_
   refine Ref.rn 3 ?_
   refine RefR.e1 0 1 1 [2, 12] [0, 1] ?_
   refine RefR.cc 13 1 2 [0] (F72_ok K a0) (fun r18 => ?_)
   refine RefR.e0 (st' := ⟨[sP 2 1 0 0], [E65.o r18.2, .cells [iC 6, iC 0, iC 0, .str r18.1]], [], 1⟩) 2 2 4 [2] [0, 1] ?_
   refine RefR.nl 4 ?_
   exact Ref.rt (t := (Sum.inr ((⟨6, 0, 0, r18.1⟩ : S91), r18.2)))
  ·
   refine Ref.sq ?_
   refine Ref.rn 4 ?_
   refine RefR.e1 0 1 1 [0, 2, 3, 16] [0, 1, 2] ?_
   refine RefR.cc 17 1 2 [] (F128_ok K) (fun r19 => ?_)
   refine RefR.lookC (t := 18) (g := []) (b := true) 2 3 [0] (default : Bool) rfl (by kernel_rfl) (F29_ok K a0 r19) (fun _ => rfl) (fun r20 => ?_)
   refine RefR.e0 (st' := ⟨[sP 0 0 0 0, sP 2 1 0 0, sP 3 2 0 0, sB 15 r20], [E65.o a0, oX4, E41.o r1], [], 1⟩) 3 1 4 [0, 2, 3, 15] [0, 1, 2] ?_
   refine RefR.nl 4 ?_
   refine Ref.cn (.tmp 15) r20 (fun hc => ?_) (fun hc => ?_)
   ·
    refine Ref.sq ?_
    refine Ref.rn 5 ?_
    refine RefR.e0 (st' := ⟨[sP 2 1 0 0, sP 3 2 0 0], [.cells [E41.tree a0.ftokens, iC (IntKind.i64.wrap (a0.fi + 1)), iC a0.fend, errC a0.ferr], oX4, E41.o r1], [], 1⟩) 0 8 8 [2, 3] [0, 1, 2] ?_
    refine RefR.nl 8 ?_
    refine Ref.sq ?_
    refine Ref.drawnY 6 (by kernel_rfl) (by kernel_rfl) ?_
    refine RefY.evC0 (st' := ⟨[sP 2 1 0 0, sP 27 2 0 1], [.cells [E41.tree a0.ftokens, iC (IntKind.i64.wrap (a0.fi + 1)), iC a0.fend, errC a0.ferr], oX4, E41.o r1], [], 1⟩) (fuel' := 6) [1] [2, 27] [0, 1, 2] rfl (by kernel_rfl) (by kernel_rfl) ?_
    refine RefY.toX [0, 6] ?_
    refine RefX.withK1 (fun (r22 : Int) => ⟨[sP 2 1 0 0], [.cells [E41.tree a0.ftokens, iC (IntKind.i64.wrap (a0.fi + 1)), iC a0.fend, errC a0.ferr], .cells [iC 7, iC (IntKind.i64.wrap (r22 + 1)), iC 0, .str []]], [], 1⟩) (fun (r22 : Int) => (some (.inl (Sum.inr ((⟨7, (IntKind.i64.wrap (r22 + 1)), 0, ([] : Bytes)⟩ : S91), (⟨a0.ftokens, (IntKind.i64.wrap (a0.fi + 1)), a0.fend, a0.ferr⟩ : S65)))))) (fun r22 => ?_) (fun hk => ?_)
    ·
     exact Ref.rt (t := (Sum.inr ((⟨7, (IntKind.i64.wrap (r22 + 1)), 0, ([] : Bytes)⟩ : S91), (⟨a0.ftokens, (IntKind.i64.wrap (a0.fi + 1)), a0.fend, a0.ferr⟩ : S65))))
    ·
     refine RefX.pend0 (fuel' := 5) [[], [(2, 28)]] [(2, 28)] [2, 27] [0, 1, 2] ⟨[sP 2 1 0 0, sP 27 2 0 1, sS 28 r1.fText], [.cells [E41.tree a0.ftokens, iC (IntKind.i64.wrap (a0.fi + 1)), iC a0.fend, errC a0.ferr], oX4, E41.o r1], [], 1⟩ ?_
     refine RefXq.fork1 (fuel' := 4) 0 ?_
     refine RefXqi.callC (t := 26) 0 [] rfl (by kernel_rfl) (F128_ok K) (fun r21 => ?_)
     refine RefXq.close ?_
     refine RefX.lookC (t := 29) (g := []) (b := true) (fuel' := 3) 3 [] (default : Int) rfl (by kernel_rfl) (by kernel_rfl) (F42_ok K r21 r1.fText) (fun _ => rfl) (fun r22 => ?_)
     refine RefX.v0 (fuel' := 1) [4, 5] [2, 31] [0, 1] ?_
     refine RefX.fork1 (fuel' := 0) 6 (by kernel_rfl) ?_
     refine RefXi.w0 6 [2] [0, 1] ?_
     refine RefX.done (by kernel_rfl) ?_
     refine Ref.ck ⟨[sP 2 1 0 0], [.cells [E41.tree a0.ftokens, iC (IntKind.i64.wrap (a0.fi + 1)), iC a0.fend, errC a0.ferr], .cells [iC 7, iC (IntKind.i64.wrap (r22 + 1)), iC 0, .str []]], [], 1⟩ [2] [0, 1] ?_
     exact hk r22
   ·
    refine Ref.sq ?_
    refine Ref.rn 7 ?_
    refine RefR.e1 0 1 1 [0, 2, 33] [0, 1] ?_
    refine RefR.cc 34 1 2 [0] (F39_ok K a0 ([66, 79, 79, 76] : Bytes)) (fun r24 => ?_)
    refine RefR.e0 (st' := ⟨[sP 0 0 0 0, sP 2 1 0 0, sB 32 r24.1], [E65.o r24.2, oX4], [], 1⟩) 2 1 3 [0, 2, 32] [0, 1] ?_
    refine RefR.nl 3 ?_
    refine Ref.cn (.tmp 32) r24.1 (fun hc => ?_) (fun hc => ?_)
    ·
     refine Ref.sq ?_
     refine Ref.rn 8 ?_
     refine RefR.e0 (st' := ⟨[sP 2 1 0 0], [E65.o r24.2, .cells [iC 2, iC 0, iC 0, .str []]], [], 1⟩) 0 2 2 [2] [0, 1] ?_
     refine RefR.nl 2 ?_
     exact Ref.rt (t := (Sum.inr ((⟨2, 0, 0, ([] : Bytes)⟩ : S91), r24.2)))
    ·
     refine Ref.sq ?_
     refine Ref.rn 9 ?_
     refine RefR.e1 0 1 1 [0, 2, 37] [0, 1] ?_
     refine RefR.cc 38 1 2 [0] (F39_ok K r24.2 ([82, 69, 70, 95, 84, 79] : Bytes)) (fun r25 => ?_)
     refine RefR.e0 (st' := ⟨[sP 0 0 0 0, sP 2 1 0 0, sB 36 r25.1], [E65.o r25.2, oX4], [], 1⟩) 2 1 3 [0, 2, 36] [0, 1] ?_
     refine RefR.nl 3 ?_
     refine Ref.cn (.tmp 36) r25.1 (fun hc => ?_) (fun hc => ?_)
     ·
      refine Ref.sq ?_
      refine Ref.rn 10 ?_
      refine RefR.e1 0 1 1 [2, 39] [0, 1] ?_
      refine RefR.cc 40 1 2 [0] (F72_ok K r25.2) (fun r26 => ?_)
      refine RefR.e0 (st' := ⟨[sP 2 1 0 0], [E65.o r26.2, .cells [iC 5, iC 0, iC 0, .str r26.1]], [], 1⟩) 2 2 4 [2] [0, 1] ?_
      refine RefR.nl 4 ?_
      exact Ref.rt (t := (Sum.inr ((⟨5, 0, 0, r26.1⟩ : S91), r26.2)))
     ·
      refine Ref.sq ?_
      refine Ref.rn 11 ?_
      refine RefR.e1 0 1 1 [0, 2, 43] [0, 1] ?_
      refine RefR.cc 44 1 2 [0] (F39_ok K r25.2 ([65, 82, 82, 65, 89] : Bytes)) (fun r27 => ?_)
      refine RefR.e0 (st' := ⟨[sP 0 0 0 0, sP 2 1 0 0, sB 42 r27.1], [E65.o r27.2, oX4], [], 1⟩) 2 1 3 [0, 2, 42] [0, 1] ?_
      refine RefR.nl 3 ?_
      refine Ref.cn (.tmp 42) r27.1 (fun hc => ?_) (fun hc => ?_)
      ·
       refine Ref.sq ?_
       refine Ref.rn 12 ?_
       refine RefR.e0 (st' := ⟨[sP 0 0 0 0, sP 2 1 0 0, sP 45 0 0 0], [E65.o r27.2, oX4], [], 1⟩) 0 1 1 [0, 2, 45] [0, 1] ?_
       refine RefR.li 46 [] E9 ([[91]] : List Bytes) 1 2 ?_
       refine RefR.cc 47 2 3 [0] (F93_ok K r27.2 ([[91]] : List Bytes)) (fun r28 => ?_)
       refine RefR.nl 3 ?_
       refine Ref.sq ?_
       refine Ref.rn 13 ?_
       refine RefR.e1 0 1 1 [0, 2, 48] [0, 1] ?_
       refine RefR.cc 49 1 2 [0] (F70_ok K r28) (fun r29 => ?_)
       refine RefR.e0 (st' := ⟨[sP 0 0 0 0, sP 2 1 0 0, sI 4 r29.1], [E65.o r29.2, oX4], [], 1⟩) 2 1 3 [0, 2, 4] [0, 1] ?_
       refine RefR.nl 3 ?_
       refine Ref.sq ?_
       refine Ref.rn 14 ?_
       refine RefR.e0 (st' := ⟨[sP 2 1 0 0, sI 4 r29.1, sP 50 0 0 0], [E65.o r29.2, oX4], [], 1⟩) 0 1 1 [2, 4, 50] [0, 1] ?_
       refine RefR.li 51 [] E9 ([[93], [79, 70], [73, 78, 84]] : List Bytes) 1 2 ?_
       refine RefR.cc 52 2 3 [0] (F93_ok K r29.2 ([[93], [79, 70], [73, 78, 84]] : List Bytes)) (fun r30 => ?_)
       refine RefR.nl 3 ?_
       refine Ref.sq ?_
       refine Ref.rn 15 ?_
       refine RefR.e0 (st' := ⟨[sP 2 1 0 0], [E65.o r30, .cells [iC 4, iC 0, iC r29.1, .str []]], [], 1⟩) 0 3 3 [2] [0, 1] ?_
       refine RefR.nl 3 ?_
       exact Ref.rt (t := (Sum.inr ((⟨4, 0, r29.1, ([] : Bytes)⟩ : S91), r30)))
      ·
       refine Ref.sk ?_
       refine Ref.ck ⟨[sP 0 0 0 0, sP 2 1 0 0], [E65.o r27.2, oX4], [], 1⟩ [0, 2] [0, 1] ?_
       exact Ref.n0 (t := (r27.2))
 ·
  refine Ref.sq ?_
  refine Ref.rn 16 ?_
  refine RefR.e0 (st' := ⟨[sP 0 0 0 0, sP 2 1 0 0, sP 55 0 0 0], [E65.o u16, oX4], [], 1⟩) 0 1 1 [0, 2, 55] [0, 1] ?_
  refine RefR.li 56 [] E9 ([[73, 78, 84]] : List Bytes) 1 2 ?_
  refine RefR.cc 57 2 3 [0] (F93_ok K u16 ([[73, 78, 84]] : List Bytes)) (fun r31 => ?_)
  refine RefR.nl 3 ?_
  refine Ref.sq ?_
  refine Ref.sq ?_
  refine Ref.rn 17 ?_
  refine RefR.e1 0 1 1 [0, 2, 58] [0, 1] ?_
  refine RefR.cc 59 1 2 [0] (F39_ok K r31 ([40] : Bytes)) (fun r32 => ?_)
  refine RefR.e0 (st' := ⟨[sP 0 0 0 0, sP 2 1 0 0, sB 60 (!r32.1)], [E65.o r32.2, oX4], [], 1⟩) 2 1 3 [0, 2, 60] [0, 1] ?_
  refine RefR.nl 3 ?_
  refine Ref.cn (.tmp 60) (!r32.1) (fun hc => ?_) (fun hc => ?_)
  ·
   refine Ref.sq ?_
   refine Ref.rn 18 ?_
   refine RefR.e0 (st' := ⟨[sP 2 1 0 0], [E65.o r32.2, .cells [iC 1, iC 0, iC 0, .str []]], [], 1⟩) 0 2 2 [2] [0, 1] ?_
   refine RefR.nl 2 ?_
   exact Ref.rt (t := ((⟨1, 0, 0, ([] : Bytes)⟩ : S91), r32.2))
  ·
   refine Ref.sk ?_
   refine Ref.sq ?_
   refine Ref.rn 19 ?_
   refine RefR.e1 0 1 1 [0, 2, 62] [0, 1] ?_
   refine RefR.cc 63 1 2 [0] (F112_ok K r32.2) (fun r33 => ?_)
   refine RefR.e0 (st' := ⟨[sP 0 0 0 0, sP 2 1 0 0, sI 5 r33.1], [E65.o r33.2, oX4], [], 1⟩) 2 1 3 [0, 2, 5] [0, 1] ?_
   refine RefR.nl 3 ?_
   refine Ref.sq ?_
   refine Ref.rn 20 ?_
   refine RefR.e0 (st' := ⟨[sP 0 0 0 0, sP 2 1 0 0, sI 5 r33.1, sP 64 0 0 0], [E65.o r33.2, oX4], [], 1⟩) 0 1 1 [0, 2, 5, 64] [0, 1] ?_
   refine RefR.li 65 [] E9 ([[46, 46]] : List Bytes) 1 2 ?_
   refine RefR.cc 66 2 3 [0] (F93_ok K r33.2 ([[46, 46]] : List Bytes)) (fun r34 => ?_)
   refine RefR.nl 3 ?_
   refine Ref.sq ?_
   refine Ref.rn 21 ?_
   refine RefR.e1 0 1 1 [0, 2, 5, 67] [0, 1] ?_
   refine RefR.cc 68 1 2 [0] (F112_ok K r34) (fun r35 => ?_)
   refine RefR.e0 (st' := ⟨[sP 0 0 0 0, sP 2 1 0 0, sI 5 r33.1, sI 6 r35.1], [E65.o r35.2, oX4], [], 1⟩) 2 1 3 [0, 2, 5, 6] [0, 1] ?_
   refine RefR.nl 3 ?_
   refine Ref.sq ?_
   refine Ref.rn 22 ?_
   refine RefR.e0 (st' := ⟨[sP 2 1 0 0, sI 5 r33.1, sI 6 r35.1, sP 69 0 0 0], [E65.o r35.2, oX4], [], 1⟩) 0 1 1 [2, 5, 6, 69] [0, 1] ?_
   refine RefR.li 70 [] E9 ([[41]] : List Bytes) 1 2 ?_
   refine RefR.cc 71 2 3 [0] (F93_ok K r35.2 ([[41]] : List Bytes)) (fun r36 => ?_)
   refine RefR.nl 3 ?_
   refine Ref.sq ?_
   refine Ref.rn 23 ?_
   refine RefR.e0 (st' := ⟨[sP 2 1 0 0], [E65.o r36, .cells [iC 3, iC r33.1, iC r35.1, .str []]], [], 1⟩) 0 4 4 [2] [0, 1] ?_
   refine RefR.nl 4 ?_
   exact Ref.rt (t := ((⟨3, r33.1, r35.1, ([] : Bytes)⟩ : S91), r36))
def F129 (K : Nat) (a0 : S65) : Option ((S122 × S65) ⊕ (S122 × S65)) :=
 ((fnS (F72 K a0)).bind (fun r1 => (bindS (blockS ((fnS (F39 K r1.2 ([58, 61] : Bytes))).bind (fun r14 => (if r14.1 = true then ((fnS (F19 K r14.2 1)).bind (fun r15 => (some (.inl (Sum.inr ((⟨1, 0, r1.1, [r15.1], [], []⟩ : S122), r15.2)))))) else ((fnS (F39 K r14.2 ([63, 61] : Bytes))).bind (fun r16 => (if r16.1 = true then ((fnS (F19 K r16.2 1)).bind (fun r17 => (some (.inl (Sum.inr ((⟨3, 0, r1.1, [r17.1], [], []⟩ : S122), r17.2)))))) else ((fnS (F39 K r16.2 ([91] : Bytes))).bind (fun r18 => (if r18.1 = true then ((fnS (F19 K r18.2 1)).bind (fun r19 => ((fnS (F93 K r19.2 ([[93], [58, 61]] : List Bytes))).bind (fun r20 => ((fnS (F19 K r20 1)).bind (fun r21 => (some (.inl (Sum.inr ((⟨2, 0, r1.1, [r19.1, r21.1], [], []⟩ : S122), r21.2)))))))))) else ((condM true (fnS (F29 K r18.2 ([[46]] : List Bytes))) default).bind (fun r23 => (if r23 = true then ((fnS (F75 K r18.2 (⟨13, 0, r1.1, ([] : Bytes), []⟩ : S25) 1)).bind (fun r24 => (some (.inl (Sum.inr ((⟨4, 0, ([] : Bytes), [r24.1], [], []⟩ : S122), r24.2)))))) else (some (.inr (r18.2)))))))))))))))) (fun (u13 : S65) => ((fnS (F20 K u13 3)).bind (fun r25 => (some (.inl ((⟨0, 0, ([] : Bytes), [], [], []⟩ : S122), r25)))))))))
theorem F129_ok (K : Nat) (a0 : S65) : DFun Tryz.prog 129 [.c (.ptr 0 0 0)] [E65.o a0] (fnS (F129 K a0)) (fun r => .agg (E122.cs r.1)) (fun r => [E65.o r.2, E122.o r.1]) := by
 refine DFun.it Tryz.f129 (fun r => ⟨[sP 2 1 0 0], [E65.o r.2, E122.o r.1], [], 1⟩) ?_
 unfold F129
 refine Ref.sq ?_
 refine Ref.rn 0 ?_
 refine RefR.e0 (st' := ⟨[sP 0 0 0 0, sP 2 1 0 0], [E65.o a0, oX0], [], 1⟩) 0 1 1 [0, 2] [0, 1] ?_
 refine RefR.nl 1 ?_
 refine Ref.sq ?_
 refine Ref.rn 1 ?_
 refine RefR.e1 0 1 1 [0, 2, 5] [0, 1] ?_
 refine RefR.cc 6 1 2 [0] (F72_ok K a0) (fun r1 => ?_)
 refine RefR.e0 (st' := ⟨[sP 0 0 0 0, sP 2 1 0 0, sS 3 r1.1], [E65.o r1.2, oX0], [], 1⟩) 2 1 3 [0, 2, 3] [0, 1] ?_
 refine RefR.nl 3 ?_
 refine Ref.sq ?_
 refine Ref.ce (.block 0 (cd (bd Tryz.f129) [1, 1, 0, 0])) ?_
 refine Ref.block (go1 := fun u13 => ⟨[sP 0 0 0 0, sP 2 1 0 0], [E65.o u13, oX0], [], 1⟩) ?_ (fun _ h => by cases h) (fun u13 => ?_)
 ·
  refine Ref.sq ?_
  refine Ref.rn 2 ?_
  refine RefR.e1 0 1 1 [0, 2, 3, 8] [0, 1] ?_
  refine RefR.cc 9 1 2 [0] (F39_ok K r1.2 ([58, 61] : Bytes)) (fun r14 => ?_)
  refine RefR.e0 (st' := ⟨[sP 0 0 0 0, sP 2 1 0 0, sS 3 r1.1, sB 7 r14.1], [E65.o r14.2, oX0], [], 1⟩) 2 1 3 [0, 2, 3, 7] [0, 1] ?_
  refine RefR.nl 3 ?_
  refine Ref.cn (.tmp 7) r14.1 (fun hc => ?_) (fun hc => ?_)
  ·
   refine Ref.sq ?_
   refine Ref.rn 3 ?_
   refine RefR.e1 0 2 2 [2, 10, 11] [0, 1] ?_
   refine RefR.cc 12 2 3 [0] (F19_ok K r14.2 1) (fun r15 => ?_)
   refine RefR.e0 (st' := ⟨[sP 2 1 0 0, sS 10 r1.1, (13, .c (.own 2 1))], [E65.o r15.2, oX0, .row 25 5 1 (tbl [(E25.cs r15.1)])], [], 1⟩) 3 1 4 [2, 10, 13] [0, 1, 3] ?_
   refine RefR.conv (Conv.ob 2 (E25.row [r15.1]) (El.row_build E25 [r15.1] rfl (by kernel_rfl))) ?_
   refine RefR.conv (Conv.sl 13 (.c (.own 2 ([r15.1].length))) (DLe.c (CLe.own (by simp <;> omega)))) ?_
   refine RefR.e0 (st' := ⟨[sP 2 1 0 0], [E65.o r15.2, .cells [iC 1, iC 0, .str r1.1, .own 2 ([r15.1].length), .nil, .nil], E25.row [r15.1]], [], 1⟩) 4 2 6 [2] [0, 1, 2] ?_
   refine RefR.nl 6 ?_
   refine Ref.conv (Conv.freeze (st' := ⟨[sP 2 1 0 0], [E65.o r15.2, .cells [iC 1, iC 0, .str r1.1, E25.tree [r15.1], .nil, .nil], .dead], [], 1⟩) 2 (by kernel_rfl)) ?_
   refine Ref.conv (Conv.ob 1 (.cells [iC 1, iC 0, .str r1.1, E25.tree [r15.1], E45.tree [], .nil]) (OLe.cells (All2.cons (CLe.refl _) (All2.cons (CLe.refl _) (All2.cons (CLe.refl _) (All2.cons (CLe.refl _) (All2.cons (El.tree_nil E45) (All2.cons (CLe.refl _) (All2.nil))))))))) ?_
   refine Ref.conv (Conv.ob 1 (.cells [iC 1, iC 0, .str r1.1, E25.tree [r15.1], E45.tree [], E58.tree []]) (OLe.cells (All2.cons (CLe.refl _) (All2.cons (CLe.refl _) (All2.cons (CLe.refl _) (All2.cons (CLe.refl _) (All2.cons (CLe.refl _) (All2.cons (El.tree_nil E58) (All2.nil))))))))) ?_
   refine Ref.conv (Conv.ob 1 (.cells [iC 1, iC 0, .str r1.1, E25.tree [r15.1], E45.tree [], NTT122 []]) (OLe.cells (All2.cons (CLe.refl _) (All2.cons (CLe.refl _) (All2.cons (CLe.refl _) (All2.cons (CLe.refl _) (All2.cons (CLe.refl _) (All2.cons (NTT122_ge _) (All2.nil))))))))) ?_
   refine Ref.ck ⟨[sP 2 1 0 0], [E65.o r15.2, .cells [iC 1, iC 0, .str r1.1, E25.tree [r15.1], E45.tree [], NTT122 []]], [], 1⟩ [2] [0, 1] ?_
   exact Ref.rt (t := (Sum.inr ((⟨1, 0, r1.1, [r15.1], [], []⟩ : S122), r15.2)))
  ·
   refine Ref.sq ?_
   refine Ref.rn 4 ?_
   refine RefR.e1 0 1 1 [0, 2, 3, 16] [0, 1] ?_
   refine RefR.cc 17 1 2 [0] (F39_ok K r14.2 ([63, 61] : Bytes)) (fun r16 => ?_)
   refine RefR.e0 (st' := ⟨[sP 0 0 0 0, sP 2 1 0 0, sS 3 r1.1, sB 15 r16.1], [E65.o r16.2, oX0], [], 1⟩) 2 1 3 [0, 2, 3, 15] [0, 1] ?_
   refine RefR.nl 3 ?_
   refine Ref.cn (.tmp 15) r16.1 (fun hc => ?_) (fun hc => ?_)
   ·
    refine Ref.sq ?_
    refine Ref.rn 5 ?_
    refine RefR.e1 0 2 2 [2, 18, 19] [0, 1] ?_
    refine RefR.cc 20 2 3 [0] (F19_ok K r16.2 1) (fun r17 => ?_)
    refine RefR.e0 (st' := ⟨[sP 2 1 0 0, sS 18 r1.1, (21, .c (.own 2 1))], [E65.o r17.2, oX0, .row 25 5 1 (tbl [(E25.cs r17.1)])], [], 1⟩) 3 1 4 [2, 18, 21] [0, 1, 3] ?_
    refine RefR.conv (Conv.ob 2 (E25.row [r17.1]) (El.row_build E25 [r17.1] rfl (by kernel_rfl))) ?_
    refine RefR.conv (Conv.sl 21 (.c (.own 2 ([r17.1].length))) (DLe.c (CLe.own (by simp <;> omega)))) ?_
    refine RefR.e0 (st' := ⟨[sP 2 1 0 0], [E65.o r17.2, .cells [iC 3, iC 0, .str r1.1, .own 2 ([r17.1].length), .nil, .nil], E25.row [r17.1]], [], 1⟩) 4 2 6 [2] [0, 1, 2] ?_
    refine RefR.nl 6 ?_
    refine Ref.conv (Conv.freeze (st' := ⟨[sP 2 1 0 0], [E65.o r17.2, .cells [iC 3, iC 0, .str r1.1, E25.tree [r17.1], .nil, .nil], .dead], [], 1⟩) 2 (by kernel_rfl)) ?_
    refine Ref.conv (Conv.ob 1 (.cells [iC 3, iC 0, .str r1.1, E25.tree [r17.1], E45.tree [], .nil]) (OLe.cells (All2.cons (CLe.refl _) (All2.cons (CLe.refl _) (All2.cons (CLe.refl _) (All2.cons (CLe.refl _) (All2.cons (El.tree_nil E45) (All2.cons (CLe.refl _) (All2.nil))))))))) ?_
    refine Ref.conv (Conv.ob 1 (.cells [iC 3, iC 0, .str r1.1, E25.tree [r17.1], E45.tree [], E58.tree []]) (OLe.cells (All2.cons (CLe.refl _) (All2.cons (CLe.refl _) (All2.cons (CLe.refl _) (All2.cons (CLe.refl _) (All2.cons (CLe.refl _) (All2.cons (El.tree_nil E58) (All2.nil))))))))) ?_
    refine Ref.conv (Conv.ob 1 (.cells [iC 3, iC 0, .str r1.1, E25.tree [r17.1], E45.tree [], NTT122 []]) (OLe.cells (All2.cons (CLe.refl _) (All2.cons (CLe.refl _) (All2.cons (CLe.refl _) (All2.cons (CLe.refl _) (All2.cons (CLe.refl _) (All2.cons (NTT122_ge _) (All2.nil))))))))) ?_
    refine Ref.ck ⟨[sP 2 1 0 0], [E65.o r17.2, .cells [iC 3, iC 0, .str r1.1, E25.tree [r17.1], E45.tree [], NTT122 []]], [], 1⟩ [2] [0, 1] ?_
    exact Ref.rt (t := (Sum.inr ((⟨3, 0, r1.1, [r17.1], [], []⟩ : S122), r17.2)))
   ·
    refine Ref.sq ?_
    refine Ref.rn 6 ?_
    refine RefR.e1 0 1 1 [0, 2, 3, 24] [0, 1] ?_
    refine RefR.cc 25 1 2 [0] (F39_ok K r16.2 ([91] : Bytes)) (fun r18 => ?_)
    refine RefR.e0 (st' := ⟨[sP 0 0 0 0, sP 2 1 0 0, sS 3 r1.1, sB 23 r18.1], [E65.o r18.2, oX0], [], 1⟩) 2 1 3 [0, 2, 3, 23] [0, 1] ?_
    refine RefR.nl 3 ?_
    refine Ref.cn (.tmp 23) r18.1 (fun hc => ?_) (fun hc => ?_)
    ·
     refine Ref.sq ?_
     refine Ref.rn 7 ?_
     refine RefR.e1 0 1 1 [0, 2, 3, 26] [0, 1] ?_
     refine RefR.cc 27 1 2 [0] (F19_ok K r18.2 1) (fun r19 => ?_)
     refine RefR.e0 (st' := ⟨[sP 0 0 0 0, sP 2 1 0 0, sS 3 r1.1, sP 4 2 0 0], [E65.o r19.2, oX0, E25.o r19.1], [], 1⟩) 2 2 4 [0, 2, 3, 4] [0, 1, 3] ?_
     refine RefR.nl 4 ?_
     refine Ref.sq ?_
     refine Ref.rn 8 ?_
     refine RefR.e0 (st' := ⟨[sP 0 0 0 0, sP 2 1 0 0, sS 3 r1.1, sP 4 2 0 0, sP 28 0 0 0], [E65.o r19.2, oX0, E25.o r19.1], [], 1⟩) 0 1 1 [0, 2, 3, 4, 28] [0, 1, 2] ?_
     refine RefR.li 29 [] E9 ([[93], [58, 61]] : List Bytes) 1 2 ?_
     refine RefR.cc 30 2 3 [0] (F93_ok K r19.2 ([[93], [58, 61]] : List Bytes)) (fun r20 => ?_)
     refine RefR.nl 3 ?_
     refine Ref.sq ?_
     refine Ref.drawnY 9 (by kernel_rfl) (by kernel_rfl) ?_
     refine RefY.evC0 (st' := ⟨[sP 2 1 0 0, sP 4 2 0 0, sS 31 r1.1, sP 33 0 0 0], [E65.o r20, oX0, E25.o r19.1], [], 1⟩) (fuel' := 5) [0, 2] [2, 4, 31, 33] [0, 1, 2] rfl (by kernel_rfl) (by kernel_rfl) ?_
     refine RefY.toX [3, 6] ?_
     refine RefX.withK1 (fun (r21 : S25 × S65) => ⟨[sP 2 1 0 0], [E65.o r21.2, .cells [iC 2, iC 0, .str r1.1, .own 2 ([r19.1, r21.1].length), .nil, .nil], E25.row [r19.1, r21.1]], [], 1⟩) (fun (r21 : S25 × S65) => (some (.inl (Sum.inr ((⟨2, 0, r1.1, [r19.1, r21.1], [], []⟩ : S122), r21.2))))) (fun r21 => ?_) (fun hk => ?_)
     ·
      refine Ref.conv (Conv.freeze (st' := ⟨[sP 2 1 0 0], [E65.o r21.2, .cells [iC 2, iC 0, .str r1.1, E25.tree [r19.1, r21.1], .nil, .nil], .dead], [], 1⟩) 2 (by kernel_rfl)) ?_
      refine Ref.conv (Conv.ob 1 (.cells [iC 2, iC 0, .str r1.1, E25.tree [r19.1, r21.1], E45.tree [], .nil]) (OLe.cells (All2.cons (CLe.refl _) (All2.cons (CLe.refl _) (All2.cons (CLe.refl _) (All2.cons (CLe.refl _) (All2.cons (El.tree_nil E45) (All2.cons (CLe.refl _) (All2.nil))))))))) ?_
      refine Ref.conv (Conv.ob 1 (.cells [iC 2, iC 0, .str r1.1, E25.tree [r19.1, r21.1], E45.tree [], E58.tree []]) (OLe.cells (All2.cons (CLe.refl _) (All2.cons (CLe.refl _) (All2.cons (CLe.refl _) (All2.cons (CLe.refl _) (All2.cons (CLe.refl _) (All2.cons (El.tree_nil E58) (All2.nil))))))))) ?_
      refine Ref.conv (Conv.ob 1 (.cells [iC 2, iC 0, .str r1.1, E25.tree [r19.1, r21.1], E45.tree [], NTT122 []]) (OLe.cells (All2.cons (CLe.refl _) (All2.cons (CLe.refl _) (All2.cons (CLe.refl _) (All2.cons (CLe.refl _) (All2.cons (CLe.refl _) (All2.cons (NTT122_ge _) (All2.nil))))))))) ?_
      refine Ref.ck ⟨[sP 2 1 0 0], [E65.o r21.2, .cells [iC 2, iC 0, .str r1.1, E25.tree [r19.1, r21.1], E45.tree [], NTT122 []]], [], 1⟩ [2] [0, 1] ?_
      exact Ref.rt (t := (Sum.inr ((⟨2, 0, r1.1, [r19.1, r21.1], [], []⟩ : S122), r21.2)))
     ·
      refine RefX.pend0 (fuel' := 4) [[], [(1, 32)]] [(1, 32)] [2, 4, 31, 33] [0, 1, 2] ⟨[sP 2 1 0 0, sP 4 2 0 0, sS 31 r1.1, (32, .agg (E25.cs r19.1)), sP 33 0 0 0], [E65.o r20, oX0, E25.o r19.1], [], 1⟩ ?_
      refine RefXq.fork1 (fuel' := 3) 3 ?_
      refine RefXqi.callC (t := 34) 3 [0] rfl (by kernel_rfl) (F19_ok K r20 1) (fun r21 => ?_)
      refine RefXq.close ?_
      refine RefX.madeC0 (st' := ⟨[sP 2 1 0 0, sS 31 r1.1, (35, .c (.own 2 2))], [E65.o r21.2, oX0, .row 25 5 2 (tbl [(E25.cs r19.1), (E25.cs r21.1)])], [], 1⟩) (fuel' := 2) 4 [2, 31, 35] [0, 1, 4] rfl (by kernel_rfl) (by kernel_rfl) ?_
      refine RefX.conv (Conv.ob 2 (E25.row [r19.1, r21.1]) (El.row_build E25 [r19.1, r21.1] rfl (by kernel_rfl))) ?_
      refine RefX.conv (Conv.sl 35 (.c (.own 2 ([r19.1, r21.1].length))) (DLe.c (CLe.own (by simp <;> omega)))) ?_
      refine RefX.v0 (fuel' := 1) [5] [2, 36] [0, 1, 2] ?_
      refine RefX.fork1 (fuel' := 0) 6 (by kernel_rfl) ?_
      refine RefXi.w0 6 [2] [0, 1, 2] ?_
      refine RefX.done (by kernel_rfl) ?_
      refine Ref.ck ⟨[sP 2 1 0 0], [E65.o r21.2, .cells [iC 2, iC 0, .str r1.1, .own 2 ([r19.1, r21.1].length), .nil, .nil], E25.row [r19.1, r21.1]], [], 1⟩ [2] [0, 1, 2] ?_
      exact hk r21
    ·
     refine Ref.sq ?_
     refine Ref.rn 10 ?_
     refine RefR.e0 (st' := ⟨[sP 0 0 0 0, sP 2 1 0 0, sS 3 r1.1, sP 38 0 0 0], [E65.o r18.2, oX0], [], 1⟩) 0 1 1 [0, 2, 3, 38] [0, 1] ?_
     refine RefR.li 39 [] E9 ([[46]] : List Bytes) 1 2 ?_
     refine RefR.lookC (t := 40) (g := []) (b := true) 2 3 [0] (default : Bool) rfl (by kernel_rfl) (F29_ok K r18.2 ([[46]] : List Bytes)) (fun _ => rfl) (fun r23 => ?_)
     refine RefR.e0 (st' := ⟨[sP 0 0 0 0, sP 2 1 0 0, sS 3 r1.1, sB 37 r23], [E65.o r18.2, oX0], [], 1⟩) 3 1 4 [0, 2, 3, 37] [0, 1] ?_
     refine RefR.nl 4 ?_
     refine Ref.cn (.tmp 37) r23 (fun hc => ?_) (fun hc => ?_)
     ·
      refine Ref.sq ?_
      refine Ref.rn 11 ?_
      refine RefR.e1 0 3 3 [2, 41, 43] [0, 1] ?_
      refine RefR.cc 44 3 4 [0] (F75_ok K r18.2 (⟨13, 0, r1.1, ([] : Bytes), []⟩ : S25) 1) (fun r24 => ?_)
      refine RefR.e0 (st' := ⟨[sP 2 1 0 0, (45, .c (.own 2 1))], [E65.o r24.2, oX0, .row 25 5 1 (tbl [(E25.cs r24.1)])], [], 1⟩) 4 1 5 [2, 45] [0, 1, 3] ?_
      refine RefR.conv (Conv.ob 2 (E25.row [r24.1]) (El.row_build E25 [r24.1] rfl (by kernel_rfl))) ?_
      refine RefR.conv (Conv.sl 45 (.c (.own 2 ([r24.1].length))) (DLe.c (CLe.own (by simp <;> omega)))) ?_
      refine RefR.e0 (st' := ⟨[sP 2 1 0 0], [E65.o r24.2, .cells [iC 4, iC 0, .str [], .own 2 ([r24.1].length), .nil, .nil], E25.row [r24.1]], [], 1⟩) 5 2 7 [2] [0, 1, 2] ?_
      refine RefR.nl 7 ?_
      refine Ref.conv (Conv.freeze (st' := ⟨[sP 2 1 0 0], [E65.o r24.2, .cells [iC 4, iC 0, .str [], E25.tree [r24.1], .nil, .nil], .dead], [], 1⟩) 2 (by kernel_rfl)) ?_
      refine Ref.conv (Conv.ob 1 (.cells [iC 4, iC 0, .str [], E25.tree [r24.1], E45.tree [], .nil]) (OLe.cells (All2.cons (CLe.refl _) (All2.cons (CLe.refl _) (All2.cons (CLe.refl _) (All2.cons (CLe.refl _) (All2.cons (El.tree_nil E45) (All2.cons (CLe.refl _) (All2.nil))))))))) ?_
      refine Ref.conv (Conv.ob 1 (.cells [iC 4, iC 0, .str [], E25.tree [r24.1], E45.tree [], E58.tree []]) (OLe.cells (All2.cons (CLe.refl _) (All2.cons (CLe.refl _) (All2.cons (CLe.refl _) (All2.cons (CLe.refl _) (All2.cons (CLe.refl _) (All2.cons (El.tree_nil E58) (All2.nil))))))))) ?_
      refine Ref.conv (Conv.ob 1 (.cells [iC 4, iC 0, .str [], E25.tree [r24.1], E45.tree [], NTT122 []]) (OLe.cells (All2.cons (CLe.refl _) (All2.cons (CLe.refl _) (All2.cons (CLe.refl _) (All2.cons (CLe.refl _) (All2.cons (CLe.refl _) (All2.cons (NTT122_ge _) (All2.nil))))))))) ?_
      refine Ref.ck ⟨[sP 2 1 0 0], [E65.o r24.2, .cells [iC 4, iC 0, .str [], E25.tree [r24.1], E45.tree [], NTT122 []]], [], 1⟩ [2] [0, 1] ?_
      exact Ref.rt (t := (Sum.inr ((⟨4, 0, ([] : Bytes), [r24.1], [], []⟩ : S122), r24.2)))
     ·
      refine Ref.sk ?_
      refine Ref.ck ⟨[sP 0 0 0 0, sP 2 1 0 0], [E65.o r18.2, oX0], [], 1⟩ [0, 2] [0, 1] ?_
      exact Ref.n0 (t := (r18.2))
 ·
  refine Ref.sq ?_
  refine Ref.rn 12 ?_
  refine RefR.e1 0 1 1 [2, 47] [0, 1] ?_
  refine RefR.cc 48 1 2 [0] (F20_ok K u13 3) (fun r25 => ?_)
  refine RefR.nl 2 ?_
  refine Ref.sq ?_
  refine Ref.rn 13 ?_
  refine RefR.e0 (st' := ⟨[sP 2 1 0 0], [E65.o r25, oX0], [], 1⟩) 0 2 2 [2] [0, 1] ?_
  refine RefR.nl 2 ?_
  refine Ref.conv (Conv.ob 1 (.cells [iC 0, iC 0, .str [], E25.tree [], .nil, .nil]) (OLe.cells (All2.cons (CLe.refl _) (All2.cons (CLe.refl _) (All2.cons (CLe.refl _) (All2.cons (El.tree_nil E25) (All2.cons (CLe.refl _) (All2.cons (CLe.refl _) (All2.nil))))))))) ?_
  refine Ref.conv (Conv.ob 1 (.cells [iC 0, iC 0, .str [], E25.tree [], E45.tree [], .nil]) (OLe.cells (All2.cons (CLe.refl _) (All2.cons (CLe.refl _) (All2.cons (CLe.refl _) (All2.cons (CLe.refl _) (All2.cons (El.tree_nil E45) (All2.cons (CLe.refl _) (All2.nil))))))))) ?_
  refine Ref.conv (Conv.ob 1 (oX6) (OLe.cells (All2.cons (CLe.refl _) (All2.cons (CLe.refl _) (All2.cons (CLe.refl _) (All2.cons (CLe.refl _) (All2.cons (CLe.refl _) (All2.cons (El.tree_nil E58) (All2.nil))))))))) ?_
  refine Ref.conv (Conv.ob 1 (.cells [iC 0, iC 0, .str [], E25.tree [], E45.tree [], NTT122 []]) (OLe.cells (All2.cons (CLe.refl _) (All2.cons (CLe.refl _) (All2.cons (CLe.refl _) (All2.cons (CLe.refl _) (All2.cons (CLe.refl _) (All2.cons (NTT122_ge _) (All2.nil))))))))) ?_
  exact Ref.rt (t := ((⟨0, 0, ([] : Bytes), [], [], []⟩ : S122), r25))
mutual
def F97 : (K : Nat) → (S65) → (Int) → ((List Bytes)) → Option (((List S122) × S65) ⊕ ((List S122) × S65))
 | 0, _, _, _ => none
 | K + 1, a0, a1, a2 =>
 ((condM true (fnS (F113 K a0)) default).bind (fun r1 => ((condM (!r1) (fnS (F29 K a0 a2)) default).bind (fun r2 => ((condM (!(r1 || r2)) (fnS (F60 K a2 ([48] : Bytes))) default).bind (fun r3 => ((condM (r3 && (!(r1 || r2))) (fnS (F114 K a0)) default).bind (fun r4 => (bindS (if ((r1 || r2) || (r3 && r4)) = true then ((fnS (F38 K a0 a1)).bind (fun r7 => (some (.inr (r7))))) else (some (.inr (a0)))) (fun (u6 : S65) => (bindS (blockS ((iter K (fun (u37 : S65 × (List S122)) => ((condM true (fnS (F113 K u37.1)) default).bind (fun r45 => (if r45 = true then (bindS (blockS ((fnS (F30 K u37.1 (Int.ofNat u37.2.length) 24)).bind (fun r49 => ((fnS (F115 K r49 a1)).bind (fun r50 => (chk [room ((u37.2.length + ([r50.1].length)) * 104)] (some (.inr (r50.2, (u37.2 ++ [r50.1])))))))))) (fun (u48 : S65 × (List S122)) => (some (.inr (u48.1, u48.2))))) else (some (.inl (Sum.inl (u37.1, u37.2)))))))) (u6, [])).map .inl)) (fun (u29 : S65 × (List S122)) => (some (.inl (u29.2, u29.1)))))))))))))))
def F115 : (K : Nat) → (S65) → (Int) → Option ((S122 × S65) ⊕ (S122 × S65))
 | 0, _, _ => none
 | K + 1, a0, a1 =>
 (bindS (blockS ((condM true (fnS (F69 K a0 1)) default).bind (fun r29 => (if r29 = true then ((fnS (F129 K a0)).bind (fun r30 => (some (.inr (r30.2, r30.1.fKind, r30.1.fN, r30.1.fName, r30.1.fExprs, r30.1.fLabels, r30.1.fBlocks))))) else ((condM true (fnS (F29 K a0 ([[84, 72, 73, 83], [83, 85, 80, 69, 82]] : List Bytes))) default).bind (fun r31 => (if r31 = true then ((fnS (F74 K a0 1)).bind (fun r32 => (some (.inr (r32.2, 4, 0, ([] : Bytes), [r32.1], [], []))))) else ((fnS (F39 K a0 ([73, 70] : Bytes))).bind (fun r33 => (if r33.1 = true then ((fnS (F130 K r33.2 a1)).bind (fun r34 => (some (.inr (r34.2, r34.1.fKind, r34.1.fN, r34.1.fName, r34.1.fExprs, r34.1.fLabels, r34.1.fBlocks))))) else ((fnS (F39 K r33.2 ([67, 65, 83, 69] : Bytes))).bind (fun r35 => (if r35.1 = true then ((fnS (F131 K r35.2 a1)).bind (fun r36 => (some (.inr (r36.2, r36.1.fKind, r36.1.fN, r36.1.fName, r36.1.fExprs, r36.1.fLabels, r36.1.fBlocks))))) else ((fnS (F39 K r35.2 ([87, 72, 73, 76, 69] : Bytes))).bind (fun r37 => (if r37.1 = true then ((fnS (F19 K r37.2 1)).bind (fun r38 => ((fnS (F93 K r38.2 ([[68, 79]] : List Bytes))).bind (fun r39 => ((fnS (F97 K r39 (IntKind.i64.wrap (a1 + 1)) ([[69, 78, 68, 95, 87, 72, 73, 76, 69]] : List Bytes))).bind (fun r40 => ((fnS (F93 K r40.2 ([[69, 78, 68, 95, 87, 72, 73, 76, 69]] : List Bytes))).bind (fun r41 => (some (.inr (r41, 7, 0, ([] : Bytes), [r38.1], [], [r40.1]))))))))))) else ((fnS (F39 K r37.2 ([70, 79, 82] : Bytes))).bind (fun r42 => (if r42.1 = true then ((fnS (F132 K r42.2 a1)).bind (fun r43 => (some (.inr (r43.2, r43.1.fKind, r43.1.fN, r43.1.fName, r43.1.fExprs, r43.1.fLabels, r43.1.fBlocks))))) else ((fnS (F39 K r42.2 ([82, 69, 84, 85, 82, 78] : Bytes))).bind (fun r44 => (if r44.1 = true then ((condM true (fnS (F29 K r44.2 ([[59]] : List Bytes))) default).bind (fun r45 => (if (!r45) = true then ((fnS (F19 K r44.2 1)).bind (fun r46 => (some (.inr (r46.2, 9, 0, ([] : Bytes), [r46.1], [], []))))) else (some (.inr (r44.2, 9, 0, ([] : Bytes), [], [], [])))))) else ((fnS (F39 K r44.2 ([69, 88, 73, 84] : Bytes))).bind (fun r47 => (if r47.1 = true then (some (.inr (r47.2, 10, 0, ([] : Bytes), [], [], []))) else ((fnS (F39 K r47.2 ([83, 84, 69, 80] : Bytes))).bind (fun r48 => (if r48.1 = true then ((fnS (F72 K r48.2)).bind (fun r49 => ((fnS (F93 K r49.2 ([[40]] : List Bytes))).bind (fun r50 => ((fnS (F19 K r50 1)).bind (fun r51 => ((fnS (F93 K r51.2 ([[44]] : List Bytes))).bind (fun r52 => ((fnS (F19 K r52 1)).bind (fun r53 => ((fnS (F93 K r53.2 ([[41]] : List Bytes))).bind (fun r55 => (some (.inr (r55, 11, 0, r49.1, [r51.1, r53.1], [], []))))))))))))))) else (some (.inr (r48.2, 0, 0, ([] : Bytes), [], [], []))))))))))))))))))))))))))))))) (fun (u28 : S65 × Int × Int × Bytes × (List S25) × (List (List Int)) × (List (List S122))) => ((fnS (F93 K u28.1 ([[59]] : List Bytes))).bind (fun r56 => (some (.inl ((⟨u28.2.1, u28.2.2.1, u28.2.2.2.1, u28.2.2.2.2.1, u28.2.2.2.2.2.1, u28.2.2.2.2.2.2⟩ : S122), r56)))))))
def F130 : (K : Nat) → (S65) → (Int) → Option ((S122 × S65) ⊕ (S122 × S65))
 | 0, _, _ => none
 | K + 1, a0, a1 =>
 (bindS (blockS ((iter K (fun (u74 : S65 × (List S25) × (List (List S122)) × Bool) => ((condM u74.2.2.2 (fnS (F21 K u74.1)) default).bind (fun r93 => (if (u74.2.2.2 && r93) = true then (bindS (blockS ((fnS (F19 K u74.1 1)).bind (fun r102 => (chk [room ((u74.2.1.length + ([r102.1].length)) * 72)] ((fnS (F93 K r102.2 ([[84, 72, 69, 78]] : List Bytes))).bind (fun r104 => ((fnS (F97 K r104 (IntKind.i64.wrap (a1 + 1)) [([69, 76, 83, 73, 70] : Bytes), ([69, 76, 83, 69] : Bytes), ([69, 78, 68, 95, 73, 70] : Bytes)])).bind (fun r105 => (chk [room ((u74.2.2.1.length + ([r105.1].length)) * 24)] ((condM true (fnS (F29 K r105.2 ([[69, 76, 83, 73, 70]] : List Bytes))) default).bind (fun r107 => (if r107 = true then ((fnS (F30 K r105.2 (Int.ofNat ((u74.2.1 ++ [r102.1]).length)) 6)).bind (fun r108 => (some (.inr (r108, (u74.2.1 ++ [r102.1]), (u74.2.2.1 ++ [r105.1])))))) else (some (.inr (r105.2, (u74.2.1 ++ [r102.1]), (u74.2.2.1 ++ [r105.1])))))))))))))))) (fun (u101 : S65 × (List S25) × (List (List S122))) => ((fnS (F39 K u101.1 ([69, 76, 83, 73, 70] : Bytes))).bind (fun r109 => (some (.inr (r109.2, u101.2.1, u101.2.2, r109.1))))))) else (some (.inl (Sum.inl (u74.1, u74.2.1, u74.2.2.1)))))))) (a0, [], [], true)).map .inl)) (fun (u55 : S65 × (List S25) × (List (List S122))) => ((fnS (F141 K u55.1 a1 ([69, 78, 68, 95, 73, 70] : Bytes))).bind (fun r110 => (chk [room ((u55.2.2.length + ([r110.1].length)) * 24)] (some (.inl ((⟨5, 0, ([] : Bytes), u55.2.1, [], (u55.2.2 ++ [r110.1])⟩ : S122), r110.2))))))))
def F131 : (K : Nat) → (S65) → (Int) → Option ((S122 × S65) ⊕ (S122 × S65))
 | 0, _, _ => none
 | K + 1, a0, a1 =>
 ((fnS (F19 K a0 1)).bind (fun r1 => ((fnS (F93 K r1.2 ([[79, 70]] : List Bytes))).bind (fun r2 => (bindS (blockS ((iter K (fun (u728 : S65 × (List (List Int)) × (List (List S122))) => ((condM true (fnS (F114 K u728.1)) default).bind (fun r910 => (if r910 = true then (bindS (blockS ((fnS (F30 K u728.1 (Int.ofNat u728.2.1.length) 6)).bind (fun r1001 => (bindS (blockS ((iter K (fun (u1059 : S65 × (List Int) × Bool) => ((condM u1059.2.2 (fnS (F21 K u1059.1)) default).bind (fun r1074 => (if (u1059.2.2 && r1074) = true then (bindS (blockS ((condM true (fnS (F114 K u1059.1)) default).bind (fun r1081 => (bindS (if r1081 = true then ((fnS (F30 K u1059.1 (Int.ofNat u1059.2.1.length) 8)).bind (fun r1084 => (some (.inr (r1084))))) else (some (.inr (u1059.1)))) (fun (u1083 : S65) => ((fnS (F112 K u1083)).bind (fun r1085 => (chk [room ((u1059.2.1.length + ([r1085.1].length)) * 8)] (some (.inr (r1085.2, (u1059.2.1 ++ [r1085.1])))))))))))) (fun (u1080 : S65 × (List Int)) => ((fnS (F39 K u1080.1 ([44] : Bytes))).bind (fun r1086 => (some (.inr (r1086.2, u1080.2, r1086.1))))))) else (some (.inl (Sum.inl (u1059.1, u1059.2.1)))))))) (r1001, [], true)).map .inl)) (fun (u1044 : S65 × (List Int)) => ((fnS (F93 K u1044.1 ([[58]] : List Bytes))).bind (fun r1087 => (chk [room ((u728.2.1.length + ([u1044.2].length)) * 24)] ((fnS (F97 K r1087 (IntKind.i64.wrap (a1 + 1)) [([48] : Bytes), ([69, 76, 83, 69] : Bytes), ([69, 78, 68, 95, 67, 65, 83, 69] : Bytes)])).bind (fun r1088 => (chk [room ((u728.2.2.length + ([r1088.1].length)) * 24)] (some (.inr (r1088.2, (u728.2.1 ++ [u1044.2]), (u728.2.2 ++ [r1088.1]))))))))))))))) (fun (u1000 : S65 × (List (List Int)) × (List (List S122))) => (some (.inr (u1000.1, u1000.2.1, u1000.2.2))))) else (some (.inl (Sum.inl (u728.1, u728.2.1, u728.2.2)))))))) (r2, [], [])).map .inl)) (fun (u546 : S65 × (List (List Int)) × (List (List S122))) => ((fnS (F141 K u546.1 a1 ([69, 78, 68, 95, 67, 65, 83, 69] : Bytes))).bind (fun r1090 => (chk [room ((u546.2.2.length + ([r1090.1].length)) * 24)] (some (.inl ((⟨6, 0, ([] : Bytes), [r1.1], u546.2.1, (u546.2.2 ++ [r1090.1])⟩ : S122), r1090.2))))))))))))
def F132 : (K : Nat) → (S65) → (Int) → Option ((S122 × S65) ⊕ (S122 × S65))
 | 0, _, _ => none
 | K + 1, a0, a1 =>
 ((fnS (F72 K a0)).bind (fun r1 => ((fnS (F93 K r1.2 ([[58, 61]] : List Bytes))).bind (fun r2 => ((fnS (F19 K r2 1)).bind (fun r3 => ((fnS (F93 K r3.2 ([[84, 79]] : List Bytes))).bind (fun r4 => ((fnS (F19 K r4 1)).bind (fun r5 => ((fnS (F93 K r5.2 ([[66, 89]] : List Bytes))).bind (fun r7 => ((fnS (F112 K r7)).bind (fun r8 => ((fnS (F93 K r8.2 ([[68, 79]] : List Bytes))).bind (fun r9 => ((fnS (F97 K r9 (IntKind.i64.wrap (a1 + 1)) ([[69, 78, 68, 95, 70, 79, 82]] : List Bytes))).bind (fun r10 => ((fnS (F93 K r10.2 ([[69, 78, 68, 95, 70, 79, 82]] : List Bytes))).bind (fun r11 => (some (.inl ((⟨8, r8.1, r1.1, [r3.1, r5.1], [], [r10.1]⟩ : S122), r11)))))))))))))))))))))))
def F141 : (K : Nat) → (S65) → (Int) → (Bytes) → Option (((List S122) × S65) ⊕ ((List S122) × S65))
 | 0, _, _, _ => none
 | K + 1, a0, a1, a2 =>
 ((fnS (F39 K a0 ([69, 76, 83, 69] : Bytes))).bind (fun r1 => (bindS (if r1.1 = true then ((fnS (F97 K r1.2 (IntKind.i64.wrap (a1 + 1)) [a2])).bind (fun r4 => (some (.inr (r4.2, r4.1))))) else (some (.inr (r1.2, [])))) (fun (u3 : S65 × (List S122)) => ((fnS (F93 K u3.1 [a2])).bind (fun r5 => (some (.inl (u3.2, r5)))))))))
end
theorem G97_ok : ∀ K : Nat, (∀ (a0 : S65), ∀ (a1 : Int), ∀ (a2 : (List Bytes)), DFun Tryz.prog 97 [.c (.ptr 0 0 0), .c (.val (.int .i64 a1)), .c (E9.tree a2)] [E65.o a0] (fnS (F97 K a0 a1 a2)) (fun r => .c (E122.tree r.1)) (fun r => [E65.o r.2])) ∧ (∀ (a0 : S65), ∀ (a1 : Int), DFun Tryz.prog 115 [.c (.ptr 0 0 0), .c (.val (.int .i64 a1))] [E65.o a0] (fnS (F115 K a0 a1)) (fun r => .agg (E122.cs r.1)) (fun r => [E65.o r.2, E122.o r.1])) ∧ (∀ (a0 : S65), ∀ (a1 : Int), DFun Tryz.prog 130 [.c (.ptr 0 0 0), .c (.val (.int .i64 a1))] [E65.o a0] (fnS (F130 K a0 a1)) (fun r => .agg (E122.cs r.1)) (fun r => [E65.o r.2, E122.o r.1])) ∧ (∀ (a0 : S65), ∀ (a1 : Int), DFun Tryz.prog 131 [.c (.ptr 0 0 0), .c (.val (.int .i64 a1))] [E65.o a0] (fnS (F131 K a0 a1)) (fun r => .agg (E122.cs r.1)) (fun r => [E65.o r.2, E122.o r.1])) ∧ (∀ (a0 : S65), ∀ (a1 : Int), DFun Tryz.prog 132 [.c (.ptr 0 0 0), .c (.val (.int .i64 a1))] [E65.o a0] (fnS (F132 K a0 a1)) (fun r => .agg (E122.cs r.1)) (fun r => [E65.o r.2, E122.o r.1])) ∧ (∀ (a0 : S65), ∀ (a1 : Int), ∀ (a2 : Bytes), DFun Tryz.prog 141 [.c (.ptr 0 0 0), .c (.val (.int .i64 a1)), .c (.str a2)] [E65.o a0] (fnS (F141 K a0 a1 a2)) (fun r => .c (E122.tree r.1)) (fun r => [E65.o r.2])) := by
 intro K
 induction K with
 | zero => exact ⟨fun a0 a1 a2 => DFun.none (by rw [F97]; rfl), fun a0 a1 => DFun.none (by rw [F115]; rfl), fun a0 a1 => DFun.none (by rw [F130]; rfl), fun a0 a1 => DFun.none (by rw [F131]; rfl), fun a0 a1 => DFun.none (by rw [F132]; rfl), fun a0 a1 a2 => DFun.none (by rw [F141]; rfl)⟩
 | succ K ih =>
  obtain ⟨ih97, ih115, ih130, ih131, ih132, ih141⟩ := ih
  refine ⟨?_, ?_, ?_, ?_, ?_, ?_⟩
  ·
   intro a0 a1 a2
   refine DFun.it Tryz.f97 (fun r => ⟨[(6, .c (E122.tree r.1))], [E65.o r.2], [], 1⟩) ?_
   rw [F97]
   refine Ref.sq ?_
   refine Ref.rn 0 ?_
   refine RefR.e0 (st' := ⟨[sP 0 0 0 0, sI 1 a1, (2, .c (E9.tree a2))], [E65.o a0], [], 1⟩) 0 1 1 [0, 1, 2] [0] ?_
   refine RefR.nl 1 ?_
   refine Ref.sq ?_
   refine Ref.sq ?_
   refine Ref.rn 1 ?_
   refine RefR.e1 0 1 1 [0, 1, 2, 8] [0] ?_
   refine RefR.lookC (t := 9) (g := []) (b := true) 1 2 [0] (default : Bool) rfl (by kernel_rfl) (F113_ok K a0) (fun _ => rfl) (fun r1 => ?_)
   refine RefR.e1 2 3 5 [0, 1, 2, 10, 11, 12] [0] ?_
   refine RefR.lookC (t := 13) (g := [(10, false)]) (b := (!r1)) 5 6 [0] (default : Bool) rfl (by kernel_rfl) (F29_ok K a0 a2) (fun _ => rfl) (fun r2 => ?_)
   refine RefR.e1 6 3 9 [0, 1, 15, 16] [0] ?_
   refine RefR.lookC (t := 17) (g := [(15, false)]) (b := (!(r1 || r2))) 9 10 [] (default : Bool) rfl (by kernel_rfl) (F60_ok K a2 w_48) (fun _ => rfl) (fun r3 => ?_)
   refine RefR.e1 10 2 12 [0, 1, 15, 18, 19] [0] ?_
   refine RefR.lookC (t := 20) (g := [(18, true), (15, false)]) (b := (r3 && (!(r1 || r2)))) 12 13 [0] (default : Bool) rfl (by kernel_rfl) (F114_ok K a0) (fun _ => rfl) (fun r4 => ?_)
   refine RefR.e0 (st' := ⟨[sP 0 0 0 0, sI 1 a1, sB 22 ((r1 || r2) || (r3 && r4))], [E65.o a0], [], 1⟩) 13 2 15 [0, 1, 22] [0] ?_
   refine RefR.nl 15 ?_
   refine Ref.bind (go1 := fun u6 => ⟨[sP 0 0 0 0, sI 1 a1], [E65.o u6], [], 1⟩) ?_ (fun u6 => ?_)
   ·
    refine Ref.cn (.tmp 22) ((r1 || r2) || (r3 && r4)) (fun hc => ?_) (fun hc => ?_)
    ·
     refine Ref.rn 2 ?_
     refine RefR.e1 0 2 2 [0, 1, 23, 24] [0] ?_
     refine RefR.cc 25 2 3 [0] (F38_ok K a0 a1) (fun r7 => ?_)
     refine RefR.nl 3 ?_
     refine Ref.ck ⟨[sP 0 0 0 0, sI 1 a1], [E65.o r7], [], 1⟩ [0, 1] [0] ?_
     exact Ref.n0 (t := (r7))
    ·
     refine Ref.sk ?_
     refine Ref.ck ⟨[sP 0 0 0 0, sI 1 a1], [E65.o a0], [], 1⟩ [0, 1] [0] ?_
     exact Ref.n0 (t := (a0))
   ·
    refine Ref.sq ?_
    refine Ref.rn 3 ?_
    refine RefR.e0 (st' := ⟨[sP 0 0 0 0, sI 1 a1, (7, .c (.nil))], [E65.o u6], [], 1⟩) 0 1 1 [0, 1, 7] [0] ?_
    refine RefR.nl 1 ?_
    refine Ref.sq ?_
    refine Ref.ce (.block 0 (cd (bd Tryz.f97) [1, 1, 1, 0, 0])) ?_
    refine Ref.block (go1 := fun u29 => ⟨[(7, .c (.own 1 u29.2.length))], [E65.o u29.1, E122.row u29.2], [], 1⟩) ?_ (fun _ h => by cases h) (fun u29 => ?_)
    ·
     refine Ref.ce (.loop (cd (bd Tryz.f97) [1, 1, 1, 0, 0, 0])) ?_
     refine Ref.conv (Conv.adopt 7 E122.ty E122.w (E122.at []) (by kernel_rfl) (by kernel_rfl) (by kernel_rfl)) ?_
     refine Ref.ck ⟨[sP 0 0 0 0, sI 1 a1, (7, .c (.own 1 0))], [E65.o u6, E122.row []], [], 1⟩ [0, 1, 7] [0, 1] ?_
     refine Ref.loop (hd := fun u37 => ⟨[sP 0 0 0 0, sI 1 a1, (7, .c (.own 1 u37.2.length))], [E65.o u37.1, E122.row u37.2], [], 1⟩) K (u6, []) (by kernel_rfl) (fun u37 => ?_)
     refine Ref.sq ?_
     refine Ref.sq ?_
     refine Ref.rn 4 ?_
     refine RefR.e1 0 1 1 [0, 1, 7, 26] [0, 1] ?_
     refine RefR.lookC (t := 27) (g := []) (b := true) 1 2 [0] (default : Bool) rfl (by kernel_rfl) (F113_ok K u37.1) (fun _ => rfl) (fun r45 => ?_)
     refine RefR.nl 2 ?_
     refine Ref.cn (.tmp 27) r45 (fun hc => ?_) (fun hc => ?_)
     ·
      refine Ref.sk ?_
      refine Ref.ce (.block 1 (cd (bd Tryz.f97) [1, 1, 1, 0, 0, 0, 1, 0])) ?_
      refine Ref.block (go1 := fun u48 => ⟨[sP 0 0 0 0, sI 1 a1, (7, .c (.own 1 u48.2.length))], [E65.o u48.1, E122.row u48.2], [], 1⟩) ?_ (fun a => match a with | .inl _ => (fun h => by cases h) | .inr _ => (fun h => by cases h)) (fun u48 => ?_)
      ·
       refine Ref.sq ?_
       refine Ref.rn 5 ?_
       refine RefR.e1 0 3 3 [0, 1, 7, 28, 30] [0, 1] ?_
       refine RefR.cc 31 3 4 [0] (F30_ok K u37.1 (Int.ofNat u37.2.length) 24) (fun r49 => ?_)
       refine RefR.nl 4 ?_
       refine Ref.rn 6 ?_
       refine RefR.e1 0 3 3 [0, 1, 32, 33, 34] [0, 1] ?_
       refine RefR.cc 35 3 4 [0] (ih115 r49 a1) (fun r50 => ?_)
       refine RefR.e0 (st' := ⟨[sP 0 0 0 0, sI 1 a1, (32, .c (.own 1 u37.2.length)), (36, .c (.own 2 1))], [E65.o r50.2, E122.row u37.2, .row 122 6 1 (tbl [(E122.cs r50.1)])], [], 1⟩) 4 1 5 [0, 1, 32, 36] [0, 1, 3] ?_
       refine RefR.conv (Conv.ob 2 (E122.row [r50.1]) (El.row_build E122 [r50.1] rfl (by kernel_rfl))) ?_
       refine RefR.conv (Conv.sl 36 (.c (.own 2 ([r50.1].length))) (DLe.c (CLe.own (by simp <;> omega)))) ?_
       refine RefR.evC (vs := [room ((u37.2.length + ([r50.1].length)) * 104)]) (st' := ⟨[sP 0 0 0 0, sI 1 a1, (37, .c (.own 1 (u37.2.length + ([r50.1].length))))], [E65.o r50.2, .row 122 6 (u37.2.length + ([r50.1].length)) fun i j => bif Nat.blt i u37.2.length then E122.at u37.2 i j else (E122.at [r50.1]) (i - u37.2.length) j], [], 1⟩) 5 1 6 [0, 1, 37] [0, 3] rfl (by kernel_rfl) ?_
       refine RefR.conv (Conv.ob 1 (E122.row (u37.2 ++ [r50.1])) (El.row_append E122 u37.2 [r50.1] rfl rfl)) ?_
       refine RefR.conv (Conv.sl 37 (.c (.own 1 ((u37.2 ++ [r50.1]).length))) (DLe.c (CLe.own (by simp <;> omega)))) ?_
       refine RefR.e0 (st' := ⟨[sP 0 0 0 0, sI 1 a1, (7, .c (.own 1 ((u37.2 ++ [r50.1]).length)))], [E65.o r50.2, E122.row (u37.2 ++ [r50.1])], [], 1⟩) 6 1 7 [0, 1, 7] [0, 1] ?_
       refine RefR.nl 7 ?_
       exact Ref.n0 (t := (r50.2, (u37.2 ++ [r50.1])))
      ·
       exact Ref.n0 (t := (u48.1, u48.2))
     ·
      refine Ref.ck ⟨[(7, .c (.own 1 u37.2.length))], [E65.o u37.1, E122.row u37.2], [], 1⟩ [7] [0, 1] ?_
      exact Ref.xt 0 (t := (Sum.inl (u37.1, u37.2)))
    ·
     refine Ref.sq ?_
     refine Ref.rn 7 ?_
     refine RefR.e0 (st' := ⟨[(6, .c (.own 1 u29.2.length))], [E65.o u29.1, E122.row u29.2], [], 1⟩) 0 2 2 [6] [0, 1] ?_
     refine RefR.nl 2 ?_
     refine Ref.conv (Conv.freeze (st' := ⟨[(6, .c (E122.tree u29.2))], [E65.o u29.1, .dead], [], 1⟩) 1 (by kernel_rfl)) ?_
     refine Ref.ck ⟨[(6, .c (E122.tree u29.2))], [E65.o u29.1], [], 1⟩ [6] [0] ?_
     exact Ref.rt (t := (u29.2, u29.1))
  ·
   intro a0 a1
   refine DFun.it Tryz.f115 (fun r => ⟨[sP 4 1 0 0], [E65.o r.2, E122.o r.1], [], 1⟩) ?_
   rw [F115]
   refine Ref.sq ?_
   refine Ref.rn 0 ?_
   refine RefR.e0 (st' := ⟨[sP 0 0 0 0, sI 1 a1, sP 4 1 0 0], [E65.o a0, oX0], [], 1⟩) 0 1 1 [0, 1, 4] [0, 1] ?_
   refine RefR.nl 1 ?_
   refine Ref.sq ?_
   refine Ref.rn 1 ?_
   refine RefR.e0 (st' := ⟨[sP 0 0 0 0, sI 1 a1, sP 4 1 0 0, sP 5 2 0 0], [E65.o a0, oX0, oX0], [], 1⟩) 0 1 1 [0, 1, 4, 5] [0, 1, 2] ?_
   refine RefR.nl 1 ?_
   refine Ref.sq ?_
   refine Ref.ce (.block 0 (cd (bd Tryz.f115) [1, 1, 0, 0])) ?_
   refine Ref.block (go1 := fun u28 => ⟨[sP 0 0 0 0, sP 4 1 0 0, sP 5 2 0 0], [E65.o u28.1, oX0, .cells [iC u28.2.1, iC u28.2.2.1, .str u28.2.2.2.1, E25.tree u28.2.2.2.2.1, E45.tree u28.2.2.2.2.2.1, E58.tree u28.2.2.2.2.2.2]], [], 1⟩) ?_ (fun _ h => by cases h) (fun u28 => ?_)
   ·
    refine Ref.sq ?_
    refine Ref.rn 2 ?_
    refine RefR.e1 0 1 1 [0, 1, 4, 5, 8] [0, 1, 2] ?_
    refine RefR.lookC (t := 9) (g := []) (b := true) 1 2 [0] (default : Bool) rfl (by kernel_rfl) (F69_ok K a0 1) (fun _ => rfl) (fun r29 => ?_)
    refine RefR.e0 (st' := ⟨[sP 0 0 0 0, sI 1 a1, sP 4 1 0 0, sP 5 2 0 0, sB 7 r29], [E65.o a0, oX0, oX0], [], 1⟩) 2 1 3 [0, 1, 4, 5, 7] [0, 1, 2] ?_
    refine RefR.nl 3 ?_
    refine Ref.cn (.tmp 7) r29 (fun hc => ?_) (fun hc => ?_)
    ·
     refine Ref.rn 3 ?_
     refine RefR.e1 0 1 1 [0, 4, 5, 10] [0, 1, 2] ?_
     refine RefR.cc 11 1 2 [0] (F129_ok K a0) (fun r30 => ?_)
     refine RefR.e0 (st' := ⟨[sP 0 0 0 0, sP 4 1 0 0, sP 5 2 0 0], [E65.o r30.2, oX0, E122.o r30.1], [], 1⟩) 2 1 3 [0, 4, 5] [0, 1, 2] ?_
     refine RefR.nl 3 ?_
     refine Ref.conv (Conv.ob 2 (.cells [iC r30.1.fKind, iC r30.1.fN, .str r30.1.fName, E25.tree r30.1.fExprs, E45.tree r30.1.fLabels, E58.tree r30.1.fBlocks]) (OLe.cells (All2.cons (CLe.refl _) (All2.cons (CLe.refl _) (All2.cons (CLe.refl _) (All2.cons (CLe.refl _) (All2.cons (CLe.refl _) (All2.cons (NTT122_le _) (All2.nil))))))))) ?_
     exact Ref.n0 (t := (r30.2, r30.1.fKind, r30.1.fN, r30.1.fName, r30.1.fExprs, r30.1.fLabels, r30.1.fBlocks))
    ·
     refine Ref.sq ?_
     refine Ref.rn 4 ?_
     refine RefR.e0 (st' := ⟨[sP 0 0 0 0, sI 1 a1, sP 4 1 0 0, sP 5 2 0 0, sP 13 0 0 0], [E65.o a0, oX0, oX0], [], 1⟩) 0 1 1 [0, 1, 4, 5, 13] [0, 1, 2] ?_
     refine RefR.li 14 [] E9 ([[84, 72, 73, 83], [83, 85, 80, 69, 82]] : List Bytes) 1 2 ?_
     refine RefR.lookC (t := 15) (g := []) (b := true) 2 3 [0] (default : Bool) rfl (by kernel_rfl) (F29_ok K a0 ([[84, 72, 73, 83], [83, 85, 80, 69, 82]] : List Bytes)) (fun _ => rfl) (fun r31 => ?_)
     refine RefR.e0 (st' := ⟨[sP 0 0 0 0, sI 1 a1, sP 4 1 0 0, sP 5 2 0 0, sB 12 r31], [E65.o a0, oX0, oX0], [], 1⟩) 3 1 4 [0, 1, 4, 5, 12] [0, 1, 2] ?_
     refine RefR.nl 4 ?_
     refine Ref.cn (.tmp 12) r31 (fun hc => ?_) (fun hc => ?_)
     ·
      refine Ref.rn 5 ?_
      refine RefR.e1 0 1 1 [0, 4, 5, 16] [0, 1, 2] ?_
      refine RefR.cc 17 1 2 [0] (F74_ok K a0 1) (fun r32 => ?_)
      refine RefR.e0 (st' := ⟨[sP 0 0 0 0, sP 4 1 0 0, sP 5 2 0 0, (18, .c (.own 3 1))], [E65.o r32.2, oX0, oX0, .row 25 5 1 (tbl [(E25.cs r32.1)])], [], 1⟩) 2 1 3 [0, 4, 5, 18] [0, 1, 2, 4] ?_
      refine RefR.conv (Conv.ob 3 (E25.row [r32.1]) (El.row_build E25 [r32.1] rfl (by kernel_rfl))) ?_
      refine RefR.conv (Conv.sl 18 (.c (.own 3 ([r32.1].length))) (DLe.c (CLe.own (by simp <;> omega)))) ?_
      refine RefR.e0 (st' := ⟨[sP 0 0 0 0, sP 4 1 0 0, sP 5 2 0 0], [E65.o r32.2, oX0, .cells [iC 4, iC 0, .str [], .own 3 ([r32.1].length), .nil, .nil], E25.row [r32.1]], [], 1⟩) 3 2 5 [0, 4, 5] [0, 1, 2, 3] ?_
      refine RefR.nl 5 ?_
      refine Ref.conv (Conv.freeze (st' := ⟨[sP 0 0 0 0, sP 4 1 0 0, sP 5 2 0 0], [E65.o r32.2, oX0, .cells [iC 4, iC 0, .str [], E25.tree [r32.1], .nil, .nil], .dead], [], 1⟩) 3 (by kernel_rfl)) ?_
      refine Ref.conv (Conv.ob 2 (.cells [iC 4, iC 0, .str [], E25.tree [r32.1], E45.tree [], .nil]) (OLe.cells (All2.cons (CLe.refl _) (All2.cons (CLe.refl _) (All2.cons (CLe.refl _) (All2.cons (CLe.refl _) (All2.cons (El.tree_nil E45) (All2.cons (CLe.refl _) (All2.nil))))))))) ?_
      refine Ref.conv (Conv.ob 2 (.cells [iC 4, iC 0, .str [], E25.tree [r32.1], E45.tree [], E58.tree []]) (OLe.cells (All2.cons (CLe.refl _) (All2.cons (CLe.refl _) (All2.cons (CLe.refl _) (All2.cons (CLe.refl _) (All2.cons (CLe.refl _) (All2.cons (El.tree_nil E58) (All2.nil))))))))) ?_
      refine Ref.ck ⟨[sP 0 0 0 0, sP 4 1 0 0, sP 5 2 0 0], [E65.o r32.2, oX0, .cells [iC 4, iC 0, .str [], E25.tree [r32.1], E45.tree [], E58.tree []]], [], 1⟩ [0, 4, 5] [0, 1, 2] ?_
      exact Ref.n0 (t := (r32.2, 4, 0, ([] : Bytes), [r32.1], [], []))
     ·
      refine Ref.sq ?_
      refine Ref.rn 6 ?_
      refine RefR.e1 0 1 1 [0, 1, 4, 5, 21] [0, 1, 2] ?_
      refine RefR.cc 22 1 2 [0] (F39_ok K a0 ([73, 70] : Bytes)) (fun r33 => ?_)
      refine RefR.e0 (st' := ⟨[sP 0 0 0 0, sI 1 a1, sP 4 1 0 0, sP 5 2 0 0, sB 20 r33.1], [E65.o r33.2, oX0, oX0], [], 1⟩) 2 1 3 [0, 1, 4, 5, 20] [0, 1, 2] ?_
      refine RefR.nl 3 ?_
      refine Ref.cn (.tmp 20) r33.1 (fun hc => ?_) (fun hc => ?_)
      ·
       refine Ref.rn 7 ?_
       refine RefR.e1 0 2 2 [0, 4, 5, 23, 24] [0, 1, 2] ?_
       refine RefR.cc 25 2 3 [0] (ih130 r33.2 a1) (fun r34 => ?_)
       refine RefR.e0 (st' := ⟨[sP 0 0 0 0, sP 4 1 0 0, sP 5 2 0 0], [E65.o r34.2, oX0, E122.o r34.1], [], 1⟩) 3 1 4 [0, 4, 5] [0, 1, 2] ?_
       refine RefR.nl 4 ?_
       refine Ref.conv (Conv.ob 2 (.cells [iC r34.1.fKind, iC r34.1.fN, .str r34.1.fName, E25.tree r34.1.fExprs, E45.tree r34.1.fLabels, E58.tree r34.1.fBlocks]) (OLe.cells (All2.cons (CLe.refl _) (All2.cons (CLe.refl _) (All2.cons (CLe.refl _) (All2.cons (CLe.refl _) (All2.cons (CLe.refl _) (All2.cons (NTT122_le _) (All2.nil))))))))) ?_
       exact Ref.n0 (t := (r34.2, r34.1.fKind, r34.1.fN, r34.1.fName, r34.1.fExprs, r34.1.fLabels, r34.1.fBlocks))
      ·
       refine Ref.sq ?_
       refine Ref.rn 8 ?_
       refine RefR.e1 0 1 1 [0, 1, 4, 5, 27] [0, 1, 2] ?_
       refine RefR.cc 28 1 2 [0] (F39_ok K r33.2 ([67, 65, 83, 69] : Bytes)) (fun r35 => ?_)
       refine RefR.e0 (st' := ⟨[sP 0 0 0 0, sI 1 a1, sP 4 1 0 0, sP 5 2 0 0, sB 26 r35.1], [E65.o r35.2, oX0, oX0], [], 1⟩) 2 1 3 [0, 1, 4, 5, 26] [0, 1, 2] ?_
       refine RefR.nl 3 ?_
       refine Ref.cn (.tmp 26) r35.1 (fun hc => ?_) (fun hc => ?_)
       ·
        refine Ref.rn 9 ?_
        refine RefR.e1 0 2 2 [0, 4, 5, 29, 30] [0, 1, 2] ?_
        refine RefR.cc 31 2 3 [0] (ih131 r35.2 a1) (fun r36 => ?_)
        refine RefR.e0 (st' := ⟨[sP 0 0 0 0, sP 4 1 0 0, sP 5 2 0 0], [E65.o r36.2, oX0, E122.o r36.1], [], 1⟩) 3 1 4 [0, 4, 5] [0, 1, 2] ?_
        refine RefR.nl 4 ?_
        refine Ref.conv (Conv.ob 2 (.cells [iC r36.1.fKind, iC r36.1.fN, .str r36.1.fName, E25.tree r36.1.fExprs, E45.tree r36.1.fLabels, E58.tree r36.1.fBlocks]) (OLe.cells (All2.cons (CLe.refl _) (All2.cons (CLe.refl _) (All2.cons (CLe.refl _) (All2.cons (CLe.refl _) (All2.cons (CLe.refl _) (All2.cons (NTT122_le _) (All2.nil))))))))) ?_
        exact Ref.n0 (t := (r36.2, r36.1.fKind, r36.1.fN, r36.1.fName, r36.1.fExprs, r36.1.fLabels, r36.1.fBlocks))
       ·
        refine Ref.sq ?_
        refine Ref.rn 10 ?_
        refine RefR.e1 0 1 1 [0, 1, 4, 5, 33] [0, 1, 2] ?_
        refine RefR.cc 34 1 2 [0] (F39_ok K r35.2 ([87, 72, 73, 76, 69] : Bytes)) (fun r37 => ?_)
        refine RefR.e0 (st' := ⟨[sP 0 0 0 0, sI 1 a1, sP 4 1 0 0, sP 5 2 0 0, sB 32 r37.1], [E65.o r37.2, oX0, oX0], [], 1⟩) 2 1 3 [0, 1, 4, 5, 32] [0, 1, 2] ?_
        refine RefR.nl 3 ?_
        refine Ref.cn (.tmp 32) r37.1 (fun hc => ?_) (fun hc => ?_)
        ·
         refine Ref.sq ?_
         refine Ref.rn 11 ?_
         refine RefR.e1 0 1 1 [0, 1, 4, 5, 35] [0, 1, 2] ?_
         refine RefR.cc 36 1 2 [0] (F19_ok K r37.2 1) (fun r38 => ?_)
         refine RefR.e0 (st' := ⟨[sP 0 0 0 0, sI 1 a1, sP 4 1 0 0, sP 5 2 0 0, (37, .c (.own 3 1))], [E65.o r38.2, oX0, oX0, .row 25 5 1 (tbl [(E25.cs r38.1)])], [], 1⟩) 2 1 3 [0, 1, 4, 5, 37] [0, 1, 2, 4] ?_
         refine RefR.conv (Conv.ob 3 (E25.row [r38.1]) (El.row_build E25 [r38.1] rfl (by kernel_rfl))) ?_
         refine RefR.conv (Conv.sl 37 (.c (.own 3 ([r38.1].length))) (DLe.c (CLe.own (by simp <;> omega)))) ?_
         refine RefR.e0 (st' := ⟨[sP 0 0 0 0, sI 1 a1, sP 4 1 0 0, sP 5 2 0 0], [E65.o r38.2, oX0, .cells [iC 7, iC 0, .str [], .own 3 ([r38.1].length), .nil, .nil], E25.row [r38.1]], [], 1⟩) 3 2 5 [0, 1, 4, 5] [0, 1, 2, 3] ?_
         refine RefR.nl 5 ?_
         refine Ref.sq ?_
         refine Ref.rn 12 ?_
         refine RefR.e0 (st' := ⟨[sP 0 0 0 0, sI 1 a1, sP 4 1 0 0, sP 5 2 0 0, sP 39 0 0 0], [E65.o r38.2, oX0, .cells [iC 7, iC 0, .str [], .own 3 ([r38.1].length), .nil, .nil], E25.row [r38.1]], [], 1⟩) 0 1 1 [0, 1, 4, 5, 39] [0, 1, 2, 3] ?_
         refine RefR.li 40 [] E9 ([[68, 79]] : List Bytes) 1 2 ?_
         refine RefR.cc 41 2 3 [0] (F93_ok K r38.2 ([[68, 79]] : List Bytes)) (fun r39 => ?_)
         refine RefR.nl 3 ?_
         refine Ref.sq ?_
         refine Ref.rn 13 ?_
         refine RefR.e0 (st' := ⟨[sP 0 0 0 0, sP 4 1 0 0, sP 5 2 0 0, sP 42 0 0 0, sI 44 (IntKind.i64.wrap (a1 + 1))], [E65.o r39, oX0, .cells [iC 7, iC 0, .str [], .own 3 ([r38.1].length), .nil, .nil], E25.row [r38.1]], [], 1⟩) 0 3 3 [0, 4, 5, 42, 44] [0, 1, 2, 3] ?_
         refine RefR.li 45 [] E9 ([[69, 78, 68, 95, 87, 72, 73, 76, 69]] : List Bytes) 3 4 ?_
         refine RefR.cc 46 4 5 [0] (ih97 r39 (IntKind.i64.wrap (a1 + 1)) ([[69, 78, 68, 95, 87, 72, 73, 76, 69]] : List Bytes)) (fun r40 => ?_)
         refine RefR.e0 (st' := ⟨[sP 0 0 0 0, sP 4 1 0 0, sP 5 2 0 0, (47, .c (.own 4 1))], [E65.o r40.2, oX0, .cells [iC 7, iC 0, .str [], .own 3 ([r38.1].length), .nil, .nil], E25.row [r38.1], .row 58 1 1 (tbl [[E122.tree r40.1]])], [], 1⟩) 5 1 6 [0, 4, 5, 47] [0, 1, 2, 3, 5] ?_
         refine RefR.conv (Conv.ob 4 (E58.row [r40.1]) (El.row_build E58 [r40.1] rfl (by kernel_rfl))) ?_
         refine RefR.conv (Conv.sl 47 (.c (.own 4 ([r40.1].length))) (DLe.c (CLe.own (by simp <;> omega)))) ?_
         refine RefR.e0 (st' := ⟨[sP 0 0 0 0, sP 4 1 0 0, sP 5 2 0 0], [E65.o r40.2, oX0, .cells [iC 7, iC 0, .str [], .own 3 ([r38.1].length), .nil, .own 4 ([r40.1].length)], E25.row [r38.1], E58.row [r40.1]], [], 1⟩) 6 2 8 [0, 4, 5] [0, 1, 2, 3, 4] ?_
         refine RefR.nl 8 ?_
         refine Ref.rn 14 ?_
         refine RefR.e0 (st' := ⟨[sP 0 0 0 0, sP 4 1 0 0, sP 5 2 0 0, sP 49 0 0 0], [E65.o r40.2, oX0, .cells [iC 7, iC 0, .str [], .own 3 ([r38.1].length), .nil, .own 4 ([r40.1].length)], E25.row [r38.1], E58.row [r40.1]], [], 1⟩) 0 1 1 [0, 4, 5, 49] [0, 1, 2, 3, 4] ?_
         refine RefR.li 50 [] E9 ([[69, 78, 68, 95, 87, 72, 73, 76, 69]] : List Bytes) 1 2 ?_
         refine RefR.cc 51 2 3 [0] (F93_ok K r40.2 ([[69, 78, 68, 95, 87, 72, 73, 76, 69]] : List Bytes)) (fun r41 => ?_)
         refine RefR.nl 3 ?_
         refine Ref.conv (Conv.freeze (st' := ⟨[(51, .tup []), (50, .c (E9.tree ([[69, 78, 68, 95, 87, 72, 73, 76, 69]] : List Bytes))), sP 0 0 0 0, sP 4 1 0 0, sP 5 2 0 0, sP 49 0 0 0], [E65.o r41, oX0, .cells [iC 7, iC 0, .str [], E25.tree [r38.1], .nil, .own 4 ([r40.1].length)], .dead, E58.row [r40.1], .dead], [], 1⟩) 3 (by kernel_rfl)) ?_
         refine Ref.conv (Conv.ob 2 (.cells [iC 7, iC 0, .str [], E25.tree [r38.1], E45.tree [], .own 4 ([r40.1].length)]) (OLe.cells (All2.cons (CLe.refl _) (All2.cons (CLe.refl _) (All2.cons (CLe.refl _) (All2.cons (CLe.refl _) (All2.cons (El.tree_nil E45) (All2.cons (CLe.refl _) (All2.nil))))))))) ?_
         refine Ref.conv (Conv.freeze (st' := ⟨[(51, .tup []), (50, .c (E9.tree ([[69, 78, 68, 95, 87, 72, 73, 76, 69]] : List Bytes))), sP 0 0 0 0, sP 4 1 0 0, sP 5 2 0 0, sP 49 0 0 0], [E65.o r41, oX0, .cells [iC 7, iC 0, .str [], E25.tree [r38.1], E45.tree [], E58.tree [r40.1]], .dead, .dead, .dead], [], 1⟩) 4 (by kernel_rfl)) ?_
         refine Ref.ck ⟨[sP 0 0 0 0, sP 4 1 0 0, sP 5 2 0 0], [E65.o r41, oX0, .cells [iC 7, iC 0, .str [], E25.tree [r38.1], E45.tree [], E58.tree [r40.1]]], [], 1⟩ [0, 4, 5] [0, 1, 2] ?_
         exact Ref.n0 (t := (r41, 7, 0, ([] : Bytes), [r38.1], [], [r40.1]))
        ·
         refine Ref.sq ?_
         refine Ref.rn 15 ?_
         refine RefR.e1 0 1 1 [0, 1, 4, 5, 53] [0, 1, 2] ?_
         refine RefR.cc 54 1 2 [0] (F39_ok K r37.2 ([70, 79, 82] : Bytes)) (fun r42 => ?_)
         refine RefR.e0 (st' := ⟨[sP 0 0 0 0, sI 1 a1, sP 4 1 0 0, sP 5 2 0 0, sB 52 r42.1], [E65.o r42.2, oX0, oX0], [], 1⟩) 2 1 3 [0, 1, 4, 5, 52] [0, 1, 2] ?_
         refine RefR.nl 3 ?_
         refine Ref.cn (.tmp 52) r42.1 (fun hc => ?_) (fun hc => ?_)
         ·
          refine Ref.rn 16 ?_
          refine RefR.e1 0 2 2 [0, 4, 5, 55, 56] [0, 1, 2] ?_
          refine RefR.cc 57 2 3 [0] (ih132 r42.2 a1) (fun r43 => ?_)
          refine RefR.e0 (st' := ⟨[sP 0 0 0 0, sP 4 1 0 0, sP 5 2 0 0], [E65.o r43.2, oX0, E122.o r43.1], [], 1⟩) 3 1 4 [0, 4, 5] [0, 1, 2] ?_
          refine RefR.nl 4 ?_
          refine Ref.conv (Conv.ob 2 (.cells [iC r43.1.fKind, iC r43.1.fN, .str r43.1.fName, E25.tree r43.1.fExprs, E45.tree r43.1.fLabels, E58.tree r43.1.fBlocks]) (OLe.cells (All2.cons (CLe.refl _) (All2.cons (CLe.refl _) (All2.cons (CLe.refl _) (All2.cons (CLe.refl _) (All2.cons (CLe.refl _) (All2.cons (NTT122_le _) (All2.nil))))))))) ?_
          exact Ref.n0 (t := (r43.2, r43.1.fKind, r43.1.fN, r43.1.fName, r43.1.fExprs, r43.1.fLabels, r43.1.fBlocks))
         ·
          refine Ref.sq ?_
          refine Ref.rn 17 ?_
          refine RefR.e1 0 1 1 [0, 4, 5, 59] [0, 1, 2] ?_
          refine RefR.cc 60 1 2 [0] (F39_ok K r42.2 ([82, 69, 84, 85, 82, 78] : Bytes)) (fun r44 => ?_)
          refine RefR.e0 (st' := ⟨[sP 0 0 0 0, sP 4 1 0 0, sP 5 2 0 0, sB 58 r44.1], [E65.o r44.2, oX0, oX0], [], 1⟩) 2 1 3 [0, 4, 5, 58] [0, 1, 2] ?_
          refine RefR.nl 3 ?_
          refine Ref.cn (.tmp 58) r44.1 (fun hc => ?_) (fun hc => ?_)
          ·
           refine Ref.sq ?_
           refine Ref.rn 18 ?_
           refine RefR.e0 (st' := ⟨[sP 0 0 0 0, sP 4 1 0 0, sP 5 2 0 0], [E65.o r44.2, oX0, oX7], [], 1⟩) 0 2 2 [0, 4, 5] [0, 1, 2] ?_
           refine RefR.nl 2 ?_
           refine Ref.sq ?_
           refine Ref.rn 19 ?_
           refine RefR.e0 (st' := ⟨[sP 0 0 0 0, sP 4 1 0 0, sP 5 2 0 0, sP 62 0 0 0], [E65.o r44.2, oX0, oX7], [], 1⟩) 0 1 1 [0, 4, 5, 62] [0, 1, 2] ?_
           refine RefR.li 63 [] E9 ([[59]] : List Bytes) 1 2 ?_
           refine RefR.lookC (t := 64) (g := []) (b := true) 2 3 [0] (default : Bool) rfl (by kernel_rfl) (F29_ok K r44.2 ([[59]] : List Bytes)) (fun _ => rfl) (fun r45 => ?_)
           refine RefR.e0 (st' := ⟨[sP 0 0 0 0, sP 4 1 0 0, sP 5 2 0 0, sB 65 (!r45)], [E65.o r44.2, oX0, oX7], [], 1⟩) 3 1 4 [0, 4, 5, 65] [0, 1, 2] ?_
           refine RefR.nl 4 ?_
           refine Ref.cn (.tmp 65) (!r45) (fun hc => ?_) (fun hc => ?_)
           ·
            refine Ref.rn 20 ?_
            refine RefR.e1 0 1 1 [0, 4, 5, 66] [0, 1, 2] ?_
            refine RefR.cc 67 1 2 [0] (F19_ok K r44.2 1) (fun r46 => ?_)
            refine RefR.e0 (st' := ⟨[sP 0 0 0 0, sP 4 1 0 0, sP 5 2 0 0, (68, .c (.own 3 1))], [E65.o r46.2, oX0, oX7, .row 25 5 1 (tbl [(E25.cs r46.1)])], [], 1⟩) 2 1 3 [0, 4, 5, 68] [0, 1, 2, 4] ?_
            refine RefR.conv (Conv.ob 3 (E25.row [r46.1]) (El.row_build E25 [r46.1] rfl (by kernel_rfl))) ?_
            refine RefR.conv (Conv.sl 68 (.c (.own 3 ([r46.1].length))) (DLe.c (CLe.own (by simp <;> omega)))) ?_
            refine RefR.e0 (st' := ⟨[sP 0 0 0 0, sP 4 1 0 0, sP 5 2 0 0], [E65.o r46.2, oX0, .cells [iC 9, iC 0, .str [], .own 3 ([r46.1].length), .nil, .nil], E25.row [r46.1]], [], 1⟩) 3 2 5 [0, 4, 5] [0, 1, 2, 3] ?_
            refine RefR.nl 5 ?_
            refine Ref.conv (Conv.freeze (st' := ⟨[sP 0 0 0 0, sP 4 1 0 0, sP 5 2 0 0], [E65.o r46.2, oX0, .cells [iC 9, iC 0, .str [], E25.tree [r46.1], .nil, .nil], .dead], [], 1⟩) 3 (by kernel_rfl)) ?_
            refine Ref.conv (Conv.ob 2 (.cells [iC 9, iC 0, .str [], E25.tree [r46.1], E45.tree [], .nil]) (OLe.cells (All2.cons (CLe.refl _) (All2.cons (CLe.refl _) (All2.cons (CLe.refl _) (All2.cons (CLe.refl _) (All2.cons (El.tree_nil E45) (All2.cons (CLe.refl _) (All2.nil))))))))) ?_
            refine Ref.conv (Conv.ob 2 (.cells [iC 9, iC 0, .str [], E25.tree [r46.1], E45.tree [], E58.tree []]) (OLe.cells (All2.cons (CLe.refl _) (All2.cons (CLe.refl _) (All2.cons (CLe.refl _) (All2.cons (CLe.refl _) (All2.cons (CLe.refl _) (All2.cons (El.tree_nil E58) (All2.nil))))))))) ?_
            refine Ref.ck ⟨[sP 0 0 0 0, sP 4 1 0 0, sP 5 2 0 0], [E65.o r46.2, oX0, .cells [iC 9, iC 0, .str [], E25.tree [r46.1], E45.tree [], E58.tree []]], [], 1⟩ [0, 4, 5] [0, 1, 2] ?_
            exact Ref.n0 (t := (r46.2, 9, 0, ([] : Bytes), [r46.1], [], []))
           ·
            refine Ref.sk ?_
            refine Ref.conv (Conv.ob 2 (.cells [iC 9, iC 0, .str [], E25.tree [], .nil, .nil]) (OLe.cells (All2.cons (CLe.refl _) (All2.cons (CLe.refl _) (All2.cons (CLe.refl _) (All2.cons (El.tree_nil E25) (All2.cons (CLe.refl _) (All2.cons (CLe.refl _) (All2.nil))))))))) ?_
            refine Ref.conv (Conv.ob 2 (.cells [iC 9, iC 0, .str [], E25.tree [], E45.tree [], .nil]) (OLe.cells (All2.cons (CLe.refl _) (All2.cons (CLe.refl _) (All2.cons (CLe.refl _) (All2.cons (CLe.refl _) (All2.cons (El.tree_nil E45) (All2.cons (CLe.refl _) (All2.nil))))))))) ?_
            refine Ref.conv (Conv.ob 2 (.cells [iC 9, iC 0, .str [], E25.tree [], E45.tree [], E58.tree []]) (OLe.cells (All2.cons (CLe.refl _) (All2.cons (CLe.refl _) (All2.cons (CLe.refl _) (All2.cons (CLe.refl _) (All2.cons (CLe.refl _) (All2.cons (El.tree_nil E58) (All2.nil))))))))) ?_
            refine Ref.ck ⟨[sP 0 0 0 0, sP 4 1 0 0, sP 5 2 0 0], [E65.o r44.2, oX0, .cells [iC 9, iC 0, .str [], E25.tree [], E45.tree [], E58.tree []]], [], 1⟩ [0, 4, 5] [0, 1, 2] ?_
            exact Ref.n0 (t := (r44.2, 9, 0, ([] : Bytes), [], [], []))
          ·
           refine Ref.sq ?_
           refine Ref.rn 21 ?_
           refine RefR.e1 0 1 1 [0, 4, 5, 71] [0, 1, 2] ?_
           refine RefR.cc 72 1 2 [0] (F39_ok K r44.2 ([69, 88, 73, 84] : Bytes)) (fun r47 => ?_)
           refine RefR.e0 (st' := ⟨[sP 0 0 0 0, sP 4 1 0 0, sP 5 2 0 0, sB 70 r47.1], [E65.o r47.2, oX0, oX0], [], 1⟩) 2 1 3 [0, 4, 5, 70] [0, 1, 2] ?_
           refine RefR.nl 3 ?_
           refine Ref.cn (.tmp 70) r47.1 (fun hc => ?_) (fun hc => ?_)
           ·
            refine Ref.rn 22 ?_
            refine RefR.e0 (st' := ⟨[sP 0 0 0 0, sP 4 1 0 0, sP 5 2 0 0], [E65.o r47.2, oX0, .cells [iC 10, iC 0, .str [], .nil, .nil, .nil]], [], 1⟩) 0 2 2 [0, 4, 5] [0, 1, 2] ?_
            refine RefR.nl 2 ?_
            refine Ref.conv (Conv.ob 2 (.cells [iC 10, iC 0, .str [], E25.tree [], .nil, .nil]) (OLe.cells (All2.cons (CLe.refl _) (All2.cons (CLe.refl _) (All2.cons (CLe.refl _) (All2.cons (El.tree_nil E25) (All2.cons (CLe.refl _) (All2.cons (CLe.refl _) (All2.nil))))))))) ?_
            refine Ref.conv (Conv.ob 2 (.cells [iC 10, iC 0, .str [], E25.tree [], E45.tree [], .nil]) (OLe.cells (All2.cons (CLe.refl _) (All2.cons (CLe.refl _) (All2.cons (CLe.refl _) (All2.cons (CLe.refl _) (All2.cons (El.tree_nil E45) (All2.cons (CLe.refl _) (All2.nil))))))))) ?_
            refine Ref.conv (Conv.ob 2 (.cells [iC 10, iC 0, .str [], E25.tree [], E45.tree [], E58.tree []]) (OLe.cells (All2.cons (CLe.refl _) (All2.cons (CLe.refl _) (All2.cons (CLe.refl _) (All2.cons (CLe.refl _) (All2.cons (CLe.refl _) (All2.cons (El.tree_nil E58) (All2.nil))))))))) ?_
            exact Ref.n0 (t := (r47.2, 10, 0, ([] : Bytes), [], [], []))
           ·
            refine Ref.sq ?_
            refine Ref.rn 23 ?_
            refine RefR.e1 0 1 1 [0, 4, 5, 75] [0, 1, 2] ?_
            refine RefR.cc 76 1 2 [0] (F39_ok K r47.2 ([83, 84, 69, 80] : Bytes)) (fun r48 => ?_)
            refine RefR.e0 (st' := ⟨[sP 0 0 0 0, sP 4 1 0 0, sP 5 2 0 0, sB 74 r48.1], [E65.o r48.2, oX0, oX0], [], 1⟩) 2 1 3 [0, 4, 5, 74] [0, 1, 2] ?_
            refine RefR.nl 3 ?_
            refine Ref.cn (.tmp 74) r48.1 (fun hc => ?_) (fun hc => ?_)
            ·
             refine Ref.sq ?_
             refine Ref.rn 24 ?_
             refine RefR.e1 0 1 1 [0, 4, 5, 77] [0, 1, 2] ?_
             refine RefR.cc 78 1 2 [0] (F72_ok K r48.2) (fun r49 => ?_)
             refine RefR.e0 (st' := ⟨[sP 0 0 0 0, sP 4 1 0 0, sP 5 2 0 0], [E65.o r49.2, oX0, .cells [iC 11, iC 0, .str r49.1, .nil, .nil, .nil]], [], 1⟩) 2 2 4 [0, 4, 5] [0, 1, 2] ?_
             refine RefR.nl 4 ?_
             refine Ref.sq ?_
             refine Ref.rn 25 ?_
             refine RefR.e0 (st' := ⟨[sP 0 0 0 0, sP 4 1 0 0, sP 5 2 0 0, sP 80 0 0 0], [E65.o r49.2, oX0, .cells [iC 11, iC 0, .str r49.1, .nil, .nil, .nil]], [], 1⟩) 0 1 1 [0, 4, 5, 80] [0, 1, 2] ?_
             refine RefR.li 81 [] E9 ([[40]] : List Bytes) 1 2 ?_
             refine RefR.cc 82 2 3 [0] (F93_ok K r49.2 ([[40]] : List Bytes)) (fun r50 => ?_)
             refine RefR.nl 3 ?_
             refine Ref.sq ?_
             refine Ref.rn 26 ?_
             refine RefR.e1 0 1 1 [0, 4, 5, 83] [0, 1, 2] ?_
             refine RefR.cc 84 1 2 [0] (F19_ok K r50 1) (fun r51 => ?_)
             refine RefR.e0 (st' := ⟨[sP 0 0 0 0, sP 4 1 0 0, sP 5 2 0 0, sP 6 3 0 0], [E65.o r51.2, oX0, .cells [iC 11, iC 0, .str r49.1, .nil, .nil, .nil], E25.o r51.1], [], 1⟩) 2 2 4 [0, 4, 5, 6] [0, 1, 2, 4] ?_
             refine RefR.nl 4 ?_
             refine Ref.sq ?_
             refine Ref.rn 27 ?_
             refine RefR.e0 (st' := ⟨[sP 0 0 0 0, sP 4 1 0 0, sP 5 2 0 0, sP 6 3 0 0, sP 85 0 0 0], [E65.o r51.2, oX0, .cells [iC 11, iC 0, .str r49.1, .nil, .nil, .nil], E25.o r51.1], [], 1⟩) 0 1 1 [0, 4, 5, 6, 85] [0, 1, 2, 3] ?_
             refine RefR.li 86 [] E9 ([[44]] : List Bytes) 1 2 ?_
             refine RefR.cc 87 2 3 [0] (F93_ok K r51.2 ([[44]] : List Bytes)) (fun r52 => ?_)
             refine RefR.nl 3 ?_
             refine Ref.sq ?_
             refine Ref.drawnY 28 (by kernel_rfl) (by kernel_rfl) ?_
             refine RefY.evC0 (st' := ⟨[sP 0 0 0 0, sP 4 1 0 0, sP 5 2 0 0, sP 6 3 0 0, sP 89 0 0 0], [E65.o r52, oX0, .cells [iC 11, iC 0, .str r49.1, .nil, .nil, .nil], E25.o r51.1], [], 1⟩) (fuel' := 5) [1] [0, 4, 5, 6, 89] [0, 1, 2, 3] rfl (by kernel_rfl) (by kernel_rfl) ?_
             refine RefY.toX [2, 5] ?_
             refine RefX.withK1 (fun (r53 : S25 × S65) => ⟨[sP 0 0 0 0, sP 4 1 0 0, sP 5 2 0 0], [E65.o r53.2, oX0, .cells [iC 11, iC 0, .str r49.1, .own 3 ([r51.1, r53.1].length), .nil, .nil], E25.row [r51.1, r53.1]], [], 1⟩) (fun (r53 : S25 × S65) => ((fnS (F93 K r53.2 ([[41]] : List Bytes))).bind (fun r55 => (some (.inr (r55, 11, 0, r49.1, [r51.1, r53.1], [], [])))))) (fun r53 => ?_) (fun hk => ?_)
             ·
              refine Ref.rn 29 ?_
              refine RefR.e0 (st' := ⟨[sP 0 0 0 0, sP 4 1 0 0, sP 5 2 0 0, sP 93 0 0 0], [E65.o r53.2, oX0, .cells [iC 11, iC 0, .str r49.1, .own 3 ([r51.1, r53.1].length), .nil, .nil], E25.row [r51.1, r53.1]], [], 1⟩) 0 1 1 [0, 4, 5, 93] [0, 1, 2, 3] ?_
              refine RefR.li 94 [] E9 ([[41]] : List Bytes) 1 2 ?_
              refine RefR.cc 95 2 3 [0] (F93_ok K r53.2 ([[41]] : List Bytes)) (fun r55 => ?_)
              refine RefR.nl 3 ?_
              refine Ref.conv (Conv.freeze (st' := ⟨[(95, .tup []), (94, .c (E9.tree ([[41]] : List Bytes))), sP 0 0 0 0, sP 4 1 0 0, sP 5 2 0 0, sP 93 0 0 0], [E65.o r55, oX0, .cells [iC 11, iC 0, .str r49.1, E25.tree [r51.1, r53.1], .nil, .nil], .dead, .dead], [], 1⟩) 3 (by kernel_rfl)) ?_
              refine Ref.conv (Conv.ob 2 (.cells [iC 11, iC 0, .str r49.1, E25.tree [r51.1, r53.1], E45.tree [], .nil]) (OLe.cells (All2.cons (CLe.refl _) (All2.cons (CLe.refl _) (All2.cons (CLe.refl _) (All2.cons (CLe.refl _) (All2.cons (El.tree_nil E45) (All2.cons (CLe.refl _) (All2.nil))))))))) ?_
              refine Ref.conv (Conv.ob 2 (.cells [iC 11, iC 0, .str r49.1, E25.tree [r51.1, r53.1], E45.tree [], E58.tree []]) (OLe.cells (All2.cons (CLe.refl _) (All2.cons (CLe.refl _) (All2.cons (CLe.refl _) (All2.cons (CLe.refl _) (All2.cons (CLe.refl _) (All2.cons (El.tree_nil E58) (All2.nil))))))))) ?_
              refine Ref.ck ⟨[sP 0 0 0 0, sP 4 1 0 0, sP 5 2 0 0], [E65.o r55, oX0, .cells [iC 11, iC 0, .str r49.1, E25.tree [r51.1, r53.1], E45.tree [], E58.tree []]], [], 1⟩ [0, 4, 5] [0, 1, 2] ?_
              exact Ref.n0 (t := (r55, 11, 0, r49.1, [r51.1, r53.1], [], []))
             ·
              refine RefX.pend0 (fuel' := 4) [[], [(0, 88)]] [(0, 88)] [0, 4, 5, 6, 89] [0, 1, 2, 3] ⟨[sP 0 0 0 0, sP 4 1 0 0, sP 5 2 0 0, sP 6 3 0 0, (88, .agg (E25.cs r51.1)), sP 89 0 0 0], [E65.o r52, oX0, .cells [iC 11, iC 0, .str r49.1, .nil, .nil, .nil], E25.o r51.1], [], 1⟩ ?_
              refine RefXq.fork1 (fuel' := 3) 2 ?_
              refine RefXqi.callC (t := 90) 2 [0] rfl (by kernel_rfl) (F19_ok K r52 1) (fun r53 => ?_)
              refine RefXq.close ?_
              refine RefX.madeC0 (st' := ⟨[sP 0 0 0 0, sP 4 1 0 0, sP 5 2 0 0, (91, .c (.own 3 2))], [E65.o r53.2, oX0, .cells [iC 11, iC 0, .str r49.1, .nil, .nil, .nil], .row 25 5 2 (tbl [(E25.cs r51.1), (E25.cs r53.1)])], [], 1⟩) (fuel' := 2) 3 [0, 4, 5, 91] [0, 1, 2, 5] rfl (by kernel_rfl) (by kernel_rfl) ?_
              refine RefX.conv (Conv.ob 3 (E25.row [r51.1, r53.1]) (El.row_build E25 [r51.1, r53.1] rfl (by kernel_rfl))) ?_
              refine RefX.conv (Conv.sl 91 (.c (.own 3 ([r51.1, r53.1].length))) (DLe.c (CLe.own (by simp <;> omega)))) ?_
              refine RefX.v0 (fuel' := 1) [4] [0, 4, 5, 91, 92] [0, 1, 2, 3] ?_
              refine RefX.fork1 (fuel' := 0) 5 (by kernel_rfl) ?_
              refine RefXi.w0 5 [0, 4, 5] [0, 1, 2, 3] ?_
              refine RefX.done (by kernel_rfl) ?_
              refine Ref.ck ⟨[sP 0 0 0 0, sP 4 1 0 0, sP 5 2 0 0], [E65.o r53.2, oX0, .cells [iC 11, iC 0, .str r49.1, .own 3 ([r51.1, r53.1].length), .nil, .nil], E25.row [r51.1, r53.1]], [], 1⟩ [0, 4, 5] [0, 1, 2, 3] ?_
              exact hk r53
            ·
             refine Ref.sk ?_
             refine Ref.conv (Conv.ob 2 (.cells [iC 0, iC 0, .str [], E25.tree [], .nil, .nil]) (OLe.cells (All2.cons (CLe.refl _) (All2.cons (CLe.refl _) (All2.cons (CLe.refl _) (All2.cons (El.tree_nil E25) (All2.cons (CLe.refl _) (All2.cons (CLe.refl _) (All2.nil))))))))) ?_
             refine Ref.conv (Conv.ob 2 (.cells [iC 0, iC 0, .str [], E25.tree [], E45.tree [], .nil]) (OLe.cells (All2.cons (CLe.refl _) (All2.cons (CLe.refl _) (All2.cons (CLe.refl _) (All2.cons (CLe.refl _) (All2.cons (El.tree_nil E45) (All2.cons (CLe.refl _) (All2.nil))))))))) ?_
             refine Ref.conv (Conv.ob 2 (oX6) (OLe.cells (All2.cons (CLe.refl _) (All2.cons (CLe.refl _) (All2.cons (CLe.refl _) (All2.cons (CLe.refl _) (All2.cons (CLe.refl _) (All2.cons (El.tree_nil E58) (All2.nil))))))))) ?_
             refine Ref.ck ⟨[sP 0 0 0 0, sP 4 1 0 0, sP 5 2 0 0], [E65.o r48.2, oX0, oX6], [], 1⟩ [0, 4, 5] [0, 1, 2] ?_
             exact Ref.n0 (t := (r48.2, 0, 0, ([] : Bytes), [], [], []))
   ·
    refine Ref.sq ?_
    refine Ref.rn 30 ?_
    refine RefR.e0 (st' := ⟨[sP 4 1 0 0, sP 5 2 0 0, sP 96 0 0 0], [E65.o u28.1, oX0, .cells [iC u28.2.1, iC u28.2.2.1, .str u28.2.2.2.1, E25.tree u28.2.2.2.2.1, E45.tree u28.2.2.2.2.2.1, E58.tree u28.2.2.2.2.2.2]], [], 1⟩) 0 1 1 [4, 5, 96] [0, 1, 2] ?_
    refine RefR.li 97 [] E9 ([[59]] : List Bytes) 1 2 ?_
    refine RefR.cc 98 2 3 [0] (F93_ok K u28.1 ([[59]] : List Bytes)) (fun r56 => ?_)
    refine RefR.nl 3 ?_
    refine Ref.sq ?_
    refine Ref.rn 31 ?_
    refine RefR.e0 (st' := ⟨[sP 4 1 0 0], [E65.o r56, .cells [iC u28.2.1, iC u28.2.2.1, .str u28.2.2.2.1, E25.tree u28.2.2.2.2.1, E45.tree u28.2.2.2.2.2.1, E58.tree u28.2.2.2.2.2.2]], [], 1⟩) 0 2 2 [4] [0, 1] ?_
    refine RefR.nl 2 ?_
    refine Ref.conv (Conv.ob 1 (.cells [iC u28.2.1, iC u28.2.2.1, .str u28.2.2.2.1, E25.tree u28.2.2.2.2.1, E45.tree u28.2.2.2.2.2.1, NTT122 u28.2.2.2.2.2.2]) (OLe.cells (All2.cons (CLe.refl _) (All2.cons (CLe.refl _) (All2.cons (CLe.refl _) (All2.cons (CLe.refl _) (All2.cons (CLe.refl _) (All2.cons (NTT122_ge _) (All2.nil))))))))) ?_
    exact Ref.rt (t := ((⟨u28.2.1, u28.2.2.1, u28.2.2.2.1, u28.2.2.2.2.1, u28.2.2.2.2.2.1, u28.2.2.2.2.2.2⟩ : S122), r56))
  ·
   intro a0 a1
   refine DFun.it Tryz.f130 (fun r => ⟨[sP 4 1 0 0], [E65.o r.2, E122.o r.1], [], 1⟩) ?_
   rw [F130]
   refine Ref.sq ?_
   refine Ref.rn 0 ?_
   refine RefR.e0 (st' := ⟨[sP 0 0 0 0, sI 1 a1, sP 4 1 0 0], [E65.o a0, oX0], [], 1⟩) 0 1 1 [0, 1, 4] [0, 1] ?_
   refine RefR.nl 1 ?_
   refine Ref.sq ?_
   refine Ref.rn 1 ?_
   refine RefR.e0 (st' := ⟨[sP 0 0 0 0, sI 1 a1, sP 4 1 0 0, sP 5 2 0 0], [E65.o a0, oX0, .cells [iC 5, iC 0, .str [], .nil, .nil, .nil]], [], 1⟩) 0 3 3 [0, 1, 4, 5] [0, 1, 2] ?_
   refine RefR.nl 3 ?_
   refine Ref.sq ?_
   refine Ref.sq ?_
   refine Ref.rn 2 ?_
   refine RefR.e0 (st' := ⟨[sP 0 0 0 0, sI 1 a1, sP 4 1 0 0, sP 5 2 0 0, sB 6 true], [E65.o a0, oX0, .cells [iC 5, iC 0, .str [], .nil, .nil, .nil]], [], 1⟩) 0 1 1 [0, 1, 4, 5, 6] [0, 1, 2] ?_
   refine RefR.nl 1 ?_
   refine Ref.ce (.block 0 (cd (bd Tryz.f130) [1, 1, 0, 1, 0])) ?_
   refine Ref.block (go1 := fun u55 => ⟨[sP 0 0 0 0, sI 1 a1, sP 4 1 0 0, sP 5 2 0 0], [E65.o u55.1, oX0, .cells [iC 5, iC 0, .str [], .own 3 u55.2.1.length, .nil, .own 4 u55.2.2.length], E25.row u55.2.1, E58.row u55.2.2], [], 1⟩) ?_ (fun _ h => by cases h) (fun u55 => ?_)
   ·
    refine Ref.ce (.loop (cd (bd Tryz.f130) [1, 1, 0, 1, 0, 0])) ?_
    refine Ref.conv (Conv.adoptCell (st' := ⟨[sP 0 0 0 0, sI 1 a1, sP 4 1 0 0, sP 5 2 0 0, sB 6 true], [E65.o a0, oX0, .cells [iC 5, iC 0, .str [], .own 3 0, .nil, .nil], E25.row []], [], 1⟩) 2 3 E25.ty E25.w (E25.at []) (by kernel_rfl)) ?_
    refine Ref.conv (Conv.adoptCell (st' := ⟨[sP 0 0 0 0, sI 1 a1, sP 4 1 0 0, sP 5 2 0 0, sB 6 true], [E65.o a0, oX0, .cells [iC 5, iC 0, .str [], .own 3 0, .nil, .own 4 0], E25.row [], E58.row []], [], 1⟩) 2 5 E58.ty E58.w (E58.at []) (by kernel_rfl)) ?_
    refine Ref.loop (hd := fun u74 => ⟨[sP 0 0 0 0, sI 1 a1, sP 4 1 0 0, sP 5 2 0 0, sB 6 u74.2.2.2], [E65.o u74.1, oX0, .cells [iC 5, iC 0, .str [], .own 3 u74.2.1.length, .nil, .own 4 u74.2.2.1.length], E25.row u74.2.1, E58.row u74.2.2.1], [], 1⟩) K (a0, [], [], true) (by kernel_rfl) (fun u74 => ?_)
    refine Ref.sq ?_
    refine Ref.sq ?_
    refine Ref.rn 3 ?_
    refine RefR.e1 0 3 3 [0, 1, 4, 5, 9, 10] [0, 1, 2, 3, 4] ?_
    refine RefR.lookC (t := 11) (g := [(9, true)]) (b := u74.2.2.2) 3 4 [0] (default : Bool) rfl (by kernel_rfl) (F21_ok K u74.1) (fun _ => rfl) (fun r93 => ?_)
    refine RefR.e0 (st' := ⟨[sP 0 0 0 0, sI 1 a1, sP 4 1 0 0, sP 5 2 0 0, sB 12 (u74.2.2.2 && r93)], [E65.o u74.1, oX0, .cells [iC 5, iC 0, .str [], .own 3 u74.2.1.length, .nil, .own 4 u74.2.2.1.length], E25.row u74.2.1, E58.row u74.2.2.1], [], 1⟩) 4 1 5 [0, 1, 4, 5, 12] [0, 1, 2, 3, 4] ?_
    refine RefR.nl 5 ?_
    refine Ref.cn (.tmp 12) (u74.2.2.2 && r93) (fun hc => ?_) (fun hc => ?_)
    ·
     refine Ref.sk ?_
     refine Ref.sq ?_
     refine Ref.ce (.block 1 (cd (bd Tryz.f130) [1, 1, 0, 1, 0, 0, 1, 0, 0])) ?_
     refine Ref.block (go1 := fun u101 => ⟨[sP 0 0 0 0, sI 1 a1, sP 4 1 0 0, sP 5 2 0 0], [E65.o u101.1, oX0, .cells [iC 5, iC 0, .str [], .own 3 u101.2.1.length, .nil, .own 4 u101.2.2.length], E25.row u101.2.1, E58.row u101.2.2], [], 1⟩) ?_ (fun a => match a with | .inl _ => (fun h => by cases h) | .inr _ => (fun h => by cases h)) (fun u101 => ?_)
     ·
      refine Ref.sq ?_
      refine Ref.drawnY 5 (by kernel_rfl) (by kernel_rfl) ?_
      refine RefY.evC0 (st' := ⟨[sP 0 0 0 0, sI 1 a1, sP 4 1 0 0, sP 5 2 0 0, sP 15 2 0 3, sP 17 0 0 0], [E65.o u74.1, oX0, .cells [iC 5, iC 0, .str [], .own 3 u74.2.1.length, .nil, .own 4 u74.2.2.1.length], E25.row u74.2.1, E58.row u74.2.2.1], [], 1⟩) (fuel' := 6) [0, 2] [0, 1, 4, 5, 15, 17] [0, 1, 2, 3, 4] rfl (by kernel_rfl) (by kernel_rfl) ?_
      refine RefY.toX [3, 5, 7] ?_
      refine RefX.withK1 (fun (r102 : S25 × S65) => ⟨[sP 0 0 0 0, sI 1 a1, sP 4 1 0 0, sP 5 2 0 0], [E65.o r102.2, oX0, .cells [iC 5, iC 0, .str [], .own 3 ((u74.2.1 ++ [r102.1]).length), .nil, .own 4 u74.2.2.1.length], E25.row (u74.2.1 ++ [r102.1]), E58.row u74.2.2.1], [], 1⟩) (fun (r102 : S25 × S65) => ((fnS (F93 K r102.2 ([[84, 72, 69, 78]] : List Bytes))).bind (fun r104 => ((fnS (F97 K r104 (IntKind.i64.wrap (a1 + 1)) [wELSIF, wELSE, wEND_IF])).bind (fun r105 => (chk [room ((u74.2.2.1.length + ([r105.1].length)) * 24)] ((condM true (fnS (F29 K r105.2 ([[69, 76, 83, 73, 70]] : List Bytes))) default).bind (fun r107 => (if r107 = true then ((fnS (F30 K r105.2 (Int.ofNat ((u74.2.1 ++ [r102.1]).length)) 6)).bind (fun r108 => (some (.inr (r108, (u74.2.1 ++ [r102.1]), (u74.2.2.1 ++ [r105.1])))))) else (some (.inr (r105.2, (u74.2.1 ++ [r102.1]), (u74.2.2.1 ++ [r105.1]))))))))))))) (fun r102 => ?_) (fun hk => ?_)
      ·
       refine Ref.sq ?_
       refine Ref.rn 6 ?_
       refine RefR.e0 (st' := ⟨[sP 0 0 0 0, sI 1 a1, sP 4 1 0 0, sP 5 2 0 0, sP 22 0 0 0], [E65.o r102.2, oX0, .cells [iC 5, iC 0, .str [], .own 3 ((u74.2.1 ++ [r102.1]).length), .nil, .own 4 u74.2.2.1.length], E25.row (u74.2.1 ++ [r102.1]), E58.row u74.2.2.1], [], 1⟩) 0 1 1 [0, 1, 4, 5, 22] [0, 1, 2, 3, 4] ?_
       refine RefR.li 23 [] E9 ([[84, 72, 69, 78]] : List Bytes) 1 2 ?_
       refine RefR.cc 24 2 3 [0] (F93_ok K r102.2 ([[84, 72, 69, 78]] : List Bytes)) (fun r104 => ?_)
       refine RefR.nl 3 ?_
       refine Ref.sq ?_
       refine Ref.drawnY 7 (by kernel_rfl) (by kernel_rfl) ?_
       refine RefY.evC0 (st' := ⟨[sP 0 0 0 0, sI 1 a1, sP 4 1 0 0, sP 5 2 0 0, sP 25 2 0 5, sP 27 0 0 0, sI 29 (IntKind.i64.wrap (a1 + 1))], [E65.o r104, oX0, .cells [iC 5, iC 0, .str [], .own 3 ((u74.2.1 ++ [r102.1]).length), .nil, .own 4 u74.2.2.1.length], E25.row (u74.2.1 ++ [r102.1]), E58.row u74.2.2.1], [], 1⟩) (fuel' := 7) [0, 2, 3, 4] [0, 1, 4, 5, 25, 27, 29] [0, 1, 2, 3, 4] rfl (by kernel_rfl) (by kernel_rfl) ?_
       refine RefY.toX [6, 8, 10] ?_
       refine RefX.withK1 (fun (r105 : (List S122) × S65) => ⟨[sP 0 0 0 0, sI 1 a1, sP 4 1 0 0, sP 5 2 0 0], [E65.o r105.2, oX0, .cells [iC 5, iC 0, .str [], .own 3 ((u74.2.1 ++ [r102.1]).length), .nil, .own 4 ((u74.2.2.1 ++ [r105.1]).length)], E25.row (u74.2.1 ++ [r102.1]), E58.row (u74.2.2.1 ++ [r105.1])], [], 1⟩) (fun (r105 : (List S122) × S65) => ((condM true (fnS (F29 K r105.2 ([[69, 76, 83, 73, 70]] : List Bytes))) default).bind (fun r107 => (if r107 = true then ((fnS (F30 K r105.2 (Int.ofNat ((u74.2.1 ++ [r102.1]).length)) 6)).bind (fun r108 => (some (.inr (r108, (u74.2.1 ++ [r102.1]), (u74.2.2.1 ++ [r105.1])))))) else (some (.inr (r105.2, (u74.2.1 ++ [r102.1]), (u74.2.2.1 ++ [r105.1])))))))) (fun r105 => ?_) (fun hk => ?_)
       ·
        refine Ref.sq ?_
        refine Ref.rn 8 ?_
        refine RefR.e0 (st' := ⟨[sP 0 0 0 0, sI 1 a1, sP 4 1 0 0, sP 5 2 0 0, sP 35 0 0 0], [E65.o r105.2, oX0, .cells [iC 5, iC 0, .str [], .own 3 ((u74.2.1 ++ [r102.1]).length), .nil, .own 4 ((u74.2.2.1 ++ [r105.1]).length)], E25.row (u74.2.1 ++ [r102.1]), E58.row (u74.2.2.1 ++ [r105.1])], [], 1⟩) 0 1 1 [0, 1, 4, 5, 35] [0, 1, 2, 3, 4] ?_
        refine RefR.li 36 [] E9 ([[69, 76, 83, 73, 70]] : List Bytes) 1 2 ?_
        refine RefR.lookC (t := 37) (g := []) (b := true) 2 3 [0] (default : Bool) rfl (by kernel_rfl) (F29_ok K r105.2 ([[69, 76, 83, 73, 70]] : List Bytes)) (fun _ => rfl) (fun r107 => ?_)
        refine RefR.nl 3 ?_
        refine Ref.cn (.tmp 37) r107 (fun hc => ?_) (fun hc => ?_)
        ·
         refine Ref.rn 9 ?_
         refine RefR.e1 0 4 4 [0, 1, 4, 5, 38, 41] [0, 1, 2, 3, 4] ?_
         refine RefR.cc 42 4 5 [0] (F30_ok K r105.2 (Int.ofNat ((u74.2.1 ++ [r102.1]).length)) 6) (fun r108 => ?_)
         refine RefR.nl 5 ?_
         refine Ref.ck ⟨[sP 0 0 0 0, sI 1 a1, sP 4 1 0 0, sP 5 2 0 0], [E65.o r108, oX0, .cells [iC 5, iC 0, .str [], .own 3 ((u74.2.1 ++ [r102.1]).length), .nil, .own 4 ((u74.2.2.1 ++ [r105.1]).length)], E25.row (u74.2.1 ++ [r102.1]), E58.row (u74.2.2.1 ++ [r105.1])], [], 1⟩ [0, 1, 4, 5] [0, 1, 2, 3, 4] ?_
         exact Ref.n0 (t := (r108, (u74.2.1 ++ [r102.1]), (u74.2.2.1 ++ [r105.1])))
        ·
         refine Ref.sk ?_
         refine Ref.ck ⟨[sP 0 0 0 0, sI 1 a1, sP 4 1 0 0, sP 5 2 0 0], [E65.o r105.2, oX0, .cells [iC 5, iC 0, .str [], .own 3 ((u74.2.1 ++ [r102.1]).length), .nil, .own 4 ((u74.2.2.1 ++ [r105.1]).length)], E25.row (u74.2.1 ++ [r102.1]), E58.row (u74.2.2.1 ++ [r105.1])], [], 1⟩ [0, 1, 4, 5] [0, 1, 2, 3, 4] ?_
         exact Ref.n0 (t := (r105.2, (u74.2.1 ++ [r102.1]), (u74.2.2.1 ++ [r105.1])))
       ·
        refine RefX.pend0 (fuel' := 6) [[], [(1, 26)]] [(1, 26)] [0, 1, 4, 5, 25, 27, 29] [0, 1, 2, 3, 4] ⟨[sP 0 0 0 0, sI 1 a1, sP 4 1 0 0, sP 5 2 0 0, sP 25 2 0 5, (26, .c (.own 4 u74.2.2.1.length)), sP 27 0 0 0, sI 29 (IntKind.i64.wrap (a1 + 1))], [E65.o r104, oX0, .cells [iC 5, iC 0, .str [], .own 3 ((u74.2.1 ++ [r102.1]).length), .nil, .own 4 u74.2.2.1.length], E25.row (u74.2.1 ++ [r102.1]), E58.row u74.2.2.1], [], 1⟩ ?_
        refine RefXq.fork1 (fuel' := 5) 5 ?_
        refine RefXqi.adds0 (st' := ⟨[sP 0 0 0 0, sI 1 a1, sP 4 1 0 0, sP 5 2 0 0, sP 25 2 0 5, (26, .c (.own 4 u74.2.2.1.length)), sP 27 0 0 0, sI 29 (IntKind.i64.wrap (a1 + 1)), (30, .c (.own 5 3))], [E65.o r104, oX0, .cells [iC 5, iC 0, .str [], .own 3 ((u74.2.1 ++ [r102.1]).length), .nil, .own 4 u74.2.2.1.length], E25.row (u74.2.1 ++ [r102.1]), E58.row u74.2.2.1, .row 9 1 3 (tbl [[.str wELSIF], [.str wELSE], [.str wEND_IF]])], [], 1⟩) 5 [0, 1, 4, 5, 25, 26, 27, 29, 30] [0, 1, 2, 3, 4, 5] (by kernel_rfl) (by kernel_rfl) ?_
        refine RefXq.conv (Conv2.obj 5 (E9.row [wELSIF, wELSE, wEND_IF]) (El.row_build E9 [wELSIF, wELSE, wEND_IF] rfl (by kernel_rfl)) (by kernel_rfl)) ?_
        refine RefXq.conv (Conv2.slot 30 (.c (.own 5 ([wELSIF, wELSE, wEND_IF].length))) (DLe.c (CLe.own (by simp <;> omega))) (by kernel_rfl)) ?_
        refine RefXq.fork1 (fuel' := 4) 6 ?_
        refine RefXqi.conv (Conv2.freeze (st' := ⟨[(30, .c (E9.tree [wELSIF, wELSE, wEND_IF])), sP 0 0 0 0, sI 1 a1, sP 4 1 0 0, sP 5 2 0 0, sP 25 2 0 5, (26, .c (.own 4 u74.2.2.1.length)), sP 27 0 0 0, sI 29 (IntKind.i64.wrap (a1 + 1))], [E65.o r104, oX0, .cells [iC 5, iC 0, .str [], .own 3 ((u74.2.1 ++ [r102.1]).length), .nil, .own 4 u74.2.2.1.length], E25.row (u74.2.1 ++ [r102.1]), E58.row u74.2.2.1, .dead], [], 1⟩) 5 (by kernel_rfl)) ?_
        refine RefXqi.callC (t := 31) 6 [0] rfl (by kernel_rfl) (ih97 r104 (IntKind.i64.wrap (a1 + 1)) [wELSIF, wELSE, wEND_IF]) (fun r105 => ?_)
        refine RefXq.fork1 (fuel' := 3) 7 ?_
        refine RefXqi.adds0 (st' := ⟨[sP 0 0 0 0, sI 1 a1, sP 4 1 0 0, sP 5 2 0 0, sP 25 2 0 5, (26, .c (.own 4 u74.2.2.1.length)), (32, .c (.own 5 1))], [E65.o r105.2, oX0, .cells [iC 5, iC 0, .str [], .own 3 ((u74.2.1 ++ [r102.1]).length), .nil, .own 4 u74.2.2.1.length], E25.row (u74.2.1 ++ [r102.1]), E58.row u74.2.2.1, .row 58 1 1 (tbl [[E122.tree r105.1]])], [], 1⟩) 7 [0, 1, 4, 5, 25, 26, 32] [0, 1, 2, 3, 4, 6] (by kernel_rfl) (by kernel_rfl) ?_
        refine RefXq.conv (Conv2.obj 5 (E58.row [r105.1]) (El.row_build E58 [r105.1] rfl (by kernel_rfl)) (by kernel_rfl)) ?_
        refine RefXq.conv (Conv2.slot 32 (.c (.own 5 ([r105.1].length))) (DLe.c (CLe.own (by simp <;> omega))) (by kernel_rfl)) ?_
        refine RefXq.close ?_
        refine RefX.fork1 (fuel' := 2) 8 (by kernel_rfl) ?_
        refine RefXi.writes (vs := [room ((u74.2.2.1.length + ([r105.1].length)) * 24)]) (st' := ⟨[sP 0 0 0 0, sI 1 a1, sP 4 1 0 0, sP 5 2 0 0, (33, .c (.own 5 (u74.2.2.1.length + ([r105.1].length))))], [E65.o r105.2, oX0, .cells [iC 5, iC 0, .str [], .own 3 ((u74.2.1 ++ [r102.1]).length), .nil, .own 4 u74.2.2.1.length], E25.row (u74.2.1 ++ [r102.1]), .dead, .row 58 1 (u74.2.2.1.length + ([r105.1].length)) fun i j => bif Nat.blt i u74.2.2.1.length then E58.at u74.2.2.1 i j else (E58.at [r105.1]) (i - u74.2.2.1.length) j], [], 1⟩) 8 [0, 1, 4, 5, 33] [0, 1, 2, 3, 4, 6] (by kernel_rfl) (by kernel_rfl) ?_
        refine RefX.conv (Conv.ob 5 (E58.row (u74.2.2.1 ++ [r105.1])) (El.row_append E58 u74.2.2.1 [r105.1] rfl rfl)) ?_
        refine RefX.conv (Conv.sl 33 (.c (.own 5 ((u74.2.2.1 ++ [r105.1]).length))) (DLe.c (CLe.own (by simp <;> omega)))) ?_
        refine RefX.v0 (fuel' := 1) [9] [0, 1, 4, 5, 33, 34] [0, 1, 2, 3, 4, 5] ?_
        refine RefX.fork1 (fuel' := 0) 10 (by kernel_rfl) ?_
        refine RefXi.w0 10 [0, 1, 4, 5] [0, 1, 2, 3, 5] ?_
        refine RefX.done (by kernel_rfl) ?_
        refine Ref.ck ⟨[sP 0 0 0 0, sI 1 a1, sP 4 1 0 0, sP 5 2 0 0], [E65.o r105.2, oX0, .cells [iC 5, iC 0, .str [], .own 3 ((u74.2.1 ++ [r102.1]).length), .nil, .own 4 ((u74.2.2.1 ++ [r105.1]).length)], E25.row (u74.2.1 ++ [r102.1]), E58.row (u74.2.2.1 ++ [r105.1])], [], 1⟩ [0, 1, 4, 5] [0, 1, 2, 3, 4] ?_
        exact hk r105
      ·
       refine RefX.pend0 (fuel' := 5) [[], [(1, 16)]] [(1, 16)] [0, 1, 4, 5, 15, 17] [0, 1, 2, 3, 4] ⟨[sP 0 0 0 0, sI 1 a1, sP 4 1 0 0, sP 5 2 0 0, sP 15 2 0 3, (16, .c (.own 3 u74.2.1.length)), sP 17 0 0 0], [E65.o u74.1, oX0, .cells [iC 5, iC 0, .str [], .own 3 u74.2.1.length, .nil, .own 4 u74.2.2.1.length], E25.row u74.2.1, E58.row u74.2.2.1], [], 1⟩ ?_
       refine RefXq.fork1 (fuel' := 4) 3 ?_
       refine RefXqi.callC (t := 18) 3 [0] rfl (by kernel_rfl) (F19_ok K u74.1 1) (fun r102 => ?_)
       refine RefXq.fork1 (fuel' := 3) 4 ?_
       refine RefXqi.adds0 (st' := ⟨[sP 0 0 0 0, sI 1 a1, sP 4 1 0 0, sP 5 2 0 0, sP 15 2 0 3, (16, .c (.own 3 u74.2.1.length)), (19, .c (.own 5 1))], [E65.o r102.2, oX0, .cells [iC 5, iC 0, .str [], .own 3 u74.2.1.length, .nil, .own 4 u74.2.2.1.length], E25.row u74.2.1, E58.row u74.2.2.1, .row 25 5 1 (tbl [(E25.cs r102.1)])], [], 1⟩) 4 [0, 1, 4, 5, 15, 16, 19] [0, 1, 2, 3, 4, 6] (by kernel_rfl) (by kernel_rfl) ?_
       refine RefXq.conv (Conv2.obj 5 (E25.row [r102.1]) (El.row_build E25 [r102.1] rfl (by kernel_rfl)) (by kernel_rfl)) ?_
       refine RefXq.conv (Conv2.slot 19 (.c (.own 5 ([r102.1].length))) (DLe.c (CLe.own (by simp <;> omega))) (by kernel_rfl)) ?_
       refine RefXq.close ?_
       refine RefX.fork1 (fuel' := 2) 5 (by kernel_rfl) ?_
       refine RefXi.writes (vs := [room ((u74.2.1.length + ([r102.1].length)) * 72)]) (st' := ⟨[sP 0 0 0 0, sI 1 a1, sP 4 1 0 0, sP 5 2 0 0, (20, .c (.own 5 (u74.2.1.length + ([r102.1].length))))], [E65.o r102.2, oX0, .cells [iC 5, iC 0, .str [], .own 3 u74.2.1.length, .nil, .own 4 u74.2.2.1.length], .dead, E58.row u74.2.2.1, .row 25 5 (u74.2.1.length + ([r102.1].length)) fun i j => bif Nat.blt i u74.2.1.length then E25.at u74.2.1 i j else (E25.at [r102.1]) (i - u74.2.1.length) j], [], 1⟩) 5 [0, 1, 4, 5, 20] [0, 1, 2, 3, 4, 6] (by kernel_rfl) (by kernel_rfl) ?_
       refine RefX.conv (Conv.ob 5 (E25.row (u74.2.1 ++ [r102.1])) (El.row_append E25 u74.2.1 [r102.1] rfl rfl)) ?_
       refine RefX.conv (Conv.sl 20 (.c (.own 5 ((u74.2.1 ++ [r102.1]).length))) (DLe.c (CLe.own (by simp <;> omega)))) ?_
       refine RefX.v0 (fuel' := 1) [6] [0, 1, 4, 5, 20, 21] [0, 1, 2, 3, 4, 5] ?_
       refine RefX.fork1 (fuel' := 0) 7 (by kernel_rfl) ?_
       refine RefXi.w0 7 [0, 1, 4, 5] [0, 1, 2, 4, 5] ?_
       refine RefX.done (by kernel_rfl) ?_
       refine Ref.ck ⟨[sP 0 0 0 0, sI 1 a1, sP 4 1 0 0, sP 5 2 0 0], [E65.o r102.2, oX0, .cells [iC 5, iC 0, .str [], .own 3 ((u74.2.1 ++ [r102.1]).length), .nil, .own 4 u74.2.2.1.length], E25.row (u74.2.1 ++ [r102.1]), E58.row u74.2.2.1], [], 1⟩ [0, 1, 4, 5] [0, 1, 2, 4, 3] ?_
       exact hk r102
     ·
      refine Ref.rn 4 ?_
      refine RefR.e1 0 1 1 [0, 1, 4, 5, 13] [0, 1, 2, 3, 4] ?_
      refine RefR.cc 14 1 2 [0] (F39_ok K u101.1 wELSIF) (fun r109 => ?_)
      refine RefR.e0 (st' := ⟨[sP 0 0 0 0, sI 1 a1, sP 4 1 0 0, sP 5 2 0 0, sB 6 r109.1], [E65.o r109.2, oX0, .cells [iC 5, iC 0, .str [], .own 3 u101.2.1.length, .nil, .own 4 u101.2.2.length], E25.row u101.2.1, E58.row u101.2.2], [], 1⟩) 2 1 3 [0, 1, 4, 5, 6] [0, 1, 2, 3, 4] ?_
      refine RefR.nl 3 ?_
      exact Ref.n0 (t := (r109.2, u101.2.1, u101.2.2, r109.1))
    ·
     refine Ref.ck ⟨[sP 0 0 0 0, sI 1 a1, sP 4 1 0 0, sP 5 2 0 0], [E65.o u74.1, oX0, .cells [iC 5, iC 0, .str [], .own 3 u74.2.1.length, .nil, .own 4 u74.2.2.1.length], E25.row u74.2.1, E58.row u74.2.2.1], [], 1⟩ [0, 1, 4, 5] [0, 1, 2, 3, 4] ?_
     exact Ref.xt 0 (t := (Sum.inl (u74.1, u74.2.1, u74.2.2.1)))
   ·
    refine Ref.sq ?_
    refine Ref.drawnY 10 (by kernel_rfl) (by kernel_rfl) ?_
    refine RefY.evC0 (st' := ⟨[sP 4 1 0 0, sP 5 2 0 0, sP 43 2 0 5, sP 45 0 0 0, sI 46 a1], [E65.o u55.1, oX0, .cells [iC 5, iC 0, .str [], .own 3 u55.2.1.length, .nil, .own 4 u55.2.2.length], E25.row u55.2.1, E58.row u55.2.2], [], 1⟩) (fuel' := 6) [0, 2, 3] [4, 5, 43, 45, 46] [0, 1, 2, 3, 4] rfl (by kernel_rfl) (by kernel_rfl) ?_
    refine RefY.toX [4, 6, 8] ?_
    refine RefX.withK1 (fun (r110 : (List S122) × S65) => ⟨[sP 4 1 0 0, sP 5 2 0 0], [E65.o r110.2, oX0, .cells [iC 5, iC 0, .str [], .own 3 u55.2.1.length, .nil, .own 4 ((u55.2.2 ++ [r110.1]).length)], E25.row u55.2.1, E58.row (u55.2.2 ++ [r110.1])], [], 1⟩) (fun (r110 : (List S122) × S65) => (some (.inl ((⟨5, 0, ([] : Bytes), u55.2.1, [], (u55.2.2 ++ [r110.1])⟩ : S122), r110.2)))) (fun r110 => ?_) (fun hk => ?_)
    ·
     refine Ref.sq ?_
     refine Ref.rn 11 ?_
     refine RefR.e0 (st' := ⟨[sP 4 1 0 0], [E65.o r110.2, .cells [iC 5, iC 0, .str [], .own 2 u55.2.1.length, .nil, .own 3 ((u55.2.2 ++ [r110.1]).length)], E25.row u55.2.1, E58.row (u55.2.2 ++ [r110.1])], [], 1⟩) 0 2 2 [4] [0, 1, 3, 4] ?_
     refine RefR.nl 2 ?_
     refine Ref.conv (Conv.freeze (st' := ⟨[sP 4 1 0 0], [E65.o r110.2, .cells [iC 5, iC 0, .str [], E25.tree u55.2.1, .nil, .own 3 ((u55.2.2 ++ [r110.1]).length)], .dead, E58.row (u55.2.2 ++ [r110.1])], [], 1⟩) 2 (by kernel_rfl)) ?_
     refine Ref.conv (Conv.ob 1 (.cells [iC 5, iC 0, .str [], E25.tree u55.2.1, E45.tree [], .own 3 ((u55.2.2 ++ [r110.1]).length)]) (OLe.cells (All2.cons (CLe.refl _) (All2.cons (CLe.refl _) (All2.cons (CLe.refl _) (All2.cons (CLe.refl _) (All2.cons (El.tree_nil E45) (All2.cons (CLe.refl _) (All2.nil))))))))) ?_
     refine Ref.conv (Conv.freeze (st' := ⟨[sP 4 1 0 0], [E65.o r110.2, .cells [iC 5, iC 0, .str [], E25.tree u55.2.1, E45.tree [], E58.tree (u55.2.2 ++ [r110.1])], .dead, .dead], [], 1⟩) 3 (by kernel_rfl)) ?_
     refine Ref.conv (Conv.ob 1 (.cells [iC 5, iC 0, .str [], E25.tree u55.2.1, E45.tree [], NTT122 (u55.2.2 ++ [r110.1])]) (OLe.cells (All2.cons (CLe.refl _) (All2.cons (CLe.refl _) (All2.cons (CLe.refl _) (All2.cons (CLe.refl _) (All2.cons (CLe.refl _) (All2.cons (NTT122_ge _) (All2.nil))))))))) ?_
     refine Ref.ck ⟨[sP 4 1 0 0], [E65.o r110.2, .cells [iC 5, iC 0, .str [], E25.tree u55.2.1, E45.tree [], NTT122 (u55.2.2 ++ [r110.1])]], [], 1⟩ [4] [0, 1] ?_
     exact Ref.rt (t := ((⟨5, 0, ([] : Bytes), u55.2.1, [], (u55.2.2 ++ [r110.1])⟩ : S122), r110.2))
    ·
     refine RefX.pend0 (fuel' := 5) [[], [(1, 44)]] [(1, 44)] [4, 5, 43, 45, 46] [0, 1, 2, 3, 4] ⟨[sP 4 1 0 0, sP 5 2 0 0, sP 43 2 0 5, (44, .c (.own 4 u55.2.2.length)), sP 45 0 0 0, sI 46 a1], [E65.o u55.1, oX0, .cells [iC 5, iC 0, .str [], .own 3 u55.2.1.length, .nil, .own 4 u55.2.2.length], E25.row u55.2.1, E58.row u55.2.2], [], 1⟩ ?_
     refine RefXq.fork1 (fuel' := 4) 4 ?_
     refine RefXqi.callC (t := 47) 4 [0] rfl (by kernel_rfl) (ih141 u55.1 a1 wEND_IF) (fun r110 => ?_)
     refine RefXq.fork1 (fuel' := 3) 5 ?_
     refine RefXqi.adds0 (st' := ⟨[sP 4 1 0 0, sP 5 2 0 0, sP 43 2 0 5, (44, .c (.own 4 u55.2.2.length)), (48, .c (.own 5 1))], [E65.o r110.2, oX0, .cells [iC 5, iC 0, .str [], .own 3 u55.2.1.length, .nil, .own 4 u55.2.2.length], E25.row u55.2.1, E58.row u55.2.2, .row 58 1 1 (tbl [[E122.tree r110.1]])], [], 1⟩) 5 [4, 5, 43, 44, 48] [0, 1, 2, 3, 4, 5] (by kernel_rfl) (by kernel_rfl) ?_
     refine RefXq.conv (Conv2.obj 5 (E58.row [r110.1]) (El.row_build E58 [r110.1] rfl (by kernel_rfl)) (by kernel_rfl)) ?_
     refine RefXq.conv (Conv2.slot 48 (.c (.own 5 ([r110.1].length))) (DLe.c (CLe.own (by simp <;> omega))) (by kernel_rfl)) ?_
     refine RefXq.close ?_
     refine RefX.fork1 (fuel' := 2) 6 (by kernel_rfl) ?_
     refine RefXi.writes (vs := [room ((u55.2.2.length + ([r110.1].length)) * 24)]) (st' := ⟨[sP 4 1 0 0, sP 5 2 0 0, (49, .c (.own 5 (u55.2.2.length + ([r110.1].length))))], [E65.o r110.2, oX0, .cells [iC 5, iC 0, .str [], .own 3 u55.2.1.length, .nil, .own 4 u55.2.2.length], E25.row u55.2.1, .dead, .row 58 1 (u55.2.2.length + ([r110.1].length)) fun i j => bif Nat.blt i u55.2.2.length then E58.at u55.2.2 i j else (E58.at [r110.1]) (i - u55.2.2.length) j], [], 1⟩) 6 [4, 5, 49] [0, 1, 2, 3, 4, 6] (by kernel_rfl) (by kernel_rfl) ?_
     refine RefX.conv (Conv.ob 5 (E58.row (u55.2.2 ++ [r110.1])) (El.row_append E58 u55.2.2 [r110.1] rfl rfl)) ?_
     refine RefX.conv (Conv.sl 49 (.c (.own 5 ((u55.2.2 ++ [r110.1]).length))) (DLe.c (CLe.own (by simp <;> omega)))) ?_
     refine RefX.v0 (fuel' := 1) [7] [4, 5, 49, 50] [0, 1, 2, 3, 4, 5] ?_
     refine RefX.fork1 (fuel' := 0) 8 (by kernel_rfl) ?_
     refine RefXi.w0 8 [4, 5] [0, 1, 2, 3, 5] ?_
     refine RefX.done (by kernel_rfl) ?_
     refine Ref.ck ⟨[sP 4 1 0 0, sP 5 2 0 0], [E65.o r110.2, oX0, .cells [iC 5, iC 0, .str [], .own 3 u55.2.1.length, .nil, .own 4 ((u55.2.2 ++ [r110.1]).length)], E25.row u55.2.1, E58.row (u55.2.2 ++ [r110.1])], [], 1⟩ [4, 5] [0, 1, 2, 3, 4] ?_
     exact hk r110
  ·
   intro a0 a1
   refine DFun.it Tryz.f131 (fun r => ⟨[sP 4 1 0 0], [E65.o r.2, E122.o r.1], [], 1⟩) ?_
   rw [F131]
   refine Ref.sq ?_
   refine Ref.rn 0 ?_
   refine RefR.e0 (st' := ⟨[sP 0 0 0 0, sI 1 a1, sP 4 1 0 0], [E65.o a0, oX0], [], 1⟩) 0 1 1 [0, 1, 4] [0, 1] ?_
   refine RefR.nl 1 ?_
   refine Ref.sq ?_
   refine Ref.rn 1 ?_
   refine RefR.e1 0 1 1 [0, 1, 4, 8] [0, 1] ?_
   refine RefR.cc 9 1 2 [0] (F19_ok K a0 1) (fun r1 => ?_)
   refine RefR.e0 (st' := ⟨[sP 0 0 0 0, sI 1 a1, sP 4 1 0 0, (10, .c (.own 2 1))], [E65.o r1.2, oX0, .row 25 5 1 (tbl [(E25.cs r1.1)])], [], 1⟩) 2 1 3 [0, 1, 4, 10] [0, 1, 3] ?_
   refine RefR.conv (Conv.ob 2 (E25.row [r1.1]) (El.row_build E25 [r1.1] rfl (by kernel_rfl))) ?_
   refine RefR.conv (Conv.sl 10 (.c (.own 2 ([r1.1].length))) (DLe.c (CLe.own (by simp <;> omega)))) ?_
   refine RefR.e0 (st' := ⟨[sP 0 0 0 0, sI 1 a1, sP 4 1 0 0, sP 5 3 0 0], [E65.o r1.2, oX0, E25.row [r1.1], .cells [iC 6, iC 0, .str [], .own 2 ([r1.1].length), .nil, .nil]], [], 1⟩) 3 3 6 [0, 1, 4, 5] [0, 1, 2, 3] ?_
   refine RefR.nl 6 ?_
   refine Ref.sq ?_
   refine Ref.rn 2 ?_
   refine RefR.e0 (st' := ⟨[sP 0 0 0 0, sI 1 a1, sP 4 1 0 0, sP 5 3 0 0, sP 12 0 0 0], [E65.o r1.2, oX0, E25.row [r1.1], .cells [iC 6, iC 0, .str [], .own 2 ([r1.1].length), .nil, .nil]], [], 1⟩) 0 1 1 [0, 1, 4, 5, 12] [0, 1, 2, 3] ?_
   refine RefR.li 13 [] E9 ([[79, 70]] : List Bytes) 1 2 ?_
   refine RefR.cc 14 2 3 [0] (F93_ok K r1.2 ([[79, 70]] : List Bytes)) (fun r2 => ?_)
   refine RefR.nl 3 ?_
   refine Ref.sq ?_
   refine Ref.ce (.block 0 (cd (bd Tryz.f131) [1, 1, 1, 0, 0])) ?_
   refine Ref.block (go1 := fun u546 => ⟨[sP 0 0 0 0, sI 1 a1, sP 4 1 0 0, sP 5 2 0 0], [E65.o u546.1, oX0, .cells [iC 6, iC 0, .str [], .own 3 ([r1.1].length), .own 4 u546.2.1.length, .own 5 u546.2.2.length], E25.row [r1.1], E45.row u546.2.1, E58.row u546.2.2], [], 1⟩) ?_ (fun _ h => by cases h) (fun u546 => ?_)
   ·
    refine Ref.ce (.loop (cd (bd Tryz.f131) [1, 1, 1, 0, 0, 0])) ?_
    refine Ref.conv (Conv.adoptCell (st' := ⟨[(14, .tup []), (13, .c (E9.tree ([[79, 70]] : List Bytes))), sP 0 0 0 0, sI 1 a1, sP 4 1 0 0, sP 5 3 0 0, sP 12 0 0 0], [E65.o r2, oX0, E25.row [r1.1], .cells [iC 6, iC 0, .str [], .own 2 ([r1.1].length), .own 5 0, .nil], .dead, E45.row []], [], 1⟩) 3 4 E45.ty E45.w (E45.at []) (by kernel_rfl)) ?_
    refine Ref.conv (Conv.adoptCell (st' := ⟨[(14, .tup []), (13, .c (E9.tree ([[79, 70]] : List Bytes))), sP 0 0 0 0, sI 1 a1, sP 4 1 0 0, sP 5 3 0 0, sP 12 0 0 0], [E65.o r2, oX0, E25.row [r1.1], .cells [iC 6, iC 0, .str [], .own 2 ([r1.1].length), .own 5 0, .own 6 0], .dead, E45.row [], E58.row []], [], 1⟩) 3 5 E58.ty E58.w (E58.at []) (by kernel_rfl)) ?_
    refine Ref.ck ⟨[sP 0 0 0 0, sI 1 a1, sP 4 1 0 0, sP 5 2 0 0], [E65.o r2, oX0, .cells [iC 6, iC 0, .str [], .own 3 ([r1.1].length), .own 4 0, .own 5 0], E25.row [r1.1], E45.row [], E58.row []], [], 1⟩ [0, 1, 4, 5] [0, 1, 3, 2, 5, 6] ?_
    refine Ref.loop (hd := fun u728 => ⟨[sP 0 0 0 0, sI 1 a1, sP 4 1 0 0, sP 5 2 0 0], [E65.o u728.1, oX0, .cells [iC 6, iC 0, .str [], .own 3 ([r1.1].length), .own 4 u728.2.1.length, .own 5 u728.2.2.length], E25.row [r1.1], E45.row u728.2.1, E58.row u728.2.2], [], 1⟩) K (r2, [], []) (by kernel_rfl) (fun u728 => ?_)
    refine Ref.sq ?_
    refine Ref.sq ?_
    refine Ref.rn 3 ?_
    refine RefR.e1 0 1 1 [0, 1, 4, 5, 15] [0, 1, 2, 3, 4, 5] ?_
    refine RefR.lookC (t := 16) (g := []) (b := true) 1 2 [0] (default : Bool) rfl (by kernel_rfl) (F114_ok K u728.1) (fun _ => rfl) (fun r910 => ?_)
    refine RefR.nl 2 ?_
    refine Ref.cn (.tmp 16) r910 (fun hc => ?_) (fun hc => ?_)
    ·
     refine Ref.sk ?_
     refine Ref.ce (.block 1 (cd (bd Tryz.f131) [1, 1, 1, 0, 0, 0, 1, 0])) ?_
     refine Ref.block (go1 := fun u1000 => ⟨[sP 0 0 0 0, sI 1 a1, sP 4 1 0 0, sP 5 2 0 0], [E65.o u1000.1, oX0, .cells [iC 6, iC 0, .str [], .own 3 ([r1.1].length), .own 4 u1000.2.1.length, .own 5 u1000.2.2.length], E25.row [r1.1], E45.row u1000.2.1, E58.row u1000.2.2], [], 1⟩) ?_ (fun a => match a with | .inl _ => (fun h => by cases h) | .inr _ => (fun h => by cases h)) (fun u1000 => ?_)
     ·
      refine Ref.sq ?_
      refine Ref.rn 4 ?_
      refine RefR.e1 0 4 4 [0, 1, 4, 5, 17, 20] [0, 1, 2, 3, 4, 5] ?_
      refine RefR.cc 21 4 5 [0] (F30_ok K u728.1 (Int.ofNat u728.2.1.length) 6) (fun r1001 => ?_)
      refine RefR.nl 5 ?_
      refine Ref.sq ?_
      refine Ref.rn 5 ?_
      refine RefR.e0 (st' := ⟨[sP 0 0 0 0, sI 1 a1, sP 4 1 0 0, sP 5 2 0 0, (6, .c (.nil))], [E65.o r1001, oX0, .cells [iC 6, iC 0, .str [], .own 3 ([r1.1].length), .own 4 u728.2.1.length, .own 5 u728.2.2.length], E25.row [r1.1], E45.row u728.2.1, E58.row u728.2.2], [], 1⟩) 0 1 1 [0, 1, 4, 5, 6] [0, 1, 2, 3, 4, 5] ?_
      refine RefR.nl 1 ?_
      refine Ref.sq ?_
      refine Ref.sq ?_
      refine Ref.rn 6 ?_
      refine RefR.e0 (st' := ⟨[sP 0 0 0 0, sI 1 a1, sP 4 1 0 0, sP 5 2 0 0, (6, .c (.nil)), sB 7 true], [E65.o r1001, oX0, .cells [iC 6, iC 0, .str [], .own 3 ([r1.1].length), .own 4 u728.2.1.length, .own 5 u728.2.2.length], E25.row [r1.1], E45.row u728.2.1, E58.row u728.2.2], [], 1⟩) 0 1 1 [0, 1, 4, 5, 6, 7] [0, 1, 2, 3, 4, 5] ?_
      refine RefR.nl 1 ?_
      refine Ref.ce (.block 2 (cd (bd Tryz.f131) [1, 1, 1, 0, 0, 0, 1, 0, 1, 1, 0, 1, 0])) ?_
      refine Ref.block (go1 := fun u1044 => ⟨[sP 0 0 0 0, sI 1 a1, sP 4 1 0 0, sP 5 2 0 0, (6, .c (.own 6 u1044.2.length))], [E65.o u1044.1, oX0, .cells [iC 6, iC 0, .str [], .own 3 ([r1.1].length), .own 4 u728.2.1.length, .own 5 u728.2.2.length], E25.row [r1.1], E45.row u728.2.1, E58.row u728.2.2, E3.row u1044.2], [], 1⟩) ?_ (fun a => match a with | .inl _ => (fun h => by cases h) | .inr (.inl _) => (fun h => by cases h) | .inr (.inr _) => (fun h => by cases h)) (fun u1044 => ?_)
      ·
       refine Ref.ce (.loop (cd (bd Tryz.f131) [1, 1, 1, 0, 0, 0, 1, 0, 1, 1, 0, 1, 0, 0])) ?_
       refine Ref.conv (Conv.adopt 6 E3.ty E3.w (E3.at []) (by kernel_rfl) (by kernel_rfl) (by kernel_rfl)) ?_
       refine Ref.ck ⟨[sP 0 0 0 0, sI 1 a1, sP 4 1 0 0, sP 5 2 0 0, (6, .c (.own 6 0)), sB 7 true], [E65.o r1001, oX0, .cells [iC 6, iC 0, .str [], .own 3 ([r1.1].length), .own 4 u728.2.1.length, .own 5 u728.2.2.length], E25.row [r1.1], E45.row u728.2.1, E58.row u728.2.2, E3.row []], [], 1⟩ [0, 1, 4, 5, 6, 7] [0, 1, 2, 3, 4, 5, 6] ?_
       refine Ref.loop (hd := fun u1059 => ⟨[sP 0 0 0 0, sI 1 a1, sP 4 1 0 0, sP 5 2 0 0, (6, .c (.own 6 u1059.2.1.length)), sB 7 u1059.2.2], [E65.o u1059.1, oX0, .cells [iC 6, iC 0, .str [], .own 3 ([r1.1].length), .own 4 u728.2.1.length, .own 5 u728.2.2.length], E25.row [r1.1], E45.row u728.2.1, E58.row u728.2.2, E3.row u1059.2.1], [], 1⟩) K (r1001, [], true) (by kernel_rfl) (fun u1059 => ?_)
       refine Ref.sq ?_
       refine Ref.sq ?_
       refine Ref.rn 7 ?_
       refine RefR.e1 0 3 3 [0, 1, 4, 5, 6, 23, 24] [0, 1, 2, 3, 4, 5, 6] ?_
       refine RefR.lookC (t := 25) (g := [(23, true)]) (b := u1059.2.2) 3 4 [0] (default : Bool) rfl (by kernel_rfl) (F21_ok K u1059.1) (fun _ => rfl) (fun r1074 => ?_)
       refine RefR.e0 (st' := ⟨[sP 0 0 0 0, sI 1 a1, sP 4 1 0 0, sP 5 2 0 0, (6, .c (.own 6 u1059.2.1.length)), sB 26 (u1059.2.2 && r1074)], [E65.o u1059.1, oX0, .cells [iC 6, iC 0, .str [], .own 3 ([r1.1].length), .own 4 u728.2.1.length, .own 5 u728.2.2.length], E25.row [r1.1], E45.row u728.2.1, E58.row u728.2.2, E3.row u1059.2.1], [], 1⟩) 4 1 5 [0, 1, 4, 5, 6, 26] [0, 1, 2, 3, 4, 5, 6] ?_
       refine RefR.nl 5 ?_
       refine Ref.cn (.tmp 26) (u1059.2.2 && r1074) (fun hc => ?_) (fun hc => ?_)
       ·
        refine Ref.sk ?_
        refine Ref.sq ?_
        refine Ref.ce (.block 3 (cd (bd Tryz.f131) [1, 1, 1, 0, 0, 0, 1, 0, 1, 1, 0, 1, 0, 0, 1, 0, 0])) ?_
        refine Ref.block (go1 := fun u1080 => ⟨[sP 0 0 0 0, sI 1 a1, sP 4 1 0 0, sP 5 2 0 0, (6, .c (.own 6 u1080.2.length))], [E65.o u1080.1, oX0, .cells [iC 6, iC 0, .str [], .own 3 ([r1.1].length), .own 4 u728.2.1.length, .own 5 u728.2.2.length], E25.row [r1.1], E45.row u728.2.1, E58.row u728.2.2, E3.row u1080.2], [], 1⟩) ?_ (fun a => match a with | .inl _ => (fun h => by cases h) | .inr (.inl _) => (fun h => by cases h) | .inr (.inr (.inl _)) => (fun h => by cases h) | .inr (.inr (.inr _)) => (fun h => by cases h)) (fun u1080 => ?_)
        ·
         refine Ref.sq ?_
         refine Ref.sq ?_
         refine Ref.rn 9 ?_
         refine RefR.e1 0 1 1 [0, 1, 4, 5, 6, 29] [0, 1, 2, 3, 4, 5, 6] ?_
         refine RefR.lookC (t := 30) (g := []) (b := true) 1 2 [0] (default : Bool) rfl (by kernel_rfl) (F114_ok K u1059.1) (fun _ => rfl) (fun r1081 => ?_)
         refine RefR.nl 2 ?_
         refine Ref.bind (go1 := fun u1083 => ⟨[sP 0 0 0 0, sI 1 a1, sP 4 1 0 0, sP 5 2 0 0, (6, .c (.own 6 u1059.2.1.length))], [E65.o u1083, oX0, .cells [iC 6, iC 0, .str [], .own 3 ([r1.1].length), .own 4 u728.2.1.length, .own 5 u728.2.2.length], E25.row [r1.1], E45.row u728.2.1, E58.row u728.2.2, E3.row u1059.2.1], [], 1⟩) ?_ (fun u1083 => ?_)
         ·
          refine Ref.cn (.tmp 30) r1081 (fun hc => ?_) (fun hc => ?_)
          ·
           refine Ref.rn 10 ?_
           refine RefR.e1 0 3 3 [0, 1, 4, 5, 6, 31, 33] [0, 1, 2, 3, 4, 5, 6] ?_
           refine RefR.cc 34 3 4 [0] (F30_ok K u1059.1 (Int.ofNat u1059.2.1.length) 8) (fun r1084 => ?_)
           refine RefR.nl 4 ?_
           refine Ref.ck ⟨[sP 0 0 0 0, sI 1 a1, sP 4 1 0 0, sP 5 2 0 0, (6, .c (.own 6 u1059.2.1.length))], [E65.o r1084, oX0, .cells [iC 6, iC 0, .str [], .own 3 ([r1.1].length), .own 4 u728.2.1.length, .own 5 u728.2.2.length], E25.row [r1.1], E45.row u728.2.1, E58.row u728.2.2, E3.row u1059.2.1], [], 1⟩ [0, 1, 4, 5, 6] [0, 1, 2, 3, 4, 5, 6] ?_
           exact Ref.n0 (t := (r1084))
          ·
           refine Ref.sk ?_
           refine Ref.ck ⟨[sP 0 0 0 0, sI 1 a1, sP 4 1 0 0, sP 5 2 0 0, (6, .c (.own 6 u1059.2.1.length))], [E65.o u1059.1, oX0, .cells [iC 6, iC 0, .str [], .own 3 ([r1.1].length), .own 4 u728.2.1.length, .own 5 u728.2.2.length], E25.row [r1.1], E45.row u728.2.1, E58.row u728.2.2, E3.row u1059.2.1], [], 1⟩ [0, 1, 4, 5, 6] [0, 1, 2, 3, 4, 5, 6] ?_
           exact Ref.n0 (t := (u1059.1))
         ·
          refine Ref.rn 11 ?_
          refine RefR.e1 0 2 2 [0, 1, 4, 5, 35, 36] [0, 1, 2, 3, 4, 5, 6] ?_
          refine RefR.cc 37 2 3 [0] (F112_ok K u1083) (fun r1085 => ?_)
          refine RefR.e0 (st' := ⟨[sP 0 0 0 0, sI 1 a1, sP 4 1 0 0, sP 5 2 0 0, (35, .c (.own 6 u1059.2.1.length)), (38, .c (.own 7 1))], [E65.o r1085.2, oX0, .cells [iC 6, iC 0, .str [], .own 3 ([r1.1].length), .own 4 u728.2.1.length, .own 5 u728.2.2.length], E25.row [r1.1], E45.row u728.2.1, E58.row u728.2.2, E3.row u1059.2.1, .row 3 1 1 (tbl [[iC r1085.1]])], [], 1⟩) 3 1 4 [0, 1, 4, 5, 35, 38] [0, 1, 2, 3, 4, 5, 6, 7] ?_
          refine RefR.conv (Conv.ob 7 (E3.row [r1085.1]) (El.row_build E3 [r1085.1] rfl (by kernel_rfl))) ?_
          refine RefR.conv (Conv.sl 38 (.c (.own 7 ([r1085.1].length))) (DLe.c (CLe.own (by simp <;> omega)))) ?_
          refine RefR.evC (vs := [room ((u1059.2.1.length + ([r1085.1].length)) * 8)]) (st' := ⟨[sP 0 0 0 0, sI 1 a1, sP 4 1 0 0, sP 5 2 0 0, (39, .c (.own 6 (u1059.2.1.length + ([r1085.1].length))))], [E65.o r1085.2, oX0, .cells [iC 6, iC 0, .str [], .own 3 ([r1.1].length), .own 4 u728.2.1.length, .own 5 u728.2.2.length], E25.row [r1.1], E45.row u728.2.1, E58.row u728.2.2, .row 3 1 (u1059.2.1.length + ([r1085.1].length)) fun i j => bif Nat.blt i u1059.2.1.length then E3.at u1059.2.1 i j else (E3.at [r1085.1]) (i - u1059.2.1.length) j], [], 1⟩) 4 1 5 [0, 1, 4, 5, 39] [0, 1, 2, 3, 4, 5, 8] rfl (by kernel_rfl) ?_
          refine RefR.conv (Conv.ob 6 (E3.row (u1059.2.1 ++ [r1085.1])) (El.row_append E3 u1059.2.1 [r1085.1] rfl rfl)) ?_
          refine RefR.conv (Conv.sl 39 (.c (.own 6 ((u1059.2.1 ++ [r1085.1]).length))) (DLe.c (CLe.own (by simp <;> omega)))) ?_
          refine RefR.e0 (st' := ⟨[sP 0 0 0 0, sI 1 a1, sP 4 1 0 0, sP 5 2 0 0, (6, .c (.own 6 ((u1059.2.1 ++ [r1085.1]).length)))], [E65.o r1085.2, oX0, .cells [iC 6, iC 0, .str [], .own 3 ([r1.1].length), .own 4 u728.2.1.length, .own 5 u728.2.2.length], E25.row [r1.1], E45.row u728.2.1, E58.row u728.2.2, E3.row (u1059.2.1 ++ [r1085.1])], [], 1⟩) 5 1 6 [0, 1, 4, 5, 6] [0, 1, 2, 3, 4, 5, 6] ?_
          refine RefR.nl 6 ?_
          exact Ref.n0 (t := (r1085.2, (u1059.2.1 ++ [r1085.1])))
        ·
         refine Ref.rn 8 ?_
         refine RefR.e1 0 1 1 [0, 1, 4, 5, 6, 27] [0, 1, 2, 3, 4, 5, 6] ?_
         refine RefR.cc 28 1 2 [0] (F39_ok K u1080.1 ([44] : Bytes)) (fun r1086 => ?_)
         refine RefR.e0 (st' := ⟨[sP 0 0 0 0, sI 1 a1, sP 4 1 0 0, sP 5 2 0 0, (6, .c (.own 6 u1080.2.length)), sB 7 r1086.1], [E65.o r1086.2, oX0, .cells [iC 6, iC 0, .str [], .own 3 ([r1.1].length), .own 4 u728.2.1.length, .own 5 u728.2.2.length], E25.row [r1.1], E45.row u728.2.1, E58.row u728.2.2, E3.row u1080.2], [], 1⟩) 2 1 3 [0, 1, 4, 5, 6, 7] [0, 1, 2, 3, 4, 5, 6] ?_
         refine RefR.nl 3 ?_
         exact Ref.n0 (t := (r1086.2, u1080.2, r1086.1))
       ·
        refine Ref.ck ⟨[sP 0 0 0 0, sI 1 a1, sP 4 1 0 0, sP 5 2 0 0, (6, .c (.own 6 u1059.2.1.length))], [E65.o u1059.1, oX0, .cells [iC 6, iC 0, .str [], .own 3 ([r1.1].length), .own 4 u728.2.1.length, .own 5 u728.2.2.length], E25.row [r1.1], E45.row u728.2.1, E58.row u728.2.2, E3.row u1059.2.1], [], 1⟩ [0, 1, 4, 5, 6] [0, 1, 2, 3, 4, 5, 6] ?_
        exact Ref.xt 2 (t := (Sum.inl (u1059.1, u1059.2.1)))
      ·
       refine Ref.sq ?_
       refine Ref.rn 12 ?_
       refine RefR.e0 (st' := ⟨[sP 0 0 0 0, sI 1 a1, sP 4 1 0 0, sP 5 2 0 0, (6, .c (.own 6 u1044.2.length)), sP 40 0 0 0], [E65.o u1044.1, oX0, .cells [iC 6, iC 0, .str [], .own 3 ([r1.1].length), .own 4 u728.2.1.length, .own 5 u728.2.2.length], E25.row [r1.1], E45.row u728.2.1, E58.row u728.2.2, E3.row u1044.2], [], 1⟩) 0 1 1 [0, 1, 4, 5, 6, 40] [0, 1, 2, 3, 4, 5, 6] ?_
       refine RefR.li 41 [] E9 ([[58]] : List Bytes) 1 2 ?_
       refine RefR.cc 42 2 3 [0] (F93_ok K u1044.1 ([[58]] : List Bytes)) (fun r1087 => ?_)
       refine RefR.nl 3 ?_
       refine Ref.sq ?_
       refine Ref.rn 13 ?_
       refine RefR.e0 (st' := ⟨[sP 0 0 0 0, sI 1 a1, sP 4 1 0 0, sP 5 2 0 0, (44, .c (.own 4 u728.2.1.length)), (45, .c (.own 6 u1044.2.length))], [E65.o r1087, oX0, .cells [iC 6, iC 0, .str [], .own 3 ([r1.1].length), .own 4 u728.2.1.length, .own 5 u728.2.2.length], E25.row [r1.1], E45.row u728.2.1, E58.row u728.2.2, E3.row u1044.2], [], 1⟩) 0 3 3 [0, 1, 4, 5, 44, 45] [0, 1, 2, 3, 4, 5, 6] ?_
       refine RefR.conv (Conv.freeze (st' := ⟨[sP 0 0 0 0, sI 1 a1, sP 4 1 0 0, sP 5 2 0 0, (44, .c (.own 4 u728.2.1.length)), (45, .c (E3.tree u1044.2))], [E65.o r1087, oX0, .cells [iC 6, iC 0, .str [], .own 3 ([r1.1].length), .own 4 u728.2.1.length, .own 5 u728.2.2.length], E25.row [r1.1], E45.row u728.2.1, E58.row u728.2.2, .dead], [], 1⟩) 6 (by kernel_rfl)) ?_
       refine RefR.e0 (st' := ⟨[sP 0 0 0 0, sI 1 a1, sP 4 1 0 0, sP 5 2 0 0, (44, .c (.own 4 u728.2.1.length)), (46, .c (.own 6 1))], [E65.o r1087, oX0, .cells [iC 6, iC 0, .str [], .own 3 ([r1.1].length), .own 4 u728.2.1.length, .own 5 u728.2.2.length], E25.row [r1.1], E45.row u728.2.1, E58.row u728.2.2, .row 45 1 1 (tbl [[E3.tree u1044.2]])], [], 1⟩) 3 1 4 [0, 1, 4, 5, 44, 46] [0, 1, 2, 3, 4, 5, 7] ?_
       refine RefR.conv (Conv.ob 6 (E45.row [u1044.2]) (El.row_build E45 [u1044.2] rfl (by kernel_rfl))) ?_
       refine RefR.conv (Conv.sl 46 (.c (.own 6 ([u1044.2].length))) (DLe.c (CLe.own (by simp <;> omega)))) ?_
       refine RefR.evC (vs := [room ((u728.2.1.length + ([u1044.2].length)) * 24)]) (st' := ⟨[sP 0 0 0 0, sI 1 a1, sP 4 1 0 0, sP 5 2 0 0, (47, .c (.own 6 (u728.2.1.length + ([u1044.2].length))))], [E65.o r1087, oX0, .cells [iC 6, iC 0, .str [], .own 3 ([r1.1].length), .own 4 u728.2.1.length, .own 5 u728.2.2.length], E25.row [r1.1], .dead, E58.row u728.2.2, .row 45 1 (u728.2.1.length + ([u1044.2].length)) fun i j => bif Nat.blt i u728.2.1.length then E45.at u728.2.1 i j else (E45.at [u1044.2]) (i - u728.2.1.length) j], [], 1⟩) 4 1 5 [0, 1, 4, 5, 47] [0, 1, 2, 3, 4, 5, 7] rfl (by kernel_rfl) ?_
       refine RefR.conv (Conv.ob 6 (E45.row (u728.2.1 ++ [u1044.2])) (El.row_append E45 u728.2.1 [u1044.2] rfl rfl)) ?_
       refine RefR.conv (Conv.sl 47 (.c (.own 6 ((u728.2.1 ++ [u1044.2]).length))) (DLe.c (CLe.own (by simp <;> omega)))) ?_
       refine RefR.e0 (st' := ⟨[sP 0 0 0 0, sI 1 a1, sP 4 1 0 0, sP 5 2 0 0], [E65.o r1087, oX0, .cells [iC 6, iC 0, .str [], .own 3 ([r1.1].length), .own 5 ((u728.2.1 ++ [u1044.2]).length), .own 4 u728.2.2.length], E25.row [r1.1], E58.row u728.2.2, E45.row (u728.2.1 ++ [u1044.2])], [], 1⟩) 5 2 7 [0, 1, 4, 5] [0, 1, 2, 3, 5, 6] ?_
       refine RefR.nl 7 ?_
       refine Ref.drawnY 14 (by kernel_rfl) (by kernel_rfl) ?_
       refine RefY.evC0 (st' := ⟨[sP 0 0 0 0, sI 1 a1, sP 4 1 0 0, sP 5 2 0 0, sP 49 2 0 5, sP 51 0 0 0, sI 53 (IntKind.i64.wrap (a1 + 1))], [E65.o r1087, oX0, .cells [iC 6, iC 0, .str [], .own 3 ([r1.1].length), .own 5 ((u728.2.1 ++ [u1044.2]).length), .own 4 u728.2.2.length], E25.row [r1.1], E58.row u728.2.2, E45.row (u728.2.1 ++ [u1044.2])], [], 1⟩) (fuel' := 7) [0, 2, 3, 4] [0, 1, 4, 5, 49, 51, 53] [0, 1, 2, 3, 4, 5] rfl (by kernel_rfl) (by kernel_rfl) ?_
       refine RefY.toX [6, 8, 10] ?_
       refine RefX.withK1 (fun (r1088 : (List S122) × S65) => ⟨[sP 0 0 0 0, sI 1 a1, sP 4 1 0 0, sP 5 2 0 0], [E65.o r1088.2, oX0, .cells [iC 6, iC 0, .str [], .own 3 ([r1.1].length), .own 4 ((u728.2.1 ++ [u1044.2]).length), .own 5 ((u728.2.2 ++ [r1088.1]).length)], E25.row [r1.1], E45.row (u728.2.1 ++ [u1044.2]), E58.row (u728.2.2 ++ [r1088.1])], [], 1⟩) (fun (r1088 : (List S122) × S65) => (some (.inr (r1088.2, (u728.2.1 ++ [u1044.2]), (u728.2.2 ++ [r1088.1]))))) (fun r1088 => ?_) (fun hk => ?_)
       ·
        exact Ref.n0 (t := (r1088.2, (u728.2.1 ++ [u1044.2]), (u728.2.2 ++ [r1088.1])))
       ·
        refine RefX.pend0 (fuel' := 6) [[], [(1, 50)]] [(1, 50)] [0, 1, 4, 5, 49, 51, 53] [0, 1, 2, 3, 4, 5] ⟨[sP 0 0 0 0, sI 1 a1, sP 4 1 0 0, sP 5 2 0 0, sP 49 2 0 5, (50, .c (.own 4 u728.2.2.length)), sP 51 0 0 0, sI 53 (IntKind.i64.wrap (a1 + 1))], [E65.o r1087, oX0, .cells [iC 6, iC 0, .str [], .own 3 ([r1.1].length), .own 5 ((u728.2.1 ++ [u1044.2]).length), .own 4 u728.2.2.length], E25.row [r1.1], E58.row u728.2.2, E45.row (u728.2.1 ++ [u1044.2])], [], 1⟩ ?_
        refine RefXq.fork1 (fuel' := 5) 5 ?_
        refine RefXqi.adds0 (st' := ⟨[sP 0 0 0 0, sI 1 a1, sP 4 1 0 0, sP 5 2 0 0, sP 49 2 0 5, (50, .c (.own 4 u728.2.2.length)), sP 51 0 0 0, sI 53 (IntKind.i64.wrap (a1 + 1)), (54, .c (.own 6 3))], [E65.o r1087, oX0, .cells [iC 6, iC 0, .str [], .own 3 ([r1.1].length), .own 5 ((u728.2.1 ++ [u1044.2]).length), .own 4 u728.2.2.length], E25.row [r1.1], E58.row u728.2.2, E45.row (u728.2.1 ++ [u1044.2]), .row 9 1 3 (tbl [[.str w_48], [.str wELSE], [.str wEND_CASE]])], [], 1⟩) 5 [0, 1, 4, 5, 49, 50, 51, 53, 54] [0, 1, 2, 3, 4, 5, 6] (by kernel_rfl) (by kernel_rfl) ?_
        refine RefXq.conv (Conv2.obj 6 (E9.row [w_48, wELSE, wEND_CASE]) (El.row_build E9 [w_48, wELSE, wEND_CASE] rfl (by kernel_rfl)) (by kernel_rfl)) ?_
        refine RefXq.conv (Conv2.slot 54 (.c (.own 6 ([w_48, wELSE, wEND_CASE].length))) (DLe.c (CLe.own (by simp <;> omega))) (by kernel_rfl)) ?_
        refine RefXq.fork1 (fuel' := 4) 6 ?_
        refine RefXqi.conv (Conv2.freeze (st' := ⟨[(54, .c (E9.tree [w_48, wELSE, wEND_CASE])), sP 0 0 0 0, sI 1 a1, sP 4 1 0 0, sP 5 2 0 0, sP 49 2 0 5, (50, .c (.own 4 u728.2.2.length)), sP 51 0 0 0, sI 53 (IntKind.i64.wrap (a1 + 1))], [E65.o r1087, oX0, .cells [iC 6, iC 0, .str [], .own 3 ([r1.1].length), .own 5 ((u728.2.1 ++ [u1044.2]).length), .own 4 u728.2.2.length], E25.row [r1.1], E58.row u728.2.2, E45.row (u728.2.1 ++ [u1044.2]), .dead], [], 1⟩) 6 (by kernel_rfl)) ?_
        refine RefXqi.callC (t := 55) 6 [0] rfl (by kernel_rfl) (ih97 r1087 (IntKind.i64.wrap (a1 + 1)) [w_48, wELSE, wEND_CASE]) (fun r1088 => ?_)
        refine RefXq.fork1 (fuel' := 3) 7 ?_
        refine RefXqi.adds0 (st' := ⟨[sP 0 0 0 0, sI 1 a1, sP 4 1 0 0, sP 5 2 0 0, sP 49 2 0 5, (50, .c (.own 4 u728.2.2.length)), (56, .c (.own 6 1))], [E65.o r1088.2, oX0, .cells [iC 6, iC 0, .str [], .own 3 ([r1.1].length), .own 5 ((u728.2.1 ++ [u1044.2]).length), .own 4 u728.2.2.length], E25.row [r1.1], E58.row u728.2.2, E45.row (u728.2.1 ++ [u1044.2]), .row 58 1 1 (tbl [[E122.tree r1088.1]])], [], 1⟩) 7 [0, 1, 4, 5, 49, 50, 56] [0, 1, 2, 3, 4, 5, 7] (by kernel_rfl) (by kernel_rfl) ?_
        refine RefXq.conv (Conv2.obj 6 (E58.row [r1088.1]) (El.row_build E58 [r1088.1] rfl (by kernel_rfl)) (by kernel_rfl)) ?_
        refine RefXq.conv (Conv2.slot 56 (.c (.own 6 ([r1088.1].length))) (DLe.c (CLe.own (by simp <;> omega))) (by kernel_rfl)) ?_
        refine RefXq.close ?_
        refine RefX.fork1 (fuel' := 2) 8 (by kernel_rfl) ?_
        refine RefXi.writes (vs := [room ((u728.2.2.length + ([r1088.1].length)) * 24)]) (st' := ⟨[sP 0 0 0 0, sI 1 a1, sP 4 1 0 0, sP 5 2 0 0, (57, .c (.own 6 (u728.2.2.length + ([r1088.1].length))))], [E65.o r1088.2, oX0, .cells [iC 6, iC 0, .str [], .own 3 ([r1.1].length), .own 5 ((u728.2.1 ++ [u1044.2]).length), .own 4 u728.2.2.length], E25.row [r1.1], .dead, E45.row (u728.2.1 ++ [u1044.2]), .row 58 1 (u728.2.2.length + ([r1088.1].length)) fun i j => bif Nat.blt i u728.2.2.length then E58.at u728.2.2 i j else (E58.at [r1088.1]) (i - u728.2.2.length) j], [], 1⟩) 8 [0, 1, 4, 5, 57] [0, 1, 2, 3, 4, 5, 7] (by kernel_rfl) (by kernel_rfl) ?_
        refine RefX.conv (Conv.ob 6 (E58.row (u728.2.2 ++ [r1088.1])) (El.row_append E58 u728.2.2 [r1088.1] rfl rfl)) ?_
        refine RefX.conv (Conv.sl 57 (.c (.own 6 ((u728.2.2 ++ [r1088.1]).length))) (DLe.c (CLe.own (by simp <;> omega)))) ?_
        refine RefX.v0 (fuel' := 1) [9] [0, 1, 4, 5, 57, 58] [0, 1, 2, 3, 4, 5, 6] ?_
        refine RefX.fork1 (fuel' := 0) 10 (by kernel_rfl) ?_
        refine RefXi.w0 10 [0, 1, 4, 5] [0, 1, 2, 3, 5, 6] ?_
        refine RefX.done (by kernel_rfl) ?_
        refine Ref.ck ⟨[sP 0 0 0 0, sI 1 a1, sP 4 1 0 0, sP 5 2 0 0], [E65.o r1088.2, oX0, .cells [iC 6, iC 0, .str [], .own 3 ([r1.1].length), .own 4 ((u728.2.1 ++ [u1044.2]).length), .own 5 ((u728.2.2 ++ [r1088.1]).length)], E25.row [r1.1], E45.row (u728.2.1 ++ [u1044.2]), E58.row (u728.2.2 ++ [r1088.1])], [], 1⟩ [0, 1, 4, 5] [0, 1, 2, 3, 4, 5] ?_
        exact hk r1088
     ·
      exact Ref.n0 (t := (u1000.1, u1000.2.1, u1000.2.2))
    ·
     refine Ref.ck ⟨[sP 0 0 0 0, sI 1 a1, sP 4 1 0 0, sP 5 2 0 0], [E65.o u728.1, oX0, .cells [iC 6, iC 0, .str [], .own 3 ([r1.1].length), .own 4 u728.2.1.length, .own 5 u728.2.2.length], E25.row [r1.1], E45.row u728.2.1, E58.row u728.2.2], [], 1⟩ [0, 1, 4, 5] [0, 1, 2, 3, 4, 5] ?_
     exact Ref.xt 0 (t := (Sum.inl (u728.1, u728.2.1, u728.2.2)))
   ·
    refine Ref.sq ?_
    refine Ref.drawnY 15 (by kernel_rfl) (by kernel_rfl) ?_
    refine RefY.evC0 (st' := ⟨[sP 4 1 0 0, sP 5 2 0 0, sP 59 2 0 5, sP 61 0 0 0, sI 62 a1], [E65.o u546.1, oX0, .cells [iC 6, iC 0, .str [], .own 3 ([r1.1].length), .own 4 u546.2.1.length, .own 5 u546.2.2.length], E25.row [r1.1], E45.row u546.2.1, E58.row u546.2.2], [], 1⟩) (fuel' := 6) [0, 2, 3] [4, 5, 59, 61, 62] [0, 1, 2, 3, 4, 5] rfl (by kernel_rfl) (by kernel_rfl) ?_
    refine RefY.toX [4, 6, 8] ?_
    refine RefX.withK1 (fun (r1090 : (List S122) × S65) => ⟨[sP 4 1 0 0, sP 5 2 0 0], [E65.o r1090.2, oX0, .cells [iC 6, iC 0, .str [], .own 3 ([r1.1].length), .own 4 u546.2.1.length, .own 5 ((u546.2.2 ++ [r1090.1]).length)], E25.row [r1.1], E45.row u546.2.1, E58.row (u546.2.2 ++ [r1090.1])], [], 1⟩) (fun (r1090 : (List S122) × S65) => (some (.inl ((⟨6, 0, ([] : Bytes), [r1.1], u546.2.1, (u546.2.2 ++ [r1090.1])⟩ : S122), r1090.2)))) (fun r1090 => ?_) (fun hk => ?_)
    ·
     refine Ref.sq ?_
     refine Ref.rn 16 ?_
     refine RefR.e0 (st' := ⟨[sP 4 1 0 0], [E65.o r1090.2, .cells [iC 6, iC 0, .str [], .own 2 ([r1.1].length), .own 3 u546.2.1.length, .own 4 ((u546.2.2 ++ [r1090.1]).length)], E25.row [r1.1], E45.row u546.2.1, E58.row (u546.2.2 ++ [r1090.1])], [], 1⟩) 0 2 2 [4] [0, 1, 3, 4, 5] ?_
     refine RefR.nl 2 ?_
     refine Ref.conv (Conv.freeze (st' := ⟨[sP 4 1 0 0], [E65.o r1090.2, .cells [iC 6, iC 0, .str [], E25.tree [r1.1], .own 3 u546.2.1.length, .own 4 ((u546.2.2 ++ [r1090.1]).length)], .dead, E45.row u546.2.1, E58.row (u546.2.2 ++ [r1090.1])], [], 1⟩) 2 (by kernel_rfl)) ?_
     refine Ref.conv (Conv.freeze (st' := ⟨[sP 4 1 0 0], [E65.o r1090.2, .cells [iC 6, iC 0, .str [], E25.tree [r1.1], E45.tree u546.2.1, .own 4 ((u546.2.2 ++ [r1090.1]).length)], .dead, .dead, E58.row (u546.2.2 ++ [r1090.1])], [], 1⟩) 3 (by kernel_rfl)) ?_
     refine Ref.conv (Conv.freeze (st' := ⟨[sP 4 1 0 0], [E65.o r1090.2, .cells [iC 6, iC 0, .str [], E25.tree [r1.1], E45.tree u546.2.1, E58.tree (u546.2.2 ++ [r1090.1])], .dead, .dead, .dead], [], 1⟩) 4 (by kernel_rfl)) ?_
     refine Ref.conv (Conv.ob 1 (.cells [iC 6, iC 0, .str [], E25.tree [r1.1], E45.tree u546.2.1, NTT122 (u546.2.2 ++ [r1090.1])]) (OLe.cells (All2.cons (CLe.refl _) (All2.cons (CLe.refl _) (All2.cons (CLe.refl _) (All2.cons (CLe.refl _) (All2.cons (CLe.refl _) (All2.cons (NTT122_ge _) (All2.nil))))))))) ?_
     refine Ref.ck ⟨[sP 4 1 0 0], [E65.o r1090.2, .cells [iC 6, iC 0, .str [], E25.tree [r1.1], E45.tree u546.2.1, NTT122 (u546.2.2 ++ [r1090.1])]], [], 1⟩ [4] [0, 1] ?_
     exact Ref.rt (t := ((⟨6, 0, ([] : Bytes), [r1.1], u546.2.1, (u546.2.2 ++ [r1090.1])⟩ : S122), r1090.2))
    ·
     refine RefX.pend0 (fuel' := 5) [[], [(1, 60)]] [(1, 60)] [4, 5, 59, 61, 62] [0, 1, 2, 3, 4, 5] ⟨[sP 4 1 0 0, sP 5 2 0 0, sP 59 2 0 5, (60, .c (.own 5 u546.2.2.length)), sP 61 0 0 0, sI 62 a1], [E65.o u546.1, oX0, .cells [iC 6, iC 0, .str [], .own 3 ([r1.1].length), .own 4 u546.2.1.length, .own 5 u546.2.2.length], E25.row [r1.1], E45.row u546.2.1, E58.row u546.2.2], [], 1⟩ ?_
     refine RefXq.fork1 (fuel' := 4) 4 ?_
     refine RefXqi.callC (t := 63) 4 [0] rfl (by kernel_rfl) (ih141 u546.1 a1 wEND_CASE) (fun r1090 => ?_)
     refine RefXq.fork1 (fuel' := 3) 5 ?_
     refine RefXqi.adds0 (st' := ⟨[sP 4 1 0 0, sP 5 2 0 0, sP 59 2 0 5, (60, .c (.own 5 u546.2.2.length)), (64, .c (.own 6 1))], [E65.o r1090.2, oX0, .cells [iC 6, iC 0, .str [], .own 3 ([r1.1].length), .own 4 u546.2.1.length, .own 5 u546.2.2.length], E25.row [r1.1], E45.row u546.2.1, E58.row u546.2.2, .row 58 1 1 (tbl [[E122.tree r1090.1]])], [], 1⟩) 5 [4, 5, 59, 60, 64] [0, 1, 2, 3, 4, 5, 6] (by kernel_rfl) (by kernel_rfl) ?_
     refine RefXq.conv (Conv2.obj 6 (E58.row [r1090.1]) (El.row_build E58 [r1090.1] rfl (by kernel_rfl)) (by kernel_rfl)) ?_
     refine RefXq.conv (Conv2.slot 64 (.c (.own 6 ([r1090.1].length))) (DLe.c (CLe.own (by simp <;> omega))) (by kernel_rfl)) ?_
     refine RefXq.close ?_
     refine RefX.fork1 (fuel' := 2) 6 (by kernel_rfl) ?_
     refine RefXi.writes (vs := [room ((u546.2.2.length + ([r1090.1].length)) * 24)]) (st' := ⟨[sP 4 1 0 0, sP 5 2 0 0, (65, .c (.own 6 (u546.2.2.length + ([r1090.1].length))))], [E65.o r1090.2, oX0, .cells [iC 6, iC 0, .str [], .own 3 ([r1.1].length), .own 4 u546.2.1.length, .own 5 u546.2.2.length], E25.row [r1.1], E45.row u546.2.1, .dead, .row 58 1 (u546.2.2.length + ([r1090.1].length)) fun i j => bif Nat.blt i u546.2.2.length then E58.at u546.2.2 i j else (E58.at [r1090.1]) (i - u546.2.2.length) j], [], 1⟩) 6 [4, 5, 65] [0, 1, 2, 3, 4, 5, 7] (by kernel_rfl) (by kernel_rfl) ?_
     refine RefX.conv (Conv.ob 6 (E58.row (u546.2.2 ++ [r1090.1])) (El.row_append E58 u546.2.2 [r1090.1] rfl rfl)) ?_
     refine RefX.conv (Conv.sl 65 (.c (.own 6 ((u546.2.2 ++ [r1090.1]).length))) (DLe.c (CLe.own (by simp <;> omega)))) ?_
     refine RefX.v0 (fuel' := 1) [7] [4, 5, 65, 66] [0, 1, 2, 3, 4, 5, 6] ?_
     refine RefX.fork1 (fuel' := 0) 8 (by kernel_rfl) ?_
     refine RefXi.w0 8 [4, 5] [0, 1, 2, 3, 4, 6] ?_
     refine RefX.done (by kernel_rfl) ?_
     refine Ref.ck ⟨[sP 4 1 0 0, sP 5 2 0 0], [E65.o r1090.2, oX0, .cells [iC 6, iC 0, .str [], .own 3 ([r1.1].length), .own 4 u546.2.1.length, .own 5 ((u546.2.2 ++ [r1090.1]).length)], E25.row [r1.1], E45.row u546.2.1, E58.row (u546.2.2 ++ [r1090.1])], [], 1⟩ [4, 5] [0, 1, 2, 3, 4, 5] ?_
     exact hk r1090
  ·
   intro a0 a1
   refine DFun.it Tryz.f132 (fun r => ⟨[sP 4 1 0 0], [E65.o r.2, E122.o r.1], [], 1⟩) ?_
   rw [F132]
   refine Ref.sq ?_
   refine Ref.rn 0 ?_
   refine RefR.e0 (st' := ⟨[sP 0 0 0 0, sI 1 a1, sP 4 1 0 0], [E65.o a0, oX0], [], 1⟩) 0 1 1 [0, 1, 4] [0, 1] ?_
   refine RefR.nl 1 ?_
   refine Ref.sq ?_
   refine Ref.rn 1 ?_
   refine RefR.e1 0 1 1 [0, 1, 4, 7] [0, 1] ?_
   refine RefR.cc 8 1 2 [0] (F72_ok K a0) (fun r1 => ?_)
   refine RefR.e0 (st' := ⟨[sP 0 0 0 0, sI 1 a1, sP 4 1 0 0, sP 5 2 0 0], [E65.o r1.2, oX0, .cells [iC 8, iC 0, .str r1.1, .nil, .nil, .nil]], [], 1⟩) 2 3 5 [0, 1, 4, 5] [0, 1, 2] ?_
   refine RefR.nl 5 ?_
   refine Ref.sq ?_
   refine Ref.rn 2 ?_
   refine RefR.e0 (st' := ⟨[sP 0 0 0 0, sI 1 a1, sP 4 1 0 0, sP 5 2 0 0, sP 10 0 0 0], [E65.o r1.2, oX0, .cells [iC 8, iC 0, .str r1.1, .nil, .nil, .nil]], [], 1⟩) 0 1 1 [0, 1, 4, 5, 10] [0, 1, 2] ?_
   refine RefR.li 11 [] E9 ([[58, 61]] : List Bytes) 1 2 ?_
   refine RefR.cc 12 2 3 [0] (F93_ok K r1.2 ([[58, 61]] : List Bytes)) (fun r2 => ?_)
   refine RefR.nl 3 ?_
   refine Ref.sq ?_
   refine Ref.rn 3 ?_
   refine RefR.e1 0 1 1 [0, 1, 4, 5, 13] [0, 1, 2] ?_
   refine RefR.cc 14 1 2 [0] (F19_ok K r2 1) (fun r3 => ?_)
   refine RefR.e0 (st' := ⟨[sP 0 0 0 0, sI 1 a1, sP 4 1 0 0, sP 5 2 0 0, sP 6 3 0 0], [E65.o r3.2, oX0, .cells [iC 8, iC 0, .str r1.1, .nil, .nil, .nil], E25.o r3.1], [], 1⟩) 2 2 4 [0, 1, 4, 5, 6] [0, 1, 2, 4] ?_
   refine RefR.nl 4 ?_
   refine Ref.sq ?_
   refine Ref.rn 4 ?_
   refine RefR.e0 (st' := ⟨[sP 0 0 0 0, sI 1 a1, sP 4 1 0 0, sP 5 2 0 0, sP 6 3 0 0, sP 15 0 0 0], [E65.o r3.2, oX0, .cells [iC 8, iC 0, .str r1.1, .nil, .nil, .nil], E25.o r3.1], [], 1⟩) 0 1 1 [0, 1, 4, 5, 6, 15] [0, 1, 2, 3] ?_
   refine RefR.li 16 [] E9 ([[84, 79]] : List Bytes) 1 2 ?_
   refine RefR.cc 17 2 3 [0] (F93_ok K r3.2 ([[84, 79]] : List Bytes)) (fun r4 => ?_)
   refine RefR.nl 3 ?_
   refine Ref.sq ?_
   refine Ref.drawnY 5 (by kernel_rfl) (by kernel_rfl) ?_
   refine RefY.evC0 (st' := ⟨[sP 0 0 0 0, sI 1 a1, sP 4 1 0 0, sP 5 2 0 0, sP 6 3 0 0, sP 19 0 0 0], [E65.o r4, oX0, .cells [iC 8, iC 0, .str r1.1, .nil, .nil, .nil], E25.o r3.1], [], 1⟩) (fuel' := 5) [1] [0, 1, 4, 5, 6, 19] [0, 1, 2, 3] rfl (by kernel_rfl) (by kernel_rfl) ?_
   refine RefY.toX [2, 5] ?_
   refine RefX.withK1 (fun (r5 : S25 × S65) => ⟨[sP 0 0 0 0, sI 1 a1, sP 4 1 0 0, sP 5 2 0 0], [E65.o r5.2, oX0, .cells [iC 8, iC 0, .str r1.1, .own 3 ([r3.1, r5.1].length), .nil, .nil], E25.row [r3.1, r5.1]], [], 1⟩) (fun (r5 : S25 × S65) => ((fnS (F93 K r5.2 ([[66, 89]] : List Bytes))).bind (fun r7 => ((fnS (F112 K r7)).bind (fun r8 => ((fnS (F93 K r8.2 ([[68, 79]] : List Bytes))).bind (fun r9 => ((fnS (F97 K r9 (IntKind.i64.wrap (a1 + 1)) ([[69, 78, 68, 95, 70, 79, 82]] : List Bytes))).bind (fun r10 => ((fnS (F93 K r10.2 ([[69, 78, 68, 95, 70, 79, 82]] : List Bytes))).bind (fun r11 => (some (.inl ((⟨8, r8.1, r1.1, [r3.1, r5.1], [], [r10.1]⟩ : S122), r11)))))))))))))) (fun r5 => ?_) (fun hk => ?_)
   ·
    refine Ref.sq ?_
    refine Ref.rn 6 ?_
    refine RefR.e0 (st' := ⟨[sP 0 0 0 0, sI 1 a1, sP 4 1 0 0, sP 5 2 0 0, sP 23 0 0 0], [E65.o r5.2, oX0, .cells [iC 8, iC 0, .str r1.1, .own 3 ([r3.1, r5.1].length), .nil, .nil], E25.row [r3.1, r5.1]], [], 1⟩) 0 1 1 [0, 1, 4, 5, 23] [0, 1, 2, 3] ?_
    refine RefR.li 24 [] E9 ([[66, 89]] : List Bytes) 1 2 ?_
    refine RefR.cc 25 2 3 [0] (F93_ok K r5.2 ([[66, 89]] : List Bytes)) (fun r7 => ?_)
    refine RefR.nl 3 ?_
    refine Ref.sq ?_
    refine Ref.rn 7 ?_
    refine RefR.e1 0 1 1 [0, 1, 4, 5, 26] [0, 1, 2, 3] ?_
    refine RefR.cc 27 1 2 [0] (F112_ok K r7) (fun r8 => ?_)
    refine RefR.e0 (st' := ⟨[sP 0 0 0 0, sI 1 a1, sP 4 1 0 0, sP 5 2 0 0], [E65.o r8.2, oX0, .cells [iC 8, iC r8.1, .str r1.1, .own 3 ([r3.1, r5.1].length), .nil, .nil], E25.row [r3.1, r5.1]], [], 1⟩) 2 2 4 [0, 1, 4, 5] [0, 1, 2, 3] ?_
    refine RefR.nl 4 ?_
    refine Ref.sq ?_
    refine Ref.rn 8 ?_
    refine RefR.e0 (st' := ⟨[sP 0 0 0 0, sI 1 a1, sP 4 1 0 0, sP 5 2 0 0, sP 29 0 0 0], [E65.o r8.2, oX0, .cells [iC 8, iC r8.1, .str r1.1, .own 3 ([r3.1, r5.1].length), .nil, .nil], E25.row [r3.1, r5.1]], [], 1⟩) 0 1 1 [0, 1, 4, 5, 29] [0, 1, 2, 3] ?_
    refine RefR.li 30 [] E9 ([[68, 79]] : List Bytes) 1 2 ?_
    refine RefR.cc 31 2 3 [0] (F93_ok K r8.2 ([[68, 79]] : List Bytes)) (fun r9 => ?_)
    refine RefR.nl 3 ?_
    refine Ref.sq ?_
    refine Ref.rn 9 ?_
    refine RefR.e0 (st' := ⟨[sP 0 0 0 0, sP 4 1 0 0, sP 5 2 0 0, sP 32 0 0 0, sI 34 (IntKind.i64.wrap (a1 + 1))], [E65.o r9, oX0, .cells [iC 8, iC r8.1, .str r1.1, .own 3 ([r3.1, r5.1].length), .nil, .nil], E25.row [r3.1, r5.1]], [], 1⟩) 0 3 3 [0, 4, 5, 32, 34] [0, 1, 2, 3] ?_
    refine RefR.li 35 [] E9 ([[69, 78, 68, 95, 70, 79, 82]] : List Bytes) 3 4 ?_
    refine RefR.cc 36 4 5 [0] (ih97 r9 (IntKind.i64.wrap (a1 + 1)) ([[69, 78, 68, 95, 70, 79, 82]] : List Bytes)) (fun r10 => ?_)
    refine RefR.e0 (st' := ⟨[sP 0 0 0 0, sP 4 1 0 0, sP 5 2 0 0, (37, .c (.own 4 1))], [E65.o r10.2, oX0, .cells [iC 8, iC r8.1, .str r1.1, .own 3 ([r3.1, r5.1].length), .nil, .nil], E25.row [r3.1, r5.1], .row 58 1 1 (tbl [[E122.tree r10.1]])], [], 1⟩) 5 1 6 [0, 4, 5, 37] [0, 1, 2, 3, 5] ?_
    refine RefR.conv (Conv.ob 4 (E58.row [r10.1]) (El.row_build E58 [r10.1] rfl (by kernel_rfl))) ?_
    refine RefR.conv (Conv.sl 37 (.c (.own 4 ([r10.1].length))) (DLe.c (CLe.own (by simp <;> omega)))) ?_
    refine RefR.e0 (st' := ⟨[sP 0 0 0 0, sP 4 1 0 0, sP 5 2 0 0], [E65.o r10.2, oX0, .cells [iC 8, iC r8.1, .str r1.1, .own 3 ([r3.1, r5.1].length), .nil, .own 4 ([r10.1].length)], E25.row [r3.1, r5.1], E58.row [r10.1]], [], 1⟩) 6 2 8 [0, 4, 5] [0, 1, 2, 3, 4] ?_
    refine RefR.nl 8 ?_
    refine Ref.sq ?_
    refine Ref.rn 10 ?_
    refine RefR.e0 (st' := ⟨[sP 4 1 0 0, sP 5 2 0 0, sP 39 0 0 0], [E65.o r10.2, oX0, .cells [iC 8, iC r8.1, .str r1.1, .own 3 ([r3.1, r5.1].length), .nil, .own 4 ([r10.1].length)], E25.row [r3.1, r5.1], E58.row [r10.1]], [], 1⟩) 0 1 1 [4, 5, 39] [0, 1, 2, 3, 4] ?_
    refine RefR.li 40 [] E9 ([[69, 78, 68, 95, 70, 79, 82]] : List Bytes) 1 2 ?_
    refine RefR.cc 41 2 3 [0] (F93_ok K r10.2 ([[69, 78, 68, 95, 70, 79, 82]] : List Bytes)) (fun r11 => ?_)
    refine RefR.nl 3 ?_
    refine Ref.sq ?_
    refine Ref.rn 11 ?_
    refine RefR.e0 (st' := ⟨[sP 4 1 0 0], [E65.o r11, .cells [iC 8, iC r8.1, .str r1.1, .own 2 ([r3.1, r5.1].length), .nil, .own 3 ([r10.1].length)], E25.row [r3.1, r5.1], E58.row [r10.1]], [], 1⟩) 0 2 2 [4] [0, 1, 3, 4] ?_
    refine RefR.nl 2 ?_
    refine Ref.conv (Conv.freeze (st' := ⟨[sP 4 1 0 0], [E65.o r11, .cells [iC 8, iC r8.1, .str r1.1, E25.tree [r3.1, r5.1], .nil, .own 3 ([r10.1].length)], .dead, E58.row [r10.1]], [], 1⟩) 2 (by kernel_rfl)) ?_
    refine Ref.conv (Conv.ob 1 (.cells [iC 8, iC r8.1, .str r1.1, E25.tree [r3.1, r5.1], E45.tree [], .own 3 ([r10.1].length)]) (OLe.cells (All2.cons (CLe.refl _) (All2.cons (CLe.refl _) (All2.cons (CLe.refl _) (All2.cons (CLe.refl _) (All2.cons (El.tree_nil E45) (All2.cons (CLe.refl _) (All2.nil))))))))) ?_
    refine Ref.conv (Conv.freeze (st' := ⟨[sP 4 1 0 0], [E65.o r11, .cells [iC 8, iC r8.1, .str r1.1, E25.tree [r3.1, r5.1], E45.tree [], E58.tree [r10.1]], .dead, .dead], [], 1⟩) 3 (by kernel_rfl)) ?_
    refine Ref.conv (Conv.ob 1 (.cells [iC 8, iC r8.1, .str r1.1, E25.tree [r3.1, r5.1], E45.tree [], NTT122 [r10.1]]) (OLe.cells (All2.cons (CLe.refl _) (All2.cons (CLe.refl _) (All2.cons (CLe.refl _) (All2.cons (CLe.refl _) (All2.cons (CLe.refl _) (All2.cons (NTT122_ge _) (All2.nil))))))))) ?_
    refine Ref.ck ⟨[sP 4 1 0 0], [E65.o r11, .cells [iC 8, iC r8.1, .str r1.1, E25.tree [r3.1, r5.1], E45.tree [], NTT122 [r10.1]]], [], 1⟩ [4] [0, 1] ?_
    exact Ref.rt (t := ((⟨8, r8.1, r1.1, [r3.1, r5.1], [], [r10.1]⟩ : S122), r11))
   ·
    refine RefX.pend0 (fuel' := 4) [[], [(0, 18)]] [(0, 18)] [0, 1, 4, 5, 6, 19] [0, 1, 2, 3] ⟨[sP 0 0 0 0, sI 1 a1, sP 4 1 0 0, sP 5 2 0 0, sP 6 3 0 0, (18, .agg (E25.cs r3.1)), sP 19 0 0 0], [E65.o r4, oX0, .cells [iC 8, iC 0, .str r1.1, .nil, .nil, .nil], E25.o r3.1], [], 1⟩ ?_
    refine RefXq.fork1 (fuel' := 3) 2 ?_
    refine RefXqi.callC (t := 20) 2 [0] rfl (by kernel_rfl) (F19_ok K r4 1) (fun r5 => ?_)
    refine RefXq.close ?_
    refine RefX.madeC0 (st' := ⟨[sP 0 0 0 0, sI 1 a1, sP 4 1 0 0, sP 5 2 0 0, (21, .c (.own 3 2))], [E65.o r5.2, oX0, .cells [iC 8, iC 0, .str r1.1, .nil, .nil, .nil], .row 25 5 2 (tbl [(E25.cs r3.1), (E25.cs r5.1)])], [], 1⟩) (fuel' := 2) 3 [0, 1, 4, 5, 21] [0, 1, 2, 5] rfl (by kernel_rfl) (by kernel_rfl) ?_
    refine RefX.conv (Conv.ob 3 (E25.row [r3.1, r5.1]) (El.row_build E25 [r3.1, r5.1] rfl (by kernel_rfl))) ?_
    refine RefX.conv (Conv.sl 21 (.c (.own 3 ([r3.1, r5.1].length))) (DLe.c (CLe.own (by simp <;> omega)))) ?_
    refine RefX.v0 (fuel' := 1) [4] [0, 1, 4, 5, 21, 22] [0, 1, 2, 3] ?_
    refine RefX.fork1 (fuel' := 0) 5 (by kernel_rfl) ?_
    refine RefXi.w0 5 [0, 1, 4, 5] [0, 1, 2, 3] ?_
    refine RefX.done (by kernel_rfl) ?_
    refine Ref.ck ⟨[sP 0 0 0 0, sI 1 a1, sP 4 1 0 0, sP 5 2 0 0], [E65.o r5.2, oX0, .cells [iC 8, iC 0, .str r1.1, .own 3 ([r3.1, r5.1].length), .nil, .nil], E25.row [r3.1, r5.1]], [], 1⟩ [0, 1, 4, 5] [0, 1, 2, 3] ?_
    exact hk r5
  ·
   intro a0 a1 a2
   refine DFun.it Tryz.f141 (fun r => ⟨[(6, .c (E122.tree r.1))], [E65.o r.2], [], 1⟩) ?_
   rw [F141]
   refine Ref.sq ?_
   refine Ref.rn 0 ?_
   refine RefR.e0 (st' := ⟨[sP 0 0 0 0, sI 1 a1, sS 2 a2], [E65.o a0], [], 1⟩) 0 1 1 [0, 1, 2] [0] ?_
   refine RefR.nl 1 ?_
   refine Ref.sq ?_
   refine Ref.rn 1 ?_
   refine RefR.e0 (st' := ⟨[sP 0 0 0 0, sI 1 a1, sS 2 a2, (7, .c (.nil))], [E65.o a0], [], 1⟩) 0 1 1 [0, 1, 2, 7] [0] ?_
   refine RefR.nl 1 ?_
   refine Ref.sq ?_
   refine Ref.sq ?_
   refine Ref.rn 2 ?_
   refine RefR.e1 0 1 1 [0, 1, 2, 7, 8] [0] ?_
   refine RefR.cc 9 1 2 [0] (F39_ok K a0 wELSE) (fun r1 => ?_)
   refine RefR.nl 2 ?_
   refine Ref.bind (go1 := fun u3 => ⟨[sP 0 0 0 0, sS 2 a2, (7, .c (E122.tree u3.2))], [E65.o u3.1], [], 1⟩) ?_ (fun u3 => ?_)
   ·
    refine Ref.cn (.tmp 9) r1.1 (fun hc => ?_) (fun hc => ?_)
    ·
     refine Ref.rn 3 ?_
     refine RefR.e0 (st' := ⟨[sP 0 0 0 0, sS 2 a2, sP 10 0 0 0, sI 12 (IntKind.i64.wrap (a1 + 1)), sS 13 a2], [E65.o r1.2], [], 1⟩) 0 4 4 [0, 2, 10, 12, 13] [0] ?_
     refine RefR.e0 (st' := ⟨[sP 0 0 0 0, sS 2 a2, sP 10 0 0 0, sI 12 (IntKind.i64.wrap (a1 + 1)), (14, .c (.own 1 1))], [E65.o r1.2, .row 9 1 1 (tbl [[.str a2]])], [], 1⟩) 4 1 5 [0, 2, 10, 12, 14] [0, 1] ?_
     refine RefR.conv (Conv.ob 1 (E9.row [a2]) (El.row_build E9 [a2] rfl (by kernel_rfl))) ?_
     refine RefR.conv (Conv.sl 14 (.c (.own 1 ([a2].length))) (DLe.c (CLe.own (by simp <;> omega)))) ?_
     refine RefR.conv (Conv.freeze (st' := ⟨[(14, .c (E9.tree [a2])), sP 0 0 0 0, sS 2 a2, sP 10 0 0 0, sI 12 (IntKind.i64.wrap (a1 + 1))], [E65.o r1.2, .dead], [], 1⟩) 1 (by kernel_rfl)) ?_
     refine RefR.cc 15 5 6 [0] (ih97 r1.2 (IntKind.i64.wrap (a1 + 1)) [a2]) (fun r4 => ?_)
     refine RefR.e0 (st' := ⟨[sP 0 0 0 0, sS 2 a2, (7, .c (E122.tree r4.1))], [E65.o r4.2], [], 1⟩) 6 1 7 [0, 2, 7] [0] ?_
     refine RefR.nl 7 ?_
     exact Ref.n0 (t := (r4.2, r4.1))
    ·
     refine Ref.sk ?_
     refine Ref.conv (Conv.sl 7 (.c (E122.tree [])) (DLe.c (El.tree_nil E122))) ?_
     refine Ref.ck ⟨[sP 0 0 0 0, sS 2 a2, (7, .c (E122.tree []))], [E65.o r1.2], [], 1⟩ [0, 2, 7] [0] ?_
     exact Ref.n0 (t := (r1.2, []))
   ·
    refine Ref.sq ?_
    refine Ref.rn 4 ?_
    refine RefR.e0 (st' := ⟨[(7, .c (E122.tree u3.2)), sP 16 0 0 0, sS 17 a2], [E65.o u3.1], [], 1⟩) 0 2 2 [7, 16, 17] [0] ?_
    refine RefR.e0 (st' := ⟨[(7, .c (E122.tree u3.2)), sP 16 0 0 0, (18, .c (.own 1 1))], [E65.o u3.1, .row 9 1 1 (tbl [[.str a2]])], [], 1⟩) 2 1 3 [7, 16, 18] [0, 1] ?_
    refine RefR.conv (Conv.ob 1 (E9.row [a2]) (El.row_build E9 [a2] rfl (by kernel_rfl))) ?_
    refine RefR.conv (Conv.sl 18 (.c (.own 1 ([a2].length))) (DLe.c (CLe.own (by simp <;> omega)))) ?_
    refine RefR.conv (Conv.freeze (st' := ⟨[(18, .c (E9.tree [a2])), (7, .c (E122.tree u3.2)), sP 16 0 0 0], [E65.o u3.1, .dead], [], 1⟩) 1 (by kernel_rfl)) ?_
    refine RefR.cc 19 3 4 [0] (F93_ok K u3.1 [a2]) (fun r5 => ?_)
    refine RefR.nl 4 ?_
    refine Ref.sq ?_
    refine Ref.rn 5 ?_
    refine RefR.e0 (st' := ⟨[(6, .c (E122.tree u3.2))], [E65.o r5], [], 1⟩) 0 2 2 [6] [0] ?_
    refine RefR.nl 2 ?_
    exact Ref.rt (t := (u3.2, r5))
theorem F97_ok (K : Nat) (a0 : S65) (a1 : Int) (a2 : (List Bytes)) : DFun Tryz.prog 97 [.c (.ptr 0 0 0), .c (.val (.int .i64 a1)), .c (E9.tree a2)] [E65.o a0] (fnS (F97 K a0 a1 a2)) (fun r => .c (E122.tree r.1)) (fun r => [E65.o r.2]) := (G97_ok K).1 a0 a1 a2
end Go.Proofs.YtphnfaabcnciiaaGreatDoor
