/- Plain functions, and that the Go functions do what these do: printed by gen2.py. No conditions. -/
import Derived.Test.YtphnfaabcnciiaaGreatDoorGb
import Derived.Test.YtphnfaabcnciiaaGreatDoorProg
set_option linter.unusedVariables false
set_option linter.unusedSimpArgs false
set_option linter.unusedSectionVars false
namespace Go.Proofs.YtphnfaabcnciiaaGreatDoor
open Go Go.Proofs Go.Dl
variable [WInv]
set_option maxRecDepth 100000
set_option maxHeartbeats 4000000
def F111 (K : Nat) (a0 : S65) : Option ((S91 × S65) ⊕ (S91 × S65)) :=
 none
theorem F111_ok (K : Nat) (a0 : S65) : DFun Tryz.prog 111 [.c (.ptr 0 0 0)] [E65.o a0] (fnS (F111 K a0)) (fun r => .agg (E91.cs r.1)) (fun r => [E65.o r.2, .cells (E91.cs r.1)]) := DFun.none rfl
def F129 (K : Nat) (a0 : S65) : Option ((S122 × S65) ⊕ (S122 × S65)) :=
 ((fnS (F72 K a0)).bind (fun r1 => (bindS (blockS ((fnS (F39 K r1.2 ([58, 61] : Bytes))).bind (fun r14 => (if r14.1 = true then ((fnS (F19 K r14.2 1)).bind (fun r15 => (some (.inl (Sum.inr ((⟨1, 0, r1.1, [r15.1], [], []⟩ : S122), r15.2)))))) else ((fnS (F39 K r14.2 ([63, 61] : Bytes))).bind (fun r16 => (if r16.1 = true then ((fnS (F19 K r16.2 1)).bind (fun r17 => (some (.inl (Sum.inr ((⟨3, 0, r1.1, [r17.1], [], []⟩ : S122), r17.2)))))) else ((fnS (F39 K r16.2 ([91] : Bytes))).bind (fun r18 => (if r18.1 = true then ((fnS (F19 K r18.2 1)).bind (fun r19 => ((fnS (F93 K r19.2 ([[93], [58, 61]] : List Bytes))).bind (fun r20 => ((fnS (F19 K r20 1)).bind (fun r21 => (some (.inl (Sum.inr ((⟨2, 0, r1.1, [r19.1, r21.1], [], []⟩ : S122), r21.2)))))))))) else ((condM true (fnS (F29 K r18.2 ([[46]] : List Bytes))) default).bind (fun r23 => (if r23 = true then ((fnS (F75 K r18.2 (⟨13, 0, r1.1, ([] : Bytes), []⟩ : S25) 1)).bind (fun r24 => (some (.inl (Sum.inr ((⟨4, 0, ([] : Bytes), [r24.1], [], []⟩ : S122), r24.2)))))) else (some (.inr (r18.2)))))))))))))))) (fun (u13 : S65) => ((fnS (F20 K u13 3)).bind (fun r25 => (some (.inl ((⟨0, 0, ([] : Bytes), [], [], []⟩ : S122), r25)))))))))
theorem F129_ok (K : Nat) (a0 : S65) : DFun Tryz.prog 129 [.c (.ptr 0 0 0)] [E65.o a0] (fnS (F129 K a0)) (fun r => .agg (E122.cs r.1)) (fun r => [E65.o r.2, E122.o r.1]) := by
 refine DFun.it Tryz.f129 (fun r => ⟨[sP 2 1 0 0], [E65.o r.2, E122.o r.1], [], 1⟩) ?_
 unfold F129
 refine Ref.sq ?_
 refine Ref.rn 0 ?_
 refine RefR.e0 (st' := ⟨[sP 0 0 0 0, sP 2 1 0 0], [E65.o a0, oX1], [], 1⟩) 0 1 1 [0, 2] [0, 1] ?_
 refine RefR.nl 1 ?_
 refine Ref.sq ?_
 refine Ref.rn 1 ?_
 refine RefR.e1 0 1 1 [0, 2, 5] [0, 1] ?_
 refine RefR.cc 6 1 2 [0] (F72_ok K a0) (fun r1 => ?_)
 refine RefR.e0 (st' := ⟨[sP 0 0 0 0, sP 2 1 0 0, sS 3 r1.1], [E65.o r1.2, oX1], [], 1⟩) 2 1 3 [0, 2, 3] [0, 1] ?_
 refine RefR.nl 3 ?_
 refine Ref.sq ?_
 refine Ref.ce (.block 0 (cd (bd Tryz.f129) [1, 1, 0, 0])) ?_
 refine Ref.block (go1 := fun u13 => ⟨[sP 0 0 0 0, sP 2 1 0 0], [E65.o u13, oX1], [], 1⟩) ?_ (fun _ h => by cases h) (fun u13 => ?_)
 ·
  refine Ref.sq ?_
  refine Ref.rn 2 ?_
  refine RefR.e1 0 1 1 [0, 2, 3, 8] [0, 1] ?_
  refine RefR.cc 9 1 2 [0] (F39_ok K r1.2 ([58, 61] : Bytes)) (fun r14 => ?_)
  refine RefR.e0 (st' := ⟨[sP 0 0 0 0, sP 2 1 0 0, sS 3 r1.1, sB 7 r14.1], [E65.o r14.2, oX1], [], 1⟩) 2 1 3 [0, 2, 3, 7] [0, 1] ?_
  refine RefR.nl 3 ?_
  refine Ref.cn (.tmp 7) r14.1 (fun hc => ?_) (fun hc => ?_)
  ·
   refine Ref.sq ?_
   refine Ref.rn 3 ?_
   refine RefR.e1 0 2 2 [2, 10, 11] [0, 1] ?_
   refine RefR.cc 12 2 3 [0] (F19_ok K r14.2 1) (fun r15 => ?_)
   refine RefR.e0 (st' := ⟨[sP 2 1 0 0, sS 10 r1.1, (13, .c (.own 2 1))], [E65.o r15.2, oX1, .row 25 5 1 (tbl [(E25.cs r15.1)])], [], 1⟩) 3 1 4 [2, 10, 13] [0, 1, 3] ?_
   refine RefR.conv (Conv.ob 2 (E25.row [r15.1]) (El.row_build E25 [r15.1] rfl (by kernel_rfl))) ?_
   refine RefR.conv (Conv.sl 13 (.c (.own 2 ([r15.1].length))) (DLe.c (CLe.own (by simp <;> omega)))) ?_
   refine RefR.e0 (st' := ⟨[sP 2 1 0 0], [E65.o r15.2, .cells [iC 1, iC 0, .str r1.1, .own 2 ([r15.1].length), .nil, .nil], E25.row [r15.1]], [], 1⟩) 4 2 6 [2] [0, 1, 2] ?_
   refine RefR.nl 6 ?_
   refine Ref.conv (Conv.freeze (st' := ⟨[sP 2 1 0 0], [E65.o r15.2, .cells [iC 1, iC 0, .str r1.1, E25.tree [r15.1], .nil, .nil], .dead], [], 1⟩) 2 (by kernel_rfl)) ?_
   refine Ref.conv (Conv.ob 1 (.cells [iC 1, iC 0, .str r1.1, E25.tree [r15.1], E45.tree [], .nil]) (OLe.cells (All2.cons (CLe.refl _) (All2.cons (CLe.refl _) (All2.cons (CLe.refl _) (All2.cons (CLe.refl _) (All2.cons (El.tree_nil E45) (All2.cons (CLe.refl _) (All2.nil))))))))) ?_
   refine Ref.conv (Conv.ob 1 (.cells [iC 1, iC 0, .str r1.1, E25.tree [r15.1], E45.tree [], E58.tree []]) (OLe.cells (All2.cons (CLe.refl _) (All2.cons (CLe.refl _) (All2.cons (CLe.refl _) (All2.cons (CLe.refl _) (All2.cons (CLe.refl _) (All2.cons (El.tree_nil E58) (All2.nil))))))))) ?_
   refine Ref.conv (Conv.ob 1 (.cells [iC 1, iC 0, .str r1.1, E25.tree [r15.1], E45.tree [], NTT122 []]) (OLe.cells (All2.cons (CLe.refl _) (All2.cons (CLe.refl _) (All2.cons (CLe.refl _) (All2.cons (CLe.refl _) (All2.cons (CLe.refl _) (All2.cons (NTT122_ge _) (All2.nil))))))))) ?_
   refine Ref.ck ⟨[sP 2 1 0 0], [E65.o r15.2, .cells [iC 1, iC 0, .str r1.1, E25.tree [r15.1], E45.tree [], NTT122 []]], [], 1⟩ [2] [0, 1] ?_
   exact Ref.rt (t := (Sum.inr ((⟨1, 0, r1.1, [r15.1], [], []⟩ : S122), r15.2)))
  ·
   refine Ref.sq ?_
   refine Ref.rn 4 ?_
   refine RefR.e1 0 1 1 [0, 2, 3, 16] [0, 1] ?_
   refine RefR.cc 17 1 2 [0] (F39_ok K r14.2 ([63, 61] : Bytes)) (fun r16 => ?_)
   refine RefR.e0 (st' := ⟨[sP 0 0 0 0, sP 2 1 0 0, sS 3 r1.1, sB 15 r16.1], [E65.o r16.2, oX1], [], 1⟩) 2 1 3 [0, 2, 3, 15] [0, 1] ?_
   refine RefR.nl 3 ?_
   refine Ref.cn (.tmp 15) r16.1 (fun hc => ?_) (fun hc => ?_)
   ·
    refine Ref.sq ?_
    refine Ref.rn 5 ?_
    refine RefR.e1 0 2 2 [2, 18, 19] [0, 1] ?_
    refine RefR.cc 20 2 3 [0] (F19_ok K r16.2 1) (fun r17 => ?_)
    refine RefR.e0 (st' := ⟨[sP 2 1 0 0, sS 18 r1.1, (21, .c (.own 2 1))], [E65.o r17.2, oX1, .row 25 5 1 (tbl [(E25.cs r17.1)])], [], 1⟩) 3 1 4 [2, 18, 21] [0, 1, 3] ?_
    refine RefR.conv (Conv.ob 2 (E25.row [r17.1]) (El.row_build E25 [r17.1] rfl (by kernel_rfl))) ?_
    refine RefR.conv (Conv.sl 21 (.c (.own 2 ([r17.1].length))) (DLe.c (CLe.own (by simp <;> omega)))) ?_
    refine RefR.e0 (st' := ⟨[sP 2 1 0 0], [E65.o r17.2, .cells [iC 3, iC 0, .str r1.1, .own 2 ([r17.1].length), .nil, .nil], E25.row [r17.1]], [], 1⟩) 4 2 6 [2] [0, 1, 2] ?_
    refine RefR.nl 6 ?_
    refine Ref.conv (Conv.freeze (st' := ⟨[sP 2 1 0 0], [E65.o r17.2, .cells [iC 3, iC 0, .str r1.1, E25.tree [r17.1], .nil, .nil], .dead], [], 1⟩) 2 (by kernel_rfl)) ?_
    refine Ref.conv (Conv.ob 1 (.cells [iC 3, iC 0, .str r1.1, E25.tree [r17.1], E45.tree [], .nil]) (OLe.cells (All2.cons (CLe.refl _) (All2.cons (CLe.refl _) (All2.cons (CLe.refl _) (All2.cons (CLe.refl _) (All2.cons (El.tree_nil E45) (All2.cons (CLe.refl _) (All2.nil))))))))) ?_
    refine Ref.conv (Conv.ob 1 (.cells [iC 3, iC 0, .str r1.1, E25.tree [r17.1], E45.tree [], E58.tree []]) (OLe.cells (All2.cons (CLe.refl _) (All2.cons (CLe.refl _) (All2.cons (CLe.refl _) (All2.cons (CLe.refl _) (All2.cons (CLe.refl _) (All2.cons (El.tree_nil E58) (All2.nil))))))))) ?_
    refine Ref.conv (Conv.ob 1 (.cells [iC 3, iC 0, .str r1.1, E25.tree [r17.1], E45.tree [], NTT122 []]) (OLe.cells (All2.cons (CLe.refl _) (All2.cons (CLe.refl _) (All2.cons (CLe.refl _) (All2.cons (CLe.refl _) (All2.cons (CLe.refl _) (All2.cons (NTT122_ge _) (All2.nil))))))))) ?_
    refine Ref.ck ⟨[sP 2 1 0 0], [E65.o r17.2, .cells [iC 3, iC 0, .str r1.1, E25.tree [r17.1], E45.tree [], NTT122 []]], [], 1⟩ [2] [0, 1] ?_
    exact Ref.rt (t := (Sum.inr ((⟨3, 0, r1.1, [r17.1], [], []⟩ : S122), r17.2)))
   ·
    refine Ref.sq ?_
    refine Ref.rn 6 ?_
    refine RefR.e1 0 1 1 [0, 2, 3, 24] [0, 1] ?_
    refine RefR.cc 25 1 2 [0] (F39_ok K r16.2 ([91] : Bytes)) (fun r18 => ?_)
    refine RefR.e0 (st' := ⟨[sP 0 0 0 0, sP 2 1 0 0, sS 3 r1.1, sB 23 r18.1], [E65.o r18.2, oX1], [], 1⟩) 2 1 3 [0, 2, 3, 23] [0, 1] ?_
    refine RefR.nl 3 ?_
    refine Ref.cn (.tmp 23) r18.1 (fun hc => ?_) (fun hc => ?_)
    ·
     refine Ref.sq ?_
     refine Ref.rn 7 ?_
     refine RefR.e1 0 1 1 [0, 2, 3, 26] [0, 1] ?_
     refine RefR.cc 27 1 2 [0] (F19_ok K r18.2 1) (fun r19 => ?_)
     refine RefR.e0 (st' := ⟨[sP 0 0 0 0, sP 2 1 0 0, sS 3 r1.1, sP 4 2 0 0], [E65.o r19.2, oX1, E25.o r19.1], [], 1⟩) 2 2 4 [0, 2, 3, 4] [0, 1, 3] ?_
     refine RefR.nl 4 ?_
     refine Ref.sq ?_
     refine Ref.rn 8 ?_
     refine RefR.e0 (st' := ⟨[sP 0 0 0 0, sP 2 1 0 0, sS 3 r1.1, sP 4 2 0 0, sP 28 0 0 0], [E65.o r19.2, oX1, E25.o r19.1], [], 1⟩) 0 1 1 [0, 2, 3, 4, 28] [0, 1, 2] ?_
     refine RefR.li 29 [] E9 ([[93], [58, 61]] : List Bytes) 1 2 ?_
     refine RefR.cc 30 2 3 [0] (F93_ok K r19.2 ([[93], [58, 61]] : List Bytes)) (fun r20 => ?_)
     refine RefR.nl 3 ?_
     refine Ref.sq ?_
     refine Ref.drawnY 9 (by kernel_rfl) (by kernel_rfl) ?_
     refine RefY.evC0 (st' := ⟨[sP 2 1 0 0, sP 4 2 0 0, sS 31 r1.1, sP 33 0 0 0], [E65.o r20, oX1, E25.o r19.1], [], 1⟩) (fuel' := 5) [0, 2] [2, 4, 31, 33] [0, 1, 2] rfl (by kernel_rfl) (by kernel_rfl) ?_
     refine RefY.toX [3, 6] ?_
     refine RefX.withK1 (fun (r21 : S25 × S65) => ⟨[sP 2 1 0 0], [E65.o r21.2, .cells [iC 2, iC 0, .str r1.1, .own 2 ([r19.1, r21.1].length), .nil, .nil], E25.row [r19.1, r21.1]], [], 1⟩) (fun (r21 : S25 × S65) => (some (.inl (Sum.inr ((⟨2, 0, r1.1, [r19.1, r21.1], [], []⟩ : S122), r21.2))))) (fun r21 => ?_) (fun hk => ?_)
     ·
      refine Ref.conv (Conv.freeze (st' := ⟨[sP 2 1 0 0], [E65.o r21.2, .cells [iC 2, iC 0, .str r1.1, E25.tree [r19.1, r21.1], .nil, .nil], .dead], [], 1⟩) 2 (by kernel_rfl)) ?_
      refine Ref.conv (Conv.ob 1 (.cells [iC 2, iC 0, .str r1.1, E25.tree [r19.1, r21.1], E45.tree [], .nil]) (OLe.cells (All2.cons (CLe.refl _) (All2.cons (CLe.refl _) (All2.cons (CLe.refl _) (All2.cons (CLe.refl _) (All2.cons (El.tree_nil E45) (All2.cons (CLe.refl _) (All2.nil))))))))) ?_
      refine Ref.conv (Conv.ob 1 (.cells [iC 2, iC 0, .str r1.1, E25.tree [r19.1, r21.1], E45.tree [], E58.tree []]) (OLe.cells (All2.cons (CLe.refl _) (All2.cons (CLe.refl _) (All2.cons (CLe.refl _) (All2.cons (CLe.refl _) (All2.cons (CLe.refl _) (All2.cons (El.tree_nil E58) (All2.nil))))))))) ?_
      refine Ref.conv (Conv.ob 1 (.cells [iC 2, iC 0, .str r1.1, E25.tree [r19.1, r21.1], E45.tree [], NTT122 []]) (OLe.cells (All2.cons (CLe.refl _) (All2.cons (CLe.refl _) (All2.cons (CLe.refl _) (All2.cons (CLe.refl _) (All2.cons (CLe.refl _) (All2.cons (NTT122_ge _) (All2.nil))))))))) ?_
      refine Ref.ck ⟨[sP 2 1 0 0], [E65.o r21.2, .cells [iC 2, iC 0, .str r1.1, E25.tree [r19.1, r21.1], E45.tree [], NTT122 []]], [], 1⟩ [2] [0, 1] ?_
      exact Ref.rt (t := (Sum.inr ((⟨2, 0, r1.1, [r19.1, r21.1], [], []⟩ : S122), r21.2)))
     ·
      refine RefX.pend0 (fuel' := 4) [[], [(1, 32)]] [(1, 32)] [2, 4, 31, 33] [0, 1, 2] ⟨[sP 2 1 0 0, sP 4 2 0 0, sS 31 r1.1, (32, .agg (E25.cs r19.1)), sP 33 0 0 0], [E65.o r20, oX1, E25.o r19.1], [], 1⟩ ?_
      refine RefXq.fork1 (fuel' := 3) 3 ?_
      refine RefXqi.callC (t := 34) 3 [0] rfl (by kernel_rfl) (F19_ok K r20 1) (fun r21 => ?_)
      refine RefXq.close ?_
      refine RefX.madeC0 (st' := ⟨[sP 2 1 0 0, sS 31 r1.1, (35, .c (.own 2 2))], [E65.o r21.2, oX1, .row 25 5 2 (tbl [(E25.cs r19.1), (E25.cs r21.1)])], [], 1⟩) (fuel' := 2) 4 [2, 31, 35] [0, 1, 4] rfl (by kernel_rfl) (by kernel_rfl) ?_
      refine RefX.conv (Conv.ob 2 (E25.row [r19.1, r21.1]) (El.row_build E25 [r19.1, r21.1] rfl (by kernel_rfl))) ?_
      refine RefX.conv (Conv.sl 35 (.c (.own 2 ([r19.1, r21.1].length))) (DLe.c (CLe.own (by simp <;> omega)))) ?_
      refine RefX.v0 (fuel' := 1) [5] [2, 36] [0, 1, 2] ?_
      refine RefX.fork1 (fuel' := 0) 6 (by kernel_rfl) ?_
      refine RefXi.w0 6 [2] [0, 1, 2] ?_
      refine RefX.done (by kernel_rfl) ?_
      refine Ref.ck ⟨[sP 2 1 0 0], [E65.o r21.2, .cells [iC 2, iC 0, .str r1.1, .own 2 ([r19.1, r21.1].length), .nil, .nil], E25.row [r19.1, r21.1]], [], 1⟩ [2] [0, 1, 2] ?_
      exact hk r21
    ·
     refine Ref.sq ?_
     refine Ref.rn 10 ?_
     refine RefR.e0 (st' := ⟨[sP 0 0 0 0, sP 2 1 0 0, sS 3 r1.1, sP 38 0 0 0], [E65.o r18.2, oX1], [], 1⟩) 0 1 1 [0, 2, 3, 38] [0, 1] ?_
     refine RefR.li 39 [] E9 ([[46]] : List Bytes) 1 2 ?_
     refine RefR.lookC (t := 40) (g := []) (b := true) 2 3 [0] (default : Bool) rfl (by kernel_rfl) (F29_ok K r18.2 ([[46]] : List Bytes)) (fun _ => rfl) (fun r23 => ?_)
     refine RefR.e0 (st' := ⟨[sP 0 0 0 0, sP 2 1 0 0, sS 3 r1.1, sB 37 r23], [E65.o r18.2, oX1], [], 1⟩) 3 1 4 [0, 2, 3, 37] [0, 1] ?_
     refine RefR.nl 4 ?_
     refine Ref.cn (.tmp 37) r23 (fun hc => ?_) (fun hc => ?_)
     ·
      refine Ref.sq ?_
      refine Ref.rn 11 ?_
      refine RefR.e1 0 3 3 [2, 41, 43] [0, 1] ?_
      refine RefR.cc 44 3 4 [0] (F75_ok K r18.2 (⟨13, 0, r1.1, ([] : Bytes), []⟩ : S25) 1) (fun r24 => ?_)
      refine RefR.e0 (st' := ⟨[sP 2 1 0 0, (45, .c (.own 2 1))], [E65.o r24.2, oX1, .row 25 5 1 (tbl [(E25.cs r24.1)])], [], 1⟩) 4 1 5 [2, 45] [0, 1, 3] ?_
      refine RefR.conv (Conv.ob 2 (E25.row [r24.1]) (El.row_build E25 [r24.1] rfl (by kernel_rfl))) ?_
      refine RefR.conv (Conv.sl 45 (.c (.own 2 ([r24.1].length))) (DLe.c (CLe.own (by simp <;> omega)))) ?_
      refine RefR.e0 (st' := ⟨[sP 2 1 0 0], [E65.o r24.2, .cells [iC 4, iC 0, .str [], .own 2 ([r24.1].length), .nil, .nil], E25.row [r24.1]], [], 1⟩) 5 2 7 [2] [0, 1, 2] ?_
      refine RefR.nl 7 ?_
      refine Ref.conv (Conv.freeze (st' := ⟨[sP 2 1 0 0], [E65.o r24.2, .cells [iC 4, iC 0, .str [], E25.tree [r24.1], .nil, .nil], .dead], [], 1⟩) 2 (by kernel_rfl)) ?_
      refine Ref.conv (Conv.ob 1 (.cells [iC 4, iC 0, .str [], E25.tree [r24.1], E45.tree [], .nil]) (OLe.cells (All2.cons (CLe.refl _) (All2.cons (CLe.refl _) (All2.cons (CLe.refl _) (All2.cons (CLe.refl _) (All2.cons (El.tree_nil E45) (All2.cons (CLe.refl _) (All2.nil))))))))) ?_
      refine Ref.conv (Conv.ob 1 (.cells [iC 4, iC 0, .str [], E25.tree [r24.1], E45.tree [], E58.tree []]) (OLe.cells (All2.cons (CLe.refl _) (All2.cons (CLe.refl _) (All2.cons (CLe.refl _) (All2.cons (CLe.refl _) (All2.cons (CLe.refl _) (All2.cons (El.tree_nil E58) (All2.nil))))))))) ?_
      refine Ref.conv (Conv.ob 1 (.cells [iC 4, iC 0, .str [], E25.tree [r24.1], E45.tree [], NTT122 []]) (OLe.cells (All2.cons (CLe.refl _) (All2.cons (CLe.refl _) (All2.cons (CLe.refl _) (All2.cons (CLe.refl _) (All2.cons (CLe.refl _) (All2.cons (NTT122_ge _) (All2.nil))))))))) ?_
      refine Ref.ck ⟨[sP 2 1 0 0], [E65.o r24.2, .cells [iC 4, iC 0, .str [], E25.tree [r24.1], E45.tree [], NTT122 []]], [], 1⟩ [2] [0, 1] ?_
      exact Ref.rt (t := (Sum.inr ((⟨4, 0, ([] : Bytes), [r24.1], [], []⟩ : S122), r24.2)))
     ·
      refine Ref.sk ?_
      refine Ref.ck ⟨[sP 0 0 0 0, sP 2 1 0 0], [E65.o r18.2, oX1], [], 1⟩ [0, 2] [0, 1] ?_
      exact Ref.n0 (t := (r18.2))
 ·
  refine Ref.sq ?_
  refine Ref.rn 12 ?_
  refine RefR.e1 0 1 1 [2, 47] [0, 1] ?_
  refine RefR.cc 48 1 2 [0] (F20_ok K u13 3) (fun r25 => ?_)
  refine RefR.nl 2 ?_
  refine Ref.sq ?_
  refine Ref.rn 13 ?_
  refine RefR.e0 (st' := ⟨[sP 2 1 0 0], [E65.o r25, oX1], [], 1⟩) 0 2 2 [2] [0, 1] ?_
  refine RefR.nl 2 ?_
  refine Ref.conv (Conv.ob 1 (.cells [iC 0, iC 0, .str [], E25.tree [], .nil, .nil]) (OLe.cells (All2.cons (CLe.refl _) (All2.cons (CLe.refl _) (All2.cons (CLe.refl _) (All2.cons (El.tree_nil E25) (All2.cons (CLe.refl _) (All2.cons (CLe.refl _) (All2.nil))))))))) ?_
  refine Ref.conv (Conv.ob 1 (.cells [iC 0, iC 0, .str [], E25.tree [], E45.tree [], .nil]) (OLe.cells (All2.cons (CLe.refl _) (All2.cons (CLe.refl _) (All2.cons (CLe.refl _) (All2.cons (CLe.refl _) (All2.cons (El.tree_nil E45) (All2.cons (CLe.refl _) (All2.nil))))))))) ?_
  refine Ref.conv (Conv.ob 1 (oX5) (OLe.cells (All2.cons (CLe.refl _) (All2.cons (CLe.refl _) (All2.cons (CLe.refl _) (All2.cons (CLe.refl _) (All2.cons (CLe.refl _) (All2.cons (El.tree_nil E58) (All2.nil))))))))) ?_
  refine Ref.conv (Conv.ob 1 (.cells [iC 0, iC 0, .str [], E25.tree [], E45.tree [], NTT122 []]) (OLe.cells (All2.cons (CLe.refl _) (All2.cons (CLe.refl _) (All2.cons (CLe.refl _) (All2.cons (CLe.refl _) (All2.cons (CLe.refl _) (All2.cons (NTT122_ge _) (All2.nil))))))))) ?_
  exact Ref.rt (t := ((⟨0, 0, ([] : Bytes), [], [], []⟩ : S122), r25))
def F130 (K : Nat) (a0 : S65) (a1 : Int) : Option ((S122 × S65) ⊕ (S122 × S65)) :=
 none
theorem F130_ok (K : Nat) (a0 : S65) (a1 : Int) : DFun Tryz.prog 130 [.c (.ptr 0 0 0), .c (.val (.int .i64 a1))] [E65.o a0] (fnS (F130 K a0 a1)) (fun r => .agg (E122.cs r.1)) (fun r => [E65.o r.2, E122.o r.1]) := DFun.none rfl
def F131 (K : Nat) (a0 : S65) (a1 : Int) : Option ((S122 × S65) ⊕ (S122 × S65)) :=
 none
theorem F131_ok (K : Nat) (a0 : S65) (a1 : Int) : DFun Tryz.prog 131 [.c (.ptr 0 0 0), .c (.val (.int .i64 a1))] [E65.o a0] (fnS (F131 K a0 a1)) (fun r => .agg (E122.cs r.1)) (fun r => [E65.o r.2, E122.o r.1]) := DFun.none rfl
def F132 (K : Nat) (a0 : S65) (a1 : Int) : Option ((S122 × S65) ⊕ (S122 × S65)) :=
 none
theorem F132_ok (K : Nat) (a0 : S65) (a1 : Int) : DFun Tryz.prog 132 [.c (.ptr 0 0 0), .c (.val (.int .i64 a1))] [E65.o a0] (fnS (F132 K a0 a1)) (fun r => .agg (E122.cs r.1)) (fun r => [E65.o r.2, E122.o r.1]) := DFun.none rfl
mutual
def F97 : (K : Nat) → (S65) → (Int) → ((List Bytes)) → Option (((List S122) × S65) ⊕ ((List S122) × S65))
 | 0, _, _, _ => none
 | K + 1, a0, a1, a2 =>
 ((condM true (fnS (F113 K a0)) default).bind (fun r1 => ((condM (!r1) (fnS (F29 K a0 a2)) default).bind (fun r2 => ((condM (!(r1 || r2)) (fnS (F60 K a2 ([48] : Bytes))) default).bind (fun r3 => ((condM (r3 && (!(r1 || r2))) (fnS (F114 K a0)) default).bind (fun r4 => (bindS (if ((r1 || r2) || (r3 && r4)) = true then ((fnS (F38 K a0 a1)).bind (fun r7 => (some (.inr (r7))))) else (some (.inr (a0)))) (fun (u6 : S65) => (bindS (blockS ((iter K (fun (u37 : S65 × (List S122)) => ((condM true (fnS (F113 K u37.1)) default).bind (fun r45 => (if r45 = true then (bindS (blockS ((fnS (F30 K u37.1 (Int.ofNat u37.2.length) 24)).bind (fun r49 => ((fnS (F115 K r49 a1)).bind (fun r50 => (chk [room ((u37.2.length + ([r50.1].length)) * 104)] (some (.inr (r50.2, (u37.2 ++ [r50.1])))))))))) (fun (u48 : S65 × (List S122)) => (some (.inr (u48.1, u48.2))))) else (some (.inl (Sum.inl (u37.1, u37.2)))))))) (u6, [])).map .inl)) (fun (u29 : S65 × (List S122)) => (some (.inl (u29.2, u29.1)))))))))))))))
def F115 : (K : Nat) → (S65) → (Int) → Option ((S122 × S65) ⊕ (S122 × S65))
 | 0, _, _ => none
 | K + 1, a0, a1 =>
 (bindS (blockS ((condM true (fnS (F69 K a0 1)) default).bind (fun r29 => (if r29 = true then ((fnS (F129 K a0)).bind (fun r30 => (some (.inr (r30.2, r30.1.fKind, r30.1.fN, r30.1.fName, r30.1.fExprs, r30.1.fLabels, r30.1.fBlocks))))) else ((condM true (fnS (F29 K a0 ([[84, 72, 73, 83], [83, 85, 80, 69, 82]] : List Bytes))) default).bind (fun r31 => (if r31 = true then ((fnS (F74 K a0 1)).bind (fun r32 => (some (.inr (r32.2, 4, 0, ([] : Bytes), [r32.1], [], []))))) else ((fnS (F39 K a0 ([73, 70] : Bytes))).bind (fun r33 => (if r33.1 = true then ((fnS (F130 K r33.2 a1)).bind (fun r34 => (some (.inr (r34.2, r34.1.fKind, r34.1.fN, r34.1.fName, r34.1.fExprs, r34.1.fLabels, r34.1.fBlocks))))) else ((fnS (F39 K r33.2 ([67, 65, 83, 69] : Bytes))).bind (fun r35 => (if r35.1 = true then ((fnS (F131 K r35.2 a1)).bind (fun r36 => (some (.inr (r36.2, r36.1.fKind, r36.1.fN, r36.1.fName, r36.1.fExprs, r36.1.fLabels, r36.1.fBlocks))))) else ((fnS (F39 K r35.2 ([87, 72, 73, 76, 69] : Bytes))).bind (fun r37 => (if r37.1 = true then ((fnS (F19 K r37.2 1)).bind (fun r38 => ((fnS (F93 K r38.2 ([[68, 79]] : List Bytes))).bind (fun r39 => ((fnS (F97 K r39 (IntKind.i64.wrap (a1 + 1)) ([[69, 78, 68, 95, 87, 72, 73, 76, 69]] : List Bytes))).bind (fun r40 => ((fnS (F93 K r40.2 ([[69, 78, 68, 95, 87, 72, 73, 76, 69]] : List Bytes))).bind (fun r41 => (some (.inr (r41, 7, 0, ([] : Bytes), [r38.1], [], [r40.1]))))))))))) else ((fnS (F39 K r37.2 ([70, 79, 82] : Bytes))).bind (fun r42 => (if r42.1 = true then ((fnS (F132 K r42.2 a1)).bind (fun r43 => (some (.inr (r43.2, r43.1.fKind, r43.1.fN, r43.1.fName, r43.1.fExprs, r43.1.fLabels, r43.1.fBlocks))))) else ((fnS (F39 K r42.2 ([82, 69, 84, 85, 82, 78] : Bytes))).bind (fun r44 => (if r44.1 = true then ((condM true (fnS (F29 K r44.2 ([[59]] : List Bytes))) default).bind (fun r45 => (if (!r45) = true then ((fnS (F19 K r44.2 1)).bind (fun r46 => (some (.inr (r46.2, 9, 0, ([] : Bytes), [r46.1], [], []))))) else (some (.inr (r44.2, 9, 0, ([] : Bytes), [], [], [])))))) else ((fnS (F39 K r44.2 ([69, 88, 73, 84] : Bytes))).bind (fun r47 => (if r47.1 = true then (some (.inr (r47.2, 10, 0, ([] : Bytes), [], [], []))) else ((fnS (F39 K r47.2 ([83, 84, 69, 80] : Bytes))).bind (fun r48 => (if r48.1 = true then ((fnS (F72 K r48.2)).bind (fun r49 => ((fnS (F93 K r49.2 ([[40]] : List Bytes))).bind (fun r50 => ((fnS (F19 K r50 1)).bind (fun r51 => ((fnS (F93 K r51.2 ([[44]] : List Bytes))).bind (fun r52 => ((fnS (F19 K r52 1)).bind (fun r53 => ((fnS (F93 K r53.2 ([[41]] : List Bytes))).bind (fun r55 => (some (.inr (r55, 11, 0, r49.1, [r51.1, r53.1], [], []))))))))))))))) else (some (.inr (r48.2, 0, 0, ([] : Bytes), [], [], []))))))))))))))))))))))))))))))) (fun (u28 : S65 × Int × Int × Bytes × (List S25) × (List (List Int)) × (List (List S122))) => ((fnS (F93 K u28.1 ([[59]] : List Bytes))).bind (fun r56 => (some (.inl ((⟨u28.2.1, u28.2.2.1, u28.2.2.2.1, u28.2.2.2.2.1, u28.2.2.2.2.2.1, u28.2.2.2.2.2.2⟩ : S122), r56)))))))
end
theorem G97_ok : ∀ K : Nat, (∀ (a0 : S65), ∀ (a1 : Int), ∀ (a2 : (List Bytes)), DFun Tryz.prog 97 [.c (.ptr 0 0 0), .c (.val (.int .i64 a1)), .c (E9.tree a2)] [E65.o a0] (fnS (F97 K a0 a1 a2)) (fun r => .c (E122.tree r.1)) (fun r => [E65.o r.2])) ∧ (∀ (a0 : S65), ∀ (a1 : Int), DFun Tryz.prog 115 [.c (.ptr 0 0 0), .c (.val (.int .i64 a1))] [E65.o a0] (fnS (F115 K a0 a1)) (fun r => .agg (E122.cs r.1)) (fun r => [E65.o r.2, E122.o r.1])) := by
 intro K
 induction K with
 | zero => exact ⟨fun a0 a1 a2 => DFun.none (by rw [F97]; rfl), fun a0 a1 => DFun.none (by rw [F115]; rfl)⟩
 | succ K ih =>
  obtain ⟨ih97, ih115⟩ := ih
  refine ⟨?_, ?_⟩
  ·
   intro a0 a1 a2
   refine DFun.it Tryz.f97 (fun r => ⟨[(6, .c (E122.tree r.1))], [E65.o r.2], [], 1⟩) ?_
   rw [F97]
   refine Ref.sq ?_
   refine Ref.rn 0 ?_
   refine RefR.e0 (st' := ⟨[sP 0 0 0 0, sI 1 a1, (2, .c (E9.tree a2))], [E65.o a0], [], 1⟩) 0 1 1 [0, 1, 2] [0] ?_
   refine RefR.nl 1 ?_
   refine Ref.sq ?_
   refine Ref.sq ?_
   refine Ref.rn 1 ?_
   refine RefR.e1 0 1 1 [0, 1, 2, 8] [0] ?_
   refine RefR.lookC (t := 9) (g := []) (b := true) 1 2 [0] (default : Bool) rfl (by kernel_rfl) (F113_ok K a0) (fun _ => rfl) (fun r1 => ?_)
   refine RefR.e1 2 3 5 [0, 1, 2, 10, 11, 12] [0] ?_
   refine RefR.lookC (t := 13) (g := [(10, false)]) (b := (!r1)) 5 6 [0] (default : Bool) rfl (by kernel_rfl) (F29_ok K a0 a2) (fun _ => rfl) (fun r2 => ?_)
   refine RefR.e1 6 3 9 [0, 1, 15, 16] [0] ?_
   refine RefR.lookC (t := 17) (g := [(15, false)]) (b := (!(r1 || r2))) 9 10 [] (default : Bool) rfl (by kernel_rfl) (F60_ok K a2 ([48] : Bytes)) (fun _ => rfl) (fun r3 => ?_)
   refine RefR.e1 10 2 12 [0, 1, 15, 18, 19] [0] ?_
   refine RefR.lookC (t := 20) (g := [(18, true), (15, false)]) (b := (r3 && (!(r1 || r2)))) 12 13 [0] (default : Bool) rfl (by kernel_rfl) (F114_ok K a0) (fun _ => rfl) (fun r4 => ?_)
   refine RefR.e0 (st' := ⟨[sP 0 0 0 0, sI 1 a1, sB 22 ((r1 || r2) || (r3 && r4))], [E65.o a0], [], 1⟩) 13 2 15 [0, 1, 22] [0] ?_
   refine RefR.nl 15 ?_
   refine Ref.bind (go1 := fun u6 => ⟨[sP 0 0 0 0, sI 1 a1], [E65.o u6], [], 1⟩) ?_ (fun u6 => ?_)
   ·
    refine Ref.cn (.tmp 22) ((r1 || r2) || (r3 && r4)) (fun hc => ?_) (fun hc => ?_)
    ·
     refine Ref.rn 2 ?_
     refine RefR.e1 0 2 2 [0, 1, 23, 24] [0] ?_
     refine RefR.cc 25 2 3 [0] (F38_ok K a0 a1) (fun r7 => ?_)
     refine RefR.nl 3 ?_
     refine Ref.ck ⟨[sP 0 0 0 0, sI 1 a1], [E65.o r7], [], 1⟩ [0, 1] [0] ?_
     exact Ref.n0 (t := (r7))
    ·
     refine Ref.sk ?_
     refine Ref.ck ⟨[sP 0 0 0 0, sI 1 a1], [E65.o a0], [], 1⟩ [0, 1] [0] ?_
     exact Ref.n0 (t := (a0))
   ·
    refine Ref.sq ?_
    refine Ref.rn 3 ?_
    refine RefR.e0 (st' := ⟨[sP 0 0 0 0, sI 1 a1, (7, .c (.nil))], [E65.o u6], [], 1⟩) 0 1 1 [0, 1, 7] [0] ?_
    refine RefR.nl 1 ?_
    refine Ref.sq ?_
    refine Ref.ce (.block 0 (cd (bd Tryz.f97) [1, 1, 1, 0, 0])) ?_
    refine Ref.block (go1 := fun u29 => ⟨[(7, .c (.own 1 u29.2.length))], [E65.o u29.1, E122.row u29.2], [], 1⟩) ?_ (fun _ h => by cases h) (fun u29 => ?_)
    ·
     refine Ref.ce (.loop (cd (bd Tryz.f97) [1, 1, 1, 0, 0, 0])) ?_
     refine Ref.conv (Conv.adopt 7 E122.ty E122.w (E122.at []) (by kernel_rfl) (by kernel_rfl) (by kernel_rfl)) ?_
     refine Ref.ck ⟨[sP 0 0 0 0, sI 1 a1, (7, .c (.own 1 0))], [E65.o u6, E122.row []], [], 1⟩ [0, 1, 7] [0, 1] ?_
     refine Ref.loop (hd := fun u37 => ⟨[sP 0 0 0 0, sI 1 a1, (7, .c (.own 1 u37.2.length))], [E65.o u37.1, E122.row u37.2], [], 1⟩) K (u6, []) (by kernel_rfl) (fun u37 => ?_)
     refine Ref.sq ?_
     refine Ref.sq ?_
     refine Ref.rn 4 ?_
     refine RefR.e1 0 1 1 [0, 1, 7, 26] [0, 1] ?_
     refine RefR.lookC (t := 27) (g := []) (b := true) 1 2 [0] (default : Bool) rfl (by kernel_rfl) (F113_ok K u37.1) (fun _ => rfl) (fun r45 => ?_)
     refine RefR.nl 2 ?_
     refine Ref.cn (.tmp 27) r45 (fun hc => ?_) (fun hc => ?_)
     ·
      refine Ref.sk ?_
      refine Ref.ce (.block 1 (cd (bd Tryz.f97) [1, 1, 1, 0, 0, 0, 1, 0])) ?_
      refine Ref.block (go1 := fun u48 => ⟨[sP 0 0 0 0, sI 1 a1, (7, .c (.own 1 u48.2.length))], [E65.o u48.1, E122.row u48.2], [], 1⟩) ?_ (fun a => match a with | .inl _ => (fun h => by cases h) | .inr _ => (fun h => by cases h)) (fun u48 => ?_)
      ·
       refine Ref.sq ?_
       refine Ref.rn 5 ?_
       refine RefR.e1 0 3 3 [0, 1, 7, 28, 30] [0, 1] ?_
       refine RefR.cc 31 3 4 [0] (F30_ok K u37.1 (Int.ofNat u37.2.length) 24) (fun r49 => ?_)
       refine RefR.nl 4 ?_
       refine Ref.rn 6 ?_
       refine RefR.e1 0 3 3 [0, 1, 32, 33, 34] [0, 1] ?_
       refine RefR.cc 35 3 4 [0] (ih115 r49 a1) (fun r50 => ?_)
       refine RefR.e0 (st' := ⟨[sP 0 0 0 0, sI 1 a1, (32, .c (.own 1 u37.2.length)), (36, .c (.own 2 1))], [E65.o r50.2, E122.row u37.2, .row 122 6 1 (tbl [(E122.cs r50.1)])], [], 1⟩) 4 1 5 [0, 1, 32, 36] [0, 1, 3] ?_
       refine RefR.conv (Conv.ob 2 (E122.row [r50.1]) (El.row_build E122 [r50.1] rfl (by kernel_rfl))) ?_
       refine RefR.conv (Conv.sl 36 (.c (.own 2 ([r50.1].length))) (DLe.c (CLe.own (by simp <;> omega)))) ?_
       refine RefR.evC (vs := [room ((u37.2.length + ([r50.1].length)) * 104)]) (st' := ⟨[sP 0 0 0 0, sI 1 a1, (37, .c (.own 1 (u37.2.length + ([r50.1].length))))], [E65.o r50.2, .row 122 6 (u37.2.length + ([r50.1].length)) fun i j => bif Nat.blt i u37.2.length then E122.at u37.2 i j else (E122.at [r50.1]) (i - u37.2.length) j], [], 1⟩) 5 1 6 [0, 1, 37] [0, 3] rfl (by kernel_rfl) ?_
       refine RefR.conv (Conv.ob 1 (E122.row (u37.2 ++ [r50.1])) (El.row_append E122 u37.2 [r50.1] rfl rfl)) ?_
       refine RefR.conv (Conv.sl 37 (.c (.own 1 ((u37.2 ++ [r50.1]).length))) (DLe.c (CLe.own (by simp <;> omega)))) ?_
       refine RefR.e0 (st' := ⟨[sP 0 0 0 0, sI 1 a1, (7, .c (.own 1 ((u37.2 ++ [r50.1]).length)))], [E65.o r50.2, E122.row (u37.2 ++ [r50.1])], [], 1⟩) 6 1 7 [0, 1, 7] [0, 1] ?_
       refine RefR.nl 7 ?_
       exact Ref.n0 (t := (r50.2, (u37.2 ++ [r50.1])))
      ·
       exact Ref.n0 (t := (u48.1, u48.2))
     ·
      refine Ref.ck ⟨[(7, .c (.own 1 u37.2.length))], [E65.o u37.1, E122.row u37.2], [], 1⟩ [7] [0, 1] ?_
      exact Ref.xt 0 (t := (Sum.inl (u37.1, u37.2)))
    ·
     refine Ref.sq ?_
     refine Ref.rn 7 ?_
     refine RefR.e0 (st' := ⟨[(6, .c (.own 1 u29.2.length))], [E65.o u29.1, E122.row u29.2], [], 1⟩) 0 2 2 [6] [0, 1] ?_
     refine RefR.nl 2 ?_
     refine Ref.conv (Conv.freeze (st' := ⟨[(6, .c (E122.tree u29.2))], [E65.o u29.1, .dead], [], 1⟩) 1 (by kernel_rfl)) ?_
     refine Ref.ck ⟨[(6, .c (E122.tree u29.2))], [E65.o u29.1], [], 1⟩ [6] [0] ?_
     exact Ref.rt (t := (u29.2, u29.1))
  ·
   intro a0 a1
   refine DFun.it Tryz.f115 (fun r => ⟨[sP 4 1 0 0], [E65.o r.2, E122.o r.1], [], 1⟩) ?_
   rw [F115]
   refine Ref.sq ?_
   refine Ref.rn 0 ?_
   refine RefR.e0 (st' := ⟨[sP 0 0 0 0, sI 1 a1, sP 4 1 0 0], [E65.o a0, oX1], [], 1⟩) 0 1 1 [0, 1, 4] [0, 1] ?_
   refine RefR.nl 1 ?_
   refine Ref.sq ?_
   refine Ref.rn 1 ?_
   refine RefR.e0 (st' := ⟨[sP 0 0 0 0, sI 1 a1, sP 4 1 0 0, sP 5 2 0 0], [E65.o a0, oX1, oX1], [], 1⟩) 0 1 1 [0, 1, 4, 5] [0, 1, 2] ?_
   refine RefR.nl 1 ?_
   refine Ref.sq ?_
   refine Ref.ce (.block 0 (cd (bd Tryz.f115) [1, 1, 0, 0])) ?_
   refine Ref.block (go1 := fun u28 => ⟨[sP 0 0 0 0, sP 4 1 0 0, sP 5 2 0 0], [E65.o u28.1, oX1, .cells [iC u28.2.1, iC u28.2.2.1, .str u28.2.2.2.1, E25.tree u28.2.2.2.2.1, E45.tree u28.2.2.2.2.2.1, E58.tree u28.2.2.2.2.2.2]], [], 1⟩) ?_ (fun _ h => by cases h) (fun u28 => ?_)
   ·
    refine Ref.sq ?_
    refine Ref.rn 2 ?_
    refine RefR.e1 0 1 1 [0, 1, 4, 5, 8] [0, 1, 2] ?_
    refine RefR.lookC (t := 9) (g := []) (b := true) 1 2 [0] (default : Bool) rfl (by kernel_rfl) (F69_ok K a0 1) (fun _ => rfl) (fun r29 => ?_)
    refine RefR.e0 (st' := ⟨[sP 0 0 0 0, sI 1 a1, sP 4 1 0 0, sP 5 2 0 0, sB 7 r29], [E65.o a0, oX1, oX1], [], 1⟩) 2 1 3 [0, 1, 4, 5, 7] [0, 1, 2] ?_
    refine RefR.nl 3 ?_
    refine Ref.cn (.tmp 7) r29 (fun hc => ?_) (fun hc => ?_)
    ·
     refine Ref.rn 3 ?_
     refine RefR.e1 0 1 1 [0, 4, 5, 10] [0, 1, 2] ?_
     refine RefR.cc 11 1 2 [0] (F129_ok K a0) (fun r30 => ?_)
     refine RefR.e0 (st' := ⟨[sP 0 0 0 0, sP 4 1 0 0, sP 5 2 0 0], [E65.o r30.2, oX1, E122.o r30.1], [], 1⟩) 2 1 3 [0, 4, 5] [0, 1, 2] ?_
     refine RefR.nl 3 ?_
     refine Ref.conv (Conv.ob 2 (.cells [iC r30.1.fKind, iC r30.1.fN, .str r30.1.fName, E25.tree r30.1.fExprs, E45.tree r30.1.fLabels, E58.tree r30.1.fBlocks]) (OLe.cells (All2.cons (CLe.refl _) (All2.cons (CLe.refl _) (All2.cons (CLe.refl _) (All2.cons (CLe.refl _) (All2.cons (CLe.refl _) (All2.cons (NTT122_le _) (All2.nil))))))))) ?_
     exact Ref.n0 (t := (r30.2, r30.1.fKind, r30.1.fN, r30.1.fName, r30.1.fExprs, r30.1.fLabels, r30.1.fBlocks))
    ·
     refine Ref.sq ?_
     refine Ref.rn 4 ?_
     refine RefR.e0 (st' := ⟨[sP 0 0 0 0, sI 1 a1, sP 4 1 0 0, sP 5 2 0 0, sP 13 0 0 0], [E65.o a0, oX1, oX1], [], 1⟩) 0 1 1 [0, 1, 4, 5, 13] [0, 1, 2] ?_
     refine RefR.li 14 [] E9 ([[84, 72, 73, 83], [83, 85, 80, 69, 82]] : List Bytes) 1 2 ?_
     refine RefR.lookC (t := 15) (g := []) (b := true) 2 3 [0] (default : Bool) rfl (by kernel_rfl) (F29_ok K a0 ([[84, 72, 73, 83], [83, 85, 80, 69, 82]] : List Bytes)) (fun _ => rfl) (fun r31 => ?_)
     refine RefR.e0 (st' := ⟨[sP 0 0 0 0, sI 1 a1, sP 4 1 0 0, sP 5 2 0 0, sB 12 r31], [E65.o a0, oX1, oX1], [], 1⟩) 3 1 4 [0, 1, 4, 5, 12] [0, 1, 2] ?_
     refine RefR.nl 4 ?_
     refine Ref.cn (.tmp 12) r31 (fun hc => ?_) (fun hc => ?_)
     ·
      refine Ref.rn 5 ?_
      refine RefR.e1 0 1 1 [0, 4, 5, 16] [0, 1, 2] ?_
      refine RefR.cc 17 1 2 [0] (F74_ok K a0 1) (fun r32 => ?_)
      refine RefR.e0 (st' := ⟨[sP 0 0 0 0, sP 4 1 0 0, sP 5 2 0 0, (18, .c (.own 3 1))], [E65.o r32.2, oX1, oX1, .row 25 5 1 (tbl [(E25.cs r32.1)])], [], 1⟩) 2 1 3 [0, 4, 5, 18] [0, 1, 2, 4] ?_
      refine RefR.conv (Conv.ob 3 (E25.row [r32.1]) (El.row_build E25 [r32.1] rfl (by kernel_rfl))) ?_
      refine RefR.conv (Conv.sl 18 (.c (.own 3 ([r32.1].length))) (DLe.c (CLe.own (by simp <;> omega)))) ?_
      refine RefR.e0 (st' := ⟨[sP 0 0 0 0, sP 4 1 0 0, sP 5 2 0 0], [E65.o r32.2, oX1, .cells [iC 4, iC 0, .str [], .own 3 ([r32.1].length), .nil, .nil], E25.row [r32.1]], [], 1⟩) 3 2 5 [0, 4, 5] [0, 1, 2, 3] ?_
      refine RefR.nl 5 ?_
      refine Ref.conv (Conv.freeze (st' := ⟨[sP 0 0 0 0, sP 4 1 0 0, sP 5 2 0 0], [E65.o r32.2, oX1, .cells [iC 4, iC 0, .str [], E25.tree [r32.1], .nil, .nil], .dead], [], 1⟩) 3 (by kernel_rfl)) ?_
      refine Ref.conv (Conv.ob 2 (.cells [iC 4, iC 0, .str [], E25.tree [r32.1], E45.tree [], .nil]) (OLe.cells (All2.cons (CLe.refl _) (All2.cons (CLe.refl _) (All2.cons (CLe.refl _) (All2.cons (CLe.refl _) (All2.cons (El.tree_nil E45) (All2.cons (CLe.refl _) (All2.nil))))))))) ?_
      refine Ref.conv (Conv.ob 2 (.cells [iC 4, iC 0, .str [], E25.tree [r32.1], E45.tree [], E58.tree []]) (OLe.cells (All2.cons (CLe.refl _) (All2.cons (CLe.refl _) (All2.cons (CLe.refl _) (All2.cons (CLe.refl _) (All2.cons (CLe.refl _) (All2.cons (El.tree_nil E58) (All2.nil))))))))) ?_
      refine Ref.ck ⟨[sP 0 0 0 0, sP 4 1 0 0, sP 5 2 0 0], [E65.o r32.2, oX1, .cells [iC 4, iC 0, .str [], E25.tree [r32.1], E45.tree [], E58.tree []]], [], 1⟩ [0, 4, 5] [0, 1, 2] ?_
      exact Ref.n0 (t := (r32.2, 4, 0, ([] : Bytes), [r32.1], [], []))
     ·
      refine Ref.sq ?_
      refine Ref.rn 6 ?_
      refine RefR.e1 0 1 1 [0, 1, 4, 5, 21] [0, 1, 2] ?_
      refine RefR.cc 22 1 2 [0] (F39_ok K a0 ([73, 70] : Bytes)) (fun r33 => ?_)
      refine RefR.e0 (st' := ⟨[sP 0 0 0 0, sI 1 a1, sP 4 1 0 0, sP 5 2 0 0, sB 20 r33.1], [E65.o r33.2, oX1, oX1], [], 1⟩) 2 1 3 [0, 1, 4, 5, 20] [0, 1, 2] ?_
      refine RefR.nl 3 ?_
      refine Ref.cn (.tmp 20) r33.1 (fun hc => ?_) (fun hc => ?_)
      ·
       refine Ref.rn 7 ?_
       refine RefR.e1 0 2 2 [0, 4, 5, 23, 24] [0, 1, 2] ?_
       refine RefR.cc 25 2 3 [0] (F130_ok K r33.2 a1) (fun r34 => ?_)
       refine RefR.e0 (st' := ⟨[sP 0 0 0 0, sP 4 1 0 0, sP 5 2 0 0], [E65.o r34.2, oX1, E122.o r34.1], [], 1⟩) 3 1 4 [0, 4, 5] [0, 1, 2] ?_
       refine RefR.nl 4 ?_
       refine Ref.conv (Conv.ob 2 (.cells [iC r34.1.fKind, iC r34.1.fN, .str r34.1.fName, E25.tree r34.1.fExprs, E45.tree r34.1.fLabels, E58.tree r34.1.fBlocks]) (OLe.cells (All2.cons (CLe.refl _) (All2.cons (CLe.refl _) (All2.cons (CLe.refl _) (All2.cons (CLe.refl _) (All2.cons (CLe.refl _) (All2.cons (NTT122_le _) (All2.nil))))))))) ?_
       exact Ref.n0 (t := (r34.2, r34.1.fKind, r34.1.fN, r34.1.fName, r34.1.fExprs, r34.1.fLabels, r34.1.fBlocks))
      ·
       refine Ref.sq ?_
       refine Ref.rn 8 ?_
       refine RefR.e1 0 1 1 [0, 1, 4, 5, 27] [0, 1, 2] ?_
       refine RefR.cc 28 1 2 [0] (F39_ok K r33.2 ([67, 65, 83, 69] : Bytes)) (fun r35 => ?_)
       refine RefR.e0 (st' := ⟨[sP 0 0 0 0, sI 1 a1, sP 4 1 0 0, sP 5 2 0 0, sB 26 r35.1], [E65.o r35.2, oX1, oX1], [], 1⟩) 2 1 3 [0, 1, 4, 5, 26] [0, 1, 2] ?_
       refine RefR.nl 3 ?_
       refine Ref.cn (.tmp 26) r35.1 (fun hc => ?_) (fun hc => ?_)
       ·
        refine Ref.rn 9 ?_
        refine RefR.e1 0 2 2 [0, 4, 5, 29, 30] [0, 1, 2] ?_
        refine RefR.cc 31 2 3 [0] (F131_ok K r35.2 a1) (fun r36 => ?_)
        refine RefR.e0 (st' := ⟨[sP 0 0 0 0, sP 4 1 0 0, sP 5 2 0 0], [E65.o r36.2, oX1, E122.o r36.1], [], 1⟩) 3 1 4 [0, 4, 5] [0, 1, 2] ?_
        refine RefR.nl 4 ?_
        refine Ref.conv (Conv.ob 2 (.cells [iC r36.1.fKind, iC r36.1.fN, .str r36.1.fName, E25.tree r36.1.fExprs, E45.tree r36.1.fLabels, E58.tree r36.1.fBlocks]) (OLe.cells (All2.cons (CLe.refl _) (All2.cons (CLe.refl _) (All2.cons (CLe.refl _) (All2.cons (CLe.refl _) (All2.cons (CLe.refl _) (All2.cons (NTT122_le _) (All2.nil))))))))) ?_
        exact Ref.n0 (t := (r36.2, r36.1.fKind, r36.1.fN, r36.1.fName, r36.1.fExprs, r36.1.fLabels, r36.1.fBlocks))
       ·
        refine Ref.sq ?_
        refine Ref.rn 10 ?_
        refine RefR.e1 0 1 1 [0, 1, 4, 5, 33] [0, 1, 2] ?_
        refine RefR.cc 34 1 2 [0] (F39_ok K r35.2 ([87, 72, 73, 76, 69] : Bytes)) (fun r37 => ?_)
        refine RefR.e0 (st' := ⟨[sP 0 0 0 0, sI 1 a1, sP 4 1 0 0, sP 5 2 0 0, sB 32 r37.1], [E65.o r37.2, oX1, oX1], [], 1⟩) 2 1 3 [0, 1, 4, 5, 32] [0, 1, 2] ?_
        refine RefR.nl 3 ?_
        refine Ref.cn (.tmp 32) r37.1 (fun hc => ?_) (fun hc => ?_)
        ·
         refine Ref.sq ?_
         refine Ref.rn 11 ?_
         refine RefR.e1 0 1 1 [0, 1, 4, 5, 35] [0, 1, 2] ?_
         refine RefR.cc 36 1 2 [0] (F19_ok K r37.2 1) (fun r38 => ?_)
         refine RefR.e0 (st' := ⟨[sP 0 0 0 0, sI 1 a1, sP 4 1 0 0, sP 5 2 0 0, (37, .c (.own 3 1))], [E65.o r38.2, oX1, oX1, .row 25 5 1 (tbl [(E25.cs r38.1)])], [], 1⟩) 2 1 3 [0, 1, 4, 5, 37] [0, 1, 2, 4] ?_
         refine RefR.conv (Conv.ob 3 (E25.row [r38.1]) (El.row_build E25 [r38.1] rfl (by kernel_rfl))) ?_
         refine RefR.conv (Conv.sl 37 (.c (.own 3 ([r38.1].length))) (DLe.c (CLe.own (by simp <;> omega)))) ?_
         refine RefR.e0 (st' := ⟨[sP 0 0 0 0, sI 1 a1, sP 4 1 0 0, sP 5 2 0 0], [E65.o r38.2, oX1, .cells [iC 7, iC 0, .str [], .own 3 ([r38.1].length), .nil, .nil], E25.row [r38.1]], [], 1⟩) 3 2 5 [0, 1, 4, 5] [0, 1, 2, 3] ?_
         refine RefR.nl 5 ?_
         refine Ref.sq ?_
         refine Ref.rn 12 ?_
         refine RefR.e0 (st' := ⟨[sP 0 0 0 0, sI 1 a1, sP 4 1 0 0, sP 5 2 0 0, sP 39 0 0 0], [E65.o r38.2, oX1, .cells [iC 7, iC 0, .str [], .own 3 ([r38.1].length), .nil, .nil], E25.row [r38.1]], [], 1⟩) 0 1 1 [0, 1, 4, 5, 39] [0, 1, 2, 3] ?_
         refine RefR.li 40 [] E9 ([[68, 79]] : List Bytes) 1 2 ?_
         refine RefR.cc 41 2 3 [0] (F93_ok K r38.2 ([[68, 79]] : List Bytes)) (fun r39 => ?_)
         refine RefR.nl 3 ?_
         refine Ref.sq ?_
         refine Ref.rn 13 ?_
         refine RefR.e0 (st' := ⟨[sP 0 0 0 0, sP 4 1 0 0, sP 5 2 0 0, sP 42 0 0 0, sI 44 (IntKind.i64.wrap (a1 + 1))], [E65.o r39, oX1, .cells [iC 7, iC 0, .str [], .own 3 ([r38.1].length), .nil, .nil], E25.row [r38.1]], [], 1⟩) 0 3 3 [0, 4, 5, 42, 44] [0, 1, 2, 3] ?_
         refine RefR.li 45 [] E9 ([[69, 78, 68, 95, 87, 72, 73, 76, 69]] : List Bytes) 3 4 ?_
         refine RefR.cc 46 4 5 [0] (ih97 r39 (IntKind.i64.wrap (a1 + 1)) ([[69, 78, 68, 95, 87, 72, 73, 76, 69]] : List Bytes)) (fun r40 => ?_)
         refine RefR.e0 (st' := ⟨[sP 0 0 0 0, sP 4 1 0 0, sP 5 2 0 0, (47, .c (.own 4 1))], [E65.o r40.2, oX1, .cells [iC 7, iC 0, .str [], .own 3 ([r38.1].length), .nil, .nil], E25.row [r38.1], .row 58 1 1 (tbl [[E122.tree r40.1]])], [], 1⟩) 5 1 6 [0, 4, 5, 47] [0, 1, 2, 3, 5] ?_
         refine RefR.conv (Conv.ob 4 (E58.row [r40.1]) (El.row_build E58 [r40.1] rfl (by kernel_rfl))) ?_
         refine RefR.conv (Conv.sl 47 (.c (.own 4 ([r40.1].length))) (DLe.c (CLe.own (by simp <;> omega)))) ?_
         refine RefR.e0 (st' := ⟨[sP 0 0 0 0, sP 4 1 0 0, sP 5 2 0 0], [E65.o r40.2, oX1, .cells [iC 7, iC 0, .str [], .own 3 ([r38.1].length), .nil, .own 4 ([r40.1].length)], E25.row [r38.1], E58.row [r40.1]], [], 1⟩) 6 2 8 [0, 4, 5] [0, 1, 2, 3, 4] ?_
         refine RefR.nl 8 ?_
         refine Ref.rn 14 ?_
         refine RefR.e0 (st' := ⟨[sP 0 0 0 0, sP 4 1 0 0, sP 5 2 0 0, sP 49 0 0 0], [E65.o r40.2, oX1, .cells [iC 7, iC 0, .str [], .own 3 ([r38.1].length), .nil, .own 4 ([r40.1].length)], E25.row [r38.1], E58.row [r40.1]], [], 1⟩) 0 1 1 [0, 4, 5, 49] [0, 1, 2, 3, 4] ?_
         refine RefR.li 50 [] E9 ([[69, 78, 68, 95, 87, 72, 73, 76, 69]] : List Bytes) 1 2 ?_
         refine RefR.cc 51 2 3 [0] (F93_ok K r40.2 ([[69, 78, 68, 95, 87, 72, 73, 76, 69]] : List Bytes)) (fun r41 => ?_)
         refine RefR.nl 3 ?_
         refine Ref.conv (Conv.freeze (st' := ⟨[(51, .tup []), (50, .c (E9.tree ([[69, 78, 68, 95, 87, 72, 73, 76, 69]] : List Bytes))), sP 0 0 0 0, sP 4 1 0 0, sP 5 2 0 0, sP 49 0 0 0], [E65.o r41, oX1, .cells [iC 7, iC 0, .str [], E25.tree [r38.1], .nil, .own 4 ([r40.1].length)], .dead, E58.row [r40.1], .dead], [], 1⟩) 3 (by kernel_rfl)) ?_
         refine Ref.conv (Conv.ob 2 (.cells [iC 7, iC 0, .str [], E25.tree [r38.1], E45.tree [], .own 4 ([r40.1].length)]) (OLe.cells (All2.cons (CLe.refl _) (All2.cons (CLe.refl _) (All2.cons (CLe.refl _) (All2.cons (CLe.refl _) (All2.cons (El.tree_nil E45) (All2.cons (CLe.refl _) (All2.nil))))))))) ?_
         refine Ref.conv (Conv.freeze (st' := ⟨[(51, .tup []), (50, .c (E9.tree ([[69, 78, 68, 95, 87, 72, 73, 76, 69]] : List Bytes))), sP 0 0 0 0, sP 4 1 0 0, sP 5 2 0 0, sP 49 0 0 0], [E65.o r41, oX1, .cells [iC 7, iC 0, .str [], E25.tree [r38.1], E45.tree [], E58.tree [r40.1]], .dead, .dead, .dead], [], 1⟩) 4 (by kernel_rfl)) ?_
         refine Ref.ck ⟨[sP 0 0 0 0, sP 4 1 0 0, sP 5 2 0 0], [E65.o r41, oX1, .cells [iC 7, iC 0, .str [], E25.tree [r38.1], E45.tree [], E58.tree [r40.1]]], [], 1⟩ [0, 4, 5] [0, 1, 2] ?_
         exact Ref.n0 (t := (r41, 7, 0, ([] : Bytes), [r38.1], [], [r40.1]))
        ·
         refine Ref.sq ?_
         refine Ref.rn 15 ?_
         refine RefR.e1 0 1 1 [0, 1, 4, 5, 53] [0, 1, 2] ?_
         refine RefR.cc 54 1 2 [0] (F39_ok K r37.2 ([70, 79, 82] : Bytes)) (fun r42 => ?_)
         refine RefR.e0 (st' := ⟨[sP 0 0 0 0, sI 1 a1, sP 4 1 0 0, sP 5 2 0 0, sB 52 r42.1], [E65.o r42.2, oX1, oX1], [], 1⟩) 2 1 3 [0, 1, 4, 5, 52] [0, 1, 2] ?_
         refine RefR.nl 3 ?_
         refine Ref.cn (.tmp 52) r42.1 (fun hc => ?_) (fun hc => ?_)
         ·
          refine Ref.rn 16 ?_
          refine RefR.e1 0 2 2 [0, 4, 5, 55, 56] [0, 1, 2] ?_
          refine RefR.cc 57 2 3 [0] (F132_ok K r42.2 a1) (fun r43 => ?_)
          refine RefR.e0 (st' := ⟨[sP 0 0 0 0, sP 4 1 0 0, sP 5 2 0 0], [E65.o r43.2, oX1, E122.o r43.1], [], 1⟩) 3 1 4 [0, 4, 5] [0, 1, 2] ?_
          refine RefR.nl 4 ?_
          refine Ref.conv (Conv.ob 2 (.cells [iC r43.1.fKind, iC r43.1.fN, .str r43.1.fName, E25.tree r43.1.fExprs, E45.tree r43.1.fLabels, E58.tree r43.1.fBlocks]) (OLe.cells (All2.cons (CLe.refl _) (All2.cons (CLe.refl _) (All2.cons (CLe.refl _) (All2.cons (CLe.refl _) (All2.cons (CLe.refl _) (All2.cons (NTT122_le _) (All2.nil))))))))) ?_
          exact Ref.n0 (t := (r43.2, r43.1.fKind, r43.1.fN, r43.1.fName, r43.1.fExprs, r43.1.fLabels, r43.1.fBlocks))
         ·
          refine Ref.sq ?_
          refine Ref.rn 17 ?_
          refine RefR.e1 0 1 1 [0, 4, 5, 59] [0, 1, 2] ?_
          refine RefR.cc 60 1 2 [0] (F39_ok K r42.2 ([82, 69, 84, 85, 82, 78] : Bytes)) (fun r44 => ?_)
          refine RefR.e0 (st' := ⟨[sP 0 0 0 0, sP 4 1 0 0, sP 5 2 0 0, sB 58 r44.1], [E65.o r44.2, oX1, oX1], [], 1⟩) 2 1 3 [0, 4, 5, 58] [0, 1, 2] ?_
          refine RefR.nl 3 ?_
          refine Ref.cn (.tmp 58) r44.1 (fun hc => ?_) (fun hc => ?_)
          ·
           refine Ref.sq ?_
           refine Ref.rn 18 ?_
           refine RefR.e0 (st' := ⟨[sP 0 0 0 0, sP 4 1 0 0, sP 5 2 0 0], [E65.o r44.2, oX1, oX6], [], 1⟩) 0 2 2 [0, 4, 5] [0, 1, 2] ?_
           refine RefR.nl 2 ?_
           refine Ref.sq ?_
           refine Ref.rn 19 ?_
           refine RefR.e0 (st' := ⟨[sP 0 0 0 0, sP 4 1 0 0, sP 5 2 0 0, sP 62 0 0 0], [E65.o r44.2, oX1, oX6], [], 1⟩) 0 1 1 [0, 4, 5, 62] [0, 1, 2] ?_
           refine RefR.li 63 [] E9 ([[59]] : List Bytes) 1 2 ?_
           refine RefR.lookC (t := 64) (g := []) (b := true) 2 3 [0] (default : Bool) rfl (by kernel_rfl) (F29_ok K r44.2 ([[59]] : List Bytes)) (fun _ => rfl) (fun r45 => ?_)
           refine RefR.e0 (st' := ⟨[sP 0 0 0 0, sP 4 1 0 0, sP 5 2 0 0, sB 65 (!r45)], [E65.o r44.2, oX1, oX6], [], 1⟩) 3 1 4 [0, 4, 5, 65] [0, 1, 2] ?_
           refine RefR.nl 4 ?_
           refine Ref.cn (.tmp 65) (!r45) (fun hc => ?_) (fun hc => ?_)
           ·
            refine Ref.rn 20 ?_
            refine RefR.e1 0 1 1 [0, 4, 5, 66] [0, 1, 2] ?_
            refine RefR.cc 67 1 2 [0] (F19_ok K r44.2 1) (fun r46 => ?_)
            refine RefR.e0 (st' := ⟨[sP 0 0 0 0, sP 4 1 0 0, sP 5 2 0 0, (68, .c (.own 3 1))], [E65.o r46.2, oX1, oX6, .row 25 5 1 (tbl [(E25.cs r46.1)])], [], 1⟩) 2 1 3 [0, 4, 5, 68] [0, 1, 2, 4] ?_
            refine RefR.conv (Conv.ob 3 (E25.row [r46.1]) (El.row_build E25 [r46.1] rfl (by kernel_rfl))) ?_
            refine RefR.conv (Conv.sl 68 (.c (.own 3 ([r46.1].length))) (DLe.c (CLe.own (by simp <;> omega)))) ?_
            refine RefR.e0 (st' := ⟨[sP 0 0 0 0, sP 4 1 0 0, sP 5 2 0 0], [E65.o r46.2, oX1, .cells [iC 9, iC 0, .str [], .own 3 ([r46.1].length), .nil, .nil], E25.row [r46.1]], [], 1⟩) 3 2 5 [0, 4, 5] [0, 1, 2, 3] ?_
            refine RefR.nl 5 ?_
            refine Ref.conv (Conv.freeze (st' := ⟨[sP 0 0 0 0, sP 4 1 0 0, sP 5 2 0 0], [E65.o r46.2, oX1, .cells [iC 9, iC 0, .str [], E25.tree [r46.1], .nil, .nil], .dead], [], 1⟩) 3 (by kernel_rfl)) ?_
            refine Ref.conv (Conv.ob 2 (.cells [iC 9, iC 0, .str [], E25.tree [r46.1], E45.tree [], .nil]) (OLe.cells (All2.cons (CLe.refl _) (All2.cons (CLe.refl _) (All2.cons (CLe.refl _) (All2.cons (CLe.refl _) (All2.cons (El.tree_nil E45) (All2.cons (CLe.refl _) (All2.nil))))))))) ?_
            refine Ref.conv (Conv.ob 2 (.cells [iC 9, iC 0, .str [], E25.tree [r46.1], E45.tree [], E58.tree []]) (OLe.cells (All2.cons (CLe.refl _) (All2.cons (CLe.refl _) (All2.cons (CLe.refl _) (All2.cons (CLe.refl _) (All2.cons (CLe.refl _) (All2.cons (El.tree_nil E58) (All2.nil))))))))) ?_
            refine Ref.ck ⟨[sP 0 0 0 0, sP 4 1 0 0, sP 5 2 0 0], [E65.o r46.2, oX1, .cells [iC 9, iC 0, .str [], E25.tree [r46.1], E45.tree [], E58.tree []]], [], 1⟩ [0, 4, 5] [0, 1, 2] ?_
            exact Ref.n0 (t := (r46.2, 9, 0, ([] : Bytes), [r46.1], [], []))
           ·
            refine Ref.sk ?_
            refine Ref.conv (Conv.ob 2 (.cells [iC 9, iC 0, .str [], E25.tree [], .nil, .nil]) (OLe.cells (All2.cons (CLe.refl _) (All2.cons (CLe.refl _) (All2.cons (CLe.refl _) (All2.cons (El.tree_nil E25) (All2.cons (CLe.refl _) (All2.cons (CLe.refl _) (All2.nil))))))))) ?_
            refine Ref.conv (Conv.ob 2 (.cells [iC 9, iC 0, .str [], E25.tree [], E45.tree [], .nil]) (OLe.cells (All2.cons (CLe.refl _) (All2.cons (CLe.refl _) (All2.cons (CLe.refl _) (All2.cons (CLe.refl _) (All2.cons (El.tree_nil E45) (All2.cons (CLe.refl _) (All2.nil))))))))) ?_
            refine Ref.conv (Conv.ob 2 (.cells [iC 9, iC 0, .str [], E25.tree [], E45.tree [], E58.tree []]) (OLe.cells (All2.cons (CLe.refl _) (All2.cons (CLe.refl _) (All2.cons (CLe.refl _) (All2.cons (CLe.refl _) (All2.cons (CLe.refl _) (All2.cons (El.tree_nil E58) (All2.nil))))))))) ?_
            refine Ref.ck ⟨[sP 0 0 0 0, sP 4 1 0 0, sP 5 2 0 0], [E65.o r44.2, oX1, .cells [iC 9, iC 0, .str [], E25.tree [], E45.tree [], E58.tree []]], [], 1⟩ [0, 4, 5] [0, 1, 2] ?_
            exact Ref.n0 (t := (r44.2, 9, 0, ([] : Bytes), [], [], []))
          ·
           refine Ref.sq ?_
           refine Ref.rn 21 ?_
           refine RefR.e1 0 1 1 [0, 4, 5, 71] [0, 1, 2] ?_
           refine RefR.cc 72 1 2 [0] (F39_ok K r44.2 ([69, 88, 73, 84] : Bytes)) (fun r47 => ?_)
           refine RefR.e0 (st' := ⟨[sP 0 0 0 0, sP 4 1 0 0, sP 5 2 0 0, sB 70 r47.1], [E65.o r47.2, oX1, oX1], [], 1⟩) 2 1 3 [0, 4, 5, 70] [0, 1, 2] ?_
           refine RefR.nl 3 ?_
           refine Ref.cn (.tmp 70) r47.1 (fun hc => ?_) (fun hc => ?_)
           ·
            refine Ref.rn 22 ?_
            refine RefR.e0 (st' := ⟨[sP 0 0 0 0, sP 4 1 0 0, sP 5 2 0 0], [E65.o r47.2, oX1, .cells [iC 10, iC 0, .str [], .nil, .nil, .nil]], [], 1⟩) 0 2 2 [0, 4, 5] [0, 1, 2] ?_
            refine RefR.nl 2 ?_
            refine Ref.conv (Conv.ob 2 (.cells [iC 10, iC 0, .str [], E25.tree [], .nil, .nil]) (OLe.cells (All2.cons (CLe.refl _) (All2.cons (CLe.refl _) (All2.cons (CLe.refl _) (All2.cons (El.tree_nil E25) (All2.cons (CLe.refl _) (All2.cons (CLe.refl _) (All2.nil))))))))) ?_
            refine Ref.conv (Conv.ob 2 (.cells [iC 10, iC 0, .str [], E25.tree [], E45.tree [], .nil]) (OLe.cells (All2.cons (CLe.refl _) (All2.cons (CLe.refl _) (All2.cons (CLe.refl _) (All2.cons (CLe.refl _) (All2.cons (El.tree_nil E45) (All2.cons (CLe.refl _) (All2.nil))))))))) ?_
            refine Ref.conv (Conv.ob 2 (.cells [iC 10, iC 0, .str [], E25.tree [], E45.tree [], E58.tree []]) (OLe.cells (All2.cons (CLe.refl _) (All2.cons (CLe.refl _) (All2.cons (CLe.refl _) (All2.cons (CLe.refl _) (All2.cons (CLe.refl _) (All2.cons (El.tree_nil E58) (All2.nil))))))))) ?_
            exact Ref.n0 (t := (r47.2, 10, 0, ([] : Bytes), [], [], []))
           ·
            refine Ref.sq ?_
            refine Ref.rn 23 ?_
            refine RefR.e1 0 1 1 [0, 4, 5, 75] [0, 1, 2] ?_
            refine RefR.cc 76 1 2 [0] (F39_ok K r47.2 ([83, 84, 69, 80] : Bytes)) (fun r48 => ?_)
            refine RefR.e0 (st' := ⟨[sP 0 0 0 0, sP 4 1 0 0, sP 5 2 0 0, sB 74 r48.1], [E65.o r48.2, oX1, oX1], [], 1⟩) 2 1 3 [0, 4, 5, 74] [0, 1, 2] ?_
            refine RefR.nl 3 ?_
            refine Ref.cn (.tmp 74) r48.1 (fun hc => ?_) (fun hc => ?_)
            ·
             refine Ref.sq ?_
             refine Ref.rn 24 ?_
             refine RefR.e1 0 1 1 [0, 4, 5, 77] [0, 1, 2] ?_
             refine RefR.cc 78 1 2 [0] (F72_ok K r48.2) (fun r49 => ?_)
             refine RefR.e0 (st' := ⟨[sP 0 0 0 0, sP 4 1 0 0, sP 5 2 0 0], [E65.o r49.2, oX1, .cells [iC 11, iC 0, .str r49.1, .nil, .nil, .nil]], [], 1⟩) 2 2 4 [0, 4, 5] [0, 1, 2] ?_
             refine RefR.nl 4 ?_
             refine Ref.sq ?_
             refine Ref.rn 25 ?_
             refine RefR.e0 (st' := ⟨[sP 0 0 0 0, sP 4 1 0 0, sP 5 2 0 0, sP 80 0 0 0], [E65.o r49.2, oX1, .cells [iC 11, iC 0, .str r49.1, .nil, .nil, .nil]], [], 1⟩) 0 1 1 [0, 4, 5, 80] [0, 1, 2] ?_
             refine RefR.li 81 [] E9 ([[40]] : List Bytes) 1 2 ?_
             refine RefR.cc 82 2 3 [0] (F93_ok K r49.2 ([[40]] : List Bytes)) (fun r50 => ?_)
             refine RefR.nl 3 ?_
             refine Ref.sq ?_
             refine Ref.rn 26 ?_
             refine RefR.e1 0 1 1 [0, 4, 5, 83] [0, 1, 2] ?_
             refine RefR.cc 84 1 2 [0] (F19_ok K r50 1) (fun r51 => ?_)
             refine RefR.e0 (st' := ⟨[sP 0 0 0 0, sP 4 1 0 0, sP 5 2 0 0, sP 6 3 0 0], [E65.o r51.2, oX1, .cells [iC 11, iC 0, .str r49.1, .nil, .nil, .nil], E25.o r51.1], [], 1⟩) 2 2 4 [0, 4, 5, 6] [0, 1, 2, 4] ?_
             refine RefR.nl 4 ?_
             refine Ref.sq ?_
             refine Ref.rn 27 ?_
             refine RefR.e0 (st' := ⟨[sP 0 0 0 0, sP 4 1 0 0, sP 5 2 0 0, sP 6 3 0 0, sP 85 0 0 0], [E65.o r51.2, oX1, .cells [iC 11, iC 0, .str r49.1, .nil, .nil, .nil], E25.o r51.1], [], 1⟩) 0 1 1 [0, 4, 5, 6, 85] [0, 1, 2, 3] ?_
             refine RefR.li 86 [] E9 ([[44]] : List Bytes) 1 2 ?_
             refine RefR.cc 87 2 3 [0] (F93_ok K r51.2 ([[44]] : List Bytes)) (fun r52 => ?_)
             refine RefR.nl 3 ?_
             refine Ref.sq ?_
             refine Ref.drawnY 28 (by kernel_rfl) (by kernel_rfl) ?_
             refine RefY.evC0 (st' := ⟨[sP 0 0 0 0, sP 4 1 0 0, sP 5 2 0 0, sP 6 3 0 0, sP 89 0 0 0], [E65.o r52, oX1, .cells [iC 11, iC 0, .str r49.1, .nil, .nil, .nil], E25.o r51.1], [], 1⟩) (fuel' := 5) [1] [0, 4, 5, 6, 89] [0, 1, 2, 3] rfl (by kernel_rfl) (by kernel_rfl) ?_
             refine RefY.toX [2, 5] ?_
             refine RefX.withK1 (fun (r53 : S25 × S65) => ⟨[sP 0 0 0 0, sP 4 1 0 0, sP 5 2 0 0], [E65.o r53.2, oX1, .cells [iC 11, iC 0, .str r49.1, .own 3 ([r51.1, r53.1].length), .nil, .nil], E25.row [r51.1, r53.1]], [], 1⟩) (fun (r53 : S25 × S65) => ((fnS (F93 K r53.2 ([[41]] : List Bytes))).bind (fun r55 => (some (.inr (r55, 11, 0, r49.1, [r51.1, r53.1], [], [])))))) (fun r53 => ?_) (fun hk => ?_)
             ·
              refine Ref.rn 29 ?_
              refine RefR.e0 (st' := ⟨[sP 0 0 0 0, sP 4 1 0 0, sP 5 2 0 0, sP 93 0 0 0], [E65.o r53.2, oX1, .cells [iC 11, iC 0, .str r49.1, .own 3 ([r51.1, r53.1].length), .nil, .nil], E25.row [r51.1, r53.1]], [], 1⟩) 0 1 1 [0, 4, 5, 93] [0, 1, 2, 3] ?_
              refine RefR.li 94 [] E9 ([[41]] : List Bytes) 1 2 ?_
              refine RefR.cc 95 2 3 [0] (F93_ok K r53.2 ([[41]] : List Bytes)) (fun r55 => ?_)
              refine RefR.nl 3 ?_
              refine Ref.conv (Conv.freeze (st' := ⟨[(95, .tup []), (94, .c (E9.tree ([[41]] : List Bytes))), sP 0 0 0 0, sP 4 1 0 0, sP 5 2 0 0, sP 93 0 0 0], [E65.o r55, oX1, .cells [iC 11, iC 0, .str r49.1, E25.tree [r51.1, r53.1], .nil, .nil], .dead, .dead], [], 1⟩) 3 (by kernel_rfl)) ?_
              refine Ref.conv (Conv.ob 2 (.cells [iC 11, iC 0, .str r49.1, E25.tree [r51.1, r53.1], E45.tree [], .nil]) (OLe.cells (All2.cons (CLe.refl _) (All2.cons (CLe.refl _) (All2.cons (CLe.refl _) (All2.cons (CLe.refl _) (All2.cons (El.tree_nil E45) (All2.cons (CLe.refl _) (All2.nil))))))))) ?_
              refine Ref.conv (Conv.ob 2 (.cells [iC 11, iC 0, .str r49.1, E25.tree [r51.1, r53.1], E45.tree [], E58.tree []]) (OLe.cells (All2.cons (CLe.refl _) (All2.cons (CLe.refl _) (All2.cons (CLe.refl _) (All2.cons (CLe.refl _) (All2.cons (CLe.refl _) (All2.cons (El.tree_nil E58) (All2.nil))))))))) ?_
              refine Ref.ck ⟨[sP 0 0 0 0, sP 4 1 0 0, sP 5 2 0 0], [E65.o r55, oX1, .cells [iC 11, iC 0, .str r49.1, E25.tree [r51.1, r53.1], E45.tree [], E58.tree []]], [], 1⟩ [0, 4, 5] [0, 1, 2] ?_
              exact Ref.n0 (t := (r55, 11, 0, r49.1, [r51.1, r53.1], [], []))
             ·
              refine RefX.pend0 (fuel' := 4) [[], [(0, 88)]] [(0, 88)] [0, 4, 5, 6, 89] [0, 1, 2, 3] ⟨[sP 0 0 0 0, sP 4 1 0 0, sP 5 2 0 0, sP 6 3 0 0, (88, .agg (E25.cs r51.1)), sP 89 0 0 0], [E65.o r52, oX1, .cells [iC 11, iC 0, .str r49.1, .nil, .nil, .nil], E25.o r51.1], [], 1⟩ ?_
              refine RefXq.fork1 (fuel' := 3) 2 ?_
              refine RefXqi.callC (t := 90) 2 [0] rfl (by kernel_rfl) (F19_ok K r52 1) (fun r53 => ?_)
              refine RefXq.close ?_
              refine RefX.madeC0 (st' := ⟨[sP 0 0 0 0, sP 4 1 0 0, sP 5 2 0 0, (91, .c (.own 3 2))], [E65.o r53.2, oX1, .cells [iC 11, iC 0, .str r49.1, .nil, .nil, .nil], .row 25 5 2 (tbl [(E25.cs r51.1), (E25.cs r53.1)])], [], 1⟩) (fuel' := 2) 3 [0, 4, 5, 91] [0, 1, 2, 5] rfl (by kernel_rfl) (by kernel_rfl) ?_
              refine RefX.conv (Conv.ob 3 (E25.row [r51.1, r53.1]) (El.row_build E25 [r51.1, r53.1] rfl (by kernel_rfl))) ?_
              refine RefX.conv (Conv.sl 91 (.c (.own 3 ([r51.1, r53.1].length))) (DLe.c (CLe.own (by simp <;> omega)))) ?_
              refine RefX.v0 (fuel' := 1) [4] [0, 4, 5, 91, 92] [0, 1, 2, 3] ?_
              refine RefX.fork1 (fuel' := 0) 5 (by kernel_rfl) ?_
              refine RefXi.w0 5 [0, 4, 5] [0, 1, 2, 3] ?_
              refine RefX.done (by kernel_rfl) ?_
              refine Ref.ck ⟨[sP 0 0 0 0, sP 4 1 0 0, sP 5 2 0 0], [E65.o r53.2, oX1, .cells [iC 11, iC 0, .str r49.1, .own 3 ([r51.1, r53.1].length), .nil, .nil], E25.row [r51.1, r53.1]], [], 1⟩ [0, 4, 5] [0, 1, 2, 3] ?_
              exact hk r53
            ·
             refine Ref.sk ?_
             refine Ref.conv (Conv.ob 2 (.cells [iC 0, iC 0, .str [], E25.tree [], .nil, .nil]) (OLe.cells (All2.cons (CLe.refl _) (All2.cons (CLe.refl _) (All2.cons (CLe.refl _) (All2.cons (El.tree_nil E25) (All2.cons (CLe.refl _) (All2.cons (CLe.refl _) (All2.nil))))))))) ?_
             refine Ref.conv (Conv.ob 2 (.cells [iC 0, iC 0, .str [], E25.tree [], E45.tree [], .nil]) (OLe.cells (All2.cons (CLe.refl _) (All2.cons (CLe.refl _) (All2.cons (CLe.refl _) (All2.cons (CLe.refl _) (All2.cons (El.tree_nil E45) (All2.cons (CLe.refl _) (All2.nil))))))))) ?_
             refine Ref.conv (Conv.ob 2 (oX5) (OLe.cells (All2.cons (CLe.refl _) (All2.cons (CLe.refl _) (All2.cons (CLe.refl _) (All2.cons (CLe.refl _) (All2.cons (CLe.refl _) (All2.cons (El.tree_nil E58) (All2.nil))))))))) ?_
             refine Ref.ck ⟨[sP 0 0 0 0, sP 4 1 0 0, sP 5 2 0 0], [E65.o r48.2, oX1, oX5], [], 1⟩ [0, 4, 5] [0, 1, 2] ?_
             exact Ref.n0 (t := (r48.2, 0, 0, ([] : Bytes), [], [], []))
   ·
    refine Ref.sq ?_
    refine Ref.rn 30 ?_
    refine RefR.e0 (st' := ⟨[sP 4 1 0 0, sP 5 2 0 0, sP 96 0 0 0], [E65.o u28.1, oX1, .cells [iC u28.2.1, iC u28.2.2.1, .str u28.2.2.2.1, E25.tree u28.2.2.2.2.1, E45.tree u28.2.2.2.2.2.1, E58.tree u28.2.2.2.2.2.2]], [], 1⟩) 0 1 1 [4, 5, 96] [0, 1, 2] ?_
    refine RefR.li 97 [] E9 ([[59]] : List Bytes) 1 2 ?_
    refine RefR.cc 98 2 3 [0] (F93_ok K u28.1 ([[59]] : List Bytes)) (fun r56 => ?_)
    refine RefR.nl 3 ?_
    refine Ref.sq ?_
    refine Ref.rn 31 ?_
    refine RefR.e0 (st' := ⟨[sP 4 1 0 0], [E65.o r56, .cells [iC u28.2.1, iC u28.2.2.1, .str u28.2.2.2.1, E25.tree u28.2.2.2.2.1, E45.tree u28.2.2.2.2.2.1, E58.tree u28.2.2.2.2.2.2]], [], 1⟩) 0 2 2 [4] [0, 1] ?_
    refine RefR.nl 2 ?_
    refine Ref.conv (Conv.ob 1 (.cells [iC u28.2.1, iC u28.2.2.1, .str u28.2.2.2.1, E25.tree u28.2.2.2.2.1, E45.tree u28.2.2.2.2.2.1, NTT122 u28.2.2.2.2.2.2]) (OLe.cells (All2.cons (CLe.refl _) (All2.cons (CLe.refl _) (All2.cons (CLe.refl _) (All2.cons (CLe.refl _) (All2.cons (CLe.refl _) (All2.cons (NTT122_ge _) (All2.nil))))))))) ?_
    exact Ref.rt (t := ((⟨u28.2.1, u28.2.2.1, u28.2.2.2.1, u28.2.2.2.2.1, u28.2.2.2.2.2.1, u28.2.2.2.2.2.2⟩ : S122), r56))
theorem F97_ok (K : Nat) (a0 : S65) (a1 : Int) (a2 : (List Bytes)) : DFun Tryz.prog 97 [.c (.ptr 0 0 0), .c (.val (.int .i64 a1)), .c (E9.tree a2)] [E65.o a0] (fnS (F97 K a0 a1 a2)) (fun r => .c (E122.tree r.1)) (fun r => [E65.o r.2]) := (G97_ok K).1 a0 a1 a2
end Go.Proofs.YtphnfaabcnciiaaGreatDoor
