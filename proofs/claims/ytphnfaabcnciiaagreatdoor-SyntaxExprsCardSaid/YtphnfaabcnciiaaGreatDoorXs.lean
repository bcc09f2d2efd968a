/- Plain functions, and that the Go functions do what these do: printed by gen2.py. No conditions. -/
import Derived.Test.YtphnfaabcnciiaaGreatDoorXr
import Derived.Test.YtphnfaabcnciiaaGreatDoorXl
import Derived.Test.YtphnfaabcnciiaaGreatDoorSa
import Derived.Test.YtphnfaabcnciiaaGreatDoorTe
import Derived.Test.YtphnfaabcnciiaaGreatDoorProg
set_option linter.unusedVariables false
set_option linter.unusedSimpArgs false
set_option linter.unusedSectionVars false
namespace Go.Proofs.YtphnfaabcnciiaaGreatDoor
open Go Go.Proofs Go.Dl
set_option maxRecDepth 100000
set_option maxHeartbeats 4000000
def F22 (K : Nat) (a0 : Bytes) : Option ((S71 × Int × Int) ⊕ (S71 × Int × Int)) :=
 ((fnS (F43 K a0)).bind (fun r1 => (some (.inl ((⟨r1.1, 0, (Int.ofNat a0.length), 0, 0⟩ : S71), r1.2.1, r1.2.2)))))
theorem F22_ok (K : Nat) (a0 : Bytes) : DFun Tryz.prog 22 [.c (.str a0)] [] (fnS (F22 K a0)) (fun r => .tup [.c (.ptr 0 0 0), .c (.val (.int .i64 r.2.1)), .c (.val (.int .i64 r.2.2))]) (fun r => [E71.o r.1]) := by
 refine DFun.it Tryz.f22 (fun r => ⟨[sP 2 0 0 0, sI 3 r.2.1, sI 4 r.2.2], [E71.o r.1], [], 0⟩) ?_
 unfold F22
 refine Ref.sq ?_
 refine Ref.rn 0 ?_
 refine RefR.e0 (st' := ⟨[sS 0 a0], [], [], 0⟩) 0 3 3 [0] [] ?_
 refine RefR.nl 3 ?_
 refine Ref.sq ?_
 refine Ref.rn 1 ?_
 refine RefR.e1 0 1 1 [0, 9] [] ?_
 refine RefR.cc 10 1 2 [] (F43_ok K a0) (fun r1 => ?_)
 refine RefR.e0 (st' := ⟨[sS 0 a0, (5, .c (E41.tree r1.1)), sI 6 r1.2.1, sI 7 r1.2.2], [], [], 0⟩) 2 7 9 [0, 5, 6, 7] [] ?_
 refine RefR.nl 9 ?_
 refine Ref.sq ?_
 refine Ref.rn 2 ?_
 refine RefR.e0 (st' := ⟨[sP 2 0 0 0, sI 3 r1.2.1, sI 4 r1.2.2], [.cells [E41.tree r1.1, iC 0, iC (Int.ofNat a0.length), iC 0, iC 0]], [], 0⟩) 0 10 10 [2, 3, 4] [0] ?_
 refine RefR.nl 10 ?_
 exact Ref.rt (t := ((⟨r1.1, 0, (Int.ofNat a0.length), 0, 0⟩ : S71), r1.2.1, r1.2.2))
def F9 (K : Nat) (a0 : Bytes) : Option ((S25 × Int × Int) ⊕ (S25 × Int × Int)) :=
 ((fnS (F22 K a0)).bind (fun r1 => (if ((r1.2.1 : Int) != 0) = true then (some (.inl ((⟨0, 0, ([] : Bytes), ([] : Bytes), []⟩ : S25), r1.2.1, r1.2.2))) else ((fnS (F23 K r1.1 1)).bind (fun r2 => (letV (((r2.2.fcode : Int) == 0) && (decide ((r2.2.fat : Int) < (Int.ofNat r2.2.ft.length)))) (fun (x3 : Bool) => (bindS (if x3 = true then ((fnS (F24 K r2.2 3)).bind (fun r6 => (some (.inr (r6))))) else (some (.inr (r2.2)))) (fun (u5 : S71) => (if ((u5.fcode : Int) != 0) = true then (some (.inl ((⟨0, 0, ([] : Bytes), ([] : Bytes), []⟩ : S25), u5.fcode, u5.fpos))) else (some (.inl (r2.1, 0, 0)))))))))))))
theorem F9_ok (K : Nat) (a0 : Bytes) : DFun Tryz.prog 9 [.c (.str a0)] [] (fnS (F9 K a0)) (fun r => .tup [.agg (E25.cs r.1), .c (.val (.int .i64 r.2.1)), .c (.val (.int .i64 r.2.2))]) (fun r => [E25.o r.1]) := by
 refine DFun.it Tryz.f9 (fun r => ⟨[sP 2 0 0 0, sI 3 r.2.1, sI 4 r.2.2], [E25.o r.1], [], 0⟩) ?_
 unfold F9
 refine Ref.sq ?_
 refine Ref.rn 0 ?_
 refine RefR.e0 (st' := ⟨[sS 0 a0, sP 2 0 0 0], [oX0], [], 0⟩) 0 3 3 [0, 2] [0] ?_
 refine RefR.nl 3 ?_
 refine Ref.sq ?_
 refine Ref.rn 1 ?_
 refine RefR.e1 0 1 1 [2, 10] [0] ?_
 refine RefR.cc 11 1 2 [] (F22_ok K a0) (fun r1 => ?_)
 refine RefR.e0 (st' := ⟨[sP 2 0 0 0, sP 5 1 0 0, sI 6 r1.2.1, sI 7 r1.2.2], [oX0, E71.o r1.1], [], 0⟩) 2 7 9 [2, 5, 6, 7] [0, 1] ?_
 refine RefR.nl 9 ?_
 refine Ref.sq ?_
 refine Ref.sq ?_
 refine Ref.rn 2 ?_
 refine RefR.e0 (st' := ⟨[sP 2 0 0 0, sP 5 1 0 0, sI 6 r1.2.1, sI 7 r1.2.2, sB 16 ((r1.2.1 : Int) != 0)], [oX0, E71.o r1.1], [], 0⟩) 0 2 2 [2, 5, 6, 7, 16] [0, 1] ?_
 refine RefR.nl 2 ?_
 refine Ref.cn (.tmp 16) ((r1.2.1 : Int) != 0) (fun hc => ?_) (fun hc => ?_)
 ·
  refine Ref.sq ?_
  refine Ref.rn 3 ?_
  refine RefR.e0 (st' := ⟨[sP 2 0 0 0, sI 3 r1.2.1, sI 4 r1.2.2], [oX0], [], 0⟩) 0 6 6 [2, 3, 4] [0] ?_
  refine RefR.nl 6 ?_
  refine Ref.conv (Conv.ob 0 (oX4) (OLe.cells (All2.cons (CLe.refl _) (All2.cons (CLe.refl _) (All2.cons (CLe.refl _) (All2.cons (CLe.refl _) (All2.cons (El.tree_nil E25) (All2.nil)))))))) ?_
  refine Ref.conv (Conv.ob 0 (oX8) (OLe.cells (All2.cons (CLe.refl _) (All2.cons (CLe.refl _) (All2.cons (CLe.refl _) (All2.cons (CLe.refl _) (All2.cons (NT25_ge _) (All2.nil)))))))) ?_
  exact Ref.rt (t := ((⟨0, 0, ([] : Bytes), ([] : Bytes), []⟩ : S25), r1.2.1, r1.2.2))
 ·
  refine Ref.sk ?_
  refine Ref.sq ?_
  refine Ref.rn 4 ?_
  refine RefR.e1 0 1 1 [2, 5, 20] [0, 1] ?_
  refine RefR.cc 21 1 2 [1] (F23_ok K r1.1 1) (fun r2 => ?_)
  refine RefR.e0 (st' := ⟨[sP 2 0 0 0, sP 5 1 0 0, sP 8 2 0 0], [oX0, E71.o r2.2, E25.o r2.1], [], 0⟩) 2 2 4 [2, 5, 8] [0, 1, 3] ?_
  refine RefR.nl 4 ?_
  refine Ref.sq ?_
  refine Ref.sq ?_
  refine Ref.drawnY 5 (by kernel_rfl) (by kernel_rfl) ?_
  refine RefY.evC0 (st' := ⟨[sP 2 0 0 0, sP 5 1 0 0, sP 8 2 0 0, sP 24 1 0 3], [oX0, E71.o r2.2, E25.o r2.1], [], 0⟩) (fuel' := 14) [0, 1, 2] [2, 5, 8, 24] [0, 1, 2] rfl (by kernel_rfl) (by kernel_rfl) ?_
  refine RefY.toX [] ?_
  refine RefX.evC0 (st' := ⟨[sP 2 0 0 0, sP 5 1 0 0, sP 8 2 0 0, sB 38 (((r2.2.fcode : Int) == 0) && (decide ((r2.2.fat : Int) < (Int.ofNat r2.2.ft.length))))], [oX0, E71.o r2.2, E25.o r2.1], [], 0⟩) (fuel' := 0) [3, 4, 5, 6, 7, 8, 9, 10, 11, 12, 13, 14, 15, 16] [2, 5, 8, 38] [0, 1, 2] rfl (by kernel_rfl) (by kernel_rfl) ?_
  refine RefX.letC (stf := fun x3 => ⟨[sP 2 0 0 0, sP 5 1 0 0, sP 8 2 0 0, sB 38 x3], [oX0, E71.o r2.2, E25.o r2.1], [], 0⟩) (by kernel_rfl) (fun x3 => ?_)
  refine RefX.done (by kernel_rfl) ?_
  refine Ref.bind (go1 := fun u5 => ⟨[sP 2 0 0 0, sP 5 1 0 0, sP 8 2 0 0], [oX0, E71.o u5, E25.o r2.1], [], 0⟩) ?_ (fun u5 => ?_)
  ·
   refine Ref.cn (.tmp 38) x3 (fun hc => ?_) (fun hc => ?_)
   ·
    refine Ref.rn 6 ?_
    refine RefR.e1 0 1 1 [2, 5, 8, 39] [0, 1, 2] ?_
    refine RefR.cc 40 1 2 [1] (F24_ok K r2.2 3) (fun r6 => ?_)
    refine RefR.nl 2 ?_
    refine Ref.ck ⟨[sP 2 0 0 0, sP 5 1 0 0, sP 8 2 0 0], [oX0, E71.o r6, E25.o r2.1], [], 0⟩ [2, 5, 8] [0, 1, 2] ?_
    exact Ref.n0 (t := (r6))
   ·
    refine Ref.sk ?_
    refine Ref.ck ⟨[sP 2 0 0 0, sP 5 1 0 0, sP 8 2 0 0], [oX0, E71.o r2.2, E25.o r2.1], [], 0⟩ [2, 5, 8] [0, 1, 2] ?_
    exact Ref.n0 (t := (r2.2))
  ·
   refine Ref.sq ?_
   refine Ref.sq ?_
   refine Ref.rn 7 ?_
   refine RefR.e0 (st' := ⟨[sP 2 0 0 0, sP 5 1 0 0, sP 8 2 0 0, sB 45 ((u5.fcode : Int) != 0)], [oX0, E71.o u5, E25.o r2.1], [], 0⟩) 0 5 5 [2, 5, 8, 45] [0, 1, 2] ?_
   refine RefR.nl 5 ?_
   refine Ref.cn (.tmp 45) ((u5.fcode : Int) != 0) (fun hc => ?_) (fun hc => ?_)
   ·
    refine Ref.sq ?_
    refine Ref.drawnY 8 (by kernel_rfl) (by kernel_rfl) ?_
    refine RefY.evC0 (st' := ⟨[sP 2 0 0 0, (46, .agg [iC 0, iC 0, .str [], .str [], .nil]), sP 49 1 0 3, sP 53 1 0 4], [oX0, E71.o u5], [], 0⟩) (fuel' := 5) [0, 1, 2, 3, 5, 6, 7] [2, 46, 49, 53] [0, 1] rfl (by kernel_rfl) (by kernel_rfl) ?_
    refine RefY.toX [9] ?_
    refine RefX.pend0 (fuel' := 3) [[], [(4, 50)], [(8, 54)], [(4, 50), (8, 54)]] [(4, 50), (8, 54)] [2, 46, 49, 53] [0, 1] ⟨[sP 2 0 0 0, (46, .agg [iC 0, iC 0, .str [], .str [], .nil]), sP 49 1 0 3, sI 50 u5.fcode, sP 53 1 0 4, sI 54 u5.fpos], [oX0, E71.o u5], [], 0⟩ ?_
    refine RefXq.fork1 (fuel' := 2) 9 ?_
    refine RefXqi.writes0 (st' := ⟨[sP 2 0 0 0, sP 49 1 0 3, sI 50 u5.fcode, sP 53 1 0 4, sI 54 u5.fpos], [oX0, E71.o u5], [], 0⟩) 9 [2, 49, 50, 53, 54] [0, 1] (by kernel_rfl) (by kernel_rfl) ?_
    refine RefXq.less [[], [(8, 54)]] ?_
    refine RefXq.evC0 (st' := ⟨[sP 2 0 0 0, sI 3 u5.fcode, sP 53 1 0 4, sI 54 u5.fpos], [oX0, E71.o u5], [], 0⟩) (fuel' := 1) [10] [2, 3, 53, 54] [0, 1] rfl (by kernel_rfl) (by kernel_rfl) ?_
    refine RefXq.close ?_
    refine RefX.evC0 (st' := ⟨[sP 2 0 0 0, sI 3 u5.fcode, sI 4 u5.fpos], [oX0], [], 0⟩) (fuel' := 0) [11] [2, 3, 4] [0] rfl (by kernel_rfl) (by kernel_rfl) ?_
    refine RefX.done (by kernel_rfl) ?_
    refine Ref.conv (Conv.ob 0 (oX4) (OLe.cells (All2.cons (CLe.refl _) (All2.cons (CLe.refl _) (All2.cons (CLe.refl _) (All2.cons (CLe.refl _) (All2.cons (El.tree_nil E25) (All2.nil)))))))) ?_
    refine Ref.conv (Conv.ob 0 (oX8) (OLe.cells (All2.cons (CLe.refl _) (All2.cons (CLe.refl _) (All2.cons (CLe.refl _) (All2.cons (CLe.refl _) (All2.cons (NT25_ge _) (All2.nil)))))))) ?_
    exact Ref.rt (t := ((⟨0, 0, ([] : Bytes), ([] : Bytes), []⟩ : S25), u5.fcode, u5.fpos))
   ·
    refine Ref.sk ?_
    refine Ref.sq ?_
    refine Ref.rn 9 ?_
    refine RefR.e0 (st' := ⟨[sP 2 0 0 0, sI 3 0, sI 4 0], [E25.o r2.1], [], 0⟩) 0 4 4 [2, 3, 4] [0] ?_
    refine RefR.nl 4 ?_
    exact Ref.rt (t := (r2.1, 0, 0))
noncomputable def F3 (K : Nat) (a0 : Bytes) : Option ((Bool) ⊕ (Bool)) :=
 (letV (decide (((Int.ofNat a0.length) : Int) > 500)) (fun (x1 : Bool) => (if x1 = true then ((fnS (F7 K)).bind (fun r2 => (some (.inl (r2))))) else ((fnS (F8 K a0)).bind (fun r3 => ((fnS (F9 K a0)).bind (fun r4 => ((fnS (F10 K r3.2)).bind (fun r5 => ((fnS (F11e K r3.1 r4.1)).bind (fun r6 => (letV ((r6 && ((r5.1 : Int) == r4.2.1)) && ((r5.2 : Int) == r4.2.2)) (fun (x7 : Bool) => ((condM x7 (fnS (F7 K)) default).bind (fun r8 => (some (.inl ((x7 && r8)))))))))))))))))))
theorem F3_ok (K : Nat) (a0 : Bytes) : DFun Tryz.prog 3 [.c (.str a0)] [] (fnS (F3 K a0)) (fun r => .c (.val (.bool r))) (fun r => []) := by
 refine DFun.it Tryz.f3 (fun r => ⟨[sB 2 r], [], [], 0⟩) ?_
 unfold F3
 refine Ref.sq ?_
 refine Ref.rn 0 ?_
 refine RefR.e0 (st' := ⟨[sS 0 a0], [], [], 0⟩) 0 1 1 [0] [] ?_
 refine RefR.nl 1 ?_
 refine Ref.sq ?_
 refine Ref.sq ?_
 refine Ref.rn 1 ?_
 refine RefR.e0 (st' := ⟨[sS 0 a0, sB 12 (decide (((Int.ofNat a0.length) : Int) > 500))], [], [], 0⟩) 0 3 3 [0, 12] [] ?_
 refine RefR.letC (stf := fun x1 => ⟨[sS 0 a0, sB 12 x1], [], [], 0⟩) (by kernel_rfl) (fun x1 => ?_)
 refine RefR.nl 3 ?_
 refine Ref.cn (.tmp 12) x1 (fun hc => ?_) (fun hc => ?_)
 ·
  refine Ref.sq ?_
  refine Ref.rn 2 ?_
  refine RefR.cc 13 0 1 [] (F7_ok K) (fun r2 => ?_)
  refine RefR.e0 (st' := ⟨[sB 2 r2], [], [], 0⟩) 1 1 2 [2] [] ?_
  refine RefR.nl 2 ?_
  exact Ref.rt (t := (r2))
 ·
  refine Ref.sk ?_
  refine Ref.sq ?_
  refine Ref.rn 3 ?_
  refine RefR.e1 0 1 1 [0, 15] [] ?_
  refine RefR.cc 16 1 2 [] (F8_ok K a0) (fun r3 => ?_)
  refine RefR.e0 (st' := ⟨[sS 0 a0, sP 3 0 0 0, (4, .c (errC r3.2))], [E25.o r3.1], [], 0⟩) 2 6 8 [0, 3, 4] [1] ?_
  refine RefR.nl 8 ?_
  refine Ref.sq ?_
  refine Ref.rn 4 ?_
  refine RefR.e1 0 1 1 [3, 4, 20] [0] ?_
  refine RefR.cc 21 1 2 [] (F9_ok K a0) (fun r4 => ?_)
  refine RefR.e0 (st' := ⟨[sP 3 0 0 0, (4, .c (errC r3.2)), sP 5 1 0 0, sI 6 r4.2.1, sI 7 r4.2.2], [E25.o r3.1, E25.o r4.1], [], 0⟩) 2 8 10 [3, 4, 5, 6, 7] [0, 2] ?_
  refine RefR.nl 10 ?_
  refine Ref.sq ?_
  refine Ref.rn 5 ?_
  refine RefR.e1 0 1 1 [3, 5, 6, 7, 26] [0, 1] ?_
  refine RefR.cc 27 1 2 [] (F10_ok K r3.2) (fun r5 => ?_)
  refine RefR.e0 (st' := ⟨[sP 3 0 0 0, sP 5 1 0 0, sI 6 r4.2.1, sI 7 r4.2.2, sI 8 r5.1, sI 9 r5.2], [E25.o r3.1, E25.o r4.1], [], 0⟩) 2 5 7 [3, 5, 6, 7, 8, 9] [0, 1] ?_
  refine RefR.nl 7 ?_
  refine Ref.sq ?_
  refine Ref.rn 6 ?_
  refine RefR.e1 0 2 2 [6, 7, 8, 9, 30, 31] [] ?_
  refine RefR.cc 32 2 3 [] (F11e_ok K r3.1 r4.1) (fun r6 => ?_)
  refine RefR.e0 (st' := ⟨[sB 43 ((r6 && ((r5.1 : Int) == r4.2.1)) && ((r5.2 : Int) == r4.2.2))], [], [], 0⟩) 3 11 14 [43] [] ?_
  refine RefR.letC (stf := fun x7 => ⟨[sB 43 x7], [], [], 0⟩) (by kernel_rfl) (fun x7 => ?_)
  refine RefR.lookC (t := 44) (g := [(43, true)]) (b := x7) 14 15 [] (default : Bool) rfl (by kernel_rfl) (F7_ok K) (fun _ => rfl) (fun r8 => ?_)
  refine RefR.e0 (st' := ⟨[sB 2 (x7 && r8)], [], [], 0⟩) 15 2 17 [2] [] ?_
  refine RefR.nl 17 ?_
  exact Ref.rt (t := ((x7 && r8)))
end Go.Proofs.YtphnfaabcnciiaaGreatDoor
