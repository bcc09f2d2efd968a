/- Plain functions, and that the Go functions do what these do: printed by gen2.py. No conditions. -/
import Derived.Test.YtphnfaabcnciiaaGreatDoorGa
import Derived.Test.YtphnfaabcnciiaaGreatDoorProg
set_option linter.unusedVariables false
set_option linter.unusedSimpArgs false
set_option linter.unusedSectionVars false
namespace Go.Proofs.YtphnfaabcnciiaaGreatDoor
open Go Go.Proofs Go.Dl
variable [WInv]
set_option maxRecDepth 100000
set_option maxHeartbeats 4000000
def F48 (K : Nat) (a0 : S71) : Option ((Int) ⊕ (Int)) :=
 (letV (decide ((a0.fat : Int) < (Int.ofNat a0.ft.length))) (fun (x1 : Bool) => (if x1 = true then (chk [inb a0.fat a0.ft.length] (letV ((a0.ft.getD (a0.fat : Int).toNat default).fAt) (fun (x2 : Int) => (some (.inl (x2)))))) else (some (.inl (a0.fend))))))
theorem F48_ok (K : Nat) (a0 : S71) : DFun Tryz.prog 48 [.c (E71.ep a0 0)] [] (fnS (F48 K a0)) (fun r => .c (.val (.int .i64 r))) (fun r => []) := by
 refine DFun.it Tryz.f48 (fun r => ⟨[sI 2 r], [], [], 0⟩) ?_
 unfold F48
 refine Ref.sq ?_
 refine Ref.rn 0 ?_
 refine RefR.e0 (st' := ⟨[(0, .c (E71.ep a0 0))], [], [], 0⟩) 0 1 1 [0] [] ?_
 refine RefR.nl 1 ?_
 refine Ref.sq ?_
 refine Ref.sq ?_
 refine Ref.drawnY 1 (by kernel_rfl) (by kernel_rfl) ?_
 refine RefY.evC0 (st' := ⟨[(0, .c (E71.ep a0 0)), (5, .c (E71.ep a0 1)), (9, .c (E71.ep a0 0))], [], [], 0⟩) (fuel' := 4) [0, 1, 2, 4, 5, 6] [0, 5, 9] [] rfl (by kernel_rfl) (by kernel_rfl) ?_
 refine RefY.toX [] ?_
 refine RefX.evC0 (st' := ⟨[(0, .c (E71.ep a0 0)), sB 12 (decide ((a0.fat : Int) < (Int.ofNat a0.ft.length)))], [], [], 0⟩) (fuel' := 0) [3, 7, 8, 9] [0, 12] [] rfl (by kernel_rfl) (by kernel_rfl) ?_
 refine RefX.letC (stf := fun x1 => ⟨[(0, .c (E71.ep a0 0)), sB 12 x1], [], [], 0⟩) (by kernel_rfl) (fun x1 => ?_)
 refine RefX.done (by kernel_rfl) ?_
 refine Ref.cn (.tmp 12) x1 (fun hc => ?_) (fun hc => ?_)
 ·
  refine Ref.sq ?_
  refine Ref.drawnY 2 (by kernel_rfl) (by kernel_rfl) ?_
  refine RefY.evC0 (st' := ⟨[(15, .c (E71.ep a0 0)), (19, .c (E71.ep a0 1))], [], [], 0⟩) (fuel' := 6) [0, 1, 2, 4, 5, 6] [15, 19] [] rfl (by kernel_rfl) (by kernel_rfl) ?_
  refine RefY.toX [] ?_
  refine RefX.evC (vs := [inb a0.fat a0.ft.length]) (st' := ⟨[sI 2 ((a0.ft.getD (a0.fat : Int).toNat default).fAt)], [], [], 0⟩) (fuel' := 0) [3, 7, 8, 9, 10, 11] [2] [] rfl (by kernel_rfl) (by kernel_rfl) ?_
  refine RefX.letC (stf := fun x2 => ⟨[sI 2 x2], [], [], 0⟩) (by kernel_rfl) (fun x2 => ?_)
  refine RefX.done (by kernel_rfl) ?_
  exact Ref.rt (t := (x2))
 ·
  refine Ref.sk ?_
  refine Ref.sq ?_
  refine Ref.rn 3 ?_
  refine RefR.e0 (st' := ⟨[sI 2 a0.fend], [], [], 0⟩) 0 5 5 [2] [] ?_
  refine RefR.nl 5 ?_
  exact Ref.rt (t := (a0.fend))
def F24 (K : Nat) (a0 : S71) (a1 : Int) : Option ((S71) ⊕ (S71)) :=
 (if ((a0.fcode : Int) == 0) = true then ((condM true (fnS (F48 K a0)) default).bind (fun r1 => (some (.inr ((⟨a0.ft, (Int.ofNat a0.ft.length), a0.fend, a1, r1⟩ : S71)))))) else (some (.inr (a0))))
theorem F24_ok (K : Nat) (a0 : S71) (a1 : Int) : DFun Tryz.prog 24 [.c (.ptr 0 0 0), .c (.val (.int .i64 a1))] [E71.o a0] (fnS (F24 K a0 a1)) (fun r => .tup []) (fun r => [E71.o r]) := by
 refine DFun.it Tryz.f24 (fun r => ⟨[], [E71.o r], [], 1⟩) ?_
 unfold F24
 refine Ref.sq ?_
 refine Ref.rn 0 ?_
 refine RefR.e0 (st' := ⟨[sP 0 0 0 0, sI 1 a1, sB 8 ((a0.fcode : Int) == 0)], [E71.o a0], [], 1⟩) 0 5 5 [0, 1, 8] [0] ?_
 refine RefR.nl 5 ?_
 refine Ref.cn (.tmp 8) ((a0.fcode : Int) == 0) (fun hc => ?_) (fun hc => ?_)
 ·
  refine Ref.sq ?_
  refine Ref.rn 1 ?_
  refine RefR.e1 0 4 4 [0, 9, 10, 11, 12] [0] ?_
  refine RefR.lookC (t := 13) (g := []) (b := true) 4 5 [0] (default : Int) rfl (by kernel_rfl) (F48_ok K a0) (fun _ => rfl) (fun r1 => ?_)
  refine RefR.e0 (st' := ⟨[sP 0 0 0 0], [.cells [E41.tree a0.ft, iC a0.fat, iC a0.fend, iC a1, iC r1]], [], 1⟩) 5 6 11 [0] [0] ?_
  refine RefR.nl 11 ?_
  refine Ref.rn 2 ?_
  refine RefR.e0 (st' := ⟨[], [.cells [E41.tree a0.ft, iC (Int.ofNat a0.ft.length), iC a0.fend, iC a1, iC r1]], [], 1⟩) 0 9 9 [] [0] ?_
  refine RefR.nl 9 ?_
  exact Ref.n0 (t := ((⟨a0.ft, (Int.ofNat a0.ft.length), a0.fend, a1, r1⟩ : S71)))
 ·
  refine Ref.sk ?_
  refine Ref.ck ⟨[], [E71.o a0], [], 1⟩ [] [0] ?_
  exact Ref.n0 (t := (a0))
def F79 (K : Nat) (a0 : S71) (a1 : Bytes) : Option ((Bool) ⊕ (Bool)) :=
 (letV (((a0.fcode : Int) != 0) || (decide ((a0.fat : Int) ≥ (Int.ofNat a0.ft.length)))) (fun (x1 : Bool) => (if x1 = true then (some (.inl (false))) else (chk [inb a0.fat a0.ft.length] (letV ((((a0.ft.getD (a0.fat : Int).toNat default).fText) == a1) && (((((a0.ft.getD (a0.fat : Int).toNat default).fKind) : Int) == 2) || ((((a0.ft.getD (a0.fat : Int).toNat default).fKind) : Int) == 4))) (fun (x3 : Bool) => (some (.inl (x3)))))))))
theorem F79_ok (K : Nat) (a0 : S71) (a1 : Bytes) : DFun Tryz.prog 79 [.c (E71.ep a0 0), .c (.str a1)] [] (fnS (F79 K a0 a1)) (fun r => .c (.val (.bool r))) (fun r => []) := by
 refine DFun.it Tryz.f79 (fun r => ⟨[sB 4 r], [], [], 0⟩) ?_
 unfold F79
 refine Ref.sq ?_
 refine Ref.rn 0 ?_
 refine RefR.e0 (st' := ⟨[(0, .c (E71.ep a0 0)), sS 1 a1], [], [], 0⟩) 0 1 1 [0, 1] [] ?_
 refine RefR.nl 1 ?_
 refine Ref.sq ?_
 refine Ref.sq ?_
 refine Ref.drawnY 1 (by kernel_rfl) (by kernel_rfl) ?_
 refine RefY.evC0 (st' := ⟨[(0, .c (E71.ep a0 0)), sS 1 a1, (8, .c (E71.ep a0 3))], [], [], 0⟩) (fuel' := 14) [0, 1, 2] [0, 1, 8] [] rfl (by kernel_rfl) (by kernel_rfl) ?_
 refine RefY.toX [] ?_
 refine RefX.evC0 (st' := ⟨[(0, .c (E71.ep a0 0)), sS 1 a1, sB 22 (((a0.fcode : Int) != 0) || (decide ((a0.fat : Int) ≥ (Int.ofNat a0.ft.length))))], [], [], 0⟩) (fuel' := 0) [3, 4, 5, 6, 7, 8, 9, 10, 11, 12, 13, 14, 15, 16] [0, 1, 22] [] rfl (by kernel_rfl) (by kernel_rfl) ?_
 refine RefX.letC (stf := fun x1 => ⟨[(0, .c (E71.ep a0 0)), sS 1 a1, sB 22 x1], [], [], 0⟩) (by kernel_rfl) (fun x1 => ?_)
 refine RefX.done (by kernel_rfl) ?_
 refine Ref.cn (.tmp 22) x1 (fun hc => ?_) (fun hc => ?_)
 ·
  refine Ref.sq ?_
  refine Ref.rn 2 ?_
  refine RefR.e0 (st' := ⟨[sB 4 false], [], [], 0⟩) 0 1 1 [4] [] ?_
  refine RefR.nl 1 ?_
  exact Ref.rt (t := (false))
 ·
  refine Ref.sk ?_
  refine Ref.sq ?_
  refine Ref.drawnY 3 (by kernel_rfl) (by kernel_rfl) ?_
  refine RefY.evC0 (st' := ⟨[sS 1 a1, (25, .c (E71.ep a0 0)), (29, .c (E71.ep a0 1))], [], [], 0⟩) (fuel' := 6) [0, 1, 2, 4, 5, 6] [1, 25, 29] [] rfl (by kernel_rfl) (by kernel_rfl) ?_
  refine RefY.toX [11] ?_
  refine RefX.withK0 (⟨[sS 1 a1, sP 5 0 0 0], [E41.o (a0.ft.getD (a0.fat : Int).toNat default)], [], 0⟩) ((letV ((((a0.ft.getD (a0.fat : Int).toNat default).fText) == a1) && (((((a0.ft.getD (a0.fat : Int).toNat default).fKind) : Int) == 2) || ((((a0.ft.getD (a0.fat : Int).toNat default).fKind) : Int) == 4))) (fun (x3 : Bool) => (some (.inl (x3)))))) ?_ (fun hk => ?_)
  ·
   refine Ref.sq ?_
   refine Ref.rn 4 ?_
   refine RefR.e0 (st' := ⟨[sB 4 ((((a0.ft.getD (a0.fat : Int).toNat default).fText) == a1) && (((((a0.ft.getD (a0.fat : Int).toNat default).fKind) : Int) == 2) || ((((a0.ft.getD (a0.fat : Int).toNat default).fKind) : Int) == 4)))], [], [], 0⟩) 0 15 15 [4] [] ?_
   refine RefR.letC (stf := fun x3 => ⟨[sB 4 x3], [], [], 0⟩) (by kernel_rfl) (fun x3 => ?_)
   refine RefR.nl 15 ?_
   exact Ref.rt (t := (x3))
  ·
   refine RefX.v1 (fuel' := 2) [inb a0.fat a0.ft.length] [3, 7, 8, 9] [1, 32] [] ?_
   refine RefX.fork1 (fuel' := 1) 10 (by kernel_rfl) ?_
   refine RefXi.adds0 (st' := ⟨[sS 1 a1, sP 5 0 0 0, (32, .agg (E41.cs (a0.ft.getD (a0.fat : Int).toNat default)))], [oX2], [], 0⟩) 10 [1, 5, 32] [0] (by kernel_rfl) (by kernel_rfl) ?_
   refine RefX.tailC [11] rfl (by kernel_rfl) ?_
   refine RefR.e0 (st' := ⟨[sS 1 a1, sP 5 0 0 0], [E41.o (a0.ft.getD (a0.fat : Int).toNat default)], [], 0⟩) 0 1 1 [1, 5] [0] ?_
   refine RefR.nl 1 ?_
   refine Ref.ck ⟨[sS 1 a1, sP 5 0 0 0], [E41.o (a0.ft.getD (a0.fat : Int).toNat default)], [], 0⟩ [1, 5] [0] ?_
   exact hk
def F78 (K : Nat) (a0 : S71) (a1 : Int) : Option ((Bool) ⊕ (Bool)) :=
 (chk [!(((a0.fcode : Int) == 0) && (decide ((a0.fat : Int) < (Int.ofNat a0.ft.length)))) || inb a0.fat a0.ft.length] (letV ((((a0.fcode : Int) == 0) && (decide ((a0.fat : Int) < (Int.ofNat a0.ft.length)))) && ((((a0.ft.getD (a0.fat : Int).toNat default).fKind) : Int) == a1)) (fun (x1 : Bool) => (some (.inl (x1))))))
theorem F78_ok (K : Nat) (a0 : S71) (a1 : Int) : DFun Tryz.prog 78 [.c (E71.ep a0 0), .c (.val (.int .i64 a1))] [] (fnS (F78 K a0 a1)) (fun r => .c (.val (.bool r))) (fun r => []) := by
 refine DFun.it Tryz.f78 (fun r => ⟨[sB 4 r], [], [], 0⟩) ?_
 unfold F78
 refine Ref.sq ?_
 refine Ref.rn 0 ?_
 refine RefR.e0 (st' := ⟨[(0, .c (E71.ep a0 0)), sI 1 a1], [], [], 0⟩) 0 1 1 [0, 1] [] ?_
 refine RefR.nl 1 ?_
 refine Ref.sq ?_
 refine Ref.drawnY 1 (by kernel_rfl) (by kernel_rfl) ?_
 refine RefY.evC0 (st' := ⟨[(0, .c (E71.ep a0 0)), sI 1 a1, (7, .c (E71.ep a0 3))], [], [], 0⟩) (fuel' := 30) [0, 1, 2] [0, 1, 7] [] rfl (by kernel_rfl) (by kernel_rfl) ?_
 refine RefY.toX [] ?_
 refine RefX.evC (vs := [!(((a0.fcode : Int) == 0) && (decide ((a0.fat : Int) < (Int.ofNat a0.ft.length)))) || inb a0.fat a0.ft.length]) (st' := ⟨[sB 4 ((((a0.fcode : Int) == 0) && (decide ((a0.fat : Int) < (Int.ofNat a0.ft.length)))) && ((((a0.ft.getD (a0.fat : Int).toNat default).fKind) : Int) == a1))], [], [], 0⟩) (fuel' := 0) [3, 4, 5, 6, 7, 8, 9, 10, 11, 12, 13, 14, 15, 16, 17, 18, 19, 20, 21, 22, 23, 24, 25, 26, 27, 28, 29, 30, 31, 32] [4] [] rfl (by kernel_rfl) (by kernel_rfl) ?_
 refine RefX.letC (stf := fun x1 => ⟨[sB 4 x1], [], [], 0⟩) (by kernel_rfl) (fun x1 => ?_)
 refine RefX.done (by kernel_rfl) ?_
 exact Ref.rt (t := (x1))
def F45 (K : Nat) (a0 : S71) (a1 : Bytes) : Option ((Bool × S71) ⊕ (Bool × S71)) :=
 ((condM true (fnS (F79 K a0 a1)) default).bind (fun r1 => (if r1 = true then (some (.inl (true, (⟨a0.ft, (IntKind.i64.wrap (a0.fat + 1)), a0.fend, a0.fcode, a0.fpos⟩ : S71)))) else (some (.inl (false, a0))))))
theorem F45_ok (K : Nat) (a0 : S71) (a1 : Bytes) : DFun Tryz.prog 45 [.c (.ptr 0 0 0), .c (.str a1)] [E71.o a0] (fnS (F45 K a0 a1)) (fun r => .c (.val (.bool r.1))) (fun r => [E71.o r.2]) := by
 refine DFun.it Tryz.f45 (fun r => ⟨[sB 4 r.1], [E71.o r.2], [], 1⟩) ?_
 unfold F45
 refine Ref.sq ?_
 refine Ref.rn 0 ?_
 refine RefR.e0 (st' := ⟨[sP 0 0 0 0, sS 1 a1], [E71.o a0], [], 1⟩) 0 1 1 [0, 1] [0] ?_
 refine RefR.nl 1 ?_
 refine Ref.sq ?_
 refine Ref.sq ?_
 refine Ref.rn 1 ?_
 refine RefR.e1 0 2 2 [0, 5, 6] [0] ?_
 refine RefR.lookC (t := 7) (g := []) (b := true) 2 3 [0] (default : Bool) rfl (by kernel_rfl) (F79_ok K a0 a1) (fun _ => rfl) (fun r1 => ?_)
 refine RefR.nl 3 ?_
 refine Ref.cn (.tmp 7) r1 (fun hc => ?_) (fun hc => ?_)
 ·
  refine Ref.sq ?_
  refine Ref.rn 2 ?_
  refine RefR.e0 (st' := ⟨[], [.cells [E41.tree a0.ft, iC (IntKind.i64.wrap (a0.fat + 1)), iC a0.fend, iC a0.fcode, iC a0.fpos]], [], 1⟩) 0 8 8 [] [0] ?_
  refine RefR.nl 8 ?_
  refine Ref.sq ?_
  refine Ref.rn 3 ?_
  refine RefR.e0 (st' := ⟨[sB 4 true], [.cells [E41.tree a0.ft, iC (IntKind.i64.wrap (a0.fat + 1)), iC a0.fend, iC a0.fcode, iC a0.fpos]], [], 1⟩) 0 1 1 [4] [0] ?_
  refine RefR.nl 1 ?_
  exact Ref.rt (t := (true, (⟨a0.ft, (IntKind.i64.wrap (a0.fat + 1)), a0.fend, a0.fcode, a0.fpos⟩ : S71)))
 ·
  refine Ref.sk ?_
  refine Ref.sq ?_
  refine Ref.rn 4 ?_
  refine RefR.e0 (st' := ⟨[sB 4 false], [E71.o a0], [], 1⟩) 0 1 1 [4] [0] ?_
  refine RefR.nl 1 ?_
  exact Ref.rt (t := (false, a0))
def F83 (K : Nat) (a0 : S71) (a1 : Bytes) : Option ((S71) ⊕ (S71)) :=
 ((fnS (F45 K a0 a1)).bind (fun r1 => (if (!r1.1) = true then ((fnS (F24 K r1.2 3)).bind (fun r2 => (some (.inr (r2))))) else (some (.inr (r1.2))))))
theorem F83_ok (K : Nat) (a0 : S71) (a1 : Bytes) : DFun Tryz.prog 83 [.c (.ptr 0 0 0), .c (.str a1)] [E71.o a0] (fnS (F83 K a0 a1)) (fun r => .tup []) (fun r => [E71.o r]) := by
 refine DFun.it Tryz.f83 (fun r => ⟨[], [E71.o r], [], 1⟩) ?_
 unfold F83
 refine Ref.sq ?_
 refine Ref.rn 0 ?_
 refine RefR.e1 0 2 2 [0, 4, 5] [0] ?_
 refine RefR.cc 6 2 3 [0] (F45_ok K a0 a1) (fun r1 => ?_)
 refine RefR.e0 (st' := ⟨[sP 0 0 0 0, sB 7 (!r1.1)], [E71.o r1.2], [], 1⟩) 3 1 4 [0, 7] [0] ?_
 refine RefR.nl 4 ?_
 refine Ref.cn (.tmp 7) (!r1.1) (fun hc => ?_) (fun hc => ?_)
 ·
  refine Ref.rn 1 ?_
  refine RefR.e1 0 1 1 [8] [0] ?_
  refine RefR.cc 9 1 2 [0] (F24_ok K r1.2 3) (fun r2 => ?_)
  refine RefR.nl 2 ?_
  refine Ref.ck ⟨[], [E71.o r2], [], 1⟩ [] [0] ?_
  exact Ref.n0 (t := (r2))
 ·
  refine Ref.sk ?_
  refine Ref.ck ⟨[], [E71.o r1.2], [], 1⟩ [] [0] ?_
  exact Ref.n0 (t := (r1.2))
def F82 (K : Nat) (a0 : S71) : Option ((Bytes × S71) ⊕ (Bytes × S71)) :=
 ((condM true (fnS (F78 K a0 1)) default).bind (fun r1 => (if (!r1) = true then ((fnS (F24 K a0 3)).bind (fun r2 => (some (.inl (([] : Bytes), r2))))) else (chk [inb (IntKind.i64.wrap ((IntKind.i64.wrap (a0.fat + 1)) - 1)) a0.ft.length] (letV ((a0.ft.getD ((IntKind.i64.wrap ((IntKind.i64.wrap (a0.fat + 1)) - 1)) : Int).toNat default).fText) (fun (x3 : Bytes) => (some (.inl (x3, (⟨a0.ft, (IntKind.i64.wrap (a0.fat + 1)), a0.fend, a0.fcode, a0.fpos⟩ : S71))))))))))
theorem F82_ok (K : Nat) (a0 : S71) : DFun Tryz.prog 82 [.c (.ptr 0 0 0)] [E71.o a0] (fnS (F82 K a0)) (fun r => .c (.str r.1)) (fun r => [E71.o r.2]) := by
 refine DFun.it Tryz.f82 (fun r => ⟨[sS 2 r.1], [E71.o r.2], [], 1⟩) ?_
 unfold F82
 refine Ref.sq ?_
 refine Ref.rn 0 ?_
 refine RefR.e0 (st' := ⟨[sP 0 0 0 0], [E71.o a0], [], 1⟩) 0 1 1 [0] [0] ?_
 refine RefR.nl 1 ?_
 refine Ref.sq ?_
 refine Ref.sq ?_
 refine Ref.rn 1 ?_
 refine RefR.e1 0 1 1 [0, 3] [0] ?_
 refine RefR.lookC (t := 4) (g := []) (b := true) 1 2 [0] (default : Bool) rfl (by kernel_rfl) (F78_ok K a0 1) (fun _ => rfl) (fun r1 => ?_)
 refine RefR.e0 (st' := ⟨[sP 0 0 0 0, sB 5 (!r1)], [E71.o a0], [], 1⟩) 2 1 3 [0, 5] [0] ?_
 refine RefR.nl 3 ?_
 refine Ref.cn (.tmp 5) (!r1) (fun hc => ?_) (fun hc => ?_)
 ·
  refine Ref.sq ?_
  refine Ref.rn 2 ?_
  refine RefR.e1 0 1 1 [6] [0] ?_
  refine RefR.cc 7 1 2 [0] (F24_ok K a0 3) (fun r2 => ?_)
  refine RefR.nl 2 ?_
  refine Ref.sq ?_
  refine Ref.rn 3 ?_
  refine RefR.e0 (st' := ⟨[sS 2 ([] : Bytes)], [E71.o r2], [], 1⟩) 0 1 1 [2] [0] ?_
  refine RefR.nl 1 ?_
  exact Ref.rt (t := (([] : Bytes), r2))
 ·
  refine Ref.sk ?_
  refine Ref.sq ?_
  refine Ref.rn 4 ?_
  refine RefR.e0 (st' := ⟨[sP 0 0 0 0], [.cells [E41.tree a0.ft, iC (IntKind.i64.wrap (a0.fat + 1)), iC a0.fend, iC a0.fcode, iC a0.fpos]], [], 1⟩) 0 8 8 [0] [0] ?_
  refine RefR.nl 8 ?_
  refine Ref.sq ?_
  refine Ref.drawnY 5 (by kernel_rfl) (by kernel_rfl) ?_
  refine RefY.evC0 (st' := ⟨[sP 17 0 0 0, sP 21 0 0 1], [.cells [E41.tree a0.ft, iC (IntKind.i64.wrap (a0.fat + 1)), iC a0.fend, iC a0.fcode, iC a0.fpos]], [], 1⟩) (fuel' := 7) [0, 1, 2, 4, 5, 6] [17, 21] [0] rfl (by kernel_rfl) (by kernel_rfl) ?_
  refine RefY.toX [] ?_
  refine RefX.evC (vs := [inb (IntKind.i64.wrap ((IntKind.i64.wrap (a0.fat + 1)) - 1)) a0.ft.length]) (st' := ⟨[sS 2 ((a0.ft.getD ((IntKind.i64.wrap ((IntKind.i64.wrap (a0.fat + 1)) - 1)) : Int).toNat default).fText)], [.cells [E41.tree a0.ft, iC (IntKind.i64.wrap (a0.fat + 1)), iC a0.fend, iC a0.fcode, iC a0.fpos]], [], 1⟩) (fuel' := 0) [3, 7, 8, 9, 10, 11, 12] [2] [0] rfl (by kernel_rfl) (by kernel_rfl) ?_
  refine RefX.letC (stf := fun x3 => ⟨[sS 2 x3], [.cells [E41.tree a0.ft, iC (IntKind.i64.wrap (a0.fat + 1)), iC a0.fend, iC a0.fcode, iC a0.fpos]], [], 1⟩) (by kernel_rfl) (fun x3 => ?_)
  refine RefX.done (by kernel_rfl) ?_
  exact Ref.rt (t := (x3, (⟨a0.ft, (IntKind.i64.wrap (a0.fat + 1)), a0.fend, a0.fcode, a0.fpos⟩ : S71)))
def F80 (K : Nat) (a0 : S71) : Option ((Int × S71) ⊕ (Int × S71)) :=
 ((condM true (fnS (F78 K a0 3)) default).bind (fun r1 => (if (!r1) = true then ((fnS (F24 K a0 3)).bind (fun r2 => (some (.inl (0, r2))))) else (chk [inb (IntKind.i64.wrap ((IntKind.i64.wrap (a0.fat + 1)) - 1)) a0.ft.length] (letV ((a0.ft.getD ((IntKind.i64.wrap ((IntKind.i64.wrap (a0.fat + 1)) - 1)) : Int).toNat default).fN) (fun (x3 : Int) => (some (.inl (x3, (⟨a0.ft, (IntKind.i64.wrap (a0.fat + 1)), a0.fend, a0.fcode, a0.fpos⟩ : S71))))))))))
theorem F80_ok (K : Nat) (a0 : S71) : DFun Tryz.prog 80 [.c (.ptr 0 0 0)] [E71.o a0] (fnS (F80 K a0)) (fun r => .c (.val (.int .i64 r.1))) (fun r => [E71.o r.2]) := by
 refine DFun.it Tryz.f80 (fun r => ⟨[sI 2 r.1], [E71.o r.2], [], 1⟩) ?_
 unfold F80
 refine Ref.sq ?_
 refine Ref.rn 0 ?_
 refine RefR.e0 (st' := ⟨[sP 0 0 0 0], [E71.o a0], [], 1⟩) 0 1 1 [0] [0] ?_
 refine RefR.nl 1 ?_
 refine Ref.sq ?_
 refine Ref.sq ?_
 refine Ref.rn 1 ?_
 refine RefR.e1 0 1 1 [0, 3] [0] ?_
 refine RefR.lookC (t := 4) (g := []) (b := true) 1 2 [0] (default : Bool) rfl (by kernel_rfl) (F78_ok K a0 3) (fun _ => rfl) (fun r1 => ?_)
 refine RefR.e0 (st' := ⟨[sP 0 0 0 0, sB 5 (!r1)], [E71.o a0], [], 1⟩) 2 1 3 [0, 5] [0] ?_
 refine RefR.nl 3 ?_
 refine Ref.cn (.tmp 5) (!r1) (fun hc => ?_) (fun hc => ?_)
 ·
  refine Ref.sq ?_
  refine Ref.rn 2 ?_
  refine RefR.e1 0 1 1 [6] [0] ?_
  refine RefR.cc 7 1 2 [0] (F24_ok K a0 3) (fun r2 => ?_)
  refine RefR.nl 2 ?_
  refine Ref.sq ?_
  refine Ref.rn 3 ?_
  refine RefR.e0 (st' := ⟨[sI 2 0], [E71.o r2], [], 1⟩) 0 1 1 [2] [0] ?_
  refine RefR.nl 1 ?_
  exact Ref.rt (t := (0, r2))
 ·
  refine Ref.sk ?_
  refine Ref.sq ?_
  refine Ref.rn 4 ?_
  refine RefR.e0 (st' := ⟨[sP 0 0 0 0], [.cells [E41.tree a0.ft, iC (IntKind.i64.wrap (a0.fat + 1)), iC a0.fend, iC a0.fcode, iC a0.fpos]], [], 1⟩) 0 8 8 [0] [0] ?_
  refine RefR.nl 8 ?_
  refine Ref.sq ?_
  refine Ref.drawnY 5 (by kernel_rfl) (by kernel_rfl) ?_
  refine RefY.evC0 (st' := ⟨[sP 17 0 0 0, sP 21 0 0 1], [.cells [E41.tree a0.ft, iC (IntKind.i64.wrap (a0.fat + 1)), iC a0.fend, iC a0.fcode, iC a0.fpos]], [], 1⟩) (fuel' := 7) [0, 1, 2, 4, 5, 6] [17, 21] [0] rfl (by kernel_rfl) (by kernel_rfl) ?_
  refine RefY.toX [] ?_
  refine RefX.evC (vs := [inb (IntKind.i64.wrap ((IntKind.i64.wrap (a0.fat + 1)) - 1)) a0.ft.length]) (st' := ⟨[sI 2 ((a0.ft.getD ((IntKind.i64.wrap ((IntKind.i64.wrap (a0.fat + 1)) - 1)) : Int).toNat default).fN)], [.cells [E41.tree a0.ft, iC (IntKind.i64.wrap (a0.fat + 1)), iC a0.fend, iC a0.fcode, iC a0.fpos]], [], 1⟩) (fuel' := 0) [3, 7, 8, 9, 10, 11, 12] [2] [0] rfl (by kernel_rfl) (by kernel_rfl) ?_
  refine RefX.letC (stf := fun x3 => ⟨[sI 2 x3], [.cells [E41.tree a0.ft, iC (IntKind.i64.wrap (a0.fat + 1)), iC a0.fend, iC a0.fcode, iC a0.fpos]], [], 1⟩) (by kernel_rfl) (fun x3 => ?_)
  refine RefX.done (by kernel_rfl) ?_
  exact Ref.rt (t := (x3, (⟨a0.ft, (IntKind.i64.wrap (a0.fat + 1)), a0.fend, a0.fcode, a0.fpos⟩ : S71)))
def F105 (K : Nat) (a0 : S71) (a1 : Int) (a2 : Int) : Option ((S71) ⊕ (S71)) :=
 (if (decide ((a1 : Int) ≥ a2)) = true then ((fnS (F24 K a0 5)).bind (fun r1 => (some (.inr (r1))))) else (some (.inr (a0))))
theorem F105_ok (K : Nat) (a0 : S71) (a1 : Int) (a2 : Int) : DFun Tryz.prog 105 [.c (.ptr 0 0 0), .c (.val (.int .i64 a1)), .c (.val (.int .i64 a2))] [E71.o a0] (fnS (F105 K a0 a1 a2)) (fun r => .tup []) (fun r => [E71.o r]) := by
 refine DFun.it Tryz.f105 (fun r => ⟨[], [E71.o r], [], 1⟩) ?_
 unfold F105
 refine Ref.sq ?_
 refine Ref.rn 0 ?_
 refine RefR.e0 (st' := ⟨[sP 0 0 0 0, sB 8 (decide ((a1 : Int) ≥ a2))], [E71.o a0], [], 1⟩) 0 3 3 [0, 8] [0] ?_
 refine RefR.nl 3 ?_
 refine Ref.cn (.tmp 8) (decide ((a1 : Int) ≥ a2)) (fun hc => ?_) (fun hc => ?_)
 ·
  refine Ref.rn 1 ?_
  refine RefR.e1 0 1 1 [9] [0] ?_
  refine RefR.cc 10 1 2 [0] (F24_ok K a0 5) (fun r1 => ?_)
  refine RefR.nl 2 ?_
  refine Ref.ck ⟨[], [E71.o r1], [], 1⟩ [] [0] ?_
  exact Ref.n0 (t := (r1))
 ·
  refine Ref.sk ?_
  refine Ref.ck ⟨[], [E71.o a0], [], 1⟩ [] [0] ?_
  exact Ref.n0 (t := (a0))
def F44 (K : Nat) (a0 : S71) : Option ((Bool) ⊕ (Bool)) :=
 ((fnS (F78 K a0 1)).bind (fun r1 => ((condM (!r1) (fnS (F78 K a0 3)) default).bind (fun r2 => (if (r1 || r2) = true then (some (.inl (true))) else (bindS (blockS ((iter K (fun (u32 : Int) => (letV (decide ((u32 : Int) < (Int.ofNat ([([45] : Bytes), ([78, 79, 84] : Bytes), ([84, 82, 85, 69] : Bytes), ([70, 65, 76, 83, 69] : Bytes), ([78, 85, 76, 76] : Bytes), ([84, 72, 73, 83] : Bytes), ([83, 85, 80, 69, 82] : Bytes), ([82, 69, 70] : Bytes), ([68, 79, 78, 69] : Bytes), ([67, 79, 85, 78, 84] : Bytes), ([65, 83] : Bytes), ([40] : Bytes)].length)))) (fun (x40 : Bool) => (if x40 = true then (bindS (blockS (chk [inb u32 ([([45] : Bytes), ([78, 79, 84] : Bytes), ([84, 82, 85, 69] : Bytes), ([70, 65, 76, 83, 69] : Bytes), ([78, 85, 76, 76] : Bytes), ([84, 72, 73, 83] : Bytes), ([83, 85, 80, 69, 82] : Bytes), ([82, 69, 70] : Bytes), ([68, 79, 78, 69] : Bytes), ([67, 79, 85, 78, 84] : Bytes), ([65, 83] : Bytes), ([40] : Bytes)].length)] (letV ([([45] : Bytes), ([78, 79, 84] : Bytes), ([84, 82, 85, 69] : Bytes), ([70, 65, 76, 83, 69] : Bytes), ([78, 85, 76, 76] : Bytes), ([84, 72, 73, 83] : Bytes), ([83, 85, 80, 69, 82] : Bytes), ([82, 69, 70] : Bytes), ([68, 79, 78, 69] : Bytes), ([67, 79, 85, 78, 84] : Bytes), ([65, 83] : Bytes), ([40] : Bytes)].getD ((u32 : Int).toNat) default) (fun (x44 : Bytes) => ((fnS (F79 K a0 x44)).bind (fun r45 => (if r45 = true then (some (.inl (Sum.inr (Sum.inr (true))))) else (some (.inr ()))))))))) (fun (u43 : Unit) => (some (.inr ((IntKind.i64.wrap (u32 + 1))))))) else (some (.inl (Sum.inl ()))))))) (0)).map .inl)) (fun (u24 : Unit) => (some (.inl (false))))))))))
theorem F44_ok (K : Nat) (a0 : S71) : DFun Tryz.prog 44 [.c (E71.ep a0 0)] [] (fnS (F44 K a0)) (fun r => .c (.val (.bool r))) (fun r => []) := by
 refine DFun.it Tryz.f44 (fun r => ⟨[sB 2 r], [], [], 0⟩) ?_
 unfold F44
 refine Ref.sq ?_
 refine Ref.rn 0 ?_
 refine RefR.e0 (st' := ⟨[(0, .c (E71.ep a0 0))], [], [], 0⟩) 0 1 1 [0] [] ?_
 refine RefR.nl 1 ?_
 refine Ref.sq ?_
 refine Ref.sq ?_
 refine Ref.rn 1 ?_
 refine RefR.e1 0 1 1 [0, 5] [] ?_
 refine RefR.cc 6 1 2 [] (F78_ok K a0 1) (fun r1 => ?_)
 refine RefR.e1 2 2 4 [0, 7, 8] [] ?_
 refine RefR.lookC (t := 9) (g := [(7, false)]) (b := (!r1)) 4 5 [] (default : Bool) rfl (by kernel_rfl) (F78_ok K a0 3) (fun _ => rfl) (fun r2 => ?_)
 refine RefR.e0 (st' := ⟨[(0, .c (E71.ep a0 0)), sB 10 (r1 || r2)], [], [], 0⟩) 5 1 6 [0, 10] [] ?_
 refine RefR.nl 6 ?_
 refine Ref.cn (.tmp 10) (r1 || r2) (fun hc => ?_) (fun hc => ?_)
 ·
  refine Ref.sq ?_
  refine Ref.rn 2 ?_
  refine RefR.e0 (st' := ⟨[sB 2 true], [], [], 0⟩) 0 1 1 [2] [] ?_
  refine RefR.nl 1 ?_
  exact Ref.rt (t := (true))
 ·
  refine Ref.sk ?_
  refine Ref.sq ?_
  refine Ref.rn 3 ?_
  refine RefR.e0 (st' := ⟨[(0, .c (E71.ep a0 0)), (11, .c (.own 0 12))], [.row 9 1 12 (tbl [[.str w_45], [.str wNOT], [.str wTRUE], [.str wFALSE], [.str wNULL], [.str wTHIS], [.str wSUPER], [.str wREF], [.str wDONE], [.str wCOUNT], [.str wAS], [.str w_40]])], [], 0⟩) 0 1 1 [0, 11] [0] ?_
  refine RefR.conv (Conv.ob 0 (E9.row [w_45, wNOT, wTRUE, wFALSE, wNULL, wTHIS, wSUPER, wREF, wDONE, wCOUNT, wAS, w_40]) (El.row_build E9 [w_45, wNOT, wTRUE, wFALSE, wNULL, wTHIS, wSUPER, wREF, wDONE, wCOUNT, wAS, w_40] rfl (by kernel_rfl))) ?_
  refine RefR.conv (Conv.sl 11 (.c (.own 0 ([w_45, wNOT, wTRUE, wFALSE, wNULL, wTHIS, wSUPER, wREF, wDONE, wCOUNT, wAS, w_40].length))) (DLe.c (CLe.own (by simp <;> omega)))) ?_
  refine RefR.e0 (st' := ⟨[(0, .c (E71.ep a0 0)), (3, .c (.own 0 ([w_45, wNOT, wTRUE, wFALSE, wNULL, wTHIS, wSUPER, wREF, wDONE, wCOUNT, wAS, w_40].length)))], [E9.row [w_45, wNOT, wTRUE, wFALSE, wNULL, wTHIS, wSUPER, wREF, wDONE, wCOUNT, wAS, w_40]], [], 0⟩) 1 1 2 [0, 3] [0] ?_
  refine RefR.nl 2 ?_
  refine Ref.sq ?_
  refine Ref.sq ?_
  refine Ref.rn 4 ?_
  refine RefR.e0 (st' := ⟨[(0, .c (E71.ep a0 0)), (3, .c (.own 0 ([w_45, wNOT, wTRUE, wFALSE, wNULL, wTHIS, wSUPER, wREF, wDONE, wCOUNT, wAS, w_40].length))), sI 4 0], [E9.row [w_45, wNOT, wTRUE, wFALSE, wNULL, wTHIS, wSUPER, wREF, wDONE, wCOUNT, wAS, w_40]], [], 0⟩) 0 1 1 [0, 3, 4] [0] ?_
  refine RefR.nl 1 ?_
  refine Ref.ce (.block 0 (cd (bd Tryz.f44) [1, 1, 1, 0, 1, 0])) ?_
  refine Ref.block (go1 := fun u24 => ⟨[], [], [], 0⟩) ?_ (fun _ h => by cases h) (fun u24 => ?_)
  ·
   refine Ref.ce (.loop (cd (bd Tryz.f44) [1, 1, 1, 0, 1, 0, 0])) ?_
   refine Ref.loop (hd := fun u32 => ⟨[(0, .c (E71.ep a0 0)), (3, .c (.own 0 ([w_45, wNOT, wTRUE, wFALSE, wNULL, wTHIS, wSUPER, wREF, wDONE, wCOUNT, wAS, w_40].length))), sI 4 u32], [E9.row [w_45, wNOT, wTRUE, wFALSE, wNULL, wTHIS, wSUPER, wREF, wDONE, wCOUNT, wAS, w_40]], [], 0⟩) K (0) (by kernel_rfl) (fun u32 => ?_)
   refine Ref.sq ?_
   refine Ref.sq ?_
   refine Ref.rn 5 ?_
   refine RefR.e0 (st' := ⟨[(0, .c (E71.ep a0 0)), (3, .c (.own 0 ([w_45, wNOT, wTRUE, wFALSE, wNULL, wTHIS, wSUPER, wREF, wDONE, wCOUNT, wAS, w_40].length))), sI 4 u32, sB 15 (decide ((u32 : Int) < (Int.ofNat ([w_45, wNOT, wTRUE, wFALSE, wNULL, wTHIS, wSUPER, wREF, wDONE, wCOUNT, wAS, w_40].length))))], [E9.row [w_45, wNOT, wTRUE, wFALSE, wNULL, wTHIS, wSUPER, wREF, wDONE, wCOUNT, wAS, w_40]], [], 0⟩) 0 4 4 [0, 3, 4, 15] [0] ?_
   refine RefR.letC (stf := fun x40 => ⟨[(0, .c (E71.ep a0 0)), (3, .c (.own 0 ([w_45, wNOT, wTRUE, wFALSE, wNULL, wTHIS, wSUPER, wREF, wDONE, wCOUNT, wAS, w_40].length))), sI 4 u32, sB 15 x40], [E9.row [w_45, wNOT, wTRUE, wFALSE, wNULL, wTHIS, wSUPER, wREF, wDONE, wCOUNT, wAS, w_40]], [], 0⟩) (by kernel_rfl) (fun x40 => ?_)
   refine RefR.nl 4 ?_
   refine Ref.cn (.tmp 15) x40 (fun hc => ?_) (fun hc => ?_)
   ·
    refine Ref.sk ?_
    refine Ref.sq ?_
    refine Ref.ce (.block 1 (cd (bd Tryz.f44) [1, 1, 1, 0, 1, 0, 0, 1, 0, 0])) ?_
    refine Ref.block (go1 := fun u43 => ⟨[(0, .c (E71.ep a0 0)), (3, .c (.own 0 ([w_45, wNOT, wTRUE, wFALSE, wNULL, wTHIS, wSUPER, wREF, wDONE, wCOUNT, wAS, w_40].length))), sI 4 u32], [E9.row [w_45, wNOT, wTRUE, wFALSE, wNULL, wTHIS, wSUPER, wREF, wDONE, wCOUNT, wAS, w_40]], [], 0⟩) ?_ (fun a => match a with | .inl _ => (fun h => by cases h) | .inr _ => (fun h => by cases h)) (fun u43 => ?_)
    ·
     refine Ref.sq ?_
     refine Ref.rn 7 ?_
     refine RefR.evC (vs := [inb u32 ([w_45, wNOT, wTRUE, wFALSE, wNULL, wTHIS, wSUPER, wREF, wDONE, wCOUNT, wAS, w_40].length)]) (st' := ⟨[(0, .c (E71.ep a0 0)), (3, .c (.own 0 ([w_45, wNOT, wTRUE, wFALSE, wNULL, wTHIS, wSUPER, wREF, wDONE, wCOUNT, wAS, w_40].length))), sI 4 u32, (18, .c (E71.ep a0 0)), sS 22 ([w_45, wNOT, wTRUE, wFALSE, wNULL, wTHIS, wSUPER, wREF, wDONE, wCOUNT, wAS, w_40].getD ((u32 : Int).toNat) default)], [E9.row [w_45, wNOT, wTRUE, wFALSE, wNULL, wTHIS, wSUPER, wREF, wDONE, wCOUNT, wAS, w_40]], [], 0⟩) 0 5 5 [0, 3, 4, 18, 22] [0] rfl (by kernel_rfl) ?_
     refine RefR.letC (stf := fun x44 => ⟨[(0, .c (E71.ep a0 0)), (3, .c (.own 0 ([w_45, wNOT, wTRUE, wFALSE, wNULL, wTHIS, wSUPER, wREF, wDONE, wCOUNT, wAS, w_40].length))), sI 4 u32, (18, .c (E71.ep a0 0)), sS 22 x44], [E9.row [w_45, wNOT, wTRUE, wFALSE, wNULL, wTHIS, wSUPER, wREF, wDONE, wCOUNT, wAS, w_40]], [], 0⟩) (by kernel_rfl) (fun x44 => ?_)
     refine RefR.cc 23 5 6 [] (F79_ok K a0 x44) (fun r45 => ?_)
     refine RefR.nl 6 ?_
     refine Ref.cn (.tmp 23) r45 (fun hc => ?_) (fun hc => ?_)
     ·
      refine Ref.sq ?_
      refine Ref.rn 8 ?_
      refine RefR.e0 (st' := ⟨[sB 2 true], [], [], 0⟩) 0 1 1 [2] [] ?_
      refine RefR.nl 1 ?_
      exact Ref.rt (t := (Sum.inr (Sum.inr (true))))
     ·
      refine Ref.sk ?_
      refine Ref.ck ⟨[(0, .c (E71.ep a0 0)), (3, .c (.own 0 ([w_45, wNOT, wTRUE, wFALSE, wNULL, wTHIS, wSUPER, wREF, wDONE, wCOUNT, wAS, w_40].length))), sI 4 u32], [E9.row [w_45, wNOT, wTRUE, wFALSE, wNULL, wTHIS, wSUPER, wREF, wDONE, wCOUNT, wAS, w_40]], [], 0⟩ [0, 3, 4] [0] ?_
      exact Ref.n0 (t := ())
    ·
     refine Ref.rn 6 ?_
     refine RefR.e0 (st' := ⟨[(0, .c (E71.ep a0 0)), (3, .c (.own 0 ([w_45, wNOT, wTRUE, wFALSE, wNULL, wTHIS, wSUPER, wREF, wDONE, wCOUNT, wAS, w_40].length))), sI 4 (IntKind.i64.wrap (u32 + 1))], [E9.row [w_45, wNOT, wTRUE, wFALSE, wNULL, wTHIS, wSUPER, wREF, wDONE, wCOUNT, wAS, w_40]], [], 0⟩) 0 3 3 [0, 3, 4] [0] ?_
     refine RefR.nl 3 ?_
     exact Ref.n0 (t := ((IntKind.i64.wrap (u32 + 1))))
   ·
    refine Ref.ck ⟨[], [], [], 0⟩ [] [] ?_
    exact Ref.xt 0 (t := (Sum.inl ()))
  ·
   refine Ref.sq ?_
   refine Ref.rn 9 ?_
   refine RefR.e0 (st' := ⟨[sB 2 false], [], [], 0⟩) 0 1 1 [2] [] ?_
   refine RefR.nl 1 ?_
   exact Ref.rt (t := (false))
def F47 (K : Nat) (a0 : S71) : Option ((Int × S71) ⊕ (Int × S71)) :=
 (bindS (blockS ((iter K (fun (u30 : S71 × Int) => (letV (decide ((u30.2 : Int) < (Int.ofNat ([([] : Bytes), ([43] : Bytes), ([45] : Bytes), ([42] : Bytes), ([47] : Bytes), ([77, 79, 68] : Bytes), ([61] : Bytes), ([60, 62] : Bytes), ([60] : Bytes), ([60, 61] : Bytes), ([62] : Bytes), ([62, 61] : Bytes), ([65, 78, 68] : Bytes), ([79, 82] : Bytes), ([88, 79, 82] : Bytes)].length)))) (fun (x38 : Bool) => (if x38 = true then (bindS (blockS (chk [inb u30.2 ([([] : Bytes), ([43] : Bytes), ([45] : Bytes), ([42] : Bytes), ([47] : Bytes), ([77, 79, 68] : Bytes), ([61] : Bytes), ([60, 62] : Bytes), ([60] : Bytes), ([60, 61] : Bytes), ([62] : Bytes), ([62, 61] : Bytes), ([65, 78, 68] : Bytes), ([79, 82] : Bytes), ([88, 79, 82] : Bytes)].length)] (letV ([([] : Bytes), ([43] : Bytes), ([45] : Bytes), ([42] : Bytes), ([47] : Bytes), ([77, 79, 68] : Bytes), ([61] : Bytes), ([60, 62] : Bytes), ([60] : Bytes), ([60, 61] : Bytes), ([62] : Bytes), ([62, 61] : Bytes), ([65, 78, 68] : Bytes), ([79, 82] : Bytes), ([88, 79, 82] : Bytes)].getD ((u30.2 : Int).toNat) default) (fun (x42 : Bytes) => ((fnS (F45 K u30.1 x42)).bind (fun r43 => (if r43.1 = true then (some (.inl (Sum.inr (Sum.inr (u30.2, r43.2))))) else (some (.inr (r43.2)))))))))) (fun (u41 : S71) => (some (.inr (u41, (IntKind.i64.wrap (u30.2 + 1))))))) else (some (.inl (Sum.inl (u30.1)))))))) (a0, 1)).map .inl)) (fun (u22 : S71) => (some (.inl (0, u22)))))
theorem F47_ok (K : Nat) (a0 : S71) : DFun Tryz.prog 47 [.c (.ptr 0 0 0)] [E71.o a0] (fnS (F47 K a0)) (fun r => .c (.val (.int .i64 r.1))) (fun r => [E71.o r.2]) := by
 refine DFun.it Tryz.f47 (fun r => ⟨[sI 2 r.1], [E71.o r.2], [], 1⟩) ?_
 unfold F47
 refine Ref.sq ?_
 refine Ref.rn 0 ?_
 refine RefR.e0 (st' := ⟨[sP 0 0 0 0], [E71.o a0], [], 1⟩) 0 1 1 [0] [0] ?_
 refine RefR.nl 1 ?_
 refine Ref.sq ?_
 refine Ref.rn 1 ?_
 refine RefR.e0 (st' := ⟨[sP 0 0 0 0, (5, .c (.own 1 15))], [E71.o a0, .row 9 1 15 (tbl [[.str []], [.str w_43], [.str w_45], [.str w_42], [.str w_47], [.str wMOD], [.str w_61], [.str w_60_62], [.str w_60], [.str w_60_61], [.str w_62], [.str w_62_61], [.str wAND], [.str wOR], [.str wXOR]])], [], 1⟩) 0 1 1 [0, 5] [0, 1] ?_
 refine RefR.conv (Conv.ob 1 (E9.row [([] : Bytes), w_43, w_45, w_42, w_47, wMOD, w_61, w_60_62, w_60, w_60_61, w_62, w_62_61, wAND, wOR, wXOR]) (El.row_build E9 [([] : Bytes), w_43, w_45, w_42, w_47, wMOD, w_61, w_60_62, w_60, w_60_61, w_62, w_62_61, wAND, wOR, wXOR] rfl (by kernel_rfl))) ?_
 refine RefR.conv (Conv.sl 5 (.c (.own 1 ([([] : Bytes), w_43, w_45, w_42, w_47, wMOD, w_61, w_60_62, w_60, w_60_61, w_62, w_62_61, wAND, wOR, wXOR].length))) (DLe.c (CLe.own (by simp <;> omega)))) ?_
 refine RefR.e0 (st' := ⟨[sP 0 0 0 0, (3, .c (.own 1 ([([] : Bytes), w_43, w_45, w_42, w_47, wMOD, w_61, w_60_62, w_60, w_60_61, w_62, w_62_61, wAND, wOR, wXOR].length)))], [E71.o a0, E9.row [([] : Bytes), w_43, w_45, w_42, w_47, wMOD, w_61, w_60_62, w_60, w_60_61, w_62, w_62_61, wAND, wOR, wXOR]], [], 1⟩) 1 1 2 [0, 3] [0, 1] ?_
 refine RefR.nl 2 ?_
 refine Ref.sq ?_
 refine Ref.sq ?_
 refine Ref.rn 2 ?_
 refine RefR.e0 (st' := ⟨[sP 0 0 0 0, (3, .c (.own 1 ([([] : Bytes), w_43, w_45, w_42, w_47, wMOD, w_61, w_60_62, w_60, w_60_61, w_62, w_62_61, wAND, wOR, wXOR].length))), sI 4 1], [E71.o a0, E9.row [([] : Bytes), w_43, w_45, w_42, w_47, wMOD, w_61, w_60_62, w_60, w_60_61, w_62, w_62_61, wAND, wOR, wXOR]], [], 1⟩) 0 1 1 [0, 3, 4] [0, 1] ?_
 refine RefR.nl 1 ?_
 refine Ref.ce (.block 0 (cd (bd Tryz.f47) [1, 1, 0, 1, 0])) ?_
 refine Ref.block (go1 := fun u22 => ⟨[], [E71.o u22], [], 1⟩) ?_ (fun _ h => by cases h) (fun u22 => ?_)
 ·
  refine Ref.ce (.loop (cd (bd Tryz.f47) [1, 1, 0, 1, 0, 0])) ?_
  refine Ref.loop (hd := fun u30 => ⟨[sP 0 0 0 0, (3, .c (.own 1 ([([] : Bytes), w_43, w_45, w_42, w_47, wMOD, w_61, w_60_62, w_60, w_60_61, w_62, w_62_61, wAND, wOR, wXOR].length))), sI 4 u30.2], [E71.o u30.1, E9.row [([] : Bytes), w_43, w_45, w_42, w_47, wMOD, w_61, w_60_62, w_60, w_60_61, w_62, w_62_61, wAND, wOR, wXOR]], [], 1⟩) K (a0, 1) (by kernel_rfl) (fun u30 => ?_)
  refine Ref.sq ?_
  refine Ref.sq ?_
  refine Ref.rn 3 ?_
  refine RefR.e0 (st' := ⟨[sP 0 0 0 0, (3, .c (.own 1 ([([] : Bytes), w_43, w_45, w_42, w_47, wMOD, w_61, w_60_62, w_60, w_60_61, w_62, w_62_61, wAND, wOR, wXOR].length))), sI 4 u30.2, sB 9 (decide ((u30.2 : Int) < (Int.ofNat ([([] : Bytes), w_43, w_45, w_42, w_47, wMOD, w_61, w_60_62, w_60, w_60_61, w_62, w_62_61, wAND, wOR, wXOR].length))))], [E71.o u30.1, E9.row [([] : Bytes), w_43, w_45, w_42, w_47, wMOD, w_61, w_60_62, w_60, w_60_61, w_62, w_62_61, wAND, wOR, wXOR]], [], 1⟩) 0 4 4 [0, 3, 4, 9] [0, 1] ?_
  refine RefR.letC (stf := fun x38 => ⟨[sP 0 0 0 0, (3, .c (.own 1 ([([] : Bytes), w_43, w_45, w_42, w_47, wMOD, w_61, w_60_62, w_60, w_60_61, w_62, w_62_61, wAND, wOR, wXOR].length))), sI 4 u30.2, sB 9 x38], [E71.o u30.1, E9.row [([] : Bytes), w_43, w_45, w_42, w_47, wMOD, w_61, w_60_62, w_60, w_60_61, w_62, w_62_61, wAND, wOR, wXOR]], [], 1⟩) (by kernel_rfl) (fun x38 => ?_)
  refine RefR.nl 4 ?_
  refine Ref.cn (.tmp 9) x38 (fun hc => ?_) (fun hc => ?_)
  ·
   refine Ref.sk ?_
   refine Ref.sq ?_
   refine Ref.ce (.block 1 (cd (bd Tryz.f47) [1, 1, 0, 1, 0, 0, 1, 0, 0])) ?_
   refine Ref.block (go1 := fun u41 => ⟨[sP 0 0 0 0, (3, .c (.own 1 ([([] : Bytes), w_43, w_45, w_42, w_47, wMOD, w_61, w_60_62, w_60, w_60_61, w_62, w_62_61, wAND, wOR, wXOR].length))), sI 4 u30.2], [E71.o u41, E9.row [([] : Bytes), w_43, w_45, w_42, w_47, wMOD, w_61, w_60_62, w_60, w_60_61, w_62, w_62_61, wAND, wOR, wXOR]], [], 1⟩) ?_ (fun a => match a with | .inl _ => (fun h => by cases h) | .inr _ => (fun h => by cases h)) (fun u41 => ?_)
   ·
    refine Ref.sq ?_
    refine Ref.rn 5 ?_
    refine RefR.evC (vs := [inb u30.2 ([([] : Bytes), w_43, w_45, w_42, w_47, wMOD, w_61, w_60_62, w_60, w_60_61, w_62, w_62_61, wAND, wOR, wXOR].length)]) (st' := ⟨[sP 0 0 0 0, (3, .c (.own 1 ([([] : Bytes), w_43, w_45, w_42, w_47, wMOD, w_61, w_60_62, w_60, w_60_61, w_62, w_62_61, wAND, wOR, wXOR].length))), sI 4 u30.2, sP 12 0 0 0, sS 16 ([([] : Bytes), w_43, w_45, w_42, w_47, wMOD, w_61, w_60_62, w_60, w_60_61, w_62, w_62_61, wAND, wOR, wXOR].getD ((u30.2 : Int).toNat) default)], [E71.o u30.1, E9.row [([] : Bytes), w_43, w_45, w_42, w_47, wMOD, w_61, w_60_62, w_60, w_60_61, w_62, w_62_61, wAND, wOR, wXOR]], [], 1⟩) 0 5 5 [0, 3, 4, 12, 16] [0, 1] rfl (by kernel_rfl) ?_
    refine RefR.letC (stf := fun x42 => ⟨[sP 0 0 0 0, (3, .c (.own 1 ([([] : Bytes), w_43, w_45, w_42, w_47, wMOD, w_61, w_60_62, w_60, w_60_61, w_62, w_62_61, wAND, wOR, wXOR].length))), sI 4 u30.2, sP 12 0 0 0, sS 16 x42], [E71.o u30.1, E9.row [([] : Bytes), w_43, w_45, w_42, w_47, wMOD, w_61, w_60_62, w_60, w_60_61, w_62, w_62_61, wAND, wOR, wXOR]], [], 1⟩) (by kernel_rfl) (fun x42 => ?_)
    refine RefR.cc 17 5 6 [0] (F45_ok K u30.1 x42) (fun r43 => ?_)
    refine RefR.nl 6 ?_
    refine Ref.cn (.tmp 17) r43.1 (fun hc => ?_) (fun hc => ?_)
    ·
     refine Ref.sq ?_
     refine Ref.rn 6 ?_
     refine RefR.e0 (st' := ⟨[sI 2 u30.2], [E71.o r43.2], [], 1⟩) 0 2 2 [2] [0] ?_
     refine RefR.nl 2 ?_
     exact Ref.rt (t := (Sum.inr (Sum.inr (u30.2, r43.2))))
    ·
     refine Ref.sk ?_
     refine Ref.ck ⟨[sP 0 0 0 0, (3, .c (.own 1 ([([] : Bytes), w_43, w_45, w_42, w_47, wMOD, w_61, w_60_62, w_60, w_60_61, w_62, w_62_61, wAND, wOR, wXOR].length))), sI 4 u30.2], [E71.o r43.2, E9.row [([] : Bytes), w_43, w_45, w_42, w_47, wMOD, w_61, w_60_62, w_60, w_60_61, w_62, w_62_61, wAND, wOR, wXOR]], [], 1⟩ [0, 3, 4] [0, 1] ?_
     exact Ref.n0 (t := (r43.2))
   ·
    refine Ref.rn 4 ?_
    refine RefR.e0 (st' := ⟨[sP 0 0 0 0, (3, .c (.own 1 ([([] : Bytes), w_43, w_45, w_42, w_47, wMOD, w_61, w_60_62, w_60, w_60_61, w_62, w_62_61, wAND, wOR, wXOR].length))), sI 4 (IntKind.i64.wrap (u30.2 + 1))], [E71.o u41, E9.row [([] : Bytes), w_43, w_45, w_42, w_47, wMOD, w_61, w_60_62, w_60, w_60_61, w_62, w_62_61, wAND, wOR, wXOR]], [], 1⟩) 0 3 3 [0, 3, 4] [0, 1] ?_
    refine RefR.nl 3 ?_
    exact Ref.n0 (t := (u41, (IntKind.i64.wrap (u30.2 + 1))))
  ·
   refine Ref.ck ⟨[], [E71.o u30.1], [], 1⟩ [] [0] ?_
   exact Ref.xt 0 (t := (Sum.inl (u30.1)))
 ·
  refine Ref.sq ?_
  refine Ref.rn 7 ?_
  refine RefR.e0 (st' := ⟨[sI 2 0], [E71.o u22], [], 1⟩) 0 1 1 [2] [0] ?_
  refine RefR.nl 1 ?_
  exact Ref.rt (t := (0, u22))
def F81 (K : Nat) (a0 : S71) : Option ((Bytes × S71) ⊕ (Bytes × S71)) :=
 ((fnS (F83 K a0 ([40] : Bytes))).bind (fun r1 => ((fnS (F82 K r1)).bind (fun r2 => ((fnS (F83 K r2.2 ([41] : Bytes))).bind (fun r3 => (some (.inl (r2.1, r3)))))))))
theorem F81_ok (K : Nat) (a0 : S71) : DFun Tryz.prog 81 [.c (.ptr 0 0 0)] [E71.o a0] (fnS (F81 K a0)) (fun r => .c (.str r.1)) (fun r => [E71.o r.2]) := by
 refine DFun.it Tryz.f81 (fun r => ⟨[sS 2 r.1], [E71.o r.2], [], 1⟩) ?_
 unfold F81
 refine Ref.sq ?_
 refine Ref.rn 0 ?_
 refine RefR.e0 (st' := ⟨[sP 0 0 0 0], [E71.o a0], [], 1⟩) 0 1 1 [0] [0] ?_
 refine RefR.nl 1 ?_
 refine Ref.sq ?_
 refine Ref.rn 1 ?_
 refine RefR.e1 0 1 1 [0, 4] [0] ?_
 refine RefR.cc 5 1 2 [0] (F83_ok K a0 w_40) (fun r1 => ?_)
 refine RefR.nl 2 ?_
 refine Ref.sq ?_
 refine Ref.rn 2 ?_
 refine RefR.e1 0 1 1 [0, 6] [0] ?_
 refine RefR.cc 7 1 2 [0] (F82_ok K r1) (fun r2 => ?_)
 refine RefR.e0 (st' := ⟨[sP 0 0 0 0, sS 3 r2.1], [E71.o r2.2], [], 1⟩) 2 1 3 [0, 3] [0] ?_
 refine RefR.nl 3 ?_
 refine Ref.sq ?_
 refine Ref.rn 3 ?_
 refine RefR.e1 0 1 1 [3, 8] [0] ?_
 refine RefR.cc 9 1 2 [0] (F83_ok K r2.2 w_41) (fun r3 => ?_)
 refine RefR.nl 2 ?_
 refine Ref.sq ?_
 refine Ref.rn 4 ?_
 refine RefR.e0 (st' := ⟨[sS 2 r2.1], [E71.o r3], [], 1⟩) 0 2 2 [2] [0] ?_
 refine RefR.nl 2 ?_
 exact Ref.rt (t := (r2.1, r3))
mutual
def F23 : (K : Nat) → (S71) → (Int) → Option ((S25 × S71) ⊕ (S25 × S71))
 | 0, _, _ => none
 | K + 1, a0, a1 =>
 ((condM (decide ((a1 : Int) > 6)) (fnS (F44 K a0)) default).bind (fun r1 => (bindS (if ((decide ((a1 : Int) > 6)) && r1) = true then ((fnS (F24 K a0 4)).bind (fun r4 => (some (.inr (r4))))) else (some (.inr (a0)))) (fun (u3 : S71) => ((fnS (F45 K u3 ([45] : Bytes))).bind (fun r5 => (if r5.1 = true then ((fnS (F46 K r5.2 a1)).bind (fun r6 => (some (.inl ((⟨7, 0, ([] : Bytes), ([] : Bytes), [r6.1]⟩ : S25), r6.2))))) else ((fnS (F45 K r5.2 ([78, 79, 84] : Bytes))).bind (fun r7 => (if r7.1 = true then ((fnS (F46 K r7.2 a1)).bind (fun r8 => (some (.inl ((⟨8, 0, ([] : Bytes), ([] : Bytes), [r8.1]⟩ : S25), r8.2))))) else ((fnS (F46 K r7.2 a1)).bind (fun r9 => ((fnS (F47 K r9.2)).bind (fun r10 => (if ((r10.1 : Int) == 0) = true then (some (.inl (r9.1, r10.2))) else ((fnS (F46 K r10.2 a1)).bind (fun r11 => (some (.inl ((⟨9, r10.1, ([] : Bytes), ([] : Bytes), [r9.1, r11.1]⟩ : S25), r11.2))))))))))))))))))))
def F46 : (K : Nat) → (S71) → (Int) → Option ((S25 × S71) ⊕ (S25 × S71))
 | 0, _, _ => none
 | K + 1, a0, a1 =>
 (bindS (blockS ((condM true (fnS (F78 K a0 3)) default).bind (fun r33 => (if r33 = true then ((fnS (F80 K a0)).bind (fun r34 => (some (.inr (r34.2, 1, r34.1, ([] : Bytes), ([] : Bytes), []))))) else ((fnS (F45 K a0 ([84, 82, 85, 69] : Bytes))).bind (fun r35 => (if r35.1 = true then (some (.inr (r35.2, 2, 0, ([] : Bytes), ([] : Bytes), []))) else ((fnS (F45 K r35.2 ([70, 65, 76, 83, 69] : Bytes))).bind (fun r36 => (if r36.1 = true then (some (.inr (r36.2, 3, 0, ([] : Bytes), ([] : Bytes), []))) else ((fnS (F45 K r36.2 ([78, 85, 76, 76] : Bytes))).bind (fun r37 => (if r37.1 = true then (some (.inr (r37.2, 4, 0, ([] : Bytes), ([] : Bytes), []))) else ((fnS (F45 K r37.2 ([82, 69, 70] : Bytes))).bind (fun r38 => (if r38.1 = true then ((fnS (F81 K r38.2)).bind (fun r39 => (some (.inr (r39.2, 10, 0, r39.1, ([] : Bytes), []))))) else ((fnS (F45 K r38.2 ([68, 79, 78, 69] : Bytes))).bind (fun r40 => (if r40.1 = true then ((fnS (F81 K r40.2)).bind (fun r41 => (some (.inr (r41.2, 11, 0, r41.1, ([] : Bytes), []))))) else ((fnS (F45 K r40.2 ([67, 79, 85, 78, 84] : Bytes))).bind (fun r42 => (if r42.1 = true then ((fnS (F81 K r42.2)).bind (fun r43 => (some (.inr (r43.2, 12, 0, r43.1, ([] : Bytes), []))))) else ((fnS (F45 K r42.2 ([65, 83] : Bytes))).bind (fun r44 => (if r44.1 = true then ((fnS (F82 K r44.2)).bind (fun r45 => ((fnS (F83 K r45.2 ([40] : Bytes))).bind (fun r46 => ((fnS (F23 K r46 (IntKind.i64.wrap (a1 + 1)))).bind (fun r47 => ((fnS (F83 K r47.2 ([41] : Bytes))).bind (fun r48 => (some (.inr (r48, 14, 0, r45.1, ([] : Bytes), [r47.1]))))))))))) else ((fnS (F45 K r44.2 ([40] : Bytes))).bind (fun r49 => (if r49.1 = true then ((fnS (F23 K r49.2 (IntKind.i64.wrap (a1 + 1)))).bind (fun r50 => ((fnS (F83 K r50.2 ([41] : Bytes))).bind (fun r51 => (some (.inr (r51, r50.1.fKind, r50.1.fN, r50.1.fName, r50.1.fWhat, r50.1.fArgs))))))) else ((fnS (F45 K r49.2 ([84, 72, 73, 83] : Bytes))).bind (fun r52 => (if r52.1 = true then ((fnS (F84 K r52.2 (⟨0, 1, ([] : Bytes), ([] : Bytes), []⟩ : S25) a1)).bind (fun r53 => (some (.inl (Sum.inr (r53.1, r53.2)))))) else ((fnS (F45 K r52.2 ([83, 85, 80, 69, 82] : Bytes))).bind (fun r54 => (if r54.1 = true then ((fnS (F84 K r54.2 (⟨0, 2, ([] : Bytes), ([] : Bytes), []⟩ : S25) a1)).bind (fun r55 => (some (.inl (Sum.inr (r55.1, r55.2)))))) else ((condM true (fnS (F78 K r54.2 1)) default).bind (fun r56 => (if r56 = true then ((fnS (F82 K r54.2)).bind (fun r57 => ((condM true (fnS (F79 K r57.2 ([46] : Bytes))) default).bind (fun r58 => (if r58 = true then ((fnS (F84 K r57.2 (⟨5, 0, r57.1, ([] : Bytes), []⟩ : S25) a1)).bind (fun r59 => (some (.inl (Sum.inr (r59.1, r59.2)))))) else ((fnS (F45 K r57.2 ([91] : Bytes))).bind (fun r60 => (if r60.1 = true then ((fnS (F23 K r60.2 (IntKind.i64.wrap (a1 + 1)))).bind (fun r61 => ((fnS (F83 K r61.2 ([93] : Bytes))).bind (fun r62 => (some (.inr (r62, 6, 0, r57.1, ([] : Bytes), [r61.1]))))))) else (some (.inr (r60.2, 5, 0, r57.1, ([] : Bytes), []))))))))))) else ((fnS (F24 K r54.2 3)).bind (fun r63 => (some (.inr (r63, 0, 0, ([] : Bytes), ([] : Bytes), [])))))))))))))))))))))))))))))))))))))))))) (fun (u32 : S71 × Int × Int × Bytes × Bytes × (List S25)) => (some (.inl ((⟨u32.2.1, u32.2.2.1, u32.2.2.2.1, u32.2.2.2.2.1, u32.2.2.2.2.2⟩ : S25), u32.1)))))
def F84 : (K : Nat) → (S71) → (S25) → (Int) → Option ((S25 × S71) ⊕ (S25 × S71))
 | 0, _, _, _ => none
 | K + 1, a0, a1, a2 =>
 ((fnS (F83 K a0 ([46] : Bytes))).bind (fun r1 => ((fnS (F82 K r1)).bind (fun r2 => ((fnS (F83 K r2.2 ([40] : Bytes))).bind (fun r3 => ((fnS (F45 K r3 ([41] : Bytes))).bind (fun r4 => (if r4.1 = true then (some (.inl ((⟨13, a1.fN, a1.fName, r2.1, []⟩ : S25), r4.2))) else (bindS (blockS ((iter K (fun (u78 : S71 × (List S25)) => (if ((u78.1.fcode : Int) == 0) = true then (bindS (blockS ((condM true (fnS (F44 K u78.1)) default).bind (fun r106 => (bindS (if r106 = true then ((fnS (F105 K u78.1 (Int.ofNat u78.2.length) 3)).bind (fun r109 => (some (.inr (r109))))) else (some (.inr (u78.1)))) (fun (u108 : S71) => ((fnS (F23 K u108 (IntKind.i64.wrap (a2 + 1)))).bind (fun r110 => (chk [room ((u78.2.length + ([r110.1].length)) * 72)] ((fnS (F45 K r110.2 ([44] : Bytes))).bind (fun r112 => (if (!r112.1) = true then ((fnS (F83 K r112.2 ([41] : Bytes))).bind (fun r113 => (some (.inl (Sum.inr (Sum.inl (r113, (u78.2 ++ [r110.1])))))))) else (some (.inr (r112.2, (u78.2 ++ [r110.1]))))))))))))))) (fun (u105 : S71 × (List S25)) => (some (.inr (u105.1, u105.2))))) else (some (.inl (Sum.inl (u78.1, u78.2)))))) (r4.2, [])).map .inl)) (fun (u59 : S71 × (List S25)) => (some (.inl ((⟨13, a1.fN, a1.fName, r2.1, u59.2⟩ : S25), u59.1))))))))))))))
end
theorem G23_ok : ∀ K : Nat, (∀ (a0 : S71), ∀ (a1 : Int), DFun Tryz.prog 23 [.c (.ptr 0 0 0), .c (.val (.int .i64 a1))] [E71.o a0] (fnS (F23 K a0 a1)) (fun r => .agg (E25.cs r.1)) (fun r => [E71.o r.2, E25.o r.1])) ∧ (∀ (a0 : S71), ∀ (a1 : Int), DFun Tryz.prog 46 [.c (.ptr 0 0 0), .c (.val (.int .i64 a1))] [E71.o a0] (fnS (F46 K a0 a1)) (fun r => .agg (E25.cs r.1)) (fun r => [E71.o r.2, E25.o r.1])) ∧ (∀ (a0 : S71), ∀ (a1 : S25), ∀ (a2 : Int), DFun Tryz.prog 84 [.c (.ptr 0 0 0), .agg [.val (.int .i64 a1.fKind), .val (.int .i64 a1.fN), .str a1.fName, .str a1.fWhat, .nil], .c (.val (.int .i64 a2))] [E71.o a0] (fnS (F84 K a0 a1 a2)) (fun r => .agg (E25.cs r.1)) (fun r => [E71.o r.2, E25.o r.1])) := by
 intro K
 induction K with
 | zero => exact ⟨fun a0 a1 => DFun.none (by rw [F23]; rfl), fun a0 a1 => DFun.none (by rw [F46]; rfl), fun a0 a1 a2 => DFun.none (by rw [F84]; rfl)⟩
 | succ K ih =>
  obtain ⟨ih23, ih46, ih84⟩ := ih
  refine ⟨?_, ?_, ?_⟩
  ·
   intro a0 a1
   refine DFun.it Tryz.f23 (fun r => ⟨[sP 4 1 0 0], [E71.o r.2, E25.o r.1], [], 1⟩) ?_
   rw [F23]
   refine Ref.sq ?_
   refine Ref.rn 0 ?_
   refine RefR.e0 (st' := ⟨[sP 0 0 0 0, sI 1 a1, sP 4 1 0 0], [E71.o a0, oX0], [], 1⟩) 0 1 1 [0, 1, 4] [0, 1] ?_
   refine RefR.nl 1 ?_
   refine Ref.sq ?_
   refine Ref.sq ?_
   refine Ref.rn 1 ?_
   refine RefR.e1 0 4 4 [0, 1, 4, 9, 10] [0, 1] ?_
   refine RefR.lookC (t := 11) (g := [(9, true)]) (b := (decide ((a1 : Int) > 6))) 4 5 [0] (default : Bool) rfl (by kernel_rfl) (F44_ok K a0) (fun _ => rfl) (fun r1 => ?_)
   refine RefR.e0 (st' := ⟨[sP 0 0 0 0, sI 1 a1, sP 4 1 0 0, sB 12 ((decide ((a1 : Int) > 6)) && r1)], [E71.o a0, oX0], [], 1⟩) 5 1 6 [0, 1, 4, 12] [0, 1] ?_
   refine RefR.nl 6 ?_
   refine Ref.bind (go1 := fun u3 => ⟨[sP 0 0 0 0, sI 1 a1, sP 4 1 0 0], [E71.o u3, oX0], [], 1⟩) ?_ (fun u3 => ?_)
   ·
    refine Ref.cn (.tmp 12) ((decide ((a1 : Int) > 6)) && r1) (fun hc => ?_) (fun hc => ?_)
    ·
     refine Ref.rn 2 ?_
     refine RefR.e1 0 1 1 [0, 1, 4, 13] [0, 1] ?_
     refine RefR.cc 14 1 2 [0] (F24_ok K a0 4) (fun r4 => ?_)
     refine RefR.nl 2 ?_
     refine Ref.ck ⟨[sP 0 0 0 0, sI 1 a1, sP 4 1 0 0], [E71.o r4, oX0], [], 1⟩ [0, 1, 4] [0, 1] ?_
     exact Ref.n0 (t := (r4))
    ·
     refine Ref.sk ?_
     refine Ref.ck ⟨[sP 0 0 0 0, sI 1 a1, sP 4 1 0 0], [E71.o a0, oX0], [], 1⟩ [0, 1, 4] [0, 1] ?_
     exact Ref.n0 (t := (a0))
   ·
    refine Ref.sq ?_
    refine Ref.sq ?_
    refine Ref.rn 3 ?_
    refine RefR.e1 0 1 1 [0, 1, 4, 15] [0, 1] ?_
    refine RefR.cc 16 1 2 [0] (F45_ok K u3 w_45) (fun r5 => ?_)
    refine RefR.nl 2 ?_
    refine Ref.cn (.tmp 16) r5.1 (fun hc => ?_) (fun hc => ?_)
    ·
     refine Ref.sq ?_
     refine Ref.rn 4 ?_
     refine RefR.e1 0 2 2 [4, 17, 18] [0, 1] ?_
     refine RefR.cc 19 2 3 [0] (ih46 r5.2 a1) (fun r6 => ?_)
     refine RefR.e0 (st' := ⟨[sP 4 1 0 0, (20, .c (.own 2 1))], [E71.o r6.2, oX0, .row 25 5 1 (tbl [(E25.cs r6.1)])], [], 1⟩) 3 1 4 [4, 20] [0, 1, 3] ?_
     refine RefR.conv (Conv.ob 2 (E25.row [r6.1]) (El.row_build E25 [r6.1] rfl (by kernel_rfl))) ?_
     refine RefR.conv (Conv.sl 20 (.c (.own 2 ([r6.1].length))) (DLe.c (CLe.own (by simp <;> omega)))) ?_
     refine RefR.e0 (st' := ⟨[sP 4 1 0 0], [E71.o r6.2, .cells [iC 7, iC 0, .str [], .str [], .own 2 ([r6.1].length)], E25.row [r6.1]], [], 1⟩) 4 2 6 [4] [0, 1, 2] ?_
     refine RefR.nl 6 ?_
     refine Ref.conv (Conv.freeze (st' := ⟨[sP 4 1 0 0], [E71.o r6.2, .cells [iC 7, iC 0, .str [], .str [], E25.tree [r6.1]], .dead], [], 1⟩) 2 (by kernel_rfl)) ?_
     refine Ref.conv (Conv.ob 1 (.cells [iC 7, iC 0, .str [], .str [], NT25 [r6.1]]) (OLe.cells (All2.cons (CLe.refl _) (All2.cons (CLe.refl _) (All2.cons (CLe.refl _) (All2.cons (CLe.refl _) (All2.cons (NT25_ge _) (All2.nil)))))))) ?_
     refine Ref.ck ⟨[sP 4 1 0 0], [E71.o r6.2, .cells [iC 7, iC 0, .str [], .str [], NT25 [r6.1]]], [], 1⟩ [4] [0, 1] ?_
     exact Ref.rt (t := ((⟨7, 0, ([] : Bytes), ([] : Bytes), [r6.1]⟩ : S25), r6.2))
    ·
     refine Ref.sk ?_
     refine Ref.sq ?_
     refine Ref.sq ?_
     refine Ref.rn 5 ?_
     refine RefR.e1 0 1 1 [0, 1, 4, 22] [0, 1] ?_
     refine RefR.cc 23 1 2 [0] (F45_ok K r5.2 wNOT) (fun r7 => ?_)
     refine RefR.nl 2 ?_
     refine Ref.cn (.tmp 23) r7.1 (fun hc => ?_) (fun hc => ?_)
     ·
      refine Ref.sq ?_
      refine Ref.rn 6 ?_
      refine RefR.e1 0 2 2 [4, 24, 25] [0, 1] ?_
      refine RefR.cc 26 2 3 [0] (ih46 r7.2 a1) (fun r8 => ?_)
      refine RefR.e0 (st' := ⟨[sP 4 1 0 0, (27, .c (.own 2 1))], [E71.o r8.2, oX0, .row 25 5 1 (tbl [(E25.cs r8.1)])], [], 1⟩) 3 1 4 [4, 27] [0, 1, 3] ?_
      refine RefR.conv (Conv.ob 2 (E25.row [r8.1]) (El.row_build E25 [r8.1] rfl (by kernel_rfl))) ?_
      refine RefR.conv (Conv.sl 27 (.c (.own 2 ([r8.1].length))) (DLe.c (CLe.own (by simp <;> omega)))) ?_
      refine RefR.e0 (st' := ⟨[sP 4 1 0 0], [E71.o r8.2, .cells [iC 8, iC 0, .str [], .str [], .own 2 ([r8.1].length)], E25.row [r8.1]], [], 1⟩) 4 2 6 [4] [0, 1, 2] ?_
      refine RefR.nl 6 ?_
      refine Ref.conv (Conv.freeze (st' := ⟨[sP 4 1 0 0], [E71.o r8.2, .cells [iC 8, iC 0, .str [], .str [], E25.tree [r8.1]], .dead], [], 1⟩) 2 (by kernel_rfl)) ?_
      refine Ref.conv (Conv.ob 1 (.cells [iC 8, iC 0, .str [], .str [], NT25 [r8.1]]) (OLe.cells (All2.cons (CLe.refl _) (All2.cons (CLe.refl _) (All2.cons (CLe.refl _) (All2.cons (CLe.refl _) (All2.cons (NT25_ge _) (All2.nil)))))))) ?_
      refine Ref.ck ⟨[sP 4 1 0 0], [E71.o r8.2, .cells [iC 8, iC 0, .str [], .str [], NT25 [r8.1]]], [], 1⟩ [4] [0, 1] ?_
      exact Ref.rt (t := ((⟨8, 0, ([] : Bytes), ([] : Bytes), [r8.1]⟩ : S25), r8.2))
     ·
      refine Ref.sk ?_
      refine Ref.sq ?_
      refine Ref.rn 7 ?_
      refine RefR.e1 0 2 2 [0, 1, 4, 29, 30] [0, 1] ?_
      refine RefR.cc 31 2 3 [0] (ih46 r7.2 a1) (fun r9 => ?_)
      refine RefR.e0 (st' := ⟨[sP 0 0 0 0, sI 1 a1, sP 4 1 0 0, sP 5 2 0 0], [E71.o r9.2, oX0, E25.o r9.1], [], 1⟩) 3 2 5 [0, 1, 4, 5] [0, 1, 3] ?_
      refine RefR.nl 5 ?_
      refine Ref.sq ?_
      refine Ref.rn 8 ?_
      refine RefR.e1 0 1 1 [0, 1, 4, 5, 32] [0, 1, 2] ?_
      refine RefR.cc 33 1 2 [0] (F47_ok K r9.2) (fun r10 => ?_)
      refine RefR.e0 (st' := ⟨[sP 0 0 0 0, sI 1 a1, sP 4 1 0 0, sP 5 2 0 0, sI 6 r10.1], [E71.o r10.2, oX0, E25.o r9.1], [], 1⟩) 2 1 3 [0, 1, 4, 5, 6] [0, 1, 2] ?_
      refine RefR.nl 3 ?_
      refine Ref.sq ?_
      refine Ref.sq ?_
      refine Ref.rn 9 ?_
      refine RefR.e0 (st' := ⟨[sP 0 0 0 0, sI 1 a1, sP 4 1 0 0, sP 5 2 0 0, sI 6 r10.1, sB 35 ((r10.1 : Int) == 0)], [E71.o r10.2, oX0, E25.o r9.1], [], 1⟩) 0 2 2 [0, 1, 4, 5, 6, 35] [0, 1, 2] ?_
      refine RefR.nl 2 ?_
      refine Ref.cn (.tmp 35) ((r10.1 : Int) == 0) (fun hc => ?_) (fun hc => ?_)
      ·
       refine Ref.sq ?_
       refine Ref.rn 10 ?_
       refine RefR.e0 (st' := ⟨[sP 4 1 0 0], [E71.o r10.2, E25.o r9.1], [], 1⟩) 0 2 2 [4] [0, 1] ?_
       refine RefR.nl 2 ?_
       exact Ref.rt (t := (r9.1, r10.2))
      ·
       refine Ref.sk ?_
       refine Ref.sq ?_
       refine Ref.drawnY 11 (by kernel_rfl) (by kernel_rfl) ?_
       refine RefY.evC0 (st' := ⟨[sP 4 1 0 0, sP 5 2 0 0, sI 37 r10.1, sP 39 0 0 0, sI 40 a1], [E71.o r10.2, oX0, E25.o r9.1], [], 1⟩) (fuel' := 5) [0, 2, 3] [4, 5, 37, 39, 40] [0, 1, 2] rfl (by kernel_rfl) (by kernel_rfl) ?_
       refine RefY.toX [4, 7] ?_
       refine RefX.withK1 (fun (r11 : S25 × S71) => ⟨[sP 4 1 0 0], [E71.o r11.2, .cells [iC 9, iC r10.1, .str [], .str [], .own 2 ([r9.1, r11.1].length)], E25.row [r9.1, r11.1]], [], 1⟩) (fun (r11 : S25 × S71) => (some (.inl ((⟨9, r10.1, ([] : Bytes), ([] : Bytes), [r9.1, r11.1]⟩ : S25), r11.2)))) (fun r11 => ?_) (fun hk => ?_)
       ·
        refine Ref.conv (Conv.freeze (st' := ⟨[sP 4 1 0 0], [E71.o r11.2, .cells [iC 9, iC r10.1, .str [], .str [], E25.tree [r9.1, r11.1]], .dead], [], 1⟩) 2 (by kernel_rfl)) ?_
        refine Ref.conv (Conv.ob 1 (.cells [iC 9, iC r10.1, .str [], .str [], NT25 [r9.1, r11.1]]) (OLe.cells (All2.cons (CLe.refl _) (All2.cons (CLe.refl _) (All2.cons (CLe.refl _) (All2.cons (CLe.refl _) (All2.cons (NT25_ge _) (All2.nil)))))))) ?_
        refine Ref.ck ⟨[sP 4 1 0 0], [E71.o r11.2, .cells [iC 9, iC r10.1, .str [], .str [], NT25 [r9.1, r11.1]]], [], 1⟩ [4] [0, 1] ?_
        exact Ref.rt (t := ((⟨9, r10.1, ([] : Bytes), ([] : Bytes), [r9.1, r11.1]⟩ : S25), r11.2))
       ·
        refine RefX.pend0 (fuel' := 4) [[], [(1, 38)]] [(1, 38)] [4, 5, 37, 39, 40] [0, 1, 2] ⟨[sP 4 1 0 0, sP 5 2 0 0, sI 37 r10.1, (38, .agg (E25.cs r9.1)), sP 39 0 0 0, sI 40 a1], [E71.o r10.2, oX0, E25.o r9.1], [], 1⟩ ?_
        refine RefXq.fork1 (fuel' := 3) 4 ?_
        refine RefXqi.callC (t := 41) 4 [0] rfl (by kernel_rfl) (ih46 r10.2 a1) (fun r11 => ?_)
        refine RefXq.close ?_
        refine RefX.madeC0 (st' := ⟨[sP 4 1 0 0, sI 37 r10.1, (42, .c (.own 2 2))], [E71.o r11.2, oX0, .row 25 5 2 (tbl [(E25.cs r9.1), (E25.cs r11.1)])], [], 1⟩) (fuel' := 2) 5 [4, 37, 42] [0, 1, 4] rfl (by kernel_rfl) (by kernel_rfl) ?_
        refine RefX.conv (Conv.ob 2 (E25.row [r9.1, r11.1]) (El.row_build E25 [r9.1, r11.1] rfl (by kernel_rfl))) ?_
        refine RefX.conv (Conv.sl 42 (.c (.own 2 ([r9.1, r11.1].length))) (DLe.c (CLe.own (by simp <;> omega)))) ?_
        refine RefX.v0 (fuel' := 1) [6] [4, 43] [0, 1, 2] ?_
        refine RefX.fork1 (fuel' := 0) 7 (by kernel_rfl) ?_
        refine RefXi.w0 7 [4] [0, 1, 2] ?_
        refine RefX.done (by kernel_rfl) ?_
        refine Ref.ck ⟨[sP 4 1 0 0], [E71.o r11.2, .cells [iC 9, iC r10.1, .str [], .str [], .own 2 ([r9.1, r11.1].length)], E25.row [r9.1, r11.1]], [], 1⟩ [4] [0, 1, 2] ?_
        exact hk r11
  ·
   intro a0 a1
   refine DFun.it Tryz.f46 (fun r => ⟨[sP 4 1 0 0], [E71.o r.2, E25.o r.1], [], 1⟩) ?_
   rw [F46]
   refine Ref.sq ?_
   refine Ref.rn 0 ?_
   refine RefR.e0 (st' := ⟨[sP 0 0 0 0, sI 1 a1, sP 4 1 0 0], [E71.o a0, oX0], [], 1⟩) 0 1 1 [0, 1, 4] [0, 1] ?_
   refine RefR.nl 1 ?_
   refine Ref.sq ?_
   refine Ref.rn 1 ?_
   refine RefR.e0 (st' := ⟨[sP 0 0 0 0, sI 1 a1, sP 4 1 0 0, sP 5 2 0 0], [E71.o a0, oX0, oX0], [], 1⟩) 0 3 3 [0, 1, 4, 5] [0, 1, 2] ?_
   refine RefR.nl 3 ?_
   refine Ref.sq ?_
   refine Ref.ce (.block 0 (cd (bd Tryz.f46) [1, 1, 0, 0])) ?_
   refine Ref.block (go1 := fun u32 => ⟨[sP 4 1 0 0, sP 5 2 0 0], [E71.o u32.1, oX0, .cells [iC u32.2.1, iC u32.2.2.1, .str u32.2.2.2.1, .str u32.2.2.2.2.1, E25.tree u32.2.2.2.2.2]], [], 1⟩) ?_ (fun _ h => by cases h) (fun u32 => ?_)
   ·
    refine Ref.sq ?_
    refine Ref.rn 3 ?_
    refine RefR.e1 0 1 1 [0, 1, 4, 5, 10] [0, 1, 2] ?_
    refine RefR.lookC (t := 11) (g := []) (b := true) 1 2 [0] (default : Bool) rfl (by kernel_rfl) (F78_ok K a0 3) (fun _ => rfl) (fun r33 => ?_)
    refine RefR.e0 (st' := ⟨[sP 0 0 0 0, sI 1 a1, sP 4 1 0 0, sP 5 2 0 0, sB 9 r33], [E71.o a0, oX0, oX0], [], 1⟩) 2 1 3 [0, 1, 4, 5, 9] [0, 1, 2] ?_
    refine RefR.nl 3 ?_
    refine Ref.cn (.tmp 9) r33 (fun hc => ?_) (fun hc => ?_)
    ·
     refine Ref.rn 4 ?_
     refine RefR.e1 0 1 1 [4, 5, 12] [0, 1, 2] ?_
     refine RefR.cc 13 1 2 [0] (F80_ok K a0) (fun r34 => ?_)
     refine RefR.e0 (st' := ⟨[sP 4 1 0 0, sP 5 2 0 0], [E71.o r34.2, oX0, .cells [iC 1, iC r34.1, .str [], .str [], .nil]], [], 1⟩) 2 4 6 [4, 5] [0, 1, 2] ?_
     refine RefR.nl 6 ?_
     refine Ref.conv (Conv.ob 2 (.cells [iC 1, iC r34.1, .str [], .str [], E25.tree []]) (OLe.cells (All2.cons (CLe.refl _) (All2.cons (CLe.refl _) (All2.cons (CLe.refl _) (All2.cons (CLe.refl _) (All2.cons (El.tree_nil E25) (All2.nil)))))))) ?_
     exact Ref.n0 (t := (r34.2, 1, r34.1, ([] : Bytes), ([] : Bytes), []))
    ·
     refine Ref.sq ?_
     refine Ref.rn 5 ?_
     refine RefR.e1 0 1 1 [0, 1, 4, 5, 17] [0, 1, 2] ?_
     refine RefR.cc 18 1 2 [0] (F45_ok K a0 wTRUE) (fun r35 => ?_)
     refine RefR.e0 (st' := ⟨[sP 0 0 0 0, sI 1 a1, sP 4 1 0 0, sP 5 2 0 0, sB 16 r35.1], [E71.o r35.2, oX0, oX0], [], 1⟩) 2 1 3 [0, 1, 4, 5, 16] [0, 1, 2] ?_
     refine RefR.nl 3 ?_
     refine Ref.cn (.tmp 16) r35.1 (fun hc => ?_) (fun hc => ?_)
     ·
      refine Ref.rn 6 ?_
      refine RefR.e0 (st' := ⟨[sP 4 1 0 0, sP 5 2 0 0], [E71.o r35.2, oX0, .cells [iC 2, iC 0, .str [], .str [], .nil]], [], 1⟩) 0 2 2 [4, 5] [0, 1, 2] ?_
      refine RefR.nl 2 ?_
      refine Ref.conv (Conv.ob 2 (.cells [iC 2, iC 0, .str [], .str [], E25.tree []]) (OLe.cells (All2.cons (CLe.refl _) (All2.cons (CLe.refl _) (All2.cons (CLe.refl _) (All2.cons (CLe.refl _) (All2.cons (El.tree_nil E25) (All2.nil)))))))) ?_
      exact Ref.n0 (t := (r35.2, 2, 0, ([] : Bytes), ([] : Bytes), []))
     ·
      refine Ref.sq ?_
      refine Ref.rn 7 ?_
      refine RefR.e1 0 1 1 [0, 1, 4, 5, 21] [0, 1, 2] ?_
      refine RefR.cc 22 1 2 [0] (F45_ok K r35.2 wFALSE) (fun r36 => ?_)
      refine RefR.e0 (st' := ⟨[sP 0 0 0 0, sI 1 a1, sP 4 1 0 0, sP 5 2 0 0, sB 20 r36.1], [E71.o r36.2, oX0, oX0], [], 1⟩) 2 1 3 [0, 1, 4, 5, 20] [0, 1, 2] ?_
      refine RefR.nl 3 ?_
      refine Ref.cn (.tmp 20) r36.1 (fun hc => ?_) (fun hc => ?_)
      ·
       refine Ref.rn 8 ?_
       refine RefR.e0 (st' := ⟨[sP 4 1 0 0, sP 5 2 0 0], [E71.o r36.2, oX0, .cells [iC 3, iC 0, .str [], .str [], .nil]], [], 1⟩) 0 2 2 [4, 5] [0, 1, 2] ?_
       refine RefR.nl 2 ?_
       refine Ref.conv (Conv.ob 2 (.cells [iC 3, iC 0, .str [], .str [], E25.tree []]) (OLe.cells (All2.cons (CLe.refl _) (All2.cons (CLe.refl _) (All2.cons (CLe.refl _) (All2.cons (CLe.refl _) (All2.cons (El.tree_nil E25) (All2.nil)))))))) ?_
       exact Ref.n0 (t := (r36.2, 3, 0, ([] : Bytes), ([] : Bytes), []))
      ·
       refine Ref.sq ?_
       refine Ref.rn 9 ?_
       refine RefR.e1 0 1 1 [0, 1, 4, 5, 25] [0, 1, 2] ?_
       refine RefR.cc 26 1 2 [0] (F45_ok K r36.2 wNULL) (fun r37 => ?_)
       refine RefR.e0 (st' := ⟨[sP 0 0 0 0, sI 1 a1, sP 4 1 0 0, sP 5 2 0 0, sB 24 r37.1], [E71.o r37.2, oX0, oX0], [], 1⟩) 2 1 3 [0, 1, 4, 5, 24] [0, 1, 2] ?_
       refine RefR.nl 3 ?_
       refine Ref.cn (.tmp 24) r37.1 (fun hc => ?_) (fun hc => ?_)
       ·
        refine Ref.rn 10 ?_
        refine RefR.e0 (st' := ⟨[sP 4 1 0 0, sP 5 2 0 0], [E71.o r37.2, oX0, .cells [iC 4, iC 0, .str [], .str [], .nil]], [], 1⟩) 0 2 2 [4, 5] [0, 1, 2] ?_
        refine RefR.nl 2 ?_
        refine Ref.conv (Conv.ob 2 (.cells [iC 4, iC 0, .str [], .str [], E25.tree []]) (OLe.cells (All2.cons (CLe.refl _) (All2.cons (CLe.refl _) (All2.cons (CLe.refl _) (All2.cons (CLe.refl _) (All2.cons (El.tree_nil E25) (All2.nil)))))))) ?_
        exact Ref.n0 (t := (r37.2, 4, 0, ([] : Bytes), ([] : Bytes), []))
       ·
        refine Ref.sq ?_
        refine Ref.rn 11 ?_
        refine RefR.e1 0 1 1 [0, 1, 4, 5, 29] [0, 1, 2] ?_
        refine RefR.cc 30 1 2 [0] (F45_ok K r37.2 wREF) (fun r38 => ?_)
        refine RefR.e0 (st' := ⟨[sP 0 0 0 0, sI 1 a1, sP 4 1 0 0, sP 5 2 0 0, sB 28 r38.1], [E71.o r38.2, oX0, oX0], [], 1⟩) 2 1 3 [0, 1, 4, 5, 28] [0, 1, 2] ?_
        refine RefR.nl 3 ?_
        refine Ref.cn (.tmp 28) r38.1 (fun hc => ?_) (fun hc => ?_)
        ·
         refine Ref.rn 12 ?_
         refine RefR.e1 0 1 1 [4, 5, 31] [0, 1, 2] ?_
         refine RefR.cc 32 1 2 [0] (F81_ok K r38.2) (fun r39 => ?_)
         refine RefR.e0 (st' := ⟨[sP 4 1 0 0, sP 5 2 0 0], [E71.o r39.2, oX0, .cells [iC 10, iC 0, .str r39.1, .str [], .nil]], [], 1⟩) 2 4 6 [4, 5] [0, 1, 2] ?_
         refine RefR.nl 6 ?_
         refine Ref.conv (Conv.ob 2 (.cells [iC 10, iC 0, .str r39.1, .str [], E25.tree []]) (OLe.cells (All2.cons (CLe.refl _) (All2.cons (CLe.refl _) (All2.cons (CLe.refl _) (All2.cons (CLe.refl _) (All2.cons (El.tree_nil E25) (All2.nil)))))))) ?_
         exact Ref.n0 (t := (r39.2, 10, 0, r39.1, ([] : Bytes), []))
        ·
         refine Ref.sq ?_
         refine Ref.rn 13 ?_
         refine RefR.e1 0 1 1 [0, 1, 4, 5, 36] [0, 1, 2] ?_
         refine RefR.cc 37 1 2 [0] (F45_ok K r38.2 wDONE) (fun r40 => ?_)
         refine RefR.e0 (st' := ⟨[sP 0 0 0 0, sI 1 a1, sP 4 1 0 0, sP 5 2 0 0, sB 35 r40.1], [E71.o r40.2, oX0, oX0], [], 1⟩) 2 1 3 [0, 1, 4, 5, 35] [0, 1, 2] ?_
         refine RefR.nl 3 ?_
         refine Ref.cn (.tmp 35) r40.1 (fun hc => ?_) (fun hc => ?_)
         ·
          refine Ref.rn 14 ?_
          refine RefR.e1 0 1 1 [4, 5, 38] [0, 1, 2] ?_
          refine RefR.cc 39 1 2 [0] (F81_ok K r40.2) (fun r41 => ?_)
          refine RefR.e0 (st' := ⟨[sP 4 1 0 0, sP 5 2 0 0], [E71.o r41.2, oX0, .cells [iC 11, iC 0, .str r41.1, .str [], .nil]], [], 1⟩) 2 4 6 [4, 5] [0, 1, 2] ?_
          refine RefR.nl 6 ?_
          refine Ref.conv (Conv.ob 2 (.cells [iC 11, iC 0, .str r41.1, .str [], E25.tree []]) (OLe.cells (All2.cons (CLe.refl _) (All2.cons (CLe.refl _) (All2.cons (CLe.refl _) (All2.cons (CLe.refl _) (All2.cons (El.tree_nil E25) (All2.nil)))))))) ?_
          exact Ref.n0 (t := (r41.2, 11, 0, r41.1, ([] : Bytes), []))
         ·
          refine Ref.sq ?_
          refine Ref.rn 15 ?_
          refine RefR.e1 0 1 1 [0, 1, 4, 5, 43] [0, 1, 2] ?_
          refine RefR.cc 44 1 2 [0] (F45_ok K r40.2 wCOUNT) (fun r42 => ?_)
          refine RefR.e0 (st' := ⟨[sP 0 0 0 0, sI 1 a1, sP 4 1 0 0, sP 5 2 0 0, sB 42 r42.1], [E71.o r42.2, oX0, oX0], [], 1⟩) 2 1 3 [0, 1, 4, 5, 42] [0, 1, 2] ?_
          refine RefR.nl 3 ?_
          refine Ref.cn (.tmp 42) r42.1 (fun hc => ?_) (fun hc => ?_)
          ·
           refine Ref.rn 16 ?_
           refine RefR.e1 0 1 1 [4, 5, 45] [0, 1, 2] ?_
           refine RefR.cc 46 1 2 [0] (F81_ok K r42.2) (fun r43 => ?_)
           refine RefR.e0 (st' := ⟨[sP 4 1 0 0, sP 5 2 0 0], [E71.o r43.2, oX0, .cells [iC 12, iC 0, .str r43.1, .str [], .nil]], [], 1⟩) 2 4 6 [4, 5] [0, 1, 2] ?_
           refine RefR.nl 6 ?_
           refine Ref.conv (Conv.ob 2 (.cells [iC 12, iC 0, .str r43.1, .str [], E25.tree []]) (OLe.cells (All2.cons (CLe.refl _) (All2.cons (CLe.refl _) (All2.cons (CLe.refl _) (All2.cons (CLe.refl _) (All2.cons (El.tree_nil E25) (All2.nil)))))))) ?_
           exact Ref.n0 (t := (r43.2, 12, 0, r43.1, ([] : Bytes), []))
          ·
           refine Ref.sq ?_
           refine Ref.rn 17 ?_
           refine RefR.e1 0 1 1 [0, 1, 4, 5, 50] [0, 1, 2] ?_
           refine RefR.cc 51 1 2 [0] (F45_ok K r42.2 wAS) (fun r44 => ?_)
           refine RefR.e0 (st' := ⟨[sP 0 0 0 0, sI 1 a1, sP 4 1 0 0, sP 5 2 0 0, sB 49 r44.1], [E71.o r44.2, oX0, oX0], [], 1⟩) 2 1 3 [0, 1, 4, 5, 49] [0, 1, 2] ?_
           refine RefR.nl 3 ?_
           refine Ref.cn (.tmp 49) r44.1 (fun hc => ?_) (fun hc => ?_)
           ·
            refine Ref.sq ?_
            refine Ref.rn 18 ?_
            refine RefR.e1 0 1 1 [0, 1, 4, 5, 52] [0, 1, 2] ?_
            refine RefR.cc 53 1 2 [0] (F82_ok K r44.2) (fun r45 => ?_)
            refine RefR.e0 (st' := ⟨[sP 0 0 0 0, sI 1 a1, sP 4 1 0 0, sP 5 2 0 0], [E71.o r45.2, oX0, .cells [iC 14, iC 0, .str r45.1, .str [], .nil]], [], 1⟩) 2 4 6 [0, 1, 4, 5] [0, 1, 2] ?_
            refine RefR.nl 6 ?_
            refine Ref.sq ?_
            refine Ref.rn 19 ?_
            refine RefR.e1 0 1 1 [0, 1, 4, 5, 56] [0, 1, 2] ?_
            refine RefR.cc 57 1 2 [0] (F83_ok K r45.2 w_40) (fun r46 => ?_)
            refine RefR.nl 2 ?_
            refine Ref.sq ?_
            refine Ref.rn 20 ?_
            refine RefR.e1 0 3 3 [0, 4, 5, 58, 60] [0, 1, 2] ?_
            refine RefR.cc 61 3 4 [0] (ih23 r46 (IntKind.i64.wrap (a1 + 1))) (fun r47 => ?_)
            refine RefR.e0 (st' := ⟨[sP 0 0 0 0, sP 4 1 0 0, sP 5 2 0 0, (62, .c (.own 3 1))], [E71.o r47.2, oX0, .cells [iC 14, iC 0, .str r45.1, .str [], .nil], .row 25 5 1 (tbl [(E25.cs r47.1)])], [], 1⟩) 4 1 5 [0, 4, 5, 62] [0, 1, 2, 4] ?_
            refine RefR.conv (Conv.ob 3 (E25.row [r47.1]) (El.row_build E25 [r47.1] rfl (by kernel_rfl))) ?_
            refine RefR.conv (Conv.sl 62 (.c (.own 3 ([r47.1].length))) (DLe.c (CLe.own (by simp <;> omega)))) ?_
            refine RefR.e0 (st' := ⟨[sP 0 0 0 0, sP 4 1 0 0, sP 5 2 0 0], [E71.o r47.2, oX0, .cells [iC 14, iC 0, .str r45.1, .str [], .own 3 ([r47.1].length)], E25.row [r47.1]], [], 1⟩) 5 2 7 [0, 4, 5] [0, 1, 2, 3] ?_
            refine RefR.nl 7 ?_
            refine Ref.rn 21 ?_
            refine RefR.e1 0 1 1 [4, 5, 64] [0, 1, 2, 3] ?_
            refine RefR.cc 65 1 2 [0] (F83_ok K r47.2 w_41) (fun r48 => ?_)
            refine RefR.nl 2 ?_
            refine Ref.conv (Conv.freeze (st' := ⟨[(65, .tup []), sP 4 1 0 0, sP 5 2 0 0, sP 64 0 0 0], [E71.o r48, oX0, .cells [iC 14, iC 0, .str r45.1, .str [], E25.tree [r47.1]], .dead], [], 1⟩) 3 (by kernel_rfl)) ?_
            refine Ref.ck ⟨[sP 4 1 0 0, sP 5 2 0 0], [E71.o r48, oX0, .cells [iC 14, iC 0, .str r45.1, .str [], E25.tree [r47.1]]], [], 1⟩ [4, 5] [0, 1, 2] ?_
            exact Ref.n0 (t := (r48, 14, 0, r45.1, ([] : Bytes), [r47.1]))
           ·
            refine Ref.sq ?_
            refine Ref.rn 22 ?_
            refine RefR.e1 0 1 1 [0, 1, 4, 5, 67] [0, 1, 2] ?_
            refine RefR.cc 68 1 2 [0] (F45_ok K r44.2 w_40) (fun r49 => ?_)
            refine RefR.e0 (st' := ⟨[sP 0 0 0 0, sI 1 a1, sP 4 1 0 0, sP 5 2 0 0, sB 66 r49.1], [E71.o r49.2, oX0, oX0], [], 1⟩) 2 1 3 [0, 1, 4, 5, 66] [0, 1, 2] ?_
            refine RefR.nl 3 ?_
            refine Ref.cn (.tmp 66) r49.1 (fun hc => ?_) (fun hc => ?_)
            ·
             refine Ref.sq ?_
             refine Ref.rn 23 ?_
             refine RefR.e1 0 3 3 [0, 4, 5, 69, 71] [0, 1, 2] ?_
             refine RefR.cc 72 3 4 [0] (ih23 r49.2 (IntKind.i64.wrap (a1 + 1))) (fun r50 => ?_)
             refine RefR.e0 (st' := ⟨[sP 0 0 0 0, sP 4 1 0 0, sP 5 2 0 0], [E71.o r50.2, oX0, E25.o r50.1], [], 1⟩) 4 1 5 [0, 4, 5] [0, 1, 2] ?_
             refine RefR.nl 5 ?_
             refine Ref.rn 24 ?_
             refine RefR.e1 0 1 1 [4, 5, 73] [0, 1, 2] ?_
             refine RefR.cc 74 1 2 [0] (F83_ok K r50.2 w_41) (fun r51 => ?_)
             refine RefR.nl 2 ?_
             refine Ref.conv (Conv.ob 2 (.cells [iC r50.1.fKind, iC r50.1.fN, .str r50.1.fName, .str r50.1.fWhat, E25.tree r50.1.fArgs]) (OLe.cells (All2.cons (CLe.refl _) (All2.cons (CLe.refl _) (All2.cons (CLe.refl _) (All2.cons (CLe.refl _) (All2.cons (NT25_le _) (All2.nil)))))))) ?_
             refine Ref.ck ⟨[sP 4 1 0 0, sP 5 2 0 0], [E71.o r51, oX0, .cells [iC r50.1.fKind, iC r50.1.fN, .str r50.1.fName, .str r50.1.fWhat, E25.tree r50.1.fArgs]], [], 1⟩ [4, 5] [0, 1, 2] ?_
             exact Ref.n0 (t := (r51, r50.1.fKind, r50.1.fN, r50.1.fName, r50.1.fWhat, r50.1.fArgs))
            ·
             refine Ref.sq ?_
             refine Ref.rn 25 ?_
             refine RefR.e1 0 1 1 [0, 1, 4, 5, 76] [0, 1, 2] ?_
             refine RefR.cc 77 1 2 [0] (F45_ok K r49.2 wTHIS) (fun r52 => ?_)
             refine RefR.e0 (st' := ⟨[sP 0 0 0 0, sI 1 a1, sP 4 1 0 0, sP 5 2 0 0, sB 75 r52.1], [E71.o r52.2, oX0, oX0], [], 1⟩) 2 1 3 [0, 1, 4, 5, 75] [0, 1, 2] ?_
             refine RefR.nl 3 ?_
             refine Ref.cn (.tmp 75) r52.1 (fun hc => ?_) (fun hc => ?_)
             ·
              refine Ref.sq ?_
              refine Ref.rn 26 ?_
              refine RefR.e1 0 3 3 [4, 78, 79, 80] [0, 1] ?_
              refine RefR.cc 81 3 4 [0] (ih84 r52.2 (⟨0, 1, ([] : Bytes), ([] : Bytes), []⟩ : S25) a1) (fun r53 => ?_)
              refine RefR.e0 (st' := ⟨[sP 4 1 0 0], [E71.o r53.2, E25.o r53.1], [], 1⟩) 4 1 5 [4] [0, 1] ?_
              refine RefR.nl 5 ?_
              exact Ref.rt (t := (Sum.inr (r53.1, r53.2)))
             ·
              refine Ref.sq ?_
              refine Ref.rn 27 ?_
              refine RefR.e1 0 1 1 [0, 1, 4, 5, 83] [0, 1, 2] ?_
              refine RefR.cc 84 1 2 [0] (F45_ok K r52.2 wSUPER) (fun r54 => ?_)
              refine RefR.e0 (st' := ⟨[sP 0 0 0 0, sI 1 a1, sP 4 1 0 0, sP 5 2 0 0, sB 82 r54.1], [E71.o r54.2, oX0, oX0], [], 1⟩) 2 1 3 [0, 1, 4, 5, 82] [0, 1, 2] ?_
              refine RefR.nl 3 ?_
              refine Ref.cn (.tmp 82) r54.1 (fun hc => ?_) (fun hc => ?_)
              ·
               refine Ref.sq ?_
               refine Ref.rn 28 ?_
               refine RefR.e1 0 3 3 [4, 85, 86, 87] [0, 1] ?_
               refine RefR.cc 88 3 4 [0] (ih84 r54.2 (⟨0, 2, ([] : Bytes), ([] : Bytes), []⟩ : S25) a1) (fun r55 => ?_)
               refine RefR.e0 (st' := ⟨[sP 4 1 0 0], [E71.o r55.2, E25.o r55.1], [], 1⟩) 4 1 5 [4] [0, 1] ?_
               refine RefR.nl 5 ?_
               exact Ref.rt (t := (Sum.inr (r55.1, r55.2)))
              ·
               refine Ref.sq ?_
               refine Ref.rn 29 ?_
               refine RefR.e1 0 1 1 [0, 1, 4, 5, 90] [0, 1, 2] ?_
               refine RefR.lookC (t := 91) (g := []) (b := true) 1 2 [0] (default : Bool) rfl (by kernel_rfl) (F78_ok K r54.2 1) (fun _ => rfl) (fun r56 => ?_)
               refine RefR.e0 (st' := ⟨[sP 0 0 0 0, sI 1 a1, sP 4 1 0 0, sP 5 2 0 0, sB 89 r56], [E71.o r54.2, oX0, oX0], [], 1⟩) 2 1 3 [0, 1, 4, 5, 89] [0, 1, 2] ?_
               refine RefR.nl 3 ?_
               refine Ref.cn (.tmp 89) r56 (fun hc => ?_) (fun hc => ?_)
               ·
                refine Ref.sq ?_
                refine Ref.rn 30 ?_
                refine RefR.e1 0 1 1 [0, 1, 4, 5, 92] [0, 1, 2] ?_
                refine RefR.cc 93 1 2 [0] (F82_ok K r54.2) (fun r57 => ?_)
                refine RefR.e0 (st' := ⟨[sP 0 0 0 0, sI 1 a1, sP 4 1 0 0, sP 5 2 0 0], [E71.o r57.2, oX0, .cells [iC 5, iC 0, .str r57.1, .str [], .nil]], [], 1⟩) 2 4 6 [0, 1, 4, 5] [0, 1, 2] ?_
                refine RefR.nl 6 ?_
                refine Ref.sq ?_
                refine Ref.sq ?_
                refine Ref.rn 31 ?_
                refine RefR.e1 0 1 1 [0, 1, 4, 5, 96] [0, 1, 2] ?_
                refine RefR.lookC (t := 97) (g := []) (b := true) 1 2 [0] (default : Bool) rfl (by kernel_rfl) (F79_ok K r57.2 ([46] : Bytes)) (fun _ => rfl) (fun r58 => ?_)
                refine RefR.nl 2 ?_
                refine Ref.cn (.tmp 97) r58 (fun hc => ?_) (fun hc => ?_)
                ·
                 refine Ref.sq ?_
                 refine Ref.rn 32 ?_
                 refine RefR.e1 0 3 3 [4, 98, 99, 100] [0, 1] ?_
                 refine RefR.cc 101 3 4 [0] (ih84 r57.2 (⟨5, 0, r57.1, ([] : Bytes), []⟩ : S25) a1) (fun r59 => ?_)
                 refine RefR.e0 (st' := ⟨[sP 4 1 0 0], [E71.o r59.2, E25.o r59.1], [], 1⟩) 4 1 5 [4] [0, 1] ?_
                 refine RefR.nl 5 ?_
                 exact Ref.rt (t := (Sum.inr (r59.1, r59.2)))
                ·
                 refine Ref.sk ?_
                 refine Ref.sq ?_
                 refine Ref.rn 33 ?_
                 refine RefR.e1 0 1 1 [0, 1, 4, 5, 102] [0, 1, 2] ?_
                 refine RefR.cc 103 1 2 [0] (F45_ok K r57.2 ([91] : Bytes)) (fun r60 => ?_)
                 refine RefR.nl 2 ?_
                 refine Ref.cn (.tmp 103) r60.1 (fun hc => ?_) (fun hc => ?_)
                 ·
                  refine Ref.sq ?_
                  refine Ref.rn 34 ?_
                  refine RefR.e0 (st' := ⟨[sP 0 0 0 0, sI 1 a1, sP 4 1 0 0, sP 5 2 0 0], [E71.o r60.2, oX0, .cells [iC 6, iC 0, .str r57.1, .str [], .nil]], [], 1⟩) 0 2 2 [0, 1, 4, 5] [0, 1, 2] ?_
                  refine RefR.nl 2 ?_
                  refine Ref.sq ?_
                  refine Ref.rn 35 ?_
                  refine RefR.e1 0 3 3 [0, 4, 5, 105, 107] [0, 1, 2] ?_
                  refine RefR.cc 108 3 4 [0] (ih23 r60.2 (IntKind.i64.wrap (a1 + 1))) (fun r61 => ?_)
                  refine RefR.e0 (st' := ⟨[sP 0 0 0 0, sP 4 1 0 0, sP 5 2 0 0, (109, .c (.own 3 1))], [E71.o r61.2, oX0, .cells [iC 6, iC 0, .str r57.1, .str [], .nil], .row 25 5 1 (tbl [(E25.cs r61.1)])], [], 1⟩) 4 1 5 [0, 4, 5, 109] [0, 1, 2, 4] ?_
                  refine RefR.conv (Conv.ob 3 (E25.row [r61.1]) (El.row_build E25 [r61.1] rfl (by kernel_rfl))) ?_
                  refine RefR.conv (Conv.sl 109 (.c (.own 3 ([r61.1].length))) (DLe.c (CLe.own (by simp <;> omega)))) ?_
                  refine RefR.e0 (st' := ⟨[sP 0 0 0 0, sP 4 1 0 0, sP 5 2 0 0], [E71.o r61.2, oX0, .cells [iC 6, iC 0, .str r57.1, .str [], .own 3 ([r61.1].length)], E25.row [r61.1]], [], 1⟩) 5 2 7 [0, 4, 5] [0, 1, 2, 3] ?_
                  refine RefR.nl 7 ?_
                  refine Ref.rn 36 ?_
                  refine RefR.e1 0 1 1 [4, 5, 111] [0, 1, 2, 3] ?_
                  refine RefR.cc 112 1 2 [0] (F83_ok K r61.2 ([93] : Bytes)) (fun r62 => ?_)
                  refine RefR.nl 2 ?_
                  refine Ref.conv (Conv.freeze (st' := ⟨[(112, .tup []), sP 4 1 0 0, sP 5 2 0 0, sP 111 0 0 0], [E71.o r62, oX0, .cells [iC 6, iC 0, .str r57.1, .str [], E25.tree [r61.1]], .dead], [], 1⟩) 3 (by kernel_rfl)) ?_
                  refine Ref.ck ⟨[sP 4 1 0 0, sP 5 2 0 0], [E71.o r62, oX0, .cells [iC 6, iC 0, .str r57.1, .str [], E25.tree [r61.1]]], [], 1⟩ [4, 5] [0, 1, 2] ?_
                  exact Ref.n0 (t := (r62, 6, 0, r57.1, ([] : Bytes), [r61.1]))
                 ·
                  refine Ref.sk ?_
                  refine Ref.conv (Conv.ob 2 (.cells [iC 5, iC 0, .str r57.1, .str [], E25.tree []]) (OLe.cells (All2.cons (CLe.refl _) (All2.cons (CLe.refl _) (All2.cons (CLe.refl _) (All2.cons (CLe.refl _) (All2.cons (El.tree_nil E25) (All2.nil)))))))) ?_
                  refine Ref.ck ⟨[sP 4 1 0 0, sP 5 2 0 0], [E71.o r60.2, oX0, .cells [iC 5, iC 0, .str r57.1, .str [], E25.tree []]], [], 1⟩ [4, 5] [0, 1, 2] ?_
                  exact Ref.n0 (t := (r60.2, 5, 0, r57.1, ([] : Bytes), []))
               ·
                refine Ref.rn 2 ?_
                refine RefR.e1 0 1 1 [4, 5, 7] [0, 1, 2] ?_
                refine RefR.cc 8 1 2 [0] (F24_ok K r54.2 3) (fun r63 => ?_)
                refine RefR.nl 2 ?_
                refine Ref.conv (Conv.ob 2 (oX4) (OLe.cells (All2.cons (CLe.refl _) (All2.cons (CLe.refl _) (All2.cons (CLe.refl _) (All2.cons (CLe.refl _) (All2.cons (El.tree_nil E25) (All2.nil)))))))) ?_
                refine Ref.ck ⟨[sP 4 1 0 0, sP 5 2 0 0], [E71.o r63, oX0, oX4], [], 1⟩ [4, 5] [0, 1, 2] ?_
                exact Ref.n0 (t := (r63, 0, 0, ([] : Bytes), ([] : Bytes), []))
   ·
    refine Ref.sq ?_
    refine Ref.rn 37 ?_
    refine RefR.e0 (st' := ⟨[sP 4 1 0 0], [E71.o u32.1, .cells [iC u32.2.1, iC u32.2.2.1, .str u32.2.2.2.1, .str u32.2.2.2.2.1, E25.tree u32.2.2.2.2.2]], [], 1⟩) 0 2 2 [4] [0, 1] ?_
    refine RefR.nl 2 ?_
    refine Ref.conv (Conv.ob 1 (.cells [iC u32.2.1, iC u32.2.2.1, .str u32.2.2.2.1, .str u32.2.2.2.2.1, NT25 u32.2.2.2.2.2]) (OLe.cells (All2.cons (CLe.refl _) (All2.cons (CLe.refl _) (All2.cons (CLe.refl _) (All2.cons (CLe.refl _) (All2.cons (NT25_ge _) (All2.nil)))))))) ?_
    exact Ref.rt (t := ((⟨u32.2.1, u32.2.2.1, u32.2.2.2.1, u32.2.2.2.2.1, u32.2.2.2.2.2⟩ : S25), u32.1))
  ·
   intro a0 a1 a2
   refine DFun.it Tryz.f84 (fun r => ⟨[sP 6 1 0 0], [E71.o r.2, E25.o r.1], [], 1⟩) ?_
   rw [F84]
   refine Ref.sq ?_
   refine Ref.rn 0 ?_
   refine RefR.e0 (st' := ⟨[sP 0 0 0 0, sI 2 a2, sP 4 1 0 0, sP 6 2 0 0], [E71.o a0, .cells [iC a1.fKind, iC a1.fN, .str a1.fName, .str a1.fWhat, .nil], oX0], [], 1⟩) 0 2 2 [0, 2, 4, 6] [0, 1, 2] ?_
   refine RefR.nl 2 ?_
   refine Ref.sq ?_
   refine Ref.rn 1 ?_
   refine RefR.e0 (st' := ⟨[sP 0 0 0 0, sI 2 a2, sP 4 1 0 0, sP 6 2 0 0], [E71.o a0, .cells [iC 13, iC a1.fN, .str a1.fName, .str a1.fWhat, .nil], oX0], [], 1⟩) 0 2 2 [0, 2, 4, 6] [0, 1, 2] ?_
   refine RefR.nl 2 ?_
   refine Ref.sq ?_
   refine Ref.rn 2 ?_
   refine RefR.e1 0 1 1 [0, 2, 4, 6, 8] [0, 1, 2] ?_
   refine RefR.cc 9 1 2 [0] (F83_ok K a0 ([46] : Bytes)) (fun r1 => ?_)
   refine RefR.nl 2 ?_
   refine Ref.sq ?_
   refine Ref.rn 3 ?_
   refine RefR.e1 0 1 1 [0, 2, 4, 6, 10] [0, 1, 2] ?_
   refine RefR.cc 11 1 2 [0] (F82_ok K r1) (fun r2 => ?_)
   refine RefR.e0 (st' := ⟨[sP 0 0 0 0, sI 2 a2, sP 4 1 0 0, sP 6 2 0 0], [E71.o r2.2, .cells [iC 13, iC a1.fN, .str a1.fName, .str r2.1, .nil], oX0], [], 1⟩) 2 2 4 [0, 2, 4, 6] [0, 1, 2] ?_
   refine RefR.nl 4 ?_
   refine Ref.sq ?_
   refine Ref.rn 4 ?_
   refine RefR.e1 0 1 1 [0, 2, 4, 6, 13] [0, 1, 2] ?_
   refine RefR.cc 14 1 2 [0] (F83_ok K r2.2 w_40) (fun r3 => ?_)
   refine RefR.nl 2 ?_
   refine Ref.sq ?_
   refine Ref.sq ?_
   refine Ref.rn 5 ?_
   refine RefR.e1 0 1 1 [0, 2, 4, 6, 15] [0, 1, 2] ?_
   refine RefR.cc 16 1 2 [0] (F45_ok K r3 w_41) (fun r4 => ?_)
   refine RefR.nl 2 ?_
   refine Ref.cn (.tmp 16) r4.1 (fun hc => ?_) (fun hc => ?_)
   ·
    refine Ref.sq ?_
    refine Ref.rn 6 ?_
    refine RefR.e0 (st' := ⟨[sP 6 1 0 0], [E71.o r4.2, .cells [iC 13, iC a1.fN, .str a1.fName, .str r2.1, .nil]], [], 1⟩) 0 2 2 [6] [0, 2] ?_
    refine RefR.nl 2 ?_
    refine Ref.conv (Conv.ob 1 (.cells [iC 13, iC a1.fN, .str a1.fName, .str r2.1, E25.tree []]) (OLe.cells (All2.cons (CLe.refl _) (All2.cons (CLe.refl _) (All2.cons (CLe.refl _) (All2.cons (CLe.refl _) (All2.cons (El.tree_nil E25) (All2.nil)))))))) ?_
    refine Ref.conv (Conv.ob 1 (.cells [iC 13, iC a1.fN, .str a1.fName, .str r2.1, NT25 []]) (OLe.cells (All2.cons (CLe.refl _) (All2.cons (CLe.refl _) (All2.cons (CLe.refl _) (All2.cons (CLe.refl _) (All2.cons (NT25_ge _) (All2.nil)))))))) ?_
    exact Ref.rt (t := ((⟨13, a1.fN, a1.fName, r2.1, []⟩ : S25), r4.2))
   ·
    refine Ref.sk ?_
    refine Ref.sq ?_
    refine Ref.ce (.block 0 (cd (bd Tryz.f84) [1, 1, 1, 1, 1, 1, 0, 0])) ?_
    refine Ref.block (go1 := fun u59 => ⟨[sP 4 1 0 0, sP 6 3 0 0], [E71.o u59.1, .cells [iC 13, iC a1.fN, .str a1.fName, .str r2.1, .own 2 u59.2.length], E25.row u59.2, oX0], [], 1⟩) ?_ (fun _ h => by cases h) (fun u59 => ?_)
    ·
     refine Ref.ce (.loop (cd (bd Tryz.f84) [1, 1, 1, 1, 1, 1, 0, 0, 0])) ?_
     refine Ref.conv (Conv.adoptCell (st' := ⟨[sB 16 r4.1, sP 0 0 0 0, sI 2 a2, sP 4 1 0 0, sP 6 2 0 0, sP 15 0 0 0], [E71.o r4.2, .cells [iC 13, iC a1.fN, .str a1.fName, .str r2.1, .own 3 0], oX0, E25.row []], [], 1⟩) 1 4 E25.ty E25.w (E25.at []) (by kernel_rfl)) ?_
     refine Ref.ck ⟨[sP 0 0 0 0, sI 2 a2, sP 4 1 0 0, sP 6 3 0 0], [E71.o r4.2, .cells [iC 13, iC a1.fN, .str a1.fName, .str r2.1, .own 2 0], E25.row [], oX0], [], 1⟩ [0, 2, 4, 6] [0, 1, 3, 2] ?_
     refine Ref.loop (hd := fun u78 => ⟨[sP 0 0 0 0, sI 2 a2, sP 4 1 0 0, sP 6 3 0 0], [E71.o u78.1, .cells [iC 13, iC a1.fN, .str a1.fName, .str r2.1, .own 2 u78.2.length], E25.row u78.2, oX0], [], 1⟩) K (r4.2, []) (by kernel_rfl) (fun u78 => ?_)
     refine Ref.sq ?_
     refine Ref.sq ?_
     refine Ref.rn 7 ?_
     refine RefR.e0 (st' := ⟨[sP 0 0 0 0, sI 2 a2, sP 4 1 0 0, sP 6 3 0 0, sB 22 ((u78.1.fcode : Int) == 0)], [E71.o u78.1, .cells [iC 13, iC a1.fN, .str a1.fName, .str r2.1, .own 2 u78.2.length], E25.row u78.2, oX0], [], 1⟩) 0 5 5 [0, 2, 4, 6, 22] [0, 1, 2, 3] ?_
     refine RefR.nl 5 ?_
     refine Ref.cn (.tmp 22) ((u78.1.fcode : Int) == 0) (fun hc => ?_) (fun hc => ?_)
     ·
      refine Ref.sk ?_
      refine Ref.ce (.block 1 (cd (bd Tryz.f84) [1, 1, 1, 1, 1, 1, 0, 0, 0, 1, 0])) ?_
      refine Ref.block (go1 := fun u105 => ⟨[sP 0 0 0 0, sI 2 a2, sP 4 1 0 0, sP 6 3 0 0], [E71.o u105.1, .cells [iC 13, iC a1.fN, .str a1.fName, .str r2.1, .own 2 u105.2.length], E25.row u105.2, oX0], [], 1⟩) ?_ (fun a => match a with | .inl _ => (fun h => by cases h) | .inr _ => (fun h => by cases h)) (fun u105 => ?_)
      ·
       refine Ref.sq ?_
       refine Ref.sq ?_
       refine Ref.rn 8 ?_
       refine RefR.e1 0 1 1 [0, 2, 4, 6, 23] [0, 1, 2, 3] ?_
       refine RefR.lookC (t := 24) (g := []) (b := true) 1 2 [0] (default : Bool) rfl (by kernel_rfl) (F44_ok K u78.1) (fun _ => rfl) (fun r106 => ?_)
       refine RefR.nl 2 ?_
       refine Ref.bind (go1 := fun u108 => ⟨[sP 0 0 0 0, sI 2 a2, sP 4 1 0 0, sP 6 3 0 0], [E71.o u108, .cells [iC 13, iC a1.fN, .str a1.fName, .str r2.1, .own 2 u78.2.length], E25.row u78.2, oX0], [], 1⟩) ?_ (fun u108 => ?_)
       ·
        refine Ref.cn (.tmp 24) r106 (fun hc => ?_) (fun hc => ?_)
        ·
         refine Ref.rn 9 ?_
         refine RefR.e1 0 4 4 [0, 2, 4, 6, 25, 28] [0, 1, 2, 3] ?_
         refine RefR.cc 29 4 5 [0] (F105_ok K u78.1 (Int.ofNat u78.2.length) 3) (fun r109 => ?_)
         refine RefR.nl 5 ?_
         refine Ref.ck ⟨[sP 0 0 0 0, sI 2 a2, sP 4 1 0 0, sP 6 3 0 0], [E71.o r109, .cells [iC 13, iC a1.fN, .str a1.fName, .str r2.1, .own 2 u78.2.length], E25.row u78.2, oX0], [], 1⟩ [0, 2, 4, 6] [0, 1, 2, 3] ?_
         exact Ref.n0 (t := (r109))
        ·
         refine Ref.sk ?_
         refine Ref.ck ⟨[sP 0 0 0 0, sI 2 a2, sP 4 1 0 0, sP 6 3 0 0], [E71.o u78.1, .cells [iC 13, iC a1.fN, .str a1.fName, .str r2.1, .own 2 u78.2.length], E25.row u78.2, oX0], [], 1⟩ [0, 2, 4, 6] [0, 1, 2, 3] ?_
         exact Ref.n0 (t := (u78.1))
       ·
        refine Ref.sq ?_
        refine Ref.drawnY 10 (by kernel_rfl) (by kernel_rfl) ?_
        refine RefY.evC0 (st' := ⟨[sP 0 0 0 0, sI 2 a2, sP 4 1 0 0, sP 6 3 0 0, sP 30 1 0 4, sP 32 0 0 0, sI 34 (IntKind.i64.wrap (a2 + 1))], [E71.o u108, .cells [iC 13, iC a1.fN, .str a1.fName, .str r2.1, .own 2 u78.2.length], E25.row u78.2, oX0], [], 1⟩) (fuel' := 6) [0, 2, 3, 4] [0, 2, 4, 6, 30, 32, 34] [0, 1, 2, 3] rfl (by kernel_rfl) (by kernel_rfl) ?_
        refine RefY.toX [5, 7, 9] ?_
        refine RefX.withK1 (fun (r110 : S25 × S71) => ⟨[sP 0 0 0 0, sI 2 a2, sP 4 1 0 0, sP 6 2 0 0], [E71.o r110.2, .cells [iC 13, iC a1.fN, .str a1.fName, .str r2.1, .own 3 ((u78.2 ++ [r110.1]).length)], oX0, E25.row (u78.2 ++ [r110.1])], [], 1⟩) (fun (r110 : S25 × S71) => ((fnS (F45 K r110.2 ([44] : Bytes))).bind (fun r112 => (if (!r112.1) = true then ((fnS (F83 K r112.2 w_41)).bind (fun r113 => (some (.inl (Sum.inr (Sum.inl (r113, (u78.2 ++ [r110.1])))))))) else (some (.inr (r112.2, (u78.2 ++ [r110.1])))))))) (fun r110 => ?_) (fun hk => ?_)
        ·
         refine Ref.sq ?_
         refine Ref.rn 11 ?_
         refine RefR.e1 0 1 1 [0, 2, 4, 6, 39] [0, 1, 2, 3] ?_
         refine RefR.cc 40 1 2 [0] (F45_ok K r110.2 ([44] : Bytes)) (fun r112 => ?_)
         refine RefR.e0 (st' := ⟨[sP 0 0 0 0, sI 2 a2, sP 4 1 0 0, sP 6 2 0 0, sB 41 (!r112.1)], [E71.o r112.2, .cells [iC 13, iC a1.fN, .str a1.fName, .str r2.1, .own 3 ((u78.2 ++ [r110.1]).length)], oX0, E25.row (u78.2 ++ [r110.1])], [], 1⟩) 2 1 3 [0, 2, 4, 6, 41] [0, 1, 2, 3] ?_
         refine RefR.nl 3 ?_
         refine Ref.cn (.tmp 41) (!r112.1) (fun hc => ?_) (fun hc => ?_)
         ·
          refine Ref.sq ?_
          refine Ref.rn 12 ?_
          refine RefR.e1 0 1 1 [4, 6, 42] [0, 1, 2, 3] ?_
          refine RefR.cc 43 1 2 [0] (F83_ok K r112.2 w_41) (fun r113 => ?_)
          refine RefR.nl 2 ?_
          refine Ref.ck ⟨[sP 4 1 0 0, sP 6 3 0 0], [E71.o r113, .cells [iC 13, iC a1.fN, .str a1.fName, .str r2.1, .own 2 ((u78.2 ++ [r110.1]).length)], E25.row (u78.2 ++ [r110.1]), oX0], [], 1⟩ [4, 6] [0, 1, 3, 2] ?_
          exact Ref.xt 0 (t := (Sum.inr (Sum.inl (r113, (u78.2 ++ [r110.1])))))
         ·
          refine Ref.sk ?_
          refine Ref.ck ⟨[sP 0 0 0 0, sI 2 a2, sP 4 1 0 0, sP 6 3 0 0], [E71.o r112.2, .cells [iC 13, iC a1.fN, .str a1.fName, .str r2.1, .own 2 ((u78.2 ++ [r110.1]).length)], E25.row (u78.2 ++ [r110.1]), oX0], [], 1⟩ [0, 2, 4, 6] [0, 1, 3, 2] ?_
          exact Ref.n0 (t := (r112.2, (u78.2 ++ [r110.1])))
        ·
         refine RefX.pend0 (fuel' := 5) [[], [(1, 31)]] [(1, 31)] [0, 2, 4, 6, 30, 32, 34] [0, 1, 2, 3] ⟨[sP 0 0 0 0, sI 2 a2, sP 4 1 0 0, sP 6 3 0 0, sP 30 1 0 4, (31, .c (.own 2 u78.2.length)), sP 32 0 0 0, sI 34 (IntKind.i64.wrap (a2 + 1))], [E71.o u108, .cells [iC 13, iC a1.fN, .str a1.fName, .str r2.1, .own 2 u78.2.length], E25.row u78.2, oX0], [], 1⟩ ?_
         refine RefXq.fork1 (fuel' := 4) 5 ?_
         refine RefXqi.callC (t := 35) 5 [0] rfl (by kernel_rfl) (ih23 u108 (IntKind.i64.wrap (a2 + 1))) (fun r110 => ?_)
         refine RefXq.fork1 (fuel' := 3) 6 ?_
         refine RefXqi.adds0 (st' := ⟨[sP 0 0 0 0, sI 2 a2, sP 4 1 0 0, sP 6 3 0 0, sP 30 1 0 4, (31, .c (.own 2 u78.2.length)), (36, .c (.own 4 1))], [E71.o r110.2, .cells [iC 13, iC a1.fN, .str a1.fName, .str r2.1, .own 2 u78.2.length], E25.row u78.2, oX0, .row 25 5 1 (tbl [(E25.cs r110.1)])], [], 1⟩) 6 [0, 2, 4, 6, 30, 31, 36] [0, 1, 2, 3, 5] (by kernel_rfl) (by kernel_rfl) ?_
         refine RefXq.conv (Conv2.obj 4 (E25.row [r110.1]) (El.row_build E25 [r110.1] rfl (by kernel_rfl)) (by kernel_rfl)) ?_
         refine RefXq.conv (Conv2.slot 36 (.c (.own 4 ([r110.1].length))) (DLe.c (CLe.own (by simp <;> omega))) (by kernel_rfl)) ?_
         refine RefXq.close ?_
         refine RefX.fork1 (fuel' := 2) 7 (by kernel_rfl) ?_
         refine RefXi.writes (vs := [room ((u78.2.length + ([r110.1].length)) * 72)]) (st' := ⟨[sP 0 0 0 0, sI 2 a2, sP 4 1 0 0, sP 6 3 0 0, (37, .c (.own 4 (u78.2.length + ([r110.1].length))))], [E71.o r110.2, .cells [iC 13, iC a1.fN, .str a1.fName, .str r2.1, .own 2 u78.2.length], .dead, oX0, .row 25 5 (u78.2.length + ([r110.1].length)) fun i j => bif Nat.blt i u78.2.length then E25.at u78.2 i j else (E25.at [r110.1]) (i - u78.2.length) j], [], 1⟩) 7 [0, 2, 4, 6, 37] [0, 1, 2, 3, 5] (by kernel_rfl) (by kernel_rfl) ?_
         refine RefX.conv (Conv.ob 4 (E25.row (u78.2 ++ [r110.1])) (El.row_append E25 u78.2 [r110.1] rfl rfl)) ?_
         refine RefX.conv (Conv.sl 37 (.c (.own 4 ((u78.2 ++ [r110.1]).length))) (DLe.c (CLe.own (by simp <;> omega)))) ?_
         refine RefX.v0 (fuel' := 1) [8] [0, 2, 4, 6, 37, 38] [0, 1, 2, 3, 4] ?_
         refine RefX.fork1 (fuel' := 0) 9 (by kernel_rfl) ?_
         refine RefXi.w0 9 [0, 2, 4, 6] [0, 1, 3, 4] ?_
         refine RefX.done (by kernel_rfl) ?_
         refine Ref.ck ⟨[sP 0 0 0 0, sI 2 a2, sP 4 1 0 0, sP 6 2 0 0], [E71.o r110.2, .cells [iC 13, iC a1.fN, .str a1.fName, .str r2.1, .own 3 ((u78.2 ++ [r110.1]).length)], oX0, E25.row (u78.2 ++ [r110.1])], [], 1⟩ [0, 2, 4, 6] [0, 1, 2, 3] ?_
         exact hk r110
      ·
       exact Ref.n0 (t := (u105.1, u105.2))
     ·
      refine Ref.ck ⟨[sP 4 1 0 0, sP 6 3 0 0], [E71.o u78.1, .cells [iC 13, iC a1.fN, .str a1.fName, .str r2.1, .own 2 u78.2.length], E25.row u78.2, oX0], [], 1⟩ [4, 6] [0, 1, 2, 3] ?_
      exact Ref.xt 0 (t := (Sum.inl (u78.1, u78.2)))
    ·
     refine Ref.sq ?_
     refine Ref.rn 13 ?_
     refine RefR.e0 (st' := ⟨[sP 6 2 0 0], [E71.o u59.1, E25.row u59.2, .cells [iC 13, iC a1.fN, .str a1.fName, .str r2.1, .own 1 u59.2.length]], [], 1⟩) 0 2 2 [6] [0, 2, 3] ?_
     refine RefR.nl 2 ?_
     refine Ref.conv (Conv.freeze (st' := ⟨[sP 6 2 0 0], [E71.o u59.1, .dead, .cells [iC 13, iC a1.fN, .str a1.fName, .str r2.1, E25.tree u59.2]], [], 1⟩) 1 (by kernel_rfl)) ?_
     refine Ref.conv (Conv.ob 2 (.cells [iC 13, iC a1.fN, .str a1.fName, .str r2.1, NT25 u59.2]) (OLe.cells (All2.cons (CLe.refl _) (All2.cons (CLe.refl _) (All2.cons (CLe.refl _) (All2.cons (CLe.refl _) (All2.cons (NT25_ge _) (All2.nil)))))))) ?_
     refine Ref.ck ⟨[sP 6 1 0 0], [E71.o u59.1, .cells [iC 13, iC a1.fN, .str a1.fName, .str r2.1, NT25 u59.2]], [], 1⟩ [6] [0, 2] ?_
     exact Ref.rt (t := ((⟨13, a1.fN, a1.fName, r2.1, u59.2⟩ : S25), u59.1))
theorem F23_ok (K : Nat) (a0 : S71) (a1 : Int) : DFun Tryz.prog 23 [.c (.ptr 0 0 0), .c (.val (.int .i64 a1))] [E71.o a0] (fnS (F23 K a0 a1)) (fun r => .agg (E25.cs r.1)) (fun r => [E71.o r.2, E25.o r.1]) := (G23_ok K).1 a0 a1
end Go.Proofs.YtphnfaabcnciiaaGreatDoor
