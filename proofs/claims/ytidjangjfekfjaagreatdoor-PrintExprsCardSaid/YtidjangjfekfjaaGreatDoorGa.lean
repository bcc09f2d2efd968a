/- Plain functions, and that the Go functions do what these do: printed by gen2.py. No conditions. -/
import Derived.Test.YtidjangjfekfjaaGreatDoorTyA
import Derived.Test.YtidjangjfekfjaaGreatDoorProg
set_option linter.unusedVariables false
set_option linter.unusedSimpArgs false
set_option linter.unusedSectionVars false
namespace Go.Proofs.YtidjangjfekfjaaGreatDoor
open Go Go.Proofs Go.Dl
variable [WInv]
set_option maxRecDepth 100000
set_option maxHeartbeats 4000000
def F41 (K : Nat) (a0 : Int) (a1 : Int) : Option ((Err) ⊕ (Err)) :=
 (some (.inl ([(a0, a1)])))
theorem F41_ok (K : Nat) (a0 : Int) (a1 : Int) : DFun Tryz.prog 41 [.c (.val (.int .i64 a0)), .c (.val (.int .i64 a1))] [] (fnS (F41 K a0 a1)) (fun r => .c (errC r)) (fun r => []) := by
 refine DFun.it Tryz.f41 (fun r => ⟨[(4, .c (errC r))], [], [], 0⟩) ?_
 unfold F41
 refine Ref.sq ?_
 refine Ref.rn 0 ?_
 refine RefR.e0 (st' := ⟨[sI 0 a0, sI 1 a1], [], [], 0⟩) 0 1 1 [0, 1] [] ?_
 refine RefR.nl 1 ?_
 refine Ref.sq ?_
 refine Ref.rn 1 ?_
 refine RefR.e0 (st' := ⟨[(4, .c (.iface true 96 (.ptr 0 0 0)))], [.cells [iC a0, iC a1, .val .nilIface]], [], 0⟩) 0 6 6 [4] [0] ?_
 refine RefR.nl 6 ?_
 refine Ref.conv (Conv.freeze (st' := ⟨[(4, .c (errC [(a0, a1)]))], [.dead], [], 0⟩) 0 (by kernel_rfl)) ?_
 refine Ref.ck ⟨[(4, .c (errC [(a0, a1)]))], [], [], 0⟩ [4] [] ?_
 exact Ref.rt (t := ([(a0, a1)]))
def F24 (K : Nat) (a0 : S56) : Option ((S69) ⊕ (S69)) :=
 (letV (decide ((a0.fi : Int) ≥ (Int.ofNat a0.ftokens.length))) (fun (x1 : Bool) => (if x1 = true then (some (.inl ((⟨0, ([] : Bytes), 0, a0.fend⟩ : S69)))) else (chk [inb a0.fi a0.ftokens.length] (some (.inl ((a0.ftokens.getD (a0.fi : Int).toNat default))))))))
theorem F24_ok (K : Nat) (a0 : S56) : DFun Tryz.prog 24 [.c (E56.ep a0 0)] [] (fnS (F24 K a0)) (fun r => .agg (E69.cs r)) (fun r => [E69.o r]) := by
 refine DFun.it Tryz.f24 (fun r => ⟨[sP 2 0 0 0], [E69.o r], [], 0⟩) ?_
 unfold F24
 refine Ref.sq ?_
 refine Ref.rn 0 ?_
 refine RefR.e0 (st' := ⟨[(0, .c (E56.ep a0 0)), sP 2 0 0 0], [oX1], [], 0⟩) 0 1 1 [0, 2] [0] ?_
 refine RefR.nl 1 ?_
 refine Ref.sq ?_
 refine Ref.sq ?_
 refine Ref.drawnY 1 (by kernel_rfl) (by kernel_rfl) ?_
 refine RefY.evC0 (st' := ⟨[(0, .c (E56.ep a0 0)), sP 2 0 0 0, (5, .c (E56.ep a0 1)), (9, .c (E56.ep a0 0))], [oX1], [], 0⟩) (fuel' := 4) [0, 1, 2, 4, 5, 6] [0, 2, 5, 9] [0] rfl (by kernel_rfl) (by kernel_rfl) ?_
 refine RefY.toX [] ?_
 refine RefX.evC0 (st' := ⟨[(0, .c (E56.ep a0 0)), sP 2 0 0 0, sB 12 (decide ((a0.fi : Int) ≥ (Int.ofNat a0.ftokens.length)))], [oX1], [], 0⟩) (fuel' := 0) [3, 7, 8, 9] [0, 2, 12] [0] rfl (by kernel_rfl) (by kernel_rfl) ?_
 refine RefX.letC (stf := fun x1 => ⟨[(0, .c (E56.ep a0 0)), sP 2 0 0 0, sB 12 x1], [oX1], [], 0⟩) (by kernel_rfl) (fun x1 => ?_)
 refine RefX.done (by kernel_rfl) ?_
 refine Ref.cn (.tmp 12) x1 (fun hc => ?_) (fun hc => ?_)
 ·
  refine Ref.sq ?_
  refine Ref.rn 2 ?_
  refine RefR.e0 (st' := ⟨[sP 2 0 0 0], [.cells [iC 0, .str [], iC 0, iC a0.fend]], [], 0⟩) 0 6 6 [2] [0] ?_
  refine RefR.nl 6 ?_
  exact Ref.rt (t := ((⟨0, ([] : Bytes), 0, a0.fend⟩ : S69)))
 ·
  refine Ref.sk ?_
  refine Ref.sq ?_
  refine Ref.drawnY 3 (by kernel_rfl) (by kernel_rfl) ?_
  refine RefY.evC0 (st' := ⟨[sP 2 0 0 0, (20, .c (E56.ep a0 0)), (24, .c (E56.ep a0 1))], [oX1], [], 0⟩) (fuel' := 5) [0, 1, 2, 4, 5, 6] [2, 20, 24] [0] rfl (by kernel_rfl) (by kernel_rfl) ?_
  refine RefY.toX [10] ?_
  refine RefX.evC (vs := [inb a0.fi a0.ftokens.length]) (st' := ⟨[sP 2 0 0 0, (27, .agg (E69.cs (a0.ftokens.getD (a0.fi : Int).toNat default)))], [oX1], [], 0⟩) (fuel' := 1) [3, 7, 8, 9] [2, 27] [0] rfl (by kernel_rfl) (by kernel_rfl) ?_
  refine RefX.tailC [10] rfl (by kernel_rfl) ?_
  refine RefR.e0 (st' := ⟨[sP 2 0 0 0], [E69.o (a0.ftokens.getD (a0.fi : Int).toNat default)], [], 0⟩) 0 1 1 [2] [0] ?_
  refine RefR.nl 1 ?_
  exact Ref.rt (t := ((a0.ftokens.getD (a0.fi : Int).toNat default)))
def F17 (K : Nat) (a0 : S56) : Option ((Bool) ⊕ (Bool)) :=
 (some (.inl ((!errS a0.ferr))))
theorem F17_ok (K : Nat) (a0 : S56) : DFun Tryz.prog 17 [.c (E56.ep a0 0)] [] (fnS (F17 K a0)) (fun r => .c (.val (.bool r))) (fun r => []) := by
 refine DFun.it Tryz.f17 (fun r => ⟨[sB 2 r], [], [], 0⟩) ?_
 unfold F17
 refine Ref.sq ?_
 refine Ref.rn 0 ?_
 refine RefR.e0 (st' := ⟨[(0, .c (E56.ep a0 0))], [], [], 0⟩) 0 1 1 [0] [] ?_
 refine RefR.nl 1 ?_
 refine Ref.sq ?_
 refine Ref.rn 1 ?_
 refine RefR.e0 (st' := ⟨[sB 2 (!errS a0.ferr)], [], [], 0⟩) 0 6 6 [2] [] ?_
 refine RefR.nl 6 ?_
 exact Ref.rt (t := ((!errS a0.ferr)))
def F40 (K : Nat) (a0 : (List Bytes)) (a1 : Bytes) : Option ((Int) ⊕ (Int)) :=
 (bindS (blockS ((iter K (fun (u12 : Int) => (letV (decide ((u12 : Int) < (Int.ofNat a0.length))) (fun (x16 : Bool) => (if x16 = true then (bindS (blockS (chk [inb u12 a0.length] (if (a1 == (a0.getD (u12 : Int).toNat default)) = true then (some (.inl (Sum.inr (Sum.inr (u12))))) else (some (.inr ()))))) (fun (u17 : Unit) => (some (.inr ((IntKind.i64.wrap (u12 + 1))))))) else (some (.inl (Sum.inl ()))))))) (0)).map .inl)) (fun (u9 : Unit) => (some (.inl ((-1))))))
theorem F40_ok (K : Nat) (a0 : (List Bytes)) (a1 : Bytes) : DFun Tryz.prog 40 [.c (E9.tree a0), .c (.str a1)] [] (fnS (F40 K a0 a1)) (fun r => .c (.val (.int .i64 r))) (fun r => []) := by
 refine DFun.it Tryz.f40 (fun r => ⟨[sI 4 r], [], [], 0⟩) ?_
 unfold F40
 refine Ref.sq ?_
 refine Ref.rn 0 ?_
 refine RefR.e0 (st' := ⟨[(0, .c (E9.tree a0)), sS 1 a1], [], [], 0⟩) 0 1 1 [0, 1] [] ?_
 refine RefR.nl 1 ?_
 refine Ref.sq ?_
 refine Ref.sq ?_
 refine Ref.rn 1 ?_
 refine RefR.e0 (st' := ⟨[(0, .c (E9.tree a0)), sS 1 a1, sI 7 (Int.ofNat a0.length), sI 8 0], [], [], 0⟩) 0 3 3 [0, 1, 7, 8] [] ?_
 refine RefR.nl 3 ?_
 refine Ref.ce (.block 0 (cd (bd Tryz.f40) [1, 0, 1, 0])) ?_
 refine Ref.block (go1 := fun u9 => ⟨[], [], [], 0⟩) ?_ (fun _ h => by cases h) (fun u9 => ?_)
 ·
  refine Ref.ce (.loop (cd (bd Tryz.f40) [1, 0, 1, 0, 0])) ?_
  refine Ref.loop (hd := fun u12 => ⟨[(0, .c (E9.tree a0)), sS 1 a1, sI 7 (Int.ofNat a0.length), sI 8 u12], [], [], 0⟩) K (0) (by kernel_rfl) (fun u12 => ?_)
  refine Ref.sq ?_
  refine Ref.rn 2 ?_
  refine RefR.e0 (st' := ⟨[(0, .c (E9.tree a0)), sS 1 a1, sI 7 (Int.ofNat a0.length), sI 8 u12, sB 9 (decide ((u12 : Int) < (Int.ofNat a0.length)))], [], [], 0⟩) 0 1 1 [0, 1, 7, 8, 9] [] ?_
  refine RefR.letC (stf := fun x16 => ⟨[(0, .c (E9.tree a0)), sS 1 a1, sI 7 (Int.ofNat a0.length), sI 8 u12, sB 9 x16], [], [], 0⟩) (by kernel_rfl) (fun x16 => ?_)
  refine RefR.nl 1 ?_
  refine Ref.sq ?_
  refine Ref.cn (.tmp 9) x16 (fun hc => ?_) (fun hc => ?_)
  ·
   refine Ref.sk ?_
   refine Ref.sq ?_
   refine Ref.ce (.block 1 (cd (bd Tryz.f40) [1, 0, 1, 0, 0, 1, 1, 0, 0])) ?_
   refine Ref.block (go1 := fun u17 => ⟨[(0, .c (E9.tree a0)), sS 1 a1, sI 7 (Int.ofNat a0.length), sI 8 u12], [], [], 0⟩) ?_ (fun a => match a with | .inl _ => (fun h => by cases h) | .inr _ => (fun h => by cases h)) (fun u17 => ?_)
   ·
    refine Ref.sq ?_
    refine Ref.rn 3 ?_
    refine RefR.e0 (st' := ⟨[(0, .c (E9.tree a0)), sS 1 a1, sI 5 u12, sI 7 (Int.ofNat a0.length), sI 8 u12], [], [], 0⟩) 0 2 2 [0, 1, 5, 7, 8] [] ?_
    refine RefR.nl 2 ?_
    refine Ref.sq ?_
    refine Ref.rn 4 ?_
    refine RefR.evC (vs := [inb u12 a0.length]) (st' := ⟨[(0, .c (E9.tree a0)), sS 1 a1, sI 5 u12, sI 7 (Int.ofNat a0.length), sI 8 u12, sB 16 (a1 == (a0.getD (u12 : Int).toNat default))], [], [], 0⟩) 0 6 6 [0, 1, 5, 7, 8, 16] [] rfl (by kernel_rfl) ?_
    refine RefR.nl 6 ?_
    refine Ref.cn (.tmp 16) (a1 == (a0.getD (u12 : Int).toNat default)) (fun hc => ?_) (fun hc => ?_)
    ·
     refine Ref.sq ?_
     refine Ref.rn 5 ?_
     refine RefR.e0 (st' := ⟨[sI 4 u12], [], [], 0⟩) 0 2 2 [4] [] ?_
     refine RefR.nl 2 ?_
     exact Ref.rt (t := (Sum.inr (Sum.inr (u12))))
    ·
     refine Ref.sk ?_
     refine Ref.ck ⟨[(0, .c (E9.tree a0)), sS 1 a1, sI 7 (Int.ofNat a0.length), sI 8 u12], [], [], 0⟩ [0, 1, 7, 8] [] ?_
     exact Ref.n0 (t := ())
   ·
    refine Ref.rn 6 ?_
    refine RefR.e0 (st' := ⟨[(0, .c (E9.tree a0)), sS 1 a1, sI 7 (Int.ofNat a0.length), sI 8 (IntKind.i64.wrap (u12 + 1))], [], [], 0⟩) 0 2 2 [0, 1, 7, 8] [] ?_
    refine RefR.nl 2 ?_
    exact Ref.n0 (t := ((IntKind.i64.wrap (u12 + 1))))
  ·
   refine Ref.ck ⟨[], [], [], 0⟩ [] [] ?_
   exact Ref.xt 0 (t := (Sum.inl ()))
 ·
  refine Ref.sq ?_
  refine Ref.rn 7 ?_
  refine RefR.e0 (st' := ⟨[sI 4 (-1)], [], [], 0⟩) 0 1 1 [4] [] ?_
  refine RefR.nl 1 ?_
  exact Ref.rt (t := ((-1)))
def F50 (K : Nat) (a0 : (List Bytes)) (a1 : Bytes) : Option ((Bool) ⊕ (Bool)) :=
 ((fnS (F40 K a0 a1)).bind (fun r1 => (some (.inl ((decide ((r1 : Int) ≥ 0)))))))
theorem F50_ok (K : Nat) (a0 : (List Bytes)) (a1 : Bytes) : DFun Tryz.prog 50 [.c (E9.tree a0), .c (.str a1)] [] (fnS (F50 K a0 a1)) (fun r => .c (.val (.bool r))) (fun r => []) := by
 refine DFun.it Tryz.f50 (fun r => ⟨[sB 4 r], [], [], 0⟩) ?_
 unfold F50
 refine Ref.sq ?_
 refine Ref.rn 0 ?_
 refine RefR.e0 (st' := ⟨[(0, .c (E9.tree a0)), sS 1 a1], [], [], 0⟩) 0 1 1 [0, 1] [] ?_
 refine RefR.nl 1 ?_
 refine Ref.sq ?_
 refine Ref.rn 1 ?_
 refine RefR.e1 0 2 2 [5, 6] [] ?_
 refine RefR.cc 7 2 3 [] (F40_ok K a0 a1) (fun r1 => ?_)
 refine RefR.e0 (st' := ⟨[sB 4 (decide ((r1 : Int) ≥ 0))], [], [], 0⟩) 3 2 5 [4] [] ?_
 refine RefR.nl 5 ?_
 exact Ref.rt (t := ((decide ((r1 : Int) ≥ 0))))
def F22 (K : Nat) (a0 : S56) (a1 : (List Bytes)) : Option ((Bool) ⊕ (Bool)) :=
 ((fnS (F24 K a0)).bind (fun r1 => ((fnS (F17 K a0)).bind (fun r2 => (letV (r2 && (((r1.fKind : Int) == 2) || ((r1.fKind : Int) == 4))) (fun (x3 : Bool) => ((condM x3 (fnS (F50 K a1 r1.fText)) default).bind (fun r4 => (some (.inl ((x3 && r4))))))))))))
theorem F22_ok (K : Nat) (a0 : S56) (a1 : (List Bytes)) : DFun Tryz.prog 22 [.c (E56.ep a0 0), .c (E9.tree a1)] [] (fnS (F22 K a0 a1)) (fun r => .c (.val (.bool r))) (fun r => []) := by
 refine DFun.it Tryz.f22 (fun r => ⟨[sB 4 r], [], [], 0⟩) ?_
 unfold F22
 refine Ref.sq ?_
 refine Ref.rn 0 ?_
 refine RefR.e0 (st' := ⟨[(0, .c (E56.ep a0 0)), (1, .c (E9.tree a1))], [], [], 0⟩) 0 1 1 [0, 1] [] ?_
 refine RefR.nl 1 ?_
 refine Ref.sq ?_
 refine Ref.rn 1 ?_
 refine RefR.e1 0 1 1 [0, 1, 6] [] ?_
 refine RefR.cc 7 1 2 [] (F24_ok K a0) (fun r1 => ?_)
 refine RefR.e0 (st' := ⟨[(0, .c (E56.ep a0 0)), (1, .c (E9.tree a1)), sP 5 0 0 0], [E69.o r1], [], 0⟩) 2 2 4 [0, 1, 5] [1] ?_
 refine RefR.nl 4 ?_
 refine Ref.sq ?_
 refine Ref.rn 2 ?_
 refine RefR.e1 0 1 1 [1, 5, 8] [0] ?_
 refine RefR.cc 9 1 2 [] (F17_ok K a0) (fun r2 => ?_)
 refine RefR.e0 (st' := ⟨[sB 20 (r2 && (((r1.fKind : Int) == 2) || ((r1.fKind : Int) == 4))), (21, .c (E9.tree a1)), sS 23 r1.fText], [], [(23, [(20, true)]), (21, [(20, true)])], 0⟩) 2 14 16 [20, 21, 23] [] ?_
 refine RefR.letC (stf := fun x3 => ⟨[sB 20 x3, (21, .c (E9.tree a1)), sS 23 r1.fText], [], [(23, [(20, true)]), (21, [(20, true)])], 0⟩) (by kernel_rfl) (fun x3 => ?_)
 refine RefR.lookC (t := 24) (g := [(20, true)]) (b := x3) 16 17 [] (default : Bool) rfl (by kernel_rfl) (F50_ok K a1 r1.fText) (fun _ => rfl) (fun r4 => ?_)
 refine RefR.e0 (st' := ⟨[sB 4 (x3 && r4)], [], [], 0⟩) 17 2 19 [4] [] ?_
 refine RefR.nl 19 ?_
 exact Ref.rt (t := ((x3 && r4)))
def F66 (K : Nat) (a0 : S56) (a1 : Int) : Option ((Bool) ⊕ (Bool)) :=
 ((fnS (F17 K a0)).bind (fun r1 => ((condM r1 (fnS (F24 K a0)) default).bind (fun r2 => (some (.inl ((r1 && ((r2.fKind : Int) == a1)))))))))
theorem F66_ok (K : Nat) (a0 : S56) (a1 : Int) : DFun Tryz.prog 66 [.c (E56.ep a0 0), .c (.val (.int .i64 a1))] [] (fnS (F66 K a0 a1)) (fun r => .c (.val (.bool r))) (fun r => []) := by
 refine DFun.it Tryz.f66 (fun r => ⟨[sB 4 r], [], [], 0⟩) ?_
 unfold F66
 refine Ref.sq ?_
 refine Ref.rn 0 ?_
 refine RefR.e0 (st' := ⟨[(0, .c (E56.ep a0 0)), sI 1 a1], [], [], 0⟩) 0 1 1 [0, 1] [] ?_
 refine RefR.nl 1 ?_
 refine Ref.sq ?_
 refine Ref.rn 1 ?_
 refine RefR.e1 0 1 1 [0, 1, 5] [] ?_
 refine RefR.cc 6 1 2 [] (F17_ok K a0) (fun r1 => ?_)
 refine RefR.e1 2 2 4 [1, 7, 8] [] ?_
 refine RefR.lookC (t := 9) (g := [(7, true)]) (b := r1) 4 5 [] (default : S69) rfl (by kernel_rfl) (DFun.forget (F24_ok K a0) (fun _ => rfl)) (fun _ => rfl) (fun r2 => ?_)
 refine RefR.e0 (st' := ⟨[sB 4 (r1 && ((r2.fKind : Int) == a1))], [], [], 0⟩) 5 5 10 [4] [] ?_
 refine RefR.nl 10 ?_
 exact Ref.rt (t := ((r1 && ((r2.fKind : Int) == a1))))
def F35 (K : Nat) (a0 : S56) : Option ((Bool) ⊕ (Bool)) :=
 ((fnS (F66 K a0 1)).bind (fun r1 => ((condM (!r1) (fnS (F66 K a0 3)) default).bind (fun r2 => ((condM (!(r1 || r2)) (fnS (F22 K a0 ([[84, 82, 85, 69], [70, 65, 76, 83, 69], [78, 85, 76, 76], [84, 72, 73, 83], [83, 85, 80, 69, 82], [82, 69, 70], [68, 79, 78, 69], [67, 79, 85, 78, 84], [65, 83], [40]] : List Bytes))) default).bind (fun r3 => (some (.inl (((r1 || r2) || r3))))))))))
theorem F35_ok (K : Nat) (a0 : S56) : DFun Tryz.prog 35 [.c (E56.ep a0 0)] [] (fnS (F35 K a0)) (fun r => .c (.val (.bool r))) (fun r => []) := by
 refine DFun.it Tryz.f35 (fun r => ⟨[sB 2 r], [], [], 0⟩) ?_
 unfold F35
 refine Ref.sq ?_
 refine Ref.rn 0 ?_
 refine RefR.e0 (st' := ⟨[(0, .c (E56.ep a0 0))], [], [], 0⟩) 0 1 1 [0] [] ?_
 refine RefR.nl 1 ?_
 refine Ref.sq ?_
 refine Ref.rn 1 ?_
 refine RefR.e1 0 1 1 [0, 3] [] ?_
 refine RefR.cc 4 1 2 [] (F66_ok K a0 1) (fun r1 => ?_)
 refine RefR.e1 2 2 4 [0, 5, 6] [] ?_
 refine RefR.lookC (t := 7) (g := [(5, false)]) (b := (!r1)) 4 5 [] (default : Bool) rfl (by kernel_rfl) (F66_ok K a0 3) (fun _ => rfl) (fun r2 => ?_)
 refine RefR.e0 (st' := ⟨[sB 9 (r1 || r2), (10, .c (E56.ep a0 0))], [], [(10, [(9, false)])], 0⟩) 5 3 8 [9, 10] [] ?_
 refine RefR.li 11 [(9, false)] E9 ([[84, 82, 85, 69], [70, 65, 76, 83, 69], [78, 85, 76, 76], [84, 72, 73, 83], [83, 85, 80, 69, 82], [82, 69, 70], [68, 79, 78, 69], [67, 79, 85, 78, 84], [65, 83], [40]] : List Bytes) 8 9 ?_
 refine RefR.lookC (t := 12) (g := [(9, false)]) (b := (!(r1 || r2))) 9 10 [] (default : Bool) rfl (by kernel_rfl) (F22_ok K a0 ([[84, 82, 85, 69], [70, 65, 76, 83, 69], [78, 85, 76, 76], [84, 72, 73, 83], [83, 85, 80, 69, 82], [82, 69, 70], [68, 79, 78, 69], [67, 79, 85, 78, 84], [65, 83], [40]] : List Bytes)) (fun _ => rfl) (fun r3 => ?_)
 refine RefR.e0 (st' := ⟨[sB 2 ((r1 || r2) || r3)], [], [], 0⟩) 10 2 12 [2] [] ?_
 refine RefR.nl 12 ?_
 exact Ref.rt (t := (((r1 || r2) || r3)))
def F16 (K : Nat) (a0 : S56) (a1 : Int) : Option ((S56) ⊕ (S56)) :=
 (if (!errS a0.ferr) = true then ((condM true (fnS (F24 K a0)) default).bind (fun r1 => ((fnS (F41 K a1 r1.fAt)).bind (fun r2 => (some (.inr ((⟨a0.ftokens, a0.fi, a0.fend, r2⟩ : S56)))))))) else (some (.inr (a0))))
theorem F16_ok (K : Nat) (a0 : S56) (a1 : Int) : DFun Tryz.prog 16 [.c (.ptr 0 0 0), .c (.val (.int .i64 a1))] [E56.o a0] (fnS (F16 K a0 a1)) (fun r => .tup []) (fun r => [E56.o r]) := by
 refine DFun.it Tryz.f16 (fun r => ⟨[], [E56.o r], [], 1⟩) ?_
 unfold F16
 refine Ref.sq ?_
 refine Ref.rn 0 ?_
 refine RefR.e0 (st' := ⟨[sP 0 0 0 0, sI 1 a1, sB 8 (!errS a0.ferr)], [E56.o a0], [], 1⟩) 0 5 5 [0, 1, 8] [0] ?_
 refine RefR.nl 5 ?_
 refine Ref.cn (.tmp 8) (!errS a0.ferr) (fun hc => ?_) (fun hc => ?_)
 ·
  refine Ref.rn 1 ?_
  refine RefR.e1 0 3 3 [9, 10, 11] [0] ?_
  refine RefR.lookC (t := 12) (g := []) (b := true) 3 4 [0] (default : S69) rfl (by kernel_rfl) (DFun.forget (F24_ok K a0) (fun _ => rfl)) (fun _ => rfl) (fun r1 => ?_)
  refine RefR.e1 4 1 5 [9, 10, 13] [0] ?_
  refine RefR.cc 14 5 6 [] (F41_ok K a1 r1.fAt) (fun r2 => ?_)
  refine RefR.e0 (st' := ⟨[], [.cells [E69.tree a0.ftokens, iC a0.fi, iC a0.fend, errC r2]], [], 1⟩) 6 3 9 [] [0] ?_
  refine RefR.nl 9 ?_
  exact Ref.n0 (t := ((⟨a0.ftokens, a0.fi, a0.fend, r2⟩ : S56)))
 ·
  refine Ref.sk ?_
  refine Ref.ck ⟨[], [E56.o a0], [], 1⟩ [] [0] ?_
  exact Ref.n0 (t := (a0))
def F37 (K : Nat) (a0 : S56) (a1 : Bytes) : Option ((Bool × S56) ⊕ (Bool × S56)) :=
 ((condM true (fnS (F22 K a0 [a1])) default).bind (fun r1 => (if (!r1) = true then (some (.inl (false, a0))) else (some (.inl (true, (⟨a0.ftokens, (IntKind.i64.wrap (a0.fi + 1)), a0.fend, a0.ferr⟩ : S56)))))))
theorem F37_ok (K : Nat) (a0 : S56) (a1 : Bytes) : DFun Tryz.prog 37 [.c (.ptr 0 0 0), .c (.str a1)] [E56.o a0] (fnS (F37 K a0 a1)) (fun r => .c (.val (.bool r.1))) (fun r => [E56.o r.2]) := by
 refine DFun.it Tryz.f37 (fun r => ⟨[sB 4 r.1], [E56.o r.2], [], 1⟩) ?_
 unfold F37
 refine Ref.sq ?_
 refine Ref.rn 0 ?_
 refine RefR.e0 (st' := ⟨[sP 0 0 0 0, sS 1 a1], [E56.o a0], [], 1⟩) 0 1 1 [0, 1] [0] ?_
 refine RefR.nl 1 ?_
 refine Ref.sq ?_
 refine Ref.sq ?_
 refine Ref.rn 1 ?_
 refine RefR.e0 (st' := ⟨[sP 0 0 0 0, sP 5 0 0 0, sS 6 a1], [E56.o a0], [], 1⟩) 0 2 2 [0, 5, 6] [0] ?_
 refine RefR.e0 (st' := ⟨[sP 0 0 0 0, sP 5 0 0 0, (7, .c (.own 1 1))], [E56.o a0, .row 9 1 1 (tbl [[.str a1]])], [], 1⟩) 2 1 3 [0, 5, 7] [0, 1] ?_
 refine RefR.conv (Conv.ob 1 (E9.row [a1]) (El.row_build E9 [a1] rfl (by kernel_rfl))) ?_
 refine RefR.conv (Conv.sl 7 (.c (.own 1 ([a1].length))) (DLe.c (CLe.own (by simp <;> omega)))) ?_
 refine RefR.lookC (t := 8) (g := []) (b := true) 3 4 [0, 1] (default : Bool) rfl (by kernel_rfl) (F22_ok K a0 [a1]) (fun _ => rfl) (fun r1 => ?_)
 refine RefR.e0 (st' := ⟨[sP 0 0 0 0, sB 9 (!r1)], [E56.o a0], [], 1⟩) 4 1 5 [0, 9] [0] ?_
 refine RefR.nl 5 ?_
 refine Ref.cn (.tmp 9) (!r1) (fun hc => ?_) (fun hc => ?_)
 ·
  refine Ref.sq ?_
  refine Ref.rn 2 ?_
  refine RefR.e0 (st' := ⟨[sB 4 false], [E56.o a0], [], 1⟩) 0 1 1 [4] [0] ?_
  refine RefR.nl 1 ?_
  exact Ref.rt (t := (false, a0))
 ·
  refine Ref.sk ?_
  refine Ref.sq ?_
  refine Ref.rn 3 ?_
  refine RefR.e0 (st' := ⟨[], [.cells [E69.tree a0.ftokens, iC (IntKind.i64.wrap (a0.fi + 1)), iC a0.fend, errC a0.ferr]], [], 1⟩) 0 8 8 [] [0] ?_
  refine RefR.nl 8 ?_
  refine Ref.sq ?_
  refine Ref.rn 4 ?_
  refine RefR.e0 (st' := ⟨[sB 4 true], [.cells [E69.tree a0.ftokens, iC (IntKind.i64.wrap (a0.fi + 1)), iC a0.fend, errC a0.ferr]], [], 1⟩) 0 1 1 [4] [0] ?_
  refine RefR.nl 1 ?_
  exact Ref.rt (t := (true, (⟨a0.ftokens, (IntKind.i64.wrap (a0.fi + 1)), a0.fend, a0.ferr⟩ : S56)))
def F79 (K : Nat) (a0 : S56) (a1 : (List Bytes)) : Option ((S56) ⊕ (S56)) :=
 (bindS (blockS ((iter K (fun (u28 : S56 × Int) => (letV (decide ((u28.2 : Int) < (Int.ofNat a1.length))) (fun (x36 : Bool) => (if x36 = true then (bindS (blockS (chk [inb u28.2 a1.length] ((fnS (F37 K u28.1 (a1.getD (u28.2 : Int).toNat default))).bind (fun r40 => (if (!r40.1) = true then ((fnS (F16 K r40.2 3)).bind (fun r41 => (some (.inr (r41))))) else (some (.inr (r40.2)))))))) (fun (u39 : S56) => (some (.inr (u39, (IntKind.i64.wrap (u28.2 + 1))))))) else (some (.inl (Sum.inl (u28.1)))))))) (a0, 0)).map .inl)) (fun (u21 : S56) => (some (.inr (u21)))))
theorem F79_ok (K : Nat) (a0 : S56) (a1 : (List Bytes)) : DFun Tryz.prog 79 [.c (.ptr 0 0 0), .c (E9.tree a1)] [E56.o a0] (fnS (F79 K a0 a1)) (fun r => .tup []) (fun r => [E56.o r]) := by
 refine DFun.it Tryz.f79 (fun r => ⟨[], [E56.o r], [], 1⟩) ?_
 unfold F79
 refine Ref.sq ?_
 refine Ref.rn 0 ?_
 refine RefR.e0 (st' := ⟨[sP 0 0 0 0, (6, .c (E9.tree a1)), sI 7 (Int.ofNat a1.length), sI 8 0], [E56.o a0], [], 1⟩) 0 3 3 [0, 6, 7, 8] [0] ?_
 refine RefR.nl 3 ?_
 refine Ref.ce (.block 0 (cd (bd Tryz.f79) [1, 0])) ?_
 refine Ref.block (go1 := fun u21 => ⟨[], [E56.o u21], [], 1⟩) ?_ (fun _ h => by cases h) (fun u21 => ?_)
 ·
  refine Ref.ce (.loop (cd (bd Tryz.f79) [1, 0, 0])) ?_
  refine Ref.loop (hd := fun u28 => ⟨[sP 0 0 0 0, (6, .c (E9.tree a1)), sI 7 (Int.ofNat a1.length), sI 8 u28.2], [E56.o u28.1], [], 1⟩) K (a0, 0) (by kernel_rfl) (fun u28 => ?_)
  refine Ref.sq ?_
  refine Ref.rn 1 ?_
  refine RefR.e0 (st' := ⟨[sP 0 0 0 0, (6, .c (E9.tree a1)), sI 7 (Int.ofNat a1.length), sI 8 u28.2, sB 9 (decide ((u28.2 : Int) < (Int.ofNat a1.length)))], [E56.o u28.1], [], 1⟩) 0 1 1 [0, 6, 7, 8, 9] [0] ?_
  refine RefR.letC (stf := fun x36 => ⟨[sP 0 0 0 0, (6, .c (E9.tree a1)), sI 7 (Int.ofNat a1.length), sI 8 u28.2, sB 9 x36], [E56.o u28.1], [], 1⟩) (by kernel_rfl) (fun x36 => ?_)
  refine RefR.nl 1 ?_
  refine Ref.sq ?_
  refine Ref.cn (.tmp 9) x36 (fun hc => ?_) (fun hc => ?_)
  ·
   refine Ref.sk ?_
   refine Ref.sq ?_
   refine Ref.ce (.block 1 (cd (bd Tryz.f79) [1, 0, 0, 1, 1, 0, 0])) ?_
   refine Ref.block (go1 := fun u39 => ⟨[sP 0 0 0 0, (6, .c (E9.tree a1)), sI 7 (Int.ofNat a1.length), sI 8 u28.2], [E56.o u39], [], 1⟩) ?_ (fun a => match a with | .inl _ => (fun h => by cases h) | .inr _ => (fun h => by cases h)) (fun u39 => ?_)
   ·
    refine Ref.sq ?_
    refine Ref.rn 2 ?_
    refine RefR.evC (vs := [inb u28.2 a1.length]) (st' := ⟨[sP 0 0 0 0, sS 5 (a1.getD (u28.2 : Int).toNat default), (6, .c (E9.tree a1)), sI 7 (Int.ofNat a1.length), sI 8 u28.2], [E56.o u28.1], [], 1⟩) 0 3 3 [0, 5, 6, 7, 8] [0] rfl (by kernel_rfl) ?_
    refine RefR.nl 3 ?_
    refine Ref.sq ?_
    refine Ref.rn 3 ?_
    refine RefR.e1 0 2 2 [0, 6, 7, 8, 12, 13] [0] ?_
    refine RefR.cc 14 2 3 [0] (F37_ok K u28.1 (a1.getD (u28.2 : Int).toNat default)) (fun r40 => ?_)
    refine RefR.e0 (st' := ⟨[sP 0 0 0 0, (6, .c (E9.tree a1)), sI 7 (Int.ofNat a1.length), sI 8 u28.2, sB 15 (!r40.1)], [E56.o r40.2], [], 1⟩) 3 1 4 [0, 6, 7, 8, 15] [0] ?_
    refine RefR.nl 4 ?_
    refine Ref.cn (.tmp 15) (!r40.1) (fun hc => ?_) (fun hc => ?_)
    ·
     refine Ref.rn 4 ?_
     refine RefR.e1 0 1 1 [0, 6, 7, 8, 16] [0] ?_
     refine RefR.cc 17 1 2 [0] (F16_ok K r40.2 3) (fun r41 => ?_)
     refine RefR.nl 2 ?_
     refine Ref.ck ⟨[sP 0 0 0 0, (6, .c (E9.tree a1)), sI 7 (Int.ofNat a1.length), sI 8 u28.2], [E56.o r41], [], 1⟩ [0, 6, 7, 8] [0] ?_
     exact Ref.n0 (t := (r41))
    ·
     refine Ref.sk ?_
     refine Ref.ck ⟨[sP 0 0 0 0, (6, .c (E9.tree a1)), sI 7 (Int.ofNat a1.length), sI 8 u28.2], [E56.o r40.2], [], 1⟩ [0, 6, 7, 8] [0] ?_
     exact Ref.n0 (t := (r40.2))
   ·
    refine Ref.rn 5 ?_
    refine RefR.e0 (st' := ⟨[sP 0 0 0 0, (6, .c (E9.tree a1)), sI 7 (Int.ofNat a1.length), sI 8 (IntKind.i64.wrap (u28.2 + 1))], [E56.o u39], [], 1⟩) 0 2 2 [0, 6, 7, 8] [0] ?_
    refine RefR.nl 2 ?_
    exact Ref.n0 (t := (u39, (IntKind.i64.wrap (u28.2 + 1))))
  ·
   refine Ref.ck ⟨[], [E56.o u28.1], [], 1⟩ [] [0] ?_
   exact Ref.xt 0 (t := (Sum.inl (u28.1)))
 ·
  exact Ref.n0 (t := (u21))
def F69 (K : Nat) (a0 : S56) : Option ((Bytes × S56) ⊕ (Bytes × S56)) :=
 ((condM true (fnS (F24 K a0)) default).bind (fun r1 => ((condM true (fnS (F66 K a0 1)) default).bind (fun r2 => (if (!r2) = true then ((fnS (F16 K a0 3)).bind (fun r3 => (some (.inl (([] : Bytes), r3))))) else (some (.inl (r1.fText, (⟨a0.ftokens, (IntKind.i64.wrap (a0.fi + 1)), a0.fend, a0.ferr⟩ : S56)))))))))
theorem F69_ok (K : Nat) (a0 : S56) : DFun Tryz.prog 69 [.c (.ptr 0 0 0)] [E56.o a0] (fnS (F69 K a0)) (fun r => .c (.str r.1)) (fun r => [E56.o r.2]) := by
 refine DFun.it Tryz.f69 (fun r => ⟨[sS 2 r.1], [E56.o r.2], [], 1⟩) ?_
 unfold F69
 refine Ref.sq ?_
 refine Ref.rn 0 ?_
 refine RefR.e0 (st' := ⟨[sP 0 0 0 0], [E56.o a0], [], 1⟩) 0 1 1 [0] [0] ?_
 refine RefR.nl 1 ?_
 refine Ref.sq ?_
 refine Ref.rn 1 ?_
 refine RefR.e1 0 1 1 [0, 4] [0] ?_
 refine RefR.lookC (t := 5) (g := []) (b := true) 1 2 [0] (default : S69) rfl (by kernel_rfl) (DFun.forget (F24_ok K a0) (fun _ => rfl)) (fun _ => rfl) (fun r1 => ?_)
 refine RefR.e0 (st' := ⟨[sP 0 0 0 0, sP 3 1 0 0], [E56.o a0, E69.o r1], [], 1⟩) 2 2 4 [0, 3] [0, 1] ?_
 refine RefR.nl 4 ?_
 refine Ref.sq ?_
 refine Ref.sq ?_
 refine Ref.rn 2 ?_
 refine RefR.e1 0 1 1 [0, 3, 6] [0, 1] ?_
 refine RefR.lookC (t := 7) (g := []) (b := true) 1 2 [0] (default : Bool) rfl (by kernel_rfl) (F66_ok K a0 1) (fun _ => rfl) (fun r2 => ?_)
 refine RefR.e0 (st' := ⟨[sP 0 0 0 0, sP 3 1 0 0, sB 8 (!r2)], [E56.o a0, E69.o r1], [], 1⟩) 2 1 3 [0, 3, 8] [0, 1] ?_
 refine RefR.nl 3 ?_
 refine Ref.cn (.tmp 8) (!r2) (fun hc => ?_) (fun hc => ?_)
 ·
  refine Ref.sq ?_
  refine Ref.rn 3 ?_
  refine RefR.e1 0 1 1 [9] [0] ?_
  refine RefR.cc 10 1 2 [0] (F16_ok K a0 3) (fun r3 => ?_)
  refine RefR.nl 2 ?_
  refine Ref.sq ?_
  refine Ref.rn 4 ?_
  refine RefR.e0 (st' := ⟨[sS 2 ([] : Bytes)], [E56.o r3], [], 1⟩) 0 1 1 [2] [0] ?_
  refine RefR.nl 1 ?_
  exact Ref.rt (t := (([] : Bytes), r3))
 ·
  refine Ref.sk ?_
  refine Ref.sq ?_
  refine Ref.rn 5 ?_
  refine RefR.e0 (st' := ⟨[sP 3 1 0 0], [.cells [E69.tree a0.ftokens, iC (IntKind.i64.wrap (a0.fi + 1)), iC a0.fend, errC a0.ferr], E69.o r1], [], 1⟩) 0 8 8 [3] [0, 1] ?_
  refine RefR.nl 8 ?_
  refine Ref.sq ?_
  refine Ref.rn 6 ?_
  refine RefR.e0 (st' := ⟨[sS 2 r1.fText], [.cells [E69.tree a0.ftokens, iC (IntKind.i64.wrap (a0.fi + 1)), iC a0.fend, errC a0.ferr]], [], 1⟩) 0 3 3 [2] [0] ?_
  refine RefR.nl 3 ?_
  exact Ref.rt (t := (r1.fText, (⟨a0.ftokens, (IntKind.i64.wrap (a0.fi + 1)), a0.fend, a0.ferr⟩ : S56)))
def F67 (K : Nat) (a0 : S56) : Option ((Int × S56) ⊕ (Int × S56)) :=
 ((condM true (fnS (F24 K a0)) default).bind (fun r1 => ((condM true (fnS (F66 K a0 3)) default).bind (fun r2 => (if (!r2) = true then ((fnS (F16 K a0 3)).bind (fun r3 => (some (.inl (0, r3))))) else (some (.inl (r1.fN, (⟨a0.ftokens, (IntKind.i64.wrap (a0.fi + 1)), a0.fend, a0.ferr⟩ : S56)))))))))
theorem F67_ok (K : Nat) (a0 : S56) : DFun Tryz.prog 67 [.c (.ptr 0 0 0)] [E56.o a0] (fnS (F67 K a0)) (fun r => .c (.val (.int .i64 r.1))) (fun r => [E56.o r.2]) := by
 refine DFun.it Tryz.f67 (fun r => ⟨[sI 2 r.1], [E56.o r.2], [], 1⟩) ?_
 unfold F67
 refine Ref.sq ?_
 refine Ref.rn 0 ?_
 refine RefR.e0 (st' := ⟨[sP 0 0 0 0], [E56.o a0], [], 1⟩) 0 1 1 [0] [0] ?_
 refine RefR.nl 1 ?_
 refine Ref.sq ?_
 refine Ref.rn 1 ?_
 refine RefR.e1 0 1 1 [0, 4] [0] ?_
 refine RefR.lookC (t := 5) (g := []) (b := true) 1 2 [0] (default : S69) rfl (by kernel_rfl) (DFun.forget (F24_ok K a0) (fun _ => rfl)) (fun _ => rfl) (fun r1 => ?_)
 refine RefR.e0 (st' := ⟨[sP 0 0 0 0, sP 3 1 0 0], [E56.o a0, E69.o r1], [], 1⟩) 2 2 4 [0, 3] [0, 1] ?_
 refine RefR.nl 4 ?_
 refine Ref.sq ?_
 refine Ref.sq ?_
 refine Ref.rn 2 ?_
 refine RefR.e1 0 1 1 [0, 3, 6] [0, 1] ?_
 refine RefR.lookC (t := 7) (g := []) (b := true) 1 2 [0] (default : Bool) rfl (by kernel_rfl) (F66_ok K a0 3) (fun _ => rfl) (fun r2 => ?_)
 refine RefR.e0 (st' := ⟨[sP 0 0 0 0, sP 3 1 0 0, sB 8 (!r2)], [E56.o a0, E69.o r1], [], 1⟩) 2 1 3 [0, 3, 8] [0, 1] ?_
 refine RefR.nl 3 ?_
 refine Ref.cn (.tmp 8) (!r2) (fun hc => ?_) (fun hc => ?_)
 ·
  refine Ref.sq ?_
  refine Ref.rn 3 ?_
  refine RefR.e1 0 1 1 [9] [0] ?_
  refine RefR.cc 10 1 2 [0] (F16_ok K a0 3) (fun r3 => ?_)
  refine RefR.nl 2 ?_
  refine Ref.sq ?_
  refine Ref.rn 4 ?_
  refine RefR.e0 (st' := ⟨[sI 2 0], [E56.o r3], [], 1⟩) 0 1 1 [2] [0] ?_
  refine RefR.nl 1 ?_
  exact Ref.rt (t := (0, r3))
 ·
  refine Ref.sk ?_
  refine Ref.sq ?_
  refine Ref.rn 5 ?_
  refine RefR.e0 (st' := ⟨[sP 3 1 0 0], [.cells [E69.tree a0.ftokens, iC (IntKind.i64.wrap (a0.fi + 1)), iC a0.fend, errC a0.ferr], E69.o r1], [], 1⟩) 0 8 8 [3] [0, 1] ?_
  refine RefR.nl 8 ?_
  refine Ref.sq ?_
  refine Ref.rn 6 ?_
  refine RefR.e0 (st' := ⟨[sI 2 r1.fN], [.cells [E69.tree a0.ftokens, iC (IntKind.i64.wrap (a0.fi + 1)), iC a0.fend, errC a0.ferr]], [], 1⟩) 0 3 3 [2] [0] ?_
  refine RefR.nl 3 ?_
  exact Ref.rt (t := (r1.fN, (⟨a0.ftokens, (IntKind.i64.wrap (a0.fi + 1)), a0.fend, a0.ferr⟩ : S56)))
def F36 (K : Nat) (a0 : S56) (a1 : Int) : Option ((S56) ⊕ (S56)) :=
 (if (decide ((a1 : Int) > 6)) = true then ((fnS (F16 K a0 4)).bind (fun r1 => (some (.inr (r1))))) else (some (.inr (a0))))
theorem F36_ok (K : Nat) (a0 : S56) (a1 : Int) : DFun Tryz.prog 36 [.c (.ptr 0 0 0), .c (.val (.int .i64 a1))] [E56.o a0] (fnS (F36 K a0 a1)) (fun r => .tup []) (fun r => [E56.o r]) := by
 refine DFun.it Tryz.f36 (fun r => ⟨[], [E56.o r], [], 1⟩) ?_
 unfold F36
 refine Ref.sq ?_
 refine Ref.rn 0 ?_
 refine RefR.e0 (st' := ⟨[sP 0 0 0 0, sB 5 (decide ((a1 : Int) > 6))], [E56.o a0], [], 1⟩) 0 2 2 [0, 5] [0] ?_
 refine RefR.nl 2 ?_
 refine Ref.cn (.tmp 5) (decide ((a1 : Int) > 6)) (fun hc => ?_) (fun hc => ?_)
 ·
  refine Ref.rn 1 ?_
  refine RefR.e1 0 1 1 [6] [0] ?_
  refine RefR.cc 7 1 2 [0] (F16_ok K a0 4) (fun r1 => ?_)
  refine RefR.nl 2 ?_
  refine Ref.ck ⟨[], [E56.o r1], [], 1⟩ [] [0] ?_
  exact Ref.n0 (t := (r1))
 ·
  refine Ref.sk ?_
  refine Ref.ck ⟨[], [E56.o a0], [], 1⟩ [] [0] ?_
  exact Ref.n0 (t := (a0))
def F68 (K : Nat) (a0 : S56) : Option ((Bytes × S56) ⊕ (Bytes × S56)) :=
 ((fnS (F79 K a0 ([[40]] : List Bytes))).bind (fun r1 => ((fnS (F69 K r1)).bind (fun r2 => ((fnS (F79 K r2.2 ([[41]] : List Bytes))).bind (fun r3 => (some (.inl (r2.1, r3)))))))))
theorem F68_ok (K : Nat) (a0 : S56) : DFun Tryz.prog 68 [.c (.ptr 0 0 0)] [E56.o a0] (fnS (F68 K a0)) (fun r => .c (.str r.1)) (fun r => [E56.o r.2]) := by
 refine DFun.it Tryz.f68 (fun r => ⟨[sS 2 r.1], [E56.o r.2], [], 1⟩) ?_
 unfold F68
 refine Ref.sq ?_
 refine Ref.rn 0 ?_
 refine RefR.e0 (st' := ⟨[sP 0 0 0 0], [E56.o a0], [], 1⟩) 0 1 1 [0] [0] ?_
 refine RefR.nl 1 ?_
 refine Ref.sq ?_
 refine Ref.rn 1 ?_
 refine RefR.e0 (st' := ⟨[sP 0 0 0 0, sP 4 0 0 0], [E56.o a0], [], 1⟩) 0 1 1 [0, 4] [0] ?_
 refine RefR.li 5 [] E9 ([[40]] : List Bytes) 1 2 ?_
 refine RefR.cc 6 2 3 [0] (F79_ok K a0 ([[40]] : List Bytes)) (fun r1 => ?_)
 refine RefR.nl 3 ?_
 refine Ref.sq ?_
 refine Ref.rn 2 ?_
 refine RefR.e1 0 1 1 [0, 7] [0] ?_
 refine RefR.cc 8 1 2 [0] (F69_ok K r1) (fun r2 => ?_)
 refine RefR.e0 (st' := ⟨[sP 0 0 0 0, sS 3 r2.1], [E56.o r2.2], [], 1⟩) 2 1 3 [0, 3] [0] ?_
 refine RefR.nl 3 ?_
 refine Ref.sq ?_
 refine Ref.rn 3 ?_
 refine RefR.e0 (st' := ⟨[sS 3 r2.1, sP 9 0 0 0], [E56.o r2.2], [], 1⟩) 0 1 1 [3, 9] [0] ?_
 refine RefR.li 10 [] E9 ([[41]] : List Bytes) 1 2 ?_
 refine RefR.cc 11 2 3 [0] (F79_ok K r2.2 ([[41]] : List Bytes)) (fun r3 => ?_)
 refine RefR.nl 3 ?_
 refine Ref.sq ?_
 refine Ref.rn 4 ?_
 refine RefR.e0 (st' := ⟨[sS 2 r2.1], [E56.o r3], [], 1⟩) 0 2 2 [2] [0] ?_
 refine RefR.nl 2 ?_
 exact Ref.rt (t := (r2.1, r3))
end Go.Proofs.YtidjangjfekfjaaGreatDoor
