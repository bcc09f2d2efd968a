/- Plain functions, and that the Go functions do what these do: printed by gen2.py. No conditions. -/
import Derived.Test.YtidjangjfekfjaaGreatDoorLa
import Derived.Test.YtidjangjfekfjaaGreatDoorLCw
import Derived.Test.YtidjangjfekfjaaGreatDoorGb
import Derived.Test.YtidjangjfekfjaaGreatDoorHb
import Derived.Test.YtidjangjfekfjaaGreatDoorProg
set_option linter.unusedVariables false
set_option linter.unusedSimpArgs false
set_option linter.unusedSectionVars false
namespace Go.Proofs.YtidjangjfekfjaaGreatDoor
open Go Go.Proofs Go.Dl
set_option maxRecDepth 100000
set_option maxHeartbeats 4000000
def F14 (K : Nat) (a0 : Bytes) : Option ((S56) ⊕ (S56)) :=
 ((fnS (F33 K a0)).bind (fun r1 => ((fnS (F34 K r1.2)).bind (fun r2 => (some (.inl ((⟨r1.1, 0, (Int.ofNat a0.length), r2⟩ : S56))))))))
theorem F14_ok (K : Nat) (a0 : Bytes) : DFun Tryz.prog 14 [.c (.str a0)] [] (fnS (F14 K a0)) (fun r => .c (.ptr 0 0 0)) (fun r => [E56.o r]) := by
 refine DFun.it Tryz.f14 (fun r => ⟨[sP 2 0 0 0], [E56.o r], [], 0⟩) ?_
 unfold F14
 refine Ref.sq ?_
 refine Ref.rn 0 ?_
 refine RefR.e0 (st' := ⟨[sS 0 a0], [], [], 0⟩) 0 1 1 [0] [] ?_
 refine RefR.nl 1 ?_
 refine Ref.sq ?_
 refine Ref.rn 1 ?_
 refine RefR.e1 0 1 1 [0, 7] [] ?_
 refine RefR.cc 8 1 2 [] (F33_ok K a0) (fun r1 => ?_)
 refine RefR.e0 (st' := ⟨[sS 0 a0, (3, .c (E69.tree r1.1)), (4, .c (errC r1.2))], [], [], 0⟩) 2 5 7 [0, 3, 4] [] ?_
 refine RefR.nl 7 ?_
 refine Ref.sq ?_
 refine Ref.rn 2 ?_
 refine RefR.e0 (st' := ⟨[(4, .c (errC r1.2)), sP 5 0 0 0], [.cells [E69.tree r1.1, iC 0, iC (Int.ofNat a0.length), .val .nilIface]], [], 0⟩) 0 6 6 [4, 5] [0] ?_
 refine RefR.nl 6 ?_
 refine Ref.sq ?_
 refine Ref.rn 3 ?_
 refine RefR.e1 0 2 2 [5, 16, 17] [0] ?_
 refine RefR.cc 18 2 3 [] (F34_ok K r1.2) (fun r2 => ?_)
 refine RefR.e0 (st' := ⟨[sP 5 0 0 0], [.cells [E69.tree r1.1, iC 0, iC (Int.ofNat a0.length), errC r2]], [], 0⟩) 3 3 6 [5] [0] ?_
 refine RefR.nl 6 ?_
 refine Ref.sq ?_
 refine Ref.rn 4 ?_
 refine RefR.e0 (st' := ⟨[sP 2 0 0 0], [.cells [E69.tree r1.1, iC 0, iC (Int.ofNat a0.length), errC r2]], [], 0⟩) 0 2 2 [2] [0] ?_
 refine RefR.nl 2 ?_
 exact Ref.rt (t := ((⟨r1.1, 0, (Int.ofNat a0.length), r2⟩ : S56)))
def F6 (K : Nat) (a0 : Bytes) : Option ((S25 × Err) ⊕ (S25 × Err)) :=
 ((fnS (F14 K a0)).bind (fun r1 => ((fnS (F15 K r1 1)).bind (fun r2 => (letV (decide ((r2.2.fi : Int) < (Int.ofNat r2.2.ftokens.length))) (fun (x3 : Bool) => (bindS (if x3 = true then ((fnS (F16 K r2.2 3)).bind (fun r6 => (some (.inr (r6))))) else (some (.inr (r2.2)))) (fun (u5 : S56) => ((condM true (fnS (F17 K u5)) default).bind (fun r7 => (if (!r7) = true then (some (.inl ((⟨0, 0, ([] : Bytes), ([] : Bytes), []⟩ : S25), u5.ferr))) else (some (.inl (r2.1, ([] : Err)))))))))))))))
theorem F6_ok (K : Nat) (a0 : Bytes) : DFun Tryz.prog 6 [.c (.str a0)] [] (fnS (F6 K a0)) (fun r => .tup [.agg (E25.cs r.1), .c (errC r.2)]) (fun r => [E25.o r.1]) := by
 refine DFun.it Tryz.f6 (fun r => ⟨[sP 2 0 0 0, (3, .c (errC r.2))], [E25.o r.1], [], 0⟩) ?_
 unfold F6
 refine Ref.sq ?_
 refine Ref.rn 0 ?_
 refine RefR.e0 (st' := ⟨[sS 0 a0, sP 2 0 0 0], [oX0], [], 0⟩) 0 2 2 [0, 2] [0] ?_
 refine RefR.nl 2 ?_
 refine Ref.sq ?_
 refine Ref.rn 1 ?_
 refine RefR.e1 0 1 1 [2, 6] [0] ?_
 refine RefR.cc 7 1 2 [] (F14_ok K a0) (fun r1 => ?_)
 refine RefR.e0 (st' := ⟨[sP 2 0 0 0, sP 4 1 0 0], [oX0, E56.o r1], [], 0⟩) 2 1 3 [2, 4] [0, 1] ?_
 refine RefR.nl 3 ?_
 refine Ref.sq ?_
 refine Ref.rn 2 ?_
 refine RefR.e1 0 1 1 [2, 4, 8] [0, 1] ?_
 refine RefR.cc 9 1 2 [1] (F15_ok K r1 1) (fun r2 => ?_)
 refine RefR.e0 (st' := ⟨[sP 2 0 0 0, sP 4 1 0 0, sP 5 2 0 0], [oX0, E56.o r2.2, E25.o r2.1], [], 0⟩) 2 2 4 [2, 4, 5] [0, 1, 3] ?_
 refine RefR.nl 4 ?_
 refine Ref.sq ?_
 refine Ref.sq ?_
 refine Ref.drawnY 3 (by kernel_rfl) (by kernel_rfl) ?_
 refine RefY.evC0 (st' := ⟨[sP 2 0 0 0, sP 4 1 0 0, sP 5 2 0 0, sP 12 1 0 1, sP 16 1 0 0], [oX0, E56.o r2.2, E25.o r2.1], [], 0⟩) (fuel' := 4) [0, 1, 2, 4, 5, 6] [2, 4, 5, 12, 16] [0, 1, 2] rfl (by kernel_rfl) (by kernel_rfl) ?_
 refine RefY.toX [] ?_
 refine RefX.evC0 (st' := ⟨[sP 2 0 0 0, sP 4 1 0 0, sP 5 2 0 0, sB 19 (decide ((r2.2.fi : Int) < (Int.ofNat r2.2.ftokens.length)))], [oX0, E56.o r2.2, E25.o r2.1], [], 0⟩) (fuel' := 0) [3, 7, 8, 9] [2, 4, 5, 19] [0, 1, 2] rfl (by kernel_rfl) (by kernel_rfl) ?_
 refine RefX.letC (stf := fun x3 => ⟨[sP 2 0 0 0, sP 4 1 0 0, sP 5 2 0 0, sB 19 x3], [oX0, E56.o r2.2, E25.o r2.1], [], 0⟩) (by kernel_rfl) (fun x3 => ?_)
 refine RefX.done (by kernel_rfl) ?_
 refine Ref.bind (go1 := fun u5 => ⟨[sP 2 0 0 0, sP 4 1 0 0, sP 5 2 0 0], [oX0, E56.o u5, E25.o r2.1], [], 0⟩) ?_ (fun u5 => ?_)
 ·
  refine Ref.cn (.tmp 19) x3 (fun hc => ?_) (fun hc => ?_)
  ·
   refine Ref.rn 4 ?_
   refine RefR.e1 0 1 1 [2, 4, 5, 20] [0, 1, 2] ?_
   refine RefR.cc 21 1 2 [1] (F16_ok K r2.2 3) (fun r6 => ?_)
   refine RefR.nl 2 ?_
   refine Ref.ck ⟨[sP 2 0 0 0, sP 4 1 0 0, sP 5 2 0 0], [oX0, E56.o r6, E25.o r2.1], [], 0⟩ [2, 4, 5] [0, 1, 2] ?_
   exact Ref.n0 (t := (r6))
  ·
   refine Ref.sk ?_
   refine Ref.ck ⟨[sP 2 0 0 0, sP 4 1 0 0, sP 5 2 0 0], [oX0, E56.o r2.2, E25.o r2.1], [], 0⟩ [2, 4, 5] [0, 1, 2] ?_
   exact Ref.n0 (t := (r2.2))
 ·
  refine Ref.sq ?_
  refine Ref.sq ?_
  refine Ref.rn 5 ?_
  refine RefR.e1 0 1 1 [2, 4, 5, 22] [0, 1, 2] ?_
  refine RefR.lookC (t := 23) (g := []) (b := true) 1 2 [1] (default : Bool) rfl (by kernel_rfl) (F17_ok K u5) (fun _ => rfl) (fun r7 => ?_)
  refine RefR.e0 (st' := ⟨[sP 2 0 0 0, sP 4 1 0 0, sP 5 2 0 0, sB 24 (!r7)], [oX0, E56.o u5, E25.o r2.1], [], 0⟩) 2 1 3 [2, 4, 5, 24] [0, 1, 2] ?_
  refine RefR.nl 3 ?_
  refine Ref.cn (.tmp 24) (!r7) (fun hc => ?_) (fun hc => ?_)
  ·
   refine Ref.sq ?_
   refine Ref.drawnY 6 (by kernel_rfl) (by kernel_rfl) ?_
   refine RefY.evC0 (st' := ⟨[sP 2 0 0 0, (25, .agg [iC 0, iC 0, .str [], .str [], .nil]), sP 28 1 0 3], [oX0, E56.o u5], [], 0⟩) (fuel' := 3) [0, 1, 2, 3] [2, 25, 28] [0, 1] rfl (by kernel_rfl) (by kernel_rfl) ?_
   refine RefY.toX [5] ?_
   refine RefX.pend0 (fuel' := 2) [[], [(4, 29)]] [(4, 29)] [2, 25, 28] [0, 1] ⟨[sP 2 0 0 0, (25, .agg [iC 0, iC 0, .str [], .str [], .nil]), sP 28 1 0 3, (29, .c (errC u5.ferr))], [oX0, E56.o u5], [], 0⟩ ?_
   refine RefXq.fork1 (fuel' := 1) 5 ?_
   refine RefXqi.writes0 (st' := ⟨[sP 2 0 0 0, sP 28 1 0 3, (29, .c (errC u5.ferr))], [oX0, E56.o u5], [], 0⟩) 5 [2, 28, 29] [0, 1] (by kernel_rfl) (by kernel_rfl) ?_
   refine RefXq.close ?_
   refine RefX.evC0 (st' := ⟨[sP 2 0 0 0, (3, .c (errC u5.ferr))], [oX0], [], 0⟩) (fuel' := 0) [6] [2, 3] [0] rfl (by kernel_rfl) (by kernel_rfl) ?_
   refine RefX.done (by kernel_rfl) ?_
   refine Ref.conv (Conv.ob 0 (.cells [iC 0, iC 0, .str [], .str [], E25.tree []]) (OLe.cells (All2.cons (CLe.refl _) (All2.cons (CLe.refl _) (All2.cons (CLe.refl _) (All2.cons (CLe.refl _) (All2.cons (El.tree_nil E25) (All2.nil)))))))) ?_
   refine Ref.conv (Conv.ob 0 (.cells [iC 0, iC 0, .str [], .str [], NT25 []]) (OLe.cells (All2.cons (CLe.refl _) (All2.cons (CLe.refl _) (All2.cons (CLe.refl _) (All2.cons (CLe.refl _) (All2.cons (NT25_ge _) (All2.nil)))))))) ?_
   exact Ref.rt (t := ((⟨0, 0, ([] : Bytes), ([] : Bytes), []⟩ : S25), u5.ferr))
  ·
   refine Ref.sk ?_
   refine Ref.sq ?_
   refine Ref.rn 7 ?_
   refine RefR.e0 (st' := ⟨[sP 2 0 0 0, (3, .c (.val .nilIface))], [E25.o r2.1], [], 0⟩) 0 3 3 [2, 3] [0] ?_
   refine RefR.nl 3 ?_
   refine Ref.conv (Conv.sl 3 (.c (errC ([] : Err))) (DLe.c (errC_nil))) ?_
   refine Ref.ck ⟨[sP 2 0 0 0, (3, .c (errC ([] : Err)))], [E25.o r2.1], [], 0⟩ [2, 3] [0] ?_
   exact Ref.rt (t := (r2.1, ([] : Err)))
mutual
def F8 : (K : Nat) → (S25) → (S25) → Option ((Bool) ⊕ (Bool))
 | 0, _, _ => none
 | K + 1, a0, a1 =>
 (letV (((((a0.fKind : Int) == a1.fKind) && ((a0.fN : Int) == a1.fN)) && (a0.fName == a1.fName)) && (a0.fWhat == a1.fWhat)) (fun (x1 : Bool) => ((condM x1 (fnS (F20 K a0.fArgs a1.fArgs)) default).bind (fun r2 => (some (.inl ((x1 && r2))))))))
def F20 : (K : Nat) → ((List S25)) → ((List S25)) → Option ((Bool) ⊕ (Bool))
 | 0, _, _ => none
 | K + 1, a0, a1 =>
 (letV (((Int.ofNat a0.length) : Int) != (Int.ofNat a1.length)) (fun (x1 : Bool) => (if x1 = true then (some (.inl (false))) else (bindS (blockS ((iter K (fun (u21 : Int) => (letV (decide ((u21 : Int) < (Int.ofNat a0.length))) (fun (x27 : Bool) => (if x27 = true then (bindS (blockS (chk [inb u21 a0.length, inb u21 a1.length] ((condM true (fnS (F8 K (a0.getD (u21 : Int).toNat default) (a1.getD (u21 : Int).toNat default))) default).bind (fun r30 => (if (!r30) = true then (some (.inl (Sum.inr (Sum.inr (false))))) else (some (.inr ()))))))) (fun (u29 : Unit) => (some (.inr ((IntKind.i64.wrap (u21 + 1))))))) else (some (.inl (Sum.inl ()))))))) (0)).map .inl)) (fun (u16 : Unit) => (some (.inl (true))))))))
end
theorem G8_ok : ∀ K : Nat, (∀ (a0 : S25), ∀ (a1 : S25), DFun Tryz.prog 8 [.agg (E25.cs a0), .agg (E25.cs a1)] [] (fnS (F8 K a0 a1)) (fun r => .c (.val (.bool r))) (fun r => [])) ∧ (∀ (a0 : (List S25)), ∀ (a1 : (List S25)), DFun Tryz.prog 20 [.c (E25.tree a0), .c (E25.tree a1)] [] (fnS (F20 K a0 a1)) (fun r => .c (.val (.bool r))) (fun r => [])) := by
 intro K
 induction K with
 | zero => exact ⟨fun a0 a1 => DFun.none (by rw [F8]; rfl), fun a0 a1 => DFun.none (by rw [F20]; rfl)⟩
 | succ K ih =>
  obtain ⟨ih8, ih20⟩ := ih
  refine ⟨?_, ?_⟩
  ·
   intro a0 a1
   refine DFun.it Tryz.f8 (fun r => ⟨[sB 4 r], [], [], 0⟩) ?_
   rw [F8]
   refine Ref.sq ?_
   refine Ref.rn 0 ?_
   refine RefR.e0 (st' := ⟨[sP 2 0 0 0, sP 3 1 0 0], [E25.o a0, E25.o a1], [], 0⟩) 0 3 3 [2, 3] [0, 1] ?_
   refine RefR.nl 3 ?_
   refine Ref.sq ?_
   refine Ref.rn 1 ?_
   refine RefR.e0 (st' := ⟨[sB 31 (((((a0.fKind : Int) == a1.fKind) && ((a0.fN : Int) == a1.fN)) && (a0.fName == a1.fName)) && (a0.fWhat == a1.fWhat)), (33, .c (NT25 a0.fArgs)), (35, .c (NT25 a1.fArgs))], [], [(35, [(31, true)]), (33, [(31, true)])], 0⟩) 0 31 31 [31, 33, 35] [] ?_
   refine RefR.conv (Conv.slotG 33 (.c (E25.tree a0.fArgs)) (DLe.c (NT25_le _)) (by kernel_rfl)) ?_
   refine RefR.conv (Conv.slotG 35 (.c (E25.tree a1.fArgs)) (DLe.c (NT25_le _)) (by kernel_rfl)) ?_
   refine RefR.letC (stf := fun x1 => ⟨[(35, .c (E25.tree a1.fArgs)), (33, .c (E25.tree a0.fArgs)), sB 31 x1], [], [(35, [(31, true)]), (33, [(31, true)])], 0⟩) (by kernel_rfl) (fun x1 => ?_)
   refine RefR.lookC (t := 36) (g := [(31, true)]) (b := x1) 31 32 [] (default : Bool) rfl (by kernel_rfl) (ih20 a0.fArgs a1.fArgs) (fun _ => rfl) (fun r2 => ?_)
   refine RefR.e0 (st' := ⟨[sB 4 (x1 && r2)], [], [], 0⟩) 32 2 34 [4] [] ?_
   refine RefR.nl 34 ?_
   exact Ref.rt (t := ((x1 && r2)))
  ·
   intro a0 a1
   refine DFun.it Tryz.f20 (fun r => ⟨[sB 4 r], [], [], 0⟩) ?_
   rw [F20]
   refine Ref.sq ?_
   refine Ref.rn 0 ?_
   refine RefR.e0 (st' := ⟨[(0, .c (E25.tree a0)), (1, .c (E25.tree a1))], [], [], 0⟩) 0 1 1 [0, 1] [] ?_
   refine RefR.nl 1 ?_
   refine Ref.sq ?_
   refine Ref.sq ?_
   refine Ref.rn 1 ?_
   refine RefR.e0 (st' := ⟨[(0, .c (E25.tree a0)), (1, .c (E25.tree a1)), sB 10 (((Int.ofNat a0.length) : Int) != (Int.ofNat a1.length))], [], [], 0⟩) 0 5 5 [0, 1, 10] [] ?_
   refine RefR.letC (stf := fun x1 => ⟨[(0, .c (E25.tree a0)), (1, .c (E25.tree a1)), sB 10 x1], [], [], 0⟩) (by kernel_rfl) (fun x1 => ?_)
   refine RefR.nl 5 ?_
   refine Ref.cn (.tmp 10) x1 (fun hc => ?_) (fun hc => ?_)
   ·
    refine Ref.sq ?_
    refine Ref.rn 2 ?_
    refine RefR.e0 (st' := ⟨[sB 4 false], [], [], 0⟩) 0 1 1 [4] [] ?_
    refine RefR.nl 1 ?_
    exact Ref.rt (t := (false))
   ·
    refine Ref.sk ?_
    refine Ref.sq ?_
    refine Ref.sq ?_
    refine Ref.rn 3 ?_
    refine RefR.e0 (st' := ⟨[(0, .c (E25.tree a0)), (1, .c (E25.tree a1)), sI 5 0], [], [], 0⟩) 0 1 1 [0, 1, 5] [] ?_
    refine RefR.nl 1 ?_
    refine Ref.ce (.block 0 (cd (bd Tryz.f20) [1, 1, 0, 1, 0])) ?_
    refine Ref.block (go1 := fun u16 => ⟨[], [], [], 0⟩) ?_ (fun _ h => by cases h) (fun u16 => ?_)
    ·
     refine Ref.ce (.loop (cd (bd Tryz.f20) [1, 1, 0, 1, 0, 0])) ?_
     refine Ref.loop (hd := fun u21 => ⟨[(0, .c (E25.tree a0)), (1, .c (E25.tree a1)), sI 5 u21], [], [], 0⟩) K (0) (by kernel_rfl) (fun u21 => ?_)
     refine Ref.sq ?_
     refine Ref.sq ?_
     refine Ref.rn 4 ?_
     refine RefR.e0 (st' := ⟨[(0, .c (E25.tree a0)), (1, .c (E25.tree a1)), sI 5 u21, sB 14 (decide ((u21 : Int) < (Int.ofNat a0.length)))], [], [], 0⟩) 0 4 4 [0, 1, 5, 14] [] ?_
     refine RefR.letC (stf := fun x27 => ⟨[(0, .c (E25.tree a0)), (1, .c (E25.tree a1)), sI 5 u21, sB 14 x27], [], [], 0⟩) (by kernel_rfl) (fun x27 => ?_)
     refine RefR.nl 4 ?_
     refine Ref.cn (.tmp 14) x27 (fun hc => ?_) (fun hc => ?_)
     ·
      refine Ref.sk ?_
      refine Ref.sq ?_
      refine Ref.ce (.block 1 (cd (bd Tryz.f20) [1, 1, 0, 1, 0, 0, 1, 0, 0])) ?_
      refine Ref.block (go1 := fun u29 => ⟨[(0, .c (E25.tree a0)), (1, .c (E25.tree a1)), sI 5 u21], [], [], 0⟩) ?_ (fun a => match a with | .inl _ => (fun h => by cases h) | .inr _ => (fun h => by cases h)) (fun u29 => ?_)
      ·
       refine Ref.sq ?_
       refine Ref.drawnY 6 (by kernel_rfl) (by kernel_rfl) ?_
       refine RefY.evC0 (st' := ⟨[(0, .c (E25.tree a0)), (1, .c (E25.tree a1)), sI 5 u21, (17, .c (E25.tree a0)), sI 18 u21, (21, .c (E25.tree a1)), sI 22 u21], [], [], 0⟩) (fuel' := 6) [0, 1, 4, 5] [0, 1, 5, 17, 18, 21, 22] [] rfl (by kernel_rfl) (by kernel_rfl) ?_
       refine RefY.toX [] ?_
       refine RefX.v1 (fuel' := 2) [inb u21 a0.length, inb u21 a1.length] [2, 3, 6, 7] [0, 1, 5, 20, 24] [] ?_
       refine RefX.lookC (t := 25) (g := []) (b := true) (fuel' := 1) 8 [] (default : Bool) rfl (by kernel_rfl) (by kernel_rfl) (ih8 (a0.getD (u21 : Int).toNat default) (a1.getD (u21 : Int).toNat default)) (fun _ => rfl) (fun r30 => ?_)
       refine RefX.evC0 (st' := ⟨[(0, .c (E25.tree a0)), (1, .c (E25.tree a1)), sI 5 u21, sB 26 (!r30)], [], [], 0⟩) (fuel' := 0) [9] [0, 1, 5, 26] [] rfl (by kernel_rfl) (by kernel_rfl) ?_
       refine RefX.done (by kernel_rfl) ?_
       refine Ref.cn (.tmp 26) (!r30) (fun hc => ?_) (fun hc => ?_)
       ·
        refine Ref.sq ?_
        refine Ref.rn 7 ?_
        refine RefR.e0 (st' := ⟨[sB 4 false], [], [], 0⟩) 0 1 1 [4] [] ?_
        refine RefR.nl 1 ?_
        exact Ref.rt (t := (Sum.inr (Sum.inr (false))))
       ·
        refine Ref.sk ?_
        refine Ref.ck ⟨[(0, .c (E25.tree a0)), (1, .c (E25.tree a1)), sI 5 u21], [], [], 0⟩ [0, 1, 5] [] ?_
        exact Ref.n0 (t := ())
      ·
       refine Ref.rn 5 ?_
       refine RefR.e0 (st' := ⟨[(0, .c (E25.tree a0)), (1, .c (E25.tree a1)), sI 5 (IntKind.i64.wrap (u21 + 1))], [], [], 0⟩) 0 3 3 [0, 1, 5] [] ?_
       refine RefR.nl 3 ?_
       exact Ref.n0 (t := ((IntKind.i64.wrap (u21 + 1))))
     ·
      refine Ref.ck ⟨[], [], [], 0⟩ [] [] ?_
      exact Ref.xt 0 (t := (Sum.inl ()))
    ·
     refine Ref.sq ?_
     refine Ref.rn 8 ?_
     refine RefR.e0 (st' := ⟨[sB 4 true], [], [], 0⟩) 0 1 1 [4] [] ?_
     refine RefR.nl 1 ?_
     exact Ref.rt (t := (true))
theorem F8_ok (K : Nat) (a0 : S25) (a1 : S25) : DFun Tryz.prog 8 [.agg (E25.cs a0), .agg (E25.cs a1)] [] (fnS (F8 K a0 a1)) (fun r => .c (.val (.bool r))) (fun r => []) := (G8_ok K).1 a0 a1
def F9 (K : Nat) (a0 : Err) : Option ((Int) ⊕ (Int)) :=
 ((fnS (F21 K a0)).bind (fun r1 => (some (.inl (r1.1)))))
theorem F9_ok (K : Nat) (a0 : Err) : DFun Tryz.prog 9 [.c (errC a0)] [] (fnS (F9 K a0)) (fun r => .c (.val (.int .i64 r))) (fun r => []) := by
 refine DFun.it Tryz.f9 (fun r => ⟨[sI 2 r], [], [], 0⟩) ?_
 unfold F9
 refine Ref.sq ?_
 refine Ref.rn 0 ?_
 refine RefR.e0 (st' := ⟨[(0, .c (errC a0))], [], [], 0⟩) 0 1 1 [0] [] ?_
 refine RefR.nl 1 ?_
 refine Ref.sq ?_
 refine Ref.rn 1 ?_
 refine RefR.e1 0 1 1 [6] [] ?_
 refine RefR.cc 7 1 2 [] (F21_ok K a0) (fun r1 => ?_)
 refine RefR.e0 (st' := ⟨[sI 3 r1.1], [], [], 0⟩) 2 5 7 [3] [] ?_
 refine RefR.nl 7 ?_
 refine Ref.sq ?_
 refine Ref.rn 2 ?_
 refine RefR.e0 (st' := ⟨[sI 2 r1.1], [], [], 0⟩) 0 2 2 [2] [] ?_
 refine RefR.nl 2 ?_
 exact Ref.rt (t := (r1.1))
def F5 (K : Nat) : Option ((Bool) ⊕ (Bool)) :=
 ((fnS (F7 K (⟨7, 0, ([] : Bytes), ([] : Bytes), [(⟨9, 1, ([] : Bytes), ([] : Bytes), [(⟨5, 0, ([97] : Bytes), ([] : Bytes), []⟩ : S25), (⟨1, 1, ([] : Bytes), ([] : Bytes), []⟩ : S25)]⟩ : S25)]⟩ : S25))).bind (fun r1 => (letV (r1 == ([45, 32, 40, 32, 97, 32, 43, 32, 49, 32, 41] : Bytes)) (fun (x2 : Bool) => ((condM x2 (fnS (F13 K (⟨4, 0, 3, ([] : Bytes)⟩ : S44))) default).bind (fun r3 => (letV (x2 && (r3 == ([65, 82, 82, 65, 89, 32, 91, 32, 51, 32, 93, 32, 79, 70, 32, 73, 78, 84] : Bytes))) (fun (x4 : Bool) => (chk [x4] ((condM true (fnS (F11 K (⟨[(⟨3, ([80] : Bytes), ([] : Bytes), [], false, false, [], [], [], 0, 0⟩ : S50)]⟩ : S36))) default).bind (fun r6 => (letV (true && (r6 == ([80, 82, 79, 71, 82, 65, 77, 32, 80, 32, 59, 32, 69, 78, 68, 95, 80, 82, 79, 71, 82, 65, 77, 10] : Bytes))) (fun (x7 : Bool) => (some (.inl (x7))))))))))))))))
theorem F5_ok (K : Nat) : DFun Tryz.prog 5 [] [] (fnS (F5 K)) (fun r => .c (.val (.bool r))) (fun r => []) := by
 refine DFun.it Tryz.f5 (fun r => ⟨[sB 0 r], [], [], 0⟩) ?_
 unfold F5
 refine Ref.sq ?_
 refine Ref.rn 0 ?_
 refine RefR.e0 (st' := ⟨[], [], [], 0⟩) 0 1 1 [] [] ?_
 refine RefR.nl 1 ?_
 refine Ref.sq ?_
 refine Ref.rn 1 ?_
 refine RefR.e0 (st' := ⟨[(2, .agg [iC 5, iC 0, .str wa, .str [], .nil]), (3, .agg [iC 1, iC 1, .str [], .str [], .nil])], [], [], 0⟩) 0 2 2 [2, 3] [] ?_
 refine RefR.conv (Conv.sl 2 (.agg [iC 5, iC 0, .str wa, .str [], E25.tree []]) (DLe.agg (All2.cons (CLe.refl _) (All2.cons (CLe.refl _) (All2.cons (CLe.refl _) (All2.cons (CLe.refl _) (All2.cons (El.tree_nil E25) (All2.nil)))))))) ?_
 refine RefR.conv (Conv.sl 2 (.agg [iC 5, iC 0, .str wa, .str [], NT25 []]) (DLe.agg (All2.cons (CLe.refl _) (All2.cons (CLe.refl _) (All2.cons (CLe.refl _) (All2.cons (CLe.refl _) (All2.cons (NT25_ge _) (All2.nil)))))))) ?_
 refine RefR.conv (Conv.sl 3 (.agg [iC 1, iC 1, .str [], .str [], E25.tree []]) (DLe.agg (All2.cons (CLe.refl _) (All2.cons (CLe.refl _) (All2.cons (CLe.refl _) (All2.cons (CLe.refl _) (All2.cons (El.tree_nil E25) (All2.nil)))))))) ?_
 refine RefR.conv (Conv.sl 3 (.agg [iC 1, iC 1, .str [], .str [], NT25 []]) (DLe.agg (All2.cons (CLe.refl _) (All2.cons (CLe.refl _) (All2.cons (CLe.refl _) (All2.cons (CLe.refl _) (All2.cons (NT25_ge _) (All2.nil)))))))) ?_
 refine RefR.e0 (st' := ⟨[(4, .c (.own 0 2))], [.row 25 5 2 (tbl [[iC 5, iC 0, .str wa, .str [], NT25 []], [iC 1, iC 1, .str [], .str [], NT25 []]])], [], 0⟩) 2 1 3 [4] [0] ?_
 refine RefR.conv (Conv.ob 0 (E25.row [(⟨5, 0, wa, ([] : Bytes), []⟩ : S25), (⟨1, 1, ([] : Bytes), ([] : Bytes), []⟩ : S25)]) (El.row_build E25 [(⟨5, 0, wa, ([] : Bytes), []⟩ : S25), (⟨1, 1, ([] : Bytes), ([] : Bytes), []⟩ : S25)] rfl (by kernel_rfl))) ?_
 refine RefR.conv (Conv.sl 4 (.c (.own 0 ([(⟨5, 0, wa, ([] : Bytes), []⟩ : S25), (⟨1, 1, ([] : Bytes), ([] : Bytes), []⟩ : S25)].length))) (DLe.c (CLe.own (by simp <;> omega)))) ?_
 refine RefR.e0 (st' := ⟨[(5, .agg [iC 9, iC 1, .str [], .str [], .own 0 ([(⟨5, 0, wa, ([] : Bytes), []⟩ : S25), (⟨1, 1, ([] : Bytes), ([] : Bytes), []⟩ : S25)].length)])], [E25.row [(⟨5, 0, wa, ([] : Bytes), []⟩ : S25), (⟨1, 1, ([] : Bytes), ([] : Bytes), []⟩ : S25)]], [], 0⟩) 3 1 4 [5] [0] ?_
 refine RefR.conv (Conv.freeze (st' := ⟨[(5, .agg [iC 9, iC 1, .str [], .str [], E25.tree [(⟨5, 0, wa, ([] : Bytes), []⟩ : S25), (⟨1, 1, ([] : Bytes), ([] : Bytes), []⟩ : S25)]])], [.dead], [], 0⟩) 0 (by kernel_rfl)) ?_
 refine RefR.conv (Conv.sl 5 (.agg [iC 9, iC 1, .str [], .str [], NT25 [(⟨5, 0, wa, ([] : Bytes), []⟩ : S25), (⟨1, 1, ([] : Bytes), ([] : Bytes), []⟩ : S25)]]) (DLe.agg (All2.cons (CLe.refl _) (All2.cons (CLe.refl _) (All2.cons (CLe.refl _) (All2.cons (CLe.refl _) (All2.cons (NT25_ge _) (All2.nil)))))))) ?_
 refine RefR.e0 (st' := ⟨[(6, .c (.own 0 1))], [.row 25 5 1 (tbl [[iC 9, iC 1, .str [], .str [], NT25 [(⟨5, 0, wa, ([] : Bytes), []⟩ : S25), (⟨1, 1, ([] : Bytes), ([] : Bytes), []⟩ : S25)]]])], [], 0⟩) 4 1 5 [6] [1] ?_
 refine RefR.conv (Conv.ob 0 (E25.row [(⟨9, 1, ([] : Bytes), ([] : Bytes), [(⟨5, 0, wa, ([] : Bytes), []⟩ : S25), (⟨1, 1, ([] : Bytes), ([] : Bytes), []⟩ : S25)]⟩ : S25)]) (El.row_build E25 [(⟨9, 1, ([] : Bytes), ([] : Bytes), [(⟨5, 0, wa, ([] : Bytes), []⟩ : S25), (⟨1, 1, ([] : Bytes), ([] : Bytes), []⟩ : S25)]⟩ : S25)] rfl (by kernel_rfl))) ?_
 refine RefR.conv (Conv.sl 6 (.c (.own 0 ([(⟨9, 1, ([] : Bytes), ([] : Bytes), [(⟨5, 0, wa, ([] : Bytes), []⟩ : S25), (⟨1, 1, ([] : Bytes), ([] : Bytes), []⟩ : S25)]⟩ : S25)].length))) (DLe.c (CLe.own (by simp <;> omega)))) ?_
 refine RefR.e0 (st' := ⟨[sP 1 1 0 0], [E25.row [(⟨9, 1, ([] : Bytes), ([] : Bytes), [(⟨5, 0, wa, ([] : Bytes), []⟩ : S25), (⟨1, 1, ([] : Bytes), ([] : Bytes), []⟩ : S25)]⟩ : S25)], .cells [iC 7, iC 0, .str [], .str [], .own 0 ([(⟨9, 1, ([] : Bytes), ([] : Bytes), [(⟨5, 0, wa, ([] : Bytes), []⟩ : S25), (⟨1, 1, ([] : Bytes), ([] : Bytes), []⟩ : S25)]⟩ : S25)].length)]], [], 0⟩) 5 3 8 [1] [0, 1] ?_
 refine RefR.nl 8 ?_
 refine Ref.sq ?_
 refine Ref.rn 2 ?_
 refine RefR.e0 (st' := ⟨[(8, .agg [iC 7, iC 0, .str [], .str [], .own 0 ([(⟨9, 1, ([] : Bytes), ([] : Bytes), [(⟨5, 0, wa, ([] : Bytes), []⟩ : S25), (⟨1, 1, ([] : Bytes), ([] : Bytes), []⟩ : S25)]⟩ : S25)].length)])], [E25.row [(⟨9, 1, ([] : Bytes), ([] : Bytes), [(⟨5, 0, wa, ([] : Bytes), []⟩ : S25), (⟨1, 1, ([] : Bytes), ([] : Bytes), []⟩ : S25)]⟩ : S25)]], [], 0⟩) 0 1 1 [8] [0] ?_
 refine RefR.conv (Conv.freeze (st' := ⟨[(8, .agg [iC 7, iC 0, .str [], .str [], E25.tree [(⟨9, 1, ([] : Bytes), ([] : Bytes), [(⟨5, 0, wa, ([] : Bytes), []⟩ : S25), (⟨1, 1, ([] : Bytes), ([] : Bytes), []⟩ : S25)]⟩ : S25)]])], [.dead], [], 0⟩) 0 (by kernel_rfl)) ?_
 refine RefR.conv (Conv.sl 8 (.agg [iC 7, iC 0, .str [], .str [], NT25 [(⟨9, 1, ([] : Bytes), ([] : Bytes), [(⟨5, 0, wa, ([] : Bytes), []⟩ : S25), (⟨1, 1, ([] : Bytes), ([] : Bytes), []⟩ : S25)]⟩ : S25)]]) (DLe.agg (All2.cons (CLe.refl _) (All2.cons (CLe.refl _) (All2.cons (CLe.refl _) (All2.cons (CLe.refl _) (All2.cons (NT25_ge _) (All2.nil)))))))) ?_
 refine RefR.cc 9 1 2 [] (F7_ok K (⟨7, 0, ([] : Bytes), ([] : Bytes), [(⟨9, 1, ([] : Bytes), ([] : Bytes), [(⟨5, 0, wa, ([] : Bytes), []⟩ : S25), (⟨1, 1, ([] : Bytes), ([] : Bytes), []⟩ : S25)]⟩ : S25)]⟩ : S25)) (fun r1 => ?_)
 refine RefR.e0 (st' := ⟨[sB 11 (r1 == ([45, 32, 40, 32, 97, 32, 43, 32, 49, 32, 41] : Bytes)), (12, .agg [iC 4, iC 0, iC 3, .str []])], [], [(12, [(11, true)])], 0⟩) 2 3 5 [11, 12] [] ?_
 refine RefR.letC (stf := fun x2 => ⟨[sB 11 x2, (12, .agg [iC 4, iC 0, iC 3, .str []])], [], [(12, [(11, true)])], 0⟩) (by kernel_rfl) (fun x2 => ?_)
 refine RefR.lookC (t := 13) (g := [(11, true)]) (b := x2) 5 6 [] (default : Bytes) rfl (by kernel_rfl) (F13_ok K (⟨4, 0, 3, ([] : Bytes)⟩ : S44)) (fun _ => rfl) (fun r3 => ?_)
 refine RefR.e0 (st' := ⟨[sB 16 (x2 && (r3 == ([65, 82, 82, 65, 89, 32, 91, 32, 51, 32, 93, 32, 79, 70, 32, 73, 78, 84] : Bytes))), (17, .agg [iC 3, .str wP, .str [], .nil, bC false, bC false, .nil, .nil, .nil, iC 0, iC 0])], [], [(17, [(16, true)])], 0⟩) 6 4 10 [16, 17] [] ?_
 refine RefR.letC (stf := fun x4 => ⟨[sB 16 x4, (17, .agg [iC 3, .str wP, .str [], .nil, bC false, bC false, .nil, .nil, .nil, iC 0, iC 0])], [], [(17, [(16, true)])], 0⟩) (by kernel_rfl) (fun x4 => ?_)
 refine RefR.assumeC (b := x4) (stf := fun v5 => ⟨[sB 16 v5, (17, .agg [iC 3, .str wP, .str [], .nil, bC false, bC false, .nil, .nil, .nil, iC 0, iC 0])], [], [(17, [(16, true)])], 0⟩) (by kernel_rfl) ?_
 refine RefR.conv (Conv.clear (by kernel_rfl)) ?_
 refine RefR.unguard 10 (by kernel_rfl) (by kernel_rfl) ?_
 refine RefR.conv (Conv.sl 17 (.agg [iC 3, .str wP, .str [], E9.tree [], bC false, bC false, .nil, .nil, .nil, iC 0, iC 0]) (DLe.agg (All2.cons (CLe.refl _) (All2.cons (CLe.refl _) (All2.cons (CLe.refl _) (All2.cons (El.tree_nil E9) (All2.cons (CLe.refl _) (All2.cons (CLe.refl _) (All2.cons (CLe.refl _) (All2.cons (CLe.refl _) (All2.cons (CLe.refl _) (All2.cons (CLe.refl _) (All2.cons (CLe.refl _) (All2.nil)))))))))))))) ?_
 refine RefR.conv (Conv.sl 17 (.agg [iC 3, .str wP, .str [], E9.tree [], bC false, bC false, E106.tree [], .nil, .nil, iC 0, iC 0]) (DLe.agg (All2.cons (CLe.refl _) (All2.cons (CLe.refl _) (All2.cons (CLe.refl _) (All2.cons (CLe.refl _) (All2.cons (CLe.refl _) (All2.cons (CLe.refl _) (All2.cons (El.tree_nil E106) (All2.cons (CLe.refl _) (All2.cons (CLe.refl _) (All2.cons (CLe.refl _) (All2.cons (CLe.refl _) (All2.nil)))))))))))))) ?_
 refine RefR.conv (Conv.sl 17 (.agg [iC 3, .str wP, .str [], E9.tree [], bC false, bC false, E106.tree [], E83.tree [], .nil, iC 0, iC 0]) (DLe.agg (All2.cons (CLe.refl _) (All2.cons (CLe.refl _) (All2.cons (CLe.refl _) (All2.cons (CLe.refl _) (All2.cons (CLe.refl _) (All2.cons (CLe.refl _) (All2.cons (CLe.refl _) (All2.cons (El.tree_nil E83) (All2.cons (CLe.refl _) (All2.cons (CLe.refl _) (All2.cons (CLe.refl _) (All2.nil)))))))))))))) ?_
 refine RefR.conv (Conv.sl 17 (.agg [iC 3, .str wP, .str [], E9.tree [], bC false, bC false, E106.tree [], E83.tree [], E110.tree [], iC 0, iC 0]) (DLe.agg (All2.cons (CLe.refl _) (All2.cons (CLe.refl _) (All2.cons (CLe.refl _) (All2.cons (CLe.refl _) (All2.cons (CLe.refl _) (All2.cons (CLe.refl _) (All2.cons (CLe.refl _) (All2.cons (CLe.refl _) (All2.cons (El.tree_nil E110) (All2.cons (CLe.refl _) (All2.cons (CLe.refl _) (All2.nil)))))))))))))) ?_
 refine RefR.e0 (st' := ⟨[sB 16 true, (18, .c (.own 0 1))], [.row 50 11 1 (tbl [[iC 3, .str wP, .str [], E9.tree [], bC false, bC false, E106.tree [], E83.tree [], E110.tree [], iC 0, iC 0]])], [], 0⟩) 10 1 11 [16, 18] [0] ?_
 refine RefR.conv (Conv.ob 0 (E50.row [(⟨3, wP, ([] : Bytes), [], false, false, [], [], [], 0, 0⟩ : S50)]) (El.row_build E50 [(⟨3, wP, ([] : Bytes), [], false, false, [], [], [], 0, 0⟩ : S50)] rfl (by kernel_rfl))) ?_
 refine RefR.conv (Conv.sl 18 (.c (.own 0 ([(⟨3, wP, ([] : Bytes), [], false, false, [], [], [], 0, 0⟩ : S50)].length))) (DLe.c (CLe.own (by simp <;> omega)))) ?_
 refine RefR.e0 (st' := ⟨[sB 16 true, (19, .agg [.own 0 ([(⟨3, wP, ([] : Bytes), [], false, false, [], [], [], 0, 0⟩ : S50)].length)])], [E50.row [(⟨3, wP, ([] : Bytes), [], false, false, [], [], [], 0, 0⟩ : S50)]], [(19, [(16, true)])], 0⟩) 11 1 12 [16, 19] [0] ?_
 refine RefR.conv (Conv.freeze (st' := ⟨[sB 16 true, (19, .agg [E50.tree [(⟨3, wP, ([] : Bytes), [], false, false, [], [], [], 0, 0⟩ : S50)]])], [.dead], [(19, [(16, true)])], 0⟩) 0 (by kernel_rfl)) ?_
 refine RefR.lookC (t := 20) (g := [(16, true)]) (b := true) 12 13 [] (default : Bytes) rfl (by kernel_rfl) (F11_ok K (⟨[(⟨3, wP, ([] : Bytes), [], false, false, [], [], [], 0, 0⟩ : S50)]⟩ : S36)) (fun _ => rfl) (fun r6 => ?_)
 refine RefR.e0 (st' := ⟨[sB 0 (true && (r6 == ([80, 82, 79, 71, 82, 65, 77, 32, 80, 32, 59, 32, 69, 78, 68, 95, 80, 82, 79, 71, 82, 65, 77, 10] : Bytes)))], [], [], 0⟩) 13 3 16 [0] [] ?_
 refine RefR.letC (stf := fun x7 => ⟨[sB 0 x7], [], [], 0⟩) (by kernel_rfl) (fun x7 => ?_)
 refine RefR.nl 16 ?_
 exact Ref.rt (t := (x7))
def F3 (K : Nat) (a0 : Bytes) : Option ((Bool) ⊕ (Bool)) :=
 (letV (decide (((Int.ofNat a0.length) : Int) > 300)) (fun (x1 : Bool) => (if x1 = true then ((fnS (F5 K)).bind (fun r2 => (some (.inl (r2))))) else ((fnS (F6 K a0)).bind (fun r3 => (if (!(!errS r3.2)) = true then ((fnS (F5 K)).bind (fun r4 => (some (.inl (r4))))) else ((fnS (F7 K r3.1)).bind (fun r5 => ((fnS (F6 K r5)).bind (fun r6 => (chk [room (([40] : Bytes).length + r5.length), room ((([40] : Bytes) ++ r5).length + ([41] : Bytes).length)] ((fnS (F6 K ((([40] : Bytes) ++ r5) ++ ([41] : Bytes)))).bind (fun r7 => ((condM (!errS r6.2) (fnS (F8 K r3.1 r6.1)) default).bind (fun r8 => ((condM ((!errS r7.2) && ((!errS r6.2) && r8)) (fnS (F8 K r3.1 r7.1)) default).bind (fun r9 => ((condM ((!((!errS r7.2) && r9)) && ((!errS r6.2) && r8)) (fnS (F9 K r7.2)) default).bind (fun r10 => (letV (((!errS r6.2) && r8) && (((!errS r7.2) && r9) || ((r10 : Int) == 4))) (fun (x11 : Bool) => ((condM x11 (fnS (F5 K)) default).bind (fun r12 => (some (.inl ((x11 && r12)))))))))))))))))))))))))))
theorem F3_ok (K : Nat) (a0 : Bytes) : DFun Tryz.prog 3 [.c (.str a0)] [] (fnS (F3 K a0)) (fun r => .c (.val (.bool r))) (fun r => []) := by
 refine DFun.it Tryz.f3 (fun r => ⟨[sB 2 r], [], [], 0⟩) ?_
 unfold F3
 refine Ref.sq ?_
 refine Ref.rn 0 ?_
 refine RefR.e0 (st' := ⟨[sS 0 a0], [], [], 0⟩) 0 1 1 [0] [] ?_
 refine RefR.nl 1 ?_
 refine Ref.sq ?_
 refine Ref.sq ?_
 refine Ref.rn 1 ?_
 refine RefR.e0 (st' := ⟨[sS 0 a0, sB 12 (decide (((Int.ofNat a0.length) : Int) > 300))], [], [], 0⟩) 0 3 3 [0, 12] [] ?_
 refine RefR.letC (stf := fun x1 => ⟨[sS 0 a0, sB 12 x1], [], [], 0⟩) (by kernel_rfl) (fun x1 => ?_)
 refine RefR.nl 3 ?_
 refine Ref.cn (.tmp 12) x1 (fun hc => ?_) (fun hc => ?_)
 ·
  refine Ref.sq ?_
  refine Ref.rn 2 ?_
  refine RefR.cc 13 0 1 [] (F5_ok K) (fun r2 => ?_)
  refine RefR.e0 (st' := ⟨[sB 2 r2], [], [], 0⟩) 1 1 2 [2] [] ?_
  refine RefR.nl 2 ?_
  exact Ref.rt (t := (r2))
 ·
  refine Ref.sk ?_
  refine Ref.sq ?_
  refine Ref.rn 3 ?_
  refine RefR.e1 0 1 1 [15] [] ?_
  refine RefR.cc 16 1 2 [] (F6_ok K a0) (fun r3 => ?_)
  refine RefR.e0 (st' := ⟨[sP 3 0 0 0, (4, .c (errC r3.2))], [E25.o r3.1], [], 0⟩) 2 6 8 [3, 4] [1] ?_
  refine RefR.nl 8 ?_
  refine Ref.sq ?_
  refine Ref.sq ?_
  refine Ref.rn 4 ?_
  refine RefR.e0 (st' := ⟨[sP 3 0 0 0, sB 20 (!(!errS r3.2))], [E25.o r3.1], [], 0⟩) 0 2 2 [3, 20] [0] ?_
  refine RefR.nl 2 ?_
  refine Ref.cn (.tmp 20) (!(!errS r3.2)) (fun hc => ?_) (fun hc => ?_)
  ·
   refine Ref.sq ?_
   refine Ref.rn 5 ?_
   refine RefR.cc 21 0 1 [] (F5_ok K) (fun r4 => ?_)
   refine RefR.e0 (st' := ⟨[sB 2 r4], [], [], 0⟩) 1 1 2 [2] [] ?_
   refine RefR.nl 2 ?_
   exact Ref.rt (t := (r4))
  ·
   refine Ref.sk ?_
   refine Ref.sq ?_
   refine Ref.rn 6 ?_
   refine RefR.e1 0 1 1 [3, 22] [0] ?_
   refine RefR.cc 23 1 2 [] (F7_ok K r3.1) (fun r5 => ?_)
   refine RefR.e0 (st' := ⟨[sP 3 0 0 0, sS 5 r5], [E25.o r3.1], [], 0⟩) 2 1 3 [3, 5] [0] ?_
   refine RefR.nl 3 ?_
   refine Ref.sq ?_
   refine Ref.rn 7 ?_
   refine RefR.e1 0 1 1 [3, 5, 25] [0] ?_
   refine RefR.cc 26 1 2 [] (F6_ok K r5) (fun r6 => ?_)
   refine RefR.e0 (st' := ⟨[sP 3 0 0 0, sS 5 r5, sP 6 1 0 0, (7, .c (errC r6.2))], [E25.o r3.1, E25.o r6.1], [], 0⟩) 2 6 8 [3, 5, 6, 7] [0, 2] ?_
   refine RefR.nl 8 ?_
   refine Ref.sq ?_
   refine Ref.rn 8 ?_
   refine RefR.evC (vs := [room (w_40.length + r5.length), room ((w_40 ++ r5).length + w_41.length)]) (st' := ⟨[sP 3 0 0 0, sP 6 1 0 0, (7, .c (errC r6.2)), sS 32 ((w_40 ++ r5) ++ w_41)], [E25.o r3.1, E25.o r6.1], [], 0⟩) 0 3 3 [3, 6, 7, 32] [0, 1] rfl (by kernel_rfl) ?_
   refine RefR.cc 33 3 4 [] (F6_ok K ((w_40 ++ r5) ++ w_41)) (fun r7 => ?_)
   refine RefR.e0 (st' := ⟨[sP 3 0 0 0, sP 6 1 0 0, (7, .c (errC r6.2)), sP 8 2 0 0, (9, .c (errC r7.2))], [E25.o r3.1, E25.o r6.1, E25.o r7.1], [], 0⟩) 4 6 10 [3, 6, 7, 8, 9] [0, 1, 3] ?_
   refine RefR.nl 10 ?_
   refine Ref.sq ?_
   refine Ref.rn 9 ?_
   refine RefR.e1 0 5 5 [3, 8, 9, 38, 39, 40] [0, 2] ?_
   refine RefR.lookC (t := 41) (g := [(38, true)]) (b := (!errS r6.2)) 5 6 [] (default : Bool) rfl (by kernel_rfl) (F8_ok K r3.1 r6.1) (fun _ => rfl) (fun r8 => ?_)
   refine RefR.e1 6 7 13 [9, 43, 46, 47, 48] [] ?_
   refine RefR.lookC (t := 49) (g := [(46, true), (43, true)]) (b := ((!errS r7.2) && ((!errS r6.2) && r8))) 13 14 [] (default : Bool) rfl (by kernel_rfl) (F8_ok K r3.1 r7.1) (fun _ => rfl) (fun r9 => ?_)
   refine RefR.e1 14 3 17 [43, 51, 52] [] ?_
   refine RefR.lookC (t := 53) (g := [(51, false), (43, true)]) (b := ((!((!errS r7.2) && r9)) && ((!errS r6.2) && r8))) 17 18 [] (default : Int) rfl (by kernel_rfl) (F9_ok K r7.2) (fun _ => rfl) (fun r10 => ?_)
   refine RefR.e0 (st' := ⟨[sB 57 (((!errS r6.2) && r8) && (((!errS r7.2) && r9) || ((r10 : Int) == 4)))], [], [], 0⟩) 18 4 22 [57] [] ?_
   refine RefR.letC (stf := fun x11 => ⟨[sB 57 x11], [], [], 0⟩) (by kernel_rfl) (fun x11 => ?_)
   refine RefR.lookC (t := 58) (g := [(57, true)]) (b := x11) 22 23 [] (default : Bool) rfl (by kernel_rfl) (F5_ok K) (fun _ => rfl) (fun r12 => ?_)
   refine RefR.e0 (st' := ⟨[sB 2 (x11 && r12)], [], [], 0⟩) 23 2 25 [2] [] ?_
   refine RefR.nl 25 ?_
   exact Ref.rt (t := ((x11 && r12)))
end Go.Proofs.YtidjangjfekfjaaGreatDoor
