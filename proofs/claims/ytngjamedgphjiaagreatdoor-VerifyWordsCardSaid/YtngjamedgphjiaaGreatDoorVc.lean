/- Plain functions, and that the Go functions do what these do: printed by gen2.py. No conditions. -/
import Derived.Test.YtngjamedgphjiaaGreatDoorVb
import Derived.Test.YtngjamedgphjiaaGreatDoorProg
set_option linter.unusedVariables false
set_option linter.unusedSimpArgs false
set_option linter.unusedSectionVars false
namespace Go.Proofs.YtngjamedgphjiaaGreatDoor
open Go Go.Proofs Go.Dl
set_option maxRecDepth 100000
set_option maxHeartbeats 4000000
def F113 (K : Nat) (a0 : S107) (a1 : Int) : Option ((S47 × Bool) ⊕ (S47 × Bool)) :=
 (letV ((decide ((a1 : Int) < 0)) || (decide ((a1 : Int) ≥ (Int.ofNat a0.fim.fClasses.length)))) (fun (x1 : Bool) => (if x1 = true then (some (.inl ((⟨0, ([] : Bytes), [], [], [], []⟩ : S47), false))) else (chk [inb a1 a0.fim.fClasses.length] (some (.inl ((a0.fim.fClasses.getD (a1 : Int).toNat default), true)))))))
theorem F113_ok (K : Nat) (a0 : S107) (a1 : Int) : DFun Tryz.prog 113 [.c (E107.ep a0 0), .c (.val (.int .i64 a1))] [] (fnS (F113 K a0 a1)) (fun r => .tup [.agg (E47.cs r.1), .c (.val (.bool r.2))]) (fun r => [.cells (E47.cs r.1)]) := by
 refine DFun.it Tryz.f113 (fun r => ⟨[sP 4 0 0 0, sB 5 r.2], [.cells (E47.cs r.1)], [], 0⟩) ?_
 unfold F113
 refine Ref.sn1 0 2 [0, 1, 4] [0] ?_
 refine Ref.sq ?_
 refine Ref.s0 1 12 ⟨[(0, .c (E107.ep a0 0)), sI 1 a1, sP 4 0 0 0, sB 17 ((decide ((a1 : Int) < 0)) || (decide ((a1 : Int) ≥ (Int.ofNat a0.fim.fClasses.length))))], [oX1], [], 0⟩ [0, 1, 4, 17] [0] ?_
 refine RefR.letC (stf := fun x1 => ⟨[(0, .c (E107.ep a0 0)), sI 1 a1, sP 4 0 0 0, sB 17 x1], [oX1], [], 0⟩) (by kernel_rfl) (fun x1 => ?_)
 refine RefR.nl 12 ?_
 refine Ref.cn (.tmp 17) x1 (fun hc => ?_) (fun hc => ?_)
 ·
  refine Ref.sn 2 3 ⟨[sP 4 0 0 0, sB 5 false], [oX1], [], 0⟩ [4, 5] [0] ?_
  refine Ref.conv (Conv.on 0 2 (El.tree_nil E3)) ?_
  refine Ref.conv (Conv.on 0 3 (El.tree_nil E3)) ?_
  refine Ref.conv (Conv.on 0 4 (El.tree_nil E9)) ?_
  refine Ref.conv (Conv.on 0 5 (El.tree_nil E50)) ?_
  exact Ref.rt
 ·
  refine Ref.sk ?_
  refine Ref.sr 3 ?_
  refine RefR.evC (vs := [inb a1 a0.fim.fClasses.length]) (st' := ⟨[sP 4 0 0 0, sB 5 true], [.cells (E47.cs (gd a0.fim.fClasses a1))], [], 0⟩) 0 10 10 [4, 5] [0] rfl (by kernel_rfl) ?_
  refine RefR.nl 10 ?_
  exact Ref.rt
def F114 (K : Nat) (a0 : S107) (a1 : Int) (a2 : Int) : Option ((Bool) ⊕ (Bool)) :=
 (letV (IntKind.i64.wrap ((Int.ofNat a0.fim.fClasses.length) + 1)) (fun (x1 : Int) => (bindS (blockS ((iter K (fun (u19 : Int × Int) => (if (decide ((u19.2 : Int) < x1)) = true then (bindS (blockS (if ((u19.1 : Int) == a2) = true then (some (.inl (Sum.inr (Sum.inr (true))))) else ((fnS (F113 K a0 u19.1)).bind (fun r26 => (if (!r26.2) = true then (some (.inl (Sum.inr (Sum.inr (false))))) else (some (.inr (r26.1.fBase)))))))) (fun (u25 : Int) => (some (.inr (u25, (IntKind.i64.wrap (u19.2 + 1))))))) else (some (.inl (Sum.inl ()))))) (a1, 0)).map .inl)) (fun (u14 : Unit) => (some (.inl (false)))))))
theorem F114_ok (K : Nat) (a0 : S107) (a1 : Int) (a2 : Int) : DFun Tryz.prog 114 [.c (E107.ep a0 0), .c (.val (.int .i64 a1)), .c (.val (.int .i64 a2))] [] (fnS (F114 K a0 a1 a2)) (fun r => .c (.val (.bool r))) (fun r => []) := by
 refine DFun.it Tryz.f114 (fun r => ⟨[sB 6 r], [], [], 0⟩) ?_
 unfold F114
 refine Ref.sn1 0 1 [0, 1, 2] [] ?_
 refine Ref.sq ?_
 refine Ref.s0 1 8 ⟨[(0, .c (E107.ep a0 0)), sI 1 a1, sI 2 a2, sI 15 (IntKind.i64.wrap ((Int.ofNat a0.fim.fClasses.length) + 1)), sI 16 0], [], [], 0⟩ [0, 1, 2, 15, 16] [] ?_
 refine RefR.letC (stf := fun x1 => ⟨[(0, .c (E107.ep a0 0)), sI 1 a1, sI 2 a2, sI 15 x1, sI 16 0], [], [], 0⟩) (by kernel_rfl) (fun x1 => ?_)
 refine RefR.nl 8 ?_
 refine Ref.ce (.block 0 (cd (bd Tryz.f114) [1, 0, 1, 0])) ?_
 refine Ref.block (go1 := fun u14 => ⟨[], [], [], 0⟩) ?_ (fun _ h => by cases h) (fun u14 => ?_)
 ·
  refine Ref.ce (.loop (cd (bd Tryz.f114) [1, 0, 1, 0, 0])) ?_
  refine Ref.loop (hd := fun u19 => ⟨[(0, .c (E107.ep a0 0)), sI 1 u19.1, sI 2 a2, sI 15 x1, sI 16 u19.2], [], [], 0⟩) K (a1, 0) (by kernel_rfl) (fun u19 => ?_)
  refine Ref.sn1 2 1 [0, 1, 2, 15, 16, 17] [] ?_
  refine Ref.sq ?_
  refine Ref.cn (.tmp 17) (decide ((u19.2 : Int) < x1)) (fun hc => ?_) (fun hc => ?_)
  ·
   refine Ref.sk ?_
   refine Ref.sq ?_
   refine Ref.ce (.block 1 (cd (bd Tryz.f114) [1, 0, 1, 0, 0, 1, 1, 0, 0])) ?_
   refine Ref.block (go1 := fun u25 => ⟨[(0, .c (E107.ep a0 0)), sI 1 u25, sI 2 a2, sI 15 x1, sI 16 u19.2], [], [], 0⟩) ?_ (fun a => match a with | .inl _ => (fun h => by cases h) | .inr _ => (fun h => by cases h)) (fun u25 => ?_)
   ·
    refine Ref.sq ?_
    refine Ref.sn1 3 3 [0, 1, 2, 15, 16, 20] [] ?_
    refine Ref.cn (.tmp 20) ((u19.1 : Int) == a2) (fun hc => ?_) (fun hc => ?_)
    ·
     refine Ref.sn 4 1 ⟨[sB 6 true], [], [], 0⟩ [6] [] ?_
     exact Ref.rt
    ·
     refine Ref.sk ?_
     refine Ref.sc 5 2 [0, 2, 15, 16, 22, 23] [] 24 [] (F113_ok K a0 u19.1) (fun r26 => ?_)
     refine RefR.en 3 6 ⟨[(0, .c (E107.ep a0 0)), sI 2 a2, sP 7 0 0 0, sB 8 r26.2, sI 15 x1, sI 16 u19.2], [.cells (E47.cs r26.1)], [], 0⟩ [0, 2, 7, 8, 15, 16] [1] ?_
     refine Ref.sq ?_
     refine Ref.sn1 6 2 [0, 2, 7, 15, 16, 28] [0] ?_
     refine Ref.cn (.tmp 28) (!r26.2) (fun hc => ?_) (fun hc => ?_)
     ·
      refine Ref.sn 7 1 ⟨[sB 6 false], [], [], 0⟩ [6] [] ?_
      exact Ref.rt
     ·
      refine Ref.sk ?_
      refine Ref.rn 8 ?_
      refine RefR.en 0 3 ⟨[(0, .c (E107.ep a0 0)), sI 1 r26.1.fBase, sI 2 a2, sI 15 x1, sI 16 u19.2], [], [], 0⟩ [0, 1, 2, 15, 16] [] ?_
      exact Ref.n0
   ·
    refine Ref.rn 9 ?_
    refine RefR.en1 0 2 [0, 1, 2, 15, 16] [] ?_
    exact Ref.n0
  ·
   exact Ref.kx 0 [] []
 ·
  refine Ref.sn1 10 1 [6] [] ?_
  exact Ref.rt
def F111 (K : Nat) (a0 : S107) (a1 : S61) : Option ((Bytes) ⊕ (Bytes)) :=
 (bindS (blockS (bindS (if ((a1.fK : Int) == 4) = true then (some (.inr (((a1.fK : Int) == 4)))) else (if ((a1.fK : Int) == 5) = true then (some (.inr (((a1.fK : Int) == 5)))) else (if ((a1.fK : Int) == 10) = true then (some (.inr (((a1.fK : Int) == 10)))) else (some (.inr (((a1.fK : Int) == 11))))))) (fun (u4 : Bool) => (if u4 = true then (chk [room (a0.fc.fParams.length + a0.fc.fLocals.length)] (some (.inl (Sum.inr ((a0.fc.fParams ++ a0.fc.fLocals)))))) else (bindS (if ((a1.fK : Int) == 6) = true then (some (.inr (((a1.fK : Int) == 6)))) else (if ((a1.fK : Int) == 7) = true then (some (.inr (((a1.fK : Int) == 7)))) else (if ((a1.fK : Int) == 12) = true then (some (.inr (((a1.fK : Int) == 12)))) else (some (.inr (((a1.fK : Int) == 13))))))) (fun (u5 : Bool) => (if u5 = true then (some (.inl (Sum.inr (a0.fim.fGlobals)))) else (some (.inr ()))))))))) (fun (u3 : Unit) => ((fnS (F113 K a0 a0.fc.fClass)).bind (fun r6 => (some (.inl (r6.1.fFields)))))))
theorem F111_ok (K : Nat) (a0 : S107) (a1 : S61) : DFun Tryz.prog 111 [.c (E107.ep a0 0), .agg (E61.cs a1)] [] (fnS (F111 K a0 a1)) (fun r => .c (.str r)) (fun r => []) := by
 refine DFun.it Tryz.f111 (fun r => ⟨[sS 4 r], [], [], 0⟩) ?_
 unfold F111
 refine Ref.sn1 0 2 [0, 3] [0] ?_
 refine Ref.sq ?_
 refine Ref.sn 1 2 ⟨[(0, .c (E107.ep a0 0)), sI 8 a1.fK], [], [], 0⟩ [0, 8] [] ?_
 refine Ref.ce (.block 0 (cd (bd Tryz.f111) [1, 0, 1, 0])) ?_
 refine Ref.block (go1 := fun u3 => ⟨[(0, .c (E107.ep a0 0))], [], [], 0⟩) ?_ (fun _ h => by cases h) (fun u3 => ?_)
 ·
  refine Ref.sq ?_
  refine Ref.sn 2 2 ⟨[(0, .c (E107.ep a0 0)), sI 8 a1.fK, sB 9 ((a1.fK : Int) == 4)], [], [], 0⟩ [0, 8, 9] [] ?_
  refine Ref.bind (go1 := fun u4 => ⟨[(0, .c (E107.ep a0 0)), sI 8 a1.fK, sB 9 u4], [], [], 0⟩) ?_ (fun u4 => ?_)
  ·
   refine Ref.cn (.tmp 9) ((a1.fK : Int) == 4) (fun hc => ?_) (fun hc => ?_)
   ·
    refine Ref.sk ?_
    exact Ref.n0
   ·
    refine Ref.sn1 3 2 [0, 8, 9] [] ?_
    refine Ref.cn (.tmp 9) ((a1.fK : Int) == 5) (fun hc => ?_) (fun hc => ?_)
    ·
     refine Ref.sk ?_
     exact Ref.n0
    ·
     refine Ref.sn 4 2 ⟨[(0, .c (E107.ep a0 0)), sI 8 a1.fK, sB 9 ((a1.fK : Int) == 10)], [], [], 0⟩ [0, 8, 9] [] ?_
     refine Ref.cn (.tmp 9) ((a1.fK : Int) == 10) (fun hc => ?_) (fun hc => ?_)
     ·
      refine Ref.sk ?_
      exact Ref.n0
     ·
      refine Ref.rn 5 ?_
      refine RefR.en1 0 2 [0, 8, 9] [] ?_
      exact Ref.n0
  ·
   refine Ref.cn (.tmp 9) u4 (fun hc => ?_) (fun hc => ?_)
   ·
    refine Ref.sq ?_
    refine Ref.drawnY 6 (by kernel_rfl) (by kernel_rfl) ?_
    refine RefY.evC0 (st' := ⟨[(17, .c (E107.ep a0 13)), (22, .c (E107.ep a0 14))], [], [], 0⟩) (fuel' := 4) [0, 1, 2, 3, 5, 6, 7, 8] [17, 22] [] rfl (by kernel_rfl) (by kernel_rfl) ?_
    refine RefY.toX [] ?_
    refine RefX.evC (vs := [room (a0.fc.fParams.length + a0.fc.fLocals.length)]) (st' := ⟨[sS 4 (a0.fc.fParams ++ a0.fc.fLocals)], [], [], 0⟩) (fuel' := 0) [4, 9, 10, 11] [4] [] rfl (by kernel_rfl) (by kernel_rfl) ?_
    refine RefX.done (by kernel_rfl) ?_
    exact Ref.rt
   ·
    refine Ref.sq ?_
    refine Ref.sn 7 2 ⟨[(0, .c (E107.ep a0 0)), sI 8 a1.fK, sB 25 ((a1.fK : Int) == 6)], [], [], 0⟩ [0, 8, 25] [] ?_
    refine Ref.bind (go1 := fun u5 => ⟨[(0, .c (E107.ep a0 0)), sB 25 u5], [], [], 0⟩) ?_ (fun u5 => ?_)
    ·
     refine Ref.cn (.tmp 25) ((a1.fK : Int) == 6) (fun hc => ?_) (fun hc => ?_)
     ·
      refine Ref.sk ?_
      exact Ref.kn [0, 25] []
     ·
      refine Ref.sn1 8 2 [0, 8, 25] [] ?_
      refine Ref.cn (.tmp 25) ((a1.fK : Int) == 7) (fun hc => ?_) (fun hc => ?_)
      ·
       refine Ref.sk ?_
       exact Ref.kn [0, 25] []
      ·
       refine Ref.sn 9 2 ⟨[(0, .c (E107.ep a0 0)), sI 8 a1.fK, sB 25 ((a1.fK : Int) == 12)], [], [], 0⟩ [0, 8, 25] [] ?_
       refine Ref.cn (.tmp 25) ((a1.fK : Int) == 12) (fun hc => ?_) (fun hc => ?_)
       ·
        refine Ref.sk ?_
        exact Ref.kn [0, 25] []
       ·
        refine Ref.rn 10 ?_
        refine RefR.en1 0 2 [0, 25] [] ?_
        exact Ref.n0
    ·
     refine Ref.cn (.tmp 25) u5 (fun hc => ?_) (fun hc => ?_)
     ·
      refine Ref.sn1 11 6 [4] [] ?_
      exact Ref.rt
     ·
      refine Ref.sk ?_
      exact Ref.kn [0] []
 ·
  refine Ref.sc 12 6 [36, 41] [] 42 [] (F113_ok K a0 a0.fc.fClass) (fun r6 => ?_)
  refine RefR.en 7 6 ⟨[sP 5 0 0 0], [.cells (E47.cs r6.1)], [], 0⟩ [5] [1] ?_
  refine Ref.sn1 13 3 [4] [] ?_
  exact Ref.rt
def F130 (K : Nat) (a0 : Bool) : Option ((Bytes) ⊕ (Bytes)) :=
 (if a0 = true then (some (.inl (([105] : Bytes)))) else (some (.inl (([] : Bytes)))))
theorem F130_ok (K : Nat) (a0 : Bool) : DFun Tryz.prog 130 [.c (.val (.bool a0))] [] (fnS (F130 K a0)) (fun r => .c (.str r)) (fun r => []) := by
 refine DFun.it Tryz.f130 (fun r => ⟨[sS 2 r], [], [], 0⟩) ?_
 unfold F130
 refine Ref.sn1 0 1 [0] [] ?_
 refine Ref.sq ?_
 refine Ref.sn 1 1 ⟨[sB 3 a0], [], [], 0⟩ [3] [] ?_
 refine Ref.cn (.tmp 3) a0 (fun hc => ?_) (fun hc => ?_)
 ·
  refine Ref.sn1 2 1 [2] [] ?_
  exact Ref.rt
 ·
  refine Ref.sk ?_
  refine Ref.sn1 3 1 [2] [] ?_
  exact Ref.rt
def F115 (K : Nat) (a0 : (List Bytes)) (a1 : Int) (a2 : Bytes) : Option ((Bytes × Bytes × Bool) ⊕ (Bytes × Bytes × Bool)) :=
 (letV (decide ((a1 : Int) ≥ (Int.ofNat a0.length))) (fun (x1 : Bool) => (if x1 = true then (some (.inl (([] : Bytes), ([] : Bytes), false))) else (chk [inb a1 a0.length] ((fnS (F56 K (a0.getD (a1 : Int).toNat default))).bind (fun r2 => (chk [room (a2.length + r2.1.length)] ((fnS (F130 K r2.2.1)).bind (fun r3 => (some (.inl ((a2 ++ r2.1), r3, r2.2.2))))))))))))
theorem F115_ok (K : Nat) (a0 : (List Bytes)) (a1 : Int) (a2 : Bytes) : DFun Tryz.prog 115 [.c (E9.tree a0), .c (.val (.int .i64 a1)), .c (.str a2)] [] (fnS (F115 K a0 a1 a2)) (fun r => .tup [.c (.str r.1), .c (.str r.2.1), .c (.val (.bool r.2.2))]) (fun r => []) := by
 refine DFun.it Tryz.f115 (fun r => ⟨[sS 6 r.1, sS 7 r.2.1, sB 8 r.2.2], [], [], 0⟩) ?_
 unfold F115
 refine Ref.sn1 0 3 [0, 1, 2] [] ?_
 refine Ref.sq ?_
 refine Ref.s0 1 4 ⟨[(0, .c (E9.tree a0)), sI 1 a1, sS 2 a2, sB 15 (decide ((a1 : Int) ≥ (Int.ofNat a0.length)))], [], [], 0⟩ [0, 1, 2, 15] [] ?_
 refine RefR.letC (stf := fun x1 => ⟨[(0, .c (E9.tree a0)), sI 1 a1, sS 2 a2, sB 15 x1], [], [], 0⟩) (by kernel_rfl) (fun x1 => ?_)
 refine RefR.nl 4 ?_
 refine Ref.cn (.tmp 15) x1 (fun hc => ?_) (fun hc => ?_)
 ·
  refine Ref.sn1 2 3 [6, 7, 8] [] ?_
  exact Ref.rt
 ·
  refine Ref.sk ?_
  refine Ref.sr 3 ?_
  refine RefR.evC (vs := [inb a1 a0.length]) (st' := ⟨[sS 2 a2, sS 20 (gd a0 a1)], [], [], 0⟩) 0 4 4 [2, 20] [] rfl (by kernel_rfl) ?_
  refine RefR.cc 21 4 5 [] (F56_ok K (gd a0 a1)) (fun r2 => ?_)
  refine RefR.en 5 7 ⟨[sS 2 a2, sS 9 r2.1, sB 10 r2.2.1, sB 11 r2.2.2], [], [], 0⟩ [2, 9, 10, 11] [] ?_
  refine Ref.sr 4 ?_
  refine RefR.evC (vs := [room (a2.length + r2.1.length)]) (st' := ⟨[sB 11 r2.2.2, sS 27 (a2 ++ r2.1), sB 28 r2.2.1], [], [], 0⟩) 0 4 4 [11, 27, 28] [] rfl (by kernel_rfl) ?_
  refine RefR.cc 29 4 5 [] (F130_ok K r2.2.1) (fun r3 => ?_)
  refine RefR.en 5 4 ⟨[sS 6 (a2 ++ r2.1), sS 7 r3, sB 8 r2.2.2], [], [], 0⟩ [6, 7, 8] [] ?_
  exact Ref.rt
def F100 (K : Nat) (a0 : S107) (a1 : S61) : Option ((Bytes × Bytes × Bool) ⊕ (Bytes × Bytes × Bool)) :=
 (bindS (blockS (if ((a1.fK : Int) == 23) = true then (letV (decide ((a1.fA : Int) ≥ (Int.ofNat a0.fim.fCodes.length))) (fun (x16 : Bool) => (if x16 = true then (some (.inl (Sum.inr (([] : Bytes), ([] : Bytes), false)))) else (chk [inb a1.fA a0.fim.fCodes.length] (letV ((a0.fim.fCodes.getD (a1.fA : Int).toNat default).fClass) (fun (x18 : Int) => ((fnS (F113 K a0 x18)).bind (fun r19 => ((fnS (F113 K a0 a0.fc.fClass)).bind (fun r20 => ((condM (!((!r19.2) || (!r20.2))) (fnS (F114 K a0 a0.fc.fClass ((a0.fim.fCodes.getD (a1.fA : Int).toNat default).fClass))) default).bind (fun r21 => (if (((!r19.2) || (!r20.2)) || (!r21)) = true then (some (.inl (Sum.inr (([] : Bytes), ([] : Bytes), false)))) else (letV ((a0.fim.fCodes.getD (a1.fA : Int).toNat default).fParams) (fun (x22 : Bytes) => (letV ((a0.fim.fCodes.getD (a1.fA : Int).toNat default).fRet) (fun (x23 : Bool) => ((fnS (F59 K x22 x23)).bind (fun r24 => ((condM true (fnS (F115 K [r24] 0 ([] : Bytes))) default).bind (fun r25 => (some (.inl (Sum.inr (r25.1, r25.2.1, r25.2.2))))))))))))))))))))))))) else (if ((a1.fK : Int) == 24) = true then ((fnS (F113 K a0 a0.fc.fClass)).bind (fun r26 => ((fnS (F115 K r26.1.fSigs a1.fA ([] : Bytes))).bind (fun r27 => (some (.inl (Sum.inr (r27.1, r27.2.1, r27.2.2)))))))) else (if ((a1.fK : Int) == 25) = true then ((fnS (F113 K a0 a1.fB)).bind (fun r28 => ((fnS (F115 K r28.1.fSigs a1.fA ([114] : Bytes))).bind (fun r29 => (some (.inl (Sum.inr (r29.1, r29.2.1, r29.2.2)))))))) else (some (.inr ())))))) (fun (u15 : Unit) => (letV (decide ((a1.fA : Int) ≥ (Int.ofNat a0.fim.fFaces.length))) (fun (x30 : Bool) => (if x30 = true then (some (.inl (([] : Bytes), ([] : Bytes), false))) else (chk [inb a1.fA a0.fim.fFaces.length] (letV (a0.fim.fFaces.getD (a1.fA : Int).toNat default) (fun (x31 : (List Bytes)) => ((condM true (fnS (F115 K x31 a1.fB ([114] : Bytes))) default).bind (fun r32 => (some (.inl (r32.1, r32.2.1, r32.2.2)))))))))))))
theorem F100_ok (K : Nat) (a0 : S107) (a1 : S61) : DFun Tryz.prog 100 [.c (E107.ep a0 0), .agg (E61.cs a1)] [] (fnS (F100 K a0 a1)) (fun r => .tup [.c (.str r.1), .c (.str r.2.1), .c (.val (.bool r.2.2))]) (fun r => []) := by
 refine DFun.it Tryz.f100 (fun r => ⟨[sS 4 r.1, sS 5 r.2.1, sB 6 r.2.2], [], [], 0⟩) ?_
 unfold F100
 refine Ref.sn1 0 4 [0, 3] [0] ?_
 refine Ref.sq ?_
 refine Ref.sn 1 2 ⟨[(0, .c (E107.ep a0 0)), sP 3 0 0 0, sI 17 a1.fK], [.cells (E61.cs a1)], [], 0⟩ [0, 3, 17] [0] ?_
 refine Ref.ce (.block 0 (cd (bd Tryz.f100) [1, 0, 1, 0])) ?_
 refine Ref.block (go1 := fun u15 => ⟨[(0, .c (E107.ep a0 0)), sP 3 0 0 0], [.cells (E61.cs a1)], [], 0⟩) ?_ (fun _ h => by cases h) (fun u15 => ?_)
 ·
  refine Ref.sn1 2 2 [0, 3, 17, 18] [0] ?_
  refine Ref.cn (.tmp 18) ((a1.fK : Int) == 23) (fun hc => ?_) (fun hc => ?_)
  ·
   refine Ref.sq ?_
   refine Ref.sq ?_
   refine Ref.drawnY 3 (by kernel_rfl) (by kernel_rfl) ?_
   refine RefY.evC0 (st' := ⟨[(0, .c (E107.ep a0 0)), sP 3 0 0 0, sP 20 0 0 1, (25, .c (E107.ep a0 2))], [.cells (E61.cs a1)], [], 0⟩) (fuel' := 4) [0, 2, 3, 4, 5] [0, 3, 20, 25] [0] rfl (by kernel_rfl) (by kernel_rfl) ?_
   refine RefY.toX [] ?_
   refine RefX.evC0 (st' := ⟨[(0, .c (E107.ep a0 0)), sP 3 0 0 0, sB 28 (decide ((a1.fA : Int) ≥ (Int.ofNat a0.fim.fCodes.length)))], [.cells (E61.cs a1)], [], 0⟩) (fuel' := 0) [1, 6, 7, 8] [0, 3, 28] [0] rfl (by kernel_rfl) (by kernel_rfl) ?_
   refine RefX.letC (stf := fun x16 => ⟨[(0, .c (E107.ep a0 0)), sP 3 0 0 0, sB 28 x16], [.cells (E61.cs a1)], [], 0⟩) (by kernel_rfl) (fun x16 => ?_)
   refine RefX.done (by kernel_rfl) ?_
   refine Ref.cn (.tmp 28) x16 (fun hc => ?_) (fun hc => ?_)
   ·
    refine Ref.sn1 4 3 [4, 5, 6] [] ?_
    exact Ref.rt
   ·
    refine Ref.sk ?_
    refine Ref.sq ?_
    refine Ref.drawnY 5 (by kernel_rfl) (by kernel_rfl) ?_
    refine RefY.evC0 (st' := ⟨[(0, .c (E107.ep a0 0)), (32, .c (E107.ep a0 2)), sP 34 0 0 1], [.cells (E61.cs a1)], [], 0⟩) (fuel' := 6) [0, 1, 2, 3, 5] [0, 32, 34] [0] rfl (by kernel_rfl) (by kernel_rfl) ?_
    refine RefY.toX [10] ?_
    refine RefX.withK0 (⟨[(0, .c (E107.ep a0 0)), sP 7 0 0 0], [.cells (E39.cs (gd a0.fim.fCodes a1.fA))], [], 0⟩) ((letV ((gd a0.fim.fCodes a1.fA).fClass) (fun (x18 : Int) => ((fnS (F113 K a0 x18)).bind (fun r19 => ((fnS (F113 K a0 a0.fc.fClass)).bind (fun r20 => ((condM (!((!r19.2) || (!r20.2))) (fnS (F114 K a0 a0.fc.fClass ((gd a0.fim.fCodes a1.fA).fClass))) default).bind (fun r21 => (if (((!r19.2) || (!r20.2)) || (!r21)) = true then (some (.inl (Sum.inr (([] : Bytes), ([] : Bytes), false)))) else (letV ((gd a0.fim.fCodes a1.fA).fParams) (fun (x22 : Bytes) => (letV ((gd a0.fim.fCodes a1.fA).fRet) (fun (x23 : Bool) => ((fnS (F59 K x22 x23)).bind (fun r24 => ((condM true (fnS (F115 K [r24] 0 ([] : Bytes))) default).bind (fun r25 => (some (.inl (Sum.inr (r25.1, r25.2.1, r25.2.2)))))))))))))))))))))) ?_ (fun hk => ?_)
    ·
     refine Ref.s0 6 3 ⟨[(0, .c (E107.ep a0 0)), sP 7 0 0 0, (39, .c (E107.ep a0 0)), sI 41 ((gd a0.fim.fCodes a1.fA).fClass)], [.cells (E39.cs (gd a0.fim.fCodes a1.fA))], [], 0⟩ [0, 7, 39, 41] [0] ?_
     refine RefR.letC (stf := fun x18 => ⟨[(0, .c (E107.ep a0 0)), sP 7 0 0 0, (39, .c (E107.ep a0 0)), sI 41 x18], [.cells (E39.cs (gd a0.fim.fCodes a1.fA))], [], 0⟩) (by kernel_rfl) (fun x18 => ?_)
     refine RefR.cc 42 3 4 [] (F113_ok K a0 x18) (fun r19 => ?_)
     refine RefR.en 4 6 ⟨[(0, .c (E107.ep a0 0)), sP 7 0 0 0, sB 9 r19.2], [.cells (E39.cs (gd a0.fim.fCodes a1.fA))], [], 0⟩ [0, 7, 9] [0] ?_
     refine Ref.sc 7 6 [0, 7, 9, 46, 51] [0] 52 [] (F113_ok K a0 a0.fc.fClass) (fun r20 => ?_)
     refine RefR.en 7 6 ⟨[(0, .c (E107.ep a0 0)), sP 7 0 0 0, sB 9 r19.2, sB 11 r20.2], [.cells (E39.cs (gd a0.fim.fCodes a1.fA))], [], 0⟩ [0, 7, 9, 11] [0] ?_
     refine Ref.sq ?_
     refine Ref.sq ?_
     refine Ref.drawnY 8 (by kernel_rfl) (by kernel_rfl) ?_
     refine RefY.evC0 (st' := ⟨[sP 7 0 0 0, sB 61 ((!r19.2) || (!r20.2)), (62, .c (E107.ep a0 0)), (66, .c (E107.ep a0 12)), sP 68 0 0 0], [.cells (E39.cs (gd a0.fim.fCodes a1.fA))], [(68, [(61, false)]), (66, [(61, false)]), (62, [(61, false)])], 0⟩) (fuel' := 5) [0, 1, 2, 3, 4, 5, 6, 7, 8, 9, 10, 11, 13] [7, 61, 62, 66, 68] [0] rfl (by kernel_rfl) (by kernel_rfl) ?_
     refine RefY.toX [] ?_
     refine RefX.v0 (fuel' := 3) [12, 14] [7, 61, 62, 67, 69] [0] ?_
     refine RefX.lookC (t := 70) (g := [(61, false)]) (b := (!((!r19.2) || (!r20.2)))) (fuel' := 2) 15 [] (default : Bool) rfl (by kernel_rfl) (by kernel_rfl) (F114_ok K a0 a0.fc.fClass ((gd a0.fim.fCodes a1.fA).fClass)) (fun _ => rfl) (fun r21 => ?_)
     refine RefX.evC0 (st' := ⟨[sP 7 0 0 0, sB 72 (((!r19.2) || (!r20.2)) || (!r21))], [.cells (E39.cs (gd a0.fim.fCodes a1.fA))], [], 0⟩) (fuel' := 0) [16, 17] [7, 72] [0] rfl (by kernel_rfl) (by kernel_rfl) ?_
     refine RefX.done (by kernel_rfl) ?_
     refine Ref.cn (.tmp 72) (((!r19.2) || (!r20.2)) || (!r21)) (fun hc => ?_) (fun hc => ?_)
     ·
      refine Ref.sn1 9 3 [4, 5, 6] [] ?_
      exact Ref.rt
     ·
      refine Ref.sk ?_
      refine Ref.s0 10 4 ⟨[sS 74 ((gd a0.fim.fCodes a1.fA).fParams), sB 76 ((gd a0.fim.fCodes a1.fA).fRet)], [], [], 0⟩ [74, 76] [] ?_
      refine RefR.letC (stf := fun x22 => ⟨[sS 74 x22, sB 76 ((gd a0.fim.fCodes a1.fA).fRet)], [], [], 0⟩) (by kernel_rfl) (fun x22 => ?_)
      refine RefR.letC (stf := fun x23 => ⟨[sS 74 x22, sB 76 x23], [], [], 0⟩) (by kernel_rfl) (fun x23 => ?_)
      refine RefR.cc 77 4 5 [] (F59_ok K x22 x23) (fun r24 => ?_)
      refine RefR.e0 (st' := ⟨[(78, .c (.own 0 1))], [.row 9 1 1 (tbl [[.str r24]])], [], 0⟩) 5 1 6 [78] [0] ?_
      refine RefR.conv (Conv.ob 0 (E9.row [r24]) (El.row_build E9 [r24] rfl (by kernel_rfl))) ?_
      refine RefR.conv (Conv.sl 78 (.c (.own 0 ([r24].length))) (DLe.c (CLe.own (by first | (simp; done) | (simp; omega) | omega)))) ?_
      refine RefR.lookC (t := 79) (g := []) (b := true) 6 7 [0] (default : Bytes × Bytes × Bool) rfl (by kernel_rfl) (F115_ok K [r24] 0 ([] : Bytes)) (fun _ => rfl) (fun r25 => ?_)
      refine RefR.en 7 6 ⟨[sS 4 r25.1, sS 5 r25.2.1, sB 6 r25.2.2], [], [], 0⟩ [4, 5, 6] [] ?_
      exact Ref.rt
    ·
     refine RefX.v1 (fuel' := 2) [inb a1.fA a0.fim.fCodes.length] [4, 6, 7, 8] [0, 37] [] ?_
     refine RefX.fork1 (fuel' := 1) 9 (by kernel_rfl) ?_
     refine RefXi.adds0 (st' := ⟨[(0, .c (E107.ep a0 0)), sP 7 0 0 0, (37, .agg (E39.cs (gd a0.fim.fCodes a1.fA)))], [.cells [iC 0, .str [], .str [], bC false, iC 0, .nil]], [], 0⟩) 9 [0, 7, 37] [0] (by kernel_rfl) (by kernel_rfl) ?_
     refine RefX.tailC [10] rfl (by kernel_rfl) ?_
     refine RefR.en 0 1 ⟨[(0, .c (E107.ep a0 0)), sP 7 0 0 0], [.cells (E39.cs (gd a0.fim.fCodes a1.fA))], [], 0⟩ [0, 7] [0] ?_
     refine Ref.ck ⟨[(0, .c (E107.ep a0 0)), sP 7 0 0 0], [.cells (E39.cs (gd a0.fim.fCodes a1.fA))], [], 0⟩ [0, 7] [0] ?_
     exact hk
  ·
   refine Ref.sn 11 2 ⟨[(0, .c (E107.ep a0 0)), sP 3 0 0 0, sI 17 a1.fK, sB 83 ((a1.fK : Int) == 24)], [.cells (E61.cs a1)], [], 0⟩ [0, 3, 17, 83] [0] ?_
   refine Ref.cn (.tmp 83) ((a1.fK : Int) == 24) (fun hc => ?_) (fun hc => ?_)
   ·
    refine Ref.sc 12 6 [3, 86, 91] [0] 92 [] (F113_ok K a0 a0.fc.fClass) (fun r26 => ?_)
    refine RefR.en 7 6 ⟨[sP 3 0 0 0, sP 12 1 0 0], [.cells (E61.cs a1), .cells (E47.cs r26.1)], [], 0⟩ [3, 12] [0, 2] ?_
    refine Ref.sc 13 4 [96, 98] [] 99 [] (F115_ok K r26.1.fSigs a1.fA ([] : Bytes)) (fun r27 => ?_)
    refine RefR.en 5 6 ⟨[sS 4 r27.1, sS 5 r27.2.1, sB 6 r27.2.2], [], [], 0⟩ [4, 5, 6] [] ?_
    exact Ref.rt
   ·
    refine Ref.sn1 14 2 [0, 3, 103] [0] ?_
    refine Ref.cn (.tmp 103) ((a1.fK : Int) == 25) (fun hc => ?_) (fun hc => ?_)
    ·
     refine Ref.sc 15 3 [3, 106, 108] [0] 109 [] (F113_ok K a0 a1.fB) (fun r28 => ?_)
     refine RefR.en 4 6 ⟨[sP 3 0 0 0, sP 14 1 0 0], [.cells (E61.cs a1), .cells (E47.cs r28.1)], [], 0⟩ [3, 14] [0, 2] ?_
     refine Ref.sc 16 4 [113, 115] [] 116 [] (F115_ok K r28.1.fSigs a1.fA wr) (fun r29 => ?_)
     refine RefR.en 5 6 ⟨[sS 4 r29.1, sS 5 r29.2.1, sB 6 r29.2.2], [], [], 0⟩ [4, 5, 6] [] ?_
     exact Ref.rt
    ·
     refine Ref.sk ?_
     exact Ref.kn [0, 3] [0]
 ·
  refine Ref.sq ?_
  refine Ref.sq ?_
  refine Ref.drawnY 17 (by kernel_rfl) (by kernel_rfl) ?_
  refine RefY.evC0 (st' := ⟨[(0, .c (E107.ep a0 0)), sP 3 0 0 0, sP 120 0 0 1, (125, .c (E107.ep a0 0))], [.cells (E61.cs a1)], [], 0⟩) (fuel' := 4) [0, 2, 3, 4, 5] [0, 3, 120, 125] [0] rfl (by kernel_rfl) (by kernel_rfl) ?_
  refine RefY.toX [] ?_
  refine RefX.evC0 (st' := ⟨[(0, .c (E107.ep a0 0)), sP 3 0 0 0, sB 128 (decide ((a1.fA : Int) ≥ (Int.ofNat a0.fim.fFaces.length)))], [.cells (E61.cs a1)], [], 0⟩) (fuel' := 0) [1, 6, 7, 8] [0, 3, 128] [0] rfl (by kernel_rfl) (by kernel_rfl) ?_
  refine RefX.letC (stf := fun x30 => ⟨[(0, .c (E107.ep a0 0)), sP 3 0 0 0, sB 128 x30], [.cells (E61.cs a1)], [], 0⟩) (by kernel_rfl) (fun x30 => ?_)
  refine RefX.done (by kernel_rfl) ?_
  refine Ref.cn (.tmp 128) x30 (fun hc => ?_) (fun hc => ?_)
  ·
   refine Ref.sn1 18 3 [4, 5, 6] [] ?_
   exact Ref.rt
  ·
   refine Ref.sk ?_
   refine Ref.sq ?_
   refine Ref.drawnY 19 (by kernel_rfl) (by kernel_rfl) ?_
   refine RefY.evC0 (st' := ⟨[(132, .c (E107.ep a0 0)), sP 134 0 0 1, sP 138 0 0 2], [.cells (E61.cs a1)], [], 0⟩) (fuel' := 12) [0, 1, 2, 3, 5, 9] [132, 134, 138] [0] rfl (by kernel_rfl) (by kernel_rfl) ?_
   refine RefY.toX [] ?_
   refine RefX.evC (vs := [inb a1.fA a0.fim.fFaces.length]) (st' := ⟨[(137, .c (E9.tree (gd a0.fim.fFaces a1.fA))), sI 139 a1.fB], [], [], 0⟩) (fuel' := 7) [4, 6, 7, 8, 10] [137, 139] [] rfl (by kernel_rfl) (by kernel_rfl) ?_
   refine RefX.letC (stf := fun x31 => ⟨[(137, .c (E9.tree x31)), sI 139 a1.fB], [], [], 0⟩) (by kernel_rfl) (fun x31 => ?_)
   refine RefX.lookC (t := 140) (g := []) (b := true) (fuel' := 6) 11 [] (default : Bytes × Bytes × Bool) rfl (by kernel_rfl) (by kernel_rfl) (F115_ok K x31 a1.fB wr) (fun _ => rfl) (fun r32 => ?_)
   refine RefX.evC0 (st' := ⟨[sS 4 r32.1, sS 5 r32.2.1, sB 6 r32.2.2], [], [], 0⟩) (fuel' := 0) [12, 13, 14, 15, 16, 17] [4, 5, 6] [] rfl (by kernel_rfl) (by kernel_rfl) ?_
   refine RefX.done (by kernel_rfl) ?_
   exact Ref.rt
def F98 (K : Nat) (a0 : S107) (a1 : S61) : Option ((Bytes × Bytes × Bool) ⊕ (Bytes × Bytes × Bool)) :=
 ((fnS (F111 K a0 a1)).bind (fun r1 => (letV (decide ((a1.fA : Int) ≥ (Int.ofNat r1.length))) (fun (x2 : Bool) => (if x2 = true then (some (.inl (([] : Bytes), ([] : Bytes), false))) else (chk [bndOk r1.length a1.fA (IntKind.i64.wrap (a1.fA + 1))] (letV ((r1.drop (a1.fA : Int).toNat).take (((IntKind.i64.wrap (a1.fA + 1)) : Int).toNat - (a1.fA : Int).toNat)) (fun (x3 : Bytes) => (bindS (blockS (bindS (if ((a1.fK : Int) == 4) = true then (some (.inr (((a1.fK : Int) == 4)))) else (if ((a1.fK : Int) == 6) = true then (some (.inr (((a1.fK : Int) == 6)))) else (some (.inr (((a1.fK : Int) == 8)))))) (fun (u6 : Bool) => (if u6 = true then (some (.inl (Sum.inr (([] : Bytes), x3, true)))) else (some (.inr ())))))) (fun (u5 : Unit) => (some (.inl (x3, ([] : Bytes), true)))))))))))))
theorem F98_ok (K : Nat) (a0 : S107) (a1 : S61) : DFun Tryz.prog 98 [.c (E107.ep a0 0), .agg (E61.cs a1)] [] (fnS (F98 K a0 a1)) (fun r => .tup [.c (.str r.1), .c (.str r.2.1), .c (.val (.bool r.2.2))]) (fun r => []) := by
 refine DFun.it Tryz.f98 (fun r => ⟨[sS 4 r.1, sS 5 r.2.1, sB 6 r.2.2], [], [], 0⟩) ?_
 unfold F98
 refine Ref.sn1 0 4 [0, 3] [0] ?_
 refine Ref.sc 1 2 [3, 9, 10] [0] 11 [] (F111_ok K a0 a1) (fun r1 => ?_)
 refine RefR.en 3 1 ⟨[sP 3 0 0 0, sS 7 r1], [.cells (E61.cs a1)], [], 0⟩ [3, 7] [0] ?_
 refine Ref.sq ?_
 refine Ref.s0 2 5 ⟨[sP 3 0 0 0, sS 7 r1, sB 16 (decide ((a1.fA : Int) ≥ (Int.ofNat r1.length)))], [.cells (E61.cs a1)], [], 0⟩ [3, 7, 16] [0] ?_
 refine RefR.letC (stf := fun x2 => ⟨[sP 3 0 0 0, sS 7 r1, sB 16 x2], [.cells (E61.cs a1)], [], 0⟩) (by kernel_rfl) (fun x2 => ?_)
 refine RefR.nl 5 ?_
 refine Ref.cn (.tmp 16) x2 (fun hc => ?_) (fun hc => ?_)
 ·
  refine Ref.sn1 3 3 [4, 5, 6] [] ?_
  exact Ref.rt
 ·
  refine Ref.sk ?_
  refine Ref.sr 4 ?_
  refine RefR.evC (vs := [bndOk r1.length a1.fA (IntKind.i64.wrap (a1.fA + 1))]) (st' := ⟨[sP 3 0 0 0, sS 8 ((r1.drop (a1.fA : Int).toNat).take (((IntKind.i64.wrap (a1.fA + 1)) : Int).toNat - (a1.fA : Int).toNat))], [.cells (E61.cs a1)], [], 0⟩) 0 8 8 [3, 8] [0] rfl (by kernel_rfl) ?_
  refine RefR.letC (stf := fun x3 => ⟨[sP 3 0 0 0, sS 8 x3], [.cells (E61.cs a1)], [], 0⟩) (by kernel_rfl) (fun x3 => ?_)
  refine RefR.nl 8 ?_
  refine Ref.sq ?_
  refine Ref.sn 5 2 ⟨[sS 8 x3, sI 25 a1.fK], [], [], 0⟩ [8, 25] [] ?_
  refine Ref.ce (.block 0 (cd (bd Tryz.f98) [1, 1, 1, 1, 0, 1, 0])) ?_
  refine Ref.block (go1 := fun u5 => ⟨[sS 8 x3], [], [], 0⟩) ?_ (fun _ h => by cases h) (fun u5 => ?_)
  ·
   refine Ref.sq ?_
   refine Ref.sn 6 2 ⟨[sS 8 x3, sI 25 a1.fK, sB 26 ((a1.fK : Int) == 4)], [], [], 0⟩ [8, 25, 26] [] ?_
   refine Ref.bind (go1 := fun u6 => ⟨[sS 8 x3, sB 26 u6], [], [], 0⟩) ?_ (fun u6 => ?_)
   ·
    refine Ref.cn (.tmp 26) ((a1.fK : Int) == 4) (fun hc => ?_) (fun hc => ?_)
    ·
     refine Ref.sk ?_
     exact Ref.kn [8, 26] []
    ·
     refine Ref.sn1 7 2 [8, 25, 26] [] ?_
     refine Ref.cn (.tmp 26) ((a1.fK : Int) == 6) (fun hc => ?_) (fun hc => ?_)
     ·
      refine Ref.sk ?_
      exact Ref.kn [8, 26] []
     ·
      refine Ref.rn 8 ?_
      refine RefR.en 0 2 ⟨[sS 8 x3, sB 26 ((a1.fK : Int) == 8)], [], [], 0⟩ [8, 26] [] ?_
      exact Ref.n0
   ·
    refine Ref.cn (.tmp 26) u6 (fun hc => ?_) (fun hc => ?_)
    ·
     refine Ref.sn1 9 4 [4, 5, 6] [] ?_
     exact Ref.rt
    ·
     refine Ref.sk ?_
     exact Ref.kn [8] []
  ·
   refine Ref.sn1 10 4 [4, 5, 6] [] ?_
   exact Ref.rt
def F99 (K : Nat) (a0 : S107) (a1 : S61) : Option ((Bool) ⊕ (Bool)) :=
 ((fnS (F111 K a0 a1)).bind (fun r1 => (chk [!(decide (((IntKind.i64.wrap (a1.fA + a1.fB)) : Int) ≤ (Int.ofNat r1.length))) || bndOk r1.length a1.fA (IntKind.i64.wrap (a1.fA + a1.fB))] (letV (decide (((IntKind.i64.wrap (a1.fA + a1.fB)) : Int) ≤ (Int.ofNat r1.length))) (fun (x2 : Bool) => ((condM x2 (fnS (F112 K ((r1.drop (a1.fA : Int).toNat).take (((IntKind.i64.wrap (a1.fA + a1.fB)) : Int).toNat - (a1.fA : Int).toNat)) ([105] : Bytes))) default).bind (fun r3 => (some (.inl ((x2 && ((r3 : Int) == a1.fB))))))))))))
theorem F99_ok (K : Nat) (a0 : S107) (a1 : S61) : DFun Tryz.prog 99 [.c (E107.ep a0 0), .agg (E61.cs a1)] [] (fnS (F99 K a0 a1)) (fun r => .c (.val (.bool r))) (fun r => []) := by
 refine DFun.it Tryz.f99 (fun r => ⟨[sB 4 r], [], [], 0⟩) ?_
 unfold F99
 refine Ref.sn1 0 2 [0, 3] [0] ?_
 refine Ref.sc 1 2 [3, 6, 7] [0] 8 [] (F111_ok K a0 a1) (fun r1 => ?_)
 refine RefR.en 3 1 ⟨[sP 3 0 0 0, sS 5 r1], [.cells (E61.cs a1)], [], 0⟩ [3, 5] [0] ?_
 refine Ref.sq ?_
 refine Ref.drawnY 2 (by kernel_rfl) (by kernel_rfl) ?_
 refine RefY.evC0 (st' := ⟨[sP 3 0 0 0, sS 5 r1, sP 9 0 0 1, sP 11 0 0 2, sI 15 (Int.ofNat r1.length)], [.cells (E61.cs a1)], [], 0⟩) (fuel' := 20) [0, 2, 5, 6] [3, 5, 9, 11, 15] [0] rfl (by kernel_rfl) (by kernel_rfl) ?_
 refine RefY.toX [] ?_
 refine RefX.evC (vs := [!(decide (((IntKind.i64.wrap (a1.fA + a1.fB)) : Int) ≤ (Int.ofNat r1.length))) || bndOk r1.length a1.fA (IntKind.i64.wrap (a1.fA + a1.fB))]) (st' := ⟨[sB 17 (decide (((IntKind.i64.wrap (a1.fA + a1.fB)) : Int) ≤ (Int.ofNat r1.length))), sS 26 ((r1.drop (a1.fA : Int).toNat).take (((IntKind.i64.wrap (a1.fA + a1.fB)) : Int).toNat - (a1.fA : Int).toNat)), sI 29 a1.fB], [], [(29, [(17, true)]), (26, [(17, true)])], 0⟩) (fuel' := 4) [1, 3, 4, 7, 8, 9, 10, 11, 12, 13, 14, 15, 16, 17, 19, 20] [17, 26, 29] [] rfl (by kernel_rfl) (by kernel_rfl) ?_
 refine RefX.letC (stf := fun x2 => ⟨[sB 17 x2, sS 26 ((r1.drop (a1.fA : Int).toNat).take (((IntKind.i64.wrap (a1.fA + a1.fB)) : Int).toNat - (a1.fA : Int).toNat)), sI 29 a1.fB], [], [(29, [(17, true)]), (26, [(17, true)])], 0⟩) (by kernel_rfl) (fun x2 => ?_)
 refine RefX.lookC (t := 27) (g := [(17, true)]) (b := x2) (fuel' := 3) 18 [] (default : Int) rfl (by kernel_rfl) (by kernel_rfl) (F112_ok K ((r1.drop (a1.fA : Int).toNat).take (((IntKind.i64.wrap (a1.fA + a1.fB)) : Int).toNat - (a1.fA : Int).toNat)) wi) (fun _ => rfl) (fun r3 => ?_)
 refine RefX.evC0 (st' := ⟨[sB 4 (x2 && ((r3 : Int) == a1.fB))], [], [], 0⟩) (fuel' := 0) [21, 22, 23] [4] [] rfl (by kernel_rfl) (by kernel_rfl) ?_
 refine RefX.done (by kernel_rfl) ?_
 exact Ref.rt
def F84 (K : Nat) (a0 : S107) (a1 : S61) : Option ((Bytes × Bytes × Bool) ⊕ (Bytes × Bytes × Bool)) :=
 (bindS (blockS (if ((a1.fK : Int) == 1) = true then (some (.inl (Sum.inr (([] : Bytes), ([105] : Bytes), true)))) else (bindS (if ((a1.fK : Int) == 32) = true then (some (.inr (((a1.fK : Int) == 32)))) else (some (.inr (((a1.fK : Int) == 33))))) (fun (u17 : Bool) => (if u17 = true then (letV (decide ((a1.fA : Int) < (Int.ofNat a0.fim.fBlocks.length))) (fun (x18 : Bool) => (some (.inl (Sum.inr (([] : Bytes), ([105] : Bytes), x18)))))) else (if ((a1.fK : Int) == 2) = true then (some (.inl (Sum.inr (([] : Bytes), ([114] : Bytes), true)))) else (if ((a1.fK : Int) == 3) = true then (letV ((decide ((a1.fA : Int) ≥ 1)) && (decide ((a1.fA : Int) ≤ (Int.ofNat a0.fim.fInsts.length)))) (fun (x19 : Bool) => (some (.inl (Sum.inr (([] : Bytes), ([114] : Bytes), x19)))))) else (bindS (if ((a1.fK : Int) == 4) = true then (some (.inr (((a1.fK : Int) == 4)))) else (if ((a1.fK : Int) == 6) = true then (some (.inr (((a1.fK : Int) == 6)))) else (if ((a1.fK : Int) == 8) = true then (some (.inr (((a1.fK : Int) == 8)))) else (if ((a1.fK : Int) == 5) = true then (some (.inr (((a1.fK : Int) == 5)))) else (if ((a1.fK : Int) == 7) = true then (some (.inr (((a1.fK : Int) == 7)))) else (some (.inr (((a1.fK : Int) == 9))))))))) (fun (u20 : Bool) => (if u20 = true then ((fnS (F98 K a0 a1)).bind (fun r21 => (some (.inl (Sum.inr (r21.1, r21.2.1, r21.2.2)))))) else (bindS (if ((a1.fK : Int) == 10) = true then (some (.inr (((a1.fK : Int) == 10)))) else (if ((a1.fK : Int) == 12) = true then (some (.inr (((a1.fK : Int) == 12)))) else (some (.inr (((a1.fK : Int) == 14)))))) (fun (u22 : Bool) => (if u22 = true then ((fnS (F99 K a0 a1)).bind (fun r23 => (some (.inl (Sum.inr (([105] : Bytes), ([105] : Bytes), r23)))))) else (bindS (if ((a1.fK : Int) == 11) = true then (some (.inr (((a1.fK : Int) == 11)))) else (if ((a1.fK : Int) == 13) = true then (some (.inr (((a1.fK : Int) == 13)))) else (some (.inr (((a1.fK : Int) == 15)))))) (fun (u24 : Bool) => (if u24 = true then ((fnS (F99 K a0 a1)).bind (fun r25 => (some (.inl (Sum.inr (([105, 105] : Bytes), ([] : Bytes), r25)))))) else (if ((a1.fK : Int) == 16) = true then (some (.inl (Sum.inr (([105, 105] : Bytes), ([105] : Bytes), true)))) else (bindS (if ((a1.fK : Int) == 17) = true then (some (.inr (((a1.fK : Int) == 17)))) else (if ((a1.fK : Int) == 18) = true then (some (.inr (((a1.fK : Int) == 18)))) else (some (.inr (((a1.fK : Int) == 20)))))) (fun (u26 : Bool) => (if u26 = true then (some (.inl (Sum.inr (([105] : Bytes), ([105] : Bytes), true)))) else (if ((a1.fK : Int) == 19) = true then (some (.inl (Sum.inr (([114, 114] : Bytes), ([105] : Bytes), true)))) else (if ((a1.fK : Int) == 22) = true then (some (.inl (Sum.inr (([105] : Bytes), ([] : Bytes), true)))) else (bindS (if ((a1.fK : Int) == 23) = true then (some (.inr (((a1.fK : Int) == 23)))) else (if ((a1.fK : Int) == 24) = true then (some (.inr (((a1.fK : Int) == 24)))) else (if ((a1.fK : Int) == 25) = true then (some (.inr (((a1.fK : Int) == 25)))) else (some (.inr (((a1.fK : Int) == 26))))))) (fun (u27 : Bool) => (if u27 = true then ((fnS (F100 K a0 a1)).bind (fun r28 => (some (.inl (Sum.inr (r28.1, r28.2.1, r28.2.2)))))) else (bindS (if ((a1.fK : Int) == 27) = true then (some (.inr (((a1.fK : Int) == 27)))) else (some (.inr (((a1.fK : Int) == 28))))) (fun (u29 : Bool) => (if u29 = true then (bindS (if ((a1.fA : Int) == 1) = true then (some (.inr ((Int.ofNat a0.fim.fFaces.length)))) else (some (.inr ((Int.ofNat a0.fim.fClasses.length))))) (fun (u30 : Int) => (some (.inl (Sum.inr (([114] : Bytes), ([114] : Bytes), (decide ((a1.fB : Int) < u30)))))))) else (if ((a1.fK : Int) == 29) = true then (some (.inl (Sum.inr (([] : Bytes), ([] : Bytes), (!a0.fc.fRet))))) else (if ((a1.fK : Int) == 30) = true then (some (.inl (Sum.inr (([105] : Bytes), ([] : Bytes), a0.fc.fRet)))) else (if ((a1.fK : Int) == 31) = true then (letV (decide ((a1.fA : Int) < (Int.ofNat a0.fim.fBlocks.length))) (fun (x31 : Bool) => (some (.inl (Sum.inr (([105, 105] : Bytes), ([] : Bytes), x31)))))) else (some (.inr ()))))))))))))))))))))))))))))))))) (fun (u16 : Unit) => (some (.inl (([] : Bytes), ([] : Bytes), true)))))
theorem F84_ok (K : Nat) (a0 : S107) (a1 : S61) : DFun Tryz.prog 84 [.c (E107.ep a0 0), .agg (E61.cs a1)] [] (fnS (F84 K a0 a1)) (fun r => .tup [.c (.str r.1), .c (.str r.2.1), .c (.val (.bool r.2.2))]) (fun r => []) := by
 refine DFun.it Tryz.f84 (fun r => ⟨[sS 4 r.1, sS 5 r.2.1, sB 6 r.2.2], [], [], 0⟩) ?_
 unfold F84
 refine Ref.sn1 0 4 [0, 3] [0] ?_
 refine Ref.sq ?_
 refine Ref.sn 1 2 ⟨[(0, .c (E107.ep a0 0)), sP 3 0 0 0, sI 9 a1.fK], [.cells (E61.cs a1)], [], 0⟩ [0, 3, 9] [0] ?_
 refine Ref.ce (.block 0 (cd (bd Tryz.f84) [1, 0, 1, 0])) ?_
 refine Ref.block (go1 := fun u16 => ⟨[], [], [], 0⟩) ?_ (fun _ h => by cases h) (fun u16 => ?_)
 ·
  refine Ref.sn1 2 2 [0, 3, 9, 10] [0] ?_
  refine Ref.cn (.tmp 10) ((a1.fK : Int) == 1) (fun hc => ?_) (fun hc => ?_)
  ·
   refine Ref.sn 3 3 ⟨[sS 4 ([] : Bytes), sS 5 wi, sB 6 true], [], [], 0⟩ [4, 5, 6] [] ?_
   exact Ref.rt
  ·
   refine Ref.sq ?_
   refine Ref.sn 4 2 ⟨[(0, .c (E107.ep a0 0)), sP 3 0 0 0, sI 9 a1.fK, sB 12 ((a1.fK : Int) == 32)], [.cells (E61.cs a1)], [], 0⟩ [0, 3, 9, 12] [0] ?_
   refine Ref.bind (go1 := fun u17 => ⟨[(0, .c (E107.ep a0 0)), sP 3 0 0 0, sI 9 a1.fK, sB 12 u17], [.cells (E61.cs a1)], [], 0⟩) ?_ (fun u17 => ?_)
   ·
    refine Ref.cn (.tmp 12) ((a1.fK : Int) == 32) (fun hc => ?_) (fun hc => ?_)
    ·
     refine Ref.sk ?_
     exact Ref.n0
    ·
     refine Ref.rn 5 ?_
     refine RefR.en1 0 2 [0, 3, 9, 12] [0] ?_
     exact Ref.n0
   ·
    refine Ref.cn (.tmp 12) u17 (fun hc => ?_) (fun hc => ?_)
    ·
     refine Ref.sq ?_
     refine Ref.drawnY 6 (by kernel_rfl) (by kernel_rfl) ?_
     refine RefY.evC0 (st' := ⟨[sS 4 ([] : Bytes), sS 5 wi, sP 15 0 0 1, (20, .c (E107.ep a0 6))], [.cells (E61.cs a1)], [], 0⟩) (fuel' := 5) [0, 2, 3, 4, 5, 9, 10] [4, 5, 15, 20] [0] rfl (by kernel_rfl) (by kernel_rfl) ?_
     refine RefY.toX [] ?_
     refine RefX.evC0 (st' := ⟨[sS 4 ([] : Bytes), sS 5 wi, sB 6 (decide ((a1.fA : Int) < (Int.ofNat a0.fim.fBlocks.length)))], [], [], 0⟩) (fuel' := 0) [1, 6, 7, 8, 11] [4, 5, 6] [] rfl (by kernel_rfl) (by kernel_rfl) ?_
     refine RefX.letC (stf := fun x18 => ⟨[sS 4 ([] : Bytes), sS 5 wi, sB 6 x18], [], [], 0⟩) (by kernel_rfl) (fun x18 => ?_)
     refine RefX.done (by kernel_rfl) ?_
     exact Ref.rt
    ·
     refine Ref.sn1 7 2 [0, 3, 9, 24] [0] ?_
     refine Ref.cn (.tmp 24) ((a1.fK : Int) == 2) (fun hc => ?_) (fun hc => ?_)
     ·
      refine Ref.sn 8 3 ⟨[sS 4 ([] : Bytes), sS 5 wr, sB 6 true], [], [], 0⟩ [4, 5, 6] [] ?_
      exact Ref.rt
     ·
      refine Ref.sn 9 2 ⟨[(0, .c (E107.ep a0 0)), sP 3 0 0 0, sI 9 a1.fK, sB 26 ((a1.fK : Int) == 3)], [.cells (E61.cs a1)], [], 0⟩ [0, 3, 9, 26] [0] ?_
      refine Ref.cn (.tmp 26) ((a1.fK : Int) == 3) (fun hc => ?_) (fun hc => ?_)
      ·
       refine Ref.sq ?_
       refine Ref.drawnY 10 (by kernel_rfl) (by kernel_rfl) ?_
       refine RefY.evC0 (st' := ⟨[(0, .c (E107.ep a0 0)), sP 3 0 0 0, sP 28 0 0 1], [.cells (E61.cs a1)], [], 0⟩) (fuel' := 16) [0] [0, 3, 28] [0] rfl (by kernel_rfl) (by kernel_rfl) ?_
       refine RefY.toX [] ?_
       refine RefX.evC0 (st' := ⟨[sS 4 ([] : Bytes), sS 5 wr, sB 6 ((decide ((a1.fA : Int) ≥ 1)) && (decide ((a1.fA : Int) ≤ (Int.ofNat a0.fim.fInsts.length))))], [], [], 0⟩) (fuel' := 0) [1, 2, 3, 4, 5, 6, 7, 8, 9, 10, 11, 12, 13, 14, 15, 16] [4, 5, 6] [] rfl (by kernel_rfl) (by kernel_rfl) ?_
       refine RefX.letC (stf := fun x19 => ⟨[sS 4 ([] : Bytes), sS 5 wr, sB 6 x19], [], [], 0⟩) (by kernel_rfl) (fun x19 => ?_)
       refine RefX.done (by kernel_rfl) ?_
       exact Ref.rt
      ·
       refine Ref.sq ?_
       refine Ref.sn 11 2 ⟨[(0, .c (E107.ep a0 0)), sP 3 0 0 0, sI 9 a1.fK, sB 42 ((a1.fK : Int) == 4)], [.cells (E61.cs a1)], [], 0⟩ [0, 3, 9, 42] [0] ?_
       refine Ref.bind (go1 := fun u20 => ⟨[(0, .c (E107.ep a0 0)), sP 3 0 0 0, sI 9 a1.fK, sB 42 u20], [.cells (E61.cs a1)], [], 0⟩) ?_ (fun u20 => ?_)
       ·
        refine Ref.cn (.tmp 42) ((a1.fK : Int) == 4) (fun hc => ?_) (fun hc => ?_)
        ·
         refine Ref.sk ?_
         exact Ref.n0
        ·
         refine Ref.sn1 12 2 [0, 3, 9, 42] [0] ?_
         refine Ref.cn (.tmp 42) ((a1.fK : Int) == 6) (fun hc => ?_) (fun hc => ?_)
         ·
          refine Ref.sk ?_
          exact Ref.n0
         ·
          refine Ref.sn 13 2 ⟨[(0, .c (E107.ep a0 0)), sP 3 0 0 0, sI 9 a1.fK, sB 42 ((a1.fK : Int) == 8)], [.cells (E61.cs a1)], [], 0⟩ [0, 3, 9, 42] [0] ?_
          refine Ref.cn (.tmp 42) ((a1.fK : Int) == 8) (fun hc => ?_) (fun hc => ?_)
          ·
           refine Ref.sk ?_
           exact Ref.n0
          ·
           refine Ref.sn1 14 2 [0, 3, 9, 42] [0] ?_
           refine Ref.cn (.tmp 42) ((a1.fK : Int) == 5) (fun hc => ?_) (fun hc => ?_)
           ·
            refine Ref.sk ?_
            exact Ref.n0
           ·
            refine Ref.sn 15 2 ⟨[(0, .c (E107.ep a0 0)), sP 3 0 0 0, sI 9 a1.fK, sB 42 ((a1.fK : Int) == 7)], [.cells (E61.cs a1)], [], 0⟩ [0, 3, 9, 42] [0] ?_
            refine Ref.cn (.tmp 42) ((a1.fK : Int) == 7) (fun hc => ?_) (fun hc => ?_)
            ·
             refine Ref.sk ?_
             exact Ref.n0
            ·
             refine Ref.rn 16 ?_
             refine RefR.en1 0 2 [0, 3, 9, 42] [0] ?_
             exact Ref.n0
       ·
        refine Ref.cn (.tmp 42) u20 (fun hc => ?_) (fun hc => ?_)
        ·
         refine Ref.sc 17 2 [49, 50] [] 51 [] (F98_ok K a0 a1) (fun r21 => ?_)
         refine RefR.en 3 6 ⟨[sS 4 r21.1, sS 5 r21.2.1, sB 6 r21.2.2], [], [], 0⟩ [4, 5, 6] [] ?_
         exact Ref.rt
        ·
         refine Ref.sq ?_
         refine Ref.sn 18 2 ⟨[(0, .c (E107.ep a0 0)), sP 3 0 0 0, sI 9 a1.fK, sB 55 ((a1.fK : Int) == 10)], [.cells (E61.cs a1)], [], 0⟩ [0, 3, 9, 55] [0] ?_
         refine Ref.bind (go1 := fun u22 => ⟨[(0, .c (E107.ep a0 0)), sP 3 0 0 0, sI 9 a1.fK, sB 55 u22], [.cells (E61.cs a1)], [], 0⟩) ?_ (fun u22 => ?_)
         ·
          refine Ref.cn (.tmp 55) ((a1.fK : Int) == 10) (fun hc => ?_) (fun hc => ?_)
          ·
           refine Ref.sk ?_
           exact Ref.n0
          ·
           refine Ref.sn1 19 2 [0, 3, 9, 55] [0] ?_
           refine Ref.cn (.tmp 55) ((a1.fK : Int) == 12) (fun hc => ?_) (fun hc => ?_)
           ·
            refine Ref.sk ?_
            exact Ref.n0
           ·
            refine Ref.rn 20 ?_
            refine RefR.en 0 2 ⟨[(0, .c (E107.ep a0 0)), sP 3 0 0 0, sI 9 a1.fK, sB 55 ((a1.fK : Int) == 14)], [.cells (E61.cs a1)], [], 0⟩ [0, 3, 9, 55] [0] ?_
            exact Ref.n0
         ·
          refine Ref.cn (.tmp 55) u22 (fun hc => ?_) (fun hc => ?_)
          ·
           refine Ref.sc 21 2 [59, 60] [] 61 [] (F99_ok K a0 a1) (fun r23 => ?_)
           refine RefR.en 3 3 ⟨[sS 4 wi, sS 5 wi, sB 6 r23], [], [], 0⟩ [4, 5, 6] [] ?_
           exact Ref.rt
          ·
           refine Ref.sq ?_
           refine Ref.sn 22 2 ⟨[(0, .c (E107.ep a0 0)), sP 3 0 0 0, sI 9 a1.fK, sB 62 ((a1.fK : Int) == 11)], [.cells (E61.cs a1)], [], 0⟩ [0, 3, 9, 62] [0] ?_
           refine Ref.bind (go1 := fun u24 => ⟨[(0, .c (E107.ep a0 0)), sP 3 0 0 0, sI 9 a1.fK, sB 62 u24], [.cells (E61.cs a1)], [], 0⟩) ?_ (fun u24 => ?_)
           ·
            refine Ref.cn (.tmp 62) ((a1.fK : Int) == 11) (fun hc => ?_) (fun hc => ?_)
            ·
             refine Ref.sk ?_
             exact Ref.n0
            ·
             refine Ref.sn1 23 2 [0, 3, 9, 62] [0] ?_
             refine Ref.cn (.tmp 62) ((a1.fK : Int) == 13) (fun hc => ?_) (fun hc => ?_)
             ·
              refine Ref.sk ?_
              exact Ref.n0
             ·
              refine Ref.rn 24 ?_
              refine RefR.en 0 2 ⟨[(0, .c (E107.ep a0 0)), sP 3 0 0 0, sI 9 a1.fK, sB 62 ((a1.fK : Int) == 15)], [.cells (E61.cs a1)], [], 0⟩ [0, 3, 9, 62] [0] ?_
              exact Ref.n0
           ·
            refine Ref.cn (.tmp 62) u24 (fun hc => ?_) (fun hc => ?_)
            ·
             refine Ref.sc 25 2 [66, 67] [] 68 [] (F99_ok K a0 a1) (fun r25 => ?_)
             refine RefR.en 3 3 ⟨[sS 4 wii, sS 5 ([] : Bytes), sB 6 r25], [], [], 0⟩ [4, 5, 6] [] ?_
             exact Ref.rt
            ·
             refine Ref.sn1 26 2 [0, 3, 9, 69] [0] ?_
             refine Ref.cn (.tmp 69) ((a1.fK : Int) == 16) (fun hc => ?_) (fun hc => ?_)
             ·
              refine Ref.sn 27 3 ⟨[sS 4 wii, sS 5 wi, sB 6 true], [], [], 0⟩ [4, 5, 6] [] ?_
              exact Ref.rt
             ·
              refine Ref.sq ?_
              refine Ref.sn 28 2 ⟨[(0, .c (E107.ep a0 0)), sP 3 0 0 0, sI 9 a1.fK, sB 71 ((a1.fK : Int) == 17)], [.cells (E61.cs a1)], [], 0⟩ [0, 3, 9, 71] [0] ?_
              refine Ref.bind (go1 := fun u26 => ⟨[(0, .c (E107.ep a0 0)), sP 3 0 0 0, sI 9 a1.fK, sB 71 u26], [.cells (E61.cs a1)], [], 0⟩) ?_ (fun u26 => ?_)
              ·
               refine Ref.cn (.tmp 71) ((a1.fK : Int) == 17) (fun hc => ?_) (fun hc => ?_)
               ·
                refine Ref.sk ?_
                exact Ref.n0
               ·
                refine Ref.sn1 29 2 [0, 3, 9, 71] [0] ?_
                refine Ref.cn (.tmp 71) ((a1.fK : Int) == 18) (fun hc => ?_) (fun hc => ?_)
                ·
                 refine Ref.sk ?_
                 exact Ref.n0
                ·
                 refine Ref.rn 30 ?_
                 refine RefR.en 0 2 ⟨[(0, .c (E107.ep a0 0)), sP 3 0 0 0, sI 9 a1.fK, sB 71 ((a1.fK : Int) == 20)], [.cells (E61.cs a1)], [], 0⟩ [0, 3, 9, 71] [0] ?_
                 exact Ref.n0
              ·
               refine Ref.cn (.tmp 71) u26 (fun hc => ?_) (fun hc => ?_)
               ·
                refine Ref.sn1 31 3 [4, 5, 6] [] ?_
                exact Ref.rt
               ·
                refine Ref.sn1 32 2 [0, 3, 9, 75] [0] ?_
                refine Ref.cn (.tmp 75) ((a1.fK : Int) == 19) (fun hc => ?_) (fun hc => ?_)
                ·
                 refine Ref.sn 33 3 ⟨[sS 4 ([114, 114] : Bytes), sS 5 wi, sB 6 true], [], [], 0⟩ [4, 5, 6] [] ?_
                 exact Ref.rt
                ·
                 refine Ref.sn 34 2 ⟨[(0, .c (E107.ep a0 0)), sP 3 0 0 0, sI 9 a1.fK, sB 77 ((a1.fK : Int) == 22)], [.cells (E61.cs a1)], [], 0⟩ [0, 3, 9, 77] [0] ?_
                 refine Ref.cn (.tmp 77) ((a1.fK : Int) == 22) (fun hc => ?_) (fun hc => ?_)
                 ·
                  refine Ref.sn1 35 3 [4, 5, 6] [] ?_
                  exact Ref.rt
                 ·
                  refine Ref.sq ?_
                  refine Ref.sn 36 2 ⟨[(0, .c (E107.ep a0 0)), sP 3 0 0 0, sI 9 a1.fK, sB 79 ((a1.fK : Int) == 23)], [.cells (E61.cs a1)], [], 0⟩ [0, 3, 9, 79] [0] ?_
                  refine Ref.bind (go1 := fun u27 => ⟨[(0, .c (E107.ep a0 0)), sP 3 0 0 0, sI 9 a1.fK, sB 79 u27], [.cells (E61.cs a1)], [], 0⟩) ?_ (fun u27 => ?_)
                  ·
                   refine Ref.cn (.tmp 79) ((a1.fK : Int) == 23) (fun hc => ?_) (fun hc => ?_)
                   ·
                    refine Ref.sk ?_
                    exact Ref.n0
                   ·
                    refine Ref.sn1 37 2 [0, 3, 9, 79] [0] ?_
                    refine Ref.cn (.tmp 79) ((a1.fK : Int) == 24) (fun hc => ?_) (fun hc => ?_)
                    ·
                     refine Ref.sk ?_
                     exact Ref.n0
                    ·
                     refine Ref.sn 38 2 ⟨[(0, .c (E107.ep a0 0)), sP 3 0 0 0, sI 9 a1.fK, sB 79 ((a1.fK : Int) == 25)], [.cells (E61.cs a1)], [], 0⟩ [0, 3, 9, 79] [0] ?_
                     refine Ref.cn (.tmp 79) ((a1.fK : Int) == 25) (fun hc => ?_) (fun hc => ?_)
                     ·
                      refine Ref.sk ?_
                      exact Ref.n0
                     ·
                      refine Ref.rn 39 ?_
                      refine RefR.en1 0 2 [0, 3, 9, 79] [0] ?_
                      exact Ref.n0
                  ·
                   refine Ref.cn (.tmp 79) u27 (fun hc => ?_) (fun hc => ?_)
                   ·
                    refine Ref.sc 40 2 [84, 85] [] 86 [] (F100_ok K a0 a1) (fun r28 => ?_)
                    refine RefR.en 3 6 ⟨[sS 4 r28.1, sS 5 r28.2.1, sB 6 r28.2.2], [], [], 0⟩ [4, 5, 6] [] ?_
                    exact Ref.rt
                   ·
                    refine Ref.sq ?_
                    refine Ref.sn 41 2 ⟨[(0, .c (E107.ep a0 0)), sP 3 0 0 0, sI 9 a1.fK, sB 90 ((a1.fK : Int) == 27)], [.cells (E61.cs a1)], [], 0⟩ [0, 3, 9, 90] [0] ?_
                    refine Ref.bind (go1 := fun u29 => ⟨[(0, .c (E107.ep a0 0)), sP 3 0 0 0, sI 9 a1.fK, sB 90 u29], [.cells (E61.cs a1)], [], 0⟩) ?_ (fun u29 => ?_)
                    ·
                     refine Ref.cn (.tmp 90) ((a1.fK : Int) == 27) (fun hc => ?_) (fun hc => ?_)
                     ·
                      refine Ref.sk ?_
                      exact Ref.n0
                     ·
                      refine Ref.rn 42 ?_
                      refine RefR.en1 0 2 [0, 3, 9, 90] [0] ?_
                      exact Ref.n0
                    ·
                     refine Ref.cn (.tmp 90) u29 (fun hc => ?_) (fun hc => ?_)
                     ·
                      refine Ref.sn1 43 7 [0, 3, 7] [0] ?_
                      refine Ref.sq ?_
                      refine Ref.sn 44 3 ⟨[(0, .c (E107.ep a0 0)), sP 3 0 0 0, sI 7 (Int.ofNat a0.fim.fClasses.length), sB 101 ((a1.fA : Int) == 1)], [.cells (E61.cs a1)], [], 0⟩ [0, 3, 7, 101] [0] ?_
                      refine Ref.bind (go1 := fun u30 => ⟨[sP 3 0 0 0, sI 7 u30], [.cells (E61.cs a1)], [], 0⟩) ?_ (fun u30 => ?_)
                      ·
                       refine Ref.cn (.tmp 101) ((a1.fA : Int) == 1) (fun hc => ?_) (fun hc => ?_)
                       ·
                        refine Ref.rn 45 ?_
                        refine RefR.en1 0 7 [3, 7] [0] ?_
                        exact Ref.n0
                       ·
                        refine Ref.sk ?_
                        exact Ref.kn [3, 7] [0]
                      ·
                       refine Ref.sq ?_
                       refine Ref.drawnY 46 (by kernel_rfl) (by kernel_rfl) ?_
                       refine RefY.evC0 (st' := ⟨[sS 4 wr, sS 5 wr, sP 108 0 0 2, sI 110 u30], [.cells (E61.cs a1)], [], 0⟩) (fuel' := 3) [0, 2, 4, 5] [4, 5, 108, 110] [0] rfl (by kernel_rfl) (by kernel_rfl) ?_
                       refine RefY.tail [1, 3, 6] rfl (by kernel_rfl) ?_
                       refine RefR.en1 0 3 [4, 5, 6] [] ?_
                       exact Ref.rt
                     ·
                      refine Ref.sn1 47 2 [0, 3, 9, 112] [0] ?_
                      refine Ref.cn (.tmp 112) ((a1.fK : Int) == 29) (fun hc => ?_) (fun hc => ?_)
                      ·
                       refine Ref.sq ?_
                       refine Ref.drawnY 48 (by kernel_rfl) (by kernel_rfl) ?_
                       refine RefY.evC0 (st' := ⟨[sS 4 ([] : Bytes), sS 5 ([] : Bytes), (117, .c (E107.ep a0 15))], [], [], 0⟩) (fuel' := 3) [0, 1, 2, 3, 6, 7] [4, 5, 117] [] rfl (by kernel_rfl) (by kernel_rfl) ?_
                       refine RefY.tail [4, 5, 8] rfl (by kernel_rfl) ?_
                       refine RefR.en 0 3 ⟨[sS 4 ([] : Bytes), sS 5 ([] : Bytes), sB 6 (!a0.fc.fRet)], [], [], 0⟩ [4, 5, 6] [] ?_
                       exact Ref.rt
                      ·
                       refine Ref.sn 49 2 ⟨[(0, .c (E107.ep a0 0)), sP 3 0 0 0, sI 9 a1.fK, sB 120 ((a1.fK : Int) == 30)], [.cells (E61.cs a1)], [], 0⟩ [0, 3, 9, 120] [0] ?_
                       refine Ref.cn (.tmp 120) ((a1.fK : Int) == 30) (fun hc => ?_) (fun hc => ?_)
                       ·
                        refine Ref.sq ?_
                        refine Ref.drawnY 50 (by kernel_rfl) (by kernel_rfl) ?_
                        refine RefY.evC0 (st' := ⟨[sS 4 wi, sS 5 ([] : Bytes), (125, .c (E107.ep a0 15))], [], [], 0⟩) (fuel' := 2) [0, 1, 2, 3, 5, 6] [4, 5, 125] [] rfl (by kernel_rfl) (by kernel_rfl) ?_
                        refine RefY.tail [4, 7] rfl (by kernel_rfl) ?_
                        refine RefR.en1 0 2 [4, 5, 6] [] ?_
                        exact Ref.rt
                       ·
                        refine Ref.sn1 51 2 [0, 3, 127] [0] ?_
                        refine Ref.cn (.tmp 127) ((a1.fK : Int) == 31) (fun hc => ?_) (fun hc => ?_)
                        ·
                         refine Ref.sq ?_
                         refine Ref.drawnY 52 (by kernel_rfl) (by kernel_rfl) ?_
                         refine RefY.evC0 (st' := ⟨[sS 4 wii, sS 5 ([] : Bytes), sP 129 0 0 1, (134, .c (E107.ep a0 6))], [.cells (E61.cs a1)], [], 0⟩) (fuel' := 5) [0, 2, 3, 4, 5, 9, 10] [4, 5, 129, 134] [0] rfl (by kernel_rfl) (by kernel_rfl) ?_
                         refine RefY.toX [] ?_
                         refine RefX.evC0 (st' := ⟨[sS 4 wii, sS 5 ([] : Bytes), sB 6 (decide ((a1.fA : Int) < (Int.ofNat a0.fim.fBlocks.length)))], [], [], 0⟩) (fuel' := 0) [1, 6, 7, 8, 11] [4, 5, 6] [] rfl (by kernel_rfl) (by kernel_rfl) ?_
                         refine RefX.letC (stf := fun x31 => ⟨[sS 4 wii, sS 5 ([] : Bytes), sB 6 x31], [], [], 0⟩) (by kernel_rfl) (fun x31 => ?_)
                         refine RefX.done (by kernel_rfl) ?_
                         exact Ref.rt
                        ·
                         refine Ref.sk ?_
                         exact Ref.kn [] []
 ·
  refine Ref.sn1 53 3 [4, 5, 6] [] ?_
  exact Ref.rt
end Go.Proofs.YtngjamedgphjiaaGreatDoor
