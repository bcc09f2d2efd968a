/- Plain functions, and that the Go functions do what these do: printed by gen2.py. No conditions. -/
import Derived.Test.YtphnfaabcnciiaaGreatDoorLa
import Derived.Test.YtphnfaabcnciiaaGreatDoorProg
set_option linter.unusedVariables false
set_option linter.unusedSimpArgs false
set_option linter.unusedSectionVars false
namespace Go.Proofs.YtphnfaabcnciiaaGreatDoor
open Go Go.Proofs Go.Dl
set_option maxRecDepth 100000
set_option maxHeartbeats 4000000
def F117 (K : Nat) (a0 : Bytes) (a1 : Bytes) : Option ((Bool) ⊕ (Bool)) :=
 (bindS (blockS ((iter K (fun (u22 : Int) => (letV (decide (((IntKind.i64.wrap (u22 + (Int.ofNat a1.length))) : Int) ≤ (Int.ofNat a0.length))) (fun (x28 : Bool) => (if x28 = true then (bindS (blockS (chk [bndOk a0.length u22 (IntKind.i64.wrap (u22 + (Int.ofNat a1.length)))] (letV (((a0.drop (u22 : Int).toNat).take (((IntKind.i64.wrap (u22 + (Int.ofNat a1.length))) : Int).toNat - (u22 : Int).toNat)) == a1) (fun (x31 : Bool) => (if x31 = true then (some (.inl (Sum.inr (Sum.inr (true))))) else (some (.inr ()))))))) (fun (u30 : Unit) => (some (.inr ((IntKind.i64.wrap (u22 + 1))))))) else (some (.inl (Sum.inl ()))))))) (0)).map .inl)) (fun (u16 : Unit) => (some (.inl (false)))))
theorem F117_ok (K : Nat) (a0 : Bytes) (a1 : Bytes) : DFun Tryz.prog 117 [.c (.str a0), .c (.str a1)] [] (fnS (F117 K a0 a1)) (fun r => .c (.val (.bool r))) (fun r => []) := by
 refine DFun.it Tryz.f117 (fun r => ⟨[sB 4 r], [], [], 0⟩) ?_
 unfold F117
 refine Ref.sq ?_
 refine Ref.rn 0 ?_
 refine RefR.e0 (st' := ⟨[sS 0 a0, sS 1 a1], [], [], 0⟩) 0 1 1 [0, 1] [] ?_
 refine RefR.nl 1 ?_
 refine Ref.sq ?_
 refine Ref.sq ?_
 refine Ref.rn 1 ?_
 refine RefR.e0 (st' := ⟨[sS 0 a0, sS 1 a1, sI 5 0], [], [], 0⟩) 0 1 1 [0, 1, 5] [] ?_
 refine RefR.nl 1 ?_
 refine Ref.ce (.block 0 (cd (bd Tryz.f117) [1, 0, 1, 0])) ?_
 refine Ref.block (go1 := fun u16 => ⟨[], [], [], 0⟩) ?_ (fun _ h => by cases h) (fun u16 => ?_)
 ·
  refine Ref.ce (.loop (cd (bd Tryz.f117) [1, 0, 1, 0, 0])) ?_
  refine Ref.loop (hd := fun u22 => ⟨[sS 0 a0, sS 1 a1, sI 5 u22], [], [], 0⟩) K (0) (by kernel_rfl) (fun u22 => ?_)
  refine Ref.sq ?_
  refine Ref.sq ?_
  refine Ref.rn 2 ?_
  refine RefR.e0 (st' := ⟨[sS 0 a0, sS 1 a1, sI 5 u22, sB 12 (decide (((IntKind.i64.wrap (u22 + (Int.ofNat a1.length))) : Int) ≤ (Int.ofNat a0.length)))], [], [], 0⟩) 0 7 7 [0, 1, 5, 12] [] ?_
  refine RefR.letC (stf := fun x28 => ⟨[sS 0 a0, sS 1 a1, sI 5 u22, sB 12 x28], [], [], 0⟩) (by kernel_rfl) (fun x28 => ?_)
  refine RefR.nl 7 ?_
  refine Ref.cn (.tmp 12) x28 (fun hc => ?_) (fun hc => ?_)
  ·
   refine Ref.sk ?_
   refine Ref.sq ?_
   refine Ref.ce (.block 1 (cd (bd Tryz.f117) [1, 0, 1, 0, 0, 1, 0, 0])) ?_
   refine Ref.block (go1 := fun u30 => ⟨[sS 0 a0, sS 1 a1, sI 5 u22], [], [], 0⟩) ?_ (fun a => match a with | .inl _ => (fun h => by cases h) | .inr _ => (fun h => by cases h)) (fun u30 => ?_)
   ·
    refine Ref.sq ?_
    refine Ref.rn 4 ?_
    refine RefR.evC (vs := [bndOk a0.length u22 (IntKind.i64.wrap (u22 + (Int.ofNat a1.length)))]) (st' := ⟨[sS 0 a0, sS 1 a1, sI 5 u22, sB 23 (((a0.drop (u22 : Int).toNat).take (((IntKind.i64.wrap (u22 + (Int.ofNat a1.length))) : Int).toNat - (u22 : Int).toNat)) == a1)], [], [], 0⟩) 0 9 9 [0, 1, 5, 23] [] rfl (by kernel_rfl) ?_
    refine RefR.letC (stf := fun x31 => ⟨[sS 0 a0, sS 1 a1, sI 5 u22, sB 23 x31], [], [], 0⟩) (by kernel_rfl) (fun x31 => ?_)
    refine RefR.nl 9 ?_
    refine Ref.cn (.tmp 23) x31 (fun hc => ?_) (fun hc => ?_)
    ·
     refine Ref.sq ?_
     refine Ref.rn 5 ?_
     refine RefR.e0 (st' := ⟨[sB 4 true], [], [], 0⟩) 0 1 1 [4] [] ?_
     refine RefR.nl 1 ?_
     exact Ref.rt (t := (Sum.inr (Sum.inr (true))))
    ·
     refine Ref.sk ?_
     refine Ref.ck ⟨[sS 0 a0, sS 1 a1, sI 5 u22], [], [], 0⟩ [0, 1, 5] [] ?_
     exact Ref.n0 (t := ())
   ·
    refine Ref.rn 3 ?_
    refine RefR.e0 (st' := ⟨[sS 0 a0, sS 1 a1, sI 5 (IntKind.i64.wrap (u22 + 1))], [], [], 0⟩) 0 3 3 [0, 1, 5] [] ?_
    refine RefR.nl 3 ?_
    exact Ref.n0 (t := ((IntKind.i64.wrap (u22 + 1))))
  ·
   refine Ref.ck ⟨[], [], [], 0⟩ [] [] ?_
   exact Ref.xt 0 (t := (Sum.inl ()))
 ·
  refine Ref.sq ?_
  refine Ref.rn 6 ?_
  refine RefR.e0 (st' := ⟨[sB 4 false], [], [], 0⟩) 0 1 1 [4] [] ?_
  refine RefR.nl 1 ?_
  exact Ref.rt (t := (false))
def F103 (K : Nat) (a0 : UInt8) : Option ((Bool) ⊕ (Bool)) :=
 (letV ((decide (((Int.ofNat a0.toNat) : Int) ≥ 48)) && (decide (((Int.ofNat a0.toNat) : Int) ≤ 57))) (fun (x1 : Bool) => (some (.inl (x1)))))
theorem F103_ok (K : Nat) (a0 : UInt8) : DFun Tryz.prog 103 [.c (.val (.int .u8 (Int.ofNat a0.toNat)))] [] (fnS (F103 K a0)) (fun r => .c (.val (.bool r))) (fun r => []) := by
 refine DFun.it Tryz.f103 (fun r => ⟨[sB 2 r], [], [], 0⟩) ?_
 unfold F103
 refine Ref.sq ?_
 refine Ref.rn 0 ?_
 refine RefR.e0 (st' := ⟨[(0, .c (.val (.int .u8 (Int.ofNat a0.toNat))))], [], [], 0⟩) 0 1 1 [0] [] ?_
 refine RefR.nl 1 ?_
 refine Ref.sq ?_
 refine Ref.rn 1 ?_
 refine RefR.e0 (st' := ⟨[sB 2 ((decide (((Int.ofNat a0.toNat) : Int) ≥ 48)) && (decide (((Int.ofNat a0.toNat) : Int) ≤ 57)))], [], [], 0⟩) 0 7 7 [2] [] ?_
 refine RefR.letC (stf := fun x1 => ⟨[sB 2 x1], [], [], 0⟩) (by kernel_rfl) (fun x1 => ?_)
 refine RefR.nl 7 ?_
 exact Ref.rt (t := (x1))
def F100 (K : Nat) (a0 : UInt8) : Option ((Bool) ⊕ (Bool)) :=
 (letV (((decide (((Int.ofNat a0.toNat) : Int) ≥ 65)) && (decide (((Int.ofNat a0.toNat) : Int) ≤ 90))) || ((decide (((Int.ofNat a0.toNat) : Int) ≥ 97)) && (decide (((Int.ofNat a0.toNat) : Int) ≤ 122)))) (fun (x1 : Bool) => (some (.inl (x1)))))
theorem F100_ok (K : Nat) (a0 : UInt8) : DFun Tryz.prog 100 [.c (.val (.int .u8 (Int.ofNat a0.toNat)))] [] (fnS (F100 K a0)) (fun r => .c (.val (.bool r))) (fun r => []) := by
 refine DFun.it Tryz.f100 (fun r => ⟨[sB 2 r], [], [], 0⟩) ?_
 unfold F100
 refine Ref.sq ?_
 refine Ref.rn 0 ?_
 refine RefR.e0 (st' := ⟨[(0, .c (.val (.int .u8 (Int.ofNat a0.toNat))))], [], [], 0⟩) 0 1 1 [0] [] ?_
 refine RefR.nl 1 ?_
 refine Ref.sq ?_
 refine Ref.rn 1 ?_
 refine RefR.e0 (st' := ⟨[sB 2 (((decide (((Int.ofNat a0.toNat) : Int) ≥ 65)) && (decide (((Int.ofNat a0.toNat) : Int) ≤ 90))) || ((decide (((Int.ofNat a0.toNat) : Int) ≥ 97)) && (decide (((Int.ofNat a0.toNat) : Int) ≤ 122))))], [], [], 0⟩) 0 15 15 [2] [] ?_
 refine RefR.letC (stf := fun x1 => ⟨[sB 2 x1], [], [], 0⟩) (by kernel_rfl) (fun x1 => ?_)
 refine RefR.nl 15 ?_
 exact Ref.rt (t := (x1))
def F101 (K : Nat) (a0 : UInt8) : Option ((Bool) ⊕ (Bool)) :=
 ((fnS (F100 K a0)).bind (fun r1 => ((condM (!r1) (fnS (F103 K a0)) default).bind (fun r2 => (letV ((r1 || r2) || (((Int.ofNat a0.toNat) : Int) == 95)) (fun (x3 : Bool) => (some (.inl (x3)))))))))
theorem F101_ok (K : Nat) (a0 : UInt8) : DFun Tryz.prog 101 [.c (.val (.int .u8 (Int.ofNat a0.toNat)))] [] (fnS (F101 K a0)) (fun r => .c (.val (.bool r))) (fun r => []) := by
 refine DFun.it Tryz.f101 (fun r => ⟨[sB 2 r], [], [], 0⟩) ?_
 unfold F101
 refine Ref.sq ?_
 refine Ref.rn 0 ?_
 refine RefR.e0 (st' := ⟨[(0, .c (.val (.int .u8 (Int.ofNat a0.toNat))))], [], [], 0⟩) 0 1 1 [0] [] ?_
 refine RefR.nl 1 ?_
 refine Ref.sq ?_
 refine Ref.rn 1 ?_
 refine RefR.e1 0 1 1 [0, 3] [] ?_
 refine RefR.cc 4 1 2 [] (F100_ok K a0) (fun r1 => ?_)
 refine RefR.e1 2 2 4 [0, 5, 6] [] ?_
 refine RefR.lookC (t := 7) (g := [(5, false)]) (b := (!r1)) 4 5 [] (default : Bool) rfl (by kernel_rfl) (F103_ok K a0) (fun _ => rfl) (fun r2 => ?_)
 refine RefR.e0 (st' := ⟨[sB 2 ((r1 || r2) || (((Int.ofNat a0.toNat) : Int) == 95))], [], [], 0⟩) 5 6 11 [2] [] ?_
 refine RefR.letC (stf := fun x3 => ⟨[sB 2 x3], [], [], 0⟩) (by kernel_rfl) (fun x3 => ?_)
 refine RefR.nl 11 ?_
 exact Ref.rt (t := (x3))
def F116 (K : Nat) (a0 : Bytes) : Option ((Bool) ⊕ (Bool)) :=
 (bindS (blockS ((iter K (fun (u20 : Int) => (letV (decide ((u20 : Int) < (Int.ofNat a0.length))) (fun (x26 : Bool) => (if x26 = true then (bindS (blockS (chk [inb u20 a0.length] ((fnS (F101 K (a0.getD (u20 : Int).toNat 0))).bind (fun r29 => (if (!r29) = true then (some (.inl (Sum.inr (Sum.inr (false))))) else (some (.inr ()))))))) (fun (u28 : Unit) => (some (.inr ((IntKind.i64.wrap (u20 + 1))))))) else (some (.inl (Sum.inl ()))))))) (0)).map .inl)) (fun (u15 : Unit) => (some (.inl (true)))))
theorem F116_ok (K : Nat) (a0 : Bytes) : DFun Tryz.prog 116 [.c (.str a0)] [] (fnS (F116 K a0)) (fun r => .c (.val (.bool r))) (fun r => []) := by
 refine DFun.it Tryz.f116 (fun r => ⟨[sB 2 r], [], [], 0⟩) ?_
 unfold F116
 refine Ref.sq ?_
 refine Ref.rn 0 ?_
 refine RefR.e0 (st' := ⟨[sS 0 a0], [], [], 0⟩) 0 1 1 [0] [] ?_
 refine RefR.nl 1 ?_
 refine Ref.sq ?_
 refine Ref.sq ?_
 refine Ref.rn 1 ?_
 refine RefR.e0 (st' := ⟨[sS 0 a0, sI 3 0], [], [], 0⟩) 0 1 1 [0, 3] [] ?_
 refine RefR.nl 1 ?_
 refine Ref.ce (.block 0 (cd (bd Tryz.f116) [1, 0, 1, 0])) ?_
 refine Ref.block (go1 := fun u15 => ⟨[], [], [], 0⟩) ?_ (fun _ h => by cases h) (fun u15 => ?_)
 ·
  refine Ref.ce (.loop (cd (bd Tryz.f116) [1, 0, 1, 0, 0])) ?_
  refine Ref.loop (hd := fun u20 => ⟨[sS 0 a0, sI 3 u20], [], [], 0⟩) K (0) (by kernel_rfl) (fun u20 => ?_)
  refine Ref.sq ?_
  refine Ref.sq ?_
  refine Ref.rn 2 ?_
  refine RefR.e0 (st' := ⟨[sS 0 a0, sI 3 u20, sB 7 (decide ((u20 : Int) < (Int.ofNat a0.length)))], [], [], 0⟩) 0 4 4 [0, 3, 7] [] ?_
  refine RefR.letC (stf := fun x26 => ⟨[sS 0 a0, sI 3 u20, sB 7 x26], [], [], 0⟩) (by kernel_rfl) (fun x26 => ?_)
  refine RefR.nl 4 ?_
  refine Ref.cn (.tmp 7) x26 (fun hc => ?_) (fun hc => ?_)
  ·
   refine Ref.sk ?_
   refine Ref.sq ?_
   refine Ref.ce (.block 1 (cd (bd Tryz.f116) [1, 0, 1, 0, 0, 1, 0, 0])) ?_
   refine Ref.block (go1 := fun u28 => ⟨[sS 0 a0, sI 3 u20], [], [], 0⟩) ?_ (fun a => match a with | .inl _ => (fun h => by cases h) | .inr _ => (fun h => by cases h)) (fun u28 => ?_)
   ·
    refine Ref.sq ?_
    refine Ref.rn 4 ?_
    refine RefR.evC (vs := [inb u20 a0.length]) (st' := ⟨[sS 0 a0, sI 3 u20, (12, .c (.val (.int .u8 (Int.ofNat (a0.getD (u20 : Int).toNat 0).toNat))))], [], [], 0⟩) 0 3 3 [0, 3, 12] [] rfl (by kernel_rfl) ?_
    refine RefR.cc 13 3 4 [] (F101_ok K (a0.getD (u20 : Int).toNat 0)) (fun r29 => ?_)
    refine RefR.e0 (st' := ⟨[sS 0 a0, sI 3 u20, sB 14 (!r29)], [], [], 0⟩) 4 1 5 [0, 3, 14] [] ?_
    refine RefR.nl 5 ?_
    refine Ref.cn (.tmp 14) (!r29) (fun hc => ?_) (fun hc => ?_)
    ·
     refine Ref.sq ?_
     refine Ref.rn 5 ?_
     refine RefR.e0 (st' := ⟨[sB 2 false], [], [], 0⟩) 0 1 1 [2] [] ?_
     refine RefR.nl 1 ?_
     exact Ref.rt (t := (Sum.inr (Sum.inr (false))))
    ·
     refine Ref.sk ?_
     refine Ref.ck ⟨[sS 0 a0, sI 3 u20], [], [], 0⟩ [0, 3] [] ?_
     exact Ref.n0 (t := ())
   ·
    refine Ref.rn 3 ?_
    refine RefR.e0 (st' := ⟨[sS 0 a0, sI 3 (IntKind.i64.wrap (u20 + 1))], [], [], 0⟩) 0 3 3 [0, 3] [] ?_
    refine RefR.nl 3 ?_
    exact Ref.n0 (t := ((IntKind.i64.wrap (u20 + 1))))
  ·
   refine Ref.ck ⟨[], [], [], 0⟩ [] [] ?_
   exact Ref.xt 0 (t := (Sum.inl ()))
 ·
  refine Ref.sq ?_
  refine Ref.rn 6 ?_
  refine RefR.e0 (st' := ⟨[sB 2 true], [], [], 0⟩) 0 1 1 [2] [] ?_
  refine RefR.nl 1 ?_
  exact Ref.rt (t := (true))
def F102 (K : Nat) (a0 : Bytes) : Option ((Bool) ⊕ (Bool)) :=
 ((condM (!(a0 == ([] : Bytes))) (fnS (F116 K a0)) default).bind (fun r1 => (if ((a0 == ([] : Bytes)) || (!r1)) = true then (some (.inl (false))) else (chk [room (([32] : Bytes).length + a0.length), room ((([32] : Bytes) ++ a0).length + ([32] : Bytes).length)] (bindS (blockS ((iter K (fun (u23 : Int) => (letV (decide (((IntKind.i64.wrap (u23 + (Int.ofNat ((([32] : Bytes) ++ a0) ++ ([32] : Bytes)).length))) : Int) ≤ 386)) (fun (x29 : Bool) => (if x29 = true then (bindS (blockS (chk [bndOk ([32, 73, 78, 84, 69, 82, 70, 65, 67, 69, 32, 69, 78, 68, 95, 73, 78, 84, 69, 82, 70, 65, 67, 69, 32, 67, 76, 65, 83, 83, 32, 69, 78, 68, 95, 67, 76, 65, 83, 83, 32, 80, 82, 79, 71, 82, 65, 77, 32, 69, 78, 68, 95, 80, 82, 79, 71, 82, 65, 77, 32, 77, 69, 84, 72, 79, 68, 32, 69, 78, 68, 95, 77, 69, 84, 72, 79, 68, 32, 84, 65, 83, 75, 32, 73, 78, 84, 69, 82, 86, 65, 76, 32, 80, 82, 73, 79, 82, 73, 84, 89, 32, 69, 88, 84, 69, 78, 68, 83, 32, 73, 77, 80, 76, 69, 77, 69, 78, 84, 83, 32, 65, 66, 83, 84, 82, 65, 67, 84, 32, 70, 73, 78, 65, 76, 32, 79, 86, 69, 82, 82, 73, 68, 69, 32, 86, 65, 82, 32, 65, 84, 32, 73, 78, 32, 79, 85, 84, 32, 73, 78, 84, 32, 66, 79, 79, 76, 32, 82, 69, 65, 76, 32, 76, 82, 69, 65, 76, 32, 65, 82, 82, 65, 89, 32, 79, 70, 32, 82, 69, 70, 95, 84, 79, 32, 82, 69, 70, 32, 84, 79, 78, 32, 84, 79, 70, 32, 84, 80, 32, 67, 84, 85, 32, 67, 84, 68, 32, 82, 95, 84, 82, 73, 71, 32, 70, 95, 84, 82, 73, 71, 32, 84, 82, 85, 69, 32, 70, 65, 76, 83, 69, 32, 78, 85, 76, 76, 32, 84, 72, 73, 83, 32, 83, 85, 80, 69, 82, 32, 65, 83, 32, 78, 79, 84, 32, 65, 78, 68, 32, 79, 82, 32, 88, 79, 82, 32, 77, 79, 68, 32, 73, 70, 32, 84, 72, 69, 78, 32, 69, 76, 83, 73, 70, 32, 69, 76, 83, 69, 32, 69, 78, 68, 95, 73, 70, 32, 67, 65, 83, 69, 32, 69, 78, 68, 95, 67, 65, 83, 69, 32, 87, 72, 73, 76, 69, 32, 68, 79, 32, 69, 78, 68, 95, 87, 72, 73, 76, 69, 32, 70, 79, 82, 32, 84, 79, 32, 66, 89, 32, 69, 78, 68, 95, 70, 79, 82, 32, 82, 69, 84, 85, 82, 78, 32, 69, 88, 73, 84, 32, 83, 84, 69, 80, 32, 68, 79, 78, 69, 32, 67, 79, 85, 78, 84, 32] : Bytes).length u23 (IntKind.i64.wrap (u23 + (Int.ofNat ((([32] : Bytes) ++ a0) ++ ([32] : Bytes)).length)))] (letV (((([32, 73, 78, 84, 69, 82, 70, 65, 67, 69, 32, 69, 78, 68, 95, 73, 78, 84, 69, 82, 70, 65, 67, 69, 32, 67, 76, 65, 83, 83, 32, 69, 78, 68, 95, 67, 76, 65, 83, 83, 32, 80, 82, 79, 71, 82, 65, 77, 32, 69, 78, 68, 95, 80, 82, 79, 71, 82, 65, 77, 32, 77, 69, 84, 72, 79, 68, 32, 69, 78, 68, 95, 77, 69, 84, 72, 79, 68, 32, 84, 65, 83, 75, 32, 73, 78, 84, 69, 82, 86, 65, 76, 32, 80, 82, 73, 79, 82, 73, 84, 89, 32, 69, 88, 84, 69, 78, 68, 83, 32, 73, 77, 80, 76, 69, 77, 69, 78, 84, 83, 32, 65, 66, 83, 84, 82, 65, 67, 84, 32, 70, 73, 78, 65, 76, 32, 79, 86, 69, 82, 82, 73, 68, 69, 32, 86, 65, 82, 32, 65, 84, 32, 73, 78, 32, 79, 85, 84, 32, 73, 78, 84, 32, 66, 79, 79, 76, 32, 82, 69, 65, 76, 32, 76, 82, 69, 65, 76, 32, 65, 82, 82, 65, 89, 32, 79, 70, 32, 82, 69, 70, 95, 84, 79, 32, 82, 69, 70, 32, 84, 79, 78, 32, 84, 79, 70, 32, 84, 80, 32, 67, 84, 85, 32, 67, 84, 68, 32, 82, 95, 84, 82, 73, 71, 32, 70, 95, 84, 82, 73, 71, 32, 84, 82, 85, 69, 32, 70, 65, 76, 83, 69, 32, 78, 85, 76, 76, 32, 84, 72, 73, 83, 32, 83, 85, 80, 69, 82, 32, 65, 83, 32, 78, 79, 84, 32, 65, 78, 68, 32, 79, 82, 32, 88, 79, 82, 32, 77, 79, 68, 32, 73, 70, 32, 84, 72, 69, 78, 32, 69, 76, 83, 73, 70, 32, 69, 76, 83, 69, 32, 69, 78, 68, 95, 73, 70, 32, 67, 65, 83, 69, 32, 69, 78, 68, 95, 67, 65, 83, 69, 32, 87, 72, 73, 76, 69, 32, 68, 79, 32, 69, 78, 68, 95, 87, 72, 73, 76, 69, 32, 70, 79, 82, 32, 84, 79, 32, 66, 89, 32, 69, 78, 68, 95, 70, 79, 82, 32, 82, 69, 84, 85, 82, 78, 32, 69, 88, 73, 84, 32, 83, 84, 69, 80, 32, 68, 79, 78, 69, 32, 67, 79, 85, 78, 84, 32] : Bytes).drop (u23 : Int).toNat).take (((IntKind.i64.wrap (u23 + (Int.ofNat ((([32] : Bytes) ++ a0) ++ ([32] : Bytes)).length))) : Int).toNat - (u23 : Int).toNat)) == ((([32] : Bytes) ++ a0) ++ ([32] : Bytes))) (fun (x32 : Bool) => (if x32 = true then (some (.inl (Sum.inr (Sum.inr (true))))) else (some (.inr ()))))))) (fun (u31 : Unit) => (some (.inr ((IntKind.i64.wrap (u23 + 1))))))) else (some (.inl (Sum.inl ()))))))) (0)).map .inl)) (fun (u17 : Unit) => (some (.inl (false)))))))))
theorem F102_ok (K : Nat) (a0 : Bytes) : DFun Tryz.prog 102 [.c (.str a0)] [] (fnS (F102 K a0)) (fun r => .c (.val (.bool r))) (fun r => []) := by
 refine DFun.it Tryz.f102 (fun r => ⟨[sB 2 r], [], [], 0⟩) ?_
 unfold F102
 refine Ref.sq ?_
 refine Ref.rn 0 ?_
 refine RefR.e0 (st' := ⟨[sS 0 a0], [], [], 0⟩) 0 1 1 [0] [] ?_
 refine RefR.nl 1 ?_
 refine Ref.sq ?_
 refine Ref.sq ?_
 refine Ref.rn 1 ?_
 refine RefR.e1 0 4 4 [0, 7, 8] [] ?_
 refine RefR.lookC (t := 9) (g := [(7, false)]) (b := (!(a0 == ([] : Bytes)))) 4 5 [] (default : Bool) rfl (by kernel_rfl) (F116_ok K a0) (fun _ => rfl) (fun r1 => ?_)
 refine RefR.e0 (st' := ⟨[sS 0 a0, sB 11 ((a0 == ([] : Bytes)) || (!r1))], [], [], 0⟩) 5 2 7 [0, 11] [] ?_
 refine RefR.nl 7 ?_
 refine Ref.cn (.tmp 11) ((a0 == ([] : Bytes)) || (!r1)) (fun hc => ?_) (fun hc => ?_)
 ·
  refine Ref.sq ?_
  refine Ref.rn 2 ?_
  refine RefR.e0 (st' := ⟨[sB 2 false], [], [], 0⟩) 0 1 1 [2] [] ?_
  refine RefR.nl 1 ?_
  exact Ref.rt (t := (false))
 ·
  refine Ref.sk ?_
  refine Ref.sq ?_
  refine Ref.rn 3 ?_
  refine RefR.evC (vs := [room (w_32.length + a0.length), room ((w_32 ++ a0).length + w_32.length)]) (st' := ⟨[sS 3 ((w_32 ++ a0) ++ w_32)], [], [], 0⟩) 0 4 4 [3] [] rfl (by kernel_rfl) ?_
  refine RefR.nl 4 ?_
  refine Ref.sq ?_
  refine Ref.sq ?_
  refine Ref.rn 4 ?_
  refine RefR.e0 (st' := ⟨[sS 3 ((w_32 ++ a0) ++ w_32), sI 4 0], [], [], 0⟩) 0 1 1 [3, 4] [] ?_
  refine RefR.nl 1 ?_
  refine Ref.ce (.block 0 (cd (bd Tryz.f102) [1, 1, 1, 0, 1, 0])) ?_
  refine Ref.block (go1 := fun u17 => ⟨[], [], [], 0⟩) ?_ (fun _ h => by cases h) (fun u17 => ?_)
  ·
   refine Ref.ce (.loop (cd (bd Tryz.f102) [1, 1, 1, 0, 1, 0, 0])) ?_
   refine Ref.loop (hd := fun u23 => ⟨[sS 3 ((w_32 ++ a0) ++ w_32), sI 4 u23], [], [], 0⟩) K (0) (by kernel_rfl) (fun u23 => ?_)
   refine Ref.sq ?_
   refine Ref.sq ?_
   refine Ref.rn 5 ?_
   refine RefR.e0 (st' := ⟨[sS 3 ((w_32 ++ a0) ++ w_32), sI 4 u23, sB 19 (decide (((IntKind.i64.wrap (u23 + (Int.ofNat ((w_32 ++ a0) ++ w_32).length))) : Int) ≤ 386))], [], [], 0⟩) 0 5 5 [3, 4, 19] [] ?_
   refine RefR.letC (stf := fun x29 => ⟨[sS 3 ((w_32 ++ a0) ++ w_32), sI 4 u23, sB 19 x29], [], [], 0⟩) (by kernel_rfl) (fun x29 => ?_)
   refine RefR.nl 5 ?_
   refine Ref.cn (.tmp 19) x29 (fun hc => ?_) (fun hc => ?_)
   ·
    refine Ref.sk ?_
    refine Ref.sq ?_
    refine Ref.ce (.block 1 (cd (bd Tryz.f102) [1, 1, 1, 0, 1, 0, 0, 1, 0, 0])) ?_
    refine Ref.block (go1 := fun u31 => ⟨[sS 3 ((w_32 ++ a0) ++ w_32), sI 4 u23], [], [], 0⟩) ?_ (fun a => match a with | .inl _ => (fun h => by cases h) | .inr _ => (fun h => by cases h)) (fun u31 => ?_)
    ·
     refine Ref.sq ?_
     refine Ref.rn 7 ?_
     refine RefR.evC (vs := [bndOk ([32, 73, 78, 84, 69, 82, 70, 65, 67, 69, 32, 69, 78, 68, 95, 73, 78, 84, 69, 82, 70, 65, 67, 69, 32, 67, 76, 65, 83, 83, 32, 69, 78, 68, 95, 67, 76, 65, 83, 83, 32, 80, 82, 79, 71, 82, 65, 77, 32, 69, 78, 68, 95, 80, 82, 79, 71, 82, 65, 77, 32, 77, 69, 84, 72, 79, 68, 32, 69, 78, 68, 95, 77, 69, 84, 72, 79, 68, 32, 84, 65, 83, 75, 32, 73, 78, 84, 69, 82, 86, 65, 76, 32, 80, 82, 73, 79, 82, 73, 84, 89, 32, 69, 88, 84, 69, 78, 68, 83, 32, 73, 77, 80, 76, 69, 77, 69, 78, 84, 83, 32, 65, 66, 83, 84, 82, 65, 67, 84, 32, 70, 73, 78, 65, 76, 32, 79, 86, 69, 82, 82, 73, 68, 69, 32, 86, 65, 82, 32, 65, 84, 32, 73, 78, 32, 79, 85, 84, 32, 73, 78, 84, 32, 66, 79, 79, 76, 32, 82, 69, 65, 76, 32, 76, 82, 69, 65, 76, 32, 65, 82, 82, 65, 89, 32, 79, 70, 32, 82, 69, 70, 95, 84, 79, 32, 82, 69, 70, 32, 84, 79, 78, 32, 84, 79, 70, 32, 84, 80, 32, 67, 84, 85, 32, 67, 84, 68, 32, 82, 95, 84, 82, 73, 71, 32, 70, 95, 84, 82, 73, 71, 32, 84, 82, 85, 69, 32, 70, 65, 76, 83, 69, 32, 78, 85, 76, 76, 32, 84, 72, 73, 83, 32, 83, 85, 80, 69, 82, 32, 65, 83, 32, 78, 79, 84, 32, 65, 78, 68, 32, 79, 82, 32, 88, 79, 82, 32, 77, 79, 68, 32, 73, 70, 32, 84, 72, 69, 78, 32, 69, 76, 83, 73, 70, 32, 69, 76, 83, 69, 32, 69, 78, 68, 95, 73, 70, 32, 67, 65, 83, 69, 32, 69, 78, 68, 95, 67, 65, 83, 69, 32, 87, 72, 73, 76, 69, 32, 68, 79, 32, 69, 78, 68, 95, 87, 72, 73, 76, 69, 32, 70, 79, 82, 32, 84, 79, 32, 66, 89, 32, 69, 78, 68, 95, 70, 79, 82, 32, 82, 69, 84, 85, 82, 78, 32, 69, 88, 73, 84, 32, 83, 84, 69, 80, 32, 68, 79, 78, 69, 32, 67, 79, 85, 78, 84, 32] : Bytes).length u23 (IntKind.i64.wrap (u23 + (Int.ofNat ((w_32 ++ a0) ++ w_32).length)))]) (st' := ⟨[sS 3 ((w_32 ++ a0) ++ w_32), sI 4 u23, sB 29 (((([32, 73, 78, 84, 69, 82, 70, 65, 67, 69, 32, 69, 78, 68, 95, 73, 78, 84, 69, 82, 70, 65, 67, 69, 32, 67, 76, 65, 83, 83, 32, 69, 78, 68, 95, 67, 76, 65, 83, 83, 32, 80, 82, 79, 71, 82, 65, 77, 32, 69, 78, 68, 95, 80, 82, 79, 71, 82, 65, 77, 32, 77, 69, 84, 72, 79, 68, 32, 69, 78, 68, 95, 77, 69, 84, 72, 79, 68, 32, 84, 65, 83, 75, 32, 73, 78, 84, 69, 82, 86, 65, 76, 32, 80, 82, 73, 79, 82, 73, 84, 89, 32, 69, 88, 84, 69, 78, 68, 83, 32, 73, 77, 80, 76, 69, 77, 69, 78, 84, 83, 32, 65, 66, 83, 84, 82, 65, 67, 84, 32, 70, 73, 78, 65, 76, 32, 79, 86, 69, 82, 82, 73, 68, 69, 32, 86, 65, 82, 32, 65, 84, 32, 73, 78, 32, 79, 85, 84, 32, 73, 78, 84, 32, 66, 79, 79, 76, 32, 82, 69, 65, 76, 32, 76, 82, 69, 65, 76, 32, 65, 82, 82, 65, 89, 32, 79, 70, 32, 82, 69, 70, 95, 84, 79, 32, 82, 69, 70, 32, 84, 79, 78, 32, 84, 79, 70, 32, 84, 80, 32, 67, 84, 85, 32, 67, 84, 68, 32, 82, 95, 84, 82, 73, 71, 32, 70, 95, 84, 82, 73, 71, 32, 84, 82, 85, 69, 32, 70, 65, 76, 83, 69, 32, 78, 85, 76, 76, 32, 84, 72, 73, 83, 32, 83, 85, 80, 69, 82, 32, 65, 83, 32, 78, 79, 84, 32, 65, 78, 68, 32, 79, 82, 32, 88, 79, 82, 32, 77, 79, 68, 32, 73, 70, 32, 84, 72, 69, 78, 32, 69, 76, 83, 73, 70, 32, 69, 76, 83, 69, 32, 69, 78, 68, 95, 73, 70, 32, 67, 65, 83, 69, 32, 69, 78, 68, 95, 67, 65, 83, 69, 32, 87, 72, 73, 76, 69, 32, 68, 79, 32, 69, 78, 68, 95, 87, 72, 73, 76, 69, 32, 70, 79, 82, 32, 84, 79, 32, 66, 89, 32, 69, 78, 68, 95, 70, 79, 82, 32, 82, 69, 84, 85, 82, 78, 32, 69, 88, 73, 84, 32, 83, 84, 69, 80, 32, 68, 79, 78, 69, 32, 67, 79, 85, 78, 84, 32] : Bytes).drop (u23 : Int).toNat).take (((IntKind.i64.wrap (u23 + (Int.ofNat ((w_32 ++ a0) ++ w_32).length))) : Int).toNat - (u23 : Int).toNat)) == ((w_32 ++ a0) ++ w_32))], [], [], 0⟩) 0 8 8 [3, 4, 29] [] rfl (by kernel_rfl) ?_
     refine RefR.letC (stf := fun x32 => ⟨[sS 3 ((w_32 ++ a0) ++ w_32), sI 4 u23, sB 29 x32], [], [], 0⟩) (by kernel_rfl) (fun x32 => ?_)
     refine RefR.nl 8 ?_
     refine Ref.cn (.tmp 29) x32 (fun hc => ?_) (fun hc => ?_)
     ·
      refine Ref.sq ?_
      refine Ref.rn 8 ?_
      refine RefR.e0 (st' := ⟨[sB 2 true], [], [], 0⟩) 0 1 1 [2] [] ?_
      refine RefR.nl 1 ?_
      exact Ref.rt (t := (Sum.inr (Sum.inr (true))))
     ·
      refine Ref.sk ?_
      refine Ref.ck ⟨[sS 3 ((w_32 ++ a0) ++ w_32), sI 4 u23], [], [], 0⟩ [3, 4] [] ?_
      exact Ref.n0 (t := ())
    ·
     refine Ref.rn 6 ?_
     refine RefR.e0 (st' := ⟨[sS 3 ((w_32 ++ a0) ++ w_32), sI 4 (IntKind.i64.wrap (u23 + 1))], [], [], 0⟩) 0 3 3 [3, 4] [] ?_
     refine RefR.nl 3 ?_
     exact Ref.n0 (t := ((IntKind.i64.wrap (u23 + 1))))
   ·
    refine Ref.ck ⟨[], [], [], 0⟩ [] [] ?_
    exact Ref.xt 0 (t := (Sum.inl ()))
  ·
   refine Ref.sq ?_
   refine Ref.rn 9 ?_
   refine RefR.e0 (st' := ⟨[sB 2 false], [], [], 0⟩) 0 1 1 [2] [] ?_
   refine RefR.nl 1 ?_
   exact Ref.rt (t := (false))
def F104 (K : Nat) (a0 : Bytes) (a1 : Int) : Option ((Int) ⊕ (Int)) :=
 (chk [!(decide (((IntKind.i64.wrap (a1 + 1)) : Int) < (Int.ofNat a0.length))) || bndOk a0.length a1 (IntKind.i64.wrap (a1 + 2)), !(decide (((IntKind.i64.wrap (a1 + 1)) : Int) < (Int.ofNat a0.length))) || room (([32] : Bytes).length + ((a0.drop (a1 : Int).toNat).take (((IntKind.i64.wrap (a1 + 2)) : Int).toNat - (a1 : Int).toNat)).length), !(decide (((IntKind.i64.wrap (a1 + 1)) : Int) < (Int.ofNat a0.length))) || room ((([32] : Bytes) ++ ((a0.drop (a1 : Int).toNat).take (((IntKind.i64.wrap (a1 + 2)) : Int).toNat - (a1 : Int).toNat))).length + ([32] : Bytes).length)] (letV (decide (((IntKind.i64.wrap (a1 + 1)) : Int) < (Int.ofNat a0.length))) (fun (x1 : Bool) => ((condM x1 (fnS (F117 K ([32, 58, 61, 32, 63, 61, 32, 46, 46, 32, 60, 62, 32, 60, 61, 32, 62, 61, 32] : Bytes) ((([32] : Bytes) ++ ((a0.drop (a1 : Int).toNat).take (((IntKind.i64.wrap (a1 + 2)) : Int).toNat - (a1 : Int).toNat))) ++ ([32] : Bytes)))) default).bind (fun r2 => (if (x1 && r2) = true then (some (.inl (2))) else (chk [bndOk a0.length a1 (IntKind.i64.wrap (a1 + 1))] (letV ((a0.drop (a1 : Int).toNat).take (((IntKind.i64.wrap (a1 + 1)) : Int).toNat - (a1 : Int).toNat)) (fun (x3 : Bytes) => ((fnS (F117 K ([43, 45, 42, 47, 61, 60, 62, 40, 41, 91, 93, 44, 59, 58, 46] : Bytes) x3)).bind (fun r4 => (if r4 = true then (some (.inl (1))) else (some (.inl (0)))))))))))))))
theorem F104_ok (K : Nat) (a0 : Bytes) (a1 : Int) : DFun Tryz.prog 104 [.c (.str a0), .c (.val (.int .i64 a1))] [] (fnS (F104 K a0 a1)) (fun r => .c (.val (.int .i64 r))) (fun r => []) := by
 refine DFun.it Tryz.f104 (fun r => ⟨[sI 4 r], [], [], 0⟩) ?_
 unfold F104
 refine Ref.sq ?_
 refine Ref.rn 0 ?_
 refine RefR.e0 (st' := ⟨[sS 0 a0, sI 1 a1], [], [], 0⟩) 0 1 1 [0, 1] [] ?_
 refine RefR.nl 1 ?_
 refine Ref.sq ?_
 refine Ref.sq ?_
 refine Ref.rn 1 ?_
 refine RefR.evC (vs := [!(decide (((IntKind.i64.wrap (a1 + 1)) : Int) < (Int.ofNat a0.length))) || bndOk a0.length a1 (IntKind.i64.wrap (a1 + 2)), !(decide (((IntKind.i64.wrap (a1 + 1)) : Int) < (Int.ofNat a0.length))) || room (w_32.length + ((a0.drop (a1 : Int).toNat).take (((IntKind.i64.wrap (a1 + 2)) : Int).toNat - (a1 : Int).toNat)).length), !(decide (((IntKind.i64.wrap (a1 + 1)) : Int) < (Int.ofNat a0.length))) || room ((w_32 ++ ((a0.drop (a1 : Int).toNat).take (((IntKind.i64.wrap (a1 + 2)) : Int).toNat - (a1 : Int).toNat))).length + w_32.length)]) (st' := ⟨[sS 0 a0, sI 1 a1, sB 10 (decide (((IntKind.i64.wrap (a1 + 1)) : Int) < (Int.ofNat a0.length))), sS 17 ((w_32 ++ ((a0.drop (a1 : Int).toNat).take (((IntKind.i64.wrap (a1 + 2)) : Int).toNat - (a1 : Int).toNat))) ++ w_32)], [], [(17, [(10, true)])], 0⟩) 0 13 13 [0, 1, 10, 17] [] rfl (by kernel_rfl) ?_
 refine RefR.letC (stf := fun x1 => ⟨[sS 0 a0, sI 1 a1, sB 10 x1, sS 17 ((w_32 ++ ((a0.drop (a1 : Int).toNat).take (((IntKind.i64.wrap (a1 + 2)) : Int).toNat - (a1 : Int).toNat))) ++ w_32)], [], [(17, [(10, true)])], 0⟩) (by kernel_rfl) (fun x1 => ?_)
 refine RefR.lookC (t := 18) (g := [(10, true)]) (b := x1) 13 14 [] (default : Bool) rfl (by kernel_rfl) (F117_ok K ([32, 58, 61, 32, 63, 61, 32, 46, 46, 32, 60, 62, 32, 60, 61, 32, 62, 61, 32] : Bytes) ((w_32 ++ ((a0.drop (a1 : Int).toNat).take (((IntKind.i64.wrap (a1 + 2)) : Int).toNat - (a1 : Int).toNat))) ++ w_32)) (fun _ => rfl) (fun r2 => ?_)
 refine RefR.e0 (st' := ⟨[sS 0 a0, sI 1 a1, sB 19 (x1 && r2)], [], [], 0⟩) 14 1 15 [0, 1, 19] [] ?_
 refine RefR.nl 15 ?_
 refine Ref.cn (.tmp 19) (x1 && r2) (fun hc => ?_) (fun hc => ?_)
 ·
  refine Ref.sq ?_
  refine Ref.rn 2 ?_
  refine RefR.e0 (st' := ⟨[sI 4 2], [], [], 0⟩) 0 1 1 [4] [] ?_
  refine RefR.nl 1 ?_
  exact Ref.rt (t := (2))
 ·
  refine Ref.sk ?_
  refine Ref.sq ?_
  refine Ref.sq ?_
  refine Ref.rn 3 ?_
  refine RefR.evC (vs := [bndOk a0.length a1 (IntKind.i64.wrap (a1 + 1))]) (st' := ⟨[sS 24 ((a0.drop (a1 : Int).toNat).take (((IntKind.i64.wrap (a1 + 1)) : Int).toNat - (a1 : Int).toNat))], [], [], 0⟩) 0 5 5 [24] [] rfl (by kernel_rfl) ?_
  refine RefR.letC (stf := fun x3 => ⟨[sS 24 x3], [], [], 0⟩) (by kernel_rfl) (fun x3 => ?_)
  refine RefR.cc 25 5 6 [] (F117_ok K ([43, 45, 42, 47, 61, 60, 62, 40, 41, 91, 93, 44, 59, 58, 46] : Bytes) x3) (fun r4 => ?_)
  refine RefR.nl 6 ?_
  refine Ref.cn (.tmp 25) r4 (fun hc => ?_) (fun hc => ?_)
  ·
   refine Ref.sq ?_
   refine Ref.rn 4 ?_
   refine RefR.e0 (st' := ⟨[sI 4 1], [], [], 0⟩) 0 1 1 [4] [] ?_
   refine RefR.nl 1 ?_
   exact Ref.rt (t := (1))
  ·
   refine Ref.sk ?_
   refine Ref.sq ?_
   refine Ref.rn 5 ?_
   refine RefR.e0 (st' := ⟨[sI 4 0], [], [], 0⟩) 0 1 1 [4] [] ?_
   refine RefR.nl 1 ?_
   exact Ref.rt (t := (0))
def F76 (K : Nat) (a0 : Bytes) (a1 : Int) : Option ((Int) ⊕ (Int)) :=
 (bindS (blockS ((iter K (fun (u28 : Int) => (letV (decide (((IntKind.i64.wrap (u28 + 1)) : Int) < (Int.ofNat a0.length))) (fun (x34 : Bool) => (if x34 = true then (bindS (blockS (chk [inb u28 a0.length, !(((Int.ofNat (a0.getD (u28 : Int).toNat 0).toNat) : Int) == 42) || inb (IntKind.i64.wrap (u28 + 1)) a0.length] (letV ((((Int.ofNat (a0.getD (u28 : Int).toNat 0).toNat) : Int) == 42) && (((Int.ofNat (a0.getD ((IntKind.i64.wrap (u28 + 1)) : Int).toNat 0).toNat) : Int) == 41)) (fun (x37 : Bool) => (if x37 = true then (some (.inl (Sum.inr (Sum.inr ((IntKind.i64.wrap (u28 + 2))))))) else (some (.inr ()))))))) (fun (u36 : Unit) => (some (.inr ((IntKind.i64.wrap (u28 + 1))))))) else (some (.inl (Sum.inl ()))))))) ((IntKind.i64.wrap (a1 + 2)))).map .inl)) (fun (u19 : Unit) => (some (.inl ((-1))))))
theorem F76_ok (K : Nat) (a0 : Bytes) (a1 : Int) : DFun Tryz.prog 76 [.c (.str a0), .c (.val (.int .i64 a1))] [] (fnS (F76 K a0 a1)) (fun r => .c (.val (.int .i64 r))) (fun r => []) := by
 refine DFun.it Tryz.f76 (fun r => ⟨[sI 4 r], [], [], 0⟩) ?_
 unfold F76
 refine Ref.sq ?_
 refine Ref.rn 0 ?_
 refine RefR.e0 (st' := ⟨[sS 0 a0, sI 1 a1], [], [], 0⟩) 0 1 1 [0, 1] [] ?_
 refine RefR.nl 1 ?_
 refine Ref.sq ?_
 refine Ref.sq ?_
 refine Ref.rn 1 ?_
 refine RefR.e0 (st' := ⟨[sS 0 a0, sI 5 (IntKind.i64.wrap (a1 + 2))], [], [], 0⟩) 0 3 3 [0, 5] [] ?_
 refine RefR.nl 3 ?_
 refine Ref.ce (.block 0 (cd (bd Tryz.f76) [1, 0, 1, 0])) ?_
 refine Ref.block (go1 := fun u19 => ⟨[], [], [], 0⟩) ?_ (fun _ h => by cases h) (fun u19 => ?_)
 ·
  refine Ref.ce (.loop (cd (bd Tryz.f76) [1, 0, 1, 0, 0])) ?_
  refine Ref.loop (hd := fun u28 => ⟨[sS 0 a0, sI 5 u28], [], [], 0⟩) K ((IntKind.i64.wrap (a1 + 2))) (by kernel_rfl) (fun u28 => ?_)
  refine Ref.sq ?_
  refine Ref.sq ?_
  refine Ref.rn 2 ?_
  refine RefR.e0 (st' := ⟨[sS 0 a0, sI 5 u28, sB 12 (decide (((IntKind.i64.wrap (u28 + 1)) : Int) < (Int.ofNat a0.length)))], [], [], 0⟩) 0 5 5 [0, 5, 12] [] ?_
  refine RefR.letC (stf := fun x34 => ⟨[sS 0 a0, sI 5 u28, sB 12 x34], [], [], 0⟩) (by kernel_rfl) (fun x34 => ?_)
  refine RefR.nl 5 ?_
  refine Ref.cn (.tmp 12) x34 (fun hc => ?_) (fun hc => ?_)
  ·
   refine Ref.sk ?_
   refine Ref.sq ?_
   refine Ref.ce (.block 1 (cd (bd Tryz.f76) [1, 0, 1, 0, 0, 1, 0, 0])) ?_
   refine Ref.block (go1 := fun u36 => ⟨[sS 0 a0, sI 5 u28], [], [], 0⟩) ?_ (fun a => match a with | .inl _ => (fun h => by cases h) | .inr _ => (fun h => by cases h)) (fun u36 => ?_)
   ·
    refine Ref.sq ?_
    refine Ref.rn 4 ?_
    refine RefR.evC (vs := [inb u28 a0.length, !(((Int.ofNat (a0.getD (u28 : Int).toNat 0).toNat) : Int) == 42) || inb (IntKind.i64.wrap (u28 + 1)) a0.length]) (st' := ⟨[sS 0 a0, sI 5 u28, sB 25 ((((Int.ofNat (a0.getD (u28 : Int).toNat 0).toNat) : Int) == 42) && (((Int.ofNat (a0.getD ((IntKind.i64.wrap (u28 + 1)) : Int).toNat 0).toNat) : Int) == 41))], [], [], 0⟩) 0 11 11 [0, 5, 25] [] rfl (by kernel_rfl) ?_
    refine RefR.letC (stf := fun x37 => ⟨[sS 0 a0, sI 5 u28, sB 25 x37], [], [], 0⟩) (by kernel_rfl) (fun x37 => ?_)
    refine RefR.nl 11 ?_
    refine Ref.cn (.tmp 25) x37 (fun hc => ?_) (fun hc => ?_)
    ·
     refine Ref.sq ?_
     refine Ref.rn 5 ?_
     refine RefR.e0 (st' := ⟨[sI 4 (IntKind.i64.wrap (u28 + 2))], [], [], 0⟩) 0 3 3 [4] [] ?_
     refine RefR.nl 3 ?_
     exact Ref.rt (t := (Sum.inr (Sum.inr ((IntKind.i64.wrap (u28 + 2))))))
    ·
     refine Ref.sk ?_
     refine Ref.ck ⟨[sS 0 a0, sI 5 u28], [], [], 0⟩ [0, 5] [] ?_
     exact Ref.n0 (t := ())
   ·
    refine Ref.rn 3 ?_
    refine RefR.e0 (st' := ⟨[sS 0 a0, sI 5 (IntKind.i64.wrap (u28 + 1))], [], [], 0⟩) 0 3 3 [0, 5] [] ?_
    refine RefR.nl 3 ?_
    exact Ref.n0 (t := ((IntKind.i64.wrap (u28 + 1))))
  ·
   refine Ref.ck ⟨[], [], [], 0⟩ [] [] ?_
   exact Ref.xt 0 (t := (Sum.inl ()))
 ·
  refine Ref.sq ?_
  refine Ref.rn 6 ?_
  refine RefR.e0 (st' := ⟨[sI 4 (-1)], [], [], 0⟩) 0 1 1 [4] [] ?_
  refine RefR.nl 1 ?_
  exact Ref.rt (t := ((-1)))
def F77 (K : Nat) (a0 : Bytes) (a1 : Int) : Option ((S41 × Int × Int) ⊕ (S41 × Int × Int)) :=
 (bindS (blockS (chk [inb a1 a0.length] ((fnS (F100 K (a0.getD (a1 : Int).toNat 0))).bind (fun r110 => (if r110 = true then (bindS (blockS ((iter K (fun (u128 : Int) => (chk [!(decide ((u128 : Int) < (Int.ofNat a0.length))) || inb u128 a0.length] (letV (decide ((u128 : Int) < (Int.ofNat a0.length))) (fun (x133 : Bool) => ((condM x133 (fnS (F101 K (a0.getD (u128 : Int).toNat 0))) default).bind (fun r134 => (if (x133 && r134) = true then (bindS (blockS (some (.inr ((IntKind.i64.wrap (u128 + 1)))))) (fun (u135 : Int) => (some (.inr (u135))))) else (some (.inl (Sum.inl (u128))))))))))) (a1)).map .inl)) (fun (u123 : Int) => (chk [bndOk a0.length a1 u123] (letV ((a0.drop (a1 : Int).toNat).take ((u123 : Int).toNat - (a1 : Int).toNat)) (fun (x136 : Bytes) => ((fnS (F102 K x136)).bind (fun r137 => (bindS (if r137 = true then (some (.inr (2))) else (letV (decide (((IntKind.i64.wrap (u123 - a1)) : Int) > 12)) (fun (x140 : Bool) => (if x140 = true then (some (.inl (Sum.inr ((⟨1, x136, 0, a1⟩ : S41), u123, 1)))) else (some (.inr (1))))))) (fun (u139 : Int) => (letV ((x136 == ([82, 69, 65, 76] : Bytes)) || (x136 == ([76, 82, 69, 65, 76] : Bytes))) (fun (x141 : Bool) => (if x141 = true then (some (.inl (Sum.inr ((⟨u139, x136, 0, a1⟩ : S41), u123, 2)))) else (some (.inl (Sum.inr ((⟨u139, x136, 0, a1⟩ : S41), u123, 0)))))))))))))))) else (chk [inb a1 a0.length] ((fnS (F103 K (a0.getD (a1 : Int).toNat 0))).bind (fun r142 => (if r142 = true then (bindS (blockS ((iter K (fun (u192 : Int × Int) => (chk [!(decide ((u192.2 : Int) < (Int.ofNat a0.length))) || inb u192.2 a0.length] (letV (decide ((u192.2 : Int) < (Int.ofNat a0.length))) (fun (x205 : Bool) => ((condM x205 (fnS (F103 K (a0.getD (u192.2 : Int).toNat 0))) default).bind (fun r206 => (if (x205 && r206) = true then (bindS (blockS (letV (decide (((IntKind.i64.wrap (u192.2 - a1)) : Int) < 6)) (fun (x212 : Bool) => (bindS (if x212 = true then (chk [inb u192.2 a0.length] (letV (IntKind.i64.wrap (IntKind.u8.wrap ((Int.ofNat (a0.getD (u192.2 : Int).toNat 0).toNat) - 48))) (fun (x215 : Int) => (some (.inr ((IntKind.i64.wrap ((IntKind.i64.wrap (u192.1 * 10)) + x215)))))))) else (some (.inr (u192.1)))) (fun (u214 : Int) => (some (.inr (u214, (IntKind.i64.wrap (u192.2 + 1)))))))))) (fun (u211 : Int × Int) => (some (.inr (u211.1, u211.2))))) else (some (.inl (Sum.inl (u192.1, u192.2))))))))))) (0, a1)).map .inl)) (fun (u179 : Int × Int) => (chk [bndOk a0.length a1 u179.2] (letV ((a0.drop (a1 : Int).toNat).take ((u179.2 : Int).toNat - (a1 : Int).toNat)) (fun (x216 : Bytes) => (letV ((decide (((IntKind.i64.wrap (u179.2 - a1)) : Int) > 5)) || (decide ((u179.1 : Int) > 32768))) (fun (x217 : Bool) => (if x217 = true then (some (.inl (Sum.inr ((⟨3, x216, u179.1, a1⟩ : S41), u179.2, 1)))) else (some (.inl (Sum.inr ((⟨3, x216, u179.1, a1⟩ : S41), u179.2, 0)))))))))))) else (some (.inr ()))))))))))) (fun (u109 : Unit) => ((fnS (F104 K a0 a1)).bind (fun r218 => (chk [bndOk a0.length a1 (IntKind.i64.wrap (a1 + r218))] (letV ((a0.drop (a1 : Int).toNat).take (((IntKind.i64.wrap (a1 + r218)) : Int).toNat - (a1 : Int).toNat)) (fun (x219 : Bytes) => (if ((r218 : Int) == 0) = true then (some (.inl ((⟨4, x219, 0, a1⟩ : S41), a1, 1))) else (some (.inl ((⟨4, x219, 0, a1⟩ : S41), (IntKind.i64.wrap (a1 + r218)), 0)))))))))))
theorem F77_ok (K : Nat) (a0 : Bytes) (a1 : Int) : DFun Tryz.prog 77 [.c (.str a0), .c (.val (.int .i64 a1))] [] (fnS (F77 K a0 a1)) (fun r => .tup [.agg (E41.cs r.1), .c (.val (.int .i64 r.2.1)), .c (.val (.int .i64 r.2.2))]) (fun r => [E41.o r.1]) := by
 refine DFun.it Tryz.f77 (fun r => ⟨[sP 4 0 0 0, sI 5 r.2.1, sI 6 r.2.2], [E41.o r.1], [], 0⟩) ?_
 unfold F77
 refine Ref.sq ?_
 refine Ref.rn 0 ?_
 refine RefR.e0 (st' := ⟨[sS 0 a0, sI 1 a1, sP 4 0 0 0], [oX2], [], 0⟩) 0 3 3 [0, 1, 4] [0] ?_
 refine RefR.nl 3 ?_
 refine Ref.sq ?_
 refine Ref.rn 1 ?_
 refine RefR.e0 (st' := ⟨[sS 0 a0, sI 1 a1, sP 4 0 0 0, sP 7 1 0 0], [oX2, .cells [iC 0, .str [], iC 0, iC a1]], [], 0⟩) 0 4 4 [0, 1, 4, 7] [0, 1] ?_
 refine RefR.nl 4 ?_
 refine Ref.sq ?_
 refine Ref.rn 2 ?_
 refine RefR.e0 (st' := ⟨[sS 0 a0, sI 1 a1, sP 4 0 0 0, sP 7 1 0 0, sI 8 a1], [oX2, .cells [iC 0, .str [], iC 0, iC a1]], [], 0⟩) 0 2 2 [0, 1, 4, 7, 8] [0, 1] ?_
 refine RefR.nl 2 ?_
 refine Ref.sq ?_
 refine Ref.ce (.block 0 (cd (bd Tryz.f77) [1, 1, 1, 0, 0])) ?_
 refine Ref.block (go1 := fun u109 => ⟨[sS 0 a0, sI 1 a1, sP 4 0 0 0, sP 7 1 0 0, sI 8 a1], [oX2, .cells [iC 0, .str [], iC 0, iC a1]], [], 0⟩) ?_ (fun _ h => by cases h) (fun u109 => ?_)
 ·
  refine Ref.sq ?_
  refine Ref.rn 3 ?_
  refine RefR.evC (vs := [inb a1 a0.length]) (st' := ⟨[sS 0 a0, sI 1 a1, sP 4 0 0 0, sP 7 1 0 0, sI 8 a1, (16, .c (.val (.int .u8 (Int.ofNat (a0.getD (a1 : Int).toNat 0).toNat))))], [oX2, .cells [iC 0, .str [], iC 0, iC a1]], [], 0⟩) 0 3 3 [0, 1, 4, 7, 8, 16] [0, 1] rfl (by kernel_rfl) ?_
  refine RefR.cc 17 3 4 [] (F100_ok K (a0.getD (a1 : Int).toNat 0)) (fun r110 => ?_)
  refine RefR.e0 (st' := ⟨[sS 0 a0, sI 1 a1, sP 4 0 0 0, sP 7 1 0 0, sI 8 a1, sB 13 r110], [oX2, .cells [iC 0, .str [], iC 0, iC a1]], [], 0⟩) 4 1 5 [0, 1, 4, 7, 8, 13] [0, 1] ?_
  refine RefR.nl 5 ?_
  refine Ref.cn (.tmp 13) r110 (fun hc => ?_) (fun hc => ?_)
  ·
   refine Ref.sq ?_
   refine Ref.ce (.block 1 (cd (bd Tryz.f77) [1, 1, 1, 0, 0, 1, 0, 0, 0])) ?_
   refine Ref.block (go1 := fun u123 => ⟨[sS 0 a0, sI 1 a1, sP 4 0 0 0, sP 7 1 0 0, sI 8 u123], [oX2, .cells [iC 0, .str [], iC 0, iC a1]], [], 0⟩) ?_ (fun a => match a with | .inl _ => (fun h => by cases h) | .inr _ => (fun h => by cases h)) (fun u123 => ?_)
   ·
    refine Ref.ce (.loop (cd (bd Tryz.f77) [1, 1, 1, 0, 0, 1, 0, 0, 0, 0])) ?_
    refine Ref.ck ⟨[sS 0 a0, sI 1 a1, sP 4 0 0 0, sP 7 1 0 0, sI 8 a1], [oX2, .cells [iC 0, .str [], iC 0, iC a1]], [], 0⟩ [0, 1, 4, 7, 8] [0, 1] ?_
    refine Ref.loop (hd := fun u128 => ⟨[sS 0 a0, sI 1 a1, sP 4 0 0 0, sP 7 1 0 0, sI 8 u128], [oX2, .cells [iC 0, .str [], iC 0, iC a1]], [], 0⟩) K (a1) (by kernel_rfl) (fun u128 => ?_)
    refine Ref.sq ?_
    refine Ref.sq ?_
    refine Ref.rn 4 ?_
    refine RefR.evC (vs := [!(decide ((u128 : Int) < (Int.ofNat a0.length))) || inb u128 a0.length]) (st' := ⟨[sS 0 a0, sI 1 a1, sP 4 0 0 0, sP 7 1 0 0, sI 8 u128, sB 22 (decide ((u128 : Int) < (Int.ofNat a0.length))), (25, .c (.val (.int .u8 (Int.ofNat (a0.getD (u128 : Int).toNat 0).toNat))))], [oX2, .cells [iC 0, .str [], iC 0, iC a1]], [(25, [(22, true)])], 0⟩) 0 8 8 [0, 1, 4, 7, 8, 22, 25] [0, 1] rfl (by kernel_rfl) ?_
    refine RefR.letC (stf := fun x133 => ⟨[sS 0 a0, sI 1 a1, sP 4 0 0 0, sP 7 1 0 0, sI 8 u128, sB 22 x133, (25, .c (.val (.int .u8 (Int.ofNat (a0.getD (u128 : Int).toNat 0).toNat))))], [oX2, .cells [iC 0, .str [], iC 0, iC a1]], [(25, [(22, true)])], 0⟩) (by kernel_rfl) (fun x133 => ?_)
    refine RefR.lookC (t := 26) (g := [(22, true)]) (b := x133) 8 9 [] (default : Bool) rfl (by kernel_rfl) (F101_ok K (a0.getD (u128 : Int).toNat 0)) (fun _ => rfl) (fun r134 => ?_)
    refine RefR.e0 (st' := ⟨[sS 0 a0, sI 1 a1, sP 4 0 0 0, sP 7 1 0 0, sI 8 u128, sB 27 (x133 && r134)], [oX2, .cells [iC 0, .str [], iC 0, iC a1]], [], 0⟩) 9 1 10 [0, 1, 4, 7, 8, 27] [0, 1] ?_
    refine RefR.nl 10 ?_
    refine Ref.cn (.tmp 27) (x133 && r134) (fun hc => ?_) (fun hc => ?_)
    ·
     refine Ref.sk ?_
     refine Ref.ce (.block 2 (cd (bd Tryz.f77) [1, 1, 1, 0, 0, 1, 0, 0, 0, 0, 1, 0])) ?_
     refine Ref.block (go1 := fun u135 => ⟨[sS 0 a0, sI 1 a1, sP 4 0 0 0, sP 7 1 0 0, sI 8 u135], [oX2, .cells [iC 0, .str [], iC 0, iC a1]], [], 0⟩) ?_ (fun a => match a with | .inl _ => (fun h => by cases h) | .inr (.inl _) => (fun h => by cases h) | .inr (.inr _) => (fun h => by cases h)) (fun u135 => ?_)
     ·
      refine Ref.rn 5 ?_
      refine RefR.e0 (st' := ⟨[sS 0 a0, sI 1 a1, sP 4 0 0 0, sP 7 1 0 0, sI 8 (IntKind.i64.wrap (u128 + 1))], [oX2, .cells [iC 0, .str [], iC 0, iC a1]], [], 0⟩) 0 3 3 [0, 1, 4, 7, 8] [0, 1] ?_
      refine RefR.nl 3 ?_
      exact Ref.n0 (t := ((IntKind.i64.wrap (u128 + 1))))
     ·
      exact Ref.n0 (t := (u135))
    ·
     refine Ref.ck ⟨[sS 0 a0, sI 1 a1, sP 4 0 0 0, sP 7 1 0 0, sI 8 u128], [oX2, .cells [iC 0, .str [], iC 0, iC a1]], [], 0⟩ [0, 1, 4, 7, 8] [0, 1] ?_
     exact Ref.xt 1 (t := (Sum.inl (u128)))
   ·
    refine Ref.sq ?_
    refine Ref.drawnY 6 (by kernel_rfl) (by kernel_rfl) ?_
    refine RefY.evC (vs := [bndOk a0.length a1 u123]) (st' := ⟨[sI 1 a1, sP 4 0 0 0, sP 7 1 0 0, sI 8 u123, sS 33 ((a0.drop (a1 : Int).toNat).take ((u123 : Int).toNat - (a1 : Int).toNat)), sP 34 1 0 0], [oX2, .cells [iC 0, .str [], iC 0, iC a1]], [], 0⟩) (fuel' := 3) [0, 1, 2, 3, 4] [1, 4, 7, 8, 33, 34] [0, 1] rfl (by kernel_rfl) (by kernel_rfl) ?_
    refine RefY.letC (stf := fun x136 => ⟨[sI 1 a1, sP 4 0 0 0, sP 7 1 0 0, sI 8 u123, sS 33 x136, sP 34 1 0 0], [oX2, .cells [iC 0, .str [], iC 0, iC a1]], [], 0⟩) (by kernel_rfl) (fun x136 => ?_)
    refine RefY.tail [5, 6, 7] rfl (by kernel_rfl) ?_
    refine RefR.e0 (st' := ⟨[sI 1 a1, sP 4 0 0 0, sP 7 1 0 0, sI 8 u123], [oX2, .cells [iC 1, .str x136, iC 0, iC a1]], [], 0⟩) 0 3 3 [1, 4, 7, 8] [0, 1] ?_
    refine RefR.nl 3 ?_
    refine Ref.sq ?_
    refine Ref.sq ?_
    refine Ref.rn 7 ?_
    refine RefR.e1 0 2 2 [1, 4, 7, 8, 37] [0, 1] ?_
    refine RefR.cc 38 2 3 [] (F102_ok K x136) (fun r137 => ?_)
    refine RefR.nl 3 ?_
    refine Ref.bind (go1 := fun u139 => ⟨[sP 4 0 0 0, sP 7 1 0 0, sI 8 u123], [oX2, .cells [iC u139, .str x136, iC 0, iC a1]], [], 0⟩) ?_ (fun u139 => ?_)
    ·
     refine Ref.cn (.tmp 38) r137 (fun hc => ?_) (fun hc => ?_)
     ·
      refine Ref.rn 8 ?_
      refine RefR.e0 (st' := ⟨[sP 4 0 0 0, sP 7 1 0 0, sI 8 u123], [oX2, .cells [iC 2, .str x136, iC 0, iC a1]], [], 0⟩) 0 2 2 [4, 7, 8] [0, 1] ?_
      refine RefR.nl 2 ?_
      exact Ref.n0 (t := (2))
     ·
      refine Ref.sq ?_
      refine Ref.rn 9 ?_
      refine RefR.e0 (st' := ⟨[sP 4 0 0 0, sP 7 1 0 0, sI 8 u123, sB 43 (decide (((IntKind.i64.wrap (u123 - a1)) : Int) > 12))], [oX2, .cells [iC 1, .str x136, iC 0, iC a1]], [], 0⟩) 0 4 4 [4, 7, 8, 43] [0, 1] ?_
      refine RefR.letC (stf := fun x140 => ⟨[sP 4 0 0 0, sP 7 1 0 0, sI 8 u123, sB 43 x140], [oX2, .cells [iC 1, .str x136, iC 0, iC a1]], [], 0⟩) (by kernel_rfl) (fun x140 => ?_)
      refine RefR.nl 4 ?_
      refine Ref.cn (.tmp 43) x140 (fun hc => ?_) (fun hc => ?_)
      ·
       refine Ref.sq ?_
       refine Ref.rn 10 ?_
       refine RefR.e0 (st' := ⟨[sP 4 0 0 0, sI 5 u123, sI 6 1], [.cells [iC 1, .str x136, iC 0, iC a1]], [], 0⟩) 0 5 5 [4, 5, 6] [0] ?_
       refine RefR.nl 5 ?_
       exact Ref.rt (t := (Sum.inr ((⟨1, x136, 0, a1⟩ : S41), u123, 1)))
      ·
       refine Ref.sk ?_
       refine Ref.ck ⟨[sP 4 0 0 0, sP 7 1 0 0, sI 8 u123], [oX2, .cells [iC 1, .str x136, iC 0, iC a1]], [], 0⟩ [4, 7, 8] [0, 1] ?_
       exact Ref.n0 (t := (1))
    ·
     refine Ref.sq ?_
     refine Ref.sq ?_
     refine Ref.rn 11 ?_
     refine RefR.e0 (st' := ⟨[sP 4 0 0 0, sP 7 1 0 0, sI 8 u123, sB 53 ((x136 == ([82, 69, 65, 76] : Bytes)) || (x136 == ([76, 82, 69, 65, 76] : Bytes)))], [oX2, .cells [iC u139, .str x136, iC 0, iC a1]], [], 0⟩) 0 8 8 [4, 7, 8, 53] [0, 1] ?_
     refine RefR.letC (stf := fun x141 => ⟨[sP 4 0 0 0, sP 7 1 0 0, sI 8 u123, sB 53 x141], [oX2, .cells [iC u139, .str x136, iC 0, iC a1]], [], 0⟩) (by kernel_rfl) (fun x141 => ?_)
     refine RefR.nl 8 ?_
     refine Ref.cn (.tmp 53) x141 (fun hc => ?_) (fun hc => ?_)
     ·
      refine Ref.sq ?_
      refine Ref.rn 12 ?_
      refine RefR.e0 (st' := ⟨[sP 4 0 0 0, sI 5 u123, sI 6 2], [.cells [iC u139, .str x136, iC 0, iC a1]], [], 0⟩) 0 5 5 [4, 5, 6] [0] ?_
      refine RefR.nl 5 ?_
      exact Ref.rt (t := (Sum.inr ((⟨u139, x136, 0, a1⟩ : S41), u123, 2)))
     ·
      refine Ref.sk ?_
      refine Ref.sq ?_
      refine Ref.rn 13 ?_
      refine RefR.e0 (st' := ⟨[sP 4 0 0 0, sI 5 u123, sI 6 0], [.cells [iC u139, .str x136, iC 0, iC a1]], [], 0⟩) 0 5 5 [4, 5, 6] [0] ?_
      refine RefR.nl 5 ?_
      exact Ref.rt (t := (Sum.inr ((⟨u139, x136, 0, a1⟩ : S41), u123, 0)))
  ·
   refine Ref.sq ?_
   refine Ref.rn 14 ?_
   refine RefR.evC (vs := [inb a1 a0.length]) (st' := ⟨[sS 0 a0, sI 1 a1, sP 4 0 0 0, sP 7 1 0 0, sI 8 a1, (61, .c (.val (.int .u8 (Int.ofNat (a0.getD (a1 : Int).toNat 0).toNat))))], [oX2, .cells [iC 0, .str [], iC 0, iC a1]], [], 0⟩) 0 3 3 [0, 1, 4, 7, 8, 61] [0, 1] rfl (by kernel_rfl) ?_
   refine RefR.cc 62 3 4 [] (F103_ok K (a0.getD (a1 : Int).toNat 0)) (fun r142 => ?_)
   refine RefR.e0 (st' := ⟨[sS 0 a0, sI 1 a1, sP 4 0 0 0, sP 7 1 0 0, sI 8 a1, sB 58 r142], [oX2, .cells [iC 0, .str [], iC 0, iC a1]], [], 0⟩) 4 1 5 [0, 1, 4, 7, 8, 58] [0, 1] ?_
   refine RefR.nl 5 ?_
   refine Ref.cn (.tmp 58) r142 (fun hc => ?_) (fun hc => ?_)
   ·
    refine Ref.sq ?_
    refine Ref.ce (.block 3 (cd (bd Tryz.f77) [1, 1, 1, 0, 0, 1, 1, 1, 0, 0, 0])) ?_
    refine Ref.block (go1 := fun u179 => ⟨[sS 0 a0, sI 1 a1, sP 4 0 0 0, sP 7 1 0 0, sI 8 u179.2], [oX2, .cells [iC 0, .str [], iC u179.1, iC a1]], [], 0⟩) ?_ (fun a => match a with | .inl _ => (fun h => by cases h) | .inr _ => (fun h => by cases h)) (fun u179 => ?_)
    ·
     refine Ref.ce (.loop (cd (bd Tryz.f77) [1, 1, 1, 0, 0, 1, 1, 1, 0, 0, 0, 0])) ?_
     refine Ref.ck ⟨[sS 0 a0, sI 1 a1, sP 4 0 0 0, sP 7 1 0 0, sI 8 a1], [oX2, .cells [iC 0, .str [], iC 0, iC a1]], [], 0⟩ [0, 1, 4, 7, 8] [0, 1] ?_
     refine Ref.loop (hd := fun u192 => ⟨[sS 0 a0, sI 1 a1, sP 4 0 0 0, sP 7 1 0 0, sI 8 u192.2], [oX2, .cells [iC 0, .str [], iC u192.1, iC a1]], [], 0⟩) K (0, a1) (by kernel_rfl) (fun u192 => ?_)
     refine Ref.sq ?_
     refine Ref.sq ?_
     refine Ref.rn 15 ?_
     refine RefR.evC (vs := [!(decide ((u192.2 : Int) < (Int.ofNat a0.length))) || inb u192.2 a0.length]) (st' := ⟨[sS 0 a0, sI 1 a1, sP 4 0 0 0, sP 7 1 0 0, sI 8 u192.2, sB 67 (decide ((u192.2 : Int) < (Int.ofNat a0.length))), (70, .c (.val (.int .u8 (Int.ofNat (a0.getD (u192.2 : Int).toNat 0).toNat))))], [oX2, .cells [iC 0, .str [], iC u192.1, iC a1]], [(70, [(67, true)])], 0⟩) 0 8 8 [0, 1, 4, 7, 8, 67, 70] [0, 1] rfl (by kernel_rfl) ?_
     refine RefR.letC (stf := fun x205 => ⟨[sS 0 a0, sI 1 a1, sP 4 0 0 0, sP 7 1 0 0, sI 8 u192.2, sB 67 x205, (70, .c (.val (.int .u8 (Int.ofNat (a0.getD (u192.2 : Int).toNat 0).toNat))))], [oX2, .cells [iC 0, .str [], iC u192.1, iC a1]], [(70, [(67, true)])], 0⟩) (by kernel_rfl) (fun x205 => ?_)
     refine RefR.lookC (t := 71) (g := [(67, true)]) (b := x205) 8 9 [] (default : Bool) rfl (by kernel_rfl) (F103_ok K (a0.getD (u192.2 : Int).toNat 0)) (fun _ => rfl) (fun r206 => ?_)
     refine RefR.e0 (st' := ⟨[sS 0 a0, sI 1 a1, sP 4 0 0 0, sP 7 1 0 0, sI 8 u192.2, sB 72 (x205 && r206)], [oX2, .cells [iC 0, .str [], iC u192.1, iC a1]], [], 0⟩) 9 1 10 [0, 1, 4, 7, 8, 72] [0, 1] ?_
     refine RefR.nl 10 ?_
     refine Ref.cn (.tmp 72) (x205 && r206) (fun hc => ?_) (fun hc => ?_)
     ·
      refine Ref.sk ?_
      refine Ref.ce (.block 4 (cd (bd Tryz.f77) [1, 1, 1, 0, 0, 1, 1, 1, 0, 0, 0, 0, 1, 0])) ?_
      refine Ref.block (go1 := fun u211 => ⟨[sS 0 a0, sI 1 a1, sP 4 0 0 0, sP 7 1 0 0, sI 8 u211.2], [oX2, .cells [iC 0, .str [], iC u211.1, iC a1]], [], 0⟩) ?_ (fun a => match a with | .inl _ => (fun h => by cases h) | .inr (.inl _) => (fun h => by cases h) | .inr (.inr _) => (fun h => by cases h)) (fun u211 => ?_)
      ·
       refine Ref.sq ?_
       refine Ref.sq ?_
       refine Ref.rn 16 ?_
       refine RefR.e0 (st' := ⟨[sS 0 a0, sI 1 a1, sP 4 0 0 0, sP 7 1 0 0, sI 8 u192.2, sB 76 (decide (((IntKind.i64.wrap (u192.2 - a1)) : Int) < 6))], [oX2, .cells [iC 0, .str [], iC u192.1, iC a1]], [], 0⟩) 0 4 4 [0, 1, 4, 7, 8, 76] [0, 1] ?_
       refine RefR.letC (stf := fun x212 => ⟨[sS 0 a0, sI 1 a1, sP 4 0 0 0, sP 7 1 0 0, sI 8 u192.2, sB 76 x212], [oX2, .cells [iC 0, .str [], iC u192.1, iC a1]], [], 0⟩) (by kernel_rfl) (fun x212 => ?_)
       refine RefR.nl 4 ?_
       refine Ref.bind (go1 := fun u214 => ⟨[sS 0 a0, sI 1 a1, sP 4 0 0 0, sP 7 1 0 0, sI 8 u192.2], [oX2, .cells [iC 0, .str [], iC u214, iC a1]], [], 0⟩) ?_ (fun u214 => ?_)
       ·
        refine Ref.cn (.tmp 76) x212 (fun hc => ?_) (fun hc => ?_)
        ·
         refine Ref.drawnY 17 (by kernel_rfl) (by kernel_rfl) ?_
         refine RefY.evC (vs := [inb u192.2 a0.length]) (st' := ⟨[sS 0 a0, sI 1 a1, sP 4 0 0 0, sP 7 1 0 0, sI 8 u192.2, sP 77 1 0 2, sI 84 (IntKind.i64.wrap (IntKind.u8.wrap ((Int.ofNat (a0.getD (u192.2 : Int).toNat 0).toNat) - 48)))], [oX2, .cells [iC 0, .str [], iC u192.1, iC a1]], [], 0⟩) (fuel' := 5) [0, 3, 4, 5, 6, 7] [0, 1, 4, 7, 8, 77, 84] [0, 1] rfl (by kernel_rfl) (by kernel_rfl) ?_
         refine RefY.letC (stf := fun x215 => ⟨[sS 0 a0, sI 1 a1, sP 4 0 0 0, sP 7 1 0 0, sI 8 u192.2, sP 77 1 0 2, sI 84 x215], [oX2, .cells [iC 0, .str [], iC u192.1, iC a1]], [], 0⟩) (by kernel_rfl) (fun x215 => ?_)
         refine RefY.tail [1, 2, 8, 9, 10] rfl (by kernel_rfl) ?_
         refine RefR.e0 (st' := ⟨[sS 0 a0, sI 1 a1, sP 4 0 0 0, sP 7 1 0 0, sI 8 u192.2], [oX2, .cells [iC 0, .str [], iC (IntKind.i64.wrap ((IntKind.i64.wrap (u192.1 * 10)) + x215)), iC a1]], [], 0⟩) 0 5 5 [0, 1, 4, 7, 8] [0, 1] ?_
         refine RefR.nl 5 ?_
         exact Ref.n0 (t := ((IntKind.i64.wrap ((IntKind.i64.wrap (u192.1 * 10)) + x215))))
        ·
         refine Ref.sk ?_
         refine Ref.ck ⟨[sS 0 a0, sI 1 a1, sP 4 0 0 0, sP 7 1 0 0, sI 8 u192.2], [oX2, .cells [iC 0, .str [], iC u192.1, iC a1]], [], 0⟩ [0, 1, 4, 7, 8] [0, 1] ?_
         exact Ref.n0 (t := (u192.1))
       ·
        refine Ref.rn 18 ?_
        refine RefR.e0 (st' := ⟨[sS 0 a0, sI 1 a1, sP 4 0 0 0, sP 7 1 0 0, sI 8 (IntKind.i64.wrap (u192.2 + 1))], [oX2, .cells [iC 0, .str [], iC u214, iC a1]], [], 0⟩) 0 3 3 [0, 1, 4, 7, 8] [0, 1] ?_
        refine RefR.nl 3 ?_
        exact Ref.n0 (t := (u214, (IntKind.i64.wrap (u192.2 + 1))))
      ·
       exact Ref.n0 (t := (u211.1, u211.2))
     ·
      refine Ref.ck ⟨[sS 0 a0, sI 1 a1, sP 4 0 0 0, sP 7 1 0 0, sI 8 u192.2], [oX2, .cells [iC 0, .str [], iC u192.1, iC a1]], [], 0⟩ [0, 1, 4, 7, 8] [0, 1] ?_
      exact Ref.xt 3 (t := (Sum.inl (u192.1, u192.2)))
    ·
     refine Ref.sq ?_
     refine Ref.drawnY 19 (by kernel_rfl) (by kernel_rfl) ?_
     refine RefY.evC (vs := [bndOk a0.length a1 u179.2]) (st' := ⟨[sI 1 a1, sP 4 0 0 0, sP 7 1 0 0, sI 8 u179.2, sS 92 ((a0.drop (a1 : Int).toNat).take ((u179.2 : Int).toNat - (a1 : Int).toNat)), sP 93 1 0 0], [oX2, .cells [iC 0, .str [], iC u179.1, iC a1]], [], 0⟩) (fuel' := 3) [0, 1, 2, 3, 4] [1, 4, 7, 8, 92, 93] [0, 1] rfl (by kernel_rfl) (by kernel_rfl) ?_
     refine RefY.letC (stf := fun x216 => ⟨[sI 1 a1, sP 4 0 0 0, sP 7 1 0 0, sI 8 u179.2, sS 92 x216, sP 93 1 0 0], [oX2, .cells [iC 0, .str [], iC u179.1, iC a1]], [], 0⟩) (by kernel_rfl) (fun x216 => ?_)
     refine RefY.tail [5, 6, 7] rfl (by kernel_rfl) ?_
     refine RefR.e0 (st' := ⟨[sI 1 a1, sP 4 0 0 0, sP 7 1 0 0, sI 8 u179.2], [oX2, .cells [iC 3, .str x216, iC u179.1, iC a1]], [], 0⟩) 0 3 3 [1, 4, 7, 8] [0, 1] ?_
     refine RefR.nl 3 ?_
     refine Ref.sq ?_
     refine Ref.sq ?_
     refine Ref.rn 20 ?_
     refine RefR.e0 (st' := ⟨[sP 4 0 0 0, sP 7 1 0 0, sI 8 u179.2, sB 103 ((decide (((IntKind.i64.wrap (u179.2 - a1)) : Int) > 5)) || (decide ((u179.1 : Int) > 32768)))], [oX2, .cells [iC 3, .str x216, iC u179.1, iC a1]], [], 0⟩) 0 9 9 [4, 7, 8, 103] [0, 1] ?_
     refine RefR.letC (stf := fun x217 => ⟨[sP 4 0 0 0, sP 7 1 0 0, sI 8 u179.2, sB 103 x217], [oX2, .cells [iC 3, .str x216, iC u179.1, iC a1]], [], 0⟩) (by kernel_rfl) (fun x217 => ?_)
     refine RefR.nl 9 ?_
     refine Ref.cn (.tmp 103) x217 (fun hc => ?_) (fun hc => ?_)
     ·
      refine Ref.sq ?_
      refine Ref.rn 21 ?_
      refine RefR.e0 (st' := ⟨[sP 4 0 0 0, sI 5 u179.2, sI 6 1], [.cells [iC 3, .str x216, iC u179.1, iC a1]], [], 0⟩) 0 5 5 [4, 5, 6] [0] ?_
      refine RefR.nl 5 ?_
      exact Ref.rt (t := (Sum.inr ((⟨3, x216, u179.1, a1⟩ : S41), u179.2, 1)))
     ·
      refine Ref.sk ?_
      refine Ref.sq ?_
      refine Ref.rn 22 ?_
      refine RefR.e0 (st' := ⟨[sP 4 0 0 0, sI 5 u179.2, sI 6 0], [.cells [iC 3, .str x216, iC u179.1, iC a1]], [], 0⟩) 0 5 5 [4, 5, 6] [0] ?_
      refine RefR.nl 5 ?_
      exact Ref.rt (t := (Sum.inr ((⟨3, x216, u179.1, a1⟩ : S41), u179.2, 0)))
   ·
    refine Ref.sk ?_
    refine Ref.ck ⟨[sS 0 a0, sI 1 a1, sP 4 0 0 0, sP 7 1 0 0, sI 8 a1], [oX2, .cells [iC 0, .str [], iC 0, iC a1]], [], 0⟩ [0, 1, 4, 7, 8] [0, 1] ?_
    exact Ref.n0 (t := ())
 ·
  refine Ref.sq ?_
  refine Ref.rn 23 ?_
  refine RefR.e1 0 2 2 [0, 1, 4, 7, 8, 108, 109] [0, 1] ?_
  refine RefR.cc 110 2 3 [] (F104_ok K a0 a1) (fun r218 => ?_)
  refine RefR.e0 (st' := ⟨[sS 0 a0, sI 1 a1, sP 4 0 0 0, sP 7 1 0 0, sI 8 a1, sI 9 r218], [oX2, .cells [iC 0, .str [], iC 0, iC a1]], [], 0⟩) 3 1 4 [0, 1, 4, 7, 8, 9] [0, 1] ?_
  refine RefR.nl 4 ?_
  refine Ref.sq ?_
  refine Ref.drawnY 24 (by kernel_rfl) (by kernel_rfl) ?_
  refine RefY.evC (vs := [bndOk a0.length a1 (IntKind.i64.wrap (a1 + r218))]) (st' := ⟨[sI 1 a1, sP 4 0 0 0, sP 7 1 0 0, sI 8 a1, sI 9 r218, sS 116 ((a0.drop (a1 : Int).toNat).take (((IntKind.i64.wrap (a1 + r218)) : Int).toNat - (a1 : Int).toNat)), sP 117 1 0 0], [oX2, .cells [iC 0, .str [], iC 0, iC a1]], [], 0⟩) (fuel' := 3) [0, 1, 2, 3, 4, 5, 6] [1, 4, 7, 8, 9, 116, 117] [0, 1] rfl (by kernel_rfl) (by kernel_rfl) ?_
  refine RefY.letC (stf := fun x219 => ⟨[sI 1 a1, sP 4 0 0 0, sP 7 1 0 0, sI 8 a1, sI 9 r218, sS 116 x219, sP 117 1 0 0], [oX2, .cells [iC 0, .str [], iC 0, iC a1]], [], 0⟩) (by kernel_rfl) (fun x219 => ?_)
  refine RefY.tail [7, 8, 9] rfl (by kernel_rfl) ?_
  refine RefR.e0 (st' := ⟨[sI 1 a1, sP 4 0 0 0, sP 7 1 0 0, sI 8 a1, sI 9 r218], [oX2, .cells [iC 4, .str x219, iC 0, iC a1]], [], 0⟩) 0 3 3 [1, 4, 7, 8, 9] [0, 1] ?_
  refine RefR.nl 3 ?_
  refine Ref.sq ?_
  refine Ref.sq ?_
  refine Ref.rn 25 ?_
  refine RefR.e0 (st' := ⟨[sI 1 a1, sP 4 0 0 0, sP 7 1 0 0, sI 8 a1, sI 9 r218, sB 120 ((r218 : Int) == 0)], [oX2, .cells [iC 4, .str x219, iC 0, iC a1]], [], 0⟩) 0 2 2 [1, 4, 7, 8, 9, 120] [0, 1] ?_
  refine RefR.nl 2 ?_
  refine Ref.cn (.tmp 120) ((r218 : Int) == 0) (fun hc => ?_) (fun hc => ?_)
  ·
   refine Ref.sq ?_
   refine Ref.rn 26 ?_
   refine RefR.e0 (st' := ⟨[sP 4 0 0 0, sI 5 a1, sI 6 1], [.cells [iC 4, .str x219, iC 0, iC a1]], [], 0⟩) 0 5 5 [4, 5, 6] [0] ?_
   refine RefR.nl 5 ?_
   exact Ref.rt (t := ((⟨4, x219, 0, a1⟩ : S41), a1, 1))
  ·
   refine Ref.sk ?_
   refine Ref.sq ?_
   refine Ref.rn 27 ?_
   refine RefR.e0 (st' := ⟨[sP 4 0 0 0, sI 5 (IntKind.i64.wrap (a1 + r218)), sI 6 0], [.cells [iC 4, .str x219, iC 0, iC a1]], [], 0⟩) 0 7 7 [4, 5, 6] [0] ?_
   refine RefR.nl 7 ?_
   exact Ref.rt (t := ((⟨4, x219, 0, a1⟩ : S41), (IntKind.i64.wrap (a1 + r218)), 0))
def F43 (K : Nat) (a0 : Bytes) : Option (((List S41) × Int × Int) ⊕ ((List S41) × Int × Int)) :=
 (letV (decide (((Int.ofNat a0.length) : Int) > 6000)) (fun (x1 : Bool) => (if x1 = true then (some (.inl ([], 5, 6000))) else (bindS (blockS ((iter K (fun (u49 : (List S41) × Int) => (letV (decide ((u49.2 : Int) < (Int.ofNat a0.length))) (fun (x63 : Bool) => (if x63 = true then (bindS (blockS (chk [inb u49.2 a0.length, !(!(((Int.ofNat (a0.getD (u49.2 : Int).toNat 0).toNat) : Int) == 32)) || inb u49.2 a0.length, !(!((((Int.ofNat (a0.getD (u49.2 : Int).toNat 0).toNat) : Int) == 32) || (((Int.ofNat (a0.getD (u49.2 : Int).toNat 0).toNat) : Int) == 9))) || inb u49.2 a0.length, !(!(((((Int.ofNat (a0.getD (u49.2 : Int).toNat 0).toNat) : Int) == 32) || (((Int.ofNat (a0.getD (u49.2 : Int).toNat 0).toNat) : Int) == 9)) || (((Int.ofNat (a0.getD (u49.2 : Int).toNat 0).toNat) : Int) == 10))) || inb u49.2 a0.length] (letV ((((((Int.ofNat (a0.getD (u49.2 : Int).toNat 0).toNat) : Int) == 32) || (((Int.ofNat (a0.getD (u49.2 : Int).toNat 0).toNat) : Int) == 9)) || (((Int.ofNat (a0.getD (u49.2 : Int).toNat 0).toNat) : Int) == 10)) || (((Int.ofNat (a0.getD (u49.2 : Int).toNat 0).toNat) : Int) == 13)) (fun (x70 : Bool) => (if x70 = true then (some (.inl (Sum.inl (u49.1, (IntKind.i64.wrap (u49.2 + 1)))))) else (chk [inb u49.2 a0.length, !((((Int.ofNat (a0.getD (u49.2 : Int).toNat 0).toNat) : Int) == 40) && (decide (((IntKind.i64.wrap (u49.2 + 1)) : Int) < (Int.ofNat a0.length)))) || inb (IntKind.i64.wrap (u49.2 + 1)) a0.length] (letV (((((Int.ofNat (a0.getD (u49.2 : Int).toNat 0).toNat) : Int) == 40) && (decide (((IntKind.i64.wrap (u49.2 + 1)) : Int) < (Int.ofNat a0.length)))) && (((Int.ofNat (a0.getD ((IntKind.i64.wrap (u49.2 + 1)) : Int).toNat 0).toNat) : Int) == 42)) (fun (x71 : Bool) => (if x71 = true then ((fnS (F76 K a0 u49.2)).bind (fun r72 => (if (decide ((r72 : Int) < 0)) = true then (some (.inl (Sum.inr (Sum.inr ([], 1, u49.2))))) else (some (.inl (Sum.inl (u49.1, r72))))))) else ((fnS (F77 K a0 u49.2)).bind (fun r73 => (if ((r73.2.2 : Int) != 0) = true then (some (.inl (Sum.inr (Sum.inr ([], r73.2.2, u49.2))))) else (letV (decide (((Int.ofNat u49.1.length) : Int) ≥ 1500)) (fun (x74 : Bool) => (if x74 = true then (some (.inl (Sum.inr (Sum.inr ([], 5, u49.2))))) else (chk [room ((u49.1.length + ([r73.1].length)) * 40)] (some (.inr ((u49.1 ++ [r73.1]), r73.2.1))))))))))))))))))) (fun (u69 : (List S41) × Int) => (some (.inr (u69.1, u69.2))))) else (some (.inl (Sum.inl (u49.1)))))))) ([], 0)).map .inl)) (fun (u38 : (List S41)) => (some (.inl (u38, 0, 0))))))))
theorem F43_ok (K : Nat) (a0 : Bytes) : DFun Tryz.prog 43 [.c (.str a0)] [] (fnS (F43 K a0)) (fun r => .tup [.c (E41.tree r.1), .c (.val (.int .i64 r.2.1)), .c (.val (.int .i64 r.2.2))]) (fun r => []) := by
 refine DFun.it Tryz.f43 (fun r => ⟨[(2, .c (E41.tree r.1)), sI 3 r.2.1, sI 4 r.2.2], [], [], 0⟩) ?_
 unfold F43
 refine Ref.sq ?_
 refine Ref.rn 0 ?_
 refine RefR.e0 (st' := ⟨[sS 0 a0], [], [], 0⟩) 0 3 3 [0] [] ?_
 refine RefR.nl 3 ?_
 refine Ref.sq ?_
 refine Ref.sq ?_
 refine Ref.rn 1 ?_
 refine RefR.e0 (st' := ⟨[sS 0 a0, sB 13 (decide (((Int.ofNat a0.length) : Int) > 6000))], [], [], 0⟩) 0 3 3 [0, 13] [] ?_
 refine RefR.letC (stf := fun x1 => ⟨[sS 0 a0, sB 13 x1], [], [], 0⟩) (by kernel_rfl) (fun x1 => ?_)
 refine RefR.nl 3 ?_
 refine Ref.cn (.tmp 13) x1 (fun hc => ?_) (fun hc => ?_)
 ·
  refine Ref.sq ?_
  refine Ref.rn 2 ?_
  refine RefR.e0 (st' := ⟨[(2, .c (.nil)), sI 3 5, sI 4 6000], [], [], 0⟩) 0 3 3 [2, 3, 4] [] ?_
  refine RefR.nl 3 ?_
  refine Ref.conv (Conv.sl 2 (.c (E41.tree [])) (DLe.c (El.tree_nil E41))) ?_
  exact Ref.rt (t := ([], 5, 6000))
 ·
  refine Ref.sk ?_
  refine Ref.sq ?_
  refine Ref.rn 3 ?_
  refine RefR.e0 (st' := ⟨[sS 0 a0, (5, .c (.nil))], [], [], 0⟩) 0 1 1 [0, 5] [] ?_
  refine RefR.nl 1 ?_
  refine Ref.sq ?_
  refine Ref.sq ?_
  refine Ref.rn 4 ?_
  refine RefR.e0 (st' := ⟨[sS 0 a0, (5, .c (.nil)), sI 6 0], [], [], 0⟩) 0 1 1 [0, 5, 6] [] ?_
  refine RefR.nl 1 ?_
  refine Ref.ce (.block 0 (cd (bd Tryz.f43) [1, 1, 1, 0, 1, 0])) ?_
  refine Ref.block (go1 := fun u38 => ⟨[(5, .c (.own 0 u38.length))], [E41.row u38], [], 0⟩) ?_ (fun _ h => by cases h) (fun u38 => ?_)
  ·
   refine Ref.ce (.loop (cd (bd Tryz.f43) [1, 1, 1, 0, 1, 0, 0])) ?_
   refine Ref.conv (Conv.adopt 5 E41.ty E41.w (E41.at []) (by kernel_rfl) (by kernel_rfl) (by kernel_rfl)) ?_
   refine Ref.ck ⟨[sS 0 a0, (5, .c (.own 0 0)), sI 6 0], [E41.row []], [], 0⟩ [0, 5, 6] [0] ?_
   refine Ref.loop (hd := fun u49 => ⟨[sS 0 a0, (5, .c (.own 0 u49.1.length)), sI 6 u49.2], [E41.row u49.1], [], 0⟩) K ([], 0) (by kernel_rfl) (fun u49 => ?_)
   refine Ref.sq ?_
   refine Ref.sq ?_
   refine Ref.rn 5 ?_
   refine RefR.e0 (st' := ⟨[sS 0 a0, (5, .c (.own 0 u49.1.length)), sI 6 u49.2, sB 17 (decide ((u49.2 : Int) < (Int.ofNat a0.length)))], [E41.row u49.1], [], 0⟩) 0 4 4 [0, 5, 6, 17] [0] ?_
   refine RefR.letC (stf := fun x63 => ⟨[sS 0 a0, (5, .c (.own 0 u49.1.length)), sI 6 u49.2, sB 17 x63], [E41.row u49.1], [], 0⟩) (by kernel_rfl) (fun x63 => ?_)
   refine RefR.nl 4 ?_
   refine Ref.cn (.tmp 17) x63 (fun hc => ?_) (fun hc => ?_)
   ·
    refine Ref.sk ?_
    refine Ref.ce (.block 1 (cd (bd Tryz.f43) [1, 1, 1, 0, 1, 0, 0, 1, 0])) ?_
    refine Ref.block (go1 := fun u69 => ⟨[sS 0 a0, (5, .c (.own 0 u69.1.length)), sI 6 u69.2], [E41.row u69.1], [], 0⟩) ?_ (fun a => match a with | .inl _ => (fun h => by cases h) | .inr _ => (fun h => by cases h)) (fun u69 => ?_)
    ·
     refine Ref.sq ?_
     refine Ref.sq ?_
     refine Ref.rn 6 ?_
     refine RefR.evC (vs := [inb u49.2 a0.length, !(!(((Int.ofNat (a0.getD (u49.2 : Int).toNat 0).toNat) : Int) == 32)) || inb u49.2 a0.length, !(!((((Int.ofNat (a0.getD (u49.2 : Int).toNat 0).toNat) : Int) == 32) || (((Int.ofNat (a0.getD (u49.2 : Int).toNat 0).toNat) : Int) == 9))) || inb u49.2 a0.length, !(!(((((Int.ofNat (a0.getD (u49.2 : Int).toNat 0).toNat) : Int) == 32) || (((Int.ofNat (a0.getD (u49.2 : Int).toNat 0).toNat) : Int) == 9)) || (((Int.ofNat (a0.getD (u49.2 : Int).toNat 0).toNat) : Int) == 10))) || inb u49.2 a0.length]) (st' := ⟨[sS 0 a0, (5, .c (.own 0 u49.1.length)), sI 6 u49.2, sB 39 ((((((Int.ofNat (a0.getD (u49.2 : Int).toNat 0).toNat) : Int) == 32) || (((Int.ofNat (a0.getD (u49.2 : Int).toNat 0).toNat) : Int) == 9)) || (((Int.ofNat (a0.getD (u49.2 : Int).toNat 0).toNat) : Int) == 10)) || (((Int.ofNat (a0.getD (u49.2 : Int).toNat 0).toNat) : Int) == 13))], [E41.row u49.1], [], 0⟩) 0 22 22 [0, 5, 6, 39] [0] rfl (by kernel_rfl) ?_
     refine RefR.letC (stf := fun x70 => ⟨[sS 0 a0, (5, .c (.own 0 u49.1.length)), sI 6 u49.2, sB 39 x70], [E41.row u49.1], [], 0⟩) (by kernel_rfl) (fun x70 => ?_)
     refine RefR.nl 22 ?_
     refine Ref.cn (.tmp 39) x70 (fun hc => ?_) (fun hc => ?_)
     ·
      refine Ref.sq ?_
      refine Ref.rn 7 ?_
      refine RefR.e0 (st' := ⟨[sS 0 a0, (5, .c (.own 0 u49.1.length)), sI 6 (IntKind.i64.wrap (u49.2 + 1))], [E41.row u49.1], [], 0⟩) 0 3 3 [0, 5, 6] [0] ?_
      refine RefR.nl 3 ?_
      exact Ref.xt 1 (t := (Sum.inl (u49.1, (IntKind.i64.wrap (u49.2 + 1)))))
     ·
      refine Ref.sk ?_
      refine Ref.sq ?_
      refine Ref.sq ?_
      refine Ref.rn 8 ?_
      refine RefR.evC (vs := [inb u49.2 a0.length, !((((Int.ofNat (a0.getD (u49.2 : Int).toNat 0).toNat) : Int) == 40) && (decide (((IntKind.i64.wrap (u49.2 + 1)) : Int) < (Int.ofNat a0.length)))) || inb (IntKind.i64.wrap (u49.2 + 1)) a0.length]) (st' := ⟨[sS 0 a0, (5, .c (.own 0 u49.1.length)), sI 6 u49.2, sB 59 (((((Int.ofNat (a0.getD (u49.2 : Int).toNat 0).toNat) : Int) == 40) && (decide (((IntKind.i64.wrap (u49.2 + 1)) : Int) < (Int.ofNat a0.length)))) && (((Int.ofNat (a0.getD ((IntKind.i64.wrap (u49.2 + 1)) : Int).toNat 0).toNat) : Int) == 42))], [E41.row u49.1], [], 0⟩) 0 18 18 [0, 5, 6, 59] [0] rfl (by kernel_rfl) ?_
      refine RefR.letC (stf := fun x71 => ⟨[sS 0 a0, (5, .c (.own 0 u49.1.length)), sI 6 u49.2, sB 59 x71], [E41.row u49.1], [], 0⟩) (by kernel_rfl) (fun x71 => ?_)
      refine RefR.nl 18 ?_
      refine Ref.cn (.tmp 59) x71 (fun hc => ?_) (fun hc => ?_)
      ·
       refine Ref.sq ?_
       refine Ref.rn 9 ?_
       refine RefR.e1 0 2 2 [0, 5, 6, 60, 61] [0] ?_
       refine RefR.cc 62 2 3 [] (F76_ok K a0 u49.2) (fun r72 => ?_)
       refine RefR.e0 (st' := ⟨[sS 0 a0, (5, .c (.own 0 u49.1.length)), sI 6 u49.2, sI 7 r72], [E41.row u49.1], [], 0⟩) 3 1 4 [0, 5, 6, 7] [0] ?_
       refine RefR.nl 4 ?_
       refine Ref.sq ?_
       refine Ref.sq ?_
       refine Ref.rn 10 ?_
       refine RefR.e0 (st' := ⟨[sS 0 a0, (5, .c (.own 0 u49.1.length)), sI 6 u49.2, sI 7 r72, sB 64 (decide ((r72 : Int) < 0))], [E41.row u49.1], [], 0⟩) 0 2 2 [0, 5, 6, 7, 64] [0] ?_
       refine RefR.nl 2 ?_
       refine Ref.cn (.tmp 64) (decide ((r72 : Int) < 0)) (fun hc => ?_) (fun hc => ?_)
       ·
        refine Ref.sq ?_
        refine Ref.rn 11 ?_
        refine RefR.e0 (st' := ⟨[(2, .c (.nil)), sI 3 1, sI 4 u49.2], [], [], 0⟩) 0 4 4 [2, 3, 4] [] ?_
        refine RefR.nl 4 ?_
        refine Ref.conv (Conv.sl 2 (.c (E41.tree [])) (DLe.c (El.tree_nil E41))) ?_
        exact Ref.rt (t := (Sum.inr (Sum.inr ([], 1, u49.2))))
       ·
        refine Ref.sk ?_
        refine Ref.sq ?_
        refine Ref.rn 12 ?_
        refine RefR.e0 (st' := ⟨[sS 0 a0, (5, .c (.own 0 u49.1.length)), sI 6 r72], [E41.row u49.1], [], 0⟩) 0 2 2 [0, 5, 6] [0] ?_
        refine RefR.nl 2 ?_
        exact Ref.xt 1 (t := (Sum.inl (u49.1, r72)))
      ·
       refine Ref.sk ?_
       refine Ref.sq ?_
       refine Ref.rn 13 ?_
       refine RefR.e1 0 2 2 [0, 5, 6, 68, 69] [0] ?_
       refine RefR.cc 70 2 3 [] (F77_ok K a0 u49.2) (fun r73 => ?_)
       refine RefR.e0 (st' := ⟨[sS 0 a0, (5, .c (.own 0 u49.1.length)), sI 6 u49.2, sP 8 1 0 0, sI 9 r73.2.1, sI 10 r73.2.2], [E41.row u49.1, E41.o r73.1], [], 0⟩) 3 8 11 [0, 5, 6, 8, 9, 10] [0, 2] ?_
       refine RefR.nl 11 ?_
       refine Ref.sq ?_
       refine Ref.sq ?_
       refine Ref.rn 14 ?_
       refine RefR.e0 (st' := ⟨[sS 0 a0, (5, .c (.own 0 u49.1.length)), sI 6 u49.2, sP 8 1 0 0, sI 9 r73.2.1, sI 10 r73.2.2, sB 75 ((r73.2.2 : Int) != 0)], [E41.row u49.1, E41.o r73.1], [], 0⟩) 0 2 2 [0, 5, 6, 8, 9, 10, 75] [0, 1] ?_
       refine RefR.nl 2 ?_
       refine Ref.cn (.tmp 75) ((r73.2.2 : Int) != 0) (fun hc => ?_) (fun hc => ?_)
       ·
        refine Ref.sq ?_
        refine Ref.rn 15 ?_
        refine RefR.e0 (st' := ⟨[(2, .c (.nil)), sI 3 r73.2.2, sI 4 u49.2], [], [], 0⟩) 0 5 5 [2, 3, 4] [] ?_
        refine RefR.nl 5 ?_
        refine Ref.conv (Conv.sl 2 (.c (E41.tree [])) (DLe.c (El.tree_nil E41))) ?_
        exact Ref.rt (t := (Sum.inr (Sum.inr ([], r73.2.2, u49.2))))
       ·
        refine Ref.sk ?_
        refine Ref.sq ?_
        refine Ref.sq ?_
        refine Ref.rn 16 ?_
        refine RefR.e0 (st' := ⟨[sS 0 a0, (5, .c (.own 0 u49.1.length)), sI 6 u49.2, sP 8 1 0 0, sI 9 r73.2.1, sB 80 (decide (((Int.ofNat u49.1.length) : Int) ≥ 1500))], [E41.row u49.1, E41.o r73.1], [], 0⟩) 0 3 3 [0, 5, 6, 8, 9, 80] [0, 1] ?_
        refine RefR.letC (stf := fun x74 => ⟨[sS 0 a0, (5, .c (.own 0 u49.1.length)), sI 6 u49.2, sP 8 1 0 0, sI 9 r73.2.1, sB 80 x74], [E41.row u49.1, E41.o r73.1], [], 0⟩) (by kernel_rfl) (fun x74 => ?_)
        refine RefR.nl 3 ?_
        refine Ref.cn (.tmp 80) x74 (fun hc => ?_) (fun hc => ?_)
        ·
         refine Ref.sq ?_
         refine Ref.rn 17 ?_
         refine RefR.e0 (st' := ⟨[(2, .c (.nil)), sI 3 5, sI 4 u49.2], [], [], 0⟩) 0 4 4 [2, 3, 4] [] ?_
         refine RefR.nl 4 ?_
         refine Ref.conv (Conv.sl 2 (.c (E41.tree [])) (DLe.c (El.tree_nil E41))) ?_
         exact Ref.rt (t := (Sum.inr (Sum.inr ([], 5, u49.2))))
        ·
         refine Ref.sk ?_
         refine Ref.sq ?_
         refine Ref.rn 18 ?_
         refine RefR.e0 (st' := ⟨[sS 0 a0, sI 9 r73.2.1, (82, .c (.own 0 u49.1.length)), (83, .agg (E41.cs r73.1))], [E41.row u49.1], [], 0⟩) 0 2 2 [0, 9, 82, 83] [0] ?_
         refine RefR.e0 (st' := ⟨[sS 0 a0, sI 9 r73.2.1, (82, .c (.own 0 u49.1.length)), (84, .c (.own 1 1))], [E41.row u49.1, .row 41 4 1 (tbl [(E41.cs r73.1)])], [], 0⟩) 2 1 3 [0, 9, 82, 84] [0, 1] ?_
         refine RefR.conv (Conv.ob 1 (E41.row [r73.1]) (El.row_build E41 [r73.1] rfl (by kernel_rfl))) ?_
         refine RefR.conv (Conv.sl 84 (.c (.own 1 ([r73.1].length))) (DLe.c (CLe.own (by simp <;> omega)))) ?_
         refine RefR.evC (vs := [room ((u49.1.length + ([r73.1].length)) * 40)]) (st' := ⟨[sS 0 a0, sI 9 r73.2.1, (85, .c (.own 0 (u49.1.length + ([r73.1].length))))], [.row 41 4 (u49.1.length + ([r73.1].length)) fun i j => bif Nat.blt i u49.1.length then E41.at u49.1 i j else (E41.at [r73.1]) (i - u49.1.length) j], [], 0⟩) 3 1 4 [0, 9, 85] [2] rfl (by kernel_rfl) ?_
         refine RefR.conv (Conv.ob 0 (E41.row (u49.1 ++ [r73.1])) (El.row_append E41 u49.1 [r73.1] rfl rfl)) ?_
         refine RefR.conv (Conv.sl 85 (.c (.own 0 ((u49.1 ++ [r73.1]).length))) (DLe.c (CLe.own (by simp <;> omega)))) ?_
         refine RefR.e0 (st' := ⟨[sS 0 a0, (5, .c (.own 0 ((u49.1 ++ [r73.1]).length))), sI 9 r73.2.1], [E41.row (u49.1 ++ [r73.1])], [], 0⟩) 4 1 5 [0, 5, 9] [0] ?_
         refine RefR.nl 5 ?_
         refine Ref.rn 19 ?_
         refine RefR.e0 (st' := ⟨[sS 0 a0, (5, .c (.own 0 ((u49.1 ++ [r73.1]).length))), sI 6 r73.2.1], [E41.row (u49.1 ++ [r73.1])], [], 0⟩) 0 2 2 [0, 5, 6] [0] ?_
         refine RefR.nl 2 ?_
         exact Ref.n0 (t := ((u49.1 ++ [r73.1]), r73.2.1))
    ·
     exact Ref.n0 (t := (u69.1, u69.2))
   ·
    refine Ref.ck ⟨[(5, .c (.own 0 u49.1.length))], [E41.row u49.1], [], 0⟩ [5] [0] ?_
    exact Ref.xt 0 (t := (Sum.inl (u49.1)))
  ·
   refine Ref.sq ?_
   refine Ref.rn 20 ?_
   refine RefR.e0 (st' := ⟨[(2, .c (.own 0 u38.length)), sI 3 0, sI 4 0], [E41.row u38], [], 0⟩) 0 4 4 [2, 3, 4] [0] ?_
   refine RefR.nl 4 ?_
   refine Ref.conv (Conv.freeze (st' := ⟨[(2, .c (E41.tree u38)), sI 3 0, sI 4 0], [.dead], [], 0⟩) 0 (by kernel_rfl)) ?_
   refine Ref.ck ⟨[(2, .c (E41.tree u38)), sI 3 0, sI 4 0], [], [], 0⟩ [2, 3, 4] [] ?_
   exact Ref.rt (t := (u38, 0, 0))
end Go.Proofs.YtphnfaabcnciiaaGreatDoor
