/- Plain functions, and that the Go functions do what these do: printed by gen2.py. No conditions. -/
import Derived.Test.YtnneapbegnmncaaGreatDoorLGb
import Derived.Test.YtnneapbegnmncaaGreatDoorProg
set_option linter.unusedVariables false
set_option linter.unusedSimpArgs false
set_option linter.unusedSectionVars false
namespace Go.Proofs.YtnneapbegnmncaaGreatDoor
open Go Go.Proofs Go.Dl

/-- governor/governorref3.in -/
def F42 (K : Nat) (a0 : Bytes) (a1 : Bytes) : Option ((Bool) ⊕ (Bool)) :=
  (bindS (blockS ((iter K (fun (u22 : Int) => (letV (decide (((IntKind.i64.wrap (u22 + (Int.ofNat a1.length))) : Int) ≤ (Int.ofNat a0.length))) (fun (x28 : Bool) => (if x28 = true then (bindS (blockS (chk [bndOk a0.length u22 (IntKind.i64.wrap (u22 + (Int.ofNat a1.length)))] (letV (((a0.drop (u22 : Int).toNat).take (((IntKind.i64.wrap (u22 + (Int.ofNat a1.length))) : Int).toNat - (u22 : Int).toNat)) == a1) (fun (x31 : Bool) => (if x31 = true then (some (.inl (Sum.inr (Sum.inr (true))))) else (some (.inr ()))))))) (fun (u30 : Unit) => (some (.inr ((IntKind.i64.wrap (u22 + 1))))))) else (some (.inl (Sum.inl ()))))))) (0)).map .inl)) (fun (u16 : Unit) => (some (.inl (false)))))

theorem F42_ok (K : Nat) (a0 : Bytes) (a1 : Bytes) : DFun Tryz.prog 42 [.c (.str a0), .c (.str a1)] [] (fnS (F42 K a0 a1)) (fun r => .c (.val (.bool r))) (fun r => []) := by
  refine DFun.intro (fn := Tryz.f42) (c := cd (bd Tryz.f42) []) (rs := fun r => ⟨[(4, .c (.val (.bool r)))], [], [], 0⟩) (by kernel_rfl) (by kernel_rfl) (by kernel_rfl) ?_ (fun r => by kernel_rfl) (fun r => by kernel_rfl) (fun r => by kernel_rfl) (fun r => by kernel_rfl)
  unfold F42
  refine Ref.seqC (cd (bd Tryz.f42) [0]) (cd (bd Tryz.f42) [1]) (by kernel_rfl) ?_
  refine Ref.regionC 0 (by kernel_rfl) ?_
  refine RefR.ev0 (st' := ⟨[(0, .c (.str a0)), (1, .c (.str a1))], [], [], 0⟩) 0 1 1 [0, 1] [] rfl (by kernel_rfl) ?_
  refine RefR.nilC 1 (by kernel_rfl) ?_
  refine Ref.seqC (cd (bd Tryz.f42) [1, 0]) (cd (bd Tryz.f42) [1, 1]) (by kernel_rfl) ?_
  refine Ref.seqC (cd (bd Tryz.f42) [1, 0, 0]) (cd (bd Tryz.f42) [1, 0, 1]) (by kernel_rfl) ?_
  refine Ref.regionC 1 (by kernel_rfl) ?_
  refine RefR.ev0 (st' := ⟨[(0, .c (.str a0)), (1, .c (.str a1)), (5, .c (.val (.int .i64 0)))], [], [], 0⟩) 0 1 1 [0, 1, 5] [] rfl (by kernel_rfl) ?_
  refine RefR.nilC 1 (by kernel_rfl) ?_
  refine Ref.codeEq (c' := .block 0 (cd (bd Tryz.f42) [1, 0, 1, 0])) (by kernel_rfl) ?_
  refine Ref.block (go1 := fun u16 => ⟨[], [], [], 0⟩) ?_ (fun _ h => by cases h) (fun u16 => ?_)
  ·
    refine Ref.codeEq (c' := .loop (cd (bd Tryz.f42) [1, 0, 1, 0, 0])) (by kernel_rfl) ?_
    refine Ref.loop (hd := fun u22 => ⟨[(0, .c (.str a0)), (1, .c (.str a1)), (5, .c (.val (.int .i64 u22)))], [], [], 0⟩) K (0) (by kernel_rfl) (fun u22 => ?_)
    refine Ref.seqC (cd (bd Tryz.f42) [1, 0, 1, 0, 0, 0]) (cd (bd Tryz.f42) [1, 0, 1, 0, 0, 1]) (by kernel_rfl) ?_
    refine Ref.seqC (cd (bd Tryz.f42) [1, 0, 1, 0, 0, 0, 0]) (cd (bd Tryz.f42) [1, 0, 1, 0, 0, 0, 1]) (by kernel_rfl) ?_
    refine Ref.regionC 2 (by kernel_rfl) ?_
    refine RefR.ev0 (st' := ⟨[(0, .c (.str a0)), (1, .c (.str a1)), (5, .c (.val (.int .i64 u22))), (12, .c (.val (.bool (decide (((IntKind.i64.wrap (u22 + (Int.ofNat a1.length))) : Int) ≤ (Int.ofNat a0.length))))))], [], [], 0⟩) 0 7 7 [0, 1, 5, 12] [] rfl (by kernel_rfl) ?_
    refine RefR.letC (stf := fun x28 => ⟨[(0, .c (.str a0)), (1, .c (.str a1)), (5, .c (.val (.int .i64 u22))), (12, .c (.val (.bool x28)))], [], [], 0⟩) (by kernel_rfl) (fun x28 => ?_)
    refine RefR.nilC 7 (by kernel_rfl) ?_
    refine Ref.condC (.tmp 12) x28 (by kernel_rfl) rfl (by kernel_rfl) (fun hc => ?_) (fun hc => ?_)
    ·
      refine Ref.skipC (by kernel_rfl) ?_
      refine Ref.seqC (cd (bd Tryz.f42) [1, 0, 1, 0, 0, 1, 0]) (cd (bd Tryz.f42) [1, 0, 1, 0, 0, 1, 1]) (by kernel_rfl) ?_
      refine Ref.codeEq (c' := .block 1 (cd (bd Tryz.f42) [1, 0, 1, 0, 0, 1, 0, 0])) (by kernel_rfl) ?_
      refine Ref.block (go1 := fun u30 => ⟨[(0, .c (.str a0)), (1, .c (.str a1)), (5, .c (.val (.int .i64 u22)))], [], [], 0⟩) ?_ (fun a => match a with | .inl _ => (fun h => by cases h) | .inr _ => (fun h => by cases h)) (fun u30 => ?_)
      ·
        refine Ref.seqC (cd (bd Tryz.f42) [1, 0, 1, 0, 0, 1, 0, 0, 0]) (cd (bd Tryz.f42) [1, 0, 1, 0, 0, 1, 0, 0, 1]) (by kernel_rfl) ?_
        refine Ref.regionC 4 (by kernel_rfl) ?_
        refine RefR.evC (vs := [bndOk a0.length u22 (IntKind.i64.wrap (u22 + (Int.ofNat a1.length)))]) (st' := ⟨[(0, .c (.str a0)), (1, .c (.str a1)), (5, .c (.val (.int .i64 u22))), (23, .c (.val (.bool (((a0.drop (u22 : Int).toNat).take (((IntKind.i64.wrap (u22 + (Int.ofNat a1.length))) : Int).toNat - (u22 : Int).toNat)) == a1))))], [], [], 0⟩) 0 9 9 [0, 1, 5, 23] [] rfl (by kernel_rfl) ?_
        refine RefR.letC (stf := fun x31 => ⟨[(0, .c (.str a0)), (1, .c (.str a1)), (5, .c (.val (.int .i64 u22))), (23, .c (.val (.bool x31)))], [], [], 0⟩) (by kernel_rfl) (fun x31 => ?_)
        refine RefR.nilC 9 (by kernel_rfl) ?_
        refine Ref.condC (.tmp 23) x31 (by kernel_rfl) rfl (by kernel_rfl) (fun hc => ?_) (fun hc => ?_)
        ·
          refine Ref.seqC (cd (bd Tryz.f42) [1, 0, 1, 0, 0, 1, 0, 0, 1, 0, 0]) (cd (bd Tryz.f42) [1, 0, 1, 0, 0, 1, 0, 0, 1, 0, 1]) (by kernel_rfl) ?_
          refine Ref.regionC 5 (by kernel_rfl) ?_
          refine RefR.ev0 (st' := ⟨[(4, .c (.val (.bool true)))], [], [], 0⟩) 0 1 1 [4] [] rfl (by kernel_rfl) ?_
          refine RefR.nilC 1 (by kernel_rfl) ?_
          exact Ref.retC (t := (Sum.inr (Sum.inr (true)))) (by kernel_rfl) (by kernel_rfl)
        ·
          refine Ref.skipC (by kernel_rfl) ?_
          refine Ref.conv (Conv.keep (st' := ⟨[(0, .c (.str a0)), (1, .c (.str a1)), (5, .c (.val (.int .i64 u22)))], [], [], 0⟩) [0, 1, 5] [] (by kernel_rfl)) ?_
          exact Ref.nil (t := ()) (by kernel_rfl)
      ·
        refine Ref.regionC 3 (by kernel_rfl) ?_
        refine RefR.ev0 (st' := ⟨[(0, .c (.str a0)), (1, .c (.str a1)), (5, .c (.val (.int .i64 (IntKind.i64.wrap (u22 + 1)))))], [], [], 0⟩) 0 3 3 [0, 1, 5] [] rfl (by kernel_rfl) ?_
        refine RefR.nilC 3 (by kernel_rfl) ?_
        exact Ref.nil (t := ((IntKind.i64.wrap (u22 + 1)))) (by kernel_rfl)
    ·
      refine Ref.conv (Conv.keep (st' := ⟨[], [], [], 0⟩) [] [] (by kernel_rfl)) ?_
      exact Ref.exitC 0 (t := (Sum.inl ())) (by kernel_rfl) (by kernel_rfl)
  ·
    refine Ref.seqC (cd (bd Tryz.f42) [1, 1, 0]) (cd (bd Tryz.f42) [1, 1, 1]) (by kernel_rfl) ?_
    refine Ref.regionC 6 (by kernel_rfl) ?_
    refine RefR.ev0 (st' := ⟨[(4, .c (.val (.bool false)))], [], [], 0⟩) 0 1 1 [4] [] rfl (by kernel_rfl) ?_
    refine RefR.nilC 1 (by kernel_rfl) ?_
    exact Ref.retC (t := (false)) (by kernel_rfl) (by kernel_rfl)

/-- governor/governorref3.digit -/
def F30 (K : Nat) (a0 : UInt8) : Option ((Bool) ⊕ (Bool)) :=
  (letV ((decide (((Int.ofNat a0.toNat) : Int) ≥ 48)) && (decide (((Int.ofNat a0.toNat) : Int) ≤ 57))) (fun (x1 : Bool) => (some (.inl (x1)))))

theorem F30_ok (K : Nat) (a0 : UInt8) : DFun Tryz.prog 30 [.c (.val (.int .u8 (Int.ofNat a0.toNat)))] [] (fnS (F30 K a0)) (fun r => .c (.val (.bool r))) (fun r => []) := by
  refine DFun.intro (fn := Tryz.f30) (c := cd (bd Tryz.f30) []) (rs := fun r => ⟨[(2, .c (.val (.bool r)))], [], [], 0⟩) (by kernel_rfl) (by kernel_rfl) (by kernel_rfl) ?_ (fun r => by kernel_rfl) (fun r => by kernel_rfl) (fun r => by kernel_rfl) (fun r => by kernel_rfl)
  unfold F30
  refine Ref.seqC (cd (bd Tryz.f30) [0]) (cd (bd Tryz.f30) [1]) (by kernel_rfl) ?_
  refine Ref.regionC 0 (by kernel_rfl) ?_
  refine RefR.ev0 (st' := ⟨[(0, .c (.val (.int .u8 (Int.ofNat a0.toNat))))], [], [], 0⟩) 0 1 1 [0] [] rfl (by kernel_rfl) ?_
  refine RefR.nilC 1 (by kernel_rfl) ?_
  refine Ref.seqC (cd (bd Tryz.f30) [1, 0]) (cd (bd Tryz.f30) [1, 1]) (by kernel_rfl) ?_
  refine Ref.regionC 1 (by kernel_rfl) ?_
  refine RefR.ev0 (st' := ⟨[(2, .c (.val (.bool ((decide (((Int.ofNat a0.toNat) : Int) ≥ 48)) && (decide (((Int.ofNat a0.toNat) : Int) ≤ 57))))))], [], [], 0⟩) 0 7 7 [2] [] rfl (by kernel_rfl) ?_
  refine RefR.letC (stf := fun x1 => ⟨[(2, .c (.val (.bool x1)))], [], [], 0⟩) (by kernel_rfl) (fun x1 => ?_)
  refine RefR.nilC 7 (by kernel_rfl) ?_
  exact Ref.retC (t := (x1)) (by kernel_rfl) (by kernel_rfl)

/-- governor/governorref3.first -/
def F28 (K : Nat) (a0 : UInt8) : Option ((Bool) ⊕ (Bool)) :=
  (letV (((decide (((Int.ofNat a0.toNat) : Int) ≥ 65)) && (decide (((Int.ofNat a0.toNat) : Int) ≤ 90))) || ((decide (((Int.ofNat a0.toNat) : Int) ≥ 97)) && (decide (((Int.ofNat a0.toNat) : Int) ≤ 122)))) (fun (x1 : Bool) => (some (.inl (x1)))))

theorem F28_ok (K : Nat) (a0 : UInt8) : DFun Tryz.prog 28 [.c (.val (.int .u8 (Int.ofNat a0.toNat)))] [] (fnS (F28 K a0)) (fun r => .c (.val (.bool r))) (fun r => []) := by
  refine DFun.intro (fn := Tryz.f28) (c := cd (bd Tryz.f28) []) (rs := fun r => ⟨[(2, .c (.val (.bool r)))], [], [], 0⟩) (by kernel_rfl) (by kernel_rfl) (by kernel_rfl) ?_ (fun r => by kernel_rfl) (fun r => by kernel_rfl) (fun r => by kernel_rfl) (fun r => by kernel_rfl)
  unfold F28
  refine Ref.seqC (cd (bd Tryz.f28) [0]) (cd (bd Tryz.f28) [1]) (by kernel_rfl) ?_
  refine Ref.regionC 0 (by kernel_rfl) ?_
  refine RefR.ev0 (st' := ⟨[(0, .c (.val (.int .u8 (Int.ofNat a0.toNat))))], [], [], 0⟩) 0 1 1 [0] [] rfl (by kernel_rfl) ?_
  refine RefR.nilC 1 (by kernel_rfl) ?_
  refine Ref.seqC (cd (bd Tryz.f28) [1, 0]) (cd (bd Tryz.f28) [1, 1]) (by kernel_rfl) ?_
  refine Ref.regionC 1 (by kernel_rfl) ?_
  refine RefR.ev0 (st' := ⟨[(2, .c (.val (.bool (((decide (((Int.ofNat a0.toNat) : Int) ≥ 65)) && (decide (((Int.ofNat a0.toNat) : Int) ≤ 90))) || ((decide (((Int.ofNat a0.toNat) : Int) ≥ 97)) && (decide (((Int.ofNat a0.toNat) : Int) ≤ 122)))))))], [], [], 0⟩) 0 15 15 [2] [] rfl (by kernel_rfl) ?_
  refine RefR.letC (stf := fun x1 => ⟨[(2, .c (.val (.bool x1)))], [], [], 0⟩) (by kernel_rfl) (fun x1 => ?_)
  refine RefR.nilC 15 (by kernel_rfl) ?_
  exact Ref.retC (t := (x1)) (by kernel_rfl) (by kernel_rfl)

/-- governor/governorref3.more -/
def F29 (K : Nat) (a0 : UInt8) : Option ((Bool) ⊕ (Bool)) :=
  ((fnS (F28 K a0)).bind (fun r1 => ((condM (!r1) (fnS (F30 K a0)) default).bind (fun r2 => (letV ((r1 || r2) || (((Int.ofNat a0.toNat) : Int) == 95)) (fun (x3 : Bool) => (some (.inl (x3)))))))))

theorem F29_ok (K : Nat) (a0 : UInt8) : DFun Tryz.prog 29 [.c (.val (.int .u8 (Int.ofNat a0.toNat)))] [] (fnS (F29 K a0)) (fun r => .c (.val (.bool r))) (fun r => []) := by
  refine DFun.intro (fn := Tryz.f29) (c := cd (bd Tryz.f29) []) (rs := fun r => ⟨[(2, .c (.val (.bool r)))], [], [], 0⟩) (by kernel_rfl) (by kernel_rfl) (by kernel_rfl) ?_ (fun r => by kernel_rfl) (fun r => by kernel_rfl) (fun r => by kernel_rfl) (fun r => by kernel_rfl)
  unfold F29
  refine Ref.seqC (cd (bd Tryz.f29) [0]) (cd (bd Tryz.f29) [1]) (by kernel_rfl) ?_
  refine Ref.regionC 0 (by kernel_rfl) ?_
  refine RefR.ev0 (st' := ⟨[(0, .c (.val (.int .u8 (Int.ofNat a0.toNat))))], [], [], 0⟩) 0 1 1 [0] [] rfl (by kernel_rfl) ?_
  refine RefR.nilC 1 (by kernel_rfl) ?_
  refine Ref.seqC (cd (bd Tryz.f29) [1, 0]) (cd (bd Tryz.f29) [1, 1]) (by kernel_rfl) ?_
  refine Ref.regionC 1 (by kernel_rfl) ?_
  refine RefR.ev0 (st' := ⟨[(0, .c (.val (.int .u8 (Int.ofNat a0.toNat)))), (3, .c (.val (.int .u8 (Int.ofNat a0.toNat))))], [], [], 0⟩) 0 1 1 [0, 3] [] rfl (by kernel_rfl) ?_
  refine RefR.callC (t := 4) 1 2 [] rfl (by kernel_rfl) (F28_ok K a0) (fun r1 => ?_)
  refine RefR.ev0 (st' := ⟨[(0, .c (.val (.int .u8 (Int.ofNat a0.toNat)))), (5, .c (.val (.bool r1))), (6, .c (.val (.int .u8 (Int.ofNat a0.toNat))))], [], [(6, [(5, false)])], 0⟩) 2 2 4 [0, 5, 6] [] rfl (by kernel_rfl) ?_
  refine RefR.lookC (t := 7) (g := [(5, false)]) (b := (!r1)) 4 5 [] (default : Bool) rfl (by kernel_rfl) (F30_ok K a0) (fun _ => rfl) (fun r2 => ?_)
  refine RefR.ev0 (st' := ⟨[(2, .c (.val (.bool ((r1 || r2) || (((Int.ofNat a0.toNat) : Int) == 95)))))], [], [], 0⟩) 5 6 11 [2] [] rfl (by kernel_rfl) ?_
  refine RefR.letC (stf := fun x3 => ⟨[(2, .c (.val (.bool x3)))], [], [], 0⟩) (by kernel_rfl) (fun x3 => ?_)
  refine RefR.nilC 11 (by kernel_rfl) ?_
  exact Ref.retC (t := (x3)) (by kernel_rfl) (by kernel_rfl)

/-- governor/governorref3.letters -/
def F20 (K : Nat) (a0 : Bytes) : Option ((Bool) ⊕ (Bool)) :=
  (bindS (blockS ((iter K (fun (u20 : Int) => (letV (decide ((u20 : Int) < (Int.ofNat a0.length))) (fun (x26 : Bool) => (if x26 = true then (bindS (blockS (chk [inb u20 a0.length] ((fnS (F29 K (a0.getD (u20 : Int).toNat 0))).bind (fun r29 => (if (!r29) = true then (some (.inl (Sum.inr (Sum.inr (false))))) else (some (.inr ()))))))) (fun (u28 : Unit) => (some (.inr ((IntKind.i64.wrap (u20 + 1))))))) else (some (.inl (Sum.inl ()))))))) (0)).map .inl)) (fun (u15 : Unit) => (some (.inl (true)))))

theorem F20_ok (K : Nat) (a0 : Bytes) : DFun Tryz.prog 20 [.c (.str a0)] [] (fnS (F20 K a0)) (fun r => .c (.val (.bool r))) (fun r => []) := by
  refine DFun.intro (fn := Tryz.f20) (c := cd (bd Tryz.f20) []) (rs := fun r => ⟨[(2, .c (.val (.bool r)))], [], [], 0⟩) (by kernel_rfl) (by kernel_rfl) (by kernel_rfl) ?_ (fun r => by kernel_rfl) (fun r => by kernel_rfl) (fun r => by kernel_rfl) (fun r => by kernel_rfl)
  unfold F20
  refine Ref.seqC (cd (bd Tryz.f20) [0]) (cd (bd Tryz.f20) [1]) (by kernel_rfl) ?_
  refine Ref.regionC 0 (by kernel_rfl) ?_
  refine RefR.ev0 (st' := ⟨[(0, .c (.str a0))], [], [], 0⟩) 0 1 1 [0] [] rfl (by kernel_rfl) ?_
  refine RefR.nilC 1 (by kernel_rfl) ?_
  refine Ref.seqC (cd (bd Tryz.f20) [1, 0]) (cd (bd Tryz.f20) [1, 1]) (by kernel_rfl) ?_
  refine Ref.seqC (cd (bd Tryz.f20) [1, 0, 0]) (cd (bd Tryz.f20) [1, 0, 1]) (by kernel_rfl) ?_
  refine Ref.regionC 1 (by kernel_rfl) ?_
  refine RefR.ev0 (st' := ⟨[(0, .c (.str a0)), (3, .c (.val (.int .i64 0)))], [], [], 0⟩) 0 1 1 [0, 3] [] rfl (by kernel_rfl) ?_
  refine RefR.nilC 1 (by kernel_rfl) ?_
  refine Ref.codeEq (c' := .block 0 (cd (bd Tryz.f20) [1, 0, 1, 0])) (by kernel_rfl) ?_
  refine Ref.block (go1 := fun u15 => ⟨[], [], [], 0⟩) ?_ (fun _ h => by cases h) (fun u15 => ?_)
  ·
    refine Ref.codeEq (c' := .loop (cd (bd Tryz.f20) [1, 0, 1, 0, 0])) (by kernel_rfl) ?_
    refine Ref.loop (hd := fun u20 => ⟨[(0, .c (.str a0)), (3, .c (.val (.int .i64 u20)))], [], [], 0⟩) K (0) (by kernel_rfl) (fun u20 => ?_)
    refine Ref.seqC (cd (bd Tryz.f20) [1, 0, 1, 0, 0, 0]) (cd (bd Tryz.f20) [1, 0, 1, 0, 0, 1]) (by kernel_rfl) ?_
    refine Ref.seqC (cd (bd Tryz.f20) [1, 0, 1, 0, 0, 0, 0]) (cd (bd Tryz.f20) [1, 0, 1, 0, 0, 0, 1]) (by kernel_rfl) ?_
    refine Ref.regionC 2 (by kernel_rfl) ?_
    refine RefR.ev0 (st' := ⟨[(0, .c (.str a0)), (3, .c (.val (.int .i64 u20))), (7, .c (.val (.bool (decide ((u20 : Int) < (Int.ofNat a0.length))))))], [], [], 0⟩) 0 4 4 [0, 3, 7] [] rfl (by kernel_rfl) ?_
    refine RefR.letC (stf := fun x26 => ⟨[(0, .c (.str a0)), (3, .c (.val (.int .i64 u20))), (7, .c (.val (.bool x26)))], [], [], 0⟩) (by kernel_rfl) (fun x26 => ?_)
    refine RefR.nilC 4 (by kernel_rfl) ?_
    refine Ref.condC (.tmp 7) x26 (by kernel_rfl) rfl (by kernel_rfl) (fun hc => ?_) (fun hc => ?_)
    ·
      refine Ref.skipC (by kernel_rfl) ?_
      refine Ref.seqC (cd (bd Tryz.f20) [1, 0, 1, 0, 0, 1, 0]) (cd (bd Tryz.f20) [1, 0, 1, 0, 0, 1, 1]) (by kernel_rfl) ?_
      refine Ref.codeEq (c' := .block 1 (cd (bd Tryz.f20) [1, 0, 1, 0, 0, 1, 0, 0])) (by kernel_rfl) ?_
      refine Ref.block (go1 := fun u28 => ⟨[(0, .c (.str a0)), (3, .c (.val (.int .i64 u20)))], [], [], 0⟩) ?_ (fun a => match a with | .inl _ => (fun h => by cases h) | .inr _ => (fun h => by cases h)) (fun u28 => ?_)
      ·
        refine Ref.seqC (cd (bd Tryz.f20) [1, 0, 1, 0, 0, 1, 0, 0, 0]) (cd (bd Tryz.f20) [1, 0, 1, 0, 0, 1, 0, 0, 1]) (by kernel_rfl) ?_
        refine Ref.regionC 4 (by kernel_rfl) ?_
        refine RefR.evC (vs := [inb u20 a0.length]) (st' := ⟨[(0, .c (.str a0)), (3, .c (.val (.int .i64 u20))), (12, .c (.val (.int .u8 (Int.ofNat (a0.getD (u20 : Int).toNat 0).toNat))))], [], [], 0⟩) 0 3 3 [0, 3, 12] [] rfl (by kernel_rfl) ?_
        refine RefR.callC (t := 13) 3 4 [] rfl (by kernel_rfl) (F29_ok K (a0.getD (u20 : Int).toNat 0)) (fun r29 => ?_)
        refine RefR.ev0 (st' := ⟨[(0, .c (.str a0)), (3, .c (.val (.int .i64 u20))), (14, .c (.val (.bool (!r29))))], [], [], 0⟩) 4 1 5 [0, 3, 14] [] rfl (by kernel_rfl) ?_
        refine RefR.nilC 5 (by kernel_rfl) ?_
        refine Ref.condC (.tmp 14) (!r29) (by kernel_rfl) rfl (by kernel_rfl) (fun hc => ?_) (fun hc => ?_)
        ·
          refine Ref.seqC (cd (bd Tryz.f20) [1, 0, 1, 0, 0, 1, 0, 0, 1, 0, 0]) (cd (bd Tryz.f20) [1, 0, 1, 0, 0, 1, 0, 0, 1, 0, 1]) (by kernel_rfl) ?_
          refine Ref.regionC 5 (by kernel_rfl) ?_
          refine RefR.ev0 (st' := ⟨[(2, .c (.val (.bool false)))], [], [], 0⟩) 0 1 1 [2] [] rfl (by kernel_rfl) ?_
          refine RefR.nilC 1 (by kernel_rfl) ?_
          exact Ref.retC (t := (Sum.inr (Sum.inr (false)))) (by kernel_rfl) (by kernel_rfl)
        ·
          refine Ref.skipC (by kernel_rfl) ?_
          refine Ref.conv (Conv.keep (st' := ⟨[(0, .c (.str a0)), (3, .c (.val (.int .i64 u20)))], [], [], 0⟩) [0, 3] [] (by kernel_rfl)) ?_
          exact Ref.nil (t := ()) (by kernel_rfl)
      ·
        refine Ref.regionC 3 (by kernel_rfl) ?_
        refine RefR.ev0 (st' := ⟨[(0, .c (.str a0)), (3, .c (.val (.int .i64 (IntKind.i64.wrap (u20 + 1)))))], [], [], 0⟩) 0 3 3 [0, 3] [] rfl (by kernel_rfl) ?_
        refine RefR.nilC 3 (by kernel_rfl) ?_
        exact Ref.nil (t := ((IntKind.i64.wrap (u20 + 1)))) (by kernel_rfl)
    ·
      refine Ref.conv (Conv.keep (st' := ⟨[], [], [], 0⟩) [] [] (by kernel_rfl)) ?_
      exact Ref.exitC 0 (t := (Sum.inl ())) (by kernel_rfl) (by kernel_rfl)
  ·
    refine Ref.seqC (cd (bd Tryz.f20) [1, 1, 0]) (cd (bd Tryz.f20) [1, 1, 1]) (by kernel_rfl) ?_
    refine Ref.regionC 6 (by kernel_rfl) ?_
    refine RefR.ev0 (st' := ⟨[(2, .c (.val (.bool true)))], [], [], 0⟩) 0 1 1 [2] [] rfl (by kernel_rfl) ?_
    refine RefR.nilC 1 (by kernel_rfl) ?_
    exact Ref.retC (t := (true)) (by kernel_rfl) (by kernel_rfl)

/-- governor/governorref3.IsKey -/
def F10 (K : Nat) (a0 : Bytes) : Option ((Bool) ⊕ (Bool)) :=
  ((condM (!(a0 == ([] : Bytes))) (fnS (F20 K a0)) default).bind (fun r1 => (if ((a0 == ([] : Bytes)) || (!r1)) = true then (some (.inl (false))) else (chk [room (([32] : Bytes).length + a0.length), room ((([32] : Bytes) ++ a0).length + ([32] : Bytes).length)] (bindS (blockS ((iter K (fun (u23 : Int) => (letV (decide (((IntKind.i64.wrap (u23 + (Int.ofNat ((([32] : Bytes) ++ a0) ++ ([32] : Bytes)).length))) : Int) ≤ 386)) (fun (x29 : Bool) => (if x29 = true then (bindS (blockS (chk [bndOk ([32, 73, 78, 84, 69, 82, 70, 65, 67, 69, 32, 69, 78, 68, 95, 73, 78, 84, 69, 82, 70, 65, 67, 69, 32, 67, 76, 65, 83, 83, 32, 69, 78, 68, 95, 67, 76, 65, 83, 83, 32, 80, 82, 79, 71, 82, 65, 77, 32, 69, 78, 68, 95, 80, 82, 79, 71, 82, 65, 77, 32, 77, 69, 84, 72, 79, 68, 32, 69, 78, 68, 95, 77, 69, 84, 72, 79, 68, 32, 84, 65, 83, 75, 32, 73, 78, 84, 69, 82, 86, 65, 76, 32, 80, 82, 73, 79, 82, 73, 84, 89, 32, 69, 88, 84, 69, 78, 68, 83, 32, 73, 77, 80, 76, 69, 77, 69, 78, 84, 83, 32, 65, 66, 83, 84, 82, 65, 67, 84, 32, 70, 73, 78, 65, 76, 32, 79, 86, 69, 82, 82, 73, 68, 69, 32, 86, 65, 82, 32, 65, 84, 32, 73, 78, 32, 79, 85, 84, 32, 73, 78, 84, 32, 66, 79, 79, 76, 32, 82, 69, 65, 76, 32, 76, 82, 69, 65, 76, 32, 65, 82, 82, 65, 89, 32, 79, 70, 32, 82, 69, 70, 95, 84, 79, 32, 82, 69, 70, 32, 84, 79, 78, 32, 84, 79, 70, 32, 84, 80, 32, 67, 84, 85, 32, 67, 84, 68, 32, 82, 95, 84, 82, 73, 71, 32, 70, 95, 84, 82, 73, 71, 32, 84, 82, 85, 69, 32, 70, 65, 76, 83, 69, 32, 78, 85, 76, 76, 32, 84, 72, 73, 83, 32, 83, 85, 80, 69, 82, 32, 65, 83, 32, 78, 79, 84, 32, 65, 78, 68, 32, 79, 82, 32, 88, 79, 82, 32, 77, 79, 68, 32, 73, 70, 32, 84, 72, 69, 78, 32, 69, 76, 83, 73, 70, 32, 69, 76, 83, 69, 32, 69, 78, 68, 95, 73, 70, 32, 67, 65, 83, 69, 32, 69, 78, 68, 95, 67, 65, 83, 69, 32, 87, 72, 73, 76, 69, 32, 68, 79, 32, 69, 78, 68, 95, 87, 72, 73, 76, 69, 32, 70, 79, 82, 32, 84, 79, 32, 66, 89, 32, 69, 78, 68, 95, 70, 79, 82, 32, 82, 69, 84, 85, 82, 78, 32, 69, 88, 73, 84, 32, 83, 84, 69, 80, 32, 68, 79, 78, 69, 32, 67, 79, 85, 78, 84, 32] : Bytes).length u23 (IntKind.i64.wrap (u23 + (Int.ofNat ((([32] : Bytes) ++ a0) ++ ([32] : Bytes)).length)))] (letV (((([32, 73, 78, 84, 69, 82, 70, 65, 67, 69, 32, 69, 78, 68, 95, 73, 78, 84, 69, 82, 70, 65, 67, 69, 32, 67, 76, 65, 83, 83, 32, 69, 78, 68, 95, 67, 76, 65, 83, 83, 32, 80, 82, 79, 71, 82, 65, 77, 32, 69, 78, 68, 95, 80, 82, 79, 71, 82, 65, 77, 32, 77, 69, 84, 72, 79, 68, 32, 69, 78, 68, 95, 77, 69, 84, 72, 79, 68, 32, 84, 65, 83, 75, 32, 73, 78, 84, 69, 82, 86, 65, 76, 32, 80, 82, 73, 79, 82, 73, 84, 89, 32, 69, 88, 84, 69, 78, 68, 83, 32, 73, 77, 80, 76, 69, 77, 69, 78, 84, 83, 32, 65, 66, 83, 84, 82, 65, 67, 84, 32, 70, 73, 78, 65, 76, 32, 79, 86, 69, 82, 82, 73, 68, 69, 32, 86, 65, 82, 32, 65, 84, 32, 73, 78, 32, 79, 85, 84, 32, 73, 78, 84, 32, 66, 79, 79, 76, 32, 82, 69, 65, 76, 32, 76, 82, 69, 65, 76, 32, 65, 82, 82, 65, 89, 32, 79, 70, 32, 82, 69, 70, 95, 84, 79, 32, 82, 69, 70, 32, 84, 79, 78, 32, 84, 79, 70, 32, 84, 80, 32, 67, 84, 85, 32, 67, 84, 68, 32, 82, 95, 84, 82, 73, 71, 32, 70, 95, 84, 82, 73, 71, 32, 84, 82, 85, 69, 32, 70, 65, 76, 83, 69, 32, 78, 85, 76, 76, 32, 84, 72, 73, 83, 32, 83, 85, 80, 69, 82, 32, 65, 83, 32, 78, 79, 84, 32, 65, 78, 68, 32, 79, 82, 32, 88, 79, 82, 32, 77, 79, 68, 32, 73, 70, 32, 84, 72, 69, 78, 32, 69, 76, 83, 73, 70, 32, 69, 76, 83, 69, 32, 69, 78, 68, 95, 73, 70, 32, 67, 65, 83, 69, 32, 69, 78, 68, 95, 67, 65, 83, 69, 32, 87, 72, 73, 76, 69, 32, 68, 79, 32, 69, 78, 68, 95, 87, 72, 73, 76, 69, 32, 70, 79, 82, 32, 84, 79, 32, 66, 89, 32, 69, 78, 68, 95, 70, 79, 82, 32, 82, 69, 84, 85, 82, 78, 32, 69, 88, 73, 84, 32, 83, 84, 69, 80, 32, 68, 79, 78, 69, 32, 67, 79, 85, 78, 84, 32] : Bytes).drop (u23 : Int).toNat).take (((IntKind.i64.wrap (u23 + (Int.ofNat ((([32] : Bytes) ++ a0) ++ ([32] : Bytes)).length))) : Int).toNat - (u23 : Int).toNat)) == ((([32] : Bytes) ++ a0) ++ ([32] : Bytes))) (fun (x32 : Bool) => (if x32 = true then (some (.inl (Sum.inr (Sum.inr (true))))) else (some (.inr ()))))))) (fun (u31 : Unit) => (some (.inr ((IntKind.i64.wrap (u23 + 1))))))) else (some (.inl (Sum.inl ()))))))) (0)).map .inl)) (fun (u17 : Unit) => (some (.inl (false)))))))))

theorem F10_ok (K : Nat) (a0 : Bytes) : DFun Tryz.prog 10 [.c (.str a0)] [] (fnS (F10 K a0)) (fun r => .c (.val (.bool r))) (fun r => []) := by
  refine DFun.intro (fn := Tryz.f10) (c := cd (bd Tryz.f10) []) (rs := fun r => ⟨[(2, .c (.val (.bool r)))], [], [], 0⟩) (by kernel_rfl) (by kernel_rfl) (by kernel_rfl) ?_ (fun r => by kernel_rfl) (fun r => by kernel_rfl) (fun r => by kernel_rfl) (fun r => by kernel_rfl)
  unfold F10
  refine Ref.seqC (cd (bd Tryz.f10) [0]) (cd (bd Tryz.f10) [1]) (by kernel_rfl) ?_
  refine Ref.regionC 0 (by kernel_rfl) ?_
  refine RefR.ev0 (st' := ⟨[(0, .c (.str a0))], [], [], 0⟩) 0 1 1 [0] [] rfl (by kernel_rfl) ?_
  refine RefR.nilC 1 (by kernel_rfl) ?_
  refine Ref.seqC (cd (bd Tryz.f10) [1, 0]) (cd (bd Tryz.f10) [1, 1]) (by kernel_rfl) ?_
  refine Ref.seqC (cd (bd Tryz.f10) [1, 0, 0]) (cd (bd Tryz.f10) [1, 0, 1]) (by kernel_rfl) ?_
  refine Ref.regionC 1 (by kernel_rfl) ?_
  refine RefR.ev0 (st' := ⟨[(0, .c (.str a0)), (7, .c (.val (.bool (a0 == ([] : Bytes))))), (8, .c (.str a0))], [], [(8, [(7, false)])], 0⟩) 0 4 4 [0, 7, 8] [] rfl (by kernel_rfl) ?_
  refine RefR.lookC (t := 9) (g := [(7, false)]) (b := (!(a0 == ([] : Bytes)))) 4 5 [] (default : Bool) rfl (by kernel_rfl) (F20_ok K a0) (fun _ => rfl) (fun r1 => ?_)
  refine RefR.ev0 (st' := ⟨[(0, .c (.str a0)), (11, .c (.val (.bool ((a0 == ([] : Bytes)) || (!r1)))))], [], [], 0⟩) 5 2 7 [0, 11] [] rfl (by kernel_rfl) ?_
  refine RefR.nilC 7 (by kernel_rfl) ?_
  refine Ref.condC (.tmp 11) ((a0 == ([] : Bytes)) || (!r1)) (by kernel_rfl) rfl (by kernel_rfl) (fun hc => ?_) (fun hc => ?_)
  ·
    refine Ref.seqC (cd (bd Tryz.f10) [1, 0, 1, 0, 0]) (cd (bd Tryz.f10) [1, 0, 1, 0, 1]) (by kernel_rfl) ?_
    refine Ref.regionC 2 (by kernel_rfl) ?_
    refine RefR.ev0 (st' := ⟨[(2, .c (.val (.bool false)))], [], [], 0⟩) 0 1 1 [2] [] rfl (by kernel_rfl) ?_
    refine RefR.nilC 1 (by kernel_rfl) ?_
    exact Ref.retC (t := (false)) (by kernel_rfl) (by kernel_rfl)
  ·
    refine Ref.skipC (by kernel_rfl) ?_
    refine Ref.seqC (cd (bd Tryz.f10) [1, 1, 0]) (cd (bd Tryz.f10) [1, 1, 1]) (by kernel_rfl) ?_
    refine Ref.regionC 3 (by kernel_rfl) ?_
    refine RefR.evC (vs := [room (([32] : Bytes).length + a0.length), room ((([32] : Bytes) ++ a0).length + ([32] : Bytes).length)]) (st' := ⟨[(3, .c (.str ((([32] : Bytes) ++ a0) ++ ([32] : Bytes))))], [], [], 0⟩) 0 4 4 [3] [] rfl (by kernel_rfl) ?_
    refine RefR.nilC 4 (by kernel_rfl) ?_
    refine Ref.seqC (cd (bd Tryz.f10) [1, 1, 1, 0]) (cd (bd Tryz.f10) [1, 1, 1, 1]) (by kernel_rfl) ?_
    refine Ref.seqC (cd (bd Tryz.f10) [1, 1, 1, 0, 0]) (cd (bd Tryz.f10) [1, 1, 1, 0, 1]) (by kernel_rfl) ?_
    refine Ref.regionC 4 (by kernel_rfl) ?_
    refine RefR.ev0 (st' := ⟨[(3, .c (.str ((([32] : Bytes) ++ a0) ++ ([32] : Bytes)))), (4, .c (.val (.int .i64 0)))], [], [], 0⟩) 0 1 1 [3, 4] [] rfl (by kernel_rfl) ?_
    refine RefR.nilC 1 (by kernel_rfl) ?_
    refine Ref.codeEq (c' := .block 0 (cd (bd Tryz.f10) [1, 1, 1, 0, 1, 0])) (by kernel_rfl) ?_
    refine Ref.block (go1 := fun u17 => ⟨[], [], [], 0⟩) ?_ (fun _ h => by cases h) (fun u17 => ?_)
    ·
      refine Ref.codeEq (c' := .loop (cd (bd Tryz.f10) [1, 1, 1, 0, 1, 0, 0])) (by kernel_rfl) ?_
      refine Ref.loop (hd := fun u23 => ⟨[(3, .c (.str ((([32] : Bytes) ++ a0) ++ ([32] : Bytes)))), (4, .c (.val (.int .i64 u23)))], [], [], 0⟩) K (0) (by kernel_rfl) (fun u23 => ?_)
      refine Ref.seqC (cd (bd Tryz.f10) [1, 1, 1, 0, 1, 0, 0, 0]) (cd (bd Tryz.f10) [1, 1, 1, 0, 1, 0, 0, 1]) (by kernel_rfl) ?_
      refine Ref.seqC (cd (bd Tryz.f10) [1, 1, 1, 0, 1, 0, 0, 0, 0]) (cd (bd Tryz.f10) [1, 1, 1, 0, 1, 0, 0, 0, 1]) (by kernel_rfl) ?_
      refine Ref.regionC 5 (by kernel_rfl) ?_
      refine RefR.ev0 (st' := ⟨[(3, .c (.str ((([32] : Bytes) ++ a0) ++ ([32] : Bytes)))), (4, .c (.val (.int .i64 u23))), (19, .c (.val (.bool (decide (((IntKind.i64.wrap (u23 + (Int.ofNat ((([32] : Bytes) ++ a0) ++ ([32] : Bytes)).length))) : Int) ≤ 386)))))], [], [], 0⟩) 0 5 5 [3, 4, 19] [] rfl (by kernel_rfl) ?_
      refine RefR.letC (stf := fun x29 => ⟨[(3, .c (.str ((([32] : Bytes) ++ a0) ++ ([32] : Bytes)))), (4, .c (.val (.int .i64 u23))), (19, .c (.val (.bool x29)))], [], [], 0⟩) (by kernel_rfl) (fun x29 => ?_)
      refine RefR.nilC 5 (by kernel_rfl) ?_
      refine Ref.condC (.tmp 19) x29 (by kernel_rfl) rfl (by kernel_rfl) (fun hc => ?_) (fun hc => ?_)
      ·
        refine Ref.skipC (by kernel_rfl) ?_
        refine Ref.seqC (cd (bd Tryz.f10) [1, 1, 1, 0, 1, 0, 0, 1, 0]) (cd (bd Tryz.f10) [1, 1, 1, 0, 1, 0, 0, 1, 1]) (by kernel_rfl) ?_
        refine Ref.codeEq (c' := .block 1 (cd (bd Tryz.f10) [1, 1, 1, 0, 1, 0, 0, 1, 0, 0])) (by kernel_rfl) ?_
        refine Ref.block (go1 := fun u31 => ⟨[(3, .c (.str ((([32] : Bytes) ++ a0) ++ ([32] : Bytes)))), (4, .c (.val (.int .i64 u23)))], [], [], 0⟩) ?_ (fun a => match a with | .inl _ => (fun h => by cases h) | .inr _ => (fun h => by cases h)) (fun u31 => ?_)
        ·
          refine Ref.seqC (cd (bd Tryz.f10) [1, 1, 1, 0, 1, 0, 0, 1, 0, 0, 0]) (cd (bd Tryz.f10) [1, 1, 1, 0, 1, 0, 0, 1, 0, 0, 1]) (by kernel_rfl) ?_
          refine Ref.regionC 7 (by kernel_rfl) ?_
          refine RefR.evC (vs := [bndOk ([32, 73, 78, 84, 69, 82, 70, 65, 67, 69, 32, 69, 78, 68, 95, 73, 78, 84, 69, 82, 70, 65, 67, 69, 32, 67, 76, 65, 83, 83, 32, 69, 78, 68, 95, 67, 76, 65, 83, 83, 32, 80, 82, 79, 71, 82, 65, 77, 32, 69, 78, 68, 95, 80, 82, 79, 71, 82, 65, 77, 32, 77, 69, 84, 72, 79, 68, 32, 69, 78, 68, 95, 77, 69, 84, 72, 79, 68, 32, 84, 65, 83, 75, 32, 73, 78, 84, 69, 82, 86, 65, 76, 32, 80, 82, 73, 79, 82, 73, 84, 89, 32, 69, 88, 84, 69, 78, 68, 83, 32, 73, 77, 80, 76, 69, 77, 69, 78, 84, 83, 32, 65, 66, 83, 84, 82, 65, 67, 84, 32, 70, 73, 78, 65, 76, 32, 79, 86, 69, 82, 82, 73, 68, 69, 32, 86, 65, 82, 32, 65, 84, 32, 73, 78, 32, 79, 85, 84, 32, 73, 78, 84, 32, 66, 79, 79, 76, 32, 82, 69, 65, 76, 32, 76, 82, 69, 65, 76, 32, 65, 82, 82, 65, 89, 32, 79, 70, 32, 82, 69, 70, 95, 84, 79, 32, 82, 69, 70, 32, 84, 79, 78, 32, 84, 79, 70, 32, 84, 80, 32, 67, 84, 85, 32, 67, 84, 68, 32, 82, 95, 84, 82, 73, 71, 32, 70, 95, 84, 82, 73, 71, 32, 84, 82, 85, 69, 32, 70, 65, 76, 83, 69, 32, 78, 85, 76, 76, 32, 84, 72, 73, 83, 32, 83, 85, 80, 69, 82, 32, 65, 83, 32, 78, 79, 84, 32, 65, 78, 68, 32, 79, 82, 32, 88, 79, 82, 32, 77, 79, 68, 32, 73, 70, 32, 84, 72, 69, 78, 32, 69, 76, 83, 73, 70, 32, 69, 76, 83, 69, 32, 69, 78, 68, 95, 73, 70, 32, 67, 65, 83, 69, 32, 69, 78, 68, 95, 67, 65, 83, 69, 32, 87, 72, 73, 76, 69, 32, 68, 79, 32, 69, 78, 68, 95, 87, 72, 73, 76, 69, 32, 70, 79, 82, 32, 84, 79, 32, 66, 89, 32, 69, 78, 68, 95, 70, 79, 82, 32, 82, 69, 84, 85, 82, 78, 32, 69, 88, 73, 84, 32, 83, 84, 69, 80, 32, 68, 79, 78, 69, 32, 67, 79, 85, 78, 84, 32] : Bytes).length u23 (IntKind.i64.wrap (u23 + (Int.ofNat ((([32] : Bytes) ++ a0) ++ ([32] : Bytes)).length)))]) (st' := ⟨[(3, .c (.str ((([32] : Bytes) ++ a0) ++ ([32] : Bytes)))), (4, .c (.val (.int .i64 u23))), (29, .c (.val (.bool (((([32, 73, 78, 84, 69, 82, 70, 65, 67, 69, 32, 69, 78, 68, 95, 73, 78, 84, 69, 82, 70, 65, 67, 69, 32, 67, 76, 65, 83, 83, 32, 69, 78, 68, 95, 67, 76, 65, 83, 83, 32, 80, 82, 79, 71, 82, 65, 77, 32, 69, 78, 68, 95, 80, 82, 79, 71, 82, 65, 77, 32, 77, 69, 84, 72, 79, 68, 32, 69, 78, 68, 95, 77, 69, 84, 72, 79, 68, 32, 84, 65, 83, 75, 32, 73, 78, 84, 69, 82, 86, 65, 76, 32, 80, 82, 73, 79, 82, 73, 84, 89, 32, 69, 88, 84, 69, 78, 68, 83, 32, 73, 77, 80, 76, 69, 77, 69, 78, 84, 83, 32, 65, 66, 83, 84, 82, 65, 67, 84, 32, 70, 73, 78, 65, 76, 32, 79, 86, 69, 82, 82, 73, 68, 69, 32, 86, 65, 82, 32, 65, 84, 32, 73, 78, 32, 79, 85, 84, 32, 73, 78, 84, 32, 66, 79, 79, 76, 32, 82, 69, 65, 76, 32, 76, 82, 69, 65, 76, 32, 65, 82, 82, 65, 89, 32, 79, 70, 32, 82, 69, 70, 95, 84, 79, 32, 82, 69, 70, 32, 84, 79, 78, 32, 84, 79, 70, 32, 84, 80, 32, 67, 84, 85, 32, 67, 84, 68, 32, 82, 95, 84, 82, 73, 71, 32, 70, 95, 84, 82, 73, 71, 32, 84, 82, 85, 69, 32, 70, 65, 76, 83, 69, 32, 78, 85, 76, 76, 32, 84, 72, 73, 83, 32, 83, 85, 80, 69, 82, 32, 65, 83, 32, 78, 79, 84, 32, 65, 78, 68, 32, 79, 82, 32, 88, 79, 82, 32, 77, 79, 68, 32, 73, 70, 32, 84, 72, 69, 78, 32, 69, 76, 83, 73, 70, 32, 69, 76, 83, 69, 32, 69, 78, 68, 95, 73, 70, 32, 67, 65, 83, 69, 32, 69, 78, 68, 95, 67, 65, 83, 69, 32, 87, 72, 73, 76, 69, 32, 68, 79, 32, 69, 78, 68, 95, 87, 72, 73, 76, 69, 32, 70, 79, 82, 32, 84, 79, 32, 66, 89, 32, 69, 78, 68, 95, 70, 79, 82, 32, 82, 69, 84, 85, 82, 78, 32, 69, 88, 73, 84, 32, 83, 84, 69, 80, 32, 68, 79, 78, 69, 32, 67, 79, 85, 78, 84, 32] : Bytes).drop (u23 : Int).toNat).take (((IntKind.i64.wrap (u23 + (Int.ofNat ((([32] : Bytes) ++ a0) ++ ([32] : Bytes)).length))) : Int).toNat - (u23 : Int).toNat)) == ((([32] : Bytes) ++ a0) ++ ([32] : Bytes))))))], [], [], 0⟩) 0 8 8 [3, 4, 29] [] rfl (by kernel_rfl) ?_
          refine RefR.letC (stf := fun x32 => ⟨[(3, .c (.str ((([32] : Bytes) ++ a0) ++ ([32] : Bytes)))), (4, .c (.val (.int .i64 u23))), (29, .c (.val (.bool x32)))], [], [], 0⟩) (by kernel_rfl) (fun x32 => ?_)
          refine RefR.nilC 8 (by kernel_rfl) ?_
          refine Ref.condC (.tmp 29) x32 (by kernel_rfl) rfl (by kernel_rfl) (fun hc => ?_) (fun hc => ?_)
          ·
            refine Ref.seqC (cd (bd Tryz.f10) [1, 1, 1, 0, 1, 0, 0, 1, 0, 0, 1, 0, 0]) (cd (bd Tryz.f10) [1, 1, 1, 0, 1, 0, 0, 1, 0, 0, 1, 0, 1]) (by kernel_rfl) ?_
            refine Ref.regionC 8 (by kernel_rfl) ?_
            refine RefR.ev0 (st' := ⟨[(2, .c (.val (.bool true)))], [], [], 0⟩) 0 1 1 [2] [] rfl (by kernel_rfl) ?_
            refine RefR.nilC 1 (by kernel_rfl) ?_
            exact Ref.retC (t := (Sum.inr (Sum.inr (true)))) (by kernel_rfl) (by kernel_rfl)
          ·
            refine Ref.skipC (by kernel_rfl) ?_
            refine Ref.conv (Conv.keep (st' := ⟨[(3, .c (.str ((([32] : Bytes) ++ a0) ++ ([32] : Bytes)))), (4, .c (.val (.int .i64 u23)))], [], [], 0⟩) [3, 4] [] (by kernel_rfl)) ?_
            exact Ref.nil (t := ()) (by kernel_rfl)
        ·
          refine Ref.regionC 6 (by kernel_rfl) ?_
          refine RefR.ev0 (st' := ⟨[(3, .c (.str ((([32] : Bytes) ++ a0) ++ ([32] : Bytes)))), (4, .c (.val (.int .i64 (IntKind.i64.wrap (u23 + 1)))))], [], [], 0⟩) 0 3 3 [3, 4] [] rfl (by kernel_rfl) ?_
          refine RefR.nilC 3 (by kernel_rfl) ?_
          exact Ref.nil (t := ((IntKind.i64.wrap (u23 + 1)))) (by kernel_rfl)
      ·
        refine Ref.conv (Conv.keep (st' := ⟨[], [], [], 0⟩) [] [] (by kernel_rfl)) ?_
        exact Ref.exitC 0 (t := (Sum.inl ())) (by kernel_rfl) (by kernel_rfl)
    ·
      refine Ref.seqC (cd (bd Tryz.f10) [1, 1, 1, 1, 0]) (cd (bd Tryz.f10) [1, 1, 1, 1, 1]) (by kernel_rfl) ?_
      refine Ref.regionC 9 (by kernel_rfl) ?_
      refine RefR.ev0 (st' := ⟨[(2, .c (.val (.bool false)))], [], [], 0⟩) 0 1 1 [2] [] rfl (by kernel_rfl) ?_
      refine RefR.nilC 1 (by kernel_rfl) ?_
      exact Ref.retC (t := (false)) (by kernel_rfl) (by kernel_rfl)

/-- governor/governorref3.sign -/
def F31 (K : Nat) (a0 : Bytes) (a1 : Int) : Option ((Int) ⊕ (Int)) :=
  (chk [!(decide (((IntKind.i64.wrap (a1 + 1)) : Int) < (Int.ofNat a0.length))) || bndOk a0.length a1 (IntKind.i64.wrap (a1 + 2)), !(decide (((IntKind.i64.wrap (a1 + 1)) : Int) < (Int.ofNat a0.length))) || room (([32] : Bytes).length + ((a0.drop (a1 : Int).toNat).take (((IntKind.i64.wrap (a1 + 2)) : Int).toNat - (a1 : Int).toNat)).length), !(decide (((IntKind.i64.wrap (a1 + 1)) : Int) < (Int.ofNat a0.length))) || room ((([32] : Bytes) ++ ((a0.drop (a1 : Int).toNat).take (((IntKind.i64.wrap (a1 + 2)) : Int).toNat - (a1 : Int).toNat))).length + ([32] : Bytes).length)] (letV (decide (((IntKind.i64.wrap (a1 + 1)) : Int) < (Int.ofNat a0.length))) (fun (x1 : Bool) => ((condM x1 (fnS (F42 K ([32, 58, 61, 32, 63, 61, 32, 46, 46, 32, 60, 62, 32, 60, 61, 32, 62, 61, 32] : Bytes) ((([32] : Bytes) ++ ((a0.drop (a1 : Int).toNat).take (((IntKind.i64.wrap (a1 + 2)) : Int).toNat - (a1 : Int).toNat))) ++ ([32] : Bytes)))) default).bind (fun r2 => (if (x1 && r2) = true then (some (.inl (2))) else (chk [bndOk a0.length a1 (IntKind.i64.wrap (a1 + 1))] (letV ((a0.drop (a1 : Int).toNat).take (((IntKind.i64.wrap (a1 + 1)) : Int).toNat - (a1 : Int).toNat)) (fun (x3 : Bytes) => ((fnS (F42 K ([43, 45, 42, 47, 61, 60, 62, 40, 41, 91, 93, 44, 59, 58, 46] : Bytes) x3)).bind (fun r4 => (if r4 = true then (some (.inl (1))) else (some (.inl (0)))))))))))))))

theorem F31_ok (K : Nat) (a0 : Bytes) (a1 : Int) : DFun Tryz.prog 31 [.c (.str a0), .c (.val (.int .i64 a1))] [] (fnS (F31 K a0 a1)) (fun r => .c (.val (.int .i64 r))) (fun r => []) := by
  refine DFun.intro (fn := Tryz.f31) (c := cd (bd Tryz.f31) []) (rs := fun r => ⟨[(4, .c (.val (.int .i64 r)))], [], [], 0⟩) (by kernel_rfl) (by kernel_rfl) (by kernel_rfl) ?_ (fun r => by kernel_rfl) (fun r => by kernel_rfl) (fun r => by kernel_rfl) (fun r => by kernel_rfl)
  unfold F31
  refine Ref.seqC (cd (bd Tryz.f31) [0]) (cd (bd Tryz.f31) [1]) (by kernel_rfl) ?_
  refine Ref.regionC 0 (by kernel_rfl) ?_
  refine RefR.ev0 (st' := ⟨[(0, .c (.str a0)), (1, .c (.val (.int .i64 a1)))], [], [], 0⟩) 0 1 1 [0, 1] [] rfl (by kernel_rfl) ?_
  refine RefR.nilC 1 (by kernel_rfl) ?_
  refine Ref.seqC (cd (bd Tryz.f31) [1, 0]) (cd (bd Tryz.f31) [1, 1]) (by kernel_rfl) ?_
  refine Ref.seqC (cd (bd Tryz.f31) [1, 0, 0]) (cd (bd Tryz.f31) [1, 0, 1]) (by kernel_rfl) ?_
  refine Ref.regionC 1 (by kernel_rfl) ?_
  refine RefR.evC (vs := [!(decide (((IntKind.i64.wrap (a1 + 1)) : Int) < (Int.ofNat a0.length))) || bndOk a0.length a1 (IntKind.i64.wrap (a1 + 2)), !(decide (((IntKind.i64.wrap (a1 + 1)) : Int) < (Int.ofNat a0.length))) || room (([32] : Bytes).length + ((a0.drop (a1 : Int).toNat).take (((IntKind.i64.wrap (a1 + 2)) : Int).toNat - (a1 : Int).toNat)).length), !(decide (((IntKind.i64.wrap (a1 + 1)) : Int) < (Int.ofNat a0.length))) || room ((([32] : Bytes) ++ ((a0.drop (a1 : Int).toNat).take (((IntKind.i64.wrap (a1 + 2)) : Int).toNat - (a1 : Int).toNat))).length + ([32] : Bytes).length)]) (st' := ⟨[(0, .c (.str a0)), (1, .c (.val (.int .i64 a1))), (10, .c (.val (.bool (decide (((IntKind.i64.wrap (a1 + 1)) : Int) < (Int.ofNat a0.length)))))), (17, .c (.str ((([32] : Bytes) ++ ((a0.drop (a1 : Int).toNat).take (((IntKind.i64.wrap (a1 + 2)) : Int).toNat - (a1 : Int).toNat))) ++ ([32] : Bytes))))], [], [(17, [(10, true)])], 0⟩) 0 13 13 [0, 1, 10, 17] [] rfl (by kernel_rfl) ?_
  refine RefR.letC (stf := fun x1 => ⟨[(0, .c (.str a0)), (1, .c (.val (.int .i64 a1))), (10, .c (.val (.bool x1))), (17, .c (.str ((([32] : Bytes) ++ ((a0.drop (a1 : Int).toNat).take (((IntKind.i64.wrap (a1 + 2)) : Int).toNat - (a1 : Int).toNat))) ++ ([32] : Bytes))))], [], [(17, [(10, true)])], 0⟩) (by kernel_rfl) (fun x1 => ?_)
  refine RefR.lookC (t := 18) (g := [(10, true)]) (b := x1) 13 14 [] (default : Bool) rfl (by kernel_rfl) (F42_ok K ([32, 58, 61, 32, 63, 61, 32, 46, 46, 32, 60, 62, 32, 60, 61, 32, 62, 61, 32] : Bytes) ((([32] : Bytes) ++ ((a0.drop (a1 : Int).toNat).take (((IntKind.i64.wrap (a1 + 2)) : Int).toNat - (a1 : Int).toNat))) ++ ([32] : Bytes))) (fun _ => rfl) (fun r2 => ?_)
  refine RefR.ev0 (st' := ⟨[(0, .c (.str a0)), (1, .c (.val (.int .i64 a1))), (19, .c (.val (.bool (x1 && r2))))], [], [], 0⟩) 14 1 15 [0, 1, 19] [] rfl (by kernel_rfl) ?_
  refine RefR.nilC 15 (by kernel_rfl) ?_
  refine Ref.condC (.tmp 19) (x1 && r2) (by kernel_rfl) rfl (by kernel_rfl) (fun hc => ?_) (fun hc => ?_)
  ·
    refine Ref.seqC (cd (bd Tryz.f31) [1, 0, 1, 0, 0]) (cd (bd Tryz.f31) [1, 0, 1, 0, 1]) (by kernel_rfl) ?_
    refine Ref.regionC 2 (by kernel_rfl) ?_
    refine RefR.ev0 (st' := ⟨[(4, .c (.val (.int .i64 2)))], [], [], 0⟩) 0 1 1 [4] [] rfl (by kernel_rfl) ?_
    refine RefR.nilC 1 (by kernel_rfl) ?_
    exact Ref.retC (t := (2)) (by kernel_rfl) (by kernel_rfl)
  ·
    refine Ref.skipC (by kernel_rfl) ?_
    refine Ref.seqC (cd (bd Tryz.f31) [1, 1, 0]) (cd (bd Tryz.f31) [1, 1, 1]) (by kernel_rfl) ?_
    refine Ref.seqC (cd (bd Tryz.f31) [1, 1, 0, 0]) (cd (bd Tryz.f31) [1, 1, 0, 1]) (by kernel_rfl) ?_
    refine Ref.regionC 3 (by kernel_rfl) ?_
    refine RefR.evC (vs := [bndOk a0.length a1 (IntKind.i64.wrap (a1 + 1))]) (st' := ⟨[(24, .c (.str ((a0.drop (a1 : Int).toNat).take (((IntKind.i64.wrap (a1 + 1)) : Int).toNat - (a1 : Int).toNat))))], [], [], 0⟩) 0 5 5 [24] [] rfl (by kernel_rfl) ?_
    refine RefR.letC (stf := fun x3 => ⟨[(24, .c (.str x3))], [], [], 0⟩) (by kernel_rfl) (fun x3 => ?_)
    refine RefR.callC (t := 25) 5 6 [] rfl (by kernel_rfl) (F42_ok K ([43, 45, 42, 47, 61, 60, 62, 40, 41, 91, 93, 44, 59, 58, 46] : Bytes) x3) (fun r4 => ?_)
    refine RefR.nilC 6 (by kernel_rfl) ?_
    refine Ref.condC (.tmp 25) r4 (by kernel_rfl) rfl (by kernel_rfl) (fun hc => ?_) (fun hc => ?_)
    ·
      refine Ref.seqC (cd (bd Tryz.f31) [1, 1, 0, 1, 0, 0]) (cd (bd Tryz.f31) [1, 1, 0, 1, 0, 1]) (by kernel_rfl) ?_
      refine Ref.regionC 4 (by kernel_rfl) ?_
      refine RefR.ev0 (st' := ⟨[(4, .c (.val (.int .i64 1)))], [], [], 0⟩) 0 1 1 [4] [] rfl (by kernel_rfl) ?_
      refine RefR.nilC 1 (by kernel_rfl) ?_
      exact Ref.retC (t := (1)) (by kernel_rfl) (by kernel_rfl)
    ·
      refine Ref.skipC (by kernel_rfl) ?_
      refine Ref.seqC (cd (bd Tryz.f31) [1, 1, 1, 0]) (cd (bd Tryz.f31) [1, 1, 1, 1]) (by kernel_rfl) ?_
      refine Ref.regionC 5 (by kernel_rfl) ?_
      refine RefR.ev0 (st' := ⟨[(4, .c (.val (.int .i64 0)))], [], [], 0⟩) 0 1 1 [4] [] rfl (by kernel_rfl) ?_
      refine RefR.nilC 1 (by kernel_rfl) ?_
      exact Ref.retC (t := (0)) (by kernel_rfl) (by kernel_rfl)

/-- governor/governorref3.comment -/
def F15 (K : Nat) (a0 : Bytes) (a1 : Int) : Option ((Int) ⊕ (Int)) :=
  (bindS (blockS ((iter K (fun (u28 : Int) => (letV (decide (((IntKind.i64.wrap (u28 + 1)) : Int) < (Int.ofNat a0.length))) (fun (x34 : Bool) => (if x34 = true then (bindS (blockS (chk [inb u28 a0.length, !(((Int.ofNat (a0.getD (u28 : Int).toNat 0).toNat) : Int) == 42) || inb (IntKind.i64.wrap (u28 + 1)) a0.length] (letV ((((Int.ofNat (a0.getD (u28 : Int).toNat 0).toNat) : Int) == 42) && (((Int.ofNat (a0.getD ((IntKind.i64.wrap (u28 + 1)) : Int).toNat 0).toNat) : Int) == 41)) (fun (x37 : Bool) => (if x37 = true then (some (.inl (Sum.inr (Sum.inr ((IntKind.i64.wrap (u28 + 2))))))) else (some (.inr ()))))))) (fun (u36 : Unit) => (some (.inr ((IntKind.i64.wrap (u28 + 1))))))) else (some (.inl (Sum.inl ()))))))) ((IntKind.i64.wrap (a1 + 2)))).map .inl)) (fun (u19 : Unit) => (some (.inl ((-1))))))

theorem F15_ok (K : Nat) (a0 : Bytes) (a1 : Int) : DFun Tryz.prog 15 [.c (.str a0), .c (.val (.int .i64 a1))] [] (fnS (F15 K a0 a1)) (fun r => .c (.val (.int .i64 r))) (fun r => []) := by
  refine DFun.intro (fn := Tryz.f15) (c := cd (bd Tryz.f15) []) (rs := fun r => ⟨[(4, .c (.val (.int .i64 r)))], [], [], 0⟩) (by kernel_rfl) (by kernel_rfl) (by kernel_rfl) ?_ (fun r => by kernel_rfl) (fun r => by kernel_rfl) (fun r => by kernel_rfl) (fun r => by kernel_rfl)
  unfold F15
  refine Ref.seqC (cd (bd Tryz.f15) [0]) (cd (bd Tryz.f15) [1]) (by kernel_rfl) ?_
  refine Ref.regionC 0 (by kernel_rfl) ?_
  refine RefR.ev0 (st' := ⟨[(0, .c (.str a0)), (1, .c (.val (.int .i64 a1)))], [], [], 0⟩) 0 1 1 [0, 1] [] rfl (by kernel_rfl) ?_
  refine RefR.nilC 1 (by kernel_rfl) ?_
  refine Ref.seqC (cd (bd Tryz.f15) [1, 0]) (cd (bd Tryz.f15) [1, 1]) (by kernel_rfl) ?_
  refine Ref.seqC (cd (bd Tryz.f15) [1, 0, 0]) (cd (bd Tryz.f15) [1, 0, 1]) (by kernel_rfl) ?_
  refine Ref.regionC 1 (by kernel_rfl) ?_
  refine RefR.ev0 (st' := ⟨[(0, .c (.str a0)), (5, .c (.val (.int .i64 (IntKind.i64.wrap (a1 + 2)))))], [], [], 0⟩) 0 3 3 [0, 5] [] rfl (by kernel_rfl) ?_
  refine RefR.nilC 3 (by kernel_rfl) ?_
  refine Ref.codeEq (c' := .block 0 (cd (bd Tryz.f15) [1, 0, 1, 0])) (by kernel_rfl) ?_
  refine Ref.block (go1 := fun u19 => ⟨[], [], [], 0⟩) ?_ (fun _ h => by cases h) (fun u19 => ?_)
  ·
    refine Ref.codeEq (c' := .loop (cd (bd Tryz.f15) [1, 0, 1, 0, 0])) (by kernel_rfl) ?_
    refine Ref.loop (hd := fun u28 => ⟨[(0, .c (.str a0)), (5, .c (.val (.int .i64 u28)))], [], [], 0⟩) K ((IntKind.i64.wrap (a1 + 2))) (by kernel_rfl) (fun u28 => ?_)
    refine Ref.seqC (cd (bd Tryz.f15) [1, 0, 1, 0, 0, 0]) (cd (bd Tryz.f15) [1, 0, 1, 0, 0, 1]) (by kernel_rfl) ?_
    refine Ref.seqC (cd (bd Tryz.f15) [1, 0, 1, 0, 0, 0, 0]) (cd (bd Tryz.f15) [1, 0, 1, 0, 0, 0, 1]) (by kernel_rfl) ?_
    refine Ref.regionC 2 (by kernel_rfl) ?_
    refine RefR.ev0 (st' := ⟨[(0, .c (.str a0)), (5, .c (.val (.int .i64 u28))), (12, .c (.val (.bool (decide (((IntKind.i64.wrap (u28 + 1)) : Int) < (Int.ofNat a0.length))))))], [], [], 0⟩) 0 5 5 [0, 5, 12] [] rfl (by kernel_rfl) ?_
    refine RefR.letC (stf := fun x34 => ⟨[(0, .c (.str a0)), (5, .c (.val (.int .i64 u28))), (12, .c (.val (.bool x34)))], [], [], 0⟩) (by kernel_rfl) (fun x34 => ?_)
    refine RefR.nilC 5 (by kernel_rfl) ?_
    refine Ref.condC (.tmp 12) x34 (by kernel_rfl) rfl (by kernel_rfl) (fun hc => ?_) (fun hc => ?_)
    ·
      refine Ref.skipC (by kernel_rfl) ?_
      refine Ref.seqC (cd (bd Tryz.f15) [1, 0, 1, 0, 0, 1, 0]) (cd (bd Tryz.f15) [1, 0, 1, 0, 0, 1, 1]) (by kernel_rfl) ?_
      refine Ref.codeEq (c' := .block 1 (cd (bd Tryz.f15) [1, 0, 1, 0, 0, 1, 0, 0])) (by kernel_rfl) ?_
      refine Ref.block (go1 := fun u36 => ⟨[(0, .c (.str a0)), (5, .c (.val (.int .i64 u28)))], [], [], 0⟩) ?_ (fun a => match a with | .inl _ => (fun h => by cases h) | .inr _ => (fun h => by cases h)) (fun u36 => ?_)
      ·
        refine Ref.seqC (cd (bd Tryz.f15) [1, 0, 1, 0, 0, 1, 0, 0, 0]) (cd (bd Tryz.f15) [1, 0, 1, 0, 0, 1, 0, 0, 1]) (by kernel_rfl) ?_
        refine Ref.regionC 4 (by kernel_rfl) ?_
        refine RefR.evC (vs := [inb u28 a0.length, !(((Int.ofNat (a0.getD (u28 : Int).toNat 0).toNat) : Int) == 42) || inb (IntKind.i64.wrap (u28 + 1)) a0.length]) (st' := ⟨[(0, .c (.str a0)), (5, .c (.val (.int .i64 u28))), (25, .c (.val (.bool ((((Int.ofNat (a0.getD (u28 : Int).toNat 0).toNat) : Int) == 42) && (((Int.ofNat (a0.getD ((IntKind.i64.wrap (u28 + 1)) : Int).toNat 0).toNat) : Int) == 41)))))], [], [], 0⟩) 0 11 11 [0, 5, 25] [] rfl (by kernel_rfl) ?_
        refine RefR.letC (stf := fun x37 => ⟨[(0, .c (.str a0)), (5, .c (.val (.int .i64 u28))), (25, .c (.val (.bool x37)))], [], [], 0⟩) (by kernel_rfl) (fun x37 => ?_)
        refine RefR.nilC 11 (by kernel_rfl) ?_
        refine Ref.condC (.tmp 25) x37 (by kernel_rfl) rfl (by kernel_rfl) (fun hc => ?_) (fun hc => ?_)
        ·
          refine Ref.seqC (cd (bd Tryz.f15) [1, 0, 1, 0, 0, 1, 0, 0, 1, 0, 0]) (cd (bd Tryz.f15) [1, 0, 1, 0, 0, 1, 0, 0, 1, 0, 1]) (by kernel_rfl) ?_
          refine Ref.regionC 5 (by kernel_rfl) ?_
          refine RefR.ev0 (st' := ⟨[(4, .c (.val (.int .i64 (IntKind.i64.wrap (u28 + 2)))))], [], [], 0⟩) 0 3 3 [4] [] rfl (by kernel_rfl) ?_
          refine RefR.nilC 3 (by kernel_rfl) ?_
          exact Ref.retC (t := (Sum.inr (Sum.inr ((IntKind.i64.wrap (u28 + 2)))))) (by kernel_rfl) (by kernel_rfl)
        ·
          refine Ref.skipC (by kernel_rfl) ?_
          refine Ref.conv (Conv.keep (st' := ⟨[(0, .c (.str a0)), (5, .c (.val (.int .i64 u28)))], [], [], 0⟩) [0, 5] [] (by kernel_rfl)) ?_
          exact Ref.nil (t := ()) (by kernel_rfl)
      ·
        refine Ref.regionC 3 (by kernel_rfl) ?_
        refine RefR.ev0 (st' := ⟨[(0, .c (.str a0)), (5, .c (.val (.int .i64 (IntKind.i64.wrap (u28 + 1)))))], [], [], 0⟩) 0 3 3 [0, 5] [] rfl (by kernel_rfl) ?_
        refine RefR.nilC 3 (by kernel_rfl) ?_
        exact Ref.nil (t := ((IntKind.i64.wrap (u28 + 1)))) (by kernel_rfl)
    ·
      refine Ref.conv (Conv.keep (st' := ⟨[], [], [], 0⟩) [] [] (by kernel_rfl)) ?_
      exact Ref.exitC 0 (t := (Sum.inl ())) (by kernel_rfl) (by kernel_rfl)
  ·
    refine Ref.seqC (cd (bd Tryz.f15) [1, 1, 0]) (cd (bd Tryz.f15) [1, 1, 1]) (by kernel_rfl) ?_
    refine Ref.regionC 6 (by kernel_rfl) ?_
    refine RefR.ev0 (st' := ⟨[(4, .c (.val (.int .i64 (-1))))], [], [], 0⟩) 0 1 1 [4] [] rfl (by kernel_rfl) ?_
    refine RefR.nilC 1 (by kernel_rfl) ?_
    exact Ref.retC (t := ((-1))) (by kernel_rfl) (by kernel_rfl)

/-- governor/governorref3.one -/
def F16 (K : Nat) (a0 : Bytes) (a1 : Int) : Option ((S37 × Int × Int) ⊕ (S37 × Int × Int)) :=
  (bindS (blockS (chk [inb a1 a0.length] ((fnS (F28 K (a0.getD (a1 : Int).toNat 0))).bind (fun r110 => (if r110 = true then (bindS (blockS ((iter K (fun (u128 : Int) => (chk [!(decide ((u128 : Int) < (Int.ofNat a0.length))) || inb u128 a0.length] (letV (decide ((u128 : Int) < (Int.ofNat a0.length))) (fun (x133 : Bool) => ((condM x133 (fnS (F29 K (a0.getD (u128 : Int).toNat 0))) default).bind (fun r134 => (if (x133 && r134) = true then (bindS (blockS (some (.inr ((IntKind.i64.wrap (u128 + 1)))))) (fun (u135 : Int) => (some (.inr (u135))))) else (some (.inl (Sum.inl (u128))))))))))) (a1)).map .inl)) (fun (u123 : Int) => (chk [bndOk a0.length a1 u123] (letV ((a0.drop (a1 : Int).toNat).take ((u123 : Int).toNat - (a1 : Int).toNat)) (fun (x136 : Bytes) => ((fnS (F10 K x136)).bind (fun r137 => (bindS (if r137 = true then (some (.inr (2))) else (letV (decide (((IntKind.i64.wrap (u123 - a1)) : Int) > 12)) (fun (x140 : Bool) => (if x140 = true then (some (.inl (Sum.inr ((⟨1, x136, 0, a1⟩ : S37), u123, 1)))) else (some (.inr (1))))))) (fun (u139 : Int) => (letV ((x136 == ([82, 69, 65, 76] : Bytes)) || (x136 == ([76, 82, 69, 65, 76] : Bytes))) (fun (x141 : Bool) => (if x141 = true then (some (.inl (Sum.inr ((⟨u139, x136, 0, a1⟩ : S37), u123, 2)))) else (some (.inl (Sum.inr ((⟨u139, x136, 0, a1⟩ : S37), u123, 0)))))))))))))))) else (chk [inb a1 a0.length] ((fnS (F30 K (a0.getD (a1 : Int).toNat 0))).bind (fun r142 => (if r142 = true then (bindS (blockS ((iter K (fun (u192 : Int × Int) => (chk [!(decide ((u192.2 : Int) < (Int.ofNat a0.length))) || inb u192.2 a0.length] (letV (decide ((u192.2 : Int) < (Int.ofNat a0.length))) (fun (x205 : Bool) => ((condM x205 (fnS (F30 K (a0.getD (u192.2 : Int).toNat 0))) default).bind (fun r206 => (if (x205 && r206) = true then (bindS (blockS (letV (decide (((IntKind.i64.wrap (u192.2 - a1)) : Int) < 6)) (fun (x212 : Bool) => (bindS (if x212 = true then (chk [inb u192.2 a0.length] (letV (IntKind.i64.wrap (IntKind.u8.wrap ((Int.ofNat (a0.getD (u192.2 : Int).toNat 0).toNat) - 48))) (fun (x215 : Int) => (some (.inr ((IntKind.i64.wrap ((IntKind.i64.wrap (u192.1 * 10)) + x215)))))))) else (some (.inr (u192.1)))) (fun (u214 : Int) => (some (.inr (u214, (IntKind.i64.wrap (u192.2 + 1)))))))))) (fun (u211 : Int × Int) => (some (.inr (u211.1, u211.2))))) else (some (.inl (Sum.inl (u192.1, u192.2))))))))))) (0, a1)).map .inl)) (fun (u179 : Int × Int) => (chk [bndOk a0.length a1 u179.2] (letV ((a0.drop (a1 : Int).toNat).take ((u179.2 : Int).toNat - (a1 : Int).toNat)) (fun (x216 : Bytes) => (letV ((decide (((IntKind.i64.wrap (u179.2 - a1)) : Int) > 5)) || (decide ((u179.1 : Int) > 32768))) (fun (x217 : Bool) => (if x217 = true then (some (.inl (Sum.inr ((⟨3, x216, u179.1, a1⟩ : S37), u179.2, 1)))) else (some (.inl (Sum.inr ((⟨3, x216, u179.1, a1⟩ : S37), u179.2, 0)))))))))))) else (some (.inr ()))))))))))) (fun (u109 : Unit) => ((fnS (F31 K a0 a1)).bind (fun r218 => (chk [bndOk a0.length a1 (IntKind.i64.wrap (a1 + r218))] (letV ((a0.drop (a1 : Int).toNat).take (((IntKind.i64.wrap (a1 + r218)) : Int).toNat - (a1 : Int).toNat)) (fun (x219 : Bytes) => (if ((r218 : Int) == 0) = true then (some (.inl ((⟨4, x219, 0, a1⟩ : S37), a1, 1))) else (some (.inl ((⟨4, x219, 0, a1⟩ : S37), (IntKind.i64.wrap (a1 + r218)), 0)))))))))))

theorem F16_ok (K : Nat) (a0 : Bytes) (a1 : Int) : DFun Tryz.prog 16 [.c (.str a0), .c (.val (.int .i64 a1))] [] (fnS (F16 K a0 a1)) (fun r => .tup [.agg (E37.cs r.1), .c (.val (.int .i64 r.2.1)), .c (.val (.int .i64 r.2.2))]) (fun r => [.cells (E37.cs r.1)]) := by
  refine DFun.intro (fn := Tryz.f16) (c := cd (bd Tryz.f16) []) (rs := fun r => ⟨[(4, .c (.ptr 0 0 0)), (5, .c (.val (.int .i64 r.2.1))), (6, .c (.val (.int .i64 r.2.2)))], [.cells (E37.cs r.1)], [], 0⟩) (by kernel_rfl) (by kernel_rfl) (by kernel_rfl) ?_ (fun r => by kernel_rfl) (fun r => by kernel_rfl) (fun r => by kernel_rfl) (fun r => by kernel_rfl)
  unfold F16
  refine Ref.seqC (cd (bd Tryz.f16) [0]) (cd (bd Tryz.f16) [1]) (by kernel_rfl) ?_
  refine Ref.regionC 0 (by kernel_rfl) ?_
  refine RefR.ev0 (st' := ⟨[(0, .c (.str a0)), (1, .c (.val (.int .i64 a1))), (4, .c (.ptr 0 0 0))], [.cells [.val (.int .i64 0), .str ([] : Bytes), .val (.int .i64 0), .val (.int .i64 0)]], [], 0⟩) 0 3 3 [0, 1, 4] [0] rfl (by kernel_rfl) ?_
  refine RefR.nilC 3 (by kernel_rfl) ?_
  refine Ref.seqC (cd (bd Tryz.f16) [1, 0]) (cd (bd Tryz.f16) [1, 1]) (by kernel_rfl) ?_
  refine Ref.regionC 1 (by kernel_rfl) ?_
  refine RefR.ev0 (st' := ⟨[(0, .c (.str a0)), (1, .c (.val (.int .i64 a1))), (4, .c (.ptr 0 0 0)), (7, .c (.ptr 1 0 0))], [.cells [.val (.int .i64 0), .str ([] : Bytes), .val (.int .i64 0), .val (.int .i64 0)], .cells [.val (.int .i64 0), .str ([] : Bytes), .val (.int .i64 0), .val (.int .i64 a1)]], [], 0⟩) 0 4 4 [0, 1, 4, 7] [0, 1] rfl (by kernel_rfl) ?_
  refine RefR.nilC 4 (by kernel_rfl) ?_
  refine Ref.seqC (cd (bd Tryz.f16) [1, 1, 0]) (cd (bd Tryz.f16) [1, 1, 1]) (by kernel_rfl) ?_
  refine Ref.regionC 2 (by kernel_rfl) ?_
  refine RefR.ev0 (st' := ⟨[(0, .c (.str a0)), (1, .c (.val (.int .i64 a1))), (4, .c (.ptr 0 0 0)), (7, .c (.ptr 1 0 0)), (8, .c (.val (.int .i64 a1)))], [.cells [.val (.int .i64 0), .str ([] : Bytes), .val (.int .i64 0), .val (.int .i64 0)], .cells [.val (.int .i64 0), .str ([] : Bytes), .val (.int .i64 0), .val (.int .i64 a1)]], [], 0⟩) 0 2 2 [0, 1, 4, 7, 8] [0, 1] rfl (by kernel_rfl) ?_
  refine RefR.nilC 2 (by kernel_rfl) ?_
  refine Ref.seqC (cd (bd Tryz.f16) [1, 1, 1, 0]) (cd (bd Tryz.f16) [1, 1, 1, 1]) (by kernel_rfl) ?_
  refine Ref.codeEq (c' := .block 0 (cd (bd Tryz.f16) [1, 1, 1, 0, 0])) (by kernel_rfl) ?_
  refine Ref.block (go1 := fun u109 => ⟨[(0, .c (.str a0)), (1, .c (.val (.int .i64 a1))), (4, .c (.ptr 0 0 0)), (7, .c (.ptr 1 0 0)), (8, .c (.val (.int .i64 a1)))], [.cells [.val (.int .i64 0), .str ([] : Bytes), .val (.int .i64 0), .val (.int .i64 0)], .cells [.val (.int .i64 0), .str ([] : Bytes), .val (.int .i64 0), .val (.int .i64 a1)]], [], 0⟩) ?_ (fun _ h => by cases h) (fun u109 => ?_)
  ·
    refine Ref.seqC (cd (bd Tryz.f16) [1, 1, 1, 0, 0, 0]) (cd (bd Tryz.f16) [1, 1, 1, 0, 0, 1]) (by kernel_rfl) ?_
    refine Ref.regionC 3 (by kernel_rfl) ?_
    refine RefR.evC (vs := [inb a1 a0.length]) (st' := ⟨[(0, .c (.str a0)), (1, .c (.val (.int .i64 a1))), (4, .c (.ptr 0 0 0)), (7, .c (.ptr 1 0 0)), (8, .c (.val (.int .i64 a1))), (16, .c (.val (.int .u8 (Int.ofNat (a0.getD (a1 : Int).toNat 0).toNat))))], [.cells [.val (.int .i64 0), .str ([] : Bytes), .val (.int .i64 0), .val (.int .i64 0)], .cells [.val (.int .i64 0), .str ([] : Bytes), .val (.int .i64 0), .val (.int .i64 a1)]], [], 0⟩) 0 3 3 [0, 1, 4, 7, 8, 16] [0, 1] rfl (by kernel_rfl) ?_
    refine RefR.callC (t := 17) 3 4 [] rfl (by kernel_rfl) (F28_ok K (a0.getD (a1 : Int).toNat 0)) (fun r110 => ?_)
    refine RefR.ev0 (st' := ⟨[(0, .c (.str a0)), (1, .c (.val (.int .i64 a1))), (4, .c (.ptr 0 0 0)), (7, .c (.ptr 1 0 0)), (8, .c (.val (.int .i64 a1))), (13, .c (.val (.bool r110)))], [.cells [.val (.int .i64 0), .str ([] : Bytes), .val (.int .i64 0), .val (.int .i64 0)], .cells [.val (.int .i64 0), .str ([] : Bytes), .val (.int .i64 0), .val (.int .i64 a1)]], [], 0⟩) 4 1 5 [0, 1, 4, 7, 8, 13] [0, 1] rfl (by kernel_rfl) ?_
    refine RefR.nilC 5 (by kernel_rfl) ?_
    refine Ref.condC (.tmp 13) r110 (by kernel_rfl) rfl (by kernel_rfl) (fun hc => ?_) (fun hc => ?_)
    ·
      refine Ref.seqC (cd (bd Tryz.f16) [1, 1, 1, 0, 0, 1, 0, 0]) (cd (bd Tryz.f16) [1, 1, 1, 0, 0, 1, 0, 1]) (by kernel_rfl) ?_
      refine Ref.codeEq (c' := .block 1 (cd (bd Tryz.f16) [1, 1, 1, 0, 0, 1, 0, 0, 0])) (by kernel_rfl) ?_
      refine Ref.block (go1 := fun u123 => ⟨[(0, .c (.str a0)), (1, .c (.val (.int .i64 a1))), (4, .c (.ptr 0 0 0)), (7, .c (.ptr 1 0 0)), (8, .c (.val (.int .i64 u123)))], [.cells [.val (.int .i64 0), .str ([] : Bytes), .val (.int .i64 0), .val (.int .i64 0)], .cells [.val (.int .i64 0), .str ([] : Bytes), .val (.int .i64 0), .val (.int .i64 a1)]], [], 0⟩) ?_ (fun a => match a with | .inl _ => (fun h => by cases h) | .inr _ => (fun h => by cases h)) (fun u123 => ?_)
      ·
        refine Ref.codeEq (c' := .loop (cd (bd Tryz.f16) [1, 1, 1, 0, 0, 1, 0, 0, 0, 0])) (by kernel_rfl) ?_
        refine Ref.conv (Conv.keep (st' := ⟨[(0, .c (.str a0)), (1, .c (.val (.int .i64 a1))), (4, .c (.ptr 0 0 0)), (7, .c (.ptr 1 0 0)), (8, .c (.val (.int .i64 a1)))], [.cells [.val (.int .i64 0), .str ([] : Bytes), .val (.int .i64 0), .val (.int .i64 0)], .cells [.val (.int .i64 0), .str ([] : Bytes), .val (.int .i64 0), .val (.int .i64 a1)]], [], 0⟩) [0, 1, 4, 7, 8] [0, 1] (by kernel_rfl)) ?_
        refine Ref.loop (hd := fun u128 => ⟨[(0, .c (.str a0)), (1, .c (.val (.int .i64 a1))), (4, .c (.ptr 0 0 0)), (7, .c (.ptr 1 0 0)), (8, .c (.val (.int .i64 u128)))], [.cells [.val (.int .i64 0), .str ([] : Bytes), .val (.int .i64 0), .val (.int .i64 0)], .cells [.val (.int .i64 0), .str ([] : Bytes), .val (.int .i64 0), .val (.int .i64 a1)]], [], 0⟩) K (a1) (by kernel_rfl) (fun u128 => ?_)
        refine Ref.seqC (cd (bd Tryz.f16) [1, 1, 1, 0, 0, 1, 0, 0, 0, 0, 0]) (cd (bd Tryz.f16) [1, 1, 1, 0, 0, 1, 0, 0, 0, 0, 1]) (by kernel_rfl) ?_
        refine Ref.seqC (cd (bd Tryz.f16) [1, 1, 1, 0, 0, 1, 0, 0, 0, 0, 0, 0]) (cd (bd Tryz.f16) [1, 1, 1, 0, 0, 1, 0, 0, 0, 0, 0, 1]) (by kernel_rfl) ?_
        refine Ref.regionC 4 (by kernel_rfl) ?_
        refine RefR.evC (vs := [!(decide ((u128 : Int) < (Int.ofNat a0.length))) || inb u128 a0.length]) (st' := ⟨[(0, .c (.str a0)), (1, .c (.val (.int .i64 a1))), (4, .c (.ptr 0 0 0)), (7, .c (.ptr 1 0 0)), (8, .c (.val (.int .i64 u128))), (22, .c (.val (.bool (decide ((u128 : Int) < (Int.ofNat a0.length)))))), (25, .c (.val (.int .u8 (Int.ofNat (a0.getD (u128 : Int).toNat 0).toNat))))], [.cells [.val (.int .i64 0), .str ([] : Bytes), .val (.int .i64 0), .val (.int .i64 0)], .cells [.val (.int .i64 0), .str ([] : Bytes), .val (.int .i64 0), .val (.int .i64 a1)]], [(25, [(22, true)])], 0⟩) 0 8 8 [0, 1, 4, 7, 8, 22, 25] [0, 1] rfl (by kernel_rfl) ?_
        refine RefR.letC (stf := fun x133 => ⟨[(0, .c (.str a0)), (1, .c (.val (.int .i64 a1))), (4, .c (.ptr 0 0 0)), (7, .c (.ptr 1 0 0)), (8, .c (.val (.int .i64 u128))), (22, .c (.val (.bool x133))), (25, .c (.val (.int .u8 (Int.ofNat (a0.getD (u128 : Int).toNat 0).toNat))))], [.cells [.val (.int .i64 0), .str ([] : Bytes), .val (.int .i64 0), .val (.int .i64 0)], .cells [.val (.int .i64 0), .str ([] : Bytes), .val (.int .i64 0), .val (.int .i64 a1)]], [(25, [(22, true)])], 0⟩) (by kernel_rfl) (fun x133 => ?_)
        refine RefR.lookC (t := 26) (g := [(22, true)]) (b := x133) 8 9 [] (default : Bool) rfl (by kernel_rfl) (F29_ok K (a0.getD (u128 : Int).toNat 0)) (fun _ => rfl) (fun r134 => ?_)
        refine RefR.ev0 (st' := ⟨[(0, .c (.str a0)), (1, .c (.val (.int .i64 a1))), (4, .c (.ptr 0 0 0)), (7, .c (.ptr 1 0 0)), (8, .c (.val (.int .i64 u128))), (27, .c (.val (.bool (x133 && r134))))], [.cells [.val (.int .i64 0), .str ([] : Bytes), .val (.int .i64 0), .val (.int .i64 0)], .cells [.val (.int .i64 0), .str ([] : Bytes), .val (.int .i64 0), .val (.int .i64 a1)]], [], 0⟩) 9 1 10 [0, 1, 4, 7, 8, 27] [0, 1] rfl (by kernel_rfl) ?_
        refine RefR.nilC 10 (by kernel_rfl) ?_
        refine Ref.condC (.tmp 27) (x133 && r134) (by kernel_rfl) rfl (by kernel_rfl) (fun hc => ?_) (fun hc => ?_)
        ·
          refine Ref.skipC (by kernel_rfl) ?_
          refine Ref.codeEq (c' := .block 2 (cd (bd Tryz.f16) [1, 1, 1, 0, 0, 1, 0, 0, 0, 0, 1, 0])) (by kernel_rfl) ?_
          refine Ref.block (go1 := fun u135 => ⟨[(0, .c (.str a0)), (1, .c (.val (.int .i64 a1))), (4, .c (.ptr 0 0 0)), (7, .c (.ptr 1 0 0)), (8, .c (.val (.int .i64 u135)))], [.cells [.val (.int .i64 0), .str ([] : Bytes), .val (.int .i64 0), .val (.int .i64 0)], .cells [.val (.int .i64 0), .str ([] : Bytes), .val (.int .i64 0), .val (.int .i64 a1)]], [], 0⟩) ?_ (fun a => match a with | .inl _ => (fun h => by cases h) | .inr (.inl _) => (fun h => by cases h) | .inr (.inr _) => (fun h => by cases h)) (fun u135 => ?_)
          ·
            refine Ref.regionC 5 (by kernel_rfl) ?_
            refine RefR.ev0 (st' := ⟨[(0, .c (.str a0)), (1, .c (.val (.int .i64 a1))), (4, .c (.ptr 0 0 0)), (7, .c (.ptr 1 0 0)), (8, .c (.val (.int .i64 (IntKind.i64.wrap (u128 + 1)))))], [.cells [.val (.int .i64 0), .str ([] : Bytes), .val (.int .i64 0), .val (.int .i64 0)], .cells [.val (.int .i64 0), .str ([] : Bytes), .val (.int .i64 0), .val (.int .i64 a1)]], [], 0⟩) 0 3 3 [0, 1, 4, 7, 8] [0, 1] rfl (by kernel_rfl) ?_
            refine RefR.nilC 3 (by kernel_rfl) ?_
            exact Ref.nil (t := ((IntKind.i64.wrap (u128 + 1)))) (by kernel_rfl)
          ·
            exact Ref.nil (t := (u135)) (by kernel_rfl)
        ·
          refine Ref.conv (Conv.keep (st' := ⟨[(0, .c (.str a0)), (1, .c (.val (.int .i64 a1))), (4, .c (.ptr 0 0 0)), (7, .c (.ptr 1 0 0)), (8, .c (.val (.int .i64 u128)))], [.cells [.val (.int .i64 0), .str ([] : Bytes), .val (.int .i64 0), .val (.int .i64 0)], .cells [.val (.int .i64 0), .str ([] : Bytes), .val (.int .i64 0), .val (.int .i64 a1)]], [], 0⟩) [0, 1, 4, 7, 8] [0, 1] (by kernel_rfl)) ?_
          exact Ref.exitC 1 (t := (Sum.inl (u128))) (by kernel_rfl) (by kernel_rfl)
      ·
        refine Ref.seqC (cd (bd Tryz.f16) [1, 1, 1, 0, 0, 1, 0, 1, 0]) (cd (bd Tryz.f16) [1, 1, 1, 0, 0, 1, 0, 1, 1]) (by kernel_rfl) ?_
        refine Ref.drawnY 6 (by kernel_rfl) (by kernel_rfl) ?_
        refine RefY.evC (vs := [bndOk a0.length a1 u123]) (st' := ⟨[(1, .c (.val (.int .i64 a1))), (4, .c (.ptr 0 0 0)), (7, .c (.ptr 1 0 0)), (8, .c (.val (.int .i64 u123))), (33, .c (.str ((a0.drop (a1 : Int).toNat).take ((u123 : Int).toNat - (a1 : Int).toNat)))), (34, .c (.ptr 1 0 0))], [.cells [.val (.int .i64 0), .str ([] : Bytes), .val (.int .i64 0), .val (.int .i64 0)], .cells [.val (.int .i64 0), .str ([] : Bytes), .val (.int .i64 0), .val (.int .i64 a1)]], [], 0⟩) (fuel' := 3) [0, 1, 2, 3, 4] [1, 4, 7, 8, 33, 34] [0, 1] rfl (by kernel_rfl) (by kernel_rfl) ?_
        refine RefY.letC (stf := fun x136 => ⟨[(1, .c (.val (.int .i64 a1))), (4, .c (.ptr 0 0 0)), (7, .c (.ptr 1 0 0)), (8, .c (.val (.int .i64 u123))), (33, .c (.str x136)), (34, .c (.ptr 1 0 0))], [.cells [.val (.int .i64 0), .str ([] : Bytes), .val (.int .i64 0), .val (.int .i64 0)], .cells [.val (.int .i64 0), .str ([] : Bytes), .val (.int .i64 0), .val (.int .i64 a1)]], [], 0⟩) (by kernel_rfl) (fun x136 => ?_)
        refine RefY.tail [5, 6, 7] rfl (by kernel_rfl) ?_
        refine RefR.ev0 (st' := ⟨[(1, .c (.val (.int .i64 a1))), (4, .c (.ptr 0 0 0)), (7, .c (.ptr 1 0 0)), (8, .c (.val (.int .i64 u123)))], [.cells [.val (.int .i64 0), .str ([] : Bytes), .val (.int .i64 0), .val (.int .i64 0)], .cells [.val (.int .i64 1), .str x136, .val (.int .i64 0), .val (.int .i64 a1)]], [], 0⟩) 0 3 3 [1, 4, 7, 8] [0, 1] rfl (by kernel_rfl) ?_
        refine RefR.nilC 3 (by kernel_rfl) ?_
        refine Ref.seqC (cd (bd Tryz.f16) [1, 1, 1, 0, 0, 1, 0, 1, 1, 0]) (cd (bd Tryz.f16) [1, 1, 1, 0, 0, 1, 0, 1, 1, 1]) (by kernel_rfl) ?_
        refine Ref.seqC (cd (bd Tryz.f16) [1, 1, 1, 0, 0, 1, 0, 1, 1, 0, 0]) (cd (bd Tryz.f16) [1, 1, 1, 0, 0, 1, 0, 1, 1, 0, 1]) (by kernel_rfl) ?_
        refine Ref.regionC 7 (by kernel_rfl) ?_
        refine RefR.ev0 (st' := ⟨[(1, .c (.val (.int .i64 a1))), (4, .c (.ptr 0 0 0)), (7, .c (.ptr 1 0 0)), (8, .c (.val (.int .i64 u123))), (37, .c (.str x136))], [.cells [.val (.int .i64 0), .str ([] : Bytes), .val (.int .i64 0), .val (.int .i64 0)], .cells [.val (.int .i64 1), .str x136, .val (.int .i64 0), .val (.int .i64 a1)]], [], 0⟩) 0 2 2 [1, 4, 7, 8, 37] [0, 1] rfl (by kernel_rfl) ?_
        refine RefR.callC (t := 38) 2 3 [] rfl (by kernel_rfl) (F10_ok K x136) (fun r137 => ?_)
        refine RefR.nilC 3 (by kernel_rfl) ?_
        refine Ref.bind (go1 := fun u139 => ⟨[(4, .c (.ptr 0 0 0)), (7, .c (.ptr 1 0 0)), (8, .c (.val (.int .i64 u123)))], [.cells [.val (.int .i64 0), .str ([] : Bytes), .val (.int .i64 0), .val (.int .i64 0)], .cells [.val (.int .i64 u139), .str x136, .val (.int .i64 0), .val (.int .i64 a1)]], [], 0⟩) ?_ (fun u139 => ?_)
        ·
          refine Ref.condC (.tmp 38) r137 (by kernel_rfl) rfl (by kernel_rfl) (fun hc => ?_) (fun hc => ?_)
          ·
            refine Ref.regionC 8 (by kernel_rfl) ?_
            refine RefR.ev0 (st' := ⟨[(4, .c (.ptr 0 0 0)), (7, .c (.ptr 1 0 0)), (8, .c (.val (.int .i64 u123)))], [.cells [.val (.int .i64 0), .str ([] : Bytes), .val (.int .i64 0), .val (.int .i64 0)], .cells [.val (.int .i64 2), .str x136, .val (.int .i64 0), .val (.int .i64 a1)]], [], 0⟩) 0 2 2 [4, 7, 8] [0, 1] rfl (by kernel_rfl) ?_
            refine RefR.nilC 2 (by kernel_rfl) ?_
            exact Ref.nil (t := (2)) (by kernel_rfl)
          ·
            refine Ref.seqC (cd (bd Tryz.f16) [1, 1, 1, 0, 0, 1, 0, 1, 1, 0, 1, 1, 0]) (cd (bd Tryz.f16) [1, 1, 1, 0, 0, 1, 0, 1, 1, 0, 1, 1, 1]) (by kernel_rfl) ?_
            refine Ref.regionC 9 (by kernel_rfl) ?_
            refine RefR.ev0 (st' := ⟨[(4, .c (.ptr 0 0 0)), (7, .c (.ptr 1 0 0)), (8, .c (.val (.int .i64 u123))), (43, .c (.val (.bool (decide (((IntKind.i64.wrap (u123 - a1)) : Int) > 12)))))], [.cells [.val (.int .i64 0), .str ([] : Bytes), .val (.int .i64 0), .val (.int .i64 0)], .cells [.val (.int .i64 1), .str x136, .val (.int .i64 0), .val (.int .i64 a1)]], [], 0⟩) 0 4 4 [4, 7, 8, 43] [0, 1] rfl (by kernel_rfl) ?_
            refine RefR.letC (stf := fun x140 => ⟨[(4, .c (.ptr 0 0 0)), (7, .c (.ptr 1 0 0)), (8, .c (.val (.int .i64 u123))), (43, .c (.val (.bool x140)))], [.cells [.val (.int .i64 0), .str ([] : Bytes), .val (.int .i64 0), .val (.int .i64 0)], .cells [.val (.int .i64 1), .str x136, .val (.int .i64 0), .val (.int .i64 a1)]], [], 0⟩) (by kernel_rfl) (fun x140 => ?_)
            refine RefR.nilC 4 (by kernel_rfl) ?_
            refine Ref.condC (.tmp 43) x140 (by kernel_rfl) rfl (by kernel_rfl) (fun hc => ?_) (fun hc => ?_)
            ·
              refine Ref.seqC (cd (bd Tryz.f16) [1, 1, 1, 0, 0, 1, 0, 1, 1, 0, 1, 1, 1, 0, 0]) (cd (bd Tryz.f16) [1, 1, 1, 0, 0, 1, 0, 1, 1, 0, 1, 1, 1, 0, 1]) (by kernel_rfl) ?_
              refine Ref.regionC 10 (by kernel_rfl) ?_
              refine RefR.ev0 (st' := ⟨[(4, .c (.ptr 0 0 0)), (5, .c (.val (.int .i64 u123))), (6, .c (.val (.int .i64 1)))], [.cells [.val (.int .i64 1), .str x136, .val (.int .i64 0), .val (.int .i64 a1)]], [], 0⟩) 0 5 5 [4, 5, 6] [0] rfl (by kernel_rfl) ?_
              refine RefR.nilC 5 (by kernel_rfl) ?_
              exact Ref.retC (t := (Sum.inr ((⟨1, x136, 0, a1⟩ : S37), u123, 1))) (by kernel_rfl) (by kernel_rfl)
            ·
              refine Ref.skipC (by kernel_rfl) ?_
              refine Ref.conv (Conv.keep (st' := ⟨[(4, .c (.ptr 0 0 0)), (7, .c (.ptr 1 0 0)), (8, .c (.val (.int .i64 u123)))], [.cells [.val (.int .i64 0), .str ([] : Bytes), .val (.int .i64 0), .val (.int .i64 0)], .cells [.val (.int .i64 1), .str x136, .val (.int .i64 0), .val (.int .i64 a1)]], [], 0⟩) [4, 7, 8] [0, 1] (by kernel_rfl)) ?_
              exact Ref.nil (t := (1)) (by kernel_rfl)
        ·
          refine Ref.seqC (cd (bd Tryz.f16) [1, 1, 1, 0, 0, 1, 0, 1, 1, 1, 0]) (cd (bd Tryz.f16) [1, 1, 1, 0, 0, 1, 0, 1, 1, 1, 1]) (by kernel_rfl) ?_
          refine Ref.seqC (cd (bd Tryz.f16) [1, 1, 1, 0, 0, 1, 0, 1, 1, 1, 0, 0]) (cd (bd Tryz.f16) [1, 1, 1, 0, 0, 1, 0, 1, 1, 1, 0, 1]) (by kernel_rfl) ?_
          refine Ref.regionC 11 (by kernel_rfl) ?_
          refine RefR.ev0 (st' := ⟨[(4, .c (.ptr 0 0 0)), (7, .c (.ptr 1 0 0)), (8, .c (.val (.int .i64 u123))), (53, .c (.val (.bool ((x136 == ([82, 69, 65, 76] : Bytes)) || (x136 == ([76, 82, 69, 65, 76] : Bytes))))))], [.cells [.val (.int .i64 0), .str ([] : Bytes), .val (.int .i64 0), .val (.int .i64 0)], .cells [.val (.int .i64 u139), .str x136, .val (.int .i64 0), .val (.int .i64 a1)]], [], 0⟩) 0 8 8 [4, 7, 8, 53] [0, 1] rfl (by kernel_rfl) ?_
          refine RefR.letC (stf := fun x141 => ⟨[(4, .c (.ptr 0 0 0)), (7, .c (.ptr 1 0 0)), (8, .c (.val (.int .i64 u123))), (53, .c (.val (.bool x141)))], [.cells [.val (.int .i64 0), .str ([] : Bytes), .val (.int .i64 0), .val (.int .i64 0)], .cells [.val (.int .i64 u139), .str x136, .val (.int .i64 0), .val (.int .i64 a1)]], [], 0⟩) (by kernel_rfl) (fun x141 => ?_)
          refine RefR.nilC 8 (by kernel_rfl) ?_
          refine Ref.condC (.tmp 53) x141 (by kernel_rfl) rfl (by kernel_rfl) (fun hc => ?_) (fun hc => ?_)
          ·
            refine Ref.seqC (cd (bd Tryz.f16) [1, 1, 1, 0, 0, 1, 0, 1, 1, 1, 0, 1, 0, 0]) (cd (bd Tryz.f16) [1, 1, 1, 0, 0, 1, 0, 1, 1, 1, 0, 1, 0, 1]) (by kernel_rfl) ?_
            refine Ref.regionC 12 (by kernel_rfl) ?_
            refine RefR.ev0 (st' := ⟨[(4, .c (.ptr 0 0 0)), (5, .c (.val (.int .i64 u123))), (6, .c (.val (.int .i64 2)))], [.cells [.val (.int .i64 u139), .str x136, .val (.int .i64 0), .val (.int .i64 a1)]], [], 0⟩) 0 5 5 [4, 5, 6] [0] rfl (by kernel_rfl) ?_
            refine RefR.nilC 5 (by kernel_rfl) ?_
            exact Ref.retC (t := (Sum.inr ((⟨u139, x136, 0, a1⟩ : S37), u123, 2))) (by kernel_rfl) (by kernel_rfl)
          ·
            refine Ref.skipC (by kernel_rfl) ?_
            refine Ref.seqC (cd (bd Tryz.f16) [1, 1, 1, 0, 0, 1, 0, 1, 1, 1, 1, 0]) (cd (bd Tryz.f16) [1, 1, 1, 0, 0, 1, 0, 1, 1, 1, 1, 1]) (by kernel_rfl) ?_
            refine Ref.regionC 13 (by kernel_rfl) ?_
            refine RefR.ev0 (st' := ⟨[(4, .c (.ptr 0 0 0)), (5, .c (.val (.int .i64 u123))), (6, .c (.val (.int .i64 0)))], [.cells [.val (.int .i64 u139), .str x136, .val (.int .i64 0), .val (.int .i64 a1)]], [], 0⟩) 0 5 5 [4, 5, 6] [0] rfl (by kernel_rfl) ?_
            refine RefR.nilC 5 (by kernel_rfl) ?_
            exact Ref.retC (t := (Sum.inr ((⟨u139, x136, 0, a1⟩ : S37), u123, 0))) (by kernel_rfl) (by kernel_rfl)
    ·
      refine Ref.seqC (cd (bd Tryz.f16) [1, 1, 1, 0, 0, 1, 1, 0]) (cd (bd Tryz.f16) [1, 1, 1, 0, 0, 1, 1, 1]) (by kernel_rfl) ?_
      refine Ref.regionC 14 (by kernel_rfl) ?_
      refine RefR.evC (vs := [inb a1 a0.length]) (st' := ⟨[(0, .c (.str a0)), (1, .c (.val (.int .i64 a1))), (4, .c (.ptr 0 0 0)), (7, .c (.ptr 1 0 0)), (8, .c (.val (.int .i64 a1))), (61, .c (.val (.int .u8 (Int.ofNat (a0.getD (a1 : Int).toNat 0).toNat))))], [.cells [.val (.int .i64 0), .str ([] : Bytes), .val (.int .i64 0), .val (.int .i64 0)], .cells [.val (.int .i64 0), .str ([] : Bytes), .val (.int .i64 0), .val (.int .i64 a1)]], [], 0⟩) 0 3 3 [0, 1, 4, 7, 8, 61] [0, 1] rfl (by kernel_rfl) ?_
      refine RefR.callC (t := 62) 3 4 [] rfl (by kernel_rfl) (F30_ok K (a0.getD (a1 : Int).toNat 0)) (fun r142 => ?_)
      refine RefR.ev0 (st' := ⟨[(0, .c (.str a0)), (1, .c (.val (.int .i64 a1))), (4, .c (.ptr 0 0 0)), (7, .c (.ptr 1 0 0)), (8, .c (.val (.int .i64 a1))), (58, .c (.val (.bool r142)))], [.cells [.val (.int .i64 0), .str ([] : Bytes), .val (.int .i64 0), .val (.int .i64 0)], .cells [.val (.int .i64 0), .str ([] : Bytes), .val (.int .i64 0), .val (.int .i64 a1)]], [], 0⟩) 4 1 5 [0, 1, 4, 7, 8, 58] [0, 1] rfl (by kernel_rfl) ?_
      refine RefR.nilC 5 (by kernel_rfl) ?_
      refine Ref.condC (.tmp 58) r142 (by kernel_rfl) rfl (by kernel_rfl) (fun hc => ?_) (fun hc => ?_)
      ·
        refine Ref.seqC (cd (bd Tryz.f16) [1, 1, 1, 0, 0, 1, 1, 1, 0, 0]) (cd (bd Tryz.f16) [1, 1, 1, 0, 0, 1, 1, 1, 0, 1]) (by kernel_rfl) ?_
        refine Ref.codeEq (c' := .block 3 (cd (bd Tryz.f16) [1, 1, 1, 0, 0, 1, 1, 1, 0, 0, 0])) (by kernel_rfl) ?_
        refine Ref.block (go1 := fun u179 => ⟨[(0, .c (.str a0)), (1, .c (.val (.int .i64 a1))), (4, .c (.ptr 0 0 0)), (7, .c (.ptr 1 0 0)), (8, .c (.val (.int .i64 u179.2)))], [.cells [.val (.int .i64 0), .str ([] : Bytes), .val (.int .i64 0), .val (.int .i64 0)], .cells [.val (.int .i64 0), .str ([] : Bytes), .val (.int .i64 u179.1), .val (.int .i64 a1)]], [], 0⟩) ?_ (fun a => match a with | .inl _ => (fun h => by cases h) | .inr _ => (fun h => by cases h)) (fun u179 => ?_)
        ·
          refine Ref.codeEq (c' := .loop (cd (bd Tryz.f16) [1, 1, 1, 0, 0, 1, 1, 1, 0, 0, 0, 0])) (by kernel_rfl) ?_
          refine Ref.conv (Conv.keep (st' := ⟨[(0, .c (.str a0)), (1, .c (.val (.int .i64 a1))), (4, .c (.ptr 0 0 0)), (7, .c (.ptr 1 0 0)), (8, .c (.val (.int .i64 a1)))], [.cells [.val (.int .i64 0), .str ([] : Bytes), .val (.int .i64 0), .val (.int .i64 0)], .cells [.val (.int .i64 0), .str ([] : Bytes), .val (.int .i64 0), .val (.int .i64 a1)]], [], 0⟩) [0, 1, 4, 7, 8] [0, 1] (by kernel_rfl)) ?_
          refine Ref.loop (hd := fun u192 => ⟨[(0, .c (.str a0)), (1, .c (.val (.int .i64 a1))), (4, .c (.ptr 0 0 0)), (7, .c (.ptr 1 0 0)), (8, .c (.val (.int .i64 u192.2)))], [.cells [.val (.int .i64 0), .str ([] : Bytes), .val (.int .i64 0), .val (.int .i64 0)], .cells [.val (.int .i64 0), .str ([] : Bytes), .val (.int .i64 u192.1), .val (.int .i64 a1)]], [], 0⟩) K (0, a1) (by kernel_rfl) (fun u192 => ?_)
          refine Ref.seqC (cd (bd Tryz.f16) [1, 1, 1, 0, 0, 1, 1, 1, 0, 0, 0, 0, 0]) (cd (bd Tryz.f16) [1, 1, 1, 0, 0, 1, 1, 1, 0, 0, 0, 0, 1]) (by kernel_rfl) ?_
          refine Ref.seqC (cd (bd Tryz.f16) [1, 1, 1, 0, 0, 1, 1, 1, 0, 0, 0, 0, 0, 0]) (cd (bd Tryz.f16) [1, 1, 1, 0, 0, 1, 1, 1, 0, 0, 0, 0, 0, 1]) (by kernel_rfl) ?_
          refine Ref.regionC 15 (by kernel_rfl) ?_
          refine RefR.evC (vs := [!(decide ((u192.2 : Int) < (Int.ofNat a0.length))) || inb u192.2 a0.length]) (st' := ⟨[(0, .c (.str a0)), (1, .c (.val (.int .i64 a1))), (4, .c (.ptr 0 0 0)), (7, .c (.ptr 1 0 0)), (8, .c (.val (.int .i64 u192.2))), (67, .c (.val (.bool (decide ((u192.2 : Int) < (Int.ofNat a0.length)))))), (70, .c (.val (.int .u8 (Int.ofNat (a0.getD (u192.2 : Int).toNat 0).toNat))))], [.cells [.val (.int .i64 0), .str ([] : Bytes), .val (.int .i64 0), .val (.int .i64 0)], .cells [.val (.int .i64 0), .str ([] : Bytes), .val (.int .i64 u192.1), .val (.int .i64 a1)]], [(70, [(67, true)])], 0⟩) 0 8 8 [0, 1, 4, 7, 8, 67, 70] [0, 1] rfl (by kernel_rfl) ?_
          refine RefR.letC (stf := fun x205 => ⟨[(0, .c (.str a0)), (1, .c (.val (.int .i64 a1))), (4, .c (.ptr 0 0 0)), (7, .c (.ptr 1 0 0)), (8, .c (.val (.int .i64 u192.2))), (67, .c (.val (.bool x205))), (70, .c (.val (.int .u8 (Int.ofNat (a0.getD (u192.2 : Int).toNat 0).toNat))))], [.cells [.val (.int .i64 0), .str ([] : Bytes), .val (.int .i64 0), .val (.int .i64 0)], .cells [.val (.int .i64 0), .str ([] : Bytes), .val (.int .i64 u192.1), .val (.int .i64 a1)]], [(70, [(67, true)])], 0⟩) (by kernel_rfl) (fun x205 => ?_)
          refine RefR.lookC (t := 71) (g := [(67, true)]) (b := x205) 8 9 [] (default : Bool) rfl (by kernel_rfl) (F30_ok K (a0.getD (u192.2 : Int).toNat 0)) (fun _ => rfl) (fun r206 => ?_)
          refine RefR.ev0 (st' := ⟨[(0, .c (.str a0)), (1, .c (.val (.int .i64 a1))), (4, .c (.ptr 0 0 0)), (7, .c (.ptr 1 0 0)), (8, .c (.val (.int .i64 u192.2))), (72, .c (.val (.bool (x205 && r206))))], [.cells [.val (.int .i64 0), .str ([] : Bytes), .val (.int .i64 0), .val (.int .i64 0)], .cells [.val (.int .i64 0), .str ([] : Bytes), .val (.int .i64 u192.1), .val (.int .i64 a1)]], [], 0⟩) 9 1 10 [0, 1, 4, 7, 8, 72] [0, 1] rfl (by kernel_rfl) ?_
          refine RefR.nilC 10 (by kernel_rfl) ?_
          refine Ref.condC (.tmp 72) (x205 && r206) (by kernel_rfl) rfl (by kernel_rfl) (fun hc => ?_) (fun hc => ?_)
          ·
            refine Ref.skipC (by kernel_rfl) ?_
            refine Ref.codeEq (c' := .block 4 (cd (bd Tryz.f16) [1, 1, 1, 0, 0, 1, 1, 1, 0, 0, 0, 0, 1, 0])) (by kernel_rfl) ?_
            refine Ref.block (go1 := fun u211 => ⟨[(0, .c (.str a0)), (1, .c (.val (.int .i64 a1))), (4, .c (.ptr 0 0 0)), (7, .c (.ptr 1 0 0)), (8, .c (.val (.int .i64 u211.2)))], [.cells [.val (.int .i64 0), .str ([] : Bytes), .val (.int .i64 0), .val (.int .i64 0)], .cells [.val (.int .i64 0), .str ([] : Bytes), .val (.int .i64 u211.1), .val (.int .i64 a1)]], [], 0⟩) ?_ (fun a => match a with | .inl _ => (fun h => by cases h) | .inr (.inl _) => (fun h => by cases h) | .inr (.inr _) => (fun h => by cases h)) (fun u211 => ?_)
            ·
              refine Ref.seqC (cd (bd Tryz.f16) [1, 1, 1, 0, 0, 1, 1, 1, 0, 0, 0, 0, 1, 0, 0]) (cd (bd Tryz.f16) [1, 1, 1, 0, 0, 1, 1, 1, 0, 0, 0, 0, 1, 0, 1]) (by kernel_rfl) ?_
              refine Ref.seqC (cd (bd Tryz.f16) [1, 1, 1, 0, 0, 1, 1, 1, 0, 0, 0, 0, 1, 0, 0, 0]) (cd (bd Tryz.f16) [1, 1, 1, 0, 0, 1, 1, 1, 0, 0, 0, 0, 1, 0, 0, 1]) (by kernel_rfl) ?_
              refine Ref.regionC 16 (by kernel_rfl) ?_
              refine RefR.ev0 (st' := ⟨[(0, .c (.str a0)), (1, .c (.val (.int .i64 a1))), (4, .c (.ptr 0 0 0)), (7, .c (.ptr 1 0 0)), (8, .c (.val (.int .i64 u192.2))), (76, .c (.val (.bool (decide (((IntKind.i64.wrap (u192.2 - a1)) : Int) < 6)))))], [.cells [.val (.int .i64 0), .str ([] : Bytes), .val (.int .i64 0), .val (.int .i64 0)], .cells [.val (.int .i64 0), .str ([] : Bytes), .val (.int .i64 u192.1), .val (.int .i64 a1)]], [], 0⟩) 0 4 4 [0, 1, 4, 7, 8, 76] [0, 1] rfl (by kernel_rfl) ?_
              refine RefR.letC (stf := fun x212 => ⟨[(0, .c (.str a0)), (1, .c (.val (.int .i64 a1))), (4, .c (.ptr 0 0 0)), (7, .c (.ptr 1 0 0)), (8, .c (.val (.int .i64 u192.2))), (76, .c (.val (.bool x212)))], [.cells [.val (.int .i64 0), .str ([] : Bytes), .val (.int .i64 0), .val (.int .i64 0)], .cells [.val (.int .i64 0), .str ([] : Bytes), .val (.int .i64 u192.1), .val (.int .i64 a1)]], [], 0⟩) (by kernel_rfl) (fun x212 => ?_)
              refine RefR.nilC 4 (by kernel_rfl) ?_
              refine Ref.bind (go1 := fun u214 => ⟨[(0, .c (.str a0)), (1, .c (.val (.int .i64 a1))), (4, .c (.ptr 0 0 0)), (7, .c (.ptr 1 0 0)), (8, .c (.val (.int .i64 u192.2)))], [.cells [.val (.int .i64 0), .str ([] : Bytes), .val (.int .i64 0), .val (.int .i64 0)], .cells [.val (.int .i64 0), .str ([] : Bytes), .val (.int .i64 u214), .val (.int .i64 a1)]], [], 0⟩) ?_ (fun u214 => ?_)
              ·
                refine Ref.condC (.tmp 76) x212 (by kernel_rfl) rfl (by kernel_rfl) (fun hc => ?_) (fun hc => ?_)
                ·
                  refine Ref.drawnY 17 (by kernel_rfl) (by kernel_rfl) ?_
                  refine RefY.evC (vs := [inb u192.2 a0.length]) (st' := ⟨[(0, .c (.str a0)), (1, .c (.val (.int .i64 a1))), (4, .c (.ptr 0 0 0)), (7, .c (.ptr 1 0 0)), (8, .c (.val (.int .i64 u192.2))), (77, .c (.ptr 1 0 2)), (84, .c (.val (.int .i64 (IntKind.i64.wrap (IntKind.u8.wrap ((Int.ofNat (a0.getD (u192.2 : Int).toNat 0).toNat) - 48))))))], [.cells [.val (.int .i64 0), .str ([] : Bytes), .val (.int .i64 0), .val (.int .i64 0)], .cells [.val (.int .i64 0), .str ([] : Bytes), .val (.int .i64 u192.1), .val (.int .i64 a1)]], [], 0⟩) (fuel' := 5) [0, 3, 4, 5, 6, 7] [0, 1, 4, 7, 8, 77, 84] [0, 1] rfl (by kernel_rfl) (by kernel_rfl) ?_
                  refine RefY.letC (stf := fun x215 => ⟨[(0, .c (.str a0)), (1, .c (.val (.int .i64 a1))), (4, .c (.ptr 0 0 0)), (7, .c (.ptr 1 0 0)), (8, .c (.val (.int .i64 u192.2))), (77, .c (.ptr 1 0 2)), (84, .c (.val (.int .i64 x215)))], [.cells [.val (.int .i64 0), .str ([] : Bytes), .val (.int .i64 0), .val (.int .i64 0)], .cells [.val (.int .i64 0), .str ([] : Bytes), .val (.int .i64 u192.1), .val (.int .i64 a1)]], [], 0⟩) (by kernel_rfl) (fun x215 => ?_)
                  refine RefY.tail [1, 2, 8, 9, 10] rfl (by kernel_rfl) ?_
                  refine RefR.ev0 (st' := ⟨[(0, .c (.str a0)), (1, .c (.val (.int .i64 a1))), (4, .c (.ptr 0 0 0)), (7, .c (.ptr 1 0 0)), (8, .c (.val (.int .i64 u192.2)))], [.cells [.val (.int .i64 0), .str ([] : Bytes), .val (.int .i64 0), .val (.int .i64 0)], .cells [.val (.int .i64 0), .str ([] : Bytes), .val (.int .i64 (IntKind.i64.wrap ((IntKind.i64.wrap (u192.1 * 10)) + x215))), .val (.int .i64 a1)]], [], 0⟩) 0 5 5 [0, 1, 4, 7, 8] [0, 1] rfl (by kernel_rfl) ?_
                  refine RefR.nilC 5 (by kernel_rfl) ?_
                  exact Ref.nil (t := ((IntKind.i64.wrap ((IntKind.i64.wrap (u192.1 * 10)) + x215)))) (by kernel_rfl)
                ·
                  refine Ref.skipC (by kernel_rfl) ?_
                  refine Ref.conv (Conv.keep (st' := ⟨[(0, .c (.str a0)), (1, .c (.val (.int .i64 a1))), (4, .c (.ptr 0 0 0)), (7, .c (.ptr 1 0 0)), (8, .c (.val (.int .i64 u192.2)))], [.cells [.val (.int .i64 0), .str ([] : Bytes), .val (.int .i64 0), .val (.int .i64 0)], .cells [.val (.int .i64 0), .str ([] : Bytes), .val (.int .i64 u192.1), .val (.int .i64 a1)]], [], 0⟩) [0, 1, 4, 7, 8] [0, 1] (by kernel_rfl)) ?_
                  exact Ref.nil (t := (u192.1)) (by kernel_rfl)
              ·
                refine Ref.regionC 18 (by kernel_rfl) ?_
                refine RefR.ev0 (st' := ⟨[(0, .c (.str a0)), (1, .c (.val (.int .i64 a1))), (4, .c (.ptr 0 0 0)), (7, .c (.ptr 1 0 0)), (8, .c (.val (.int .i64 (IntKind.i64.wrap (u192.2 + 1)))))], [.cells [.val (.int .i64 0), .str ([] : Bytes), .val (.int .i64 0), .val (.int .i64 0)], .cells [.val (.int .i64 0), .str ([] : Bytes), .val (.int .i64 u214), .val (.int .i64 a1)]], [], 0⟩) 0 3 3 [0, 1, 4, 7, 8] [0, 1] rfl (by kernel_rfl) ?_
                refine RefR.nilC 3 (by kernel_rfl) ?_
                exact Ref.nil (t := (u214, (IntKind.i64.wrap (u192.2 + 1)))) (by kernel_rfl)
            ·
              exact Ref.nil (t := (u211.1, u211.2)) (by kernel_rfl)
          ·
            refine Ref.conv (Conv.keep (st' := ⟨[(0, .c (.str a0)), (1, .c (.val (.int .i64 a1))), (4, .c (.ptr 0 0 0)), (7, .c (.ptr 1 0 0)), (8, .c (.val (.int .i64 u192.2)))], [.cells [.val (.int .i64 0), .str ([] : Bytes), .val (.int .i64 0), .val (.int .i64 0)], .cells [.val (.int .i64 0), .str ([] : Bytes), .val (.int .i64 u192.1), .val (.int .i64 a1)]], [], 0⟩) [0, 1, 4, 7, 8] [0, 1] (by kernel_rfl)) ?_
            exact Ref.exitC 3 (t := (Sum.inl (u192.1, u192.2))) (by kernel_rfl) (by kernel_rfl)
        ·
          refine Ref.seqC (cd (bd Tryz.f16) [1, 1, 1, 0, 0, 1, 1, 1, 0, 1, 0]) (cd (bd Tryz.f16) [1, 1, 1, 0, 0, 1, 1, 1, 0, 1, 1]) (by kernel_rfl) ?_
          refine Ref.drawnY 19 (by kernel_rfl) (by kernel_rfl) ?_
          refine RefY.evC (vs := [bndOk a0.length a1 u179.2]) (st' := ⟨[(1, .c (.val (.int .i64 a1))), (4, .c (.ptr 0 0 0)), (7, .c (.ptr 1 0 0)), (8, .c (.val (.int .i64 u179.2))), (92, .c (.str ((a0.drop (a1 : Int).toNat).take ((u179.2 : Int).toNat - (a1 : Int).toNat)))), (93, .c (.ptr 1 0 0))], [.cells [.val (.int .i64 0), .str ([] : Bytes), .val (.int .i64 0), .val (.int .i64 0)], .cells [.val (.int .i64 0), .str ([] : Bytes), .val (.int .i64 u179.1), .val (.int .i64 a1)]], [], 0⟩) (fuel' := 3) [0, 1, 2, 3, 4] [1, 4, 7, 8, 92, 93] [0, 1] rfl (by kernel_rfl) (by kernel_rfl) ?_
          refine RefY.letC (stf := fun x216 => ⟨[(1, .c (.val (.int .i64 a1))), (4, .c (.ptr 0 0 0)), (7, .c (.ptr 1 0 0)), (8, .c (.val (.int .i64 u179.2))), (92, .c (.str x216)), (93, .c (.ptr 1 0 0))], [.cells [.val (.int .i64 0), .str ([] : Bytes), .val (.int .i64 0), .val (.int .i64 0)], .cells [.val (.int .i64 0), .str ([] : Bytes), .val (.int .i64 u179.1), .val (.int .i64 a1)]], [], 0⟩) (by kernel_rfl) (fun x216 => ?_)
          refine RefY.tail [5, 6, 7] rfl (by kernel_rfl) ?_
          refine RefR.ev0 (st' := ⟨[(1, .c (.val (.int .i64 a1))), (4, .c (.ptr 0 0 0)), (7, .c (.ptr 1 0 0)), (8, .c (.val (.int .i64 u179.2)))], [.cells [.val (.int .i64 0), .str ([] : Bytes), .val (.int .i64 0), .val (.int .i64 0)], .cells [.val (.int .i64 3), .str x216, .val (.int .i64 u179.1), .val (.int .i64 a1)]], [], 0⟩) 0 3 3 [1, 4, 7, 8] [0, 1] rfl (by kernel_rfl) ?_
          refine RefR.nilC 3 (by kernel_rfl) ?_
          refine Ref.seqC (cd (bd Tryz.f16) [1, 1, 1, 0, 0, 1, 1, 1, 0, 1, 1, 0]) (cd (bd Tryz.f16) [1, 1, 1, 0, 0, 1, 1, 1, 0, 1, 1, 1]) (by kernel_rfl) ?_
          refine Ref.seqC (cd (bd Tryz.f16) [1, 1, 1, 0, 0, 1, 1, 1, 0, 1, 1, 0, 0]) (cd (bd Tryz.f16) [1, 1, 1, 0, 0, 1, 1, 1, 0, 1, 1, 0, 1]) (by kernel_rfl) ?_
          refine Ref.regionC 20 (by kernel_rfl) ?_
          refine RefR.ev0 (st' := ⟨[(4, .c (.ptr 0 0 0)), (7, .c (.ptr 1 0 0)), (8, .c (.val (.int .i64 u179.2))), (103, .c (.val (.bool ((decide (((IntKind.i64.wrap (u179.2 - a1)) : Int) > 5)) || (decide ((u179.1 : Int) > 32768))))))], [.cells [.val (.int .i64 0), .str ([] : Bytes), .val (.int .i64 0), .val (.int .i64 0)], .cells [.val (.int .i64 3), .str x216, .val (.int .i64 u179.1), .val (.int .i64 a1)]], [], 0⟩) 0 9 9 [4, 7, 8, 103] [0, 1] rfl (by kernel_rfl) ?_
          refine RefR.letC (stf := fun x217 => ⟨[(4, .c (.ptr 0 0 0)), (7, .c (.ptr 1 0 0)), (8, .c (.val (.int .i64 u179.2))), (103, .c (.val (.bool x217)))], [.cells [.val (.int .i64 0), .str ([] : Bytes), .val (.int .i64 0), .val (.int .i64 0)], .cells [.val (.int .i64 3), .str x216, .val (.int .i64 u179.1), .val (.int .i64 a1)]], [], 0⟩) (by kernel_rfl) (fun x217 => ?_)
          refine RefR.nilC 9 (by kernel_rfl) ?_
          refine Ref.condC (.tmp 103) x217 (by kernel_rfl) rfl (by kernel_rfl) (fun hc => ?_) (fun hc => ?_)
          ·
            refine Ref.seqC (cd (bd Tryz.f16) [1, 1, 1, 0, 0, 1, 1, 1, 0, 1, 1, 0, 1, 0, 0]) (cd (bd Tryz.f16) [1, 1, 1, 0, 0, 1, 1, 1, 0, 1, 1, 0, 1, 0, 1]) (by kernel_rfl) ?_
            refine Ref.regionC 21 (by kernel_rfl) ?_
            refine RefR.ev0 (st' := ⟨[(4, .c (.ptr 0 0 0)), (5, .c (.val (.int .i64 u179.2))), (6, .c (.val (.int .i64 1)))], [.cells [.val (.int .i64 3), .str x216, .val (.int .i64 u179.1), .val (.int .i64 a1)]], [], 0⟩) 0 5 5 [4, 5, 6] [0] rfl (by kernel_rfl) ?_
            refine RefR.nilC 5 (by kernel_rfl) ?_
            exact Ref.retC (t := (Sum.inr ((⟨3, x216, u179.1, a1⟩ : S37), u179.2, 1))) (by kernel_rfl) (by kernel_rfl)
          ·
            refine Ref.skipC (by kernel_rfl) ?_
            refine Ref.seqC (cd (bd Tryz.f16) [1, 1, 1, 0, 0, 1, 1, 1, 0, 1, 1, 1, 0]) (cd (bd Tryz.f16) [1, 1, 1, 0, 0, 1, 1, 1, 0, 1, 1, 1, 1]) (by kernel_rfl) ?_
            refine Ref.regionC 22 (by kernel_rfl) ?_
            refine RefR.ev0 (st' := ⟨[(4, .c (.ptr 0 0 0)), (5, .c (.val (.int .i64 u179.2))), (6, .c (.val (.int .i64 0)))], [.cells [.val (.int .i64 3), .str x216, .val (.int .i64 u179.1), .val (.int .i64 a1)]], [], 0⟩) 0 5 5 [4, 5, 6] [0] rfl (by kernel_rfl) ?_
            refine RefR.nilC 5 (by kernel_rfl) ?_
            exact Ref.retC (t := (Sum.inr ((⟨3, x216, u179.1, a1⟩ : S37), u179.2, 0))) (by kernel_rfl) (by kernel_rfl)
      ·
        refine Ref.skipC (by kernel_rfl) ?_
        refine Ref.conv (Conv.keep (st' := ⟨[(0, .c (.str a0)), (1, .c (.val (.int .i64 a1))), (4, .c (.ptr 0 0 0)), (7, .c (.ptr 1 0 0)), (8, .c (.val (.int .i64 a1)))], [.cells [.val (.int .i64 0), .str ([] : Bytes), .val (.int .i64 0), .val (.int .i64 0)], .cells [.val (.int .i64 0), .str ([] : Bytes), .val (.int .i64 0), .val (.int .i64 a1)]], [], 0⟩) [0, 1, 4, 7, 8] [0, 1] (by kernel_rfl)) ?_
        exact Ref.nil (t := ()) (by kernel_rfl)
  ·
    refine Ref.seqC (cd (bd Tryz.f16) [1, 1, 1, 1, 0]) (cd (bd Tryz.f16) [1, 1, 1, 1, 1]) (by kernel_rfl) ?_
    refine Ref.regionC 23 (by kernel_rfl) ?_
    refine RefR.ev0 (st' := ⟨[(0, .c (.str a0)), (1, .c (.val (.int .i64 a1))), (4, .c (.ptr 0 0 0)), (7, .c (.ptr 1 0 0)), (8, .c (.val (.int .i64 a1))), (108, .c (.str a0)), (109, .c (.val (.int .i64 a1)))], [.cells [.val (.int .i64 0), .str ([] : Bytes), .val (.int .i64 0), .val (.int .i64 0)], .cells [.val (.int .i64 0), .str ([] : Bytes), .val (.int .i64 0), .val (.int .i64 a1)]], [], 0⟩) 0 2 2 [0, 1, 4, 7, 8, 108, 109] [0, 1] rfl (by kernel_rfl) ?_
    refine RefR.callC (t := 110) 2 3 [] rfl (by kernel_rfl) (F31_ok K a0 a1) (fun r218 => ?_)
    refine RefR.ev0 (st' := ⟨[(0, .c (.str a0)), (1, .c (.val (.int .i64 a1))), (4, .c (.ptr 0 0 0)), (7, .c (.ptr 1 0 0)), (8, .c (.val (.int .i64 a1))), (9, .c (.val (.int .i64 r218)))], [.cells [.val (.int .i64 0), .str ([] : Bytes), .val (.int .i64 0), .val (.int .i64 0)], .cells [.val (.int .i64 0), .str ([] : Bytes), .val (.int .i64 0), .val (.int .i64 a1)]], [], 0⟩) 3 1 4 [0, 1, 4, 7, 8, 9] [0, 1] rfl (by kernel_rfl) ?_
    refine RefR.nilC 4 (by kernel_rfl) ?_
    refine Ref.seqC (cd (bd Tryz.f16) [1, 1, 1, 1, 1, 0]) (cd (bd Tryz.f16) [1, 1, 1, 1, 1, 1]) (by kernel_rfl) ?_
    refine Ref.drawnY 24 (by kernel_rfl) (by kernel_rfl) ?_
    refine RefY.evC (vs := [bndOk a0.length a1 (IntKind.i64.wrap (a1 + r218))]) (st' := ⟨[(1, .c (.val (.int .i64 a1))), (4, .c (.ptr 0 0 0)), (7, .c (.ptr 1 0 0)), (8, .c (.val (.int .i64 a1))), (9, .c (.val (.int .i64 r218))), (116, .c (.str ((a0.drop (a1 : Int).toNat).take (((IntKind.i64.wrap (a1 + r218)) : Int).toNat - (a1 : Int).toNat)))), (117, .c (.ptr 1 0 0))], [.cells [.val (.int .i64 0), .str ([] : Bytes), .val (.int .i64 0), .val (.int .i64 0)], .cells [.val (.int .i64 0), .str ([] : Bytes), .val (.int .i64 0), .val (.int .i64 a1)]], [], 0⟩) (fuel' := 3) [0, 1, 2, 3, 4, 5, 6] [1, 4, 7, 8, 9, 116, 117] [0, 1] rfl (by kernel_rfl) (by kernel_rfl) ?_
    refine RefY.letC (stf := fun x219 => ⟨[(1, .c (.val (.int .i64 a1))), (4, .c (.ptr 0 0 0)), (7, .c (.ptr 1 0 0)), (8, .c (.val (.int .i64 a1))), (9, .c (.val (.int .i64 r218))), (116, .c (.str x219)), (117, .c (.ptr 1 0 0))], [.cells [.val (.int .i64 0), .str ([] : Bytes), .val (.int .i64 0), .val (.int .i64 0)], .cells [.val (.int .i64 0), .str ([] : Bytes), .val (.int .i64 0), .val (.int .i64 a1)]], [], 0⟩) (by kernel_rfl) (fun x219 => ?_)
    refine RefY.tail [7, 8, 9] rfl (by kernel_rfl) ?_
    refine RefR.ev0 (st' := ⟨[(1, .c (.val (.int .i64 a1))), (4, .c (.ptr 0 0 0)), (7, .c (.ptr 1 0 0)), (8, .c (.val (.int .i64 a1))), (9, .c (.val (.int .i64 r218)))], [.cells [.val (.int .i64 0), .str ([] : Bytes), .val (.int .i64 0), .val (.int .i64 0)], .cells [.val (.int .i64 4), .str x219, .val (.int .i64 0), .val (.int .i64 a1)]], [], 0⟩) 0 3 3 [1, 4, 7, 8, 9] [0, 1] rfl (by kernel_rfl) ?_
    refine RefR.nilC 3 (by kernel_rfl) ?_
    refine Ref.seqC (cd (bd Tryz.f16) [1, 1, 1, 1, 1, 1, 0]) (cd (bd Tryz.f16) [1, 1, 1, 1, 1, 1, 1]) (by kernel_rfl) ?_
    refine Ref.seqC (cd (bd Tryz.f16) [1, 1, 1, 1, 1, 1, 0, 0]) (cd (bd Tryz.f16) [1, 1, 1, 1, 1, 1, 0, 1]) (by kernel_rfl) ?_
    refine Ref.regionC 25 (by kernel_rfl) ?_
    refine RefR.ev0 (st' := ⟨[(1, .c (.val (.int .i64 a1))), (4, .c (.ptr 0 0 0)), (7, .c (.ptr 1 0 0)), (8, .c (.val (.int .i64 a1))), (9, .c (.val (.int .i64 r218))), (120, .c (.val (.bool ((r218 : Int) == 0))))], [.cells [.val (.int .i64 0), .str ([] : Bytes), .val (.int .i64 0), .val (.int .i64 0)], .cells [.val (.int .i64 4), .str x219, .val (.int .i64 0), .val (.int .i64 a1)]], [], 0⟩) 0 2 2 [1, 4, 7, 8, 9, 120] [0, 1] rfl (by kernel_rfl) ?_
    refine RefR.nilC 2 (by kernel_rfl) ?_
    refine Ref.condC (.tmp 120) ((r218 : Int) == 0) (by kernel_rfl) rfl (by kernel_rfl) (fun hc => ?_) (fun hc => ?_)
    ·
      refine Ref.seqC (cd (bd Tryz.f16) [1, 1, 1, 1, 1, 1, 0, 1, 0, 0]) (cd (bd Tryz.f16) [1, 1, 1, 1, 1, 1, 0, 1, 0, 1]) (by kernel_rfl) ?_
      refine Ref.regionC 26 (by kernel_rfl) ?_
      refine RefR.ev0 (st' := ⟨[(4, .c (.ptr 0 0 0)), (5, .c (.val (.int .i64 a1))), (6, .c (.val (.int .i64 1)))], [.cells [.val (.int .i64 4), .str x219, .val (.int .i64 0), .val (.int .i64 a1)]], [], 0⟩) 0 5 5 [4, 5, 6] [0] rfl (by kernel_rfl) ?_
      refine RefR.nilC 5 (by kernel_rfl) ?_
      exact Ref.retC (t := ((⟨4, x219, 0, a1⟩ : S37), a1, 1)) (by kernel_rfl) (by kernel_rfl)
    ·
      refine Ref.skipC (by kernel_rfl) ?_
      refine Ref.seqC (cd (bd Tryz.f16) [1, 1, 1, 1, 1, 1, 1, 0]) (cd (bd Tryz.f16) [1, 1, 1, 1, 1, 1, 1, 1]) (by kernel_rfl) ?_
      refine Ref.regionC 27 (by kernel_rfl) ?_
      refine RefR.ev0 (st' := ⟨[(4, .c (.ptr 0 0 0)), (5, .c (.val (.int .i64 (IntKind.i64.wrap (a1 + r218))))), (6, .c (.val (.int .i64 0)))], [.cells [.val (.int .i64 4), .str x219, .val (.int .i64 0), .val (.int .i64 a1)]], [], 0⟩) 0 7 7 [4, 5, 6] [0] rfl (by kernel_rfl) ?_
      refine RefR.nilC 7 (by kernel_rfl) ?_
      exact Ref.retC (t := ((⟨4, x219, 0, a1⟩ : S37), (IntKind.i64.wrap (a1 + r218)), 0)) (by kernel_rfl) (by kernel_rfl)

/-- governor/governorref3.All -/
def F6 (K : Nat) (a0 : Bytes) : Option (((List S37) × Int × Int) ⊕ ((List S37) × Int × Int)) :=
  (letV (decide (((Int.ofNat a0.length) : Int) > 6000)) (fun (x1 : Bool) => (if x1 = true then (some (.inl ([], 5, 6000))) else (bindS (blockS ((iter K (fun (u49 : (List S37) × Int) => (letV (decide ((u49.2 : Int) < (Int.ofNat a0.length))) (fun (x63 : Bool) => (if x63 = true then (bindS (blockS (chk [inb u49.2 a0.length, !(!(((Int.ofNat (a0.getD (u49.2 : Int).toNat 0).toNat) : Int) == 32)) || inb u49.2 a0.length, !(!((((Int.ofNat (a0.getD (u49.2 : Int).toNat 0).toNat) : Int) == 32) || (((Int.ofNat (a0.getD (u49.2 : Int).toNat 0).toNat) : Int) == 9))) || inb u49.2 a0.length, !(!(((((Int.ofNat (a0.getD (u49.2 : Int).toNat 0).toNat) : Int) == 32) || (((Int.ofNat (a0.getD (u49.2 : Int).toNat 0).toNat) : Int) == 9)) || (((Int.ofNat (a0.getD (u49.2 : Int).toNat 0).toNat) : Int) == 10))) || inb u49.2 a0.length] (letV ((((((Int.ofNat (a0.getD (u49.2 : Int).toNat 0).toNat) : Int) == 32) || (((Int.ofNat (a0.getD (u49.2 : Int).toNat 0).toNat) : Int) == 9)) || (((Int.ofNat (a0.getD (u49.2 : Int).toNat 0).toNat) : Int) == 10)) || (((Int.ofNat (a0.getD (u49.2 : Int).toNat 0).toNat) : Int) == 13)) (fun (x70 : Bool) => (if x70 = true then (some (.inl (Sum.inl (u49.1, (IntKind.i64.wrap (u49.2 + 1)))))) else (chk [inb u49.2 a0.length, !((((Int.ofNat (a0.getD (u49.2 : Int).toNat 0).toNat) : Int) == 40) && (decide (((IntKind.i64.wrap (u49.2 + 1)) : Int) < (Int.ofNat a0.length)))) || inb (IntKind.i64.wrap (u49.2 + 1)) a0.length] (letV (((((Int.ofNat (a0.getD (u49.2 : Int).toNat 0).toNat) : Int) == 40) && (decide (((IntKind.i64.wrap (u49.2 + 1)) : Int) < (Int.ofNat a0.length)))) && (((Int.ofNat (a0.getD ((IntKind.i64.wrap (u49.2 + 1)) : Int).toNat 0).toNat) : Int) == 42)) (fun (x71 : Bool) => (if x71 = true then ((fnS (F15 K a0 u49.2)).bind (fun r72 => (if (decide ((r72 : Int) < 0)) = true then (some (.inl (Sum.inr (Sum.inr ([], 1, u49.2))))) else (some (.inl (Sum.inl (u49.1, r72))))))) else ((fnS (F16 K a0 u49.2)).bind (fun r73 => (if ((r73.2.2 : Int) != 0) = true then (some (.inl (Sum.inr (Sum.inr ([], r73.2.2, u49.2))))) else (letV (decide (((Int.ofNat u49.1.length) : Int) ≥ 1500)) (fun (x74 : Bool) => (if x74 = true then (some (.inl (Sum.inr (Sum.inr ([], 5, u49.2))))) else (chk [room ((u49.1.length + ([r73.1].length)) * 40)] (some (.inr ((u49.1 ++ [r73.1]), r73.2.1))))))))))))))))))) (fun (u69 : (List S37) × Int) => (some (.inr (u69.1, u69.2))))) else (some (.inl (Sum.inl (u49.1)))))))) ([], 0)).map .inl)) (fun (u38 : (List S37)) => (some (.inl (u38, 0, 0))))))))

theorem F6_ok (K : Nat) (a0 : Bytes) : DFun Tryz.prog 6 [.c (.str a0)] [] (fnS (F6 K a0)) (fun r => .tup [.c (E37.tree r.1), .c (.val (.int .i64 r.2.1)), .c (.val (.int .i64 r.2.2))]) (fun r => []) := by
  refine DFun.intro (fn := Tryz.f6) (c := cd (bd Tryz.f6) []) (rs := fun r => ⟨[(2, .c (E37.tree r.1)), (3, .c (.val (.int .i64 r.2.1))), (4, .c (.val (.int .i64 r.2.2)))], [], [], 0⟩) (by kernel_rfl) (by kernel_rfl) (by kernel_rfl) ?_ (fun r => by kernel_rfl) (fun r => by kernel_rfl) (fun r => by kernel_rfl) (fun r => by kernel_rfl)
  unfold F6
  refine Ref.seqC (cd (bd Tryz.f6) [0]) (cd (bd Tryz.f6) [1]) (by kernel_rfl) ?_
  refine Ref.regionC 0 (by kernel_rfl) ?_
  refine RefR.ev0 (st' := ⟨[(0, .c (.str a0))], [], [], 0⟩) 0 3 3 [0] [] rfl (by kernel_rfl) ?_
  refine RefR.nilC 3 (by kernel_rfl) ?_
  refine Ref.seqC (cd (bd Tryz.f6) [1, 0]) (cd (bd Tryz.f6) [1, 1]) (by kernel_rfl) ?_
  refine Ref.seqC (cd (bd Tryz.f6) [1, 0, 0]) (cd (bd Tryz.f6) [1, 0, 1]) (by kernel_rfl) ?_
  refine Ref.regionC 1 (by kernel_rfl) ?_
  refine RefR.ev0 (st' := ⟨[(0, .c (.str a0)), (13, .c (.val (.bool (decide (((Int.ofNat a0.length) : Int) > 6000)))))], [], [], 0⟩) 0 3 3 [0, 13] [] rfl (by kernel_rfl) ?_
  refine RefR.letC (stf := fun x1 => ⟨[(0, .c (.str a0)), (13, .c (.val (.bool x1)))], [], [], 0⟩) (by kernel_rfl) (fun x1 => ?_)
  refine RefR.nilC 3 (by kernel_rfl) ?_
  refine Ref.condC (.tmp 13) x1 (by kernel_rfl) rfl (by kernel_rfl) (fun hc => ?_) (fun hc => ?_)
  ·
    refine Ref.seqC (cd (bd Tryz.f6) [1, 0, 1, 0, 0]) (cd (bd Tryz.f6) [1, 0, 1, 0, 1]) (by kernel_rfl) ?_
    refine Ref.regionC 2 (by kernel_rfl) ?_
    refine RefR.ev0 (st' := ⟨[(2, .c (.nil)), (3, .c (.val (.int .i64 5))), (4, .c (.val (.int .i64 6000)))], [], [], 0⟩) 0 3 3 [2, 3, 4] [] rfl (by kernel_rfl) ?_
    refine RefR.nilC 3 (by kernel_rfl) ?_
    refine Ref.conv (Conv.slot 2 (.c (E37.tree [])) (DLe.c (El.tree_nil E37)) (by kernel_rfl)) ?_
    exact Ref.retC (t := ([], 5, 6000)) (by kernel_rfl) (by kernel_rfl)
  ·
    refine Ref.skipC (by kernel_rfl) ?_
    refine Ref.seqC (cd (bd Tryz.f6) [1, 1, 0]) (cd (bd Tryz.f6) [1, 1, 1]) (by kernel_rfl) ?_
    refine Ref.regionC 3 (by kernel_rfl) ?_
    refine RefR.ev0 (st' := ⟨[(0, .c (.str a0)), (5, .c (.nil))], [], [], 0⟩) 0 1 1 [0, 5] [] rfl (by kernel_rfl) ?_
    refine RefR.nilC 1 (by kernel_rfl) ?_
    refine Ref.seqC (cd (bd Tryz.f6) [1, 1, 1, 0]) (cd (bd Tryz.f6) [1, 1, 1, 1]) (by kernel_rfl) ?_
    refine Ref.seqC (cd (bd Tryz.f6) [1, 1, 1, 0, 0]) (cd (bd Tryz.f6) [1, 1, 1, 0, 1]) (by kernel_rfl) ?_
    refine Ref.regionC 4 (by kernel_rfl) ?_
    refine RefR.ev0 (st' := ⟨[(0, .c (.str a0)), (5, .c (.nil)), (6, .c (.val (.int .i64 0)))], [], [], 0⟩) 0 1 1 [0, 5, 6] [] rfl (by kernel_rfl) ?_
    refine RefR.nilC 1 (by kernel_rfl) ?_
    refine Ref.codeEq (c' := .block 0 (cd (bd Tryz.f6) [1, 1, 1, 0, 1, 0])) (by kernel_rfl) ?_
    refine Ref.block (go1 := fun u38 => ⟨[(5, .c (.own 0 u38.length))], [E37.row u38], [], 0⟩) ?_ (fun _ h => by cases h) (fun u38 => ?_)
    ·
      refine Ref.codeEq (c' := .loop (cd (bd Tryz.f6) [1, 1, 1, 0, 1, 0, 0])) (by kernel_rfl) ?_
      refine Ref.conv (Conv.adopt 5 E37.ty E37.w (E37.at []) (by kernel_rfl) (by kernel_rfl) (by kernel_rfl)) ?_
      refine Ref.conv (Conv.keep (st' := ⟨[(0, .c (.str a0)), (5, .c (.own 0 0)), (6, .c (.val (.int .i64 0)))], [E37.row []], [], 0⟩) [0, 5, 6] [0] (by kernel_rfl)) ?_
      refine Ref.loop (hd := fun u49 => ⟨[(0, .c (.str a0)), (5, .c (.own 0 u49.1.length)), (6, .c (.val (.int .i64 u49.2)))], [E37.row u49.1], [], 0⟩) K ([], 0) (by kernel_rfl) (fun u49 => ?_)
      refine Ref.seqC (cd (bd Tryz.f6) [1, 1, 1, 0, 1, 0, 0, 0]) (cd (bd Tryz.f6) [1, 1, 1, 0, 1, 0, 0, 1]) (by kernel_rfl) ?_
      refine Ref.seqC (cd (bd Tryz.f6) [1, 1, 1, 0, 1, 0, 0, 0, 0]) (cd (bd Tryz.f6) [1, 1, 1, 0, 1, 0, 0, 0, 1]) (by kernel_rfl) ?_
      refine Ref.regionC 5 (by kernel_rfl) ?_
      refine RefR.ev0 (st' := ⟨[(0, .c (.str a0)), (5, .c (.own 0 u49.1.length)), (6, .c (.val (.int .i64 u49.2))), (17, .c (.val (.bool (decide ((u49.2 : Int) < (Int.ofNat a0.length))))))], [E37.row u49.1], [], 0⟩) 0 4 4 [0, 5, 6, 17] [0] rfl (by kernel_rfl) ?_
      refine RefR.letC (stf := fun x63 => ⟨[(0, .c (.str a0)), (5, .c (.own 0 u49.1.length)), (6, .c (.val (.int .i64 u49.2))), (17, .c (.val (.bool x63)))], [E37.row u49.1], [], 0⟩) (by kernel_rfl) (fun x63 => ?_)
      refine RefR.nilC 4 (by kernel_rfl) ?_
      refine Ref.condC (.tmp 17) x63 (by kernel_rfl) rfl (by kernel_rfl) (fun hc => ?_) (fun hc => ?_)
      ·
        refine Ref.skipC (by kernel_rfl) ?_
        refine Ref.codeEq (c' := .block 1 (cd (bd Tryz.f6) [1, 1, 1, 0, 1, 0, 0, 1, 0])) (by kernel_rfl) ?_
        refine Ref.block (go1 := fun u69 => ⟨[(0, .c (.str a0)), (5, .c (.own 0 u69.1.length)), (6, .c (.val (.int .i64 u69.2)))], [E37.row u69.1], [], 0⟩) ?_ (fun a => match a with | .inl _ => (fun h => by cases h) | .inr _ => (fun h => by cases h)) (fun u69 => ?_)
        ·
          refine Ref.seqC (cd (bd Tryz.f6) [1, 1, 1, 0, 1, 0, 0, 1, 0, 0]) (cd (bd Tryz.f6) [1, 1, 1, 0, 1, 0, 0, 1, 0, 1]) (by kernel_rfl) ?_
          refine Ref.seqC (cd (bd Tryz.f6) [1, 1, 1, 0, 1, 0, 0, 1, 0, 0, 0]) (cd (bd Tryz.f6) [1, 1, 1, 0, 1, 0, 0, 1, 0, 0, 1]) (by kernel_rfl) ?_
          refine Ref.regionC 6 (by kernel_rfl) ?_
          refine RefR.evC (vs := [inb u49.2 a0.length, !(!(((Int.ofNat (a0.getD (u49.2 : Int).toNat 0).toNat) : Int) == 32)) || inb u49.2 a0.length, !(!((((Int.ofNat (a0.getD (u49.2 : Int).toNat 0).toNat) : Int) == 32) || (((Int.ofNat (a0.getD (u49.2 : Int).toNat 0).toNat) : Int) == 9))) || inb u49.2 a0.length, !(!(((((Int.ofNat (a0.getD (u49.2 : Int).toNat 0).toNat) : Int) == 32) || (((Int.ofNat (a0.getD (u49.2 : Int).toNat 0).toNat) : Int) == 9)) || (((Int.ofNat (a0.getD (u49.2 : Int).toNat 0).toNat) : Int) == 10))) || inb u49.2 a0.length]) (st' := ⟨[(0, .c (.str a0)), (5, .c (.own 0 u49.1.length)), (6, .c (.val (.int .i64 u49.2))), (39, .c (.val (.bool ((((((Int.ofNat (a0.getD (u49.2 : Int).toNat 0).toNat) : Int) == 32) || (((Int.ofNat (a0.getD (u49.2 : Int).toNat 0).toNat) : Int) == 9)) || (((Int.ofNat (a0.getD (u49.2 : Int).toNat 0).toNat) : Int) == 10)) || (((Int.ofNat (a0.getD (u49.2 : Int).toNat 0).toNat) : Int) == 13)))))], [E37.row u49.1], [], 0⟩) 0 22 22 [0, 5, 6, 39] [0] rfl (by kernel_rfl) ?_
          refine RefR.letC (stf := fun x70 => ⟨[(0, .c (.str a0)), (5, .c (.own 0 u49.1.length)), (6, .c (.val (.int .i64 u49.2))), (39, .c (.val (.bool x70)))], [E37.row u49.1], [], 0⟩) (by kernel_rfl) (fun x70 => ?_)
          refine RefR.nilC 22 (by kernel_rfl) ?_
          refine Ref.condC (.tmp 39) x70 (by kernel_rfl) rfl (by kernel_rfl) (fun hc => ?_) (fun hc => ?_)
          ·
            refine Ref.seqC (cd (bd Tryz.f6) [1, 1, 1, 0, 1, 0, 0, 1, 0, 0, 1, 0, 0]) (cd (bd Tryz.f6) [1, 1, 1, 0, 1, 0, 0, 1, 0, 0, 1, 0, 1]) (by kernel_rfl) ?_
            refine Ref.regionC 7 (by kernel_rfl) ?_
            refine RefR.ev0 (st' := ⟨[(0, .c (.str a0)), (5, .c (.own 0 u49.1.length)), (6, .c (.val (.int .i64 (IntKind.i64.wrap (u49.2 + 1)))))], [E37.row u49.1], [], 0⟩) 0 3 3 [0, 5, 6] [0] rfl (by kernel_rfl) ?_
            refine RefR.nilC 3 (by kernel_rfl) ?_
            exact Ref.exitC 1 (t := (Sum.inl (u49.1, (IntKind.i64.wrap (u49.2 + 1))))) (by kernel_rfl) (by kernel_rfl)
          ·
            refine Ref.skipC (by kernel_rfl) ?_
            refine Ref.seqC (cd (bd Tryz.f6) [1, 1, 1, 0, 1, 0, 0, 1, 0, 1, 0]) (cd (bd Tryz.f6) [1, 1, 1, 0, 1, 0, 0, 1, 0, 1, 1]) (by kernel_rfl) ?_
            refine Ref.seqC (cd (bd Tryz.f6) [1, 1, 1, 0, 1, 0, 0, 1, 0, 1, 0, 0]) (cd (bd Tryz.f6) [1, 1, 1, 0, 1, 0, 0, 1, 0, 1, 0, 1]) (by kernel_rfl) ?_
            refine Ref.regionC 8 (by kernel_rfl) ?_
            refine RefR.evC (vs := [inb u49.2 a0.length, !((((Int.ofNat (a0.getD (u49.2 : Int).toNat 0).toNat) : Int) == 40) && (decide (((IntKind.i64.wrap (u49.2 + 1)) : Int) < (Int.ofNat a0.length)))) || inb (IntKind.i64.wrap (u49.2 + 1)) a0.length]) (st' := ⟨[(0, .c (.str a0)), (5, .c (.own 0 u49.1.length)), (6, .c (.val (.int .i64 u49.2))), (59, .c (.val (.bool (((((Int.ofNat (a0.getD (u49.2 : Int).toNat 0).toNat) : Int) == 40) && (decide (((IntKind.i64.wrap (u49.2 + 1)) : Int) < (Int.ofNat a0.length)))) && (((Int.ofNat (a0.getD ((IntKind.i64.wrap (u49.2 + 1)) : Int).toNat 0).toNat) : Int) == 42)))))], [E37.row u49.1], [], 0⟩) 0 18 18 [0, 5, 6, 59] [0] rfl (by kernel_rfl) ?_
            refine RefR.letC (stf := fun x71 => ⟨[(0, .c (.str a0)), (5, .c (.own 0 u49.1.length)), (6, .c (.val (.int .i64 u49.2))), (59, .c (.val (.bool x71)))], [E37.row u49.1], [], 0⟩) (by kernel_rfl) (fun x71 => ?_)
            refine RefR.nilC 18 (by kernel_rfl) ?_
            refine Ref.condC (.tmp 59) x71 (by kernel_rfl) rfl (by kernel_rfl) (fun hc => ?_) (fun hc => ?_)
            ·
              refine Ref.seqC (cd (bd Tryz.f6) [1, 1, 1, 0, 1, 0, 0, 1, 0, 1, 0, 1, 0, 0]) (cd (bd Tryz.f6) [1, 1, 1, 0, 1, 0, 0, 1, 0, 1, 0, 1, 0, 1]) (by kernel_rfl) ?_
              refine Ref.regionC 9 (by kernel_rfl) ?_
              refine RefR.ev0 (st' := ⟨[(0, .c (.str a0)), (5, .c (.own 0 u49.1.length)), (6, .c (.val (.int .i64 u49.2))), (60, .c (.str a0)), (61, .c (.val (.int .i64 u49.2)))], [E37.row u49.1], [], 0⟩) 0 2 2 [0, 5, 6, 60, 61] [0] rfl (by kernel_rfl) ?_
              refine RefR.callC (t := 62) 2 3 [] rfl (by kernel_rfl) (F15_ok K a0 u49.2) (fun r72 => ?_)
              refine RefR.ev0 (st' := ⟨[(0, .c (.str a0)), (5, .c (.own 0 u49.1.length)), (6, .c (.val (.int .i64 u49.2))), (7, .c (.val (.int .i64 r72)))], [E37.row u49.1], [], 0⟩) 3 1 4 [0, 5, 6, 7] [0] rfl (by kernel_rfl) ?_
              refine RefR.nilC 4 (by kernel_rfl) ?_
              refine Ref.seqC (cd (bd Tryz.f6) [1, 1, 1, 0, 1, 0, 0, 1, 0, 1, 0, 1, 0, 1, 0]) (cd (bd Tryz.f6) [1, 1, 1, 0, 1, 0, 0, 1, 0, 1, 0, 1, 0, 1, 1]) (by kernel_rfl) ?_
              refine Ref.seqC (cd (bd Tryz.f6) [1, 1, 1, 0, 1, 0, 0, 1, 0, 1, 0, 1, 0, 1, 0, 0]) (cd (bd Tryz.f6) [1, 1, 1, 0, 1, 0, 0, 1, 0, 1, 0, 1, 0, 1, 0, 1]) (by kernel_rfl) ?_
              refine Ref.regionC 10 (by kernel_rfl) ?_
              refine RefR.ev0 (st' := ⟨[(0, .c (.str a0)), (5, .c (.own 0 u49.1.length)), (6, .c (.val (.int .i64 u49.2))), (7, .c (.val (.int .i64 r72))), (64, .c (.val (.bool (decide ((r72 : Int) < 0)))))], [E37.row u49.1], [], 0⟩) 0 2 2 [0, 5, 6, 7, 64] [0] rfl (by kernel_rfl) ?_
              refine RefR.nilC 2 (by kernel_rfl) ?_
              refine Ref.condC (.tmp 64) (decide ((r72 : Int) < 0)) (by kernel_rfl) rfl (by kernel_rfl) (fun hc => ?_) (fun hc => ?_)
              ·
                refine Ref.seqC (cd (bd Tryz.f6) [1, 1, 1, 0, 1, 0, 0, 1, 0, 1, 0, 1, 0, 1, 0, 1, 0, 0]) (cd (bd Tryz.f6) [1, 1, 1, 0, 1, 0, 0, 1, 0, 1, 0, 1, 0, 1, 0, 1, 0, 1]) (by kernel_rfl) ?_
                refine Ref.regionC 11 (by kernel_rfl) ?_
                refine RefR.ev0 (st' := ⟨[(2, .c (.nil)), (3, .c (.val (.int .i64 1))), (4, .c (.val (.int .i64 u49.2)))], [], [], 0⟩) 0 4 4 [2, 3, 4] [] rfl (by kernel_rfl) ?_
                refine RefR.nilC 4 (by kernel_rfl) ?_
                refine Ref.conv (Conv.slot 2 (.c (E37.tree [])) (DLe.c (El.tree_nil E37)) (by kernel_rfl)) ?_
                exact Ref.retC (t := (Sum.inr (Sum.inr ([], 1, u49.2)))) (by kernel_rfl) (by kernel_rfl)
              ·
                refine Ref.skipC (by kernel_rfl) ?_
                refine Ref.seqC (cd (bd Tryz.f6) [1, 1, 1, 0, 1, 0, 0, 1, 0, 1, 0, 1, 0, 1, 1, 0]) (cd (bd Tryz.f6) [1, 1, 1, 0, 1, 0, 0, 1, 0, 1, 0, 1, 0, 1, 1, 1]) (by kernel_rfl) ?_
                refine Ref.regionC 12 (by kernel_rfl) ?_
                refine RefR.ev0 (st' := ⟨[(0, .c (.str a0)), (5, .c (.own 0 u49.1.length)), (6, .c (.val (.int .i64 r72)))], [E37.row u49.1], [], 0⟩) 0 2 2 [0, 5, 6] [0] rfl (by kernel_rfl) ?_
                refine RefR.nilC 2 (by kernel_rfl) ?_
                exact Ref.exitC 1 (t := (Sum.inl (u49.1, r72))) (by kernel_rfl) (by kernel_rfl)
            ·
              refine Ref.skipC (by kernel_rfl) ?_
              refine Ref.seqC (cd (bd Tryz.f6) [1, 1, 1, 0, 1, 0, 0, 1, 0, 1, 1, 0]) (cd (bd Tryz.f6) [1, 1, 1, 0, 1, 0, 0, 1, 0, 1, 1, 1]) (by kernel_rfl) ?_
              refine Ref.regionC 13 (by kernel_rfl) ?_
              refine RefR.ev0 (st' := ⟨[(0, .c (.str a0)), (5, .c (.own 0 u49.1.length)), (6, .c (.val (.int .i64 u49.2))), (68, .c (.str a0)), (69, .c (.val (.int .i64 u49.2)))], [E37.row u49.1], [], 0⟩) 0 2 2 [0, 5, 6, 68, 69] [0] rfl (by kernel_rfl) ?_
              refine RefR.callC (t := 70) 2 3 [] rfl (by kernel_rfl) (F16_ok K a0 u49.2) (fun r73 => ?_)
              refine RefR.ev0 (st' := ⟨[(0, .c (.str a0)), (5, .c (.own 0 u49.1.length)), (6, .c (.val (.int .i64 u49.2))), (8, .c (.ptr 1 0 0)), (9, .c (.val (.int .i64 r73.2.1))), (10, .c (.val (.int .i64 r73.2.2)))], [E37.row u49.1, .cells (E37.cs r73.1)], [], 0⟩) 3 8 11 [0, 5, 6, 8, 9, 10] [0, 2] rfl (by kernel_rfl) ?_
              refine RefR.nilC 11 (by kernel_rfl) ?_
              refine Ref.seqC (cd (bd Tryz.f6) [1, 1, 1, 0, 1, 0, 0, 1, 0, 1, 1, 1, 0]) (cd (bd Tryz.f6) [1, 1, 1, 0, 1, 0, 0, 1, 0, 1, 1, 1, 1]) (by kernel_rfl) ?_
              refine Ref.seqC (cd (bd Tryz.f6) [1, 1, 1, 0, 1, 0, 0, 1, 0, 1, 1, 1, 0, 0]) (cd (bd Tryz.f6) [1, 1, 1, 0, 1, 0, 0, 1, 0, 1, 1, 1, 0, 1]) (by kernel_rfl) ?_
              refine Ref.regionC 14 (by kernel_rfl) ?_
              refine RefR.ev0 (st' := ⟨[(0, .c (.str a0)), (5, .c (.own 0 u49.1.length)), (6, .c (.val (.int .i64 u49.2))), (8, .c (.ptr 1 0 0)), (9, .c (.val (.int .i64 r73.2.1))), (10, .c (.val (.int .i64 r73.2.2))), (75, .c (.val (.bool ((r73.2.2 : Int) != 0))))], [E37.row u49.1, .cells (E37.cs r73.1)], [], 0⟩) 0 2 2 [0, 5, 6, 8, 9, 10, 75] [0, 1] rfl (by kernel_rfl) ?_
              refine RefR.nilC 2 (by kernel_rfl) ?_
              refine Ref.condC (.tmp 75) ((r73.2.2 : Int) != 0) (by kernel_rfl) rfl (by kernel_rfl) (fun hc => ?_) (fun hc => ?_)
              ·
                refine Ref.seqC (cd (bd Tryz.f6) [1, 1, 1, 0, 1, 0, 0, 1, 0, 1, 1, 1, 0, 1, 0, 0]) (cd (bd Tryz.f6) [1, 1, 1, 0, 1, 0, 0, 1, 0, 1, 1, 1, 0, 1, 0, 1]) (by kernel_rfl) ?_
                refine Ref.regionC 15 (by kernel_rfl) ?_
                refine RefR.ev0 (st' := ⟨[(2, .c (.nil)), (3, .c (.val (.int .i64 r73.2.2))), (4, .c (.val (.int .i64 u49.2)))], [], [], 0⟩) 0 5 5 [2, 3, 4] [] rfl (by kernel_rfl) ?_
                refine RefR.nilC 5 (by kernel_rfl) ?_
                refine Ref.conv (Conv.slot 2 (.c (E37.tree [])) (DLe.c (El.tree_nil E37)) (by kernel_rfl)) ?_
                exact Ref.retC (t := (Sum.inr (Sum.inr ([], r73.2.2, u49.2)))) (by kernel_rfl) (by kernel_rfl)
              ·
                refine Ref.skipC (by kernel_rfl) ?_
                refine Ref.seqC (cd (bd Tryz.f6) [1, 1, 1, 0, 1, 0, 0, 1, 0, 1, 1, 1, 1, 0]) (cd (bd Tryz.f6) [1, 1, 1, 0, 1, 0, 0, 1, 0, 1, 1, 1, 1, 1]) (by kernel_rfl) ?_
                refine Ref.seqC (cd (bd Tryz.f6) [1, 1, 1, 0, 1, 0, 0, 1, 0, 1, 1, 1, 1, 0, 0]) (cd (bd Tryz.f6) [1, 1, 1, 0, 1, 0, 0, 1, 0, 1, 1, 1, 1, 0, 1]) (by kernel_rfl) ?_
                refine Ref.regionC 16 (by kernel_rfl) ?_
                refine RefR.ev0 (st' := ⟨[(0, .c (.str a0)), (5, .c (.own 0 u49.1.length)), (6, .c (.val (.int .i64 u49.2))), (8, .c (.ptr 1 0 0)), (9, .c (.val (.int .i64 r73.2.1))), (80, .c (.val (.bool (decide (((Int.ofNat u49.1.length) : Int) ≥ 1500)))))], [E37.row u49.1, .cells (E37.cs r73.1)], [], 0⟩) 0 3 3 [0, 5, 6, 8, 9, 80] [0, 1] rfl (by kernel_rfl) ?_
                refine RefR.letC (stf := fun x74 => ⟨[(0, .c (.str a0)), (5, .c (.own 0 u49.1.length)), (6, .c (.val (.int .i64 u49.2))), (8, .c (.ptr 1 0 0)), (9, .c (.val (.int .i64 r73.2.1))), (80, .c (.val (.bool x74)))], [E37.row u49.1, .cells (E37.cs r73.1)], [], 0⟩) (by kernel_rfl) (fun x74 => ?_)
                refine RefR.nilC 3 (by kernel_rfl) ?_
                refine Ref.condC (.tmp 80) x74 (by kernel_rfl) rfl (by kernel_rfl) (fun hc => ?_) (fun hc => ?_)
                ·
                  refine Ref.seqC (cd (bd Tryz.f6) [1, 1, 1, 0, 1, 0, 0, 1, 0, 1, 1, 1, 1, 0, 1, 0, 0]) (cd (bd Tryz.f6) [1, 1, 1, 0, 1, 0, 0, 1, 0, 1, 1, 1, 1, 0, 1, 0, 1]) (by kernel_rfl) ?_
                  refine Ref.regionC 17 (by kernel_rfl) ?_
                  refine RefR.ev0 (st' := ⟨[(2, .c (.nil)), (3, .c (.val (.int .i64 5))), (4, .c (.val (.int .i64 u49.2)))], [], [], 0⟩) 0 4 4 [2, 3, 4] [] rfl (by kernel_rfl) ?_
                  refine RefR.nilC 4 (by kernel_rfl) ?_
                  refine Ref.conv (Conv.slot 2 (.c (E37.tree [])) (DLe.c (El.tree_nil E37)) (by kernel_rfl)) ?_
                  exact Ref.retC (t := (Sum.inr (Sum.inr ([], 5, u49.2)))) (by kernel_rfl) (by kernel_rfl)
                ·
                  refine Ref.skipC (by kernel_rfl) ?_
                  refine Ref.seqC (cd (bd Tryz.f6) [1, 1, 1, 0, 1, 0, 0, 1, 0, 1, 1, 1, 1, 1, 0]) (cd (bd Tryz.f6) [1, 1, 1, 0, 1, 0, 0, 1, 0, 1, 1, 1, 1, 1, 1]) (by kernel_rfl) ?_
                  refine Ref.regionC 18 (by kernel_rfl) ?_
                  refine RefR.ev0 (st' := ⟨[(0, .c (.str a0)), (9, .c (.val (.int .i64 r73.2.1))), (82, .c (.own 0 u49.1.length)), (83, .agg (E37.cs r73.1))], [E37.row u49.1], [], 0⟩) 0 2 2 [0, 9, 82, 83] [0] rfl (by kernel_rfl) ?_
                  refine RefR.ev0 (st' := ⟨[(0, .c (.str a0)), (9, .c (.val (.int .i64 r73.2.1))), (82, .c (.own 0 u49.1.length)), (84, .c (.own 1 1))], [E37.row u49.1, .row 37 4 1 (tbl [(E37.cs r73.1)])], [], 0⟩) 2 1 3 [0, 9, 82, 84] [0, 1] rfl (by kernel_rfl) ?_
                  refine RefR.conv (Conv.obj 1 (E37.row [r73.1]) (El.row_build E37 [r73.1] rfl (by kernel_rfl)) (by kernel_rfl)) ?_
                  refine RefR.conv (Conv.slot 84 (.c (.own 1 ([r73.1].length))) (DLe.c (CLe.own (by simp <;> omega))) (by kernel_rfl)) ?_
                  refine RefR.evC (vs := [room ((u49.1.length + ([r73.1].length)) * 40)]) (st' := ⟨[(0, .c (.str a0)), (9, .c (.val (.int .i64 r73.2.1))), (85, .c (.own 0 (u49.1.length + ([r73.1].length))))], [.row 37 4 (u49.1.length + ([r73.1].length)) fun i j => bif Nat.blt i u49.1.length then E37.at u49.1 i j else (E37.at [r73.1]) (i - u49.1.length) j], [], 0⟩) 3 1 4 [0, 9, 85] [2] rfl (by kernel_rfl) ?_
                  refine RefR.conv (Conv.obj 0 (E37.row (u49.1 ++ [r73.1])) (El.row_append E37 u49.1 [r73.1] rfl rfl) (by kernel_rfl)) ?_
                  refine RefR.conv (Conv.slot 85 (.c (.own 0 ((u49.1 ++ [r73.1]).length))) (DLe.c (CLe.own (by simp <;> omega))) (by kernel_rfl)) ?_
                  refine RefR.ev0 (st' := ⟨[(0, .c (.str a0)), (5, .c (.own 0 ((u49.1 ++ [r73.1]).length))), (9, .c (.val (.int .i64 r73.2.1)))], [E37.row (u49.1 ++ [r73.1])], [], 0⟩) 4 1 5 [0, 5, 9] [0] rfl (by kernel_rfl) ?_
                  refine RefR.nilC 5 (by kernel_rfl) ?_
                  refine Ref.regionC 19 (by kernel_rfl) ?_
                  refine RefR.ev0 (st' := ⟨[(0, .c (.str a0)), (5, .c (.own 0 ((u49.1 ++ [r73.1]).length))), (6, .c (.val (.int .i64 r73.2.1)))], [E37.row (u49.1 ++ [r73.1])], [], 0⟩) 0 2 2 [0, 5, 6] [0] rfl (by kernel_rfl) ?_
                  refine RefR.nilC 2 (by kernel_rfl) ?_
                  exact Ref.nil (t := ((u49.1 ++ [r73.1]), r73.2.1)) (by kernel_rfl)
        ·
          exact Ref.nil (t := (u69.1, u69.2)) (by kernel_rfl)
      ·
        refine Ref.conv (Conv.keep (st' := ⟨[(5, .c (.own 0 u49.1.length))], [E37.row u49.1], [], 0⟩) [5] [0] (by kernel_rfl)) ?_
        exact Ref.exitC 0 (t := (Sum.inl (u49.1))) (by kernel_rfl) (by kernel_rfl)
    ·
      refine Ref.seqC (cd (bd Tryz.f6) [1, 1, 1, 1, 0]) (cd (bd Tryz.f6) [1, 1, 1, 1, 1]) (by kernel_rfl) ?_
      refine Ref.regionC 20 (by kernel_rfl) ?_
      refine RefR.ev0 (st' := ⟨[(2, .c (.own 0 u38.length)), (3, .c (.val (.int .i64 0))), (4, .c (.val (.int .i64 0)))], [E37.row u38], [], 0⟩) 0 4 4 [2, 3, 4] [0] rfl (by kernel_rfl) ?_
      refine RefR.nilC 4 (by kernel_rfl) ?_
      refine Ref.conv (Conv.freeze (st' := ⟨[(2, .c (E37.tree u38)), (3, .c (.val (.int .i64 0))), (4, .c (.val (.int .i64 0)))], [.dead], [], 0⟩) 0 (by kernel_rfl)) ?_
      refine Ref.conv (Conv.keep (st' := ⟨[(2, .c (E37.tree u38)), (3, .c (.val (.int .i64 0))), (4, .c (.val (.int .i64 0)))], [], [], 0⟩) [2, 3, 4] [] (by kernel_rfl)) ?_
      exact Ref.retC (t := (u38, 0, 0)) (by kernel_rfl) (by kernel_rfl)

/-- governor/governorlaw3.LexTells -/
def F3 (K : Nat) (a0 : Bytes) (a1 : Bytes) : Option ((Bool) ⊕ (Bool)) :=
  (letV ((decide (((Int.ofNat a0.length) : Int) > 6200)) || (decide (((Int.ofNat a1.length) : Int) > 100))) (fun (x1 : Bool) => (if x1 = true then ((fnS (F4 K)).bind (fun r2 => (some (.inl (r2))))) else ((fnS (F5w K a0)).bind (fun r3 => ((fnS (F6 K a0)).bind (fun r4 => ((fnS (F7 K r3.2)).bind (fun r5 => ((condM true (fnS (F8 K r3.1 r4.1)) default).bind (fun r6 => (letV ((r6 && ((r5.1 : Int) == r4.2.1)) && ((r5.2 : Int) == r4.2.2)) (fun (x7 : Bool) => ((condM x7 (fnS (F9 K a1)) default).bind (fun r8 => ((condM x7 (fnS (F10 K a1)) default).bind (fun r9 => ((fnS (F11 K r3.1)).bind (fun r10 => ((fnS (F5w K a0)).bind (fun r11 => ((condM (x7 && (r8 == r9)) (fnS (F8 K r11.1 r4.1)) default).bind (fun r12 => ((condM ((x7 && (r8 == r9)) && r12) (fnS (F4 K)) default).bind (fun r13 => (some (.inl ((((x7 && (r8 == r9)) && r12) && r13)))))))))))))))))))))))))))))

theorem F3_ok (K : Nat) (a0 : Bytes) (a1 : Bytes) : DFun Tryz.prog 3 [.c (.str a0), .c (.str a1)] [] (fnS (F3 K a0 a1)) (fun r => .c (.val (.bool r))) (fun r => []) := by
  refine DFun.intro (fn := Tryz.f3) (c := cd (bd Tryz.f3) []) (rs := fun r => ⟨[(4, .c (.val (.bool r)))], [], [], 0⟩) (by kernel_rfl) (by kernel_rfl) (by kernel_rfl) ?_ (fun r => by kernel_rfl) (fun r => by kernel_rfl) (fun r => by kernel_rfl) (fun r => by kernel_rfl)
  unfold F3
  refine Ref.seqC (cd (bd Tryz.f3) [0]) (cd (bd Tryz.f3) [1]) (by kernel_rfl) ?_
  refine Ref.regionC 0 (by kernel_rfl) ?_
  refine RefR.ev0 (st' := ⟨[(0, .c (.str a0)), (1, .c (.str a1))], [], [], 0⟩) 0 1 1 [0, 1] [] rfl (by kernel_rfl) ?_
  refine RefR.nilC 1 (by kernel_rfl) ?_
  refine Ref.seqC (cd (bd Tryz.f3) [1, 0]) (cd (bd Tryz.f3) [1, 1]) (by kernel_rfl) ?_
  refine Ref.seqC (cd (bd Tryz.f3) [1, 0, 0]) (cd (bd Tryz.f3) [1, 0, 1]) (by kernel_rfl) ?_
  refine Ref.regionC 1 (by kernel_rfl) ?_
  refine RefR.ev0 (st' := ⟨[(0, .c (.str a0)), (1, .c (.str a1)), (20, .c (.val (.bool ((decide (((Int.ofNat a0.length) : Int) > 6200)) || (decide (((Int.ofNat a1.length) : Int) > 100))))))], [], [], 0⟩) 0 8 8 [0, 1, 20] [] rfl (by kernel_rfl) ?_
  refine RefR.letC (stf := fun x1 => ⟨[(0, .c (.str a0)), (1, .c (.str a1)), (20, .c (.val (.bool x1)))], [], [], 0⟩) (by kernel_rfl) (fun x1 => ?_)
  refine RefR.nilC 8 (by kernel_rfl) ?_
  refine Ref.condC (.tmp 20) x1 (by kernel_rfl) rfl (by kernel_rfl) (fun hc => ?_) (fun hc => ?_)
  ·
    refine Ref.seqC (cd (bd Tryz.f3) [1, 0, 1, 0, 0]) (cd (bd Tryz.f3) [1, 0, 1, 0, 1]) (by kernel_rfl) ?_
    refine Ref.regionC 2 (by kernel_rfl) ?_
    refine RefR.callC (t := 21) 0 1 [] rfl (by kernel_rfl) (F4_ok K) (fun r2 => ?_)
    refine RefR.ev0 (st' := ⟨[(4, .c (.val (.bool r2)))], [], [], 0⟩) 1 1 2 [4] [] rfl (by kernel_rfl) ?_
    refine RefR.nilC 2 (by kernel_rfl) ?_
    exact Ref.retC (t := (r2)) (by kernel_rfl) (by kernel_rfl)
  ·
    refine Ref.skipC (by kernel_rfl) ?_
    refine Ref.seqC (cd (bd Tryz.f3) [1, 1, 0]) (cd (bd Tryz.f3) [1, 1, 1]) (by kernel_rfl) ?_
    refine Ref.regionC 3 (by kernel_rfl) ?_
    refine RefR.ev0 (st' := ⟨[(0, .c (.str a0)), (1, .c (.str a1)), (23, .c (.str a0))], [], [], 0⟩) 0 1 1 [0, 1, 23] [] rfl (by kernel_rfl) ?_
    refine RefR.callC (t := 24) 1 2 [] rfl (by kernel_rfl) (F5w_ok K a0) (fun r3 => ?_)
    refine RefR.ev0 (st' := ⟨[(0, .c (.str a0)), (1, .c (.str a1)), (5, .c (.own 0 r3.1.length)), (6, .c (errC r3.2))], [E37.row r3.1], [], 0⟩) 2 5 7 [0, 1, 5, 6] [0] rfl (by kernel_rfl) ?_
    refine RefR.nilC 7 (by kernel_rfl) ?_
    refine Ref.seqC (cd (bd Tryz.f3) [1, 1, 1, 0]) (cd (bd Tryz.f3) [1, 1, 1, 1]) (by kernel_rfl) ?_
    refine Ref.regionC 4 (by kernel_rfl) ?_
    refine RefR.ev0 (st' := ⟨[(0, .c (.str a0)), (1, .c (.str a1)), (5, .c (.own 0 r3.1.length)), (6, .c (errC r3.2)), (28, .c (.str a0))], [E37.row r3.1], [], 0⟩) 0 1 1 [0, 1, 5, 6, 28] [0] rfl (by kernel_rfl) ?_
    refine RefR.callC (t := 29) 1 2 [] rfl (by kernel_rfl) (F6_ok K a0) (fun r4 => ?_)
    refine RefR.ev0 (st' := ⟨[(0, .c (.str a0)), (1, .c (.str a1)), (5, .c (.own 0 r3.1.length)), (6, .c (errC r3.2)), (7, .c (E37.tree r4.1)), (8, .c (.val (.int .i64 r4.2.1))), (9, .c (.val (.int .i64 r4.2.2)))], [E37.row r3.1], [], 0⟩) 2 7 9 [0, 1, 5, 6, 7, 8, 9] [0] rfl (by kernel_rfl) ?_
    refine RefR.nilC 9 (by kernel_rfl) ?_
    refine Ref.seqC (cd (bd Tryz.f3) [1, 1, 1, 1, 0]) (cd (bd Tryz.f3) [1, 1, 1, 1, 1]) (by kernel_rfl) ?_
    refine Ref.regionC 5 (by kernel_rfl) ?_
    refine RefR.ev0 (st' := ⟨[(0, .c (.str a0)), (1, .c (.str a1)), (5, .c (.own 0 r3.1.length)), (7, .c (E37.tree r4.1)), (8, .c (.val (.int .i64 r4.2.1))), (9, .c (.val (.int .i64 r4.2.2))), (34, .c (errC r3.2))], [E37.row r3.1], [], 0⟩) 0 1 1 [0, 1, 5, 7, 8, 9, 34] [0] rfl (by kernel_rfl) ?_
    refine RefR.callC (t := 35) 1 2 [] rfl (by kernel_rfl) (F7_ok K r3.2) (fun r5 => ?_)
    refine RefR.ev0 (st' := ⟨[(0, .c (.str a0)), (1, .c (.str a1)), (5, .c (.own 0 r3.1.length)), (7, .c (E37.tree r4.1)), (8, .c (.val (.int .i64 r4.2.1))), (9, .c (.val (.int .i64 r4.2.2))), (10, .c (.val (.int .i64 r5.1))), (11, .c (.val (.int .i64 r5.2)))], [E37.row r3.1], [], 0⟩) 2 5 7 [0, 1, 5, 7, 8, 9, 10, 11] [0] rfl (by kernel_rfl) ?_
    refine RefR.nilC 7 (by kernel_rfl) ?_
    refine Ref.seqC (cd (bd Tryz.f3) [1, 1, 1, 1, 1, 0]) (cd (bd Tryz.f3) [1, 1, 1, 1, 1, 1]) (by kernel_rfl) ?_
    refine Ref.regionC 6 (by kernel_rfl) ?_
    refine RefR.ev0 (st' := ⟨[(0, .c (.str a0)), (1, .c (.str a1)), (5, .c (.own 0 r3.1.length)), (7, .c (E37.tree r4.1)), (8, .c (.val (.int .i64 r4.2.1))), (9, .c (.val (.int .i64 r4.2.2))), (10, .c (.val (.int .i64 r5.1))), (11, .c (.val (.int .i64 r5.2))), (38, .c (.own 0 r3.1.length)), (39, .c (E37.tree r4.1))], [E37.row r3.1], [], 0⟩) 0 2 2 [0, 1, 5, 7, 8, 9, 10, 11, 38, 39] [0] rfl (by kernel_rfl) ?_
    refine RefR.lookC (t := 40) (g := []) (b := true) 2 3 [0] (default : Bool) rfl (by kernel_rfl) (F8_ok K r3.1 r4.1) (fun _ => rfl) (fun r6 => ?_)
    refine RefR.ev0 (st' := ⟨[(0, .c (.str a0)), (1, .c (.str a1)), (5, .c (.own 0 r3.1.length)), (7, .c (E37.tree r4.1)), (51, .c (.val (.bool ((r6 && ((r5.1 : Int) == r4.2.1)) && ((r5.2 : Int) == r4.2.2))))), (52, .c (.str a1))], [E37.row r3.1], [(52, [(51, true)])], 0⟩) 3 12 15 [0, 1, 5, 7, 51, 52] [0] rfl (by kernel_rfl) ?_
    refine RefR.letC (stf := fun x7 => ⟨[(0, .c (.str a0)), (1, .c (.str a1)), (5, .c (.own 0 r3.1.length)), (7, .c (E37.tree r4.1)), (51, .c (.val (.bool x7))), (52, .c (.str a1))], [E37.row r3.1], [(52, [(51, true)])], 0⟩) (by kernel_rfl) (fun x7 => ?_)
    refine RefR.lookC (t := 53) (g := [(51, true)]) (b := x7) 15 16 [] (default : Bool) rfl (by kernel_rfl) (F9_ok K a1) (fun _ => rfl) (fun r8 => ?_)
    refine RefR.ev0 (st' := ⟨[(0, .c (.str a0)), (5, .c (.own 0 r3.1.length)), (7, .c (E37.tree r4.1)), (51, .c (.val (.bool x7))), (53, .c (.val (.bool r8))), (54, .c (.str a1))], [E37.row r3.1], [(54, [(51, true)]), (53, [(51, true)])], 0⟩) 16 1 17 [0, 5, 7, 51, 53, 54] [0] rfl (by kernel_rfl) ?_
    refine RefR.lookC (t := 55) (g := [(51, true)]) (b := x7) 17 18 [] (default : Bool) rfl (by kernel_rfl) (F10_ok K a1) (fun _ => rfl) (fun r9 => ?_)
    refine RefR.ev0 (st' := ⟨[(0, .c (.str a0)), (5, .c (.own 0 r3.1.length)), (7, .c (E37.tree r4.1)), (12, .c (.val (.bool (x7 && (r8 == r9)))))], [E37.row r3.1], [], 0⟩) 18 3 21 [0, 5, 7, 12] [0] rfl (by kernel_rfl) ?_
    refine RefR.nilC 21 (by kernel_rfl) ?_
    refine Ref.seqC (cd (bd Tryz.f3) [1, 1, 1, 1, 1, 1, 0]) (cd (bd Tryz.f3) [1, 1, 1, 1, 1, 1, 1]) (by kernel_rfl) ?_
    refine Ref.regionC 7 (by kernel_rfl) ?_
    refine RefR.ev0 (st' := ⟨[(0, .c (.str a0)), (7, .c (E37.tree r4.1)), (12, .c (.val (.bool (x7 && (r8 == r9))))), (58, .c (.own 0 r3.1.length))], [E37.row r3.1], [], 0⟩) 0 1 1 [0, 7, 12, 58] [0] rfl (by kernel_rfl) ?_
    refine RefR.callC (t := 59) 1 2 [0] rfl (by kernel_rfl) (F11_ok K r3.1) (fun r10 => ?_)
    refine RefR.nilC 2 (by kernel_rfl) ?_
    refine Ref.seqC (cd (bd Tryz.f3) [1, 1, 1, 1, 1, 1, 1, 0]) (cd (bd Tryz.f3) [1, 1, 1, 1, 1, 1, 1, 1]) (by kernel_rfl) ?_
    refine Ref.regionC 8 (by kernel_rfl) ?_
    refine RefR.ev0 (st' := ⟨[(7, .c (E37.tree r4.1)), (12, .c (.val (.bool (x7 && (r8 == r9))))), (61, .c (.str a0))], [], [], 0⟩) 0 1 1 [7, 12, 61] [] rfl (by kernel_rfl) ?_
    refine RefR.callC (t := 62) 1 2 [] rfl (by kernel_rfl) (F5w_ok K a0) (fun r11 => ?_)
    refine RefR.ev0 (st' := ⟨[(5, .c (.own 0 r11.1.length)), (7, .c (E37.tree r4.1)), (12, .c (.val (.bool (x7 && (r8 == r9)))))], [E37.row r11.1], [], 0⟩) 2 4 6 [5, 7, 12] [0] rfl (by kernel_rfl) ?_
    refine RefR.nilC 6 (by kernel_rfl) ?_
    refine Ref.seqC (cd (bd Tryz.f3) [1, 1, 1, 1, 1, 1, 1, 1, 0]) (cd (bd Tryz.f3) [1, 1, 1, 1, 1, 1, 1, 1, 1]) (by kernel_rfl) ?_
    refine Ref.regionC 9 (by kernel_rfl) ?_
    refine RefR.ev0 (st' := ⟨[(66, .c (.val (.bool (x7 && (r8 == r9))))), (67, .c (.own 0 r11.1.length)), (68, .c (E37.tree r4.1))], [E37.row r11.1], [(68, [(66, true)]), (67, [(66, true)])], 0⟩) 0 4 4 [66, 67, 68] [0] rfl (by kernel_rfl) ?_
    refine RefR.lookC (t := 69) (g := [(66, true)]) (b := (x7 && (r8 == r9))) 4 5 [0] (default : Bool) rfl (by kernel_rfl) (F8_ok K r11.1 r4.1) (fun _ => rfl) (fun r12 => ?_)
    refine RefR.ev0 (st' := ⟨[(71, .c (.val (.bool ((x7 && (r8 == r9)) && r12))))], [], [], 0⟩) 5 2 7 [71] [] rfl (by kernel_rfl) ?_
    refine RefR.lookC (t := 72) (g := [(71, true)]) (b := ((x7 && (r8 == r9)) && r12)) 7 8 [] (default : Bool) rfl (by kernel_rfl) (F4_ok K) (fun _ => rfl) (fun r13 => ?_)
    refine RefR.ev0 (st' := ⟨[(4, .c (.val (.bool (((x7 && (r8 == r9)) && r12) && r13))))], [], [], 0⟩) 8 2 10 [4] [] rfl (by kernel_rfl) ?_
    refine RefR.nilC 10 (by kernel_rfl) ?_
    exact Ref.retC (t := ((((x7 && (r8 == r9)) && r12) && r13))) (by kernel_rfl) (by kernel_rfl)

end Go.Proofs.YtnneapbegnmncaaGreatDoor
