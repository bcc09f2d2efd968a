/- Plain functions, and that the Go functions do what these do: printed by gen2.py. No conditions. -/
import Derived.Test.YtmllhpnlceaneaaDoorCe
import Derived.Test.YtmllhpnlceaneaaDoorProg
set_option linter.unusedVariables false
set_option linter.unusedSimpArgs false
set_option linter.unusedSectionVars false
namespace Go.Proofs.YtmllhpnlceaneaaDoor
open Go Go.Proofs Go.Dl

/-- governor/script.Hex -/
def F8 (K : Nat) (a0 : Bytes) : Option ((Bytes) ⊕ (Bytes)) :=
  (if (a0 == ([] : Bytes)) = true then (some (.inl (([45] : Bytes)))) else (bindS (blockS ((iter K (fun (u28 : (List UInt8) × Int) => (letV (decide ((u28.2 : Int) < (Int.ofNat a0.length))) (fun (x36 : Bool) => (if x36 = true then (bindS (blockS (chk [inb u28.2 a0.length, !(16 == 0), inb (IntKind.u8.wrap (((Int.ofNat (a0.getD (u28.2 : Int).toNat 0).toNat) : Int).tdiv 16)) ([48, 49, 50, 51, 52, 53, 54, 55, 56, 57, 97, 98, 99, 100, 101, 102] : Bytes).length, inb u28.2 a0.length, !(16 == 0), inb (((Int.ofNat (a0.getD (u28.2 : Int).toNat 0).toNat) : Int).tmod 16) ([48, 49, 50, 51, 52, 53, 54, 55, 56, 57, 97, 98, 99, 100, 101, 102] : Bytes).length] (letV (([48, 49, 50, 51, 52, 53, 54, 55, 56, 57, 97, 98, 99, 100, 101, 102] : Bytes).getD ((IntKind.u8.wrap (((Int.ofNat (a0.getD (u28.2 : Int).toNat 0).toNat) : Int).tdiv 16)) : Int).toNat 0) (fun (x40 : UInt8) => (letV (([48, 49, 50, 51, 52, 53, 54, 55, 56, 57, 97, 98, 99, 100, 101, 102] : Bytes).getD ((((Int.ofNat (a0.getD (u28.2 : Int).toNat 0).toNat) : Int).tmod 16) : Int).toNat 0) (fun (x41 : UInt8) => (chk [room ((u28.1.length + ([x40, x41].length)) * 1)] (some (.inr ((u28.1 ++ [x40, x41]))))))))))) (fun (u39 : (List UInt8)) => (some (.inr (u39, (IntKind.i64.wrap (u28.2 + 1))))))) else (some (.inl (Sum.inl (u28.1)))))))) ([], 0)).map .inl)) (fun (u21 : (List UInt8)) => (some (.inl (u21))))))

theorem F8_ok (K : Nat) (a0 : Bytes) : DFun Tryd.prog 8 [.c (.str a0)] [] (fnS (F8 K a0)) (fun r => .c (.str r)) (fun r => []) := by
  refine DFun.intro (fn := Tryd.f8) (c := cd (bd Tryd.f8) []) (rs := fun r => ⟨[(2, .c (.str r))], [], [], 0⟩) (by kernel_rfl) (by kernel_rfl) (by kernel_rfl) ?_ (fun r => by kernel_rfl) (fun r => by kernel_rfl) (fun r => by kernel_rfl) (fun r => by kernel_rfl)
  unfold F8
  refine Ref.seqC (cd (bd Tryd.f8) [0]) (cd (bd Tryd.f8) [1]) (by kernel_rfl) ?_
  refine Ref.regionC 0 (by kernel_rfl) ?_
  refine RefR.ev0 (st' := ⟨[(0, .c (.str a0))], [], [], 0⟩) 0 1 1 [0] [] rfl (by kernel_rfl) ?_
  refine RefR.nilC 1 (by kernel_rfl) ?_
  refine Ref.seqC (cd (bd Tryd.f8) [1, 0]) (cd (bd Tryd.f8) [1, 1]) (by kernel_rfl) ?_
  refine Ref.seqC (cd (bd Tryd.f8) [1, 0, 0]) (cd (bd Tryd.f8) [1, 0, 1]) (by kernel_rfl) ?_
  refine Ref.regionC 1 (by kernel_rfl) ?_
  refine RefR.ev0 (st' := ⟨[(0, .c (.str a0)), (6, .c (.val (.bool (a0 == ([] : Bytes)))))], [], [], 0⟩) 0 2 2 [0, 6] [] rfl (by kernel_rfl) ?_
  refine RefR.nilC 2 (by kernel_rfl) ?_
  refine Ref.condC (.tmp 6) (a0 == ([] : Bytes)) (by kernel_rfl) rfl (by kernel_rfl) (fun hc => ?_) (fun hc => ?_)
  ·
    refine Ref.seqC (cd (bd Tryd.f8) [1, 0, 1, 0, 0]) (cd (bd Tryd.f8) [1, 0, 1, 0, 1]) (by kernel_rfl) ?_
    refine Ref.regionC 2 (by kernel_rfl) ?_
    refine RefR.ev0 (st' := ⟨[(2, .c (.str ([45] : Bytes)))], [], [], 0⟩) 0 1 1 [2] [] rfl (by kernel_rfl) ?_
    refine RefR.nilC 1 (by kernel_rfl) ?_
    exact Ref.retC (t := (([45] : Bytes))) (by kernel_rfl) (by kernel_rfl)
  ·
    refine Ref.skipC (by kernel_rfl) ?_
    refine Ref.seqC (cd (bd Tryd.f8) [1, 1, 0]) (cd (bd Tryd.f8) [1, 1, 1]) (by kernel_rfl) ?_
    refine Ref.regionC 3 (by kernel_rfl) ?_
    refine RefR.ev0 (st' := ⟨[(0, .c (.str a0)), (3, .c (.nil))], [], [], 0⟩) 0 1 1 [0, 3] [] rfl (by kernel_rfl) ?_
    refine RefR.nilC 1 (by kernel_rfl) ?_
    refine Ref.seqC (cd (bd Tryd.f8) [1, 1, 1, 0]) (cd (bd Tryd.f8) [1, 1, 1, 1]) (by kernel_rfl) ?_
    refine Ref.seqC (cd (bd Tryd.f8) [1, 1, 1, 0, 0]) (cd (bd Tryd.f8) [1, 1, 1, 0, 1]) (by kernel_rfl) ?_
    refine Ref.regionC 4 (by kernel_rfl) ?_
    refine RefR.ev0 (st' := ⟨[(0, .c (.str a0)), (3, .c (.nil)), (8, .c (.val (.int .i64 (Int.ofNat a0.length)))), (9, .c (.val (.int .i64 0)))], [], [], 0⟩) 0 3 3 [0, 3, 8, 9] [] rfl (by kernel_rfl) ?_
    refine RefR.nilC 3 (by kernel_rfl) ?_
    refine Ref.codeEq (c' := .block 0 (cd (bd Tryd.f8) [1, 1, 1, 0, 1, 0])) (by kernel_rfl) ?_
    refine Ref.block (go1 := fun u21 => ⟨[(3, .c (.own 0 u21.length))], [E5.row u21], [], 0⟩) ?_ (fun _ h => by cases h) (fun u21 => ?_)
    ·
      refine Ref.codeEq (c' := .loop (cd (bd Tryd.f8) [1, 1, 1, 0, 1, 0, 0])) (by kernel_rfl) ?_
      refine Ref.conv (Conv.adopt 3 E5.ty E5.w (E5.at []) (by kernel_rfl) (by kernel_rfl) (by kernel_rfl)) ?_
      refine Ref.conv (Conv.keep (st' := ⟨[(0, .c (.str a0)), (3, .c (.own 0 0)), (8, .c (.val (.int .i64 (Int.ofNat a0.length)))), (9, .c (.val (.int .i64 0)))], [E5.row []], [], 0⟩) [0, 3, 8, 9] [0] (by kernel_rfl)) ?_
      refine Ref.loop (hd := fun u28 => ⟨[(0, .c (.str a0)), (3, .c (.own 0 u28.1.length)), (8, .c (.val (.int .i64 (Int.ofNat a0.length)))), (9, .c (.val (.int .i64 u28.2)))], [E5.row u28.1], [], 0⟩) K ([], 0) (by kernel_rfl) (fun u28 => ?_)
      refine Ref.seqC (cd (bd Tryd.f8) [1, 1, 1, 0, 1, 0, 0, 0]) (cd (bd Tryd.f8) [1, 1, 1, 0, 1, 0, 0, 1]) (by kernel_rfl) ?_
      refine Ref.regionC 5 (by kernel_rfl) ?_
      refine RefR.ev0 (st' := ⟨[(0, .c (.str a0)), (3, .c (.own 0 u28.1.length)), (8, .c (.val (.int .i64 (Int.ofNat a0.length)))), (9, .c (.val (.int .i64 u28.2))), (10, .c (.val (.bool (decide ((u28.2 : Int) < (Int.ofNat a0.length))))))], [E5.row u28.1], [], 0⟩) 0 1 1 [0, 3, 8, 9, 10] [0] rfl (by kernel_rfl) ?_
      refine RefR.letC (stf := fun x36 => ⟨[(0, .c (.str a0)), (3, .c (.own 0 u28.1.length)), (8, .c (.val (.int .i64 (Int.ofNat a0.length)))), (9, .c (.val (.int .i64 u28.2))), (10, .c (.val (.bool x36)))], [E5.row u28.1], [], 0⟩) (by kernel_rfl) (fun x36 => ?_)
      refine RefR.nilC 1 (by kernel_rfl) ?_
      refine Ref.seqC (cd (bd Tryd.f8) [1, 1, 1, 0, 1, 0, 0, 1, 0]) (cd (bd Tryd.f8) [1, 1, 1, 0, 1, 0, 0, 1, 1]) (by kernel_rfl) ?_
      refine Ref.condC (.tmp 10) x36 (by kernel_rfl) rfl (by kernel_rfl) (fun hc => ?_) (fun hc => ?_)
      ·
        refine Ref.skipC (by kernel_rfl) ?_
        refine Ref.seqC (cd (bd Tryd.f8) [1, 1, 1, 0, 1, 0, 0, 1, 1, 0]) (cd (bd Tryd.f8) [1, 1, 1, 0, 1, 0, 0, 1, 1, 1]) (by kernel_rfl) ?_
        refine Ref.codeEq (c' := .block 1 (cd (bd Tryd.f8) [1, 1, 1, 0, 1, 0, 0, 1, 1, 0, 0])) (by kernel_rfl) ?_
        refine Ref.block (go1 := fun u39 => ⟨[(0, .c (.str a0)), (3, .c (.own 0 u39.length)), (8, .c (.val (.int .i64 (Int.ofNat a0.length)))), (9, .c (.val (.int .i64 u28.2)))], [E5.row u39], [], 0⟩) ?_ (fun a => match a with | .inl _ => (fun h => by cases h) | .inr _ => (fun h => by cases h)) (fun u39 => ?_)
        ·
          refine Ref.seqC (cd (bd Tryd.f8) [1, 1, 1, 0, 1, 0, 0, 1, 1, 0, 0, 0]) (cd (bd Tryd.f8) [1, 1, 1, 0, 1, 0, 0, 1, 1, 0, 0, 1]) (by kernel_rfl) ?_
          refine Ref.regionC 6 (by kernel_rfl) ?_
          refine RefR.ev0 (st' := ⟨[(0, .c (.str a0)), (3, .c (.own 0 u28.1.length)), (4, .c (.val (.int .i64 u28.2))), (8, .c (.val (.int .i64 (Int.ofNat a0.length)))), (9, .c (.val (.int .i64 u28.2)))], [E5.row u28.1], [], 0⟩) 0 2 2 [0, 3, 4, 8, 9] [0] rfl (by kernel_rfl) ?_
          refine RefR.nilC 2 (by kernel_rfl) ?_
          refine Ref.drawnY 7 (by kernel_rfl) (by kernel_rfl) ?_
          refine RefY.evC (vs := [inb u28.2 a0.length, !(16 == 0), inb (IntKind.u8.wrap (((Int.ofNat (a0.getD (u28.2 : Int).toNat 0).toNat) : Int).tdiv 16)) ([48, 49, 50, 51, 52, 53, 54, 55, 56, 57, 97, 98, 99, 100, 101, 102] : Bytes).length, inb u28.2 a0.length, !(16 == 0), inb (((Int.ofNat (a0.getD (u28.2 : Int).toNat 0).toNat) : Int).tmod 16) ([48, 49, 50, 51, 52, 53, 54, 55, 56, 57, 97, 98, 99, 100, 101, 102] : Bytes).length]) (st' := ⟨[(0, .c (.str a0)), (8, .c (.val (.int .i64 (Int.ofNat a0.length)))), (9, .c (.val (.int .i64 u28.2))), (12, .c (.own 0 u28.1.length)), (17, .c (.val (.int .u8 (Int.ofNat (([48, 49, 50, 51, 52, 53, 54, 55, 56, 57, 97, 98, 99, 100, 101, 102] : Bytes).getD ((IntKind.u8.wrap (((Int.ofNat (a0.getD (u28.2 : Int).toNat 0).toNat) : Int).tdiv 16)) : Int).toNat 0).toNat)))), (22, .c (.val (.int .u8 (Int.ofNat (([48, 49, 50, 51, 52, 53, 54, 55, 56, 57, 97, 98, 99, 100, 101, 102] : Bytes).getD ((((Int.ofNat (a0.getD (u28.2 : Int).toNat 0).toNat) : Int).tmod 16) : Int).toNat 0).toNat))))], [E5.row u28.1], [], 0⟩) (fuel' := 3) [0, 1, 2, 3, 4, 5, 6, 7, 8, 9, 10] [0, 8, 9, 12, 17, 22] [0] rfl (by kernel_rfl) (by kernel_rfl) ?_
          refine RefY.letC (stf := fun x40 => ⟨[(0, .c (.str a0)), (8, .c (.val (.int .i64 (Int.ofNat a0.length)))), (9, .c (.val (.int .i64 u28.2))), (12, .c (.own 0 u28.1.length)), (17, .c (.val (.int .u8 (Int.ofNat x40.toNat)))), (22, .c (.val (.int .u8 (Int.ofNat (([48, 49, 50, 51, 52, 53, 54, 55, 56, 57, 97, 98, 99, 100, 101, 102] : Bytes).getD ((((Int.ofNat (a0.getD (u28.2 : Int).toNat 0).toNat) : Int).tmod 16) : Int).toNat 0).toNat))))], [E5.row u28.1], [], 0⟩) (by kernel_rfl) (fun x40 => ?_)
          refine RefY.letC (stf := fun x41 => ⟨[(0, .c (.str a0)), (8, .c (.val (.int .i64 (Int.ofNat a0.length)))), (9, .c (.val (.int .i64 u28.2))), (12, .c (.own 0 u28.1.length)), (17, .c (.val (.int .u8 (Int.ofNat x40.toNat)))), (22, .c (.val (.int .u8 (Int.ofNat x41.toNat))))], [E5.row u28.1], [], 0⟩) (by kernel_rfl) (fun x41 => ?_)
          refine RefY.tail [11, 12, 13] rfl (by kernel_rfl) ?_
          refine RefR.ev0 (st' := ⟨[(0, .c (.str a0)), (8, .c (.val (.int .i64 (Int.ofNat a0.length)))), (9, .c (.val (.int .i64 u28.2))), (12, .c (.own 0 u28.1.length)), (23, .c (.own 1 2))], [E5.row u28.1, .row 5 1 2 (tbl [[.val (.int .u8 (Int.ofNat x40.toNat))], [.val (.int .u8 (Int.ofNat x41.toNat))]])], [], 0⟩) 0 1 1 [0, 8, 9, 12, 23] [0, 1] rfl (by kernel_rfl) ?_
          refine RefR.conv (Conv.obj 1 (E5.row [x40, x41]) (El.row_build E5 [x40, x41] rfl (by kernel_rfl)) (by kernel_rfl)) ?_
          refine RefR.conv (Conv.slot 23 (.c (.own 1 ([x40, x41].length))) (DLe.c (CLe.own (by simp))) (by kernel_rfl)) ?_
          refine RefR.evC (vs := [room ((u28.1.length + ([x40, x41].length)) * 1)]) (st' := ⟨[(0, .c (.str a0)), (8, .c (.val (.int .i64 (Int.ofNat a0.length)))), (9, .c (.val (.int .i64 u28.2))), (24, .c (.own 0 (u28.1.length + ([x40, x41].length))))], [.row 5 1 (u28.1.length + ([x40, x41].length)) fun i j => bif Nat.blt i u28.1.length then E5.at u28.1 i j else (E5.at [x40, x41]) (i - u28.1.length) j], [], 0⟩) 1 1 2 [0, 8, 9, 24] [2] rfl (by kernel_rfl) ?_
          refine RefR.conv (Conv.obj 0 (E5.row (u28.1 ++ [x40, x41])) (El.row_append E5 u28.1 [x40, x41] rfl rfl) (by kernel_rfl)) ?_
          refine RefR.conv (Conv.slot 24 (.c (.own 0 ((u28.1 ++ [x40, x41]).length))) (DLe.c (CLe.own (by simp))) (by kernel_rfl)) ?_
          refine RefR.ev0 (st' := ⟨[(0, .c (.str a0)), (3, .c (.own 0 ((u28.1 ++ [x40, x41]).length))), (8, .c (.val (.int .i64 (Int.ofNat a0.length)))), (9, .c (.val (.int .i64 u28.2)))], [E5.row (u28.1 ++ [x40, x41])], [], 0⟩) 2 1 3 [0, 3, 8, 9] [0] rfl (by kernel_rfl) ?_
          refine RefR.nilC 3 (by kernel_rfl) ?_
          exact Ref.nil (t := ((u28.1 ++ [x40, x41]))) (by kernel_rfl)
        ·
          refine Ref.regionC 8 (by kernel_rfl) ?_
          refine RefR.ev0 (st' := ⟨[(0, .c (.str a0)), (3, .c (.own 0 u39.length)), (8, .c (.val (.int .i64 (Int.ofNat a0.length)))), (9, .c (.val (.int .i64 (IntKind.i64.wrap (u28.2 + 1)))))], [E5.row u39], [], 0⟩) 0 2 2 [0, 3, 8, 9] [0] rfl (by kernel_rfl) ?_
          refine RefR.nilC 2 (by kernel_rfl) ?_
          exact Ref.nil (t := (u39, (IntKind.i64.wrap (u28.2 + 1)))) (by kernel_rfl)
      ·
        refine Ref.conv (Conv.keep (st' := ⟨[(3, .c (.own 0 u28.1.length))], [E5.row u28.1], [], 0⟩) [3] [0] (by kernel_rfl)) ?_
        exact Ref.exitC 0 (t := (Sum.inl (u28.1))) (by kernel_rfl) (by kernel_rfl)
    ·
      refine Ref.seqC (cd (bd Tryd.f8) [1, 1, 1, 1, 0]) (cd (bd Tryd.f8) [1, 1, 1, 1, 1]) (by kernel_rfl) ?_
      refine Ref.regionC 9 (by kernel_rfl) ?_
      refine RefR.ev0 (st' := ⟨[(26, .c (.own 0 u21.length))], [E5.row u21], [], 0⟩) 0 1 1 [26] [0] rfl (by kernel_rfl) ?_
      refine RefR.bytesStr (t := 27) (d := .c (.own 0 u21.length)) 1 2 u21 (by kernel_rfl) (by kernel_rfl) (isBytes.own 0 5 (by kernel_rfl) (by kernel_rfl)) ?_
      refine RefR.ev0 (st' := ⟨[(2, .c (.str u21))], [], [], 0⟩) 2 1 3 [2] [] rfl (by kernel_rfl) ?_
      refine RefR.nilC 3 (by kernel_rfl) ?_
      exact Ref.retC (t := (u21)) (by kernel_rfl) (by kernel_rfl)

/-- governor/script.Bytes -/
def F9 (K : Nat) (a0 : Bytes) : Option ((Bytes × Bool) ⊕ (Bytes × Bool)) :=
  (if (a0 == ([45] : Bytes)) = true then (some (.inl (([] : Bytes), true))) else (chk [!(!(a0 == ([] : Bytes))) || !(2 == 0)] (letV ((a0 == ([] : Bytes)) || (((((Int.ofNat a0.length) : Int).tmod 2) : Int) != 0)) (fun (x1 : Bool) => (if x1 = true then (some (.inl (([] : Bytes), false))) else (bindS (blockS ((iter K (fun (u53 : (List UInt8) × Int) => (letV (decide ((u53.2 : Int) < (Int.ofNat a0.length))) (fun (x67 : Bool) => (if x67 = true then (bindS (blockS (chk [inb u53.2 a0.length, inb (IntKind.i64.wrap (u53.2 + 1)) a0.length] (letV (a0.getD ((IntKind.i64.wrap (u53.2 + 1)) : Int).toNat 0) (fun (x74 : UInt8) => ((fnS (F19 K ([48, 49, 50, 51, 52, 53, 54, 55, 56, 57, 97, 98, 99, 100, 101, 102] : Bytes) (a0.getD (u53.2 : Int).toNat 0))).bind (fun r75 => ((fnS (F19 K ([48, 49, 50, 51, 52, 53, 54, 55, 56, 57, 97, 98, 99, 100, 101, 102] : Bytes) x74)).bind (fun r76 => (letV ((decide ((r75 : Int) < 0)) || (decide ((r76 : Int) < 0))) (fun (x77 : Bool) => (if x77 = true then (some (.inl (Sum.inr (Sum.inr (([] : Bytes), false))))) else (letV (b8 (IntKind.u8.wrap (IntKind.i64.wrap ((IntKind.i64.wrap (16 * r75)) + r76)))) (fun (x78 : UInt8) => (chk [room ((u53.1.length + ([x78].length)) * 1)] (some (.inr ((u53.1 ++ [x78])))))))))))))))))) (fun (u73 : (List UInt8)) => (some (.inr (u73, (IntKind.i64.wrap (u53.2 + 2))))))) else (some (.inl (Sum.inl (u53.1)))))))) ([], 0)).map .inl)) (fun (u40 : (List UInt8)) => (some (.inl (u40, true))))))))))

theorem F9_ok (K : Nat) (a0 : Bytes) : DFun Tryd.prog 9 [.c (.str a0)] [] (fnS (F9 K a0)) (fun r => .tup [.c (.str r.1), .c (.val (.bool r.2))]) (fun r => []) := by
  refine DFun.intro (fn := Tryd.f9) (c := cd (bd Tryd.f9) []) (rs := fun r => ⟨[(2, .c (.str r.1)), (3, .c (.val (.bool r.2)))], [], [], 0⟩) (by kernel_rfl) (by kernel_rfl) (by kernel_rfl) ?_ (fun r => by kernel_rfl) (fun r => by kernel_rfl) (fun r => by kernel_rfl) (fun r => by kernel_rfl)
  unfold F9
  refine Ref.seqC (cd (bd Tryd.f9) [0]) (cd (bd Tryd.f9) [1]) (by kernel_rfl) ?_
  refine Ref.regionC 0 (by kernel_rfl) ?_
  refine RefR.ev0 (st' := ⟨[(0, .c (.str a0))], [], [], 0⟩) 0 2 2 [0] [] rfl (by kernel_rfl) ?_
  refine RefR.nilC 2 (by kernel_rfl) ?_
  refine Ref.seqC (cd (bd Tryd.f9) [1, 0]) (cd (bd Tryd.f9) [1, 1]) (by kernel_rfl) ?_
  refine Ref.seqC (cd (bd Tryd.f9) [1, 0, 0]) (cd (bd Tryd.f9) [1, 0, 1]) (by kernel_rfl) ?_
  refine Ref.regionC 1 (by kernel_rfl) ?_
  refine RefR.ev0 (st' := ⟨[(0, .c (.str a0)), (9, .c (.val (.bool (a0 == ([45] : Bytes)))))], [], [], 0⟩) 0 2 2 [0, 9] [] rfl (by kernel_rfl) ?_
  refine RefR.nilC 2 (by kernel_rfl) ?_
  refine Ref.condC (.tmp 9) (a0 == ([45] : Bytes)) (by kernel_rfl) rfl (by kernel_rfl) (fun hc => ?_) (fun hc => ?_)
  ·
    refine Ref.seqC (cd (bd Tryd.f9) [1, 0, 1, 0, 0]) (cd (bd Tryd.f9) [1, 0, 1, 0, 1]) (by kernel_rfl) ?_
    refine Ref.regionC 2 (by kernel_rfl) ?_
    refine RefR.ev0 (st' := ⟨[(2, .c (.str ([] : Bytes))), (3, .c (.val (.bool true)))], [], [], 0⟩) 0 2 2 [2, 3] [] rfl (by kernel_rfl) ?_
    refine RefR.nilC 2 (by kernel_rfl) ?_
    exact Ref.retC (t := (([] : Bytes), true)) (by kernel_rfl) (by kernel_rfl)
  ·
    refine Ref.skipC (by kernel_rfl) ?_
    refine Ref.seqC (cd (bd Tryd.f9) [1, 1, 0]) (cd (bd Tryd.f9) [1, 1, 1]) (by kernel_rfl) ?_
    refine Ref.seqC (cd (bd Tryd.f9) [1, 1, 0, 0]) (cd (bd Tryd.f9) [1, 1, 0, 1]) (by kernel_rfl) ?_
    refine Ref.regionC 3 (by kernel_rfl) ?_
    refine RefR.evC (vs := [!(!(a0 == ([] : Bytes))) || !(2 == 0)]) (st' := ⟨[(0, .c (.str a0)), (17, .c (.val (.bool ((a0 == ([] : Bytes)) || (((((Int.ofNat a0.length) : Int).tmod 2) : Int) != 0)))))], [], [], 0⟩) 0 8 8 [0, 17] [] rfl (by kernel_rfl) ?_
    refine RefR.letC (stf := fun x1 => ⟨[(0, .c (.str a0)), (17, .c (.val (.bool x1)))], [], [], 0⟩) (by kernel_rfl) (fun x1 => ?_)
    refine RefR.nilC 8 (by kernel_rfl) ?_
    refine Ref.condC (.tmp 17) x1 (by kernel_rfl) rfl (by kernel_rfl) (fun hc => ?_) (fun hc => ?_)
    ·
      refine Ref.seqC (cd (bd Tryd.f9) [1, 1, 0, 1, 0, 0]) (cd (bd Tryd.f9) [1, 1, 0, 1, 0, 1]) (by kernel_rfl) ?_
      refine Ref.regionC 4 (by kernel_rfl) ?_
      refine RefR.ev0 (st' := ⟨[(2, .c (.str ([] : Bytes))), (3, .c (.val (.bool false)))], [], [], 0⟩) 0 2 2 [2, 3] [] rfl (by kernel_rfl) ?_
      refine RefR.nilC 2 (by kernel_rfl) ?_
      exact Ref.retC (t := (([] : Bytes), false)) (by kernel_rfl) (by kernel_rfl)
    ·
      refine Ref.skipC (by kernel_rfl) ?_
      refine Ref.seqC (cd (bd Tryd.f9) [1, 1, 1, 0]) (cd (bd Tryd.f9) [1, 1, 1, 1]) (by kernel_rfl) ?_
      refine Ref.regionC 5 (by kernel_rfl) ?_
      refine RefR.ev0 (st' := ⟨[(0, .c (.str a0)), (4, .c (.nil))], [], [], 0⟩) 0 1 1 [0, 4] [] rfl (by kernel_rfl) ?_
      refine RefR.nilC 1 (by kernel_rfl) ?_
      refine Ref.seqC (cd (bd Tryd.f9) [1, 1, 1, 1, 0]) (cd (bd Tryd.f9) [1, 1, 1, 1, 1]) (by kernel_rfl) ?_
      refine Ref.seqC (cd (bd Tryd.f9) [1, 1, 1, 1, 0, 0]) (cd (bd Tryd.f9) [1, 1, 1, 1, 0, 1]) (by kernel_rfl) ?_
      refine Ref.regionC 6 (by kernel_rfl) ?_
      refine RefR.ev0 (st' := ⟨[(0, .c (.str a0)), (4, .c (.nil)), (5, .c (.val (.int .i64 0)))], [], [], 0⟩) 0 1 1 [0, 4, 5] [] rfl (by kernel_rfl) ?_
      refine RefR.nilC 1 (by kernel_rfl) ?_
      refine Ref.codeEq (c' := .block 0 (cd (bd Tryd.f9) [1, 1, 1, 1, 0, 1, 0])) (by kernel_rfl) ?_
      refine Ref.block (go1 := fun u40 => ⟨[(4, .c (.own 0 u40.length))], [E5.row u40], [], 0⟩) ?_ (fun _ h => by cases h) (fun u40 => ?_)
      ·
        refine Ref.codeEq (c' := .loop (cd (bd Tryd.f9) [1, 1, 1, 1, 0, 1, 0, 0])) (by kernel_rfl) ?_
        refine Ref.conv (Conv.adopt 4 E5.ty E5.w (E5.at []) (by kernel_rfl) (by kernel_rfl) (by kernel_rfl)) ?_
        refine Ref.conv (Conv.keep (st' := ⟨[(0, .c (.str a0)), (4, .c (.own 0 0)), (5, .c (.val (.int .i64 0)))], [E5.row []], [], 0⟩) [0, 4, 5] [0] (by kernel_rfl)) ?_
        refine Ref.loop (hd := fun u53 => ⟨[(0, .c (.str a0)), (4, .c (.own 0 u53.1.length)), (5, .c (.val (.int .i64 u53.2)))], [E5.row u53.1], [], 0⟩) K ([], 0) (by kernel_rfl) (fun u53 => ?_)
        refine Ref.seqC (cd (bd Tryd.f9) [1, 1, 1, 1, 0, 1, 0, 0, 0]) (cd (bd Tryd.f9) [1, 1, 1, 1, 0, 1, 0, 0, 1]) (by kernel_rfl) ?_
        refine Ref.seqC (cd (bd Tryd.f9) [1, 1, 1, 1, 0, 1, 0, 0, 0, 0]) (cd (bd Tryd.f9) [1, 1, 1, 1, 0, 1, 0, 0, 0, 1]) (by kernel_rfl) ?_
        refine Ref.regionC 7 (by kernel_rfl) ?_
        refine RefR.ev0 (st' := ⟨[(0, .c (.str a0)), (4, .c (.own 0 u53.1.length)), (5, .c (.val (.int .i64 u53.2))), (21, .c (.val (.bool (decide ((u53.2 : Int) < (Int.ofNat a0.length))))))], [E5.row u53.1], [], 0⟩) 0 4 4 [0, 4, 5, 21] [0] rfl (by kernel_rfl) ?_
        refine RefR.letC (stf := fun x67 => ⟨[(0, .c (.str a0)), (4, .c (.own 0 u53.1.length)), (5, .c (.val (.int .i64 u53.2))), (21, .c (.val (.bool x67)))], [E5.row u53.1], [], 0⟩) (by kernel_rfl) (fun x67 => ?_)
        refine RefR.nilC 4 (by kernel_rfl) ?_
        refine Ref.condC (.tmp 21) x67 (by kernel_rfl) rfl (by kernel_rfl) (fun hc => ?_) (fun hc => ?_)
        ·
          refine Ref.skipC (by kernel_rfl) ?_
          refine Ref.seqC (cd (bd Tryd.f9) [1, 1, 1, 1, 0, 1, 0, 0, 1, 0]) (cd (bd Tryd.f9) [1, 1, 1, 1, 0, 1, 0, 0, 1, 1]) (by kernel_rfl) ?_
          refine Ref.codeEq (c' := .block 1 (cd (bd Tryd.f9) [1, 1, 1, 1, 0, 1, 0, 0, 1, 0, 0])) (by kernel_rfl) ?_
          refine Ref.block (go1 := fun u73 => ⟨[(0, .c (.str a0)), (4, .c (.own 0 u73.length)), (5, .c (.val (.int .i64 u53.2)))], [E5.row u73], [], 0⟩) ?_ (fun a => match a with | .inl _ => (fun h => by cases h) | .inr _ => (fun h => by cases h)) (fun u73 => ?_)
          ·
            refine Ref.seqC (cd (bd Tryd.f9) [1, 1, 1, 1, 0, 1, 0, 0, 1, 0, 0, 0]) (cd (bd Tryd.f9) [1, 1, 1, 1, 0, 1, 0, 0, 1, 0, 0, 1]) (by kernel_rfl) ?_
            refine Ref.drawnY 9 (by kernel_rfl) (by kernel_rfl) ?_
            refine RefY.evC (vs := [inb u53.2 a0.length, inb (IntKind.i64.wrap (u53.2 + 1)) a0.length]) (st' := ⟨[(0, .c (.str a0)), (4, .c (.own 0 u53.1.length)), (5, .c (.val (.int .i64 u53.2))), (26, .c (.val (.int .u8 (Int.ofNat (a0.getD (u53.2 : Int).toNat 0).toNat)))), (31, .c (.val (.int .u8 (Int.ofNat (a0.getD ((IntKind.i64.wrap (u53.2 + 1)) : Int).toNat 0).toNat))))], [E5.row u53.1], [], 0⟩) (fuel' := 4) [0, 1, 2, 4, 5, 6, 7] [0, 4, 5, 26, 31] [0] rfl (by kernel_rfl) (by kernel_rfl) ?_
            refine RefY.letC (stf := fun x74 => ⟨[(0, .c (.str a0)), (4, .c (.own 0 u53.1.length)), (5, .c (.val (.int .i64 u53.2))), (26, .c (.val (.int .u8 (Int.ofNat (a0.getD (u53.2 : Int).toNat 0).toNat)))), (31, .c (.val (.int .u8 (Int.ofNat x74.toNat))))], [E5.row u53.1], [], 0⟩) (by kernel_rfl) (fun x74 => ?_)
            refine RefY.tail [3, 8, 9, 10] rfl (by kernel_rfl) ?_
            refine RefR.callC (t := 27) 0 1 [] rfl (by kernel_rfl) (F19_ok K ([48, 49, 50, 51, 52, 53, 54, 55, 56, 57, 97, 98, 99, 100, 101, 102] : Bytes) (a0.getD (u53.2 : Int).toNat 0)) (fun r75 => ?_)
            refine RefR.callC (t := 32) 1 2 [] rfl (by kernel_rfl) (F19_ok K ([48, 49, 50, 51, 52, 53, 54, 55, 56, 57, 97, 98, 99, 100, 101, 102] : Bytes) x74) (fun r76 => ?_)
            refine RefR.ev0 (st' := ⟨[(0, .c (.str a0)), (4, .c (.own 0 u53.1.length)), (5, .c (.val (.int .i64 u53.2))), (6, .c (.val (.int .i64 r75))), (7, .c (.val (.int .i64 r76)))], [E5.row u53.1], [], 0⟩) 2 2 4 [0, 4, 5, 6, 7] [0] rfl (by kernel_rfl) ?_
            refine RefR.nilC 4 (by kernel_rfl) ?_
            refine Ref.seqC (cd (bd Tryd.f9) [1, 1, 1, 1, 0, 1, 0, 0, 1, 0, 0, 1, 0]) (cd (bd Tryd.f9) [1, 1, 1, 1, 0, 1, 0, 0, 1, 0, 0, 1, 1]) (by kernel_rfl) ?_
            refine Ref.seqC (cd (bd Tryd.f9) [1, 1, 1, 1, 0, 1, 0, 0, 1, 0, 0, 1, 0, 0]) (cd (bd Tryd.f9) [1, 1, 1, 1, 0, 1, 0, 0, 1, 0, 0, 1, 0, 1]) (by kernel_rfl) ?_
            refine Ref.regionC 10 (by kernel_rfl) ?_
            refine RefR.ev0 (st' := ⟨[(0, .c (.str a0)), (4, .c (.own 0 u53.1.length)), (5, .c (.val (.int .i64 u53.2))), (6, .c (.val (.int .i64 r75))), (7, .c (.val (.int .i64 r76))), (38, .c (.val (.bool ((decide ((r75 : Int) < 0)) || (decide ((r76 : Int) < 0))))))], [E5.row u53.1], [], 0⟩) 0 6 6 [0, 4, 5, 6, 7, 38] [0] rfl (by kernel_rfl) ?_
            refine RefR.letC (stf := fun x77 => ⟨[(0, .c (.str a0)), (4, .c (.own 0 u53.1.length)), (5, .c (.val (.int .i64 u53.2))), (6, .c (.val (.int .i64 r75))), (7, .c (.val (.int .i64 r76))), (38, .c (.val (.bool x77)))], [E5.row u53.1], [], 0⟩) (by kernel_rfl) (fun x77 => ?_)
            refine RefR.nilC 6 (by kernel_rfl) ?_
            refine Ref.condC (.tmp 38) x77 (by kernel_rfl) rfl (by kernel_rfl) (fun hc => ?_) (fun hc => ?_)
            ·
              refine Ref.seqC (cd (bd Tryd.f9) [1, 1, 1, 1, 0, 1, 0, 0, 1, 0, 0, 1, 0, 1, 0, 0]) (cd (bd Tryd.f9) [1, 1, 1, 1, 0, 1, 0, 0, 1, 0, 0, 1, 0, 1, 0, 1]) (by kernel_rfl) ?_
              refine Ref.regionC 11 (by kernel_rfl) ?_
              refine RefR.ev0 (st' := ⟨[(2, .c (.str ([] : Bytes))), (3, .c (.val (.bool false)))], [], [], 0⟩) 0 2 2 [2, 3] [] rfl (by kernel_rfl) ?_
              refine RefR.nilC 2 (by kernel_rfl) ?_
              exact Ref.retC (t := (Sum.inr (Sum.inr (([] : Bytes), false)))) (by kernel_rfl) (by kernel_rfl)
            ·
              refine Ref.skipC (by kernel_rfl) ?_
              refine Ref.regionC 12 (by kernel_rfl) ?_
              refine RefR.ev0 (st' := ⟨[(0, .c (.str a0)), (5, .c (.val (.int .i64 u53.2))), (39, .c (.own 0 u53.1.length)), (44, .c (.val (.int .u8 (IntKind.u8.wrap (IntKind.i64.wrap ((IntKind.i64.wrap (16 * r75)) + r76))))))], [E5.row u53.1], [], 0⟩) 0 6 6 [0, 5, 39, 44] [0] rfl (by kernel_rfl) ?_
              refine RefR.conv (Conv.slot 44 (.c (.val (.int .u8 (Int.ofNat (b8 (IntKind.u8.wrap (IntKind.i64.wrap ((IntKind.i64.wrap (16 * r75)) + r76)))).toNat)))) (DLe.c (CLe.b8 (IsB.wrap _))) (by kernel_rfl)) ?_
              refine RefR.letC (stf := fun x78 => ⟨[(44, .c (.val (.int .u8 (Int.ofNat x78.toNat)))), (0, .c (.str a0)), (5, .c (.val (.int .i64 u53.2))), (39, .c (.own 0 u53.1.length))], [E5.row u53.1], [], 0⟩) (by kernel_rfl) (fun x78 => ?_)
              refine RefR.ev0 (st' := ⟨[(0, .c (.str a0)), (5, .c (.val (.int .i64 u53.2))), (39, .c (.own 0 u53.1.length)), (45, .c (.own 1 1))], [E5.row u53.1, .row 5 1 1 (tbl [[.val (.int .u8 (Int.ofNat x78.toNat))]])], [], 0⟩) 6 1 7 [0, 5, 39, 45] [0, 1] rfl (by kernel_rfl) ?_
              refine RefR.conv (Conv.obj 1 (E5.row [x78]) (El.row_build E5 [x78] rfl (by kernel_rfl)) (by kernel_rfl)) ?_
              refine RefR.conv (Conv.slot 45 (.c (.own 1 ([x78].length))) (DLe.c (CLe.own (by simp))) (by kernel_rfl)) ?_
              refine RefR.evC (vs := [room ((u53.1.length + ([x78].length)) * 1)]) (st' := ⟨[(0, .c (.str a0)), (5, .c (.val (.int .i64 u53.2))), (46, .c (.own 0 (u53.1.length + ([x78].length))))], [.row 5 1 (u53.1.length + ([x78].length)) fun i j => bif Nat.blt i u53.1.length then E5.at u53.1 i j else (E5.at [x78]) (i - u53.1.length) j], [], 0⟩) 7 1 8 [0, 5, 46] [2] rfl (by kernel_rfl) ?_
              refine RefR.conv (Conv.obj 0 (E5.row (u53.1 ++ [x78])) (El.row_append E5 u53.1 [x78] rfl rfl) (by kernel_rfl)) ?_
              refine RefR.conv (Conv.slot 46 (.c (.own 0 ((u53.1 ++ [x78]).length))) (DLe.c (CLe.own (by simp))) (by kernel_rfl)) ?_
              refine RefR.ev0 (st' := ⟨[(0, .c (.str a0)), (4, .c (.own 0 ((u53.1 ++ [x78]).length))), (5, .c (.val (.int .i64 u53.2)))], [E5.row (u53.1 ++ [x78])], [], 0⟩) 8 1 9 [0, 4, 5] [0] rfl (by kernel_rfl) ?_
              refine RefR.nilC 9 (by kernel_rfl) ?_
              exact Ref.nil (t := ((u53.1 ++ [x78]))) (by kernel_rfl)
          ·
            refine Ref.regionC 8 (by kernel_rfl) ?_
            refine RefR.ev0 (st' := ⟨[(0, .c (.str a0)), (4, .c (.own 0 u73.length)), (5, .c (.val (.int .i64 (IntKind.i64.wrap (u53.2 + 2)))))], [E5.row u73], [], 0⟩) 0 3 3 [0, 4, 5] [0] rfl (by kernel_rfl) ?_
            refine RefR.nilC 3 (by kernel_rfl) ?_
            exact Ref.nil (t := (u73, (IntKind.i64.wrap (u53.2 + 2)))) (by kernel_rfl)
        ·
          refine Ref.conv (Conv.keep (st' := ⟨[(4, .c (.own 0 u53.1.length))], [E5.row u53.1], [], 0⟩) [4] [0] (by kernel_rfl)) ?_
          exact Ref.exitC 0 (t := (Sum.inl (u53.1))) (by kernel_rfl) (by kernel_rfl)
      ·
        refine Ref.seqC (cd (bd Tryd.f9) [1, 1, 1, 1, 1, 0]) (cd (bd Tryd.f9) [1, 1, 1, 1, 1, 1]) (by kernel_rfl) ?_
        refine Ref.regionC 13 (by kernel_rfl) ?_
        refine RefR.ev0 (st' := ⟨[(47, .c (.own 0 u40.length))], [E5.row u40], [], 0⟩) 0 1 1 [47] [0] rfl (by kernel_rfl) ?_
        refine RefR.bytesStr (t := 48) (d := .c (.own 0 u40.length)) 1 2 u40 (by kernel_rfl) (by kernel_rfl) (isBytes.own 0 5 (by kernel_rfl) (by kernel_rfl)) ?_
        refine RefR.ev0 (st' := ⟨[(2, .c (.str u40)), (3, .c (.val (.bool true)))], [], [], 0⟩) 2 2 4 [2, 3] [] rfl (by kernel_rfl) ?_
        refine RefR.nilC 4 (by kernel_rfl) ?_
        exact Ref.retC (t := (u40, true)) (by kernel_rfl) (by kernel_rfl)

/-- governor/governorref25.digit -/
def F20 (K : Nat) (a0 : UInt8) : Option ((Int) ⊕ (Int)) :=
  (bindS (blockS ((iter K (fun (u18 : Int) => (if (decide ((u18 : Int) < 16)) = true then (bindS (blockS (chk [inb u18 ([48, 49, 50, 51, 52, 53, 54, 55, 56, 57, 97, 98, 99, 100, 101, 102] : Bytes).length] (letV (((Int.ofNat (([48, 49, 50, 51, 52, 53, 54, 55, 56, 57, 97, 98, 99, 100, 101, 102] : Bytes).getD (u18 : Int).toNat 0).toNat) : Int) == (Int.ofNat a0.toNat)) (fun (x25 : Bool) => (if x25 = true then (some (.inl (Sum.inr (Sum.inr (u18))))) else (some (.inr ()))))))) (fun (u24 : Unit) => (some (.inr ((IntKind.i64.wrap (u18 + 1))))))) else (some (.inl (Sum.inl ()))))) (0)).map .inl)) (fun (u13 : Unit) => (some (.inl ((-1))))))

theorem F20_ok (K : Nat) (a0 : UInt8) : DFun Tryd.prog 20 [.c (.val (.int .u8 (Int.ofNat a0.toNat)))] [] (fnS (F20 K a0)) (fun r => .c (.val (.int .i64 r))) (fun r => []) := by
  refine DFun.intro (fn := Tryd.f20) (c := cd (bd Tryd.f20) []) (rs := fun r => ⟨[(2, .c (.val (.int .i64 r)))], [], [], 0⟩) (by kernel_rfl) (by kernel_rfl) (by kernel_rfl) ?_ (fun r => by kernel_rfl) (fun r => by kernel_rfl) (fun r => by kernel_rfl) (fun r => by kernel_rfl)
  unfold F20
  refine Ref.seqC (cd (bd Tryd.f20) [0]) (cd (bd Tryd.f20) [1]) (by kernel_rfl) ?_
  refine Ref.regionC 0 (by kernel_rfl) ?_
  refine RefR.ev0 (st' := ⟨[(0, .c (.val (.int .u8 (Int.ofNat a0.toNat))))], [], [], 0⟩) 0 1 1 [0] [] rfl (by kernel_rfl) ?_
  refine RefR.nilC 1 (by kernel_rfl) ?_
  refine Ref.seqC (cd (bd Tryd.f20) [1, 0]) (cd (bd Tryd.f20) [1, 1]) (by kernel_rfl) ?_
  refine Ref.seqC (cd (bd Tryd.f20) [1, 0, 0]) (cd (bd Tryd.f20) [1, 0, 1]) (by kernel_rfl) ?_
  refine Ref.regionC 1 (by kernel_rfl) ?_
  refine RefR.ev0 (st' := ⟨[(0, .c (.val (.int .u8 (Int.ofNat a0.toNat)))), (3, .c (.val (.int .i64 0)))], [], [], 0⟩) 0 1 1 [0, 3] [] rfl (by kernel_rfl) ?_
  refine RefR.nilC 1 (by kernel_rfl) ?_
  refine Ref.codeEq (c' := .block 0 (cd (bd Tryd.f20) [1, 0, 1, 0])) (by kernel_rfl) ?_
  refine Ref.block (go1 := fun u13 => ⟨[], [], [], 0⟩) ?_ (fun _ h => by cases h) (fun u13 => ?_)
  ·
    refine Ref.codeEq (c' := .loop (cd (bd Tryd.f20) [1, 0, 1, 0, 0])) (by kernel_rfl) ?_
    refine Ref.loop (hd := fun u18 => ⟨[(0, .c (.val (.int .u8 (Int.ofNat a0.toNat)))), (3, .c (.val (.int .i64 u18)))], [], [], 0⟩) K (0) (by kernel_rfl) (fun u18 => ?_)
    refine Ref.seqC (cd (bd Tryd.f20) [1, 0, 1, 0, 0, 0]) (cd (bd Tryd.f20) [1, 0, 1, 0, 0, 1]) (by kernel_rfl) ?_
    refine Ref.seqC (cd (bd Tryd.f20) [1, 0, 1, 0, 0, 0, 0]) (cd (bd Tryd.f20) [1, 0, 1, 0, 0, 0, 1]) (by kernel_rfl) ?_
    refine Ref.regionC 2 (by kernel_rfl) ?_
    refine RefR.ev0 (st' := ⟨[(0, .c (.val (.int .u8 (Int.ofNat a0.toNat)))), (3, .c (.val (.int .i64 u18))), (5, .c (.val (.bool (decide ((u18 : Int) < 16)))))], [], [], 0⟩) 0 2 2 [0, 3, 5] [] rfl (by kernel_rfl) ?_
    refine RefR.nilC 2 (by kernel_rfl) ?_
    refine Ref.condC (.tmp 5) (decide ((u18 : Int) < 16)) (by kernel_rfl) rfl (by kernel_rfl) (fun hc => ?_) (fun hc => ?_)
    ·
      refine Ref.skipC (by kernel_rfl) ?_
      refine Ref.seqC (cd (bd Tryd.f20) [1, 0, 1, 0, 0, 1, 0]) (cd (bd Tryd.f20) [1, 0, 1, 0, 0, 1, 1]) (by kernel_rfl) ?_
      refine Ref.codeEq (c' := .block 1 (cd (bd Tryd.f20) [1, 0, 1, 0, 0, 1, 0, 0])) (by kernel_rfl) ?_
      refine Ref.block (go1 := fun u24 => ⟨[(0, .c (.val (.int .u8 (Int.ofNat a0.toNat)))), (3, .c (.val (.int .i64 u18)))], [], [], 0⟩) ?_ (fun a => match a with | .inl _ => (fun h => by cases h) | .inr _ => (fun h => by cases h)) (fun u24 => ?_)
      ·
        refine Ref.seqC (cd (bd Tryd.f20) [1, 0, 1, 0, 0, 1, 0, 0, 0]) (cd (bd Tryd.f20) [1, 0, 1, 0, 0, 1, 0, 0, 1]) (by kernel_rfl) ?_
        refine Ref.regionC 4 (by kernel_rfl) ?_
        refine RefR.evC (vs := [inb u18 ([48, 49, 50, 51, 52, 53, 54, 55, 56, 57, 97, 98, 99, 100, 101, 102] : Bytes).length]) (st' := ⟨[(0, .c (.val (.int .u8 (Int.ofNat a0.toNat)))), (3, .c (.val (.int .i64 u18))), (11, .c (.val (.bool (((Int.ofNat (([48, 49, 50, 51, 52, 53, 54, 55, 56, 57, 97, 98, 99, 100, 101, 102] : Bytes).getD (u18 : Int).toNat 0).toNat) : Int) == (Int.ofNat a0.toNat)))))], [], [], 0⟩) 0 4 4 [0, 3, 11] [] rfl (by kernel_rfl) ?_
        refine RefR.letC (stf := fun x25 => ⟨[(0, .c (.val (.int .u8 (Int.ofNat a0.toNat)))), (3, .c (.val (.int .i64 u18))), (11, .c (.val (.bool x25)))], [], [], 0⟩) (by kernel_rfl) (fun x25 => ?_)
        refine RefR.nilC 4 (by kernel_rfl) ?_
        refine Ref.condC (.tmp 11) x25 (by kernel_rfl) rfl (by kernel_rfl) (fun hc => ?_) (fun hc => ?_)
        ·
          refine Ref.seqC (cd (bd Tryd.f20) [1, 0, 1, 0, 0, 1, 0, 0, 1, 0, 0]) (cd (bd Tryd.f20) [1, 0, 1, 0, 0, 1, 0, 0, 1, 0, 1]) (by kernel_rfl) ?_
          refine Ref.regionC 5 (by kernel_rfl) ?_
          refine RefR.ev0 (st' := ⟨[(2, .c (.val (.int .i64 u18)))], [], [], 0⟩) 0 2 2 [2] [] rfl (by kernel_rfl) ?_
          refine RefR.nilC 2 (by kernel_rfl) ?_
          exact Ref.retC (t := (Sum.inr (Sum.inr (u18)))) (by kernel_rfl) (by kernel_rfl)
        ·
          refine Ref.skipC (by kernel_rfl) ?_
          refine Ref.conv (Conv.keep (st' := ⟨[(0, .c (.val (.int .u8 (Int.ofNat a0.toNat)))), (3, .c (.val (.int .i64 u18)))], [], [], 0⟩) [0, 3] [] (by kernel_rfl)) ?_
          exact Ref.nil (t := ()) (by kernel_rfl)
      ·
        refine Ref.regionC 3 (by kernel_rfl) ?_
        refine RefR.ev0 (st' := ⟨[(0, .c (.val (.int .u8 (Int.ofNat a0.toNat)))), (3, .c (.val (.int .i64 (IntKind.i64.wrap (u18 + 1)))))], [], [], 0⟩) 0 3 3 [0, 3] [] rfl (by kernel_rfl) ?_
        refine RefR.nilC 3 (by kernel_rfl) ?_
        exact Ref.nil (t := ((IntKind.i64.wrap (u18 + 1)))) (by kernel_rfl)
    ·
      refine Ref.conv (Conv.keep (st' := ⟨[], [], [], 0⟩) [] [] (by kernel_rfl)) ?_
      exact Ref.exitC 0 (t := (Sum.inl ())) (by kernel_rfl) (by kernel_rfl)
  ·
    refine Ref.seqC (cd (bd Tryd.f20) [1, 1, 0]) (cd (bd Tryd.f20) [1, 1, 1]) (by kernel_rfl) ?_
    refine Ref.regionC 6 (by kernel_rfl) ?_
    refine RefR.ev0 (st' := ⟨[(2, .c (.val (.int .i64 (-1))))], [], [], 0⟩) 0 1 1 [2] [] rfl (by kernel_rfl) ?_
    refine RefR.nilC 1 (by kernel_rfl) ?_
    exact Ref.retC (t := ((-1))) (by kernel_rfl) (by kernel_rfl)

/-- governor/governorref25.Bytes -/
def F10 (K : Nat) (a0 : Bytes) : Option ((Bytes × Bool) ⊕ (Bytes × Bool)) :=
  (if (a0 == ([45] : Bytes)) = true then (some (.inl (([] : Bytes), true))) else (chk [!(!(a0 == ([] : Bytes))) || !(2 == 0)] (letV ((a0 == ([] : Bytes)) || (((((Int.ofNat a0.length) : Int).tmod 2) : Int) != 0)) (fun (x1 : Bool) => (if x1 = true then (some (.inl (([] : Bytes), false))) else (bindS (blockS ((iter K (fun (u53 : (List UInt8) × Int) => (letV (decide ((u53.2 : Int) < (Int.ofNat a0.length))) (fun (x67 : Bool) => (if x67 = true then (bindS (blockS (chk [inb u53.2 a0.length, inb (IntKind.i64.wrap (u53.2 + 1)) a0.length] (letV (a0.getD ((IntKind.i64.wrap (u53.2 + 1)) : Int).toNat 0) (fun (x74 : UInt8) => ((fnS (F20 K (a0.getD (u53.2 : Int).toNat 0))).bind (fun r75 => ((fnS (F20 K x74)).bind (fun r76 => (letV ((decide ((r75 : Int) < 0)) || (decide ((r76 : Int) < 0))) (fun (x77 : Bool) => (if x77 = true then (some (.inl (Sum.inr (Sum.inr (([] : Bytes), false))))) else (letV (b8 (IntKind.u8.wrap (IntKind.i64.wrap ((IntKind.i64.wrap (16 * r75)) + r76)))) (fun (x78 : UInt8) => (chk [room ((u53.1.length + ([x78].length)) * 1)] (some (.inr ((u53.1 ++ [x78])))))))))))))))))) (fun (u73 : (List UInt8)) => (some (.inr (u73, (IntKind.i64.wrap (u53.2 + 2))))))) else (some (.inl (Sum.inl (u53.1)))))))) ([], 0)).map .inl)) (fun (u40 : (List UInt8)) => (some (.inl (u40, true))))))))))

theorem F10_ok (K : Nat) (a0 : Bytes) : DFun Tryd.prog 10 [.c (.str a0)] [] (fnS (F10 K a0)) (fun r => .tup [.c (.str r.1), .c (.val (.bool r.2))]) (fun r => []) := by
  refine DFun.intro (fn := Tryd.f10) (c := cd (bd Tryd.f10) []) (rs := fun r => ⟨[(2, .c (.str r.1)), (3, .c (.val (.bool r.2)))], [], [], 0⟩) (by kernel_rfl) (by kernel_rfl) (by kernel_rfl) ?_ (fun r => by kernel_rfl) (fun r => by kernel_rfl) (fun r => by kernel_rfl) (fun r => by kernel_rfl)
  unfold F10
  refine Ref.seqC (cd (bd Tryd.f10) [0]) (cd (bd Tryd.f10) [1]) (by kernel_rfl) ?_
  refine Ref.regionC 0 (by kernel_rfl) ?_
  refine RefR.ev0 (st' := ⟨[(0, .c (.str a0))], [], [], 0⟩) 0 2 2 [0] [] rfl (by kernel_rfl) ?_
  refine RefR.nilC 2 (by kernel_rfl) ?_
  refine Ref.seqC (cd (bd Tryd.f10) [1, 0]) (cd (bd Tryd.f10) [1, 1]) (by kernel_rfl) ?_
  refine Ref.seqC (cd (bd Tryd.f10) [1, 0, 0]) (cd (bd Tryd.f10) [1, 0, 1]) (by kernel_rfl) ?_
  refine Ref.regionC 1 (by kernel_rfl) ?_
  refine RefR.ev0 (st' := ⟨[(0, .c (.str a0)), (9, .c (.val (.bool (a0 == ([45] : Bytes)))))], [], [], 0⟩) 0 2 2 [0, 9] [] rfl (by kernel_rfl) ?_
  refine RefR.nilC 2 (by kernel_rfl) ?_
  refine Ref.condC (.tmp 9) (a0 == ([45] : Bytes)) (by kernel_rfl) rfl (by kernel_rfl) (fun hc => ?_) (fun hc => ?_)
  ·
    refine Ref.seqC (cd (bd Tryd.f10) [1, 0, 1, 0, 0]) (cd (bd Tryd.f10) [1, 0, 1, 0, 1]) (by kernel_rfl) ?_
    refine Ref.regionC 2 (by kernel_rfl) ?_
    refine RefR.ev0 (st' := ⟨[(2, .c (.str ([] : Bytes))), (3, .c (.val (.bool true)))], [], [], 0⟩) 0 2 2 [2, 3] [] rfl (by kernel_rfl) ?_
    refine RefR.nilC 2 (by kernel_rfl) ?_
    exact Ref.retC (t := (([] : Bytes), true)) (by kernel_rfl) (by kernel_rfl)
  ·
    refine Ref.skipC (by kernel_rfl) ?_
    refine Ref.seqC (cd (bd Tryd.f10) [1, 1, 0]) (cd (bd Tryd.f10) [1, 1, 1]) (by kernel_rfl) ?_
    refine Ref.seqC (cd (bd Tryd.f10) [1, 1, 0, 0]) (cd (bd Tryd.f10) [1, 1, 0, 1]) (by kernel_rfl) ?_
    refine Ref.regionC 3 (by kernel_rfl) ?_
    refine RefR.evC (vs := [!(!(a0 == ([] : Bytes))) || !(2 == 0)]) (st' := ⟨[(0, .c (.str a0)), (17, .c (.val (.bool ((a0 == ([] : Bytes)) || (((((Int.ofNat a0.length) : Int).tmod 2) : Int) != 0)))))], [], [], 0⟩) 0 8 8 [0, 17] [] rfl (by kernel_rfl) ?_
    refine RefR.letC (stf := fun x1 => ⟨[(0, .c (.str a0)), (17, .c (.val (.bool x1)))], [], [], 0⟩) (by kernel_rfl) (fun x1 => ?_)
    refine RefR.nilC 8 (by kernel_rfl) ?_
    refine Ref.condC (.tmp 17) x1 (by kernel_rfl) rfl (by kernel_rfl) (fun hc => ?_) (fun hc => ?_)
    ·
      refine Ref.seqC (cd (bd Tryd.f10) [1, 1, 0, 1, 0, 0]) (cd (bd Tryd.f10) [1, 1, 0, 1, 0, 1]) (by kernel_rfl) ?_
      refine Ref.regionC 4 (by kernel_rfl) ?_
      refine RefR.ev0 (st' := ⟨[(2, .c (.str ([] : Bytes))), (3, .c (.val (.bool false)))], [], [], 0⟩) 0 2 2 [2, 3] [] rfl (by kernel_rfl) ?_
      refine RefR.nilC 2 (by kernel_rfl) ?_
      exact Ref.retC (t := (([] : Bytes), false)) (by kernel_rfl) (by kernel_rfl)
    ·
      refine Ref.skipC (by kernel_rfl) ?_
      refine Ref.seqC (cd (bd Tryd.f10) [1, 1, 1, 0]) (cd (bd Tryd.f10) [1, 1, 1, 1]) (by kernel_rfl) ?_
      refine Ref.regionC 5 (by kernel_rfl) ?_
      refine RefR.ev0 (st' := ⟨[(0, .c (.str a0)), (4, .c (.nil))], [], [], 0⟩) 0 1 1 [0, 4] [] rfl (by kernel_rfl) ?_
      refine RefR.nilC 1 (by kernel_rfl) ?_
      refine Ref.seqC (cd (bd Tryd.f10) [1, 1, 1, 1, 0]) (cd (bd Tryd.f10) [1, 1, 1, 1, 1]) (by kernel_rfl) ?_
      refine Ref.seqC (cd (bd Tryd.f10) [1, 1, 1, 1, 0, 0]) (cd (bd Tryd.f10) [1, 1, 1, 1, 0, 1]) (by kernel_rfl) ?_
      refine Ref.regionC 6 (by kernel_rfl) ?_
      refine RefR.ev0 (st' := ⟨[(0, .c (.str a0)), (4, .c (.nil)), (5, .c (.val (.int .i64 0)))], [], [], 0⟩) 0 1 1 [0, 4, 5] [] rfl (by kernel_rfl) ?_
      refine RefR.nilC 1 (by kernel_rfl) ?_
      refine Ref.codeEq (c' := .block 0 (cd (bd Tryd.f10) [1, 1, 1, 1, 0, 1, 0])) (by kernel_rfl) ?_
      refine Ref.block (go1 := fun u40 => ⟨[(4, .c (.own 0 u40.length))], [E5.row u40], [], 0⟩) ?_ (fun _ h => by cases h) (fun u40 => ?_)
      ·
        refine Ref.codeEq (c' := .loop (cd (bd Tryd.f10) [1, 1, 1, 1, 0, 1, 0, 0])) (by kernel_rfl) ?_
        refine Ref.conv (Conv.adopt 4 E5.ty E5.w (E5.at []) (by kernel_rfl) (by kernel_rfl) (by kernel_rfl)) ?_
        refine Ref.conv (Conv.keep (st' := ⟨[(0, .c (.str a0)), (4, .c (.own 0 0)), (5, .c (.val (.int .i64 0)))], [E5.row []], [], 0⟩) [0, 4, 5] [0] (by kernel_rfl)) ?_
        refine Ref.loop (hd := fun u53 => ⟨[(0, .c (.str a0)), (4, .c (.own 0 u53.1.length)), (5, .c (.val (.int .i64 u53.2)))], [E5.row u53.1], [], 0⟩) K ([], 0) (by kernel_rfl) (fun u53 => ?_)
        refine Ref.seqC (cd (bd Tryd.f10) [1, 1, 1, 1, 0, 1, 0, 0, 0]) (cd (bd Tryd.f10) [1, 1, 1, 1, 0, 1, 0, 0, 1]) (by kernel_rfl) ?_
        refine Ref.seqC (cd (bd Tryd.f10) [1, 1, 1, 1, 0, 1, 0, 0, 0, 0]) (cd (bd Tryd.f10) [1, 1, 1, 1, 0, 1, 0, 0, 0, 1]) (by kernel_rfl) ?_
        refine Ref.regionC 7 (by kernel_rfl) ?_
        refine RefR.ev0 (st' := ⟨[(0, .c (.str a0)), (4, .c (.own 0 u53.1.length)), (5, .c (.val (.int .i64 u53.2))), (21, .c (.val (.bool (decide ((u53.2 : Int) < (Int.ofNat a0.length))))))], [E5.row u53.1], [], 0⟩) 0 4 4 [0, 4, 5, 21] [0] rfl (by kernel_rfl) ?_
        refine RefR.letC (stf := fun x67 => ⟨[(0, .c (.str a0)), (4, .c (.own 0 u53.1.length)), (5, .c (.val (.int .i64 u53.2))), (21, .c (.val (.bool x67)))], [E5.row u53.1], [], 0⟩) (by kernel_rfl) (fun x67 => ?_)
        refine RefR.nilC 4 (by kernel_rfl) ?_
        refine Ref.condC (.tmp 21) x67 (by kernel_rfl) rfl (by kernel_rfl) (fun hc => ?_) (fun hc => ?_)
        ·
          refine Ref.skipC (by kernel_rfl) ?_
          refine Ref.seqC (cd (bd Tryd.f10) [1, 1, 1, 1, 0, 1, 0, 0, 1, 0]) (cd (bd Tryd.f10) [1, 1, 1, 1, 0, 1, 0, 0, 1, 1]) (by kernel_rfl) ?_
          refine Ref.codeEq (c' := .block 1 (cd (bd Tryd.f10) [1, 1, 1, 1, 0, 1, 0, 0, 1, 0, 0])) (by kernel_rfl) ?_
          refine Ref.block (go1 := fun u73 => ⟨[(0, .c (.str a0)), (4, .c (.own 0 u73.length)), (5, .c (.val (.int .i64 u53.2)))], [E5.row u73], [], 0⟩) ?_ (fun a => match a with | .inl _ => (fun h => by cases h) | .inr _ => (fun h => by cases h)) (fun u73 => ?_)
          ·
            refine Ref.seqC (cd (bd Tryd.f10) [1, 1, 1, 1, 0, 1, 0, 0, 1, 0, 0, 0]) (cd (bd Tryd.f10) [1, 1, 1, 1, 0, 1, 0, 0, 1, 0, 0, 1]) (by kernel_rfl) ?_
            refine Ref.drawnY 9 (by kernel_rfl) (by kernel_rfl) ?_
            refine RefY.evC (vs := [inb u53.2 a0.length, inb (IntKind.i64.wrap (u53.2 + 1)) a0.length]) (st' := ⟨[(0, .c (.str a0)), (4, .c (.own 0 u53.1.length)), (5, .c (.val (.int .i64 u53.2))), (26, .c (.val (.int .u8 (Int.ofNat (a0.getD (u53.2 : Int).toNat 0).toNat)))), (31, .c (.val (.int .u8 (Int.ofNat (a0.getD ((IntKind.i64.wrap (u53.2 + 1)) : Int).toNat 0).toNat))))], [E5.row u53.1], [], 0⟩) (fuel' := 4) [0, 1, 2, 4, 5, 6, 7] [0, 4, 5, 26, 31] [0] rfl (by kernel_rfl) (by kernel_rfl) ?_
            refine RefY.letC (stf := fun x74 => ⟨[(0, .c (.str a0)), (4, .c (.own 0 u53.1.length)), (5, .c (.val (.int .i64 u53.2))), (26, .c (.val (.int .u8 (Int.ofNat (a0.getD (u53.2 : Int).toNat 0).toNat)))), (31, .c (.val (.int .u8 (Int.ofNat x74.toNat))))], [E5.row u53.1], [], 0⟩) (by kernel_rfl) (fun x74 => ?_)
            refine RefY.tail [3, 8, 9, 10] rfl (by kernel_rfl) ?_
            refine RefR.callC (t := 27) 0 1 [] rfl (by kernel_rfl) (F20_ok K (a0.getD (u53.2 : Int).toNat 0)) (fun r75 => ?_)
            refine RefR.callC (t := 32) 1 2 [] rfl (by kernel_rfl) (F20_ok K x74) (fun r76 => ?_)
            refine RefR.ev0 (st' := ⟨[(0, .c (.str a0)), (4, .c (.own 0 u53.1.length)), (5, .c (.val (.int .i64 u53.2))), (6, .c (.val (.int .i64 r75))), (7, .c (.val (.int .i64 r76)))], [E5.row u53.1], [], 0⟩) 2 2 4 [0, 4, 5, 6, 7] [0] rfl (by kernel_rfl) ?_
            refine RefR.nilC 4 (by kernel_rfl) ?_
            refine Ref.seqC (cd (bd Tryd.f10) [1, 1, 1, 1, 0, 1, 0, 0, 1, 0, 0, 1, 0]) (cd (bd Tryd.f10) [1, 1, 1, 1, 0, 1, 0, 0, 1, 0, 0, 1, 1]) (by kernel_rfl) ?_
            refine Ref.seqC (cd (bd Tryd.f10) [1, 1, 1, 1, 0, 1, 0, 0, 1, 0, 0, 1, 0, 0]) (cd (bd Tryd.f10) [1, 1, 1, 1, 0, 1, 0, 0, 1, 0, 0, 1, 0, 1]) (by kernel_rfl) ?_
            refine Ref.regionC 10 (by kernel_rfl) ?_
            refine RefR.ev0 (st' := ⟨[(0, .c (.str a0)), (4, .c (.own 0 u53.1.length)), (5, .c (.val (.int .i64 u53.2))), (6, .c (.val (.int .i64 r75))), (7, .c (.val (.int .i64 r76))), (38, .c (.val (.bool ((decide ((r75 : Int) < 0)) || (decide ((r76 : Int) < 0))))))], [E5.row u53.1], [], 0⟩) 0 6 6 [0, 4, 5, 6, 7, 38] [0] rfl (by kernel_rfl) ?_
            refine RefR.letC (stf := fun x77 => ⟨[(0, .c (.str a0)), (4, .c (.own 0 u53.1.length)), (5, .c (.val (.int .i64 u53.2))), (6, .c (.val (.int .i64 r75))), (7, .c (.val (.int .i64 r76))), (38, .c (.val (.bool x77)))], [E5.row u53.1], [], 0⟩) (by kernel_rfl) (fun x77 => ?_)
            refine RefR.nilC 6 (by kernel_rfl) ?_
            refine Ref.condC (.tmp 38) x77 (by kernel_rfl) rfl (by kernel_rfl) (fun hc => ?_) (fun hc => ?_)
            ·
              refine Ref.seqC (cd (bd Tryd.f10) [1, 1, 1, 1, 0, 1, 0, 0, 1, 0, 0, 1, 0, 1, 0, 0]) (cd (bd Tryd.f10) [1, 1, 1, 1, 0, 1, 0, 0, 1, 0, 0, 1, 0, 1, 0, 1]) (by kernel_rfl) ?_
              refine Ref.regionC 11 (by kernel_rfl) ?_
              refine RefR.ev0 (st' := ⟨[(2, .c (.str ([] : Bytes))), (3, .c (.val (.bool false)))], [], [], 0⟩) 0 2 2 [2, 3] [] rfl (by kernel_rfl) ?_
              refine RefR.nilC 2 (by kernel_rfl) ?_
              exact Ref.retC (t := (Sum.inr (Sum.inr (([] : Bytes), false)))) (by kernel_rfl) (by kernel_rfl)
            ·
              refine Ref.skipC (by kernel_rfl) ?_
              refine Ref.regionC 12 (by kernel_rfl) ?_
              refine RefR.ev0 (st' := ⟨[(0, .c (.str a0)), (5, .c (.val (.int .i64 u53.2))), (39, .c (.own 0 u53.1.length)), (44, .c (.val (.int .u8 (IntKind.u8.wrap (IntKind.i64.wrap ((IntKind.i64.wrap (16 * r75)) + r76))))))], [E5.row u53.1], [], 0⟩) 0 6 6 [0, 5, 39, 44] [0] rfl (by kernel_rfl) ?_
              refine RefR.conv (Conv.slot 44 (.c (.val (.int .u8 (Int.ofNat (b8 (IntKind.u8.wrap (IntKind.i64.wrap ((IntKind.i64.wrap (16 * r75)) + r76)))).toNat)))) (DLe.c (CLe.b8 (IsB.wrap _))) (by kernel_rfl)) ?_
              refine RefR.letC (stf := fun x78 => ⟨[(44, .c (.val (.int .u8 (Int.ofNat x78.toNat)))), (0, .c (.str a0)), (5, .c (.val (.int .i64 u53.2))), (39, .c (.own 0 u53.1.length))], [E5.row u53.1], [], 0⟩) (by kernel_rfl) (fun x78 => ?_)
              refine RefR.ev0 (st' := ⟨[(0, .c (.str a0)), (5, .c (.val (.int .i64 u53.2))), (39, .c (.own 0 u53.1.length)), (45, .c (.own 1 1))], [E5.row u53.1, .row 5 1 1 (tbl [[.val (.int .u8 (Int.ofNat x78.toNat))]])], [], 0⟩) 6 1 7 [0, 5, 39, 45] [0, 1] rfl (by kernel_rfl) ?_
              refine RefR.conv (Conv.obj 1 (E5.row [x78]) (El.row_build E5 [x78] rfl (by kernel_rfl)) (by kernel_rfl)) ?_
              refine RefR.conv (Conv.slot 45 (.c (.own 1 ([x78].length))) (DLe.c (CLe.own (by simp))) (by kernel_rfl)) ?_
              refine RefR.evC (vs := [room ((u53.1.length + ([x78].length)) * 1)]) (st' := ⟨[(0, .c (.str a0)), (5, .c (.val (.int .i64 u53.2))), (46, .c (.own 0 (u53.1.length + ([x78].length))))], [.row 5 1 (u53.1.length + ([x78].length)) fun i j => bif Nat.blt i u53.1.length then E5.at u53.1 i j else (E5.at [x78]) (i - u53.1.length) j], [], 0⟩) 7 1 8 [0, 5, 46] [2] rfl (by kernel_rfl) ?_
              refine RefR.conv (Conv.obj 0 (E5.row (u53.1 ++ [x78])) (El.row_append E5 u53.1 [x78] rfl rfl) (by kernel_rfl)) ?_
              refine RefR.conv (Conv.slot 46 (.c (.own 0 ((u53.1 ++ [x78]).length))) (DLe.c (CLe.own (by simp))) (by kernel_rfl)) ?_
              refine RefR.ev0 (st' := ⟨[(0, .c (.str a0)), (4, .c (.own 0 ((u53.1 ++ [x78]).length))), (5, .c (.val (.int .i64 u53.2)))], [E5.row (u53.1 ++ [x78])], [], 0⟩) 8 1 9 [0, 4, 5] [0] rfl (by kernel_rfl) ?_
              refine RefR.nilC 9 (by kernel_rfl) ?_
              exact Ref.nil (t := ((u53.1 ++ [x78]))) (by kernel_rfl)
          ·
            refine Ref.regionC 8 (by kernel_rfl) ?_
            refine RefR.ev0 (st' := ⟨[(0, .c (.str a0)), (4, .c (.own 0 u73.length)), (5, .c (.val (.int .i64 (IntKind.i64.wrap (u53.2 + 2)))))], [E5.row u73], [], 0⟩) 0 3 3 [0, 4, 5] [0] rfl (by kernel_rfl) ?_
            refine RefR.nilC 3 (by kernel_rfl) ?_
            exact Ref.nil (t := (u73, (IntKind.i64.wrap (u53.2 + 2)))) (by kernel_rfl)
        ·
          refine Ref.conv (Conv.keep (st' := ⟨[(4, .c (.own 0 u53.1.length))], [E5.row u53.1], [], 0⟩) [4] [0] (by kernel_rfl)) ?_
          exact Ref.exitC 0 (t := (Sum.inl (u53.1))) (by kernel_rfl) (by kernel_rfl)
      ·
        refine Ref.seqC (cd (bd Tryd.f10) [1, 1, 1, 1, 1, 0]) (cd (bd Tryd.f10) [1, 1, 1, 1, 1, 1]) (by kernel_rfl) ?_
        refine Ref.regionC 13 (by kernel_rfl) ?_
        refine RefR.ev0 (st' := ⟨[(47, .c (.own 0 u40.length))], [E5.row u40], [], 0⟩) 0 1 1 [47] [0] rfl (by kernel_rfl) ?_
        refine RefR.bytesStr (t := 48) (d := .c (.own 0 u40.length)) 1 2 u40 (by kernel_rfl) (by kernel_rfl) (isBytes.own 0 5 (by kernel_rfl) (by kernel_rfl)) ?_
        refine RefR.ev0 (st' := ⟨[(2, .c (.str u40)), (3, .c (.val (.bool true)))], [], [], 0⟩) 2 2 4 [2, 3] [] rfl (by kernel_rfl) ?_
        refine RefR.nilC 4 (by kernel_rfl) ?_
        exact Ref.retC (t := (u40, true)) (by kernel_rfl) (by kernel_rfl)

/-- governor/governorref25.Hex -/
def F11 (K : Nat) (a0 : Bytes) : Option ((Bytes) ⊕ (Bytes)) :=
  (if (a0 == ([] : Bytes)) = true then (some (.inl (([45] : Bytes)))) else (bindS (blockS ((iter K (fun (u28 : (List UInt8) × Int) => (letV (decide ((u28.2 : Int) < (Int.ofNat a0.length))) (fun (x36 : Bool) => (if x36 = true then (bindS (blockS (chk [inb u28.2 a0.length, !(16 == 0), inb (IntKind.u8.wrap (((Int.ofNat (a0.getD (u28.2 : Int).toNat 0).toNat) : Int).tdiv 16)) ([48, 49, 50, 51, 52, 53, 54, 55, 56, 57, 97, 98, 99, 100, 101, 102] : Bytes).length, inb u28.2 a0.length, !(16 == 0), inb (((Int.ofNat (a0.getD (u28.2 : Int).toNat 0).toNat) : Int).tmod 16) ([48, 49, 50, 51, 52, 53, 54, 55, 56, 57, 97, 98, 99, 100, 101, 102] : Bytes).length] (letV (([48, 49, 50, 51, 52, 53, 54, 55, 56, 57, 97, 98, 99, 100, 101, 102] : Bytes).getD ((IntKind.u8.wrap (((Int.ofNat (a0.getD (u28.2 : Int).toNat 0).toNat) : Int).tdiv 16)) : Int).toNat 0) (fun (x40 : UInt8) => (letV (([48, 49, 50, 51, 52, 53, 54, 55, 56, 57, 97, 98, 99, 100, 101, 102] : Bytes).getD ((((Int.ofNat (a0.getD (u28.2 : Int).toNat 0).toNat) : Int).tmod 16) : Int).toNat 0) (fun (x41 : UInt8) => (chk [room ((u28.1.length + ([x40, x41].length)) * 1)] (some (.inr ((u28.1 ++ [x40, x41]))))))))))) (fun (u39 : (List UInt8)) => (some (.inr (u39, (IntKind.i64.wrap (u28.2 + 1))))))) else (some (.inl (Sum.inl (u28.1)))))))) ([], 0)).map .inl)) (fun (u21 : (List UInt8)) => (some (.inl (u21))))))

theorem F11_ok (K : Nat) (a0 : Bytes) : DFun Tryd.prog 11 [.c (.str a0)] [] (fnS (F11 K a0)) (fun r => .c (.str r)) (fun r => []) := by
  refine DFun.intro (fn := Tryd.f11) (c := cd (bd Tryd.f11) []) (rs := fun r => ⟨[(2, .c (.str r))], [], [], 0⟩) (by kernel_rfl) (by kernel_rfl) (by kernel_rfl) ?_ (fun r => by kernel_rfl) (fun r => by kernel_rfl) (fun r => by kernel_rfl) (fun r => by kernel_rfl)
  unfold F11
  refine Ref.seqC (cd (bd Tryd.f11) [0]) (cd (bd Tryd.f11) [1]) (by kernel_rfl) ?_
  refine Ref.regionC 0 (by kernel_rfl) ?_
  refine RefR.ev0 (st' := ⟨[(0, .c (.str a0))], [], [], 0⟩) 0 1 1 [0] [] rfl (by kernel_rfl) ?_
  refine RefR.nilC 1 (by kernel_rfl) ?_
  refine Ref.seqC (cd (bd Tryd.f11) [1, 0]) (cd (bd Tryd.f11) [1, 1]) (by kernel_rfl) ?_
  refine Ref.seqC (cd (bd Tryd.f11) [1, 0, 0]) (cd (bd Tryd.f11) [1, 0, 1]) (by kernel_rfl) ?_
  refine Ref.regionC 1 (by kernel_rfl) ?_
  refine RefR.ev0 (st' := ⟨[(0, .c (.str a0)), (6, .c (.val (.bool (a0 == ([] : Bytes)))))], [], [], 0⟩) 0 2 2 [0, 6] [] rfl (by kernel_rfl) ?_
  refine RefR.nilC 2 (by kernel_rfl) ?_
  refine Ref.condC (.tmp 6) (a0 == ([] : Bytes)) (by kernel_rfl) rfl (by kernel_rfl) (fun hc => ?_) (fun hc => ?_)
  ·
    refine Ref.seqC (cd (bd Tryd.f11) [1, 0, 1, 0, 0]) (cd (bd Tryd.f11) [1, 0, 1, 0, 1]) (by kernel_rfl) ?_
    refine Ref.regionC 2 (by kernel_rfl) ?_
    refine RefR.ev0 (st' := ⟨[(2, .c (.str ([45] : Bytes)))], [], [], 0⟩) 0 1 1 [2] [] rfl (by kernel_rfl) ?_
    refine RefR.nilC 1 (by kernel_rfl) ?_
    exact Ref.retC (t := (([45] : Bytes))) (by kernel_rfl) (by kernel_rfl)
  ·
    refine Ref.skipC (by kernel_rfl) ?_
    refine Ref.seqC (cd (bd Tryd.f11) [1, 1, 0]) (cd (bd Tryd.f11) [1, 1, 1]) (by kernel_rfl) ?_
    refine Ref.regionC 3 (by kernel_rfl) ?_
    refine RefR.ev0 (st' := ⟨[(0, .c (.str a0)), (3, .c (.nil))], [], [], 0⟩) 0 1 1 [0, 3] [] rfl (by kernel_rfl) ?_
    refine RefR.nilC 1 (by kernel_rfl) ?_
    refine Ref.seqC (cd (bd Tryd.f11) [1, 1, 1, 0]) (cd (bd Tryd.f11) [1, 1, 1, 1]) (by kernel_rfl) ?_
    refine Ref.seqC (cd (bd Tryd.f11) [1, 1, 1, 0, 0]) (cd (bd Tryd.f11) [1, 1, 1, 0, 1]) (by kernel_rfl) ?_
    refine Ref.regionC 4 (by kernel_rfl) ?_
    refine RefR.ev0 (st' := ⟨[(0, .c (.str a0)), (3, .c (.nil)), (4, .c (.val (.int .i64 0)))], [], [], 0⟩) 0 1 1 [0, 3, 4] [] rfl (by kernel_rfl) ?_
    refine RefR.nilC 1 (by kernel_rfl) ?_
    refine Ref.codeEq (c' := .block 0 (cd (bd Tryd.f11) [1, 1, 1, 0, 1, 0])) (by kernel_rfl) ?_
    refine Ref.block (go1 := fun u21 => ⟨[(3, .c (.own 0 u21.length))], [E5.row u21], [], 0⟩) ?_ (fun _ h => by cases h) (fun u21 => ?_)
    ·
      refine Ref.codeEq (c' := .loop (cd (bd Tryd.f11) [1, 1, 1, 0, 1, 0, 0])) (by kernel_rfl) ?_
      refine Ref.conv (Conv.adopt 3 E5.ty E5.w (E5.at []) (by kernel_rfl) (by kernel_rfl) (by kernel_rfl)) ?_
      refine Ref.conv (Conv.keep (st' := ⟨[(0, .c (.str a0)), (3, .c (.own 0 0)), (4, .c (.val (.int .i64 0)))], [E5.row []], [], 0⟩) [0, 3, 4] [0] (by kernel_rfl)) ?_
      refine Ref.loop (hd := fun u28 => ⟨[(0, .c (.str a0)), (3, .c (.own 0 u28.1.length)), (4, .c (.val (.int .i64 u28.2)))], [E5.row u28.1], [], 0⟩) K ([], 0) (by kernel_rfl) (fun u28 => ?_)
      refine Ref.seqC (cd (bd Tryd.f11) [1, 1, 1, 0, 1, 0, 0, 0]) (cd (bd Tryd.f11) [1, 1, 1, 0, 1, 0, 0, 1]) (by kernel_rfl) ?_
      refine Ref.seqC (cd (bd Tryd.f11) [1, 1, 1, 0, 1, 0, 0, 0, 0]) (cd (bd Tryd.f11) [1, 1, 1, 0, 1, 0, 0, 0, 1]) (by kernel_rfl) ?_
      refine Ref.regionC 5 (by kernel_rfl) ?_
      refine RefR.ev0 (st' := ⟨[(0, .c (.str a0)), (3, .c (.own 0 u28.1.length)), (4, .c (.val (.int .i64 u28.2))), (10, .c (.val (.bool (decide ((u28.2 : Int) < (Int.ofNat a0.length))))))], [E5.row u28.1], [], 0⟩) 0 4 4 [0, 3, 4, 10] [0] rfl (by kernel_rfl) ?_
      refine RefR.letC (stf := fun x36 => ⟨[(0, .c (.str a0)), (3, .c (.own 0 u28.1.length)), (4, .c (.val (.int .i64 u28.2))), (10, .c (.val (.bool x36)))], [E5.row u28.1], [], 0⟩) (by kernel_rfl) (fun x36 => ?_)
      refine RefR.nilC 4 (by kernel_rfl) ?_
      refine Ref.condC (.tmp 10) x36 (by kernel_rfl) rfl (by kernel_rfl) (fun hc => ?_) (fun hc => ?_)
      ·
        refine Ref.skipC (by kernel_rfl) ?_
        refine Ref.seqC (cd (bd Tryd.f11) [1, 1, 1, 0, 1, 0, 0, 1, 0]) (cd (bd Tryd.f11) [1, 1, 1, 0, 1, 0, 0, 1, 1]) (by kernel_rfl) ?_
        refine Ref.codeEq (c' := .block 1 (cd (bd Tryd.f11) [1, 1, 1, 0, 1, 0, 0, 1, 0, 0])) (by kernel_rfl) ?_
        refine Ref.block (go1 := fun u39 => ⟨[(0, .c (.str a0)), (3, .c (.own 0 u39.length)), (4, .c (.val (.int .i64 u28.2)))], [E5.row u39], [], 0⟩) ?_ (fun a => match a with | .inl _ => (fun h => by cases h) | .inr _ => (fun h => by cases h)) (fun u39 => ?_)
        ·
          refine Ref.drawnY 7 (by kernel_rfl) (by kernel_rfl) ?_
          refine RefY.evC (vs := [inb u28.2 a0.length, !(16 == 0), inb (IntKind.u8.wrap (((Int.ofNat (a0.getD (u28.2 : Int).toNat 0).toNat) : Int).tdiv 16)) ([48, 49, 50, 51, 52, 53, 54, 55, 56, 57, 97, 98, 99, 100, 101, 102] : Bytes).length, inb u28.2 a0.length, !(16 == 0), inb (((Int.ofNat (a0.getD (u28.2 : Int).toNat 0).toNat) : Int).tmod 16) ([48, 49, 50, 51, 52, 53, 54, 55, 56, 57, 97, 98, 99, 100, 101, 102] : Bytes).length]) (st' := ⟨[(0, .c (.str a0)), (4, .c (.val (.int .i64 u28.2))), (13, .c (.own 0 u28.1.length)), (18, .c (.val (.int .u8 (Int.ofNat (([48, 49, 50, 51, 52, 53, 54, 55, 56, 57, 97, 98, 99, 100, 101, 102] : Bytes).getD ((IntKind.u8.wrap (((Int.ofNat (a0.getD (u28.2 : Int).toNat 0).toNat) : Int).tdiv 16)) : Int).toNat 0).toNat)))), (23, .c (.val (.int .u8 (Int.ofNat (([48, 49, 50, 51, 52, 53, 54, 55, 56, 57, 97, 98, 99, 100, 101, 102] : Bytes).getD ((((Int.ofNat (a0.getD (u28.2 : Int).toNat 0).toNat) : Int).tmod 16) : Int).toNat 0).toNat))))], [E5.row u28.1], [], 0⟩) (fuel' := 3) [0, 1, 2, 3, 4, 5, 6, 7, 8, 9, 10] [0, 4, 13, 18, 23] [0] rfl (by kernel_rfl) (by kernel_rfl) ?_
          refine RefY.letC (stf := fun x40 => ⟨[(0, .c (.str a0)), (4, .c (.val (.int .i64 u28.2))), (13, .c (.own 0 u28.1.length)), (18, .c (.val (.int .u8 (Int.ofNat x40.toNat)))), (23, .c (.val (.int .u8 (Int.ofNat (([48, 49, 50, 51, 52, 53, 54, 55, 56, 57, 97, 98, 99, 100, 101, 102] : Bytes).getD ((((Int.ofNat (a0.getD (u28.2 : Int).toNat 0).toNat) : Int).tmod 16) : Int).toNat 0).toNat))))], [E5.row u28.1], [], 0⟩) (by kernel_rfl) (fun x40 => ?_)
          refine RefY.letC (stf := fun x41 => ⟨[(0, .c (.str a0)), (4, .c (.val (.int .i64 u28.2))), (13, .c (.own 0 u28.1.length)), (18, .c (.val (.int .u8 (Int.ofNat x40.toNat)))), (23, .c (.val (.int .u8 (Int.ofNat x41.toNat))))], [E5.row u28.1], [], 0⟩) (by kernel_rfl) (fun x41 => ?_)
          refine RefY.tail [11, 12, 13] rfl (by kernel_rfl) ?_
          refine RefR.ev0 (st' := ⟨[(0, .c (.str a0)), (4, .c (.val (.int .i64 u28.2))), (13, .c (.own 0 u28.1.length)), (24, .c (.own 1 2))], [E5.row u28.1, .row 5 1 2 (tbl [[.val (.int .u8 (Int.ofNat x40.toNat))], [.val (.int .u8 (Int.ofNat x41.toNat))]])], [], 0⟩) 0 1 1 [0, 4, 13, 24] [0, 1] rfl (by kernel_rfl) ?_
          refine RefR.conv (Conv.obj 1 (E5.row [x40, x41]) (El.row_build E5 [x40, x41] rfl (by kernel_rfl)) (by kernel_rfl)) ?_
          refine RefR.conv (Conv.slot 24 (.c (.own 1 ([x40, x41].length))) (DLe.c (CLe.own (by simp))) (by kernel_rfl)) ?_
          refine RefR.evC (vs := [room ((u28.1.length + ([x40, x41].length)) * 1)]) (st' := ⟨[(0, .c (.str a0)), (4, .c (.val (.int .i64 u28.2))), (25, .c (.own 0 (u28.1.length + ([x40, x41].length))))], [.row 5 1 (u28.1.length + ([x40, x41].length)) fun i j => bif Nat.blt i u28.1.length then E5.at u28.1 i j else (E5.at [x40, x41]) (i - u28.1.length) j], [], 0⟩) 1 1 2 [0, 4, 25] [2] rfl (by kernel_rfl) ?_
          refine RefR.conv (Conv.obj 0 (E5.row (u28.1 ++ [x40, x41])) (El.row_append E5 u28.1 [x40, x41] rfl rfl) (by kernel_rfl)) ?_
          refine RefR.conv (Conv.slot 25 (.c (.own 0 ((u28.1 ++ [x40, x41]).length))) (DLe.c (CLe.own (by simp))) (by kernel_rfl)) ?_
          refine RefR.ev0 (st' := ⟨[(0, .c (.str a0)), (3, .c (.own 0 ((u28.1 ++ [x40, x41]).length))), (4, .c (.val (.int .i64 u28.2)))], [E5.row (u28.1 ++ [x40, x41])], [], 0⟩) 2 1 3 [0, 3, 4] [0] rfl (by kernel_rfl) ?_
          refine RefR.nilC 3 (by kernel_rfl) ?_
          exact Ref.nil (t := ((u28.1 ++ [x40, x41]))) (by kernel_rfl)
        ·
          refine Ref.regionC 6 (by kernel_rfl) ?_
          refine RefR.ev0 (st' := ⟨[(0, .c (.str a0)), (3, .c (.own 0 u39.length)), (4, .c (.val (.int .i64 (IntKind.i64.wrap (u28.2 + 1)))))], [E5.row u39], [], 0⟩) 0 3 3 [0, 3, 4] [0] rfl (by kernel_rfl) ?_
          refine RefR.nilC 3 (by kernel_rfl) ?_
          exact Ref.nil (t := (u39, (IntKind.i64.wrap (u28.2 + 1)))) (by kernel_rfl)
      ·
        refine Ref.conv (Conv.keep (st' := ⟨[(3, .c (.own 0 u28.1.length))], [E5.row u28.1], [], 0⟩) [3] [0] (by kernel_rfl)) ?_
        exact Ref.exitC 0 (t := (Sum.inl (u28.1))) (by kernel_rfl) (by kernel_rfl)
    ·
      refine Ref.seqC (cd (bd Tryd.f11) [1, 1, 1, 1, 0]) (cd (bd Tryd.f11) [1, 1, 1, 1, 1]) (by kernel_rfl) ?_
      refine Ref.regionC 8 (by kernel_rfl) ?_
      refine RefR.ev0 (st' := ⟨[(26, .c (.own 0 u21.length))], [E5.row u21], [], 0⟩) 0 1 1 [26] [0] rfl (by kernel_rfl) ?_
      refine RefR.bytesStr (t := 27) (d := .c (.own 0 u21.length)) 1 2 u21 (by kernel_rfl) (by kernel_rfl) (isBytes.own 0 5 (by kernel_rfl) (by kernel_rfl)) ?_
      refine RefR.ev0 (st' := ⟨[(2, .c (.str u21))], [], [], 0⟩) 2 1 3 [2] [] rfl (by kernel_rfl) ?_
      refine RefR.nilC 3 (by kernel_rfl) ?_
      exact Ref.retC (t := (u21)) (by kernel_rfl) (by kernel_rfl)

/-- governor/diag.New -/
def F21 (K : Nat) (a0 : Int) (a1 : Int) : Option ((Err) ⊕ (Err)) :=
  (some (.inl ((some (a0, a1)))))

theorem F21_ok (K : Nat) (a0 : Int) (a1 : Int) : DFun Tryd.prog 21 [.c (.val (.int .i64 a0)), .c (.val (.int .i64 a1))] [] (fnS (F21 K a0 a1)) (fun r => .c (errC r)) (fun r => []) := by
  refine DFun.intro (fn := Tryd.f21) (c := cd (bd Tryd.f21) []) (rs := fun r => ⟨[(4, .c (errC r))], [], [], 0⟩) (by kernel_rfl) (by kernel_rfl) (by kernel_rfl) ?_ (fun r => by kernel_rfl) (fun r => by kernel_rfl) (fun r => by kernel_rfl) (fun r => by kernel_rfl)
  unfold F21
  refine Ref.seqC (cd (bd Tryd.f21) [0]) (cd (bd Tryd.f21) [1]) (by kernel_rfl) ?_
  refine Ref.regionC 0 (by kernel_rfl) ?_
  refine RefR.ev0 (st' := ⟨[(0, .c (.val (.int .i64 a0))), (1, .c (.val (.int .i64 a1)))], [], [], 0⟩) 0 1 1 [0, 1] [] rfl (by kernel_rfl) ?_
  refine RefR.nilC 1 (by kernel_rfl) ?_
  refine Ref.seqC (cd (bd Tryd.f21) [1, 0]) (cd (bd Tryd.f21) [1, 1]) (by kernel_rfl) ?_
  refine Ref.regionC 1 (by kernel_rfl) ?_
  refine RefR.ev0 (st' := ⟨[(4, .c (.iface true 65 (.ptr 0 0 0)))], [.cells [.val (.int .i64 a0), .val (.int .i64 a1), .val .nilIface]], [], 0⟩) 0 6 6 [4] [0] rfl (by kernel_rfl) ?_
  refine RefR.nilC 6 (by kernel_rfl) ?_
  refine Ref.conv (Conv.freeze (st' := ⟨[(4, .c (errC (some (a0, a1))))], [.dead], [], 0⟩) 0 (by kernel_rfl)) ?_
  refine Ref.conv (Conv.keep (st' := ⟨[(4, .c (errC (some (a0, a1))))], [], [], 0⟩) [4] [] (by kernel_rfl)) ?_
  exact Ref.retC (t := ((some (a0, a1)))) (by kernel_rfl) (by kernel_rfl)

/-- governor/governorlaw0.SameInts -/
def F30 (K : Nat) (a0 : (List Int)) (a1 : (List Int)) : Option ((Bool) ⊕ (Bool)) :=
  (letV (((Int.ofNat a0.length) : Int) != (Int.ofNat a1.length)) (fun (x1 : Bool) => (if x1 = true then (some (.inl (false))) else (bindS (blockS ((iter K (fun (u21 : Int) => (letV (decide ((u21 : Int) < (Int.ofNat a0.length))) (fun (x27 : Bool) => (if x27 = true then (bindS (blockS (chk [inb u21 a0.length, inb u21 a1.length] (letV (((a0.getD (u21 : Int).toNat default) : Int) != (a1.getD (u21 : Int).toNat default)) (fun (x30 : Bool) => (if x30 = true then (some (.inl (Sum.inr (Sum.inr (false))))) else (some (.inr ()))))))) (fun (u29 : Unit) => (some (.inr ((IntKind.i64.wrap (u21 + 1))))))) else (some (.inl (Sum.inl ()))))))) (0)).map .inl)) (fun (u16 : Unit) => (some (.inl (true))))))))

theorem F30_ok (K : Nat) (a0 : (List Int)) (a1 : (List Int)) : DFun Tryd.prog 30 [.c (E3.tree a0), .c (E3.tree a1)] [] (fnS (F30 K a0 a1)) (fun r => .c (.val (.bool r))) (fun r => []) := by
  refine DFun.intro (fn := Tryd.f30) (c := cd (bd Tryd.f30) []) (rs := fun r => ⟨[(4, .c (.val (.bool r)))], [], [], 0⟩) (by kernel_rfl) (by kernel_rfl) (by kernel_rfl) ?_ (fun r => by kernel_rfl) (fun r => by kernel_rfl) (fun r => by kernel_rfl) (fun r => by kernel_rfl)
  unfold F30
  refine Ref.seqC (cd (bd Tryd.f30) [0]) (cd (bd Tryd.f30) [1]) (by kernel_rfl) ?_
  refine Ref.regionC 0 (by kernel_rfl) ?_
  refine RefR.ev0 (st' := ⟨[(0, .c (E3.tree a0)), (1, .c (E3.tree a1))], [], [], 0⟩) 0 1 1 [0, 1] [] rfl (by kernel_rfl) ?_
  refine RefR.nilC 1 (by kernel_rfl) ?_
  refine Ref.seqC (cd (bd Tryd.f30) [1, 0]) (cd (bd Tryd.f30) [1, 1]) (by kernel_rfl) ?_
  refine Ref.seqC (cd (bd Tryd.f30) [1, 0, 0]) (cd (bd Tryd.f30) [1, 0, 1]) (by kernel_rfl) ?_
  refine Ref.regionC 1 (by kernel_rfl) ?_
  refine RefR.ev0 (st' := ⟨[(0, .c (E3.tree a0)), (1, .c (E3.tree a1)), (10, .c (.val (.bool (((Int.ofNat a0.length) : Int) != (Int.ofNat a1.length)))))], [], [], 0⟩) 0 5 5 [0, 1, 10] [] rfl (by kernel_rfl) ?_
  refine RefR.letC (stf := fun x1 => ⟨[(0, .c (E3.tree a0)), (1, .c (E3.tree a1)), (10, .c (.val (.bool x1)))], [], [], 0⟩) (by kernel_rfl) (fun x1 => ?_)
  refine RefR.nilC 5 (by kernel_rfl) ?_
  refine Ref.condC (.tmp 10) x1 (by kernel_rfl) rfl (by kernel_rfl) (fun hc => ?_) (fun hc => ?_)
  ·
    refine Ref.seqC (cd (bd Tryd.f30) [1, 0, 1, 0, 0]) (cd (bd Tryd.f30) [1, 0, 1, 0, 1]) (by kernel_rfl) ?_
    refine Ref.regionC 2 (by kernel_rfl) ?_
    refine RefR.ev0 (st' := ⟨[(4, .c (.val (.bool false)))], [], [], 0⟩) 0 1 1 [4] [] rfl (by kernel_rfl) ?_
    refine RefR.nilC 1 (by kernel_rfl) ?_
    exact Ref.retC (t := (false)) (by kernel_rfl) (by kernel_rfl)
  ·
    refine Ref.skipC (by kernel_rfl) ?_
    refine Ref.seqC (cd (bd Tryd.f30) [1, 1, 0]) (cd (bd Tryd.f30) [1, 1, 1]) (by kernel_rfl) ?_
    refine Ref.seqC (cd (bd Tryd.f30) [1, 1, 0, 0]) (cd (bd Tryd.f30) [1, 1, 0, 1]) (by kernel_rfl) ?_
    refine Ref.regionC 3 (by kernel_rfl) ?_
    refine RefR.ev0 (st' := ⟨[(0, .c (E3.tree a0)), (1, .c (E3.tree a1)), (5, .c (.val (.int .i64 0)))], [], [], 0⟩) 0 1 1 [0, 1, 5] [] rfl (by kernel_rfl) ?_
    refine RefR.nilC 1 (by kernel_rfl) ?_
    refine Ref.codeEq (c' := .block 0 (cd (bd Tryd.f30) [1, 1, 0, 1, 0])) (by kernel_rfl) ?_
    refine Ref.block (go1 := fun u16 => ⟨[], [], [], 0⟩) ?_ (fun _ h => by cases h) (fun u16 => ?_)
    ·
      refine Ref.codeEq (c' := .loop (cd (bd Tryd.f30) [1, 1, 0, 1, 0, 0])) (by kernel_rfl) ?_
      refine Ref.loop (hd := fun u21 => ⟨[(0, .c (E3.tree a0)), (1, .c (E3.tree a1)), (5, .c (.val (.int .i64 u21)))], [], [], 0⟩) K (0) (by kernel_rfl) (fun u21 => ?_)
      refine Ref.seqC (cd (bd Tryd.f30) [1, 1, 0, 1, 0, 0, 0]) (cd (bd Tryd.f30) [1, 1, 0, 1, 0, 0, 1]) (by kernel_rfl) ?_
      refine Ref.seqC (cd (bd Tryd.f30) [1, 1, 0, 1, 0, 0, 0, 0]) (cd (bd Tryd.f30) [1, 1, 0, 1, 0, 0, 0, 1]) (by kernel_rfl) ?_
      refine Ref.regionC 4 (by kernel_rfl) ?_
      refine RefR.ev0 (st' := ⟨[(0, .c (E3.tree a0)), (1, .c (E3.tree a1)), (5, .c (.val (.int .i64 u21))), (14, .c (.val (.bool (decide ((u21 : Int) < (Int.ofNat a0.length))))))], [], [], 0⟩) 0 4 4 [0, 1, 5, 14] [] rfl (by kernel_rfl) ?_
      refine RefR.letC (stf := fun x27 => ⟨[(0, .c (E3.tree a0)), (1, .c (E3.tree a1)), (5, .c (.val (.int .i64 u21))), (14, .c (.val (.bool x27)))], [], [], 0⟩) (by kernel_rfl) (fun x27 => ?_)
      refine RefR.nilC 4 (by kernel_rfl) ?_
      refine Ref.condC (.tmp 14) x27 (by kernel_rfl) rfl (by kernel_rfl) (fun hc => ?_) (fun hc => ?_)
      ·
        refine Ref.skipC (by kernel_rfl) ?_
        refine Ref.seqC (cd (bd Tryd.f30) [1, 1, 0, 1, 0, 0, 1, 0]) (cd (bd Tryd.f30) [1, 1, 0, 1, 0, 0, 1, 1]) (by kernel_rfl) ?_
        refine Ref.codeEq (c' := .block 1 (cd (bd Tryd.f30) [1, 1, 0, 1, 0, 0, 1, 0, 0])) (by kernel_rfl) ?_
        refine Ref.block (go1 := fun u29 => ⟨[(0, .c (E3.tree a0)), (1, .c (E3.tree a1)), (5, .c (.val (.int .i64 u21)))], [], [], 0⟩) ?_ (fun a => match a with | .inl _ => (fun h => by cases h) | .inr _ => (fun h => by cases h)) (fun u29 => ?_)
        ·
          refine Ref.seqC (cd (bd Tryd.f30) [1, 1, 0, 1, 0, 0, 1, 0, 0, 0]) (cd (bd Tryd.f30) [1, 1, 0, 1, 0, 0, 1, 0, 0, 1]) (by kernel_rfl) ?_
          refine Ref.drawnY 6 (by kernel_rfl) (by kernel_rfl) ?_
          refine RefY.evC (vs := [inb u21 a0.length, inb u21 a1.length]) (st' := ⟨[(0, .c (E3.tree a0)), (1, .c (E3.tree a1)), (5, .c (.val (.int .i64 u21))), (19, .c (E3.ep (a0.getD (u21 : Int).toNat default) 0)), (23, .c (E3.ep (a1.getD (u21 : Int).toNat default) 0))], [], [], 0⟩) (fuel' := 3) [0, 1, 2, 4, 5, 6] [0, 1, 5, 19, 23] [] rfl (by kernel_rfl) (by kernel_rfl) ?_
          refine RefY.toX [] ?_
          refine RefX.evC0 (st' := ⟨[(0, .c (E3.tree a0)), (1, .c (E3.tree a1)), (5, .c (.val (.int .i64 u21))), (25, .c (.val (.bool (((a0.getD (u21 : Int).toNat default) : Int) != (a1.getD (u21 : Int).toNat default)))))], [], [], 0⟩) (fuel' := 0) [3, 7, 8] [0, 1, 5, 25] [] rfl (by kernel_rfl) (by kernel_rfl) ?_
          refine RefX.letC (stf := fun x30 => ⟨[(0, .c (E3.tree a0)), (1, .c (E3.tree a1)), (5, .c (.val (.int .i64 u21))), (25, .c (.val (.bool x30)))], [], [], 0⟩) (by kernel_rfl) (fun x30 => ?_)
          refine RefX.done (by kernel_rfl) ?_
          refine Ref.condC (.tmp 25) x30 (by kernel_rfl) rfl (by kernel_rfl) (fun hc => ?_) (fun hc => ?_)
          ·
            refine Ref.seqC (cd (bd Tryd.f30) [1, 1, 0, 1, 0, 0, 1, 0, 0, 1, 0, 0]) (cd (bd Tryd.f30) [1, 1, 0, 1, 0, 0, 1, 0, 0, 1, 0, 1]) (by kernel_rfl) ?_
            refine Ref.regionC 7 (by kernel_rfl) ?_
            refine RefR.ev0 (st' := ⟨[(4, .c (.val (.bool false)))], [], [], 0⟩) 0 1 1 [4] [] rfl (by kernel_rfl) ?_
            refine RefR.nilC 1 (by kernel_rfl) ?_
            exact Ref.retC (t := (Sum.inr (Sum.inr (false)))) (by kernel_rfl) (by kernel_rfl)
          ·
            refine Ref.skipC (by kernel_rfl) ?_
            refine Ref.conv (Conv.keep (st' := ⟨[(0, .c (E3.tree a0)), (1, .c (E3.tree a1)), (5, .c (.val (.int .i64 u21)))], [], [], 0⟩) [0, 1, 5] [] (by kernel_rfl)) ?_
            exact Ref.nil (t := ()) (by kernel_rfl)
        ·
          refine Ref.regionC 5 (by kernel_rfl) ?_
          refine RefR.ev0 (st' := ⟨[(0, .c (E3.tree a0)), (1, .c (E3.tree a1)), (5, .c (.val (.int .i64 (IntKind.i64.wrap (u21 + 1)))))], [], [], 0⟩) 0 3 3 [0, 1, 5] [] rfl (by kernel_rfl) ?_
          refine RefR.nilC 3 (by kernel_rfl) ?_
          exact Ref.nil (t := ((IntKind.i64.wrap (u21 + 1)))) (by kernel_rfl)
      ·
        refine Ref.conv (Conv.keep (st' := ⟨[], [], [], 0⟩) [] [] (by kernel_rfl)) ?_
        exact Ref.exitC 0 (t := (Sum.inl ())) (by kernel_rfl) (by kernel_rfl)
    ·
      refine Ref.seqC (cd (bd Tryd.f30) [1, 1, 1, 0]) (cd (bd Tryd.f30) [1, 1, 1, 1]) (by kernel_rfl) ?_
      refine Ref.regionC 8 (by kernel_rfl) ?_
      refine RefR.ev0 (st' := ⟨[(4, .c (.val (.bool true)))], [], [], 0⟩) 0 1 1 [4] [] rfl (by kernel_rfl) ?_
      refine RefR.nilC 1 (by kernel_rfl) ?_
      exact Ref.retC (t := (true)) (by kernel_rfl) (by kernel_rfl)

/-- governor/governorlaw0.SameScans -/
def F15 (K : Nat) (a0 : (List S45)) (a1 : (List S45)) : Option ((Bool) ⊕ (Bool)) :=
  (letV (((Int.ofNat a0.length) : Int) != (Int.ofNat a1.length)) (fun (x1 : Bool) => (if x1 = true then (some (.inl (false))) else (bindS (blockS ((iter K (fun (u29 : Int) => (letV (decide ((u29 : Int) < (Int.ofNat a0.length))) (fun (x37 : Bool) => (if x37 = true then (bindS (blockS (chk [inb u29 a0.length, inb u29 a1.length] (chk [!(!((((a0.getD (u29 : Int).toNat default).fTicks) : Int) != ((a1.getD (u29 : Int).toNat default).fTicks))) || inb u29 a0.length, !(!((((a0.getD (u29 : Int).toNat default).fTicks) : Int) != ((a1.getD (u29 : Int).toNat default).fTicks))) || inb u29 a1.length] (letV ((((a0.getD (u29 : Int).toNat default).fTicks) : Int) != ((a1.getD (u29 : Int).toNat default).fTicks)) (fun (x41 : Bool) => ((condM (!x41) (fnS (F30 K ((a0.getD (u29 : Int).toNat default).fIn) ((a1.getD (u29 : Int).toNat default).fIn))) default).bind (fun r42 => (if (x41 || (!r42)) = true then (some (.inl (Sum.inr (Sum.inr (false))))) else (some (.inr ())))))))))) (fun (u40 : Unit) => (some (.inr ((IntKind.i64.wrap (u29 + 1))))))) else (some (.inl (Sum.inl ()))))))) (0)).map .inl)) (fun (u22 : Unit) => (some (.inl (true))))))))

theorem F15_ok (K : Nat) (a0 : (List S45)) (a1 : (List S45)) : DFun Tryd.prog 15 [.c (E45.tree a0), .c (E45.tree a1)] [] (fnS (F15 K a0 a1)) (fun r => .c (.val (.bool r))) (fun r => []) := by
  refine DFun.intro (fn := Tryd.f15) (c := cd (bd Tryd.f15) []) (rs := fun r => ⟨[(4, .c (.val (.bool r)))], [], [], 0⟩) (by kernel_rfl) (by kernel_rfl) (by kernel_rfl) ?_ (fun r => by kernel_rfl) (fun r => by kernel_rfl) (fun r => by kernel_rfl) (fun r => by kernel_rfl)
  unfold F15
  refine Ref.seqC (cd (bd Tryd.f15) [0]) (cd (bd Tryd.f15) [1]) (by kernel_rfl) ?_
  refine Ref.regionC 0 (by kernel_rfl) ?_
  refine RefR.ev0 (st' := ⟨[(0, .c (E45.tree a0)), (1, .c (E45.tree a1))], [], [], 0⟩) 0 1 1 [0, 1] [] rfl (by kernel_rfl) ?_
  refine RefR.nilC 1 (by kernel_rfl) ?_
  refine Ref.seqC (cd (bd Tryd.f15) [1, 0]) (cd (bd Tryd.f15) [1, 1]) (by kernel_rfl) ?_
  refine Ref.seqC (cd (bd Tryd.f15) [1, 0, 0]) (cd (bd Tryd.f15) [1, 0, 1]) (by kernel_rfl) ?_
  refine Ref.regionC 1 (by kernel_rfl) ?_
  refine RefR.ev0 (st' := ⟨[(0, .c (E45.tree a0)), (1, .c (E45.tree a1)), (10, .c (.val (.bool (((Int.ofNat a0.length) : Int) != (Int.ofNat a1.length)))))], [], [], 0⟩) 0 5 5 [0, 1, 10] [] rfl (by kernel_rfl) ?_
  refine RefR.letC (stf := fun x1 => ⟨[(0, .c (E45.tree a0)), (1, .c (E45.tree a1)), (10, .c (.val (.bool x1)))], [], [], 0⟩) (by kernel_rfl) (fun x1 => ?_)
  refine RefR.nilC 5 (by kernel_rfl) ?_
  refine Ref.condC (.tmp 10) x1 (by kernel_rfl) rfl (by kernel_rfl) (fun hc => ?_) (fun hc => ?_)
  ·
    refine Ref.seqC (cd (bd Tryd.f15) [1, 0, 1, 0, 0]) (cd (bd Tryd.f15) [1, 0, 1, 0, 1]) (by kernel_rfl) ?_
    refine Ref.regionC 2 (by kernel_rfl) ?_
    refine RefR.ev0 (st' := ⟨[(4, .c (.val (.bool false)))], [], [], 0⟩) 0 1 1 [4] [] rfl (by kernel_rfl) ?_
    refine RefR.nilC 1 (by kernel_rfl) ?_
    exact Ref.retC (t := (false)) (by kernel_rfl) (by kernel_rfl)
  ·
    refine Ref.skipC (by kernel_rfl) ?_
    refine Ref.seqC (cd (bd Tryd.f15) [1, 1, 0]) (cd (bd Tryd.f15) [1, 1, 1]) (by kernel_rfl) ?_
    refine Ref.seqC (cd (bd Tryd.f15) [1, 1, 0, 0]) (cd (bd Tryd.f15) [1, 1, 0, 1]) (by kernel_rfl) ?_
    refine Ref.regionC 3 (by kernel_rfl) ?_
    refine RefR.ev0 (st' := ⟨[(0, .c (E45.tree a0)), (1, .c (E45.tree a1)), (5, .c (.val (.int .i64 0)))], [], [], 0⟩) 0 1 1 [0, 1, 5] [] rfl (by kernel_rfl) ?_
    refine RefR.nilC 1 (by kernel_rfl) ?_
    refine Ref.codeEq (c' := .block 0 (cd (bd Tryd.f15) [1, 1, 0, 1, 0])) (by kernel_rfl) ?_
    refine Ref.block (go1 := fun u22 => ⟨[], [], [], 0⟩) ?_ (fun _ h => by cases h) (fun u22 => ?_)
    ·
      refine Ref.codeEq (c' := .loop (cd (bd Tryd.f15) [1, 1, 0, 1, 0, 0])) (by kernel_rfl) ?_
      refine Ref.loop (hd := fun u29 => ⟨[(0, .c (E45.tree a0)), (1, .c (E45.tree a1)), (5, .c (.val (.int .i64 u29)))], [], [], 0⟩) K (0) (by kernel_rfl) (fun u29 => ?_)
      refine Ref.seqC (cd (bd Tryd.f15) [1, 1, 0, 1, 0, 0, 0]) (cd (bd Tryd.f15) [1, 1, 0, 1, 0, 0, 1]) (by kernel_rfl) ?_
      refine Ref.seqC (cd (bd Tryd.f15) [1, 1, 0, 1, 0, 0, 0, 0]) (cd (bd Tryd.f15) [1, 1, 0, 1, 0, 0, 0, 1]) (by kernel_rfl) ?_
      refine Ref.regionC 4 (by kernel_rfl) ?_
      refine RefR.ev0 (st' := ⟨[(0, .c (E45.tree a0)), (1, .c (E45.tree a1)), (5, .c (.val (.int .i64 u29))), (14, .c (.val (.bool (decide ((u29 : Int) < (Int.ofNat a0.length))))))], [], [], 0⟩) 0 4 4 [0, 1, 5, 14] [] rfl (by kernel_rfl) ?_
      refine RefR.letC (stf := fun x37 => ⟨[(0, .c (E45.tree a0)), (1, .c (E45.tree a1)), (5, .c (.val (.int .i64 u29))), (14, .c (.val (.bool x37)))], [], [], 0⟩) (by kernel_rfl) (fun x37 => ?_)
      refine RefR.nilC 4 (by kernel_rfl) ?_
      refine Ref.condC (.tmp 14) x37 (by kernel_rfl) rfl (by kernel_rfl) (fun hc => ?_) (fun hc => ?_)
      ·
        refine Ref.skipC (by kernel_rfl) ?_
        refine Ref.seqC (cd (bd Tryd.f15) [1, 1, 0, 1, 0, 0, 1, 0]) (cd (bd Tryd.f15) [1, 1, 0, 1, 0, 0, 1, 1]) (by kernel_rfl) ?_
        refine Ref.codeEq (c' := .block 1 (cd (bd Tryd.f15) [1, 1, 0, 1, 0, 0, 1, 0, 0])) (by kernel_rfl) ?_
        refine Ref.block (go1 := fun u40 => ⟨[(0, .c (E45.tree a0)), (1, .c (E45.tree a1)), (5, .c (.val (.int .i64 u29)))], [], [], 0⟩) ?_ (fun a => match a with | .inl _ => (fun h => by cases h) | .inr _ => (fun h => by cases h)) (fun u40 => ?_)
        ·
          refine Ref.seqC (cd (bd Tryd.f15) [1, 1, 0, 1, 0, 0, 1, 0, 0, 0]) (cd (bd Tryd.f15) [1, 1, 0, 1, 0, 0, 1, 0, 0, 1]) (by kernel_rfl) ?_
          refine Ref.drawnY 6 (by kernel_rfl) (by kernel_rfl) ?_
          refine RefY.evC (vs := [inb u29 a0.length, inb u29 a1.length]) (st' := ⟨[(0, .c (E45.tree a0)), (1, .c (E45.tree a1)), (5, .c (.val (.int .i64 u29))), (20, .c (E45.ep (a0.getD (u29 : Int).toNat default) 1)), (25, .c (E45.ep (a1.getD (u29 : Int).toNat default) 1))], [], [], 0⟩) (fuel' := 17) [0, 1, 2, 3, 5, 6, 7, 8] [0, 1, 5, 20, 25] [] rfl (by kernel_rfl) (by kernel_rfl) ?_
          refine RefY.toX [] ?_
          refine RefX.evC (vs := [!(!((((a0.getD (u29 : Int).toNat default).fTicks) : Int) != ((a1.getD (u29 : Int).toNat default).fTicks))) || inb u29 a0.length, !(!((((a0.getD (u29 : Int).toNat default).fTicks) : Int) != ((a1.getD (u29 : Int).toNat default).fTicks))) || inb u29 a1.length]) (st' := ⟨[(0, .c (E45.tree a0)), (1, .c (E45.tree a1)), (5, .c (.val (.int .i64 u29))), (28, .c (.val (.bool ((((a0.getD (u29 : Int).toNat default).fTicks) : Int) != ((a1.getD (u29 : Int).toNat default).fTicks))))), (33, .c (E3.tree ((a0.getD (u29 : Int).toNat default).fIn))), (38, .c (E3.tree ((a1.getD (u29 : Int).toNat default).fIn)))], [], [(38, [(28, false)]), (33, [(28, false)])], 0⟩) (fuel' := 3) [4, 9, 10, 11, 12, 13, 14, 15, 16, 17, 18, 19, 20, 21] [0, 1, 5, 28, 33, 38] [] rfl (by kernel_rfl) (by kernel_rfl) ?_
          refine RefX.letC (stf := fun x41 => ⟨[(0, .c (E45.tree a0)), (1, .c (E45.tree a1)), (5, .c (.val (.int .i64 u29))), (28, .c (.val (.bool x41))), (33, .c (E3.tree ((a0.getD (u29 : Int).toNat default).fIn))), (38, .c (E3.tree ((a1.getD (u29 : Int).toNat default).fIn)))], [], [(38, [(28, false)]), (33, [(28, false)])], 0⟩) (by kernel_rfl) (fun x41 => ?_)
          refine RefX.lookC (t := 39) (g := [(28, false)]) (b := (!x41)) (fuel' := 2) 22 [] (default : Bool) rfl (by kernel_rfl) (by kernel_rfl) (F30_ok K ((a0.getD (u29 : Int).toNat default).fIn) ((a1.getD (u29 : Int).toNat default).fIn)) (fun _ => rfl) (fun r42 => ?_)
          refine RefX.evC0 (st' := ⟨[(0, .c (E45.tree a0)), (1, .c (E45.tree a1)), (5, .c (.val (.int .i64 u29))), (41, .c (.val (.bool (x41 || (!r42)))))], [], [], 0⟩) (fuel' := 0) [23, 24] [0, 1, 5, 41] [] rfl (by kernel_rfl) (by kernel_rfl) ?_
          refine RefX.done (by kernel_rfl) ?_
          refine Ref.condC (.tmp 41) (x41 || (!r42)) (by kernel_rfl) rfl (by kernel_rfl) (fun hc => ?_) (fun hc => ?_)
          ·
            refine Ref.seqC (cd (bd Tryd.f15) [1, 1, 0, 1, 0, 0, 1, 0, 0, 1, 0, 0]) (cd (bd Tryd.f15) [1, 1, 0, 1, 0, 0, 1, 0, 0, 1, 0, 1]) (by kernel_rfl) ?_
            refine Ref.regionC 7 (by kernel_rfl) ?_
            refine RefR.ev0 (st' := ⟨[(4, .c (.val (.bool false)))], [], [], 0⟩) 0 1 1 [4] [] rfl (by kernel_rfl) ?_
            refine RefR.nilC 1 (by kernel_rfl) ?_
            exact Ref.retC (t := (Sum.inr (Sum.inr (false)))) (by kernel_rfl) (by kernel_rfl)
          ·
            refine Ref.skipC (by kernel_rfl) ?_
            refine Ref.conv (Conv.keep (st' := ⟨[(0, .c (E45.tree a0)), (1, .c (E45.tree a1)), (5, .c (.val (.int .i64 u29)))], [], [], 0⟩) [0, 1, 5] [] (by kernel_rfl)) ?_
            exact Ref.nil (t := ()) (by kernel_rfl)
        ·
          refine Ref.regionC 5 (by kernel_rfl) ?_
          refine RefR.ev0 (st' := ⟨[(0, .c (E45.tree a0)), (1, .c (E45.tree a1)), (5, .c (.val (.int .i64 (IntKind.i64.wrap (u29 + 1)))))], [], [], 0⟩) 0 3 3 [0, 1, 5] [] rfl (by kernel_rfl) ?_
          refine RefR.nilC 3 (by kernel_rfl) ?_
          exact Ref.nil (t := ((IntKind.i64.wrap (u29 + 1)))) (by kernel_rfl)
      ·
        refine Ref.conv (Conv.keep (st' := ⟨[], [], [], 0⟩) [] [] (by kernel_rfl)) ?_
        exact Ref.exitC 0 (t := (Sum.inl ())) (by kernel_rfl) (by kernel_rfl)
    ·
      refine Ref.seqC (cd (bd Tryd.f15) [1, 1, 1, 0]) (cd (bd Tryd.f15) [1, 1, 1, 1]) (by kernel_rfl) ?_
      refine Ref.regionC 8 (by kernel_rfl) ?_
      refine RefR.ev0 (st' := ⟨[(4, .c (.val (.bool true)))], [], [], 0⟩) 0 1 1 [4] [] rfl (by kernel_rfl) ?_
      refine RefR.nilC 1 (by kernel_rfl) ?_
      exact Ref.retC (t := (true)) (by kernel_rfl) (by kernel_rfl)

/-- governor/governorlaw0.GreatScans -/
def F16 (K : Nat) (a0 : (List S45)) (a1 : Int) : Option ((Bool) ⊕ (Bool)) :=
  (bindS (blockS ((iter K (fun (u22 : Int) => (letV ((decide ((u22 : Int) < (Int.ofNat a0.length))) && (decide (((Int.ofNat a0.length) : Int) ≤ a1))) (fun (x28 : Bool) => (if x28 = true then (bindS (blockS (chk [inb u22 a0.length] (letV (decide (((Int.ofNat ((a0.getD (u22 : Int).toNat default).fIn).length) : Int) > 20)) (fun (x31 : Bool) => (if x31 = true then (some (.inl (Sum.inr (Sum.inr (true))))) else (some (.inr ()))))))) (fun (u30 : Unit) => (some (.inr ((IntKind.i64.wrap (u22 + 1))))))) else (some (.inl (Sum.inl ()))))))) (0)).map .inl)) (fun (u16 : Unit) => (letV (decide (((Int.ofNat a0.length) : Int) > a1)) (fun (x32 : Bool) => (some (.inl (x32)))))))

theorem F16_ok (K : Nat) (a0 : (List S45)) (a1 : Int) : DFun Tryd.prog 16 [.c (E45.tree a0), .c (.val (.int .i64 a1))] [] (fnS (F16 K a0 a1)) (fun r => .c (.val (.bool r))) (fun r => []) := by
  refine DFun.intro (fn := Tryd.f16) (c := cd (bd Tryd.f16) []) (rs := fun r => ⟨[(4, .c (.val (.bool r)))], [], [], 0⟩) (by kernel_rfl) (by kernel_rfl) (by kernel_rfl) ?_ (fun r => by kernel_rfl) (fun r => by kernel_rfl) (fun r => by kernel_rfl) (fun r => by kernel_rfl)
  unfold F16
  refine Ref.seqC (cd (bd Tryd.f16) [0]) (cd (bd Tryd.f16) [1]) (by kernel_rfl) ?_
  refine Ref.regionC 0 (by kernel_rfl) ?_
  refine RefR.ev0 (st' := ⟨[(0, .c (E45.tree a0)), (1, .c (.val (.int .i64 a1)))], [], [], 0⟩) 0 1 1 [0, 1] [] rfl (by kernel_rfl) ?_
  refine RefR.nilC 1 (by kernel_rfl) ?_
  refine Ref.seqC (cd (bd Tryd.f16) [1, 0]) (cd (bd Tryd.f16) [1, 1]) (by kernel_rfl) ?_
  refine Ref.seqC (cd (bd Tryd.f16) [1, 0, 0]) (cd (bd Tryd.f16) [1, 0, 1]) (by kernel_rfl) ?_
  refine Ref.regionC 1 (by kernel_rfl) ?_
  refine RefR.ev0 (st' := ⟨[(0, .c (E45.tree a0)), (1, .c (.val (.int .i64 a1))), (5, .c (.val (.int .i64 0)))], [], [], 0⟩) 0 1 1 [0, 1, 5] [] rfl (by kernel_rfl) ?_
  refine RefR.nilC 1 (by kernel_rfl) ?_
  refine Ref.codeEq (c' := .block 0 (cd (bd Tryd.f16) [1, 0, 1, 0])) (by kernel_rfl) ?_
  refine Ref.block (go1 := fun u16 => ⟨[(0, .c (E45.tree a0)), (1, .c (.val (.int .i64 a1)))], [], [], 0⟩) ?_ (fun _ h => by cases h) (fun u16 => ?_)
  ·
    refine Ref.codeEq (c' := .loop (cd (bd Tryd.f16) [1, 0, 1, 0, 0])) (by kernel_rfl) ?_
    refine Ref.loop (hd := fun u22 => ⟨[(0, .c (E45.tree a0)), (1, .c (.val (.int .i64 a1))), (5, .c (.val (.int .i64 u22)))], [], [], 0⟩) K (0) (by kernel_rfl) (fun u22 => ?_)
    refine Ref.seqC (cd (bd Tryd.f16) [1, 0, 1, 0, 0, 0]) (cd (bd Tryd.f16) [1, 0, 1, 0, 0, 1]) (by kernel_rfl) ?_
    refine Ref.seqC (cd (bd Tryd.f16) [1, 0, 1, 0, 0, 0, 0]) (cd (bd Tryd.f16) [1, 0, 1, 0, 0, 0, 1]) (by kernel_rfl) ?_
    refine Ref.regionC 2 (by kernel_rfl) ?_
    refine RefR.ev0 (st' := ⟨[(0, .c (E45.tree a0)), (1, .c (.val (.int .i64 a1))), (5, .c (.val (.int .i64 u22))), (15, .c (.val (.bool ((decide ((u22 : Int) < (Int.ofNat a0.length))) && (decide (((Int.ofNat a0.length) : Int) ≤ a1))))))], [], [], 0⟩) 0 10 10 [0, 1, 5, 15] [] rfl (by kernel_rfl) ?_
    refine RefR.letC (stf := fun x28 => ⟨[(0, .c (E45.tree a0)), (1, .c (.val (.int .i64 a1))), (5, .c (.val (.int .i64 u22))), (15, .c (.val (.bool x28)))], [], [], 0⟩) (by kernel_rfl) (fun x28 => ?_)
    refine RefR.nilC 10 (by kernel_rfl) ?_
    refine Ref.condC (.tmp 15) x28 (by kernel_rfl) rfl (by kernel_rfl) (fun hc => ?_) (fun hc => ?_)
    ·
      refine Ref.skipC (by kernel_rfl) ?_
      refine Ref.seqC (cd (bd Tryd.f16) [1, 0, 1, 0, 0, 1, 0]) (cd (bd Tryd.f16) [1, 0, 1, 0, 0, 1, 1]) (by kernel_rfl) ?_
      refine Ref.codeEq (c' := .block 1 (cd (bd Tryd.f16) [1, 0, 1, 0, 0, 1, 0, 0])) (by kernel_rfl) ?_
      refine Ref.block (go1 := fun u30 => ⟨[(0, .c (E45.tree a0)), (1, .c (.val (.int .i64 a1))), (5, .c (.val (.int .i64 u22)))], [], [], 0⟩) ?_ (fun a => match a with | .inl _ => (fun h => by cases h) | .inr _ => (fun h => by cases h)) (fun u30 => ?_)
      ·
        refine Ref.seqC (cd (bd Tryd.f16) [1, 0, 1, 0, 0, 1, 0, 0, 0]) (cd (bd Tryd.f16) [1, 0, 1, 0, 0, 1, 0, 0, 1]) (by kernel_rfl) ?_
        refine Ref.regionC 4 (by kernel_rfl) ?_
        refine RefR.evC (vs := [inb u22 a0.length]) (st' := ⟨[(0, .c (E45.tree a0)), (1, .c (.val (.int .i64 a1))), (5, .c (.val (.int .i64 u22))), (24, .c (.val (.bool (decide (((Int.ofNat ((a0.getD (u22 : Int).toNat default).fIn).length) : Int) > 20)))))], [], [], 0⟩) 0 7 7 [0, 1, 5, 24] [] rfl (by kernel_rfl) ?_
        refine RefR.letC (stf := fun x31 => ⟨[(0, .c (E45.tree a0)), (1, .c (.val (.int .i64 a1))), (5, .c (.val (.int .i64 u22))), (24, .c (.val (.bool x31)))], [], [], 0⟩) (by kernel_rfl) (fun x31 => ?_)
        refine RefR.nilC 7 (by kernel_rfl) ?_
        refine Ref.condC (.tmp 24) x31 (by kernel_rfl) rfl (by kernel_rfl) (fun hc => ?_) (fun hc => ?_)
        ·
          refine Ref.seqC (cd (bd Tryd.f16) [1, 0, 1, 0, 0, 1, 0, 0, 1, 0, 0]) (cd (bd Tryd.f16) [1, 0, 1, 0, 0, 1, 0, 0, 1, 0, 1]) (by kernel_rfl) ?_
          refine Ref.regionC 5 (by kernel_rfl) ?_
          refine RefR.ev0 (st' := ⟨[(4, .c (.val (.bool true)))], [], [], 0⟩) 0 1 1 [4] [] rfl (by kernel_rfl) ?_
          refine RefR.nilC 1 (by kernel_rfl) ?_
          exact Ref.retC (t := (Sum.inr (Sum.inr (true)))) (by kernel_rfl) (by kernel_rfl)
        ·
          refine Ref.skipC (by kernel_rfl) ?_
          refine Ref.conv (Conv.keep (st' := ⟨[(0, .c (E45.tree a0)), (1, .c (.val (.int .i64 a1))), (5, .c (.val (.int .i64 u22)))], [], [], 0⟩) [0, 1, 5] [] (by kernel_rfl)) ?_
          exact Ref.nil (t := ()) (by kernel_rfl)
      ·
        refine Ref.regionC 3 (by kernel_rfl) ?_
        refine RefR.ev0 (st' := ⟨[(0, .c (E45.tree a0)), (1, .c (.val (.int .i64 a1))), (5, .c (.val (.int .i64 (IntKind.i64.wrap (u22 + 1)))))], [], [], 0⟩) 0 3 3 [0, 1, 5] [] rfl (by kernel_rfl) ?_
        refine RefR.nilC 3 (by kernel_rfl) ?_
        exact Ref.nil (t := ((IntKind.i64.wrap (u22 + 1)))) (by kernel_rfl)
    ·
      refine Ref.conv (Conv.keep (st' := ⟨[(0, .c (E45.tree a0)), (1, .c (.val (.int .i64 a1)))], [], [], 0⟩) [0, 1] [] (by kernel_rfl)) ?_
      exact Ref.exitC 0 (t := (Sum.inl ())) (by kernel_rfl) (by kernel_rfl)
  ·
    refine Ref.seqC (cd (bd Tryd.f16) [1, 1, 0]) (cd (bd Tryd.f16) [1, 1, 1]) (by kernel_rfl) ?_
    refine Ref.regionC 6 (by kernel_rfl) ?_
    refine RefR.ev0 (st' := ⟨[(4, .c (.val (.bool (decide (((Int.ofNat a0.length) : Int) > a1)))))], [], [], 0⟩) 0 5 5 [4] [] rfl (by kernel_rfl) ?_
    refine RefR.letC (stf := fun x32 => ⟨[(4, .c (.val (.bool x32)))], [], [], 0⟩) (by kernel_rfl) (fun x32 => ?_)
    refine RefR.nilC 5 (by kernel_rfl) ?_
    exact Ref.retC (t := (x32)) (by kernel_rfl) (by kernel_rfl)

end Go.Proofs.YtmllhpnlceaneaaDoor
