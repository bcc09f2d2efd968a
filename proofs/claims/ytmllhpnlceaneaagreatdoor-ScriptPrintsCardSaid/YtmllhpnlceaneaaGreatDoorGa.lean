/- Plain functions, and that the Go functions do what these do: printed by gen2.py. No conditions. -/
import Derived.Test.YtmllhpnlceaneaaGreatDoorCe
import Derived.Test.YtmllhpnlceaneaaGreatDoorDC
import Derived.Test.YtmllhpnlceaneaaGreatDoorProg
set_option linter.unusedVariables false
set_option linter.unusedSimpArgs false
set_option linter.unusedSectionVars false
namespace Go.Proofs.YtmllhpnlceaneaaGreatDoor
open Go Go.Proofs Go.Dl
set_option maxRecDepth 100000

/-- governor/script.Hex -/
def F12 (K : Nat) (a0 : Bytes) : Option ((Bytes) ⊕ (Bytes)) :=
 (if (a0 == ([] : Bytes)) = true then (some (.inl (([45] : Bytes)))) else (bindS (blockS ((iter K (fun (u28 : (List UInt8) × Int) => (letV (decide ((u28.2 : Int) < (Int.ofNat a0.length))) (fun (x36 : Bool) => (if x36 = true then (bindS (blockS (chk [inb u28.2 a0.length, !(16 == 0), inb (IntKind.u8.wrap (((Int.ofNat (a0.getD (u28.2 : Int).toNat 0).toNat) : Int).tdiv 16)) ([48, 49, 50, 51, 52, 53, 54, 55, 56, 57, 97, 98, 99, 100, 101, 102] : Bytes).length, inb u28.2 a0.length, !(16 == 0), inb (((Int.ofNat (a0.getD (u28.2 : Int).toNat 0).toNat) : Int).tmod 16) ([48, 49, 50, 51, 52, 53, 54, 55, 56, 57, 97, 98, 99, 100, 101, 102] : Bytes).length] (letV (([48, 49, 50, 51, 52, 53, 54, 55, 56, 57, 97, 98, 99, 100, 101, 102] : Bytes).getD ((IntKind.u8.wrap (((Int.ofNat (a0.getD (u28.2 : Int).toNat 0).toNat) : Int).tdiv 16)) : Int).toNat 0) (fun (x40 : UInt8) => (letV (([48, 49, 50, 51, 52, 53, 54, 55, 56, 57, 97, 98, 99, 100, 101, 102] : Bytes).getD ((((Int.ofNat (a0.getD (u28.2 : Int).toNat 0).toNat) : Int).tmod 16) : Int).toNat 0) (fun (x41 : UInt8) => (chk [room ((u28.1.length + ([x40, x41].length)) * 1)] (some (.inr ((u28.1 ++ [x40, x41]))))))))))) (fun (u39 : (List UInt8)) => (some (.inr (u39, (IntKind.i64.wrap (u28.2 + 1))))))) else (some (.inl (Sum.inl (u28.1)))))))) ([], 0)).map .inl)) (fun (u21 : (List UInt8)) => (some (.inl (u21))))))

theorem F12_ok (K : Nat) (a0 : Bytes) : DFun Tryz.prog 12 [.c (.str a0)] [] (fnS (F12 K a0)) (fun r => .c (.str r)) (fun r => []) := by
 refine DFun.intro (fn := Tryz.f12) (c := cd (bd Tryz.f12) []) (rs := fun r => ⟨[sS 2 r], [], [], 0⟩) (by kernel_rfl) (by kernel_rfl) (by kernel_rfl) ?_ (fun r => by kernel_rfl) (fun r => by kernel_rfl) (fun r => by kernel_rfl) (fun r => by kernel_rfl)
 unfold F12
 refine Ref.sq ?_
 refine Ref.rn 0 ?_
 refine RefR.e0 (st' := ⟨[sS 0 a0], [], [], 0⟩) 0 1 1 [0] [] ?_
 refine RefR.nl 1 ?_
 refine Ref.sq ?_
 refine Ref.sq ?_
 refine Ref.rn 1 ?_
 refine RefR.e0 (st' := ⟨[sS 0 a0, sB 6 (a0 == ([] : Bytes))], [], [], 0⟩) 0 2 2 [0, 6] [] ?_
 refine RefR.nl 2 ?_
 refine Ref.cn (.tmp 6) (a0 == ([] : Bytes)) (fun hc => ?_) (fun hc => ?_)
 ·
  refine Ref.sq ?_
  refine Ref.rn 2 ?_
  refine RefR.e0 (st' := ⟨[sS 2 ([45] : Bytes)], [], [], 0⟩) 0 1 1 [2] [] ?_
  refine RefR.nl 1 ?_
  exact Ref.rt (t := (([45] : Bytes)))
 ·
  refine Ref.sk ?_
  refine Ref.sq ?_
  refine Ref.rn 3 ?_
  refine RefR.e0 (st' := ⟨[sS 0 a0, (3, .c (.nil))], [], [], 0⟩) 0 1 1 [0, 3] [] ?_
  refine RefR.nl 1 ?_
  refine Ref.sq ?_
  refine Ref.sq ?_
  refine Ref.rn 4 ?_
  refine RefR.e0 (st' := ⟨[sS 0 a0, (3, .c (.nil)), sI 8 (Int.ofNat a0.length), sI 9 0], [], [], 0⟩) 0 3 3 [0, 3, 8, 9] [] ?_
  refine RefR.nl 3 ?_
  refine Ref.codeEq (c' := .block 0 (cd (bd Tryz.f12) [1, 1, 1, 0, 1, 0])) (by kernel_rfl) ?_
  refine Ref.block (go1 := fun u21 => ⟨[(3, .c (.own 0 u21.length))], [E5.row u21], [], 0⟩) ?_ (fun _ h => by cases h) (fun u21 => ?_)
  ·
   refine Ref.codeEq (c' := .loop (cd (bd Tryz.f12) [1, 1, 1, 0, 1, 0, 0])) (by kernel_rfl) ?_
   refine Ref.conv (Conv.adopt 3 E5.ty E5.w (E5.at []) (by kernel_rfl) (by kernel_rfl) (by kernel_rfl)) ?_
   refine Ref.conv (Conv.keep (st' := ⟨[sS 0 a0, (3, .c (.own 0 0)), sI 8 (Int.ofNat a0.length), sI 9 0], [E5.row []], [], 0⟩) [0, 3, 8, 9] [0] (by kernel_rfl)) ?_
   refine Ref.loop (hd := fun u28 => ⟨[sS 0 a0, (3, .c (.own 0 u28.1.length)), sI 8 (Int.ofNat a0.length), sI 9 u28.2], [E5.row u28.1], [], 0⟩) K ([], 0) (by kernel_rfl) (fun u28 => ?_)
   refine Ref.sq ?_
   refine Ref.rn 5 ?_
   refine RefR.e0 (st' := ⟨[sS 0 a0, (3, .c (.own 0 u28.1.length)), sI 8 (Int.ofNat a0.length), sI 9 u28.2, sB 10 (decide ((u28.2 : Int) < (Int.ofNat a0.length)))], [E5.row u28.1], [], 0⟩) 0 1 1 [0, 3, 8, 9, 10] [0] ?_
   refine RefR.letC (stf := fun x36 => ⟨[sS 0 a0, (3, .c (.own 0 u28.1.length)), sI 8 (Int.ofNat a0.length), sI 9 u28.2, sB 10 x36], [E5.row u28.1], [], 0⟩) (by kernel_rfl) (fun x36 => ?_)
   refine RefR.nl 1 ?_
   refine Ref.sq ?_
   refine Ref.cn (.tmp 10) x36 (fun hc => ?_) (fun hc => ?_)
   ·
    refine Ref.sk ?_
    refine Ref.sq ?_
    refine Ref.codeEq (c' := .block 1 (cd (bd Tryz.f12) [1, 1, 1, 0, 1, 0, 0, 1, 1, 0, 0])) (by kernel_rfl) ?_
    refine Ref.block (go1 := fun u39 => ⟨[sS 0 a0, (3, .c (.own 0 u39.length)), sI 8 (Int.ofNat a0.length), sI 9 u28.2], [E5.row u39], [], 0⟩) ?_ (fun a => match a with | .inl _ => (fun h => by cases h) | .inr _ => (fun h => by cases h)) (fun u39 => ?_)
    ·
     refine Ref.sq ?_
     refine Ref.rn 6 ?_
     refine RefR.e0 (st' := ⟨[sS 0 a0, (3, .c (.own 0 u28.1.length)), sI 4 u28.2, sI 8 (Int.ofNat a0.length), sI 9 u28.2], [E5.row u28.1], [], 0⟩) 0 2 2 [0, 3, 4, 8, 9] [0] ?_
     refine RefR.nl 2 ?_
     refine Ref.drawnY 7 (by kernel_rfl) (by kernel_rfl) ?_
     refine RefY.evC (vs := [inb u28.2 a0.length, !(16 == 0), inb (IntKind.u8.wrap (((Int.ofNat (a0.getD (u28.2 : Int).toNat 0).toNat) : Int).tdiv 16)) ([48, 49, 50, 51, 52, 53, 54, 55, 56, 57, 97, 98, 99, 100, 101, 102] : Bytes).length, inb u28.2 a0.length, !(16 == 0), inb (((Int.ofNat (a0.getD (u28.2 : Int).toNat 0).toNat) : Int).tmod 16) ([48, 49, 50, 51, 52, 53, 54, 55, 56, 57, 97, 98, 99, 100, 101, 102] : Bytes).length]) (st' := ⟨[sS 0 a0, sI 8 (Int.ofNat a0.length), sI 9 u28.2, (12, .c (.own 0 u28.1.length)), (17, .c (.val (.int .u8 (Int.ofNat (([48, 49, 50, 51, 52, 53, 54, 55, 56, 57, 97, 98, 99, 100, 101, 102] : Bytes).getD ((IntKind.u8.wrap (((Int.ofNat (a0.getD (u28.2 : Int).toNat 0).toNat) : Int).tdiv 16)) : Int).toNat 0).toNat)))), (22, .c (.val (.int .u8 (Int.ofNat (([48, 49, 50, 51, 52, 53, 54, 55, 56, 57, 97, 98, 99, 100, 101, 102] : Bytes).getD ((((Int.ofNat (a0.getD (u28.2 : Int).toNat 0).toNat) : Int).tmod 16) : Int).toNat 0).toNat))))], [E5.row u28.1], [], 0⟩) (fuel' := 3) [0, 1, 2, 3, 4, 5, 6, 7, 8, 9, 10] [0, 8, 9, 12, 17, 22] [0] rfl (by kernel_rfl) (by kernel_rfl) ?_
     refine RefY.letC (stf := fun x40 => ⟨[sS 0 a0, sI 8 (Int.ofNat a0.length), sI 9 u28.2, (12, .c (.own 0 u28.1.length)), (17, .c (.val (.int .u8 (Int.ofNat x40.toNat)))), (22, .c (.val (.int .u8 (Int.ofNat (([48, 49, 50, 51, 52, 53, 54, 55, 56, 57, 97, 98, 99, 100, 101, 102] : Bytes).getD ((((Int.ofNat (a0.getD (u28.2 : Int).toNat 0).toNat) : Int).tmod 16) : Int).toNat 0).toNat))))], [E5.row u28.1], [], 0⟩) (by kernel_rfl) (fun x40 => ?_)
     refine RefY.letC (stf := fun x41 => ⟨[sS 0 a0, sI 8 (Int.ofNat a0.length), sI 9 u28.2, (12, .c (.own 0 u28.1.length)), (17, .c (.val (.int .u8 (Int.ofNat x40.toNat)))), (22, .c (.val (.int .u8 (Int.ofNat x41.toNat))))], [E5.row u28.1], [], 0⟩) (by kernel_rfl) (fun x41 => ?_)
     refine RefY.tail [11, 12, 13] rfl (by kernel_rfl) ?_
     refine RefR.e0 (st' := ⟨[sS 0 a0, sI 8 (Int.ofNat a0.length), sI 9 u28.2, (12, .c (.own 0 u28.1.length)), (23, .c (.own 1 2))], [E5.row u28.1, .row 5 1 2 (tbl [[.val (.int .u8 (Int.ofNat x40.toNat))], [.val (.int .u8 (Int.ofNat x41.toNat))]])], [], 0⟩) 0 1 1 [0, 8, 9, 12, 23] [0, 1] ?_
     refine RefR.conv (Conv.obj 1 (E5.row [x40, x41]) (El.row_build E5 [x40, x41] rfl (by kernel_rfl)) (by kernel_rfl)) ?_
     refine RefR.conv (Conv.slot 23 (.c (.own 1 ([x40, x41].length))) (DLe.c (CLe.own (by simp <;> omega))) (by kernel_rfl)) ?_
     refine RefR.evC (vs := [room ((u28.1.length + ([x40, x41].length)) * 1)]) (st' := ⟨[sS 0 a0, sI 8 (Int.ofNat a0.length), sI 9 u28.2, (24, .c (.own 0 (u28.1.length + ([x40, x41].length))))], [.row 5 1 (u28.1.length + ([x40, x41].length)) fun i j => bif Nat.blt i u28.1.length then E5.at u28.1 i j else (E5.at [x40, x41]) (i - u28.1.length) j], [], 0⟩) 1 1 2 [0, 8, 9, 24] [2] rfl (by kernel_rfl) ?_
     refine RefR.conv (Conv.obj 0 (E5.row (u28.1 ++ [x40, x41])) (El.row_append E5 u28.1 [x40, x41] rfl rfl) (by kernel_rfl)) ?_
     refine RefR.conv (Conv.slot 24 (.c (.own 0 ((u28.1 ++ [x40, x41]).length))) (DLe.c (CLe.own (by simp <;> omega))) (by kernel_rfl)) ?_
     refine RefR.e0 (st' := ⟨[sS 0 a0, (3, .c (.own 0 ((u28.1 ++ [x40, x41]).length))), sI 8 (Int.ofNat a0.length), sI 9 u28.2], [E5.row (u28.1 ++ [x40, x41])], [], 0⟩) 2 1 3 [0, 3, 8, 9] [0] ?_
     refine RefR.nl 3 ?_
     exact Ref.n0 (t := ((u28.1 ++ [x40, x41])))
    ·
     refine Ref.rn 8 ?_
     refine RefR.e0 (st' := ⟨[sS 0 a0, (3, .c (.own 0 u39.length)), sI 8 (Int.ofNat a0.length), sI 9 (IntKind.i64.wrap (u28.2 + 1))], [E5.row u39], [], 0⟩) 0 2 2 [0, 3, 8, 9] [0] ?_
     refine RefR.nl 2 ?_
     exact Ref.n0 (t := (u39, (IntKind.i64.wrap (u28.2 + 1))))
   ·
    refine Ref.conv (Conv.keep (st' := ⟨[(3, .c (.own 0 u28.1.length))], [E5.row u28.1], [], 0⟩) [3] [0] (by kernel_rfl)) ?_
    exact Ref.xt 0 (t := (Sum.inl (u28.1)))
  ·
   refine Ref.sq ?_
   refine Ref.rn 9 ?_
   refine RefR.e0 (st' := ⟨[(26, .c (.own 0 u21.length))], [E5.row u21], [], 0⟩) 0 1 1 [26] [0] ?_
   refine RefR.bytesStr (t := 27) (d := .c (.own 0 u21.length)) 1 2 u21 (by kernel_rfl) (by kernel_rfl) (isBytes.own 0 5 (by kernel_rfl) (by kernel_rfl)) ?_
   refine RefR.e0 (st' := ⟨[sS 2 u21], [], [], 0⟩) 2 1 3 [2] [] ?_
   refine RefR.nl 3 ?_
   exact Ref.rt (t := (u21))

/-- governor/script.Bytes -/
def F24 (K : Nat) (a0 : Bytes) : Option ((Bytes × Bool) ⊕ (Bytes × Bool)) :=
 (if (a0 == ([45] : Bytes)) = true then (some (.inl (([] : Bytes), true))) else (chk [!(!(a0 == ([] : Bytes))) || !(2 == 0)] (letV ((a0 == ([] : Bytes)) || (((((Int.ofNat a0.length) : Int).tmod 2) : Int) != 0)) (fun (x1 : Bool) => (if x1 = true then (some (.inl (([] : Bytes), false))) else (bindS (blockS ((iter K (fun (u53 : (List UInt8) × Int) => (letV (decide ((u53.2 : Int) < (Int.ofNat a0.length))) (fun (x67 : Bool) => (if x67 = true then (bindS (blockS (chk [inb u53.2 a0.length, inb (IntKind.i64.wrap (u53.2 + 1)) a0.length] (letV (a0.getD ((IntKind.i64.wrap (u53.2 + 1)) : Int).toNat 0) (fun (x74 : UInt8) => ((fnS (F32 K ([48, 49, 50, 51, 52, 53, 54, 55, 56, 57, 97, 98, 99, 100, 101, 102] : Bytes) (a0.getD (u53.2 : Int).toNat 0))).bind (fun r75 => ((fnS (F32 K ([48, 49, 50, 51, 52, 53, 54, 55, 56, 57, 97, 98, 99, 100, 101, 102] : Bytes) x74)).bind (fun r76 => (letV ((decide ((r75 : Int) < 0)) || (decide ((r76 : Int) < 0))) (fun (x77 : Bool) => (if x77 = true then (some (.inl (Sum.inr (Sum.inr (([] : Bytes), false))))) else (letV (b8 (IntKind.u8.wrap (IntKind.i64.wrap ((IntKind.i64.wrap (16 * r75)) + r76)))) (fun (x78 : UInt8) => (chk [room ((u53.1.length + ([x78].length)) * 1)] (some (.inr ((u53.1 ++ [x78])))))))))))))))))) (fun (u73 : (List UInt8)) => (some (.inr (u73, (IntKind.i64.wrap (u53.2 + 2))))))) else (some (.inl (Sum.inl (u53.1)))))))) ([], 0)).map .inl)) (fun (u40 : (List UInt8)) => (some (.inl (u40, true))))))))))

theorem F24_ok (K : Nat) (a0 : Bytes) : DFun Tryz.prog 24 [.c (.str a0)] [] (fnS (F24 K a0)) (fun r => .tup [.c (.str r.1), .c (.val (.bool r.2))]) (fun r => []) := by
 refine DFun.intro (fn := Tryz.f24) (c := cd (bd Tryz.f24) []) (rs := fun r => ⟨[sS 2 r.1, sB 3 r.2], [], [], 0⟩) (by kernel_rfl) (by kernel_rfl) (by kernel_rfl) ?_ (fun r => by kernel_rfl) (fun r => by kernel_rfl) (fun r => by kernel_rfl) (fun r => by kernel_rfl)
 unfold F24
 refine Ref.sq ?_
 refine Ref.rn 0 ?_
 refine RefR.e0 (st' := ⟨[sS 0 a0], [], [], 0⟩) 0 2 2 [0] [] ?_
 refine RefR.nl 2 ?_
 refine Ref.sq ?_
 refine Ref.sq ?_
 refine Ref.rn 1 ?_
 refine RefR.e0 (st' := ⟨[sS 0 a0, sB 9 (a0 == ([45] : Bytes))], [], [], 0⟩) 0 2 2 [0, 9] [] ?_
 refine RefR.nl 2 ?_
 refine Ref.cn (.tmp 9) (a0 == ([45] : Bytes)) (fun hc => ?_) (fun hc => ?_)
 ·
  refine Ref.sq ?_
  refine Ref.rn 2 ?_
  refine RefR.e0 (st' := ⟨[sS 2 ([] : Bytes), sB 3 true], [], [], 0⟩) 0 2 2 [2, 3] [] ?_
  refine RefR.nl 2 ?_
  exact Ref.rt (t := (([] : Bytes), true))
 ·
  refine Ref.sk ?_
  refine Ref.sq ?_
  refine Ref.sq ?_
  refine Ref.rn 3 ?_
  refine RefR.evC (vs := [!(!(a0 == ([] : Bytes))) || !(2 == 0)]) (st' := ⟨[sS 0 a0, sB 17 ((a0 == ([] : Bytes)) || (((((Int.ofNat a0.length) : Int).tmod 2) : Int) != 0))], [], [], 0⟩) 0 8 8 [0, 17] [] rfl (by kernel_rfl) ?_
  refine RefR.letC (stf := fun x1 => ⟨[sS 0 a0, sB 17 x1], [], [], 0⟩) (by kernel_rfl) (fun x1 => ?_)
  refine RefR.nl 8 ?_
  refine Ref.cn (.tmp 17) x1 (fun hc => ?_) (fun hc => ?_)
  ·
   refine Ref.sq ?_
   refine Ref.rn 4 ?_
   refine RefR.e0 (st' := ⟨[sS 2 ([] : Bytes), sB 3 false], [], [], 0⟩) 0 2 2 [2, 3] [] ?_
   refine RefR.nl 2 ?_
   exact Ref.rt (t := (([] : Bytes), false))
  ·
   refine Ref.sk ?_
   refine Ref.sq ?_
   refine Ref.rn 5 ?_
   refine RefR.e0 (st' := ⟨[sS 0 a0, (4, .c (.nil))], [], [], 0⟩) 0 1 1 [0, 4] [] ?_
   refine RefR.nl 1 ?_
   refine Ref.sq ?_
   refine Ref.sq ?_
   refine Ref.rn 6 ?_
   refine RefR.e0 (st' := ⟨[sS 0 a0, (4, .c (.nil)), sI 5 0], [], [], 0⟩) 0 1 1 [0, 4, 5] [] ?_
   refine RefR.nl 1 ?_
   refine Ref.codeEq (c' := .block 0 (cd (bd Tryz.f24) [1, 1, 1, 1, 0, 1, 0])) (by kernel_rfl) ?_
   refine Ref.block (go1 := fun u40 => ⟨[(4, .c (.own 0 u40.length))], [E5.row u40], [], 0⟩) ?_ (fun _ h => by cases h) (fun u40 => ?_)
   ·
    refine Ref.codeEq (c' := .loop (cd (bd Tryz.f24) [1, 1, 1, 1, 0, 1, 0, 0])) (by kernel_rfl) ?_
    refine Ref.conv (Conv.adopt 4 E5.ty E5.w (E5.at []) (by kernel_rfl) (by kernel_rfl) (by kernel_rfl)) ?_
    refine Ref.conv (Conv.keep (st' := ⟨[sS 0 a0, (4, .c (.own 0 0)), sI 5 0], [E5.row []], [], 0⟩) [0, 4, 5] [0] (by kernel_rfl)) ?_
    refine Ref.loop (hd := fun u53 => ⟨[sS 0 a0, (4, .c (.own 0 u53.1.length)), sI 5 u53.2], [E5.row u53.1], [], 0⟩) K ([], 0) (by kernel_rfl) (fun u53 => ?_)
    refine Ref.sq ?_
    refine Ref.sq ?_
    refine Ref.rn 7 ?_
    refine RefR.e0 (st' := ⟨[sS 0 a0, (4, .c (.own 0 u53.1.length)), sI 5 u53.2, sB 21 (decide ((u53.2 : Int) < (Int.ofNat a0.length)))], [E5.row u53.1], [], 0⟩) 0 4 4 [0, 4, 5, 21] [0] ?_
    refine RefR.letC (stf := fun x67 => ⟨[sS 0 a0, (4, .c (.own 0 u53.1.length)), sI 5 u53.2, sB 21 x67], [E5.row u53.1], [], 0⟩) (by kernel_rfl) (fun x67 => ?_)
    refine RefR.nl 4 ?_
    refine Ref.cn (.tmp 21) x67 (fun hc => ?_) (fun hc => ?_)
    ·
     refine Ref.sk ?_
     refine Ref.sq ?_
     refine Ref.codeEq (c' := .block 1 (cd (bd Tryz.f24) [1, 1, 1, 1, 0, 1, 0, 0, 1, 0, 0])) (by kernel_rfl) ?_
     refine Ref.block (go1 := fun u73 => ⟨[sS 0 a0, (4, .c (.own 0 u73.length)), sI 5 u53.2], [E5.row u73], [], 0⟩) ?_ (fun a => match a with | .inl _ => (fun h => by cases h) | .inr _ => (fun h => by cases h)) (fun u73 => ?_)
     ·
      refine Ref.sq ?_
      refine Ref.drawnY 9 (by kernel_rfl) (by kernel_rfl) ?_
      refine RefY.evC (vs := [inb u53.2 a0.length, inb (IntKind.i64.wrap (u53.2 + 1)) a0.length]) (st' := ⟨[sS 0 a0, (4, .c (.own 0 u53.1.length)), sI 5 u53.2, (26, .c (.val (.int .u8 (Int.ofNat (a0.getD (u53.2 : Int).toNat 0).toNat)))), (31, .c (.val (.int .u8 (Int.ofNat (a0.getD ((IntKind.i64.wrap (u53.2 + 1)) : Int).toNat 0).toNat))))], [E5.row u53.1], [], 0⟩) (fuel' := 4) [0, 1, 2, 4, 5, 6, 7] [0, 4, 5, 26, 31] [0] rfl (by kernel_rfl) (by kernel_rfl) ?_
      refine RefY.letC (stf := fun x74 => ⟨[sS 0 a0, (4, .c (.own 0 u53.1.length)), sI 5 u53.2, (26, .c (.val (.int .u8 (Int.ofNat (a0.getD (u53.2 : Int).toNat 0).toNat)))), (31, .c (.val (.int .u8 (Int.ofNat x74.toNat))))], [E5.row u53.1], [], 0⟩) (by kernel_rfl) (fun x74 => ?_)
      refine RefY.tail [3, 8, 9, 10] rfl (by kernel_rfl) ?_
      refine RefR.callC (t := 27) 0 1 [] rfl (by kernel_rfl) (F32_ok K ([48, 49, 50, 51, 52, 53, 54, 55, 56, 57, 97, 98, 99, 100, 101, 102] : Bytes) (a0.getD (u53.2 : Int).toNat 0)) (fun r75 => ?_)
      refine RefR.callC (t := 32) 1 2 [] rfl (by kernel_rfl) (F32_ok K ([48, 49, 50, 51, 52, 53, 54, 55, 56, 57, 97, 98, 99, 100, 101, 102] : Bytes) x74) (fun r76 => ?_)
      refine RefR.e0 (st' := ⟨[sS 0 a0, (4, .c (.own 0 u53.1.length)), sI 5 u53.2, sI 6 r75, sI 7 r76], [E5.row u53.1], [], 0⟩) 2 2 4 [0, 4, 5, 6, 7] [0] ?_
      refine RefR.nl 4 ?_
      refine Ref.sq ?_
      refine Ref.sq ?_
      refine Ref.rn 10 ?_
      refine RefR.e0 (st' := ⟨[sS 0 a0, (4, .c (.own 0 u53.1.length)), sI 5 u53.2, sI 6 r75, sI 7 r76, sB 38 ((decide ((r75 : Int) < 0)) || (decide ((r76 : Int) < 0)))], [E5.row u53.1], [], 0⟩) 0 6 6 [0, 4, 5, 6, 7, 38] [0] ?_
      refine RefR.letC (stf := fun x77 => ⟨[sS 0 a0, (4, .c (.own 0 u53.1.length)), sI 5 u53.2, sI 6 r75, sI 7 r76, sB 38 x77], [E5.row u53.1], [], 0⟩) (by kernel_rfl) (fun x77 => ?_)
      refine RefR.nl 6 ?_
      refine Ref.cn (.tmp 38) x77 (fun hc => ?_) (fun hc => ?_)
      ·
       refine Ref.sq ?_
       refine Ref.rn 11 ?_
       refine RefR.e0 (st' := ⟨[sS 2 ([] : Bytes), sB 3 false], [], [], 0⟩) 0 2 2 [2, 3] [] ?_
       refine RefR.nl 2 ?_
       exact Ref.rt (t := (Sum.inr (Sum.inr (([] : Bytes), false))))
      ·
       refine Ref.sk ?_
       refine Ref.rn 12 ?_
       refine RefR.e0 (st' := ⟨[sS 0 a0, sI 5 u53.2, (39, .c (.own 0 u53.1.length)), (44, .c (.val (.int .u8 (IntKind.u8.wrap (IntKind.i64.wrap ((IntKind.i64.wrap (16 * r75)) + r76))))))], [E5.row u53.1], [], 0⟩) 0 6 6 [0, 5, 39, 44] [0] ?_
       refine RefR.conv (Conv.slot 44 (.c (.val (.int .u8 (Int.ofNat (b8 (IntKind.u8.wrap (IntKind.i64.wrap ((IntKind.i64.wrap (16 * r75)) + r76)))).toNat)))) (DLe.c (CLe.b8 (IsB.wrap _))) (by kernel_rfl)) ?_
       refine RefR.letC (stf := fun x78 => ⟨[(44, .c (.val (.int .u8 (Int.ofNat x78.toNat)))), sS 0 a0, sI 5 u53.2, (39, .c (.own 0 u53.1.length))], [E5.row u53.1], [], 0⟩) (by kernel_rfl) (fun x78 => ?_)
       refine RefR.e0 (st' := ⟨[sS 0 a0, sI 5 u53.2, (39, .c (.own 0 u53.1.length)), (45, .c (.own 1 1))], [E5.row u53.1, .row 5 1 1 (tbl [[.val (.int .u8 (Int.ofNat x78.toNat))]])], [], 0⟩) 6 1 7 [0, 5, 39, 45] [0, 1] ?_
       refine RefR.conv (Conv.obj 1 (E5.row [x78]) (El.row_build E5 [x78] rfl (by kernel_rfl)) (by kernel_rfl)) ?_
       refine RefR.conv (Conv.slot 45 (.c (.own 1 ([x78].length))) (DLe.c (CLe.own (by simp <;> omega))) (by kernel_rfl)) ?_
       refine RefR.evC (vs := [room ((u53.1.length + ([x78].length)) * 1)]) (st' := ⟨[sS 0 a0, sI 5 u53.2, (46, .c (.own 0 (u53.1.length + ([x78].length))))], [.row 5 1 (u53.1.length + ([x78].length)) fun i j => bif Nat.blt i u53.1.length then E5.at u53.1 i j else (E5.at [x78]) (i - u53.1.length) j], [], 0⟩) 7 1 8 [0, 5, 46] [2] rfl (by kernel_rfl) ?_
       refine RefR.conv (Conv.obj 0 (E5.row (u53.1 ++ [x78])) (El.row_append E5 u53.1 [x78] rfl rfl) (by kernel_rfl)) ?_
       refine RefR.conv (Conv.slot 46 (.c (.own 0 ((u53.1 ++ [x78]).length))) (DLe.c (CLe.own (by simp <;> omega))) (by kernel_rfl)) ?_
       refine RefR.e0 (st' := ⟨[sS 0 a0, (4, .c (.own 0 ((u53.1 ++ [x78]).length))), sI 5 u53.2], [E5.row (u53.1 ++ [x78])], [], 0⟩) 8 1 9 [0, 4, 5] [0] ?_
       refine RefR.nl 9 ?_
       exact Ref.n0 (t := ((u53.1 ++ [x78])))
     ·
      refine Ref.rn 8 ?_
      refine RefR.e0 (st' := ⟨[sS 0 a0, (4, .c (.own 0 u73.length)), sI 5 (IntKind.i64.wrap (u53.2 + 2))], [E5.row u73], [], 0⟩) 0 3 3 [0, 4, 5] [0] ?_
      refine RefR.nl 3 ?_
      exact Ref.n0 (t := (u73, (IntKind.i64.wrap (u53.2 + 2))))
    ·
     refine Ref.conv (Conv.keep (st' := ⟨[(4, .c (.own 0 u53.1.length))], [E5.row u53.1], [], 0⟩) [4] [0] (by kernel_rfl)) ?_
     exact Ref.xt 0 (t := (Sum.inl (u53.1)))
   ·
    refine Ref.sq ?_
    refine Ref.rn 13 ?_
    refine RefR.e0 (st' := ⟨[(47, .c (.own 0 u40.length))], [E5.row u40], [], 0⟩) 0 1 1 [47] [0] ?_
    refine RefR.bytesStr (t := 48) (d := .c (.own 0 u40.length)) 1 2 u40 (by kernel_rfl) (by kernel_rfl) (isBytes.own 0 5 (by kernel_rfl) (by kernel_rfl)) ?_
    refine RefR.e0 (st' := ⟨[sS 2 u40, sB 3 true], [], [], 0⟩) 2 2 4 [2, 3] [] ?_
    refine RefR.nl 4 ?_
    exact Ref.rt (t := (u40, true))

/-- governor/governorref25.Hex -/
def F19 (K : Nat) (a0 : Bytes) : Option ((Bytes) ⊕ (Bytes)) :=
 (if (a0 == ([] : Bytes)) = true then (some (.inl (([45] : Bytes)))) else (bindS (blockS ((iter K (fun (u28 : (List UInt8) × Int) => (letV (decide ((u28.2 : Int) < (Int.ofNat a0.length))) (fun (x36 : Bool) => (if x36 = true then (bindS (blockS (chk [inb u28.2 a0.length, !(16 == 0), inb (IntKind.u8.wrap (((Int.ofNat (a0.getD (u28.2 : Int).toNat 0).toNat) : Int).tdiv 16)) ([48, 49, 50, 51, 52, 53, 54, 55, 56, 57, 97, 98, 99, 100, 101, 102] : Bytes).length, inb u28.2 a0.length, !(16 == 0), inb (((Int.ofNat (a0.getD (u28.2 : Int).toNat 0).toNat) : Int).tmod 16) ([48, 49, 50, 51, 52, 53, 54, 55, 56, 57, 97, 98, 99, 100, 101, 102] : Bytes).length] (letV (([48, 49, 50, 51, 52, 53, 54, 55, 56, 57, 97, 98, 99, 100, 101, 102] : Bytes).getD ((IntKind.u8.wrap (((Int.ofNat (a0.getD (u28.2 : Int).toNat 0).toNat) : Int).tdiv 16)) : Int).toNat 0) (fun (x40 : UInt8) => (letV (([48, 49, 50, 51, 52, 53, 54, 55, 56, 57, 97, 98, 99, 100, 101, 102] : Bytes).getD ((((Int.ofNat (a0.getD (u28.2 : Int).toNat 0).toNat) : Int).tmod 16) : Int).toNat 0) (fun (x41 : UInt8) => (chk [room ((u28.1.length + ([x40, x41].length)) * 1)] (some (.inr ((u28.1 ++ [x40, x41]))))))))))) (fun (u39 : (List UInt8)) => (some (.inr (u39, (IntKind.i64.wrap (u28.2 + 1))))))) else (some (.inl (Sum.inl (u28.1)))))))) ([], 0)).map .inl)) (fun (u21 : (List UInt8)) => (some (.inl (u21))))))

theorem F19_ok (K : Nat) (a0 : Bytes) : DFun Tryz.prog 19 [.c (.str a0)] [] (fnS (F19 K a0)) (fun r => .c (.str r)) (fun r => []) := by
 refine DFun.intro (fn := Tryz.f19) (c := cd (bd Tryz.f19) []) (rs := fun r => ⟨[sS 2 r], [], [], 0⟩) (by kernel_rfl) (by kernel_rfl) (by kernel_rfl) ?_ (fun r => by kernel_rfl) (fun r => by kernel_rfl) (fun r => by kernel_rfl) (fun r => by kernel_rfl)
 unfold F19
 refine Ref.sq ?_
 refine Ref.rn 0 ?_
 refine RefR.e0 (st' := ⟨[sS 0 a0], [], [], 0⟩) 0 1 1 [0] [] ?_
 refine RefR.nl 1 ?_
 refine Ref.sq ?_
 refine Ref.sq ?_
 refine Ref.rn 1 ?_
 refine RefR.e0 (st' := ⟨[sS 0 a0, sB 6 (a0 == ([] : Bytes))], [], [], 0⟩) 0 2 2 [0, 6] [] ?_
 refine RefR.nl 2 ?_
 refine Ref.cn (.tmp 6) (a0 == ([] : Bytes)) (fun hc => ?_) (fun hc => ?_)
 ·
  refine Ref.sq ?_
  refine Ref.rn 2 ?_
  refine RefR.e0 (st' := ⟨[sS 2 ([45] : Bytes)], [], [], 0⟩) 0 1 1 [2] [] ?_
  refine RefR.nl 1 ?_
  exact Ref.rt (t := (([45] : Bytes)))
 ·
  refine Ref.sk ?_
  refine Ref.sq ?_
  refine Ref.rn 3 ?_
  refine RefR.e0 (st' := ⟨[sS 0 a0, (3, .c (.nil))], [], [], 0⟩) 0 1 1 [0, 3] [] ?_
  refine RefR.nl 1 ?_
  refine Ref.sq ?_
  refine Ref.sq ?_
  refine Ref.rn 4 ?_
  refine RefR.e0 (st' := ⟨[sS 0 a0, (3, .c (.nil)), sI 4 0], [], [], 0⟩) 0 1 1 [0, 3, 4] [] ?_
  refine RefR.nl 1 ?_
  refine Ref.codeEq (c' := .block 0 (cd (bd Tryz.f19) [1, 1, 1, 0, 1, 0])) (by kernel_rfl) ?_
  refine Ref.block (go1 := fun u21 => ⟨[(3, .c (.own 0 u21.length))], [E5.row u21], [], 0⟩) ?_ (fun _ h => by cases h) (fun u21 => ?_)
  ·
   refine Ref.codeEq (c' := .loop (cd (bd Tryz.f19) [1, 1, 1, 0, 1, 0, 0])) (by kernel_rfl) ?_
   refine Ref.conv (Conv.adopt 3 E5.ty E5.w (E5.at []) (by kernel_rfl) (by kernel_rfl) (by kernel_rfl)) ?_
   refine Ref.conv (Conv.keep (st' := ⟨[sS 0 a0, (3, .c (.own 0 0)), sI 4 0], [E5.row []], [], 0⟩) [0, 3, 4] [0] (by kernel_rfl)) ?_
   refine Ref.loop (hd := fun u28 => ⟨[sS 0 a0, (3, .c (.own 0 u28.1.length)), sI 4 u28.2], [E5.row u28.1], [], 0⟩) K ([], 0) (by kernel_rfl) (fun u28 => ?_)
   refine Ref.sq ?_
   refine Ref.sq ?_
   refine Ref.rn 5 ?_
   refine RefR.e0 (st' := ⟨[sS 0 a0, (3, .c (.own 0 u28.1.length)), sI 4 u28.2, sB 10 (decide ((u28.2 : Int) < (Int.ofNat a0.length)))], [E5.row u28.1], [], 0⟩) 0 4 4 [0, 3, 4, 10] [0] ?_
   refine RefR.letC (stf := fun x36 => ⟨[sS 0 a0, (3, .c (.own 0 u28.1.length)), sI 4 u28.2, sB 10 x36], [E5.row u28.1], [], 0⟩) (by kernel_rfl) (fun x36 => ?_)
   refine RefR.nl 4 ?_
   refine Ref.cn (.tmp 10) x36 (fun hc => ?_) (fun hc => ?_)
   ·
    refine Ref.sk ?_
    refine Ref.sq ?_
    refine Ref.codeEq (c' := .block 1 (cd (bd Tryz.f19) [1, 1, 1, 0, 1, 0, 0, 1, 0, 0])) (by kernel_rfl) ?_
    refine Ref.block (go1 := fun u39 => ⟨[sS 0 a0, (3, .c (.own 0 u39.length)), sI 4 u28.2], [E5.row u39], [], 0⟩) ?_ (fun a => match a with | .inl _ => (fun h => by cases h) | .inr _ => (fun h => by cases h)) (fun u39 => ?_)
    ·
     refine Ref.drawnY 7 (by kernel_rfl) (by kernel_rfl) ?_
     refine RefY.evC (vs := [inb u28.2 a0.length, !(16 == 0), inb (IntKind.u8.wrap (((Int.ofNat (a0.getD (u28.2 : Int).toNat 0).toNat) : Int).tdiv 16)) ([48, 49, 50, 51, 52, 53, 54, 55, 56, 57, 97, 98, 99, 100, 101, 102] : Bytes).length, inb u28.2 a0.length, !(16 == 0), inb (((Int.ofNat (a0.getD (u28.2 : Int).toNat 0).toNat) : Int).tmod 16) ([48, 49, 50, 51, 52, 53, 54, 55, 56, 57, 97, 98, 99, 100, 101, 102] : Bytes).length]) (st' := ⟨[sS 0 a0, sI 4 u28.2, (13, .c (.own 0 u28.1.length)), (18, .c (.val (.int .u8 (Int.ofNat (([48, 49, 50, 51, 52, 53, 54, 55, 56, 57, 97, 98, 99, 100, 101, 102] : Bytes).getD ((IntKind.u8.wrap (((Int.ofNat (a0.getD (u28.2 : Int).toNat 0).toNat) : Int).tdiv 16)) : Int).toNat 0).toNat)))), (23, .c (.val (.int .u8 (Int.ofNat (([48, 49, 50, 51, 52, 53, 54, 55, 56, 57, 97, 98, 99, 100, 101, 102] : Bytes).getD ((((Int.ofNat (a0.getD (u28.2 : Int).toNat 0).toNat) : Int).tmod 16) : Int).toNat 0).toNat))))], [E5.row u28.1], [], 0⟩) (fuel' := 3) [0, 1, 2, 3, 4, 5, 6, 7, 8, 9, 10] [0, 4, 13, 18, 23] [0] rfl (by kernel_rfl) (by kernel_rfl) ?_
     refine RefY.letC (stf := fun x40 => ⟨[sS 0 a0, sI 4 u28.2, (13, .c (.own 0 u28.1.length)), (18, .c (.val (.int .u8 (Int.ofNat x40.toNat)))), (23, .c (.val (.int .u8 (Int.ofNat (([48, 49, 50, 51, 52, 53, 54, 55, 56, 57, 97, 98, 99, 100, 101, 102] : Bytes).getD ((((Int.ofNat (a0.getD (u28.2 : Int).toNat 0).toNat) : Int).tmod 16) : Int).toNat 0).toNat))))], [E5.row u28.1], [], 0⟩) (by kernel_rfl) (fun x40 => ?_)
     refine RefY.letC (stf := fun x41 => ⟨[sS 0 a0, sI 4 u28.2, (13, .c (.own 0 u28.1.length)), (18, .c (.val (.int .u8 (Int.ofNat x40.toNat)))), (23, .c (.val (.int .u8 (Int.ofNat x41.toNat))))], [E5.row u28.1], [], 0⟩) (by kernel_rfl) (fun x41 => ?_)
     refine RefY.tail [11, 12, 13] rfl (by kernel_rfl) ?_
     refine RefR.e0 (st' := ⟨[sS 0 a0, sI 4 u28.2, (13, .c (.own 0 u28.1.length)), (24, .c (.own 1 2))], [E5.row u28.1, .row 5 1 2 (tbl [[.val (.int .u8 (Int.ofNat x40.toNat))], [.val (.int .u8 (Int.ofNat x41.toNat))]])], [], 0⟩) 0 1 1 [0, 4, 13, 24] [0, 1] ?_
     refine RefR.conv (Conv.obj 1 (E5.row [x40, x41]) (El.row_build E5 [x40, x41] rfl (by kernel_rfl)) (by kernel_rfl)) ?_
     refine RefR.conv (Conv.slot 24 (.c (.own 1 ([x40, x41].length))) (DLe.c (CLe.own (by simp <;> omega))) (by kernel_rfl)) ?_
     refine RefR.evC (vs := [room ((u28.1.length + ([x40, x41].length)) * 1)]) (st' := ⟨[sS 0 a0, sI 4 u28.2, (25, .c (.own 0 (u28.1.length + ([x40, x41].length))))], [.row 5 1 (u28.1.length + ([x40, x41].length)) fun i j => bif Nat.blt i u28.1.length then E5.at u28.1 i j else (E5.at [x40, x41]) (i - u28.1.length) j], [], 0⟩) 1 1 2 [0, 4, 25] [2] rfl (by kernel_rfl) ?_
     refine RefR.conv (Conv.obj 0 (E5.row (u28.1 ++ [x40, x41])) (El.row_append E5 u28.1 [x40, x41] rfl rfl) (by kernel_rfl)) ?_
     refine RefR.conv (Conv.slot 25 (.c (.own 0 ((u28.1 ++ [x40, x41]).length))) (DLe.c (CLe.own (by simp <;> omega))) (by kernel_rfl)) ?_
     refine RefR.e0 (st' := ⟨[sS 0 a0, (3, .c (.own 0 ((u28.1 ++ [x40, x41]).length))), sI 4 u28.2], [E5.row (u28.1 ++ [x40, x41])], [], 0⟩) 2 1 3 [0, 3, 4] [0] ?_
     refine RefR.nl 3 ?_
     exact Ref.n0 (t := ((u28.1 ++ [x40, x41])))
    ·
     refine Ref.rn 6 ?_
     refine RefR.e0 (st' := ⟨[sS 0 a0, (3, .c (.own 0 u39.length)), sI 4 (IntKind.i64.wrap (u28.2 + 1))], [E5.row u39], [], 0⟩) 0 3 3 [0, 3, 4] [0] ?_
     refine RefR.nl 3 ?_
     exact Ref.n0 (t := (u39, (IntKind.i64.wrap (u28.2 + 1))))
   ·
    refine Ref.conv (Conv.keep (st' := ⟨[(3, .c (.own 0 u28.1.length))], [E5.row u28.1], [], 0⟩) [3] [0] (by kernel_rfl)) ?_
    exact Ref.xt 0 (t := (Sum.inl (u28.1)))
  ·
   refine Ref.sq ?_
   refine Ref.rn 8 ?_
   refine RefR.e0 (st' := ⟨[(26, .c (.own 0 u21.length))], [E5.row u21], [], 0⟩) 0 1 1 [26] [0] ?_
   refine RefR.bytesStr (t := 27) (d := .c (.own 0 u21.length)) 1 2 u21 (by kernel_rfl) (by kernel_rfl) (isBytes.own 0 5 (by kernel_rfl) (by kernel_rfl)) ?_
   refine RefR.e0 (st' := ⟨[sS 2 u21], [], [], 0⟩) 2 1 3 [2] [] ?_
   refine RefR.nl 3 ?_
   exact Ref.rt (t := (u21))

/-- governor/diag.New -/
def F16 (K : Nat) (a0 : Int) (a1 : Int) : Option ((Err) ⊕ (Err)) :=
 (some (.inl ((some (a0, a1)))))

theorem F16_ok (K : Nat) (a0 : Int) (a1 : Int) : DFun Tryz.prog 16 [.c (.val (.int .i64 a0)), .c (.val (.int .i64 a1))] [] (fnS (F16 K a0 a1)) (fun r => .c (errC r)) (fun r => []) := by
 refine DFun.intro (fn := Tryz.f16) (c := cd (bd Tryz.f16) []) (rs := fun r => ⟨[(4, .c (errC r))], [], [], 0⟩) (by kernel_rfl) (by kernel_rfl) (by kernel_rfl) ?_ (fun r => by kernel_rfl) (fun r => by kernel_rfl) (fun r => by kernel_rfl) (fun r => by kernel_rfl)
 unfold F16
 refine Ref.sq ?_
 refine Ref.rn 0 ?_
 refine RefR.e0 (st' := ⟨[sI 0 a0, sI 1 a1], [], [], 0⟩) 0 1 1 [0, 1] [] ?_
 refine RefR.nl 1 ?_
 refine Ref.sq ?_
 refine Ref.rn 1 ?_
 refine RefR.e0 (st' := ⟨[(4, .c (.iface true 66 (.ptr 0 0 0)))], [.cells [.val (.int .i64 a0), .val (.int .i64 a1), .val .nilIface]], [], 0⟩) 0 6 6 [4] [0] ?_
 refine RefR.nl 6 ?_
 refine Ref.conv (Conv.freeze (st' := ⟨[(4, .c (errC (some (a0, a1))))], [.dead], [], 0⟩) 0 (by kernel_rfl)) ?_
 refine Ref.conv (Conv.keep (st' := ⟨[(4, .c (errC (some (a0, a1))))], [], [], 0⟩) [4] [] (by kernel_rfl)) ?_
 exact Ref.rt (t := ((some (a0, a1))))

/-- governor/governorlaw0.SameInts -/
def F27 (K : Nat) (a0 : (List Int)) (a1 : (List Int)) : Option ((Bool) ⊕ (Bool)) :=
 (letV (((Int.ofNat a0.length) : Int) != (Int.ofNat a1.length)) (fun (x1 : Bool) => (if x1 = true then (some (.inl (false))) else (bindS (blockS ((iter K (fun (u21 : Int) => (letV (decide ((u21 : Int) < (Int.ofNat a0.length))) (fun (x27 : Bool) => (if x27 = true then (bindS (blockS (chk [inb u21 a0.length, inb u21 a1.length] (letV (((a0.getD (u21 : Int).toNat default) : Int) != (a1.getD (u21 : Int).toNat default)) (fun (x30 : Bool) => (if x30 = true then (some (.inl (Sum.inr (Sum.inr (false))))) else (some (.inr ()))))))) (fun (u29 : Unit) => (some (.inr ((IntKind.i64.wrap (u21 + 1))))))) else (some (.inl (Sum.inl ()))))))) (0)).map .inl)) (fun (u16 : Unit) => (some (.inl (true))))))))

theorem F27_ok (K : Nat) (a0 : (List Int)) (a1 : (List Int)) : DFun Tryz.prog 27 [.c (E3.tree a0), .c (E3.tree a1)] [] (fnS (F27 K a0 a1)) (fun r => .c (.val (.bool r))) (fun r => []) := by
 refine DFun.intro (fn := Tryz.f27) (c := cd (bd Tryz.f27) []) (rs := fun r => ⟨[sB 4 r], [], [], 0⟩) (by kernel_rfl) (by kernel_rfl) (by kernel_rfl) ?_ (fun r => by kernel_rfl) (fun r => by kernel_rfl) (fun r => by kernel_rfl) (fun r => by kernel_rfl)
 unfold F27
 refine Ref.sq ?_
 refine Ref.rn 0 ?_
 refine RefR.e0 (st' := ⟨[(0, .c (E3.tree a0)), (1, .c (E3.tree a1))], [], [], 0⟩) 0 1 1 [0, 1] [] ?_
 refine RefR.nl 1 ?_
 refine Ref.sq ?_
 refine Ref.sq ?_
 refine Ref.rn 1 ?_
 refine RefR.e0 (st' := ⟨[(0, .c (E3.tree a0)), (1, .c (E3.tree a1)), sB 10 (((Int.ofNat a0.length) : Int) != (Int.ofNat a1.length))], [], [], 0⟩) 0 5 5 [0, 1, 10] [] ?_
 refine RefR.letC (stf := fun x1 => ⟨[(0, .c (E3.tree a0)), (1, .c (E3.tree a1)), sB 10 x1], [], [], 0⟩) (by kernel_rfl) (fun x1 => ?_)
 refine RefR.nl 5 ?_
 refine Ref.cn (.tmp 10) x1 (fun hc => ?_) (fun hc => ?_)
 ·
  refine Ref.sq ?_
  refine Ref.rn 2 ?_
  refine RefR.e0 (st' := ⟨[sB 4 false], [], [], 0⟩) 0 1 1 [4] [] ?_
  refine RefR.nl 1 ?_
  exact Ref.rt (t := (false))
 ·
  refine Ref.sk ?_
  refine Ref.sq ?_
  refine Ref.sq ?_
  refine Ref.rn 3 ?_
  refine RefR.e0 (st' := ⟨[(0, .c (E3.tree a0)), (1, .c (E3.tree a1)), sI 5 0], [], [], 0⟩) 0 1 1 [0, 1, 5] [] ?_
  refine RefR.nl 1 ?_
  refine Ref.codeEq (c' := .block 0 (cd (bd Tryz.f27) [1, 1, 0, 1, 0])) (by kernel_rfl) ?_
  refine Ref.block (go1 := fun u16 => ⟨[], [], [], 0⟩) ?_ (fun _ h => by cases h) (fun u16 => ?_)
  ·
   refine Ref.codeEq (c' := .loop (cd (bd Tryz.f27) [1, 1, 0, 1, 0, 0])) (by kernel_rfl) ?_
   refine Ref.loop (hd := fun u21 => ⟨[(0, .c (E3.tree a0)), (1, .c (E3.tree a1)), sI 5 u21], [], [], 0⟩) K (0) (by kernel_rfl) (fun u21 => ?_)
   refine Ref.sq ?_
   refine Ref.sq ?_
   refine Ref.rn 4 ?_
   refine RefR.e0 (st' := ⟨[(0, .c (E3.tree a0)), (1, .c (E3.tree a1)), sI 5 u21, sB 14 (decide ((u21 : Int) < (Int.ofNat a0.length)))], [], [], 0⟩) 0 4 4 [0, 1, 5, 14] [] ?_
   refine RefR.letC (stf := fun x27 => ⟨[(0, .c (E3.tree a0)), (1, .c (E3.tree a1)), sI 5 u21, sB 14 x27], [], [], 0⟩) (by kernel_rfl) (fun x27 => ?_)
   refine RefR.nl 4 ?_
   refine Ref.cn (.tmp 14) x27 (fun hc => ?_) (fun hc => ?_)
   ·
    refine Ref.sk ?_
    refine Ref.sq ?_
    refine Ref.codeEq (c' := .block 1 (cd (bd Tryz.f27) [1, 1, 0, 1, 0, 0, 1, 0, 0])) (by kernel_rfl) ?_
    refine Ref.block (go1 := fun u29 => ⟨[(0, .c (E3.tree a0)), (1, .c (E3.tree a1)), sI 5 u21], [], [], 0⟩) ?_ (fun a => match a with | .inl _ => (fun h => by cases h) | .inr _ => (fun h => by cases h)) (fun u29 => ?_)
    ·
     refine Ref.sq ?_
     refine Ref.drawnY 6 (by kernel_rfl) (by kernel_rfl) ?_
     refine RefY.evC (vs := [inb u21 a0.length, inb u21 a1.length]) (st' := ⟨[(0, .c (E3.tree a0)), (1, .c (E3.tree a1)), sI 5 u21, (19, .c (E3.ep (a0.getD (u21 : Int).toNat default) 0)), (23, .c (E3.ep (a1.getD (u21 : Int).toNat default) 0))], [], [], 0⟩) (fuel' := 3) [0, 1, 2, 4, 5, 6] [0, 1, 5, 19, 23] [] rfl (by kernel_rfl) (by kernel_rfl) ?_
     refine RefY.toX [] ?_
     refine RefX.evC0 (st' := ⟨[(0, .c (E3.tree a0)), (1, .c (E3.tree a1)), sI 5 u21, sB 25 (((a0.getD (u21 : Int).toNat default) : Int) != (a1.getD (u21 : Int).toNat default))], [], [], 0⟩) (fuel' := 0) [3, 7, 8] [0, 1, 5, 25] [] rfl (by kernel_rfl) (by kernel_rfl) ?_
     refine RefX.letC (stf := fun x30 => ⟨[(0, .c (E3.tree a0)), (1, .c (E3.tree a1)), sI 5 u21, sB 25 x30], [], [], 0⟩) (by kernel_rfl) (fun x30 => ?_)
     refine RefX.done (by kernel_rfl) ?_
     refine Ref.cn (.tmp 25) x30 (fun hc => ?_) (fun hc => ?_)
     ·
      refine Ref.sq ?_
      refine Ref.rn 7 ?_
      refine RefR.e0 (st' := ⟨[sB 4 false], [], [], 0⟩) 0 1 1 [4] [] ?_
      refine RefR.nl 1 ?_
      exact Ref.rt (t := (Sum.inr (Sum.inr (false))))
     ·
      refine Ref.sk ?_
      refine Ref.conv (Conv.keep (st' := ⟨[(0, .c (E3.tree a0)), (1, .c (E3.tree a1)), sI 5 u21], [], [], 0⟩) [0, 1, 5] [] (by kernel_rfl)) ?_
      exact Ref.n0 (t := ())
    ·
     refine Ref.rn 5 ?_
     refine RefR.e0 (st' := ⟨[(0, .c (E3.tree a0)), (1, .c (E3.tree a1)), sI 5 (IntKind.i64.wrap (u21 + 1))], [], [], 0⟩) 0 3 3 [0, 1, 5] [] ?_
     refine RefR.nl 3 ?_
     exact Ref.n0 (t := ((IntKind.i64.wrap (u21 + 1))))
   ·
    refine Ref.conv (Conv.keep (st' := ⟨[], [], [], 0⟩) [] [] (by kernel_rfl)) ?_
    exact Ref.xt 0 (t := (Sum.inl ()))
  ·
   refine Ref.sq ?_
   refine Ref.rn 8 ?_
   refine RefR.e0 (st' := ⟨[sB 4 true], [], [], 0⟩) 0 1 1 [4] [] ?_
   refine RefR.nl 1 ?_
   exact Ref.rt (t := (true))

/-- governor/governorlaw0.SameScans -/
def F11 (K : Nat) (a0 : (List S35)) (a1 : (List S35)) : Option ((Bool) ⊕ (Bool)) :=
 (letV (((Int.ofNat a0.length) : Int) != (Int.ofNat a1.length)) (fun (x1 : Bool) => (if x1 = true then (some (.inl (false))) else (bindS (blockS ((iter K (fun (u29 : Int) => (letV (decide ((u29 : Int) < (Int.ofNat a0.length))) (fun (x37 : Bool) => (if x37 = true then (bindS (blockS (chk [inb u29 a0.length, inb u29 a1.length] (chk [!(!((((a0.getD (u29 : Int).toNat default).fTicks) : Int) != ((a1.getD (u29 : Int).toNat default).fTicks))) || inb u29 a0.length, !(!((((a0.getD (u29 : Int).toNat default).fTicks) : Int) != ((a1.getD (u29 : Int).toNat default).fTicks))) || inb u29 a1.length] (letV ((((a0.getD (u29 : Int).toNat default).fTicks) : Int) != ((a1.getD (u29 : Int).toNat default).fTicks)) (fun (x41 : Bool) => ((condM (!x41) (fnS (F27 K ((a0.getD (u29 : Int).toNat default).fIn) ((a1.getD (u29 : Int).toNat default).fIn))) default).bind (fun r42 => (if (x41 || (!r42)) = true then (some (.inl (Sum.inr (Sum.inr (false))))) else (some (.inr ())))))))))) (fun (u40 : Unit) => (some (.inr ((IntKind.i64.wrap (u29 + 1))))))) else (some (.inl (Sum.inl ()))))))) (0)).map .inl)) (fun (u22 : Unit) => (some (.inl (true))))))))

theorem F11_ok (K : Nat) (a0 : (List S35)) (a1 : (List S35)) : DFun Tryz.prog 11 [.c (E35.tree a0), .c (E35.tree a1)] [] (fnS (F11 K a0 a1)) (fun r => .c (.val (.bool r))) (fun r => []) := by
 refine DFun.intro (fn := Tryz.f11) (c := cd (bd Tryz.f11) []) (rs := fun r => ⟨[sB 4 r], [], [], 0⟩) (by kernel_rfl) (by kernel_rfl) (by kernel_rfl) ?_ (fun r => by kernel_rfl) (fun r => by kernel_rfl) (fun r => by kernel_rfl) (fun r => by kernel_rfl)
 unfold F11
 refine Ref.sq ?_
 refine Ref.rn 0 ?_
 refine RefR.e0 (st' := ⟨[(0, .c (E35.tree a0)), (1, .c (E35.tree a1))], [], [], 0⟩) 0 1 1 [0, 1] [] ?_
 refine RefR.nl 1 ?_
 refine Ref.sq ?_
 refine Ref.sq ?_
 refine Ref.rn 1 ?_
 refine RefR.e0 (st' := ⟨[(0, .c (E35.tree a0)), (1, .c (E35.tree a1)), sB 10 (((Int.ofNat a0.length) : Int) != (Int.ofNat a1.length))], [], [], 0⟩) 0 5 5 [0, 1, 10] [] ?_
 refine RefR.letC (stf := fun x1 => ⟨[(0, .c (E35.tree a0)), (1, .c (E35.tree a1)), sB 10 x1], [], [], 0⟩) (by kernel_rfl) (fun x1 => ?_)
 refine RefR.nl 5 ?_
 refine Ref.cn (.tmp 10) x1 (fun hc => ?_) (fun hc => ?_)
 ·
  refine Ref.sq ?_
  refine Ref.rn 2 ?_
  refine RefR.e0 (st' := ⟨[sB 4 false], [], [], 0⟩) 0 1 1 [4] [] ?_
  refine RefR.nl 1 ?_
  exact Ref.rt (t := (false))
 ·
  refine Ref.sk ?_
  refine Ref.sq ?_
  refine Ref.sq ?_
  refine Ref.rn 3 ?_
  refine RefR.e0 (st' := ⟨[(0, .c (E35.tree a0)), (1, .c (E35.tree a1)), sI 5 0], [], [], 0⟩) 0 1 1 [0, 1, 5] [] ?_
  refine RefR.nl 1 ?_
  refine Ref.codeEq (c' := .block 0 (cd (bd Tryz.f11) [1, 1, 0, 1, 0])) (by kernel_rfl) ?_
  refine Ref.block (go1 := fun u22 => ⟨[], [], [], 0⟩) ?_ (fun _ h => by cases h) (fun u22 => ?_)
  ·
   refine Ref.codeEq (c' := .loop (cd (bd Tryz.f11) [1, 1, 0, 1, 0, 0])) (by kernel_rfl) ?_
   refine Ref.loop (hd := fun u29 => ⟨[(0, .c (E35.tree a0)), (1, .c (E35.tree a1)), sI 5 u29], [], [], 0⟩) K (0) (by kernel_rfl) (fun u29 => ?_)
   refine Ref.sq ?_
   refine Ref.sq ?_
   refine Ref.rn 4 ?_
   refine RefR.e0 (st' := ⟨[(0, .c (E35.tree a0)), (1, .c (E35.tree a1)), sI 5 u29, sB 14 (decide ((u29 : Int) < (Int.ofNat a0.length)))], [], [], 0⟩) 0 4 4 [0, 1, 5, 14] [] ?_
   refine RefR.letC (stf := fun x37 => ⟨[(0, .c (E35.tree a0)), (1, .c (E35.tree a1)), sI 5 u29, sB 14 x37], [], [], 0⟩) (by kernel_rfl) (fun x37 => ?_)
   refine RefR.nl 4 ?_
   refine Ref.cn (.tmp 14) x37 (fun hc => ?_) (fun hc => ?_)
   ·
    refine Ref.sk ?_
    refine Ref.sq ?_
    refine Ref.codeEq (c' := .block 1 (cd (bd Tryz.f11) [1, 1, 0, 1, 0, 0, 1, 0, 0])) (by kernel_rfl) ?_
    refine Ref.block (go1 := fun u40 => ⟨[(0, .c (E35.tree a0)), (1, .c (E35.tree a1)), sI 5 u29], [], [], 0⟩) ?_ (fun a => match a with | .inl _ => (fun h => by cases h) | .inr _ => (fun h => by cases h)) (fun u40 => ?_)
    ·
     refine Ref.sq ?_
     refine Ref.drawnY 6 (by kernel_rfl) (by kernel_rfl) ?_
     refine RefY.evC (vs := [inb u29 a0.length, inb u29 a1.length]) (st' := ⟨[(0, .c (E35.tree a0)), (1, .c (E35.tree a1)), sI 5 u29, (20, .c (E35.ep (a0.getD (u29 : Int).toNat default) 1)), (25, .c (E35.ep (a1.getD (u29 : Int).toNat default) 1))], [], [], 0⟩) (fuel' := 17) [0, 1, 2, 3, 5, 6, 7, 8] [0, 1, 5, 20, 25] [] rfl (by kernel_rfl) (by kernel_rfl) ?_
     refine RefY.toX [] ?_
     refine RefX.evC (vs := [!(!((((a0.getD (u29 : Int).toNat default).fTicks) : Int) != ((a1.getD (u29 : Int).toNat default).fTicks))) || inb u29 a0.length, !(!((((a0.getD (u29 : Int).toNat default).fTicks) : Int) != ((a1.getD (u29 : Int).toNat default).fTicks))) || inb u29 a1.length]) (st' := ⟨[(0, .c (E35.tree a0)), (1, .c (E35.tree a1)), sI 5 u29, sB 28 ((((a0.getD (u29 : Int).toNat default).fTicks) : Int) != ((a1.getD (u29 : Int).toNat default).fTicks)), (33, .c (E3.tree ((a0.getD (u29 : Int).toNat default).fIn))), (38, .c (E3.tree ((a1.getD (u29 : Int).toNat default).fIn)))], [], [(38, [(28, false)]), (33, [(28, false)])], 0⟩) (fuel' := 3) [4, 9, 10, 11, 12, 13, 14, 15, 16, 17, 18, 19, 20, 21] [0, 1, 5, 28, 33, 38] [] rfl (by kernel_rfl) (by kernel_rfl) ?_
     refine RefX.letC (stf := fun x41 => ⟨[(0, .c (E35.tree a0)), (1, .c (E35.tree a1)), sI 5 u29, sB 28 x41, (33, .c (E3.tree ((a0.getD (u29 : Int).toNat default).fIn))), (38, .c (E3.tree ((a1.getD (u29 : Int).toNat default).fIn)))], [], [(38, [(28, false)]), (33, [(28, false)])], 0⟩) (by kernel_rfl) (fun x41 => ?_)
     refine RefX.lookC (t := 39) (g := [(28, false)]) (b := (!x41)) (fuel' := 2) 22 [] (default : Bool) rfl (by kernel_rfl) (by kernel_rfl) (F27_ok K ((a0.getD (u29 : Int).toNat default).fIn) ((a1.getD (u29 : Int).toNat default).fIn)) (fun _ => rfl) (fun r42 => ?_)
     refine RefX.evC0 (st' := ⟨[(0, .c (E35.tree a0)), (1, .c (E35.tree a1)), sI 5 u29, sB 41 (x41 || (!r42))], [], [], 0⟩) (fuel' := 0) [23, 24] [0, 1, 5, 41] [] rfl (by kernel_rfl) (by kernel_rfl) ?_
     refine RefX.done (by kernel_rfl) ?_
     refine Ref.cn (.tmp 41) (x41 || (!r42)) (fun hc => ?_) (fun hc => ?_)
     ·
      refine Ref.sq ?_
      refine Ref.rn 7 ?_
      refine RefR.e0 (st' := ⟨[sB 4 false], [], [], 0⟩) 0 1 1 [4] [] ?_
      refine RefR.nl 1 ?_
      exact Ref.rt (t := (Sum.inr (Sum.inr (false))))
     ·
      refine Ref.sk ?_
      refine Ref.conv (Conv.keep (st' := ⟨[(0, .c (E35.tree a0)), (1, .c (E35.tree a1)), sI 5 u29], [], [], 0⟩) [0, 1, 5] [] (by kernel_rfl)) ?_
      exact Ref.n0 (t := ())
    ·
     refine Ref.rn 5 ?_
     refine RefR.e0 (st' := ⟨[(0, .c (E35.tree a0)), (1, .c (E35.tree a1)), sI 5 (IntKind.i64.wrap (u29 + 1))], [], [], 0⟩) 0 3 3 [0, 1, 5] [] ?_
     refine RefR.nl 3 ?_
     exact Ref.n0 (t := ((IntKind.i64.wrap (u29 + 1))))
   ·
    refine Ref.conv (Conv.keep (st' := ⟨[], [], [], 0⟩) [] [] (by kernel_rfl)) ?_
    exact Ref.xt 0 (t := (Sum.inl ()))
  ·
   refine Ref.sq ?_
   refine Ref.rn 8 ?_
   refine RefR.e0 (st' := ⟨[sB 4 true], [], [], 0⟩) 0 1 1 [4] [] ?_
   refine RefR.nl 1 ?_
   exact Ref.rt (t := (true))

/-- governor/governorlaw0.GreatScans -/
def F4 (K : Nat) (a0 : (List S35)) (a1 : Int) : Option ((Bool) ⊕ (Bool)) :=
 (bindS (blockS ((iter K (fun (u22 : Int) => (letV ((decide ((u22 : Int) < (Int.ofNat a0.length))) && (decide (((Int.ofNat a0.length) : Int) ≤ a1))) (fun (x28 : Bool) => (if x28 = true then (bindS (blockS (chk [inb u22 a0.length] (letV (decide (((Int.ofNat ((a0.getD (u22 : Int).toNat default).fIn).length) : Int) > 20)) (fun (x31 : Bool) => (if x31 = true then (some (.inl (Sum.inr (Sum.inr (true))))) else (some (.inr ()))))))) (fun (u30 : Unit) => (some (.inr ((IntKind.i64.wrap (u22 + 1))))))) else (some (.inl (Sum.inl ()))))))) (0)).map .inl)) (fun (u16 : Unit) => (letV (decide (((Int.ofNat a0.length) : Int) > a1)) (fun (x32 : Bool) => (some (.inl (x32)))))))

theorem F4_ok (K : Nat) (a0 : (List S35)) (a1 : Int) : DFun Tryz.prog 4 [.c (E35.tree a0), .c (.val (.int .i64 a1))] [] (fnS (F4 K a0 a1)) (fun r => .c (.val (.bool r))) (fun r => []) := by
 refine DFun.intro (fn := Tryz.f4) (c := cd (bd Tryz.f4) []) (rs := fun r => ⟨[sB 4 r], [], [], 0⟩) (by kernel_rfl) (by kernel_rfl) (by kernel_rfl) ?_ (fun r => by kernel_rfl) (fun r => by kernel_rfl) (fun r => by kernel_rfl) (fun r => by kernel_rfl)
 unfold F4
 refine Ref.sq ?_
 refine Ref.rn 0 ?_
 refine RefR.e0 (st' := ⟨[(0, .c (E35.tree a0)), sI 1 a1], [], [], 0⟩) 0 1 1 [0, 1] [] ?_
 refine RefR.nl 1 ?_
 refine Ref.sq ?_
 refine Ref.sq ?_
 refine Ref.rn 1 ?_
 refine RefR.e0 (st' := ⟨[(0, .c (E35.tree a0)), sI 1 a1, sI 5 0], [], [], 0⟩) 0 1 1 [0, 1, 5] [] ?_
 refine RefR.nl 1 ?_
 refine Ref.codeEq (c' := .block 0 (cd (bd Tryz.f4) [1, 0, 1, 0])) (by kernel_rfl) ?_
 refine Ref.block (go1 := fun u16 => ⟨[(0, .c (E35.tree a0)), sI 1 a1], [], [], 0⟩) ?_ (fun _ h => by cases h) (fun u16 => ?_)
 ·
  refine Ref.codeEq (c' := .loop (cd (bd Tryz.f4) [1, 0, 1, 0, 0])) (by kernel_rfl) ?_
  refine Ref.loop (hd := fun u22 => ⟨[(0, .c (E35.tree a0)), sI 1 a1, sI 5 u22], [], [], 0⟩) K (0) (by kernel_rfl) (fun u22 => ?_)
  refine Ref.sq ?_
  refine Ref.sq ?_
  refine Ref.rn 2 ?_
  refine RefR.e0 (st' := ⟨[(0, .c (E35.tree a0)), sI 1 a1, sI 5 u22, sB 15 ((decide ((u22 : Int) < (Int.ofNat a0.length))) && (decide (((Int.ofNat a0.length) : Int) ≤ a1)))], [], [], 0⟩) 0 10 10 [0, 1, 5, 15] [] ?_
  refine RefR.letC (stf := fun x28 => ⟨[(0, .c (E35.tree a0)), sI 1 a1, sI 5 u22, sB 15 x28], [], [], 0⟩) (by kernel_rfl) (fun x28 => ?_)
  refine RefR.nl 10 ?_
  refine Ref.cn (.tmp 15) x28 (fun hc => ?_) (fun hc => ?_)
  ·
   refine Ref.sk ?_
   refine Ref.sq ?_
   refine Ref.codeEq (c' := .block 1 (cd (bd Tryz.f4) [1, 0, 1, 0, 0, 1, 0, 0])) (by kernel_rfl) ?_
   refine Ref.block (go1 := fun u30 => ⟨[(0, .c (E35.tree a0)), sI 1 a1, sI 5 u22], [], [], 0⟩) ?_ (fun a => match a with | .inl _ => (fun h => by cases h) | .inr _ => (fun h => by cases h)) (fun u30 => ?_)
   ·
    refine Ref.sq ?_
    refine Ref.rn 4 ?_
    refine RefR.evC (vs := [inb u22 a0.length]) (st' := ⟨[(0, .c (E35.tree a0)), sI 1 a1, sI 5 u22, sB 24 (decide (((Int.ofNat ((a0.getD (u22 : Int).toNat default).fIn).length) : Int) > 20))], [], [], 0⟩) 0 7 7 [0, 1, 5, 24] [] rfl (by kernel_rfl) ?_
    refine RefR.letC (stf := fun x31 => ⟨[(0, .c (E35.tree a0)), sI 1 a1, sI 5 u22, sB 24 x31], [], [], 0⟩) (by kernel_rfl) (fun x31 => ?_)
    refine RefR.nl 7 ?_
    refine Ref.cn (.tmp 24) x31 (fun hc => ?_) (fun hc => ?_)
    ·
     refine Ref.sq ?_
     refine Ref.rn 5 ?_
     refine RefR.e0 (st' := ⟨[sB 4 true], [], [], 0⟩) 0 1 1 [4] [] ?_
     refine RefR.nl 1 ?_
     exact Ref.rt (t := (Sum.inr (Sum.inr (true))))
    ·
     refine Ref.sk ?_
     refine Ref.conv (Conv.keep (st' := ⟨[(0, .c (E35.tree a0)), sI 1 a1, sI 5 u22], [], [], 0⟩) [0, 1, 5] [] (by kernel_rfl)) ?_
     exact Ref.n0 (t := ())
   ·
    refine Ref.rn 3 ?_
    refine RefR.e0 (st' := ⟨[(0, .c (E35.tree a0)), sI 1 a1, sI 5 (IntKind.i64.wrap (u22 + 1))], [], [], 0⟩) 0 3 3 [0, 1, 5] [] ?_
    refine RefR.nl 3 ?_
    exact Ref.n0 (t := ((IntKind.i64.wrap (u22 + 1))))
  ·
   refine Ref.conv (Conv.keep (st' := ⟨[(0, .c (E35.tree a0)), sI 1 a1], [], [], 0⟩) [0, 1] [] (by kernel_rfl)) ?_
   exact Ref.xt 0 (t := (Sum.inl ()))
 ·
  refine Ref.sq ?_
  refine Ref.rn 6 ?_
  refine RefR.e0 (st' := ⟨[sB 4 (decide (((Int.ofNat a0.length) : Int) > a1))], [], [], 0⟩) 0 5 5 [4] [] ?_
  refine RefR.letC (stf := fun x32 => ⟨[sB 4 x32], [], [], 0⟩) (by kernel_rfl) (fun x32 => ?_)
  refine RefR.nl 5 ?_
  exact Ref.rt (t := (x32))

/-- governor/governorref25.may -/
def F20 (K : Nat) (a0 : Int) : Option ((Bool) ⊕ (Bool)) :=
 (letV ((decide ((a0 : Int) ≥ (-2147483648))) && (decide ((a0 : Int) ≤ 2147483648))) (fun (x1 : Bool) => (some (.inl (x1)))))

theorem F20_ok (K : Nat) (a0 : Int) : DFun Tryz.prog 20 [.c (.val (.int .i64 a0))] [] (fnS (F20 K a0)) (fun r => .c (.val (.bool r))) (fun r => []) := by
 refine DFun.intro (fn := Tryz.f20) (c := cd (bd Tryz.f20) []) (rs := fun r => ⟨[sB 2 r], [], [], 0⟩) (by kernel_rfl) (by kernel_rfl) (by kernel_rfl) ?_ (fun r => by kernel_rfl) (fun r => by kernel_rfl) (fun r => by kernel_rfl) (fun r => by kernel_rfl)
 unfold F20
 refine Ref.sq ?_
 refine Ref.rn 0 ?_
 refine RefR.e0 (st' := ⟨[sI 0 a0], [], [], 0⟩) 0 1 1 [0] [] ?_
 refine RefR.nl 1 ?_
 refine Ref.sq ?_
 refine Ref.rn 1 ?_
 refine RefR.e0 (st' := ⟨[sB 2 ((decide ((a0 : Int) ≥ (-2147483648))) && (decide ((a0 : Int) ≤ 2147483648)))], [], [], 0⟩) 0 7 7 [2] [] ?_
 refine RefR.letC (stf := fun x1 => ⟨[sB 2 x1], [], [], 0⟩) (by kernel_rfl) (fun x1 => ?_)
 refine RefR.nl 7 ?_
 exact Ref.rt (t := (x1))

/-- governor/governorref25.Decimal -/
def F21 : (K : Nat) → (Int) → Option ((Bytes) ⊕ (Bytes))
 | 0, _ => none
 | K + 1, a0 =>
 (if (decide ((a0 : Int) < 0)) = true then ((fnS (F21 K (IntKind.i64.wrap (0 - a0)))).bind (fun r1 => (chk [room (([45] : Bytes).length + r1.length)] (some (.inl ((([45] : Bytes) ++ r1))))))) else (if (decide ((a0 : Int) < 10)) = true then (chk [bndOk ([48, 49, 50, 51, 52, 53, 54, 55, 56, 57] : Bytes).length a0 (IntKind.i64.wrap (a0 + 1))] (letV ((([48, 49, 50, 51, 52, 53, 54, 55, 56, 57] : Bytes).drop (a0 : Int).toNat).take (((IntKind.i64.wrap (a0 + 1)) : Int).toNat - (a0 : Int).toNat)) (fun (x2 : Bytes) => (some (.inl (x2)))))) else (chk [!(10 == 0)] ((fnS (F21 K (IntKind.i64.wrap ((a0 : Int).tdiv 10)))).bind (fun r3 => (chk [!(10 == 0)] ((fnS (F21 K ((a0 : Int).tmod 10))).bind (fun r4 => (chk [room (r3.length + r4.length)] (some (.inl ((r3 ++ r4)))))))))))))

theorem G21_ok : ∀ K : Nat, (∀ (a0 : Int), DFun Tryz.prog 21 [.c (.val (.int .i64 a0))] [] (fnS (F21 K a0)) (fun r => .c (.str r)) (fun r => [])) := by
 intro K
 induction K with
 | zero => exact fun a0 => DFun.none (by rw [F21]; rfl)
 | succ K ih =>
  have ih21 := ih
  refine ?_

  ·
   intro a0
   refine DFun.intro (fn := Tryz.f21) (c := cd (bd Tryz.f21) []) (rs := fun r => ⟨[sS 2 r], [], [], 0⟩) (by kernel_rfl) (by kernel_rfl) (by kernel_rfl) ?_ (fun r => by kernel_rfl) (fun r => by kernel_rfl) (fun r => by kernel_rfl) (fun r => by kernel_rfl)
   rw [F21]
   refine Ref.sq ?_
   refine Ref.rn 0 ?_
   refine RefR.e0 (st' := ⟨[sI 0 a0], [], [], 0⟩) 0 1 1 [0] [] ?_
   refine RefR.nl 1 ?_
   refine Ref.sq ?_
   refine Ref.sq ?_
   refine Ref.rn 1 ?_
   refine RefR.e0 (st' := ⟨[sI 0 a0, sB 4 (decide ((a0 : Int) < 0))], [], [], 0⟩) 0 2 2 [0, 4] [] ?_
   refine RefR.nl 2 ?_
   refine Ref.cn (.tmp 4) (decide ((a0 : Int) < 0)) (fun hc => ?_) (fun hc => ?_)
   ·
    refine Ref.sq ?_
    refine Ref.rn 2 ?_
    refine RefR.e0 (st' := ⟨[sI 6 (IntKind.i64.wrap (0 - a0))], [], [], 0⟩) 0 2 2 [6] [] ?_
    refine RefR.callC (t := 7) 2 3 [] rfl (by kernel_rfl) (ih21 (IntKind.i64.wrap (0 - a0))) (fun r1 => ?_)
    refine RefR.evC (vs := [room (([45] : Bytes).length + r1.length)]) (st' := ⟨[sS 2 (([45] : Bytes) ++ r1)], [], [], 0⟩) 3 2 5 [2] [] rfl (by kernel_rfl) ?_
    refine RefR.nl 5 ?_
    exact Ref.rt (t := ((([45] : Bytes) ++ r1)))
   ·
    refine Ref.sk ?_
    refine Ref.sq ?_
    refine Ref.sq ?_
    refine Ref.rn 3 ?_
    refine RefR.e0 (st' := ⟨[sI 0 a0, sB 10 (decide ((a0 : Int) < 10))], [], [], 0⟩) 0 2 2 [0, 10] [] ?_
    refine RefR.nl 2 ?_
    refine Ref.cn (.tmp 10) (decide ((a0 : Int) < 10)) (fun hc => ?_) (fun hc => ?_)
    ·
     refine Ref.sq ?_
     refine Ref.rn 4 ?_
     refine RefR.evC (vs := [bndOk ([48, 49, 50, 51, 52, 53, 54, 55, 56, 57] : Bytes).length a0 (IntKind.i64.wrap (a0 + 1))]) (st' := ⟨[sS 2 ((([48, 49, 50, 51, 52, 53, 54, 55, 56, 57] : Bytes).drop (a0 : Int).toNat).take (((IntKind.i64.wrap (a0 + 1)) : Int).toNat - (a0 : Int).toNat))], [], [], 0⟩) 0 5 5 [2] [] rfl (by kernel_rfl) ?_
     refine RefR.letC (stf := fun x2 => ⟨[sS 2 x2], [], [], 0⟩) (by kernel_rfl) (fun x2 => ?_)
     refine RefR.nl 5 ?_
     exact Ref.rt (t := (x2))
    ·
     refine Ref.sk ?_
     refine Ref.sq ?_
     refine Ref.rn 5 ?_
     refine RefR.evC (vs := [!(10 == 0)]) (st' := ⟨[sI 0 a0, sI 16 (IntKind.i64.wrap ((a0 : Int).tdiv 10))], [], [], 0⟩) 0 2 2 [0, 16] [] rfl (by kernel_rfl) ?_
     refine RefR.callC (t := 17) 2 3 [] rfl (by kernel_rfl) (ih21 (IntKind.i64.wrap ((a0 : Int).tdiv 10))) (fun r3 => ?_)
     refine RefR.evC (vs := [!(10 == 0)]) (st' := ⟨[sS 17 r3, sI 19 ((a0 : Int).tmod 10)], [], [], 0⟩) 3 2 5 [17, 19] [] rfl (by kernel_rfl) ?_
     refine RefR.callC (t := 20) 5 6 [] rfl (by kernel_rfl) (ih21 ((a0 : Int).tmod 10)) (fun r4 => ?_)
     refine RefR.evC (vs := [room (r3.length + r4.length)]) (st' := ⟨[sS 2 (r3 ++ r4)], [], [], 0⟩) 6 2 8 [2] [] rfl (by kernel_rfl) ?_
     refine RefR.nl 8 ?_
     exact Ref.rt (t := ((r3 ++ r4)))

theorem F21_ok (K : Nat) (a0 : Int) : DFun Tryz.prog 21 [.c (.val (.int .i64 a0))] [] (fnS (F21 K a0)) (fun r => .c (.str r)) (fun r => []) := (G21_ok K) a0

end Go.Proofs.YtmllhpnlceaneaaGreatDoor
