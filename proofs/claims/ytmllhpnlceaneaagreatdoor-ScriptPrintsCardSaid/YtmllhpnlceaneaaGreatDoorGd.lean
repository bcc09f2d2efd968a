/- Plain functions, and that the Go functions do what these do: printed by gen2.py. No conditions. -/
import Derived.Test.YtmllhpnlceaneaaGreatDoorGc
import Derived.Test.YtmllhpnlceaneaaGreatDoorProg
set_option linter.unusedVariables false
set_option linter.unusedSimpArgs false
set_option linter.unusedSectionVars false
namespace Go.Proofs.YtmllhpnlceaneaaGreatDoor
open Go Go.Proofs Go.Dl
set_option maxRecDepth 100000

/-- governor/script.Print -/
def F6 (K : Nat) (a0 : Bytes) (a1 : (List S35)) : Option ((Bytes × Err) ⊕ (Bytes × Err)) :=
 ((fnS (F12 K a0)).bind (fun r1 => (chk [room (([115, 114, 99, 32] : Bytes).length + r1.length), room ((([115, 114, 99, 32] : Bytes) ++ r1).length + ([10] : Bytes).length)] (letV ((([115, 114, 99, 32] : Bytes) ++ r1) ++ ([10] : Bytes)) (fun (x2 : Bytes) => ((fnS (F13x48 K (⟨(⟨false, []⟩ : S46), false⟩ : S48) x2)).bind (fun r3 => (bindS (blockS ((iter K (fun (u303 : Bool × (List UInt8) × Bool × Int) => (letV (decide ((u303.2.2.2 : Int) < (Int.ofNat a1.length))) (fun (x369 : Bool) => (if x369 = true then (bindS (blockS (chk [inb u303.2.2.2 a1.length] ((fnS (F13x48 K (⟨(⟨u303.1, u303.2.1⟩ : S46), u303.2.2.1⟩ : S48) ([115, 99, 97, 110] : Bytes))).bind (fun r402 => (letV ((a1.getD (u303.2.2.2 : Int).toNat default).fTicks) (fun (x403 : Int) => ((fnS (F14 K r402.2.2 x403)).bind (fun r404 => (letV ((a1.getD (u303.2.2.2 : Int).toNat default).fIn) (fun (x405 : (List Int)) => (letV (Int.ofNat ((a1.getD (u303.2.2.2 : Int).toNat default).fIn).length) (fun (x406 : Int) => (bindS (blockS ((iter K (fun (u424 : Bool × (List UInt8) × Bool × Int) => (if (decide ((u424.2.2.2 : Int) < x406)) = true then (bindS (blockS (chk [inb u424.2.2.2 x405.length] ((fnS (F14 K (⟨(⟨u424.1, u424.2.1⟩ : S46), u424.2.2.1⟩ : S48) (x405.getD (u424.2.2.2 : Int).toNat default))).bind (fun r431 => (some (.inr (r431.fBuilder.faddr, r431.fBuilder.fbuf, r431.fbad))))))) (fun (u430 : Bool × (List UInt8) × Bool) => (some (.inr (u430.1, u430.2.1, u430.2.2, (IntKind.i64.wrap (u424.2.2.2 + 1))))))) else (some (.inl (Sum.inl (u424.1, u424.2.1, u424.2.2.1)))))) (r404.fBuilder.faddr, r404.fBuilder.fbuf, (r404.fbad || (decide (((Int.ofNat ((a1.getD (u303.2.2.2 : Int).toNat default).fIn).length) : Int) > 16))), 0)).map .inl)) (fun (u419 : Bool × (List UInt8) × Bool) => ((fnS (F15x48 K (⟨(⟨u419.1, u419.2.1⟩ : S46), u419.2.2⟩ : S48) (b8 10))).bind (fun r432 => (some (.inr (r432.2.fBuilder.faddr, r432.2.fBuilder.fbuf, r432.2.fbad))))))))))))))))))) (fun (u401 : Bool × (List UInt8) × Bool) => (some (.inr (u401.1, u401.2.1, u401.2.2, (IntKind.i64.wrap (u303.2.2.2 + 1))))))) else (some (.inl (Sum.inl (u303.1, u303.2.1, u303.2.2.1)))))))) (r3.2.2.fBuilder.faddr, r3.2.2.fBuilder.fbuf, r3.2.2.fbad, 0)).map .inl)) (fun (u218 : Bool × (List UInt8) × Bool) => (bindS (blockS (if u218.2.2 = true then ((fnS (F16 K 22 0)).bind (fun r437 => (some (.inl (Sum.inr (([] : Bytes), r437)))))) else ((fnS (F17x48 K (⟨(⟨u218.1, u218.2.1⟩ : S46), u218.2.2⟩ : S48))).bind (fun r438 => (if (decide ((r438.1 : Int) > 65536)) = true then ((fnS (F16 K 24 0)).bind (fun r439 => (some (.inl (Sum.inr (([] : Bytes), r439)))))) else (some (.inr (r438.2.fBuilder.faddr, r438.2.fBuilder.fbuf, r438.2.fbad)))))))) (fun (u436 : Bool × (List UInt8) × Bool) => ((fnS (F18x48 K (⟨(⟨u436.1, u436.2.1⟩ : S46), u436.2.2⟩ : S48))).bind (fun r440 => (some (.inl (r440, none))))))))))))))))

theorem F6_ok (K : Nat) (a0 : Bytes) (a1 : (List S35)) : DFun Tryz.prog 6 [.c (.str a0), .c (E35.tree a1)] [] (fnS (F6 K a0 a1)) (fun r => .tup [.c (.str r.1), .c (errC r.2)]) (fun r => []) := by
 refine DFun.intro (fn := Tryz.f6) (c := cd (bd Tryz.f6) []) (rs := fun r => ⟨[sS 4 r.1, (5, .c (errC r.2))], [], [], 0⟩) (by kernel_rfl) (by kernel_rfl) (by kernel_rfl) ?_ (fun r => by kernel_rfl) (fun r => by kernel_rfl) (fun r => by kernel_rfl) (fun r => by kernel_rfl)
 unfold F6
 refine Ref.sq ?_
 refine Ref.rn 0 ?_
 refine RefR.e0 (st' := ⟨[sS 0 a0, (1, .c (E35.tree a1))], [], [], 0⟩) 0 2 2 [0, 1] [] ?_
 refine RefR.nl 2 ?_
 refine Ref.sq ?_
 refine Ref.rn 1 ?_
 refine RefR.e0 (st' := ⟨[sS 0 a0, (1, .c (E35.tree a1)), (11, .agg [.val (.pointer none), .nil, .val (.bool false)])], [], [], 0⟩) 0 1 1 [0, 1, 11] [] ?_
 refine RefR.allocSelf (d := 12) (t := 48) (cl := [.nil, .val (.bool false)]) 1 2 (by kernel_rfl) (by kernel_rfl) ?_
 refine RefR.e0 (st' := ⟨[sS 0 a0, (1, .c (E35.tree a1)), sP 6 0 0 0], [.cells [.self 48 false 0, .nil, .val (.bool false)]], [], 0⟩) 2 1 3 [0, 1, 6] [0] ?_
 refine RefR.nl 3 ?_
 refine Ref.sq ?_
 refine Ref.drawnY 2 (by kernel_rfl) (by kernel_rfl) ?_
 refine RefY.evC0 (st' := ⟨[(1, .c (E35.tree a1)), sP 6 0 0 0, sP 15 0 0 0, sS 16 a0], [.cells [.self 48 false 0, .nil, .val (.bool false)]], [], 0⟩) (fuel' := 4) [0, 1, 2, 3] [1, 6, 15, 16] [0] rfl (by kernel_rfl) (by kernel_rfl) ?_
 refine RefY.tail [4, 5, 6, 7] rfl (by kernel_rfl) ?_
 refine RefR.callC (t := 17) 0 1 [] rfl (by kernel_rfl) (F12_ok K a0) (fun r1 => ?_)
 refine RefR.evC (vs := [room (([115, 114, 99, 32] : Bytes).length + r1.length), room ((([115, 114, 99, 32] : Bytes) ++ r1).length + ([10] : Bytes).length)]) (st' := ⟨[(1, .c (E35.tree a1)), sP 6 0 0 0, sP 15 0 0 0, sS 19 ((([115, 114, 99, 32] : Bytes) ++ r1) ++ ([10] : Bytes))], [.cells [.self 48 false 0, .nil, .val (.bool false)]], [], 0⟩) 1 2 3 [1, 6, 15, 19] [0] rfl (by kernel_rfl) ?_
 refine RefR.letC (stf := fun x2 => ⟨[(1, .c (E35.tree a1)), sP 6 0 0 0, sP 15 0 0 0, sS 19 x2], [.cells [.self 48 false 0, .nil, .val (.bool false)]], [], 0⟩) (by kernel_rfl) (fun x2 => ?_)
 refine RefR.conv (Conv.adoptCell (st' := ⟨[(1, .c (E35.tree a1)), sP 6 0 0 0, sP 15 0 0 0, sS 19 x2], [.cells [.self 48 false 0, .own 1 0, .val (.bool false)], E5.row []], [], 0⟩) 0 1 E5.ty E5.w (E5.at []) (by kernel_rfl)) ?_
 refine RefR.callC (t := 20) 3 4 [0, 1] rfl (by kernel_rfl) (F13x48_ok K (⟨(⟨false, []⟩ : S46), false⟩ : S48) x2) (fun r3 => ?_)
 refine RefR.nl 4 ?_
 refine Ref.sq ?_
 refine Ref.sq ?_
 refine Ref.rn 3 ?_
 refine RefR.e0 (st' := ⟨[sP 6 0 0 0, (21, .c (E35.tree a1)), sI 22 (Int.ofNat a1.length), sI 23 0], [.cells [.self 48 r3.2.2.fBuilder.faddr 0, .own 1 r3.2.2.fBuilder.fbuf.length, .val (.bool r3.2.2.fbad)], E5.row r3.2.2.fBuilder.fbuf], [], 0⟩) 0 3 3 [6, 21, 22, 23] [0, 2] ?_
 refine RefR.nl 3 ?_
 refine Ref.codeEq (c' := .block 0 (cd (bd Tryz.f6) [1, 1, 1, 0, 1, 0])) (by kernel_rfl) ?_
 refine Ref.block (go1 := fun u218 => ⟨[sP 6 0 0 0], [.cells [.self 48 u218.1 0, .own 1 u218.2.1.length, .val (.bool u218.2.2)], E5.row u218.2.1], [], 0⟩) ?_ (fun _ h => by cases h) (fun u218 => ?_)
 ·
  refine Ref.codeEq (c' := .loop (cd (bd Tryz.f6) [1, 1, 1, 0, 1, 0, 0])) (by kernel_rfl) ?_
  refine Ref.loop (hd := fun u303 => ⟨[sP 6 0 0 0, (21, .c (E35.tree a1)), sI 22 (Int.ofNat a1.length), sI 23 u303.2.2.2], [.cells [.self 48 u303.1 0, .own 1 u303.2.1.length, .val (.bool u303.2.2.1)], E5.row u303.2.1], [], 0⟩) K (r3.2.2.fBuilder.faddr, r3.2.2.fBuilder.fbuf, r3.2.2.fbad, 0) (by kernel_rfl) (fun u303 => ?_)
  refine Ref.sq ?_
  refine Ref.rn 4 ?_
  refine RefR.e0 (st' := ⟨[sP 6 0 0 0, (21, .c (E35.tree a1)), sI 22 (Int.ofNat a1.length), sI 23 u303.2.2.2, sB 24 (decide ((u303.2.2.2 : Int) < (Int.ofNat a1.length)))], [.cells [.self 48 u303.1 0, .own 1 u303.2.1.length, .val (.bool u303.2.2.1)], E5.row u303.2.1], [], 0⟩) 0 1 1 [6, 21, 22, 23, 24] [0, 1] ?_
  refine RefR.letC (stf := fun x369 => ⟨[sP 6 0 0 0, (21, .c (E35.tree a1)), sI 22 (Int.ofNat a1.length), sI 23 u303.2.2.2, sB 24 x369], [.cells [.self 48 u303.1 0, .own 1 u303.2.1.length, .val (.bool u303.2.2.1)], E5.row u303.2.1], [], 0⟩) (by kernel_rfl) (fun x369 => ?_)
  refine RefR.nl 1 ?_
  refine Ref.sq ?_
  refine Ref.cn (.tmp 24) x369 (fun hc => ?_) (fun hc => ?_)
  ·
   refine Ref.sk ?_
   refine Ref.sq ?_
   refine Ref.codeEq (c' := .block 1 (cd (bd Tryz.f6) [1, 1, 1, 0, 1, 0, 0, 1, 1, 0, 0])) (by kernel_rfl) ?_
   refine Ref.block (go1 := fun u401 => ⟨[sP 6 0 0 0, (21, .c (E35.tree a1)), sI 22 (Int.ofNat a1.length), sI 23 u303.2.2.2], [.cells [.self 48 u401.1 0, .own 1 u401.2.1.length, .val (.bool u401.2.2)], E5.row u401.2.1], [], 0⟩) ?_ (fun a => match a with | .inl _ => (fun h => by cases h) | .inr _ => (fun h => by cases h)) (fun u401 => ?_)
   ·
    refine Ref.sq ?_
    refine Ref.rn 5 ?_
    refine RefR.evC (vs := [inb u303.2.2.2 a1.length]) (st' := ⟨[sP 6 0 0 0, sP 8 2 0 0, (21, .c (E35.tree a1)), sI 22 (Int.ofNat a1.length), sI 23 u303.2.2.2], [.cells [.self 48 u303.1 0, .own 1 u303.2.1.length, .val (.bool u303.2.2.1)], E5.row u303.2.1, .cells (E35.cs (a1.getD (u303.2.2.2 : Int).toNat default))], [], 0⟩) 0 4 4 [6, 8, 21, 22, 23] [0, 1, 2] rfl (by kernel_rfl) ?_
    refine RefR.nl 4 ?_
    refine Ref.sq ?_
    refine Ref.rn 6 ?_
    refine RefR.e0 (st' := ⟨[sP 6 0 0 0, sP 8 2 0 0, (21, .c (E35.tree a1)), sI 22 (Int.ofNat a1.length), sI 23 u303.2.2.2, sP 29 0 0 0], [.cells [.self 48 u303.1 0, .own 1 u303.2.1.length, .val (.bool u303.2.2.1)], E5.row u303.2.1, .cells (E35.cs (a1.getD (u303.2.2.2 : Int).toNat default))], [], 0⟩) 0 3 3 [6, 8, 21, 22, 23, 29] [0, 1, 2] ?_
    refine RefR.callC (t := 30) 3 4 [0, 1] rfl (by kernel_rfl) (F13x48_ok K (⟨(⟨u303.1, u303.2.1⟩ : S46), u303.2.2.1⟩ : S48) ([115, 99, 97, 110] : Bytes)) (fun r402 => ?_)
    refine RefR.nl 4 ?_
    refine Ref.sq ?_
    refine Ref.rn 7 ?_
    refine RefR.e0 (st' := ⟨[sP 6 0 0 0, sP 8 1 0 0, (21, .c (E35.tree a1)), sI 22 (Int.ofNat a1.length), sI 23 u303.2.2.2, sP 31 0 0 0, sI 33 ((a1.getD (u303.2.2.2 : Int).toNat default).fTicks)], [.cells [.self 48 r402.2.2.fBuilder.faddr 0, .own 2 r402.2.2.fBuilder.fbuf.length, .val (.bool r402.2.2.fbad)], .cells (E35.cs (a1.getD (u303.2.2.2 : Int).toNat default)), E5.row r402.2.2.fBuilder.fbuf], [], 0⟩) 0 3 3 [6, 8, 21, 22, 23, 31, 33] [0, 2, 3] ?_
    refine RefR.letC (stf := fun x403 => ⟨[sP 6 0 0 0, sP 8 1 0 0, (21, .c (E35.tree a1)), sI 22 (Int.ofNat a1.length), sI 23 u303.2.2.2, sP 31 0 0 0, sI 33 x403], [.cells [.self 48 r402.2.2.fBuilder.faddr 0, .own 2 r402.2.2.fBuilder.fbuf.length, .val (.bool r402.2.2.fbad)], .cells (E35.cs (a1.getD (u303.2.2.2 : Int).toNat default)), E5.row r402.2.2.fBuilder.fbuf], [], 0⟩) (by kernel_rfl) (fun x403 => ?_)
    refine RefR.callC (t := 34) 3 4 [0, 2] rfl (by kernel_rfl) (F14_ok K r402.2.2 x403) (fun r404 => ?_)
    refine RefR.nl 4 ?_
    refine Ref.sq ?_
    refine Ref.rn 8 ?_
    refine RefR.e0 (st' := ⟨[sP 6 0 0 0, sP 8 1 0 0, (21, .c (E35.tree a1)), sI 22 (Int.ofNat a1.length), sI 23 u303.2.2.2], [.cells [.self 48 r404.fBuilder.faddr 0, .own 2 r404.fBuilder.fbuf.length, .val (.bool (r404.fbad || (decide (((Int.ofNat ((a1.getD (u303.2.2.2 : Int).toNat default).fIn).length) : Int) > 16))))], .cells (E35.cs (a1.getD (u303.2.2.2 : Int).toNat default)), E5.row r404.fBuilder.fbuf], [], 0⟩) 0 14 14 [6, 8, 21, 22, 23] [0, 1, 3] ?_
    refine RefR.nl 14 ?_
    refine Ref.sq ?_
    refine Ref.sq ?_
    refine Ref.rn 9 ?_
    refine RefR.e0 (st' := ⟨[sP 6 0 0 0, (21, .c (E35.tree a1)), sI 22 (Int.ofNat a1.length), sI 23 u303.2.2.2, (49, .c (E3.tree ((a1.getD (u303.2.2.2 : Int).toNat default).fIn))), sI 50 (Int.ofNat ((a1.getD (u303.2.2.2 : Int).toNat default).fIn).length), sI 51 0], [.cells [.self 48 r404.fBuilder.faddr 0, .own 1 r404.fBuilder.fbuf.length, .val (.bool (r404.fbad || (decide (((Int.ofNat ((a1.getD (u303.2.2.2 : Int).toNat default).fIn).length) : Int) > 16))))], E5.row r404.fBuilder.fbuf], [], 0⟩) 0 4 4 [6, 21, 22, 23, 49, 50, 51] [0, 2] ?_
    refine RefR.letC (stf := fun x405 => ⟨[sP 6 0 0 0, (21, .c (E35.tree a1)), sI 22 (Int.ofNat a1.length), sI 23 u303.2.2.2, (49, .c (E3.tree x405)), sI 50 (Int.ofNat ((a1.getD (u303.2.2.2 : Int).toNat default).fIn).length), sI 51 0], [.cells [.self 48 r404.fBuilder.faddr 0, .own 1 r404.fBuilder.fbuf.length, .val (.bool (r404.fbad || (decide (((Int.ofNat ((a1.getD (u303.2.2.2 : Int).toNat default).fIn).length) : Int) > 16))))], E5.row r404.fBuilder.fbuf], [], 0⟩) (by kernel_rfl) (fun x405 => ?_)
    refine RefR.letC (stf := fun x406 => ⟨[sP 6 0 0 0, (21, .c (E35.tree a1)), sI 22 (Int.ofNat a1.length), sI 23 u303.2.2.2, (49, .c (E3.tree x405)), sI 50 x406, sI 51 0], [.cells [.self 48 r404.fBuilder.faddr 0, .own 1 r404.fBuilder.fbuf.length, .val (.bool (r404.fbad || (decide (((Int.ofNat ((a1.getD (u303.2.2.2 : Int).toNat default).fIn).length) : Int) > 16))))], E5.row r404.fBuilder.fbuf], [], 0⟩) (by kernel_rfl) (fun x406 => ?_)
    refine RefR.nl 4 ?_
    refine Ref.codeEq (c' := .block 2 (cd (bd Tryz.f6) [1, 1, 1, 0, 1, 0, 0, 1, 1, 0, 0, 1, 1, 1, 1, 0, 1, 0])) (by kernel_rfl) ?_
    refine Ref.block (go1 := fun u419 => ⟨[sP 6 0 0 0, (21, .c (E35.tree a1)), sI 22 (Int.ofNat a1.length), sI 23 u303.2.2.2], [.cells [.self 48 u419.1 0, .own 1 u419.2.1.length, .val (.bool u419.2.2)], E5.row u419.2.1], [], 0⟩) ?_ (fun a => match a with | .inl _ => (fun h => by cases h) | .inr (.inl _) => (fun h => by cases h) | .inr (.inr _) => (fun h => by cases h)) (fun u419 => ?_)
    ·
     refine Ref.codeEq (c' := .loop (cd (bd Tryz.f6) [1, 1, 1, 0, 1, 0, 0, 1, 1, 0, 0, 1, 1, 1, 1, 0, 1, 0, 0])) (by kernel_rfl) ?_
     refine Ref.loop (hd := fun u424 => ⟨[sP 6 0 0 0, (21, .c (E35.tree a1)), sI 22 (Int.ofNat a1.length), sI 23 u303.2.2.2, (49, .c (E3.tree x405)), sI 50 x406, sI 51 u424.2.2.2], [.cells [.self 48 u424.1 0, .own 1 u424.2.1.length, .val (.bool u424.2.2.1)], E5.row u424.2.1], [], 0⟩) K (r404.fBuilder.faddr, r404.fBuilder.fbuf, (r404.fbad || (decide (((Int.ofNat ((a1.getD (u303.2.2.2 : Int).toNat default).fIn).length) : Int) > 16))), 0) (by kernel_rfl) (fun u424 => ?_)
     refine Ref.sq ?_
     refine Ref.rn 10 ?_
     refine RefR.e0 (st' := ⟨[sP 6 0 0 0, (21, .c (E35.tree a1)), sI 22 (Int.ofNat a1.length), sI 23 u303.2.2.2, (49, .c (E3.tree x405)), sI 50 x406, sI 51 u424.2.2.2, sB 52 (decide ((u424.2.2.2 : Int) < x406))], [.cells [.self 48 u424.1 0, .own 1 u424.2.1.length, .val (.bool u424.2.2.1)], E5.row u424.2.1], [], 0⟩) 0 1 1 [6, 21, 22, 23, 49, 50, 51, 52] [0, 1] ?_
     refine RefR.nl 1 ?_
     refine Ref.sq ?_
     refine Ref.cn (.tmp 52) (decide ((u424.2.2.2 : Int) < x406)) (fun hc => ?_) (fun hc => ?_)
     ·
      refine Ref.sk ?_
      refine Ref.sq ?_
      refine Ref.codeEq (c' := .block 3 (cd (bd Tryz.f6) [1, 1, 1, 0, 1, 0, 0, 1, 1, 0, 0, 1, 1, 1, 1, 0, 1, 0, 0, 1, 1, 0, 0])) (by kernel_rfl) ?_
      refine Ref.block (go1 := fun u430 => ⟨[sP 6 0 0 0, (21, .c (E35.tree a1)), sI 22 (Int.ofNat a1.length), sI 23 u303.2.2.2, (49, .c (E3.tree x405)), sI 50 x406, sI 51 u424.2.2.2], [.cells [.self 48 u430.1 0, .own 1 u430.2.1.length, .val (.bool u430.2.2)], E5.row u430.2.1], [], 0⟩) ?_ (fun a => match a with | .inl _ => (fun h => by cases h) | .inr (.inl _) => (fun h => by cases h) | .inr (.inr (.inl _)) => (fun h => by cases h) | .inr (.inr (.inr _)) => (fun h => by cases h)) (fun u430 => ?_)
      ·
       refine Ref.sq ?_
       refine Ref.rn 11 ?_
       refine RefR.evC (vs := [inb u424.2.2.2 x405.length]) (st' := ⟨[sP 6 0 0 0, sI 10 (x405.getD (u424.2.2.2 : Int).toNat default), (21, .c (E35.tree a1)), sI 22 (Int.ofNat a1.length), sI 23 u303.2.2.2, (49, .c (E3.tree x405)), sI 50 x406, sI 51 u424.2.2.2], [.cells [.self 48 u424.1 0, .own 1 u424.2.1.length, .val (.bool u424.2.2.1)], E5.row u424.2.1], [], 0⟩) 0 3 3 [6, 10, 21, 22, 23, 49, 50, 51] [0, 1] rfl (by kernel_rfl) ?_
       refine RefR.nl 3 ?_
       refine Ref.rn 12 ?_
       refine RefR.e0 (st' := ⟨[sP 6 0 0 0, (21, .c (E35.tree a1)), sI 22 (Int.ofNat a1.length), sI 23 u303.2.2.2, (49, .c (E3.tree x405)), sI 50 x406, sI 51 u424.2.2.2, sP 55 0 0 0, sI 56 (x405.getD (u424.2.2.2 : Int).toNat default)], [.cells [.self 48 u424.1 0, .own 1 u424.2.1.length, .val (.bool u424.2.2.1)], E5.row u424.2.1], [], 0⟩) 0 2 2 [6, 21, 22, 23, 49, 50, 51, 55, 56] [0, 1] ?_
       refine RefR.callC (t := 57) 2 3 [0, 1] rfl (by kernel_rfl) (F14_ok K (⟨(⟨u424.1, u424.2.1⟩ : S46), u424.2.2.1⟩ : S48) (x405.getD (u424.2.2.2 : Int).toNat default)) (fun r431 => ?_)
       refine RefR.nl 3 ?_
       refine Ref.conv (Conv.keep (st' := ⟨[sP 6 0 0 0, (21, .c (E35.tree a1)), sI 22 (Int.ofNat a1.length), sI 23 u303.2.2.2, (49, .c (E3.tree x405)), sI 50 x406, sI 51 u424.2.2.2], [.cells [.self 48 r431.fBuilder.faddr 0, .own 1 r431.fBuilder.fbuf.length, .val (.bool r431.fbad)], E5.row r431.fBuilder.fbuf], [], 0⟩) [6, 21, 22, 23, 49, 50, 51] [0, 2] (by kernel_rfl)) ?_
       exact Ref.n0 (t := (r431.fBuilder.faddr, r431.fBuilder.fbuf, r431.fbad))
      ·
       refine Ref.rn 13 ?_
       refine RefR.e0 (st' := ⟨[sP 6 0 0 0, (21, .c (E35.tree a1)), sI 22 (Int.ofNat a1.length), sI 23 u303.2.2.2, (49, .c (E3.tree x405)), sI 50 x406, sI 51 (IntKind.i64.wrap (u424.2.2.2 + 1))], [.cells [.self 48 u430.1 0, .own 1 u430.2.1.length, .val (.bool u430.2.2)], E5.row u430.2.1], [], 0⟩) 0 2 2 [6, 21, 22, 23, 49, 50, 51] [0, 1] ?_
       refine RefR.nl 2 ?_
       exact Ref.n0 (t := (u430.1, u430.2.1, u430.2.2, (IntKind.i64.wrap (u424.2.2.2 + 1))))
     ·
      refine Ref.conv (Conv.keep (st' := ⟨[sP 6 0 0 0, (21, .c (E35.tree a1)), sI 22 (Int.ofNat a1.length), sI 23 u303.2.2.2], [.cells [.self 48 u424.1 0, .own 1 u424.2.1.length, .val (.bool u424.2.2.1)], E5.row u424.2.1], [], 0⟩) [6, 21, 22, 23] [0, 1] (by kernel_rfl)) ?_
      exact Ref.xt 2 (t := (Sum.inl (u424.1, u424.2.1, u424.2.2.1)))
    ·
     refine Ref.rn 14 ?_
     refine RefR.e0 (st' := ⟨[sP 6 0 0 0, (21, .c (E35.tree a1)), sI 22 (Int.ofNat a1.length), sI 23 u303.2.2.2, sP 61 0 0 0], [.cells [.self 48 u419.1 0, .own 1 u419.2.1.length, .val (.bool u419.2.2)], E5.row u419.2.1], [], 0⟩) 0 3 3 [6, 21, 22, 23, 61] [0, 1] ?_
     refine RefR.callC (t := 62) 3 4 [0, 1] rfl (by kernel_rfl) (F15x48_ok K (⟨(⟨u419.1, u419.2.1⟩ : S46), u419.2.2⟩ : S48) (b8 10)) (fun r432 => ?_)
     refine RefR.nl 4 ?_
     refine Ref.conv (Conv.keep (st' := ⟨[sP 6 0 0 0, (21, .c (E35.tree a1)), sI 22 (Int.ofNat a1.length), sI 23 u303.2.2.2], [.cells [.self 48 r432.2.fBuilder.faddr 0, .own 1 r432.2.fBuilder.fbuf.length, .val (.bool r432.2.fbad)], E5.row r432.2.fBuilder.fbuf], [], 0⟩) [6, 21, 22, 23] [0, 2] (by kernel_rfl)) ?_
     exact Ref.n0 (t := (r432.2.fBuilder.faddr, r432.2.fBuilder.fbuf, r432.2.fbad))
   ·
    refine Ref.rn 15 ?_
    refine RefR.e0 (st' := ⟨[sP 6 0 0 0, (21, .c (E35.tree a1)), sI 22 (Int.ofNat a1.length), sI 23 (IntKind.i64.wrap (u303.2.2.2 + 1))], [.cells [.self 48 u401.1 0, .own 1 u401.2.1.length, .val (.bool u401.2.2)], E5.row u401.2.1], [], 0⟩) 0 2 2 [6, 21, 22, 23] [0, 1] ?_
    refine RefR.nl 2 ?_
    exact Ref.n0 (t := (u401.1, u401.2.1, u401.2.2, (IntKind.i64.wrap (u303.2.2.2 + 1))))
  ·
   refine Ref.conv (Conv.keep (st' := ⟨[sP 6 0 0 0], [.cells [.self 48 u303.1 0, .own 1 u303.2.1.length, .val (.bool u303.2.2.1)], E5.row u303.2.1], [], 0⟩) [6] [0, 1] (by kernel_rfl)) ?_
   exact Ref.xt 0 (t := (Sum.inl (u303.1, u303.2.1, u303.2.2.1)))
 ·
  refine Ref.sq ?_
  refine Ref.codeEq (c' := .block 4 (cd (bd Tryz.f6) [1, 1, 1, 1, 0, 0])) (by kernel_rfl) ?_
  refine Ref.block (go1 := fun u436 => ⟨[sP 6 0 0 0], [.cells [.self 48 u436.1 0, .own 1 u436.2.1.length, .val (.bool u436.2.2)], E5.row u436.2.1], [], 0⟩) ?_ (fun _ h => by cases h) (fun u436 => ?_)
  ·
   refine Ref.sq ?_
   refine Ref.rn 16 ?_
   refine RefR.e0 (st' := ⟨[sP 6 0 0 0, sB 64 u218.2.2], [.cells [.self 48 u218.1 0, .own 1 u218.2.1.length, .val (.bool u218.2.2)], E5.row u218.2.1], [], 0⟩) 0 5 5 [6, 64] [0, 1] ?_
   refine RefR.nl 5 ?_
   refine Ref.cn (.tmp 64) u218.2.2 (fun hc => ?_) (fun hc => ?_)
   ·
    refine Ref.sq ?_
    refine Ref.rn 17 ?_
    refine RefR.callC (t := 69) 0 1 [] rfl (by kernel_rfl) (F16_ok K 22 0) (fun r437 => ?_)
    refine RefR.e0 (st' := ⟨[sS 4 ([] : Bytes), (5, .c (errC r437))], [], [], 0⟩) 1 2 3 [4, 5] [] ?_
    refine RefR.nl 3 ?_
    exact Ref.rt (t := (Sum.inr (([] : Bytes), r437)))
   ·
    refine Ref.sq ?_
    refine Ref.rn 18 ?_
    refine RefR.e0 (st' := ⟨[sP 6 0 0 0, sP 73 0 0 0], [.cells [.self 48 u218.1 0, .own 1 u218.2.1.length, .val (.bool u218.2.2)], E5.row u218.2.1], [], 0⟩) 0 3 3 [6, 73] [0, 1] ?_
    refine RefR.callC (t := 74) 3 4 [0, 1] rfl (by kernel_rfl) (F17x48_ok K (⟨(⟨u218.1, u218.2.1⟩ : S46), u218.2.2⟩ : S48)) (fun r438 => ?_)
    refine RefR.e0 (st' := ⟨[sP 6 0 0 0, sB 70 (decide ((r438.1 : Int) > 65536))], [.cells [.self 48 r438.2.fBuilder.faddr 0, .own 1 r438.2.fBuilder.fbuf.length, .val (.bool r438.2.fbad)], E5.row r438.2.fBuilder.fbuf], [], 0⟩) 4 2 6 [6, 70] [0, 2] ?_
    refine RefR.nl 6 ?_
    refine Ref.cn (.tmp 70) (decide ((r438.1 : Int) > 65536)) (fun hc => ?_) (fun hc => ?_)
    ·
     refine Ref.sq ?_
     refine Ref.rn 19 ?_
     refine RefR.callC (t := 76) 0 1 [] rfl (by kernel_rfl) (F16_ok K 24 0) (fun r439 => ?_)
     refine RefR.e0 (st' := ⟨[sS 4 ([] : Bytes), (5, .c (errC r439))], [], [], 0⟩) 1 2 3 [4, 5] [] ?_
     refine RefR.nl 3 ?_
     exact Ref.rt (t := (Sum.inr (([] : Bytes), r439)))
    ·
     refine Ref.sk ?_
     refine Ref.conv (Conv.keep (st' := ⟨[sP 6 0 0 0], [.cells [.self 48 r438.2.fBuilder.faddr 0, .own 1 r438.2.fBuilder.fbuf.length, .val (.bool r438.2.fbad)], E5.row r438.2.fBuilder.fbuf], [], 0⟩) [6] [0, 1] (by kernel_rfl)) ?_
     exact Ref.n0 (t := (r438.2.fBuilder.faddr, r438.2.fBuilder.fbuf, r438.2.fbad))
  ·
   refine Ref.sq ?_
   refine Ref.rn 20 ?_
   refine RefR.e0 (st' := ⟨[sP 79 0 0 0], [.cells [.self 48 u436.1 0, .own 1 u436.2.1.length, .val (.bool u436.2.2)], E5.row u436.2.1], [], 0⟩) 0 3 3 [79] [0, 1] ?_
   refine RefR.callC (t := 80) 3 4 [0, 1] rfl (by kernel_rfl) (F18x48_ok K (⟨(⟨u436.1, u436.2.1⟩ : S46), u436.2.2⟩ : S48)) (fun r440 => ?_)
   refine RefR.e0 (st' := ⟨[sS 4 r440, (5, .c (.val .nilIface))], [], [], 0⟩) 4 2 6 [4, 5] [] ?_
   refine RefR.nl 6 ?_
   refine Ref.conv (Conv.slot 5 (.c (errC none)) (DLe.c (errC_nil)) (by kernel_rfl)) ?_
   refine Ref.conv (Conv.keep (st' := ⟨[sS 4 r440, (5, .c (errC none))], [], [], 0⟩) [4, 5] [] (by kernel_rfl)) ?_
   exact Ref.rt (t := (r440, none))

/-- governor/governorlaw0.Code -/
def F8 (K : Nat) (a0 : Err) : Option ((Int) ⊕ (Int)) :=
 ((fnS (F10 K a0)).bind (fun r1 => (some (.inl (r1.1)))))

theorem F8_ok (K : Nat) (a0 : Err) : DFun Tryz.prog 8 [.c (errC a0)] [] (fnS (F8 K a0)) (fun r => .c (.val (.int .i64 r))) (fun r => []) := by
 refine DFun.intro (fn := Tryz.f8) (c := cd (bd Tryz.f8) []) (rs := fun r => ⟨[sI 2 r], [], [], 0⟩) (by kernel_rfl) (by kernel_rfl) (by kernel_rfl) ?_ (fun r => by kernel_rfl) (fun r => by kernel_rfl) (fun r => by kernel_rfl) (fun r => by kernel_rfl)
 unfold F8
 refine Ref.sq ?_
 refine Ref.rn 0 ?_
 refine RefR.e0 (st' := ⟨[(0, .c (errC a0))], [], [], 0⟩) 0 1 1 [0] [] ?_
 refine RefR.nl 1 ?_
 refine Ref.sq ?_
 refine Ref.rn 1 ?_
 refine RefR.e0 (st' := ⟨[(6, .c (errC a0))], [], [], 0⟩) 0 1 1 [6] [] ?_
 refine RefR.callC (t := 7) 1 2 [] rfl (by kernel_rfl) (F10_ok K a0) (fun r1 => ?_)
 refine RefR.e0 (st' := ⟨[sI 3 r1.1], [], [], 0⟩) 2 5 7 [3] [] ?_
 refine RefR.nl 7 ?_
 refine Ref.sq ?_
 refine Ref.rn 2 ?_
 refine RefR.e0 (st' := ⟨[sI 2 r1.1], [], [], 0⟩) 0 2 2 [2] [] ?_
 refine RefR.nl 2 ?_
 exact Ref.rt (t := (r1.1))

/-- governor/governorlaw25.awake -/
def F5 (K : Nat) : Option ((Bool) ⊕ (Bool)) :=
 ((fnS (F9 K ([115, 114, 99, 32, 54, 49, 54, 50, 10, 115, 99, 97, 110, 32, 50, 32, 45, 53, 32, 55, 10, 115, 114, 99, 32, 54, 51, 10] : Bytes))).bind (fun r1 => ((fnS (F9 K ([115, 114, 99, 32, 54, 49, 10, 115, 99, 97, 110, 32, 48, 50] : Bytes))).bind (fun r2 => ((fnS (F10 K r2.2.2)).bind (fun r3 => (chk [(r1.1 == ([97, 98, 99] : Bytes))] ((condM true (fnS (F11 K r1.2.1 [(⟨[(-5), 7], 2⟩ : S35)])) default).bind (fun r5 => (letV ((((true && r5) && (!r1.2.2.isSome)) && ((r3.1 : Int) == 23)) && ((r3.2 : Int) == 2)) (fun (x6 : Bool) => ((condM x6 (fnS (F12 K ([15, 122] : Bytes))) default).bind (fun r7 => (some (.inl ((x6 && (r7 == ([48, 102, 55, 97] : Bytes)))))))))))))))))))

theorem F5_ok (K : Nat) : DFun Tryz.prog 5 [] [] (fnS (F5 K)) (fun r => .c (.val (.bool r))) (fun r => []) := by
 refine DFun.intro (fn := Tryz.f5) (c := cd (bd Tryz.f5) []) (rs := fun r => ⟨[sB 0 r], [], [], 0⟩) (by kernel_rfl) (by kernel_rfl) (by kernel_rfl) ?_ (fun r => by kernel_rfl) (fun r => by kernel_rfl) (fun r => by kernel_rfl) (fun r => by kernel_rfl)
 unfold F5
 refine Ref.sq ?_
 refine Ref.rn 0 ?_
 refine RefR.e0 (st' := ⟨[], [], [], 0⟩) 0 1 1 [] [] ?_
 refine RefR.nl 1 ?_
 refine Ref.sq ?_
 refine Ref.rn 1 ?_
 refine RefR.callC (t := 10) 0 1 [] rfl (by kernel_rfl) (F9_ok K ([115, 114, 99, 32, 54, 49, 54, 50, 10, 115, 99, 97, 110, 32, 50, 32, 45, 53, 32, 55, 10, 115, 114, 99, 32, 54, 51, 10] : Bytes)) (fun r1 => ?_)
 refine RefR.e0 (st' := ⟨[sS 1 r1.1, (2, .c (E35.tree r1.2.1)), (3, .c (errC r1.2.2))], [], [], 0⟩) 1 7 8 [1, 2, 3] [] ?_
 refine RefR.nl 8 ?_
 refine Ref.sq ?_
 refine Ref.rn 2 ?_
 refine RefR.callC (t := 15) 0 1 [] rfl (by kernel_rfl) (F9_ok K ([115, 114, 99, 32, 54, 49, 10, 115, 99, 97, 110, 32, 48, 50] : Bytes)) (fun r2 => ?_)
 refine RefR.e0 (st' := ⟨[sS 1 r1.1, (2, .c (E35.tree r1.2.1)), (3, .c (errC r1.2.2)), (6, .c (errC r2.2.2))], [], [], 0⟩) 1 7 8 [1, 2, 3, 6] [] ?_
 refine RefR.nl 8 ?_
 refine Ref.sq ?_
 refine Ref.rn 3 ?_
 refine RefR.e0 (st' := ⟨[sS 1 r1.1, (2, .c (E35.tree r1.2.1)), (3, .c (errC r1.2.2)), (20, .c (errC r2.2.2))], [], [], 0⟩) 0 1 1 [1, 2, 3, 20] [] ?_
 refine RefR.callC (t := 21) 1 2 [] rfl (by kernel_rfl) (F10_ok K r2.2.2) (fun r3 => ?_)
 refine RefR.e0 (st' := ⟨[sS 1 r1.1, (2, .c (E35.tree r1.2.1)), (3, .c (errC r1.2.2)), sI 7 r3.1, sI 8 r3.2], [], [], 0⟩) 2 5 7 [1, 2, 3, 7, 8] [] ?_
 refine RefR.nl 7 ?_
 refine Ref.sq ?_
 refine Ref.rn 4 ?_
 refine RefR.e0 (st' := ⟨[(3, .c (errC r1.2.2)), sI 7 r3.1, sI 8 r3.2, sB 26 (r1.1 == ([97, 98, 99] : Bytes)), (27, .c (E35.tree r1.2.1))], [], [(27, [(26, true)])], 0⟩) 0 4 4 [3, 7, 8, 26, 27] [] ?_
 refine RefR.assumeC (b := (r1.1 == ([97, 98, 99] : Bytes))) (stf := fun v4 => ⟨[(3, .c (errC r1.2.2)), sI 7 r3.1, sI 8 r3.2, sB 26 v4, (27, .c (E35.tree r1.2.1))], [], [(27, [(26, true)])], 0⟩) (by kernel_rfl) ?_
 refine RefR.conv (Conv.clear (by kernel_rfl)) ?_
 refine RefR.unguard 4 (by kernel_rfl) (by kernel_rfl) ?_
 refine RefR.e0 (st' := ⟨[(3, .c (errC r1.2.2)), sI 7 r3.1, sI 8 r3.2, sB 26 true, (27, .c (E35.tree r1.2.1)), (28, .c (.own 0 2))], [.row 3 1 2 (tbl [[.val (.int .i64 (-5))], [.val (.int .i64 7)]])], [], 0⟩) 4 1 5 [3, 7, 8, 26, 27, 28] [0] ?_
 refine RefR.conv (Conv.obj 0 (E3.row [(-5), 7]) (El.row_build E3 [(-5), 7] rfl (by kernel_rfl)) (by kernel_rfl)) ?_
 refine RefR.conv (Conv.slot 28 (.c (.own 0 ([(-5), 7].length))) (DLe.c (CLe.own (by simp <;> omega))) (by kernel_rfl)) ?_
 refine RefR.e0 (st' := ⟨[(3, .c (errC r1.2.2)), sI 7 r3.1, sI 8 r3.2, sB 26 true, (27, .c (E35.tree r1.2.1)), (29, .agg [.own 0 ([(-5), 7].length), .val (.int .i64 2)])], [E3.row [(-5), 7]], [(29, [(26, true)])], 0⟩) 5 1 6 [3, 7, 8, 26, 27, 29] [0] ?_
 refine RefR.conv (Conv.clear (by kernel_rfl)) ?_
 refine RefR.unguard 6 (by kernel_rfl) (by kernel_rfl) ?_
 refine RefR.conv (Conv.freeze (st' := ⟨[(3, .c (errC r1.2.2)), sI 7 r3.1, sI 8 r3.2, sB 26 true, (27, .c (E35.tree r1.2.1)), (29, .agg [E3.tree [(-5), 7], .val (.int .i64 2)])], [.dead], [], 0⟩) 0 (by kernel_rfl)) ?_
 refine RefR.e0 (st' := ⟨[(3, .c (errC r1.2.2)), sI 7 r3.1, sI 8 r3.2, sB 26 true, (27, .c (E35.tree r1.2.1)), (30, .c (.own 0 1))], [.row 35 2 1 (tbl [[E3.tree [(-5), 7], .val (.int .i64 2)]])], [], 0⟩) 6 1 7 [3, 7, 8, 26, 27, 30] [1] ?_
 refine RefR.conv (Conv.obj 0 (E35.row [(⟨[(-5), 7], 2⟩ : S35)]) (El.row_build E35 [(⟨[(-5), 7], 2⟩ : S35)] rfl (by kernel_rfl)) (by kernel_rfl)) ?_
 refine RefR.conv (Conv.slot 30 (.c (.own 0 ([(⟨[(-5), 7], 2⟩ : S35)].length))) (DLe.c (CLe.own (by simp <;> omega))) (by kernel_rfl)) ?_
 refine RefR.lookC (t := 31) (g := [(26, true)]) (b := true) 7 8 [0] (default : Bool) rfl (by kernel_rfl) (F11_ok K r1.2.1 [(⟨[(-5), 7], 2⟩ : S35)]) (fun _ => rfl) (fun r5 => ?_)
 refine RefR.e0 (st' := ⟨[sB 45 ((((true && r5) && (!r1.2.2.isSome)) && ((r3.1 : Int) == 23)) && ((r3.2 : Int) == 2))], [], [], 0⟩) 8 14 22 [45] [] ?_
 refine RefR.letC (stf := fun x6 => ⟨[sB 45 x6], [], [], 0⟩) (by kernel_rfl) (fun x6 => ?_)
 refine RefR.lookC (t := 46) (g := [(45, true)]) (b := x6) 22 23 [] (default : Bytes) rfl (by kernel_rfl) (F12_ok K ([15, 122] : Bytes)) (fun _ => rfl) (fun r7 => ?_)
 refine RefR.e0 (st' := ⟨[sB 0 (x6 && (r7 == ([48, 102, 55, 97] : Bytes)))], [], [], 0⟩) 23 3 26 [0] [] ?_
 refine RefR.nl 26 ?_
 exact Ref.rt (t := ((x6 && (r7 == ([48, 102, 55, 97] : Bytes)))))

/-- governor/governorref25.Print -/
def F7 (K : Nat) (a0 : Bytes) (a1 : (List S35)) : Option ((Bytes × Int) ⊕ (Bytes × Int)) :=
 ((fnS (F19 K a0)).bind (fun r1 => (chk [room (([115, 114, 99, 32] : Bytes).length + r1.length), room ((([115, 114, 99, 32] : Bytes) ++ r1).length + ([10] : Bytes).length)] (letV ((([115, 114, 99, 32] : Bytes) ++ r1) ++ ([10] : Bytes)) (fun (x2 : Bytes) => (bindS (blockS ((iter K (fun (u614 : Bytes × Int) => (letV (decide ((u614.2 : Int) < (Int.ofNat a1.length))) (fun (x770 : Bool) => (if x770 = true then (bindS (blockS (chk [inb u614.2 a1.length] (letV ((a1.getD (u614.2 : Int).toNat default).fTicks) (fun (x848 : Int) => ((fnS (F20 K x848)).bind (fun r849 => (letV ((!r849) || (decide (((Int.ofNat ((a1.getD (u614.2 : Int).toNat default).fIn).length) : Int) > 16))) (fun (x850 : Bool) => (if x850 = true then (some (.inl (Sum.inr (Sum.inr (([] : Bytes), 22))))) else (letV ((a1.getD (u614.2 : Int).toNat default).fTicks) (fun (x851 : Int) => ((fnS (F21 K x851)).bind (fun r852 => (chk [room (([115, 99, 97, 110, 32] : Bytes).length + r852.length)] (bindS (blockS ((iter K (fun (u902 : Bytes × Int) => (letV (decide ((u902.2 : Int) < (Int.ofNat ((a1.getD (u614.2 : Int).toNat default).fIn).length))) (fun (x914 : Bool) => (if x914 = true then (bindS (blockS (chk [inb u902.2 ((a1.getD (u614.2 : Int).toNat default).fIn).length] (letV (((a1.getD (u614.2 : Int).toNat default).fIn).getD (u902.2 : Int).toNat default) (fun (x920 : Int) => ((fnS (F20 K x920)).bind (fun r921 => (if (!r921) = true then (some (.inl (Sum.inr (Sum.inr (Sum.inr (Sum.inr (([] : Bytes), 22))))))) else (chk [room (u902.1.length + ([32] : Bytes).length), inb u902.2 ((a1.getD (u614.2 : Int).toNat default).fIn).length] (letV (((a1.getD (u614.2 : Int).toNat default).fIn).getD (u902.2 : Int).toNat default) (fun (x922 : Int) => ((fnS (F21 K x922)).bind (fun r923 => (chk [room ((u902.1 ++ ([32] : Bytes)).length + r923.length)] (some (.inr (((u902.1 ++ ([32] : Bytes)) ++ r923))))))))))))))))) (fun (u919 : Bytes) => (some (.inr (u919, (IntKind.i64.wrap (u902.2 + 1))))))) else (some (.inl (Sum.inl (u902.1)))))))) ((([115, 99, 97, 110, 32] : Bytes) ++ r852), 0)).map .inl)) (fun (u888 : Bytes) => (chk [room (u888.length + ([10] : Bytes).length)] (chk [room (u614.1.length + (u888 ++ ([10] : Bytes)).length)] (some (.inr ((u614.1 ++ (u888 ++ ([10] : Bytes)))))))))))))))))))))))) (fun (u847 : Bytes) => (some (.inr (u847, (IntKind.i64.wrap (u614.2 + 1))))))) else (some (.inl (Sum.inl (u614.1)))))))) (x2, 0)).map .inl)) (fun (u463 : Bytes) => (letV (decide (((Int.ofNat u463.length) : Int) > 65536)) (fun (x924 : Bool) => (if x924 = true then (some (.inl (([] : Bytes), 24))) else (some (.inl (u463, 0)))))))))))))

theorem F7_ok (K : Nat) (a0 : Bytes) (a1 : (List S35)) : DFun Tryz.prog 7 [.c (.str a0), .c (E35.tree a1)] [] (fnS (F7 K a0 a1)) (fun r => .tup [.c (.str r.1), .c (.val (.int .i64 r.2))]) (fun r => []) := by
 refine DFun.intro (fn := Tryz.f7) (c := cd (bd Tryz.f7) []) (rs := fun r => ⟨[sS 4 r.1, sI 5 r.2], [], [], 0⟩) (by kernel_rfl) (by kernel_rfl) (by kernel_rfl) ?_ (fun r => by kernel_rfl) (fun r => by kernel_rfl) (fun r => by kernel_rfl) (fun r => by kernel_rfl)
 unfold F7
 refine Ref.sq ?_
 refine Ref.rn 0 ?_
 refine RefR.e0 (st' := ⟨[sS 0 a0, (1, .c (E35.tree a1))], [], [], 0⟩) 0 2 2 [0, 1] [] ?_
 refine RefR.nl 2 ?_
 refine Ref.sq ?_
 refine Ref.rn 1 ?_
 refine RefR.e0 (st' := ⟨[(1, .c (E35.tree a1)), sS 11 a0], [], [], 0⟩) 0 1 1 [1, 11] [] ?_
 refine RefR.callC (t := 12) 1 2 [] rfl (by kernel_rfl) (F19_ok K a0) (fun r1 => ?_)
 refine RefR.evC (vs := [room (([115, 114, 99, 32] : Bytes).length + r1.length), room ((([115, 114, 99, 32] : Bytes) ++ r1).length + ([10] : Bytes).length)]) (st' := ⟨[(1, .c (E35.tree a1)), sS 14 ((([115, 114, 99, 32] : Bytes) ++ r1) ++ ([10] : Bytes))], [], [], 0⟩) 2 2 4 [1, 14] [] rfl (by kernel_rfl) ?_
 refine RefR.letC (stf := fun x2 => ⟨[(1, .c (E35.tree a1)), sS 14 x2], [], [], 0⟩) (by kernel_rfl) (fun x2 => ?_)
 refine RefR.strBytes (t := 15) (e := 5) 4 5 x2 (by kernel_rfl) (by kernel_rfl) ?_
 refine RefR.e0 (st' := ⟨[(1, .c (E35.tree a1)), (6, .c (.own 0 x2.length))], [.mrow 5 x2], [], 0⟩) 5 1 6 [1, 6] [0] ?_
 refine RefR.nl 6 ?_
 refine Ref.sq ?_
 refine Ref.sq ?_
 refine Ref.rn 2 ?_
 refine RefR.e0 (st' := ⟨[(1, .c (E35.tree a1)), (6, .c (.own 0 x2.length)), sI 7 0], [.mrow 5 x2], [], 0⟩) 0 1 1 [1, 6, 7] [0] ?_
 refine RefR.nl 1 ?_
 refine Ref.codeEq (c' := .block 0 (cd (bd Tryz.f7) [1, 1, 0, 1, 0])) (by kernel_rfl) ?_
 refine Ref.block (go1 := fun u463 => ⟨[(6, .c (.own 0 u463.length))], [.mrow 5 u463], [], 0⟩) ?_ (fun _ h => by cases h) (fun u463 => ?_)
 ·
  refine Ref.codeEq (c' := .loop (cd (bd Tryz.f7) [1, 1, 0, 1, 0, 0])) (by kernel_rfl) ?_
  refine Ref.loop (hd := fun u614 => ⟨[(1, .c (E35.tree a1)), (6, .c (.own 0 u614.1.length)), sI 7 u614.2], [.mrow 5 u614.1], [], 0⟩) K (x2, 0) (by kernel_rfl) (fun u614 => ?_)
  refine Ref.sq ?_
  refine Ref.sq ?_
  refine Ref.rn 3 ?_
  refine RefR.e0 (st' := ⟨[(1, .c (E35.tree a1)), (6, .c (.own 0 u614.1.length)), sI 7 u614.2, sB 19 (decide ((u614.2 : Int) < (Int.ofNat a1.length)))], [.mrow 5 u614.1], [], 0⟩) 0 4 4 [1, 6, 7, 19] [0] ?_
  refine RefR.letC (stf := fun x770 => ⟨[(1, .c (E35.tree a1)), (6, .c (.own 0 u614.1.length)), sI 7 u614.2, sB 19 x770], [.mrow 5 u614.1], [], 0⟩) (by kernel_rfl) (fun x770 => ?_)
  refine RefR.nl 4 ?_
  refine Ref.cn (.tmp 19) x770 (fun hc => ?_) (fun hc => ?_)
  ·
   refine Ref.sk ?_
   refine Ref.sq ?_
   refine Ref.codeEq (c' := .block 1 (cd (bd Tryz.f7) [1, 1, 0, 1, 0, 0, 1, 0, 0])) (by kernel_rfl) ?_
   refine Ref.block (go1 := fun u847 => ⟨[(1, .c (E35.tree a1)), (6, .c (.own 0 u847.length)), sI 7 u614.2], [.mrow 5 u847], [], 0⟩) ?_ (fun a => match a with | .inl _ => (fun h => by cases h) | .inr _ => (fun h => by cases h)) (fun u847 => ?_)
   ·
    refine Ref.sq ?_
    refine Ref.rn 5 ?_
    refine RefR.evC (vs := [inb u614.2 a1.length]) (st' := ⟨[(1, .c (E35.tree a1)), (6, .c (.own 0 u614.1.length)), sI 7 u614.2, sP 8 1 0 0], [.mrow 5 u614.1, .cells (E35.cs (a1.getD (u614.2 : Int).toNat default))], [], 0⟩) 0 6 6 [1, 6, 7, 8] [0, 1] rfl (by kernel_rfl) ?_
    refine RefR.nl 6 ?_
    refine Ref.sq ?_
    refine Ref.sq ?_
    refine Ref.rn 6 ?_
    refine RefR.e0 (st' := ⟨[(1, .c (E35.tree a1)), (6, .c (.own 0 u614.1.length)), sI 7 u614.2, sP 8 1 0 0, sI 27 ((a1.getD (u614.2 : Int).toNat default).fTicks)], [.mrow 5 u614.1, .cells (E35.cs (a1.getD (u614.2 : Int).toNat default))], [], 0⟩) 0 2 2 [1, 6, 7, 8, 27] [0, 1] ?_
    refine RefR.letC (stf := fun x848 => ⟨[(1, .c (E35.tree a1)), (6, .c (.own 0 u614.1.length)), sI 7 u614.2, sP 8 1 0 0, sI 27 x848], [.mrow 5 u614.1, .cells (E35.cs (a1.getD (u614.2 : Int).toNat default))], [], 0⟩) (by kernel_rfl) (fun x848 => ?_)
    refine RefR.callC (t := 28) 2 3 [] rfl (by kernel_rfl) (F20_ok K x848) (fun r849 => ?_)
    refine RefR.e0 (st' := ⟨[(1, .c (E35.tree a1)), (6, .c (.own 0 u614.1.length)), sI 7 u614.2, sP 8 1 0 0, sB 35 ((!r849) || (decide (((Int.ofNat ((a1.getD (u614.2 : Int).toNat default).fIn).length) : Int) > 16)))], [.mrow 5 u614.1, .cells (E35.cs (a1.getD (u614.2 : Int).toNat default))], [], 0⟩) 3 7 10 [1, 6, 7, 8, 35] [0, 1] ?_
    refine RefR.letC (stf := fun x850 => ⟨[(1, .c (E35.tree a1)), (6, .c (.own 0 u614.1.length)), sI 7 u614.2, sP 8 1 0 0, sB 35 x850], [.mrow 5 u614.1, .cells (E35.cs (a1.getD (u614.2 : Int).toNat default))], [], 0⟩) (by kernel_rfl) (fun x850 => ?_)
    refine RefR.nl 10 ?_
    refine Ref.cn (.tmp 35) x850 (fun hc => ?_) (fun hc => ?_)
    ·
     refine Ref.sq ?_
     refine Ref.rn 7 ?_
     refine RefR.e0 (st' := ⟨[sS 4 ([] : Bytes), sI 5 22], [], [], 0⟩) 0 2 2 [4, 5] [] ?_
     refine RefR.nl 2 ?_
     exact Ref.rt (t := (Sum.inr (Sum.inr (([] : Bytes), 22))))
    ·
     refine Ref.sk ?_
     refine Ref.sq ?_
     refine Ref.rn 8 ?_
     refine RefR.e0 (st' := ⟨[(1, .c (E35.tree a1)), (6, .c (.own 0 u614.1.length)), sI 7 u614.2, sP 8 1 0 0, sI 37 ((a1.getD (u614.2 : Int).toNat default).fTicks)], [.mrow 5 u614.1, .cells (E35.cs (a1.getD (u614.2 : Int).toNat default))], [], 0⟩) 0 2 2 [1, 6, 7, 8, 37] [0, 1] ?_
     refine RefR.letC (stf := fun x851 => ⟨[(1, .c (E35.tree a1)), (6, .c (.own 0 u614.1.length)), sI 7 u614.2, sP 8 1 0 0, sI 37 x851], [.mrow 5 u614.1, .cells (E35.cs (a1.getD (u614.2 : Int).toNat default))], [], 0⟩) (by kernel_rfl) (fun x851 => ?_)
     refine RefR.callC (t := 38) 2 3 [] rfl (by kernel_rfl) (F21_ok K x851) (fun r852 => ?_)
     refine RefR.evC (vs := [room (([115, 99, 97, 110, 32] : Bytes).length + r852.length)]) (st' := ⟨[(1, .c (E35.tree a1)), (6, .c (.own 0 u614.1.length)), sI 7 u614.2, sP 8 1 0 0, sS 9 (([115, 99, 97, 110, 32] : Bytes) ++ r852)], [.mrow 5 u614.1, .cells (E35.cs (a1.getD (u614.2 : Int).toNat default))], [], 0⟩) 3 2 5 [1, 6, 7, 8, 9] [0, 1] rfl (by kernel_rfl) ?_
     refine RefR.nl 5 ?_
     refine Ref.sq ?_
     refine Ref.sq ?_
     refine Ref.rn 9 ?_
     refine RefR.e0 (st' := ⟨[(1, .c (E35.tree a1)), (6, .c (.own 0 u614.1.length)), sI 7 u614.2, sP 8 1 0 0, sS 9 (([115, 99, 97, 110, 32] : Bytes) ++ r852), sI 10 0], [.mrow 5 u614.1, .cells (E35.cs (a1.getD (u614.2 : Int).toNat default))], [], 0⟩) 0 1 1 [1, 6, 7, 8, 9, 10] [0, 1] ?_
     refine RefR.nl 1 ?_
     refine Ref.codeEq (c' := .block 2 (cd (bd Tryz.f7) [1, 1, 0, 1, 0, 0, 1, 0, 0, 1, 1, 1, 0, 1, 0])) (by kernel_rfl) ?_
     refine Ref.block (go1 := fun u888 => ⟨[(1, .c (E35.tree a1)), (6, .c (.own 0 u614.1.length)), sI 7 u614.2, sS 9 u888], [.mrow 5 u614.1], [], 0⟩) ?_ (fun a => match a with | .inl _ => (fun h => by cases h) | .inr (.inl _) => (fun h => by cases h) | .inr (.inr _) => (fun h => by cases h)) (fun u888 => ?_)
     ·
      refine Ref.codeEq (c' := .loop (cd (bd Tryz.f7) [1, 1, 0, 1, 0, 0, 1, 0, 0, 1, 1, 1, 0, 1, 0, 0])) (by kernel_rfl) ?_
      refine Ref.loop (hd := fun u902 => ⟨[(1, .c (E35.tree a1)), (6, .c (.own 0 u614.1.length)), sI 7 u614.2, sP 8 1 0 0, sS 9 u902.1, sI 10 u902.2], [.mrow 5 u614.1, .cells (E35.cs (a1.getD (u614.2 : Int).toNat default))], [], 0⟩) K ((([115, 99, 97, 110, 32] : Bytes) ++ r852), 0) (by kernel_rfl) (fun u902 => ?_)
      refine Ref.sq ?_
      refine Ref.sq ?_
      refine Ref.rn 10 ?_
      refine RefR.e0 (st' := ⟨[(1, .c (E35.tree a1)), (6, .c (.own 0 u614.1.length)), sI 7 u614.2, sP 8 1 0 0, sS 9 u902.1, sI 10 u902.2, sB 44 (decide ((u902.2 : Int) < (Int.ofNat ((a1.getD (u614.2 : Int).toNat default).fIn).length)))], [.mrow 5 u614.1, .cells (E35.cs (a1.getD (u614.2 : Int).toNat default))], [], 0⟩) 0 5 5 [1, 6, 7, 8, 9, 10, 44] [0, 1] ?_
      refine RefR.letC (stf := fun x914 => ⟨[(1, .c (E35.tree a1)), (6, .c (.own 0 u614.1.length)), sI 7 u614.2, sP 8 1 0 0, sS 9 u902.1, sI 10 u902.2, sB 44 x914], [.mrow 5 u614.1, .cells (E35.cs (a1.getD (u614.2 : Int).toNat default))], [], 0⟩) (by kernel_rfl) (fun x914 => ?_)
      refine RefR.nl 5 ?_
      refine Ref.cn (.tmp 44) x914 (fun hc => ?_) (fun hc => ?_)
      ·
       refine Ref.sk ?_
       refine Ref.sq ?_
       refine Ref.codeEq (c' := .block 3 (cd (bd Tryz.f7) [1, 1, 0, 1, 0, 0, 1, 0, 0, 1, 1, 1, 0, 1, 0, 0, 1, 0, 0])) (by kernel_rfl) ?_
       refine Ref.block (go1 := fun u919 => ⟨[(1, .c (E35.tree a1)), (6, .c (.own 0 u614.1.length)), sI 7 u614.2, sP 8 1 0 0, sS 9 u919, sI 10 u902.2], [.mrow 5 u614.1, .cells (E35.cs (a1.getD (u614.2 : Int).toNat default))], [], 0⟩) ?_ (fun a => match a with | .inl _ => (fun h => by cases h) | .inr (.inl _) => (fun h => by cases h) | .inr (.inr (.inl _)) => (fun h => by cases h) | .inr (.inr (.inr _)) => (fun h => by cases h)) (fun u919 => ?_)
       ·
        refine Ref.sq ?_
        refine Ref.sq ?_
        refine Ref.rn 12 ?_
        refine RefR.evC (vs := [inb u902.2 ((a1.getD (u614.2 : Int).toNat default).fIn).length]) (st' := ⟨[(1, .c (E35.tree a1)), (6, .c (.own 0 u614.1.length)), sI 7 u614.2, sP 8 1 0 0, sS 9 u902.1, sI 10 u902.2, sI 51 (((a1.getD (u614.2 : Int).toNat default).fIn).getD (u902.2 : Int).toNat default)], [.mrow 5 u614.1, .cells (E35.cs (a1.getD (u614.2 : Int).toNat default))], [], 0⟩) 0 5 5 [1, 6, 7, 8, 9, 10, 51] [0, 1] rfl (by kernel_rfl) ?_
        refine RefR.letC (stf := fun x920 => ⟨[(1, .c (E35.tree a1)), (6, .c (.own 0 u614.1.length)), sI 7 u614.2, sP 8 1 0 0, sS 9 u902.1, sI 10 u902.2, sI 51 x920], [.mrow 5 u614.1, .cells (E35.cs (a1.getD (u614.2 : Int).toNat default))], [], 0⟩) (by kernel_rfl) (fun x920 => ?_)
        refine RefR.callC (t := 52) 5 6 [] rfl (by kernel_rfl) (F20_ok K x920) (fun r921 => ?_)
        refine RefR.e0 (st' := ⟨[(1, .c (E35.tree a1)), (6, .c (.own 0 u614.1.length)), sI 7 u614.2, sP 8 1 0 0, sS 9 u902.1, sI 10 u902.2, sB 53 (!r921)], [.mrow 5 u614.1, .cells (E35.cs (a1.getD (u614.2 : Int).toNat default))], [], 0⟩) 6 1 7 [1, 6, 7, 8, 9, 10, 53] [0, 1] ?_
        refine RefR.nl 7 ?_
        refine Ref.cn (.tmp 53) (!r921) (fun hc => ?_) (fun hc => ?_)
        ·
         refine Ref.sq ?_
         refine Ref.rn 13 ?_
         refine RefR.e0 (st' := ⟨[sS 4 ([] : Bytes), sI 5 22], [], [], 0⟩) 0 2 2 [4, 5] [] ?_
         refine RefR.nl 2 ?_
         exact Ref.rt (t := (Sum.inr (Sum.inr (Sum.inr (Sum.inr (([] : Bytes), 22))))))
        ·
         refine Ref.sk ?_
         refine Ref.rn 14 ?_
         refine RefR.evC (vs := [room (u902.1.length + ([32] : Bytes).length), inb u902.2 ((a1.getD (u614.2 : Int).toNat default).fIn).length]) (st' := ⟨[(1, .c (E35.tree a1)), (6, .c (.own 0 u614.1.length)), sI 7 u614.2, sP 8 1 0 0, sI 10 u902.2, sS 55 (u902.1 ++ ([32] : Bytes)), sI 60 (((a1.getD (u614.2 : Int).toNat default).fIn).getD (u902.2 : Int).toNat default)], [.mrow 5 u614.1, .cells (E35.cs (a1.getD (u614.2 : Int).toNat default))], [], 0⟩) 0 7 7 [1, 6, 7, 8, 10, 55, 60] [0, 1] rfl (by kernel_rfl) ?_
         refine RefR.letC (stf := fun x922 => ⟨[(1, .c (E35.tree a1)), (6, .c (.own 0 u614.1.length)), sI 7 u614.2, sP 8 1 0 0, sI 10 u902.2, sS 55 (u902.1 ++ ([32] : Bytes)), sI 60 x922], [.mrow 5 u614.1, .cells (E35.cs (a1.getD (u614.2 : Int).toNat default))], [], 0⟩) (by kernel_rfl) (fun x922 => ?_)
         refine RefR.callC (t := 61) 7 8 [] rfl (by kernel_rfl) (F21_ok K x922) (fun r923 => ?_)
         refine RefR.evC (vs := [room ((u902.1 ++ ([32] : Bytes)).length + r923.length)]) (st' := ⟨[(1, .c (E35.tree a1)), (6, .c (.own 0 u614.1.length)), sI 7 u614.2, sP 8 1 0 0, sS 9 ((u902.1 ++ ([32] : Bytes)) ++ r923), sI 10 u902.2], [.mrow 5 u614.1, .cells (E35.cs (a1.getD (u614.2 : Int).toNat default))], [], 0⟩) 8 2 10 [1, 6, 7, 8, 9, 10] [0, 1] rfl (by kernel_rfl) ?_
         refine RefR.nl 10 ?_
         exact Ref.n0 (t := (((u902.1 ++ ([32] : Bytes)) ++ r923)))
       ·
        refine Ref.rn 11 ?_
        refine RefR.e0 (st' := ⟨[(1, .c (E35.tree a1)), (6, .c (.own 0 u614.1.length)), sI 7 u614.2, sP 8 1 0 0, sS 9 u919, sI 10 (IntKind.i64.wrap (u902.2 + 1))], [.mrow 5 u614.1, .cells (E35.cs (a1.getD (u614.2 : Int).toNat default))], [], 0⟩) 0 3 3 [1, 6, 7, 8, 9, 10] [0, 1] ?_
        refine RefR.nl 3 ?_
        exact Ref.n0 (t := (u919, (IntKind.i64.wrap (u902.2 + 1))))
      ·
       refine Ref.conv (Conv.keep (st' := ⟨[(1, .c (E35.tree a1)), (6, .c (.own 0 u614.1.length)), sI 7 u614.2, sS 9 u902.1], [.mrow 5 u614.1], [], 0⟩) [1, 6, 7, 9] [0] (by kernel_rfl)) ?_
       exact Ref.xt 2 (t := (Sum.inl (u902.1)))
     ·
      refine Ref.rn 15 ?_
      refine RefR.evC (vs := [room (u888.length + ([10] : Bytes).length)]) (st' := ⟨[(1, .c (E35.tree a1)), sI 7 u614.2, (63, .c (.own 0 u614.1.length)), sS 65 (u888 ++ ([10] : Bytes))], [.mrow 5 u614.1], [], 0⟩) 0 3 3 [1, 7, 63, 65] [0] rfl (by kernel_rfl) ?_
      refine RefR.appM (t := 66) (e := 5) 3 4 0 u614.1 (u888 ++ ([10] : Bytes)) (by kernel_rfl) (by kernel_rfl) (by kernel_rfl) ?_
      refine RefR.e0 (st' := ⟨[(1, .c (E35.tree a1)), (6, .c (.own 0 ((u614.1 ++ (u888 ++ ([10] : Bytes))).length))), sI 7 u614.2], [.mrow 5 (u614.1 ++ (u888 ++ ([10] : Bytes)))], [], 0⟩) 4 1 5 [1, 6, 7] [1] ?_
      refine RefR.nl 5 ?_
      exact Ref.n0 (t := ((u614.1 ++ (u888 ++ ([10] : Bytes)))))
   ·
    refine Ref.rn 4 ?_
    refine RefR.e0 (st' := ⟨[(1, .c (E35.tree a1)), (6, .c (.own 0 u847.length)), sI 7 (IntKind.i64.wrap (u614.2 + 1))], [.mrow 5 u847], [], 0⟩) 0 3 3 [1, 6, 7] [0] ?_
    refine RefR.nl 3 ?_
    exact Ref.n0 (t := (u847, (IntKind.i64.wrap (u614.2 + 1))))
  ·
   refine Ref.conv (Conv.keep (st' := ⟨[(6, .c (.own 0 u614.1.length))], [.mrow 5 u614.1], [], 0⟩) [6] [0] (by kernel_rfl)) ?_
   exact Ref.xt 0 (t := (Sum.inl (u614.1)))
 ·
  refine Ref.sq ?_
  refine Ref.sq ?_
  refine Ref.rn 16 ?_
  refine RefR.e0 (st' := ⟨[(6, .c (.own 0 u463.length)), sB 69 (decide (((Int.ofNat u463.length) : Int) > 65536))], [.mrow 5 u463], [], 0⟩) 0 3 3 [6, 69] [0] ?_
  refine RefR.letC (stf := fun x924 => ⟨[(6, .c (.own 0 u463.length)), sB 69 x924], [.mrow 5 u463], [], 0⟩) (by kernel_rfl) (fun x924 => ?_)
  refine RefR.nl 3 ?_
  refine Ref.cn (.tmp 69) x924 (fun hc => ?_) (fun hc => ?_)
  ·
   refine Ref.sq ?_
   refine Ref.rn 17 ?_
   refine RefR.e0 (st' := ⟨[sS 4 ([] : Bytes), sI 5 24], [], [], 0⟩) 0 2 2 [4, 5] [] ?_
   refine RefR.nl 2 ?_
   exact Ref.rt (t := (([] : Bytes), 24))
  ·
   refine Ref.sk ?_
   refine Ref.sq ?_
   refine Ref.rn 18 ?_
   refine RefR.e0 (st' := ⟨[(70, .c (.own 0 u463.length))], [.mrow 5 u463], [], 0⟩) 0 1 1 [70] [0] ?_
   refine RefR.mrowStr (t := 71) (e := 5) 1 2 0 u463 (by kernel_rfl) (by kernel_rfl) (by kernel_rfl) ?_
   refine RefR.e0 (st' := ⟨[sS 4 u463, sI 5 0], [], [], 0⟩) 2 2 4 [4, 5] [] ?_
   refine RefR.nl 4 ?_
   exact Ref.rt (t := (u463, 0))

/-- governor/governorlaw25.ScriptPrints -/
def F3 (K : Nat) (a0 : Bytes) (a1 : (List S35)) : Option ((Bool) ⊕ (Bool)) :=
 (letV (decide (((Int.ofNat a0.length) : Int) > 40000)) (fun (x1 : Bool) => ((condM (!x1) (fnS (F4 K a1 40)) default).bind (fun r2 => (if (x1 || r2) = true then ((fnS (F5 K)).bind (fun r3 => (some (.inl (r3))))) else ((fnS (F6 K a0 a1)).bind (fun r4 => ((fnS (F7 K a0 a1)).bind (fun r5 => ((condM (r4.1 == r5.1) (fnS (F8 K r4.2)) default).bind (fun r6 => ((condM ((r4.1 == r5.1) && ((r6 : Int) == r5.2)) (fnS (F5 K)) default).bind (fun r7 => (letV (((r4.1 == r5.1) && ((r6 : Int) == r5.2)) && r7) (fun (x8 : Bool) => (some (.inl (x8))))))))))))))))))

theorem F3_ok (K : Nat) (a0 : Bytes) (a1 : (List S35)) : DFun Tryz.prog 3 [.c (.str a0), .c (E35.tree a1)] [] (fnS (F3 K a0 a1)) (fun r => .c (.val (.bool r))) (fun r => []) := by
 refine DFun.intro (fn := Tryz.f3) (c := cd (bd Tryz.f3) []) (rs := fun r => ⟨[sB 4 r], [], [], 0⟩) (by kernel_rfl) (by kernel_rfl) (by kernel_rfl) ?_ (fun r => by kernel_rfl) (fun r => by kernel_rfl) (fun r => by kernel_rfl) (fun r => by kernel_rfl)
 unfold F3
 refine Ref.sq ?_
 refine Ref.rn 0 ?_
 refine RefR.e0 (st' := ⟨[sS 0 a0, (1, .c (E35.tree a1))], [], [], 0⟩) 0 1 1 [0, 1] [] ?_
 refine RefR.nl 1 ?_
 refine Ref.sq ?_
 refine Ref.sq ?_
 refine Ref.rn 1 ?_
 refine RefR.e0 (st' := ⟨[sS 0 a0, (1, .c (E35.tree a1)), sB 12 (decide (((Int.ofNat a0.length) : Int) > 40000)), (13, .c (E35.tree a1))], [], [(13, [(12, false)])], 0⟩) 0 5 5 [0, 1, 12, 13] [] ?_
 refine RefR.letC (stf := fun x1 => ⟨[sS 0 a0, (1, .c (E35.tree a1)), sB 12 x1, (13, .c (E35.tree a1))], [], [(13, [(12, false)])], 0⟩) (by kernel_rfl) (fun x1 => ?_)
 refine RefR.lookC (t := 14) (g := [(12, false)]) (b := (!x1)) 5 6 [] (default : Bool) rfl (by kernel_rfl) (F4_ok K a1 40) (fun _ => rfl) (fun r2 => ?_)
 refine RefR.e0 (st' := ⟨[sS 0 a0, (1, .c (E35.tree a1)), sB 15 (x1 || r2)], [], [], 0⟩) 6 1 7 [0, 1, 15] [] ?_
 refine RefR.nl 7 ?_
 refine Ref.cn (.tmp 15) (x1 || r2) (fun hc => ?_) (fun hc => ?_)
 ·
  refine Ref.sq ?_
  refine Ref.rn 2 ?_
  refine RefR.callC (t := 16) 0 1 [] rfl (by kernel_rfl) (F5_ok K) (fun r3 => ?_)
  refine RefR.e0 (st' := ⟨[sB 4 r3], [], [], 0⟩) 1 1 2 [4] [] ?_
  refine RefR.nl 2 ?_
  exact Ref.rt (t := (r3))
 ·
  refine Ref.sk ?_
  refine Ref.sq ?_
  refine Ref.rn 3 ?_
  refine RefR.e0 (st' := ⟨[sS 0 a0, (1, .c (E35.tree a1)), sS 18 a0, (19, .c (E35.tree a1))], [], [], 0⟩) 0 2 2 [0, 1, 18, 19] [] ?_
  refine RefR.callC (t := 20) 2 3 [] rfl (by kernel_rfl) (F6_ok K a0 a1) (fun r4 => ?_)
  refine RefR.e0 (st' := ⟨[sS 0 a0, (1, .c (E35.tree a1)), sS 5 r4.1, (6, .c (errC r4.2))], [], [], 0⟩) 3 5 8 [0, 1, 5, 6] [] ?_
  refine RefR.nl 8 ?_
  refine Ref.sq ?_
  refine Ref.rn 4 ?_
  refine RefR.e0 (st' := ⟨[sS 5 r4.1, (6, .c (errC r4.2)), sS 24 a0, (25, .c (E35.tree a1))], [], [], 0⟩) 0 2 2 [5, 6, 24, 25] [] ?_
  refine RefR.callC (t := 26) 2 3 [] rfl (by kernel_rfl) (F7_ok K a0 a1) (fun r5 => ?_)
  refine RefR.e0 (st' := ⟨[sS 5 r4.1, (6, .c (errC r4.2)), sS 7 r5.1, sI 8 r5.2], [], [], 0⟩) 3 5 8 [5, 6, 7, 8] [] ?_
  refine RefR.nl 8 ?_
  refine Ref.sq ?_
  refine Ref.rn 5 ?_
  refine RefR.e0 (st' := ⟨[sI 8 r5.2, sB 32 (r4.1 == r5.1), (33, .c (errC r4.2))], [], [(33, [(32, true)])], 0⟩) 0 5 5 [8, 32, 33] [] ?_
  refine RefR.lookC (t := 34) (g := [(32, true)]) (b := (r4.1 == r5.1)) 5 6 [] (default : Int) rfl (by kernel_rfl) (F8_ok K r4.2) (fun _ => rfl) (fun r6 => ?_)
  refine RefR.e0 (st' := ⟨[sB 38 ((r4.1 == r5.1) && ((r6 : Int) == r5.2))], [], [], 0⟩) 6 4 10 [38] [] ?_
  refine RefR.lookC (t := 39) (g := [(38, true)]) (b := ((r4.1 == r5.1) && ((r6 : Int) == r5.2))) 10 11 [] (default : Bool) rfl (by kernel_rfl) (F5_ok K) (fun _ => rfl) (fun r7 => ?_)
  refine RefR.e0 (st' := ⟨[sB 4 (((r4.1 == r5.1) && ((r6 : Int) == r5.2)) && r7)], [], [], 0⟩) 11 2 13 [4] [] ?_
  refine RefR.letC (stf := fun x8 => ⟨[sB 4 x8], [], [], 0⟩) (by kernel_rfl) (fun x8 => ?_)
  refine RefR.nl 13 ?_
  exact Ref.rt (t := (x8))

end Go.Proofs.YtmllhpnlceaneaaGreatDoor
