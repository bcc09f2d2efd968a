/- Plain functions, and that the Go functions do what these do: printed by gen2.py. No conditions. -/
import Derived.Test.YtmllhpnlceaneaaDoorGc
import Derived.Test.YtmllhpnlceaneaaDoorProg
set_option linter.unusedVariables false
set_option linter.unusedSimpArgs false
set_option linter.unusedSectionVars false
namespace Go.Proofs.YtmllhpnlceaneaaDoor
open Go Go.Proofs Go.Dl

/-- governor/script.Print -/
def F17 (K : Nat) (a0 : Bytes) (a1 : (List S45)) : Option ((Bytes × Err) ⊕ (Bytes × Err)) :=
  ((fnS (F8 K a0)).bind (fun r1 => (chk [room (([115, 114, 99, 32] : Bytes).length + r1.length), room ((([115, 114, 99, 32] : Bytes) ++ r1).length + ([10] : Bytes).length)] (letV ((([115, 114, 99, 32] : Bytes) ++ r1) ++ ([10] : Bytes)) (fun (x2 : Bytes) => ((fnS (F24x73 K (⟨(⟨false, []⟩ : S52), false⟩ : S73) x2)).bind (fun r3 => (bindS (blockS ((iter K (fun (u303 : Bool × (List UInt8) × Bool × Int) => (letV (decide ((u303.2.2.2 : Int) < (Int.ofNat a1.length))) (fun (x369 : Bool) => (if x369 = true then (bindS (blockS (chk [inb u303.2.2.2 a1.length] ((fnS (F24x73 K (⟨(⟨u303.1, u303.2.1⟩ : S52), u303.2.2.1⟩ : S73) ([115, 99, 97, 110] : Bytes))).bind (fun r402 => (letV ((a1.getD (u303.2.2.2 : Int).toNat default).fTicks) (fun (x403 : Int) => ((fnS (F31 K r402.2.2 x403)).bind (fun r404 => (letV ((a1.getD (u303.2.2.2 : Int).toNat default).fIn) (fun (x405 : (List Int)) => (letV (Int.ofNat ((a1.getD (u303.2.2.2 : Int).toNat default).fIn).length) (fun (x406 : Int) => (bindS (blockS ((iter K (fun (u424 : Bool × (List UInt8) × Bool × Int) => (if (decide ((u424.2.2.2 : Int) < x406)) = true then (bindS (blockS (chk [inb u424.2.2.2 x405.length] ((fnS (F31 K (⟨(⟨u424.1, u424.2.1⟩ : S52), u424.2.2.1⟩ : S73) (x405.getD (u424.2.2.2 : Int).toNat default))).bind (fun r431 => (some (.inr (r431.fBuilder.faddr, r431.fBuilder.fbuf, r431.fbad))))))) (fun (u430 : Bool × (List UInt8) × Bool) => (some (.inr (u430.1, u430.2.1, u430.2.2, (IntKind.i64.wrap (u424.2.2.2 + 1))))))) else (some (.inl (Sum.inl (u424.1, u424.2.1, u424.2.2.1)))))) (r404.fBuilder.faddr, r404.fBuilder.fbuf, (r404.fbad || (decide (((Int.ofNat ((a1.getD (u303.2.2.2 : Int).toNat default).fIn).length) : Int) > 16))), 0)).map .inl)) (fun (u419 : Bool × (List UInt8) × Bool) => ((fnS (F32x73 K (⟨(⟨u419.1, u419.2.1⟩ : S52), u419.2.2⟩ : S73) (b8 10))).bind (fun r432 => (some (.inr (r432.2.fBuilder.faddr, r432.2.fBuilder.fbuf, r432.2.fbad))))))))))))))))))) (fun (u401 : Bool × (List UInt8) × Bool) => (some (.inr (u401.1, u401.2.1, u401.2.2, (IntKind.i64.wrap (u303.2.2.2 + 1))))))) else (some (.inl (Sum.inl (u303.1, u303.2.1, u303.2.2.1)))))))) (r3.2.2.fBuilder.faddr, r3.2.2.fBuilder.fbuf, r3.2.2.fbad, 0)).map .inl)) (fun (u218 : Bool × (List UInt8) × Bool) => (bindS (blockS (if u218.2.2 = true then ((fnS (F21 K 22 0)).bind (fun r437 => (some (.inl (Sum.inr (([] : Bytes), r437)))))) else ((fnS (F33x73 K (⟨(⟨u218.1, u218.2.1⟩ : S52), u218.2.2⟩ : S73))).bind (fun r438 => (if (decide ((r438.1 : Int) > 65536)) = true then ((fnS (F21 K 24 0)).bind (fun r439 => (some (.inl (Sum.inr (([] : Bytes), r439)))))) else (some (.inr (r438.2.fBuilder.faddr, r438.2.fBuilder.fbuf, r438.2.fbad)))))))) (fun (u436 : Bool × (List UInt8) × Bool) => ((fnS (F26x73 K (⟨(⟨u436.1, u436.2.1⟩ : S52), u436.2.2⟩ : S73))).bind (fun r440 => (some (.inl (r440, none))))))))))))))))

theorem F17_ok (K : Nat) (a0 : Bytes) (a1 : (List S45)) : DFun Tryd.prog 17 [.c (.str a0), .c (E45.tree a1)] [] (fnS (F17 K a0 a1)) (fun r => .tup [.c (.str r.1), .c (errC r.2)]) (fun r => []) := by
  refine DFun.intro (fn := Tryd.f17) (c := cd (bd Tryd.f17) []) (rs := fun r => ⟨[(4, .c (.str r.1)), (5, .c (errC r.2))], [], [], 0⟩) (by kernel_rfl) (by kernel_rfl) (by kernel_rfl) ?_ (fun r => by kernel_rfl) (fun r => by kernel_rfl) (fun r => by kernel_rfl) (fun r => by kernel_rfl)
  unfold F17
  refine Ref.seqC (cd (bd Tryd.f17) [0]) (cd (bd Tryd.f17) [1]) (by kernel_rfl) ?_
  refine Ref.regionC 0 (by kernel_rfl) ?_
  refine RefR.ev0 (st' := ⟨[(0, .c (.str a0)), (1, .c (E45.tree a1))], [], [], 0⟩) 0 2 2 [0, 1] [] rfl (by kernel_rfl) ?_
  refine RefR.nilC 2 (by kernel_rfl) ?_
  refine Ref.seqC (cd (bd Tryd.f17) [1, 0]) (cd (bd Tryd.f17) [1, 1]) (by kernel_rfl) ?_
  refine Ref.regionC 1 (by kernel_rfl) ?_
  refine RefR.ev0 (st' := ⟨[(0, .c (.str a0)), (1, .c (E45.tree a1)), (11, .agg [.val (.pointer none), .nil, .val (.bool false)])], [], [], 0⟩) 0 1 1 [0, 1, 11] [] rfl (by kernel_rfl) ?_
  refine RefR.allocSelf (d := 12) (t := 73) (cl := [.nil, .val (.bool false)]) 1 2 (by kernel_rfl) (by kernel_rfl) ?_
  refine RefR.ev0 (st' := ⟨[(0, .c (.str a0)), (1, .c (E45.tree a1)), (6, .c (.ptr 0 0 0))], [.cells [.self 73 false 0, .nil, .val (.bool false)]], [], 0⟩) 2 1 3 [0, 1, 6] [0] rfl (by kernel_rfl) ?_
  refine RefR.nilC 3 (by kernel_rfl) ?_
  refine Ref.seqC (cd (bd Tryd.f17) [1, 1, 0]) (cd (bd Tryd.f17) [1, 1, 1]) (by kernel_rfl) ?_
  refine Ref.drawnY 2 (by kernel_rfl) (by kernel_rfl) ?_
  refine RefY.evC0 (st' := ⟨[(1, .c (E45.tree a1)), (6, .c (.ptr 0 0 0)), (15, .c (.ptr 0 0 0)), (16, .c (.str a0))], [.cells [.self 73 false 0, .nil, .val (.bool false)]], [], 0⟩) (fuel' := 4) [0, 1, 2, 3] [1, 6, 15, 16] [0] rfl (by kernel_rfl) (by kernel_rfl) ?_
  refine RefY.tail [4, 5, 6, 7] rfl (by kernel_rfl) ?_
  refine RefR.callC (t := 17) 0 1 [] rfl (by kernel_rfl) (F8_ok K a0) (fun r1 => ?_)
  refine RefR.evC (vs := [room (([115, 114, 99, 32] : Bytes).length + r1.length), room ((([115, 114, 99, 32] : Bytes) ++ r1).length + ([10] : Bytes).length)]) (st' := ⟨[(1, .c (E45.tree a1)), (6, .c (.ptr 0 0 0)), (15, .c (.ptr 0 0 0)), (19, .c (.str ((([115, 114, 99, 32] : Bytes) ++ r1) ++ ([10] : Bytes))))], [.cells [.self 73 false 0, .nil, .val (.bool false)]], [], 0⟩) 1 2 3 [1, 6, 15, 19] [0] rfl (by kernel_rfl) ?_
  refine RefR.letC (stf := fun x2 => ⟨[(1, .c (E45.tree a1)), (6, .c (.ptr 0 0 0)), (15, .c (.ptr 0 0 0)), (19, .c (.str x2))], [.cells [.self 73 false 0, .nil, .val (.bool false)]], [], 0⟩) (by kernel_rfl) (fun x2 => ?_)
  refine RefR.conv (Conv.adoptCell (st' := ⟨[(1, .c (E45.tree a1)), (6, .c (.ptr 0 0 0)), (15, .c (.ptr 0 0 0)), (19, .c (.str x2))], [.cells [.self 73 false 0, .own 1 0, .val (.bool false)], E5.row []], [], 0⟩) 0 1 E5.ty E5.w (E5.at []) (by kernel_rfl)) ?_
  refine RefR.callC (t := 20) 3 4 [0, 1] rfl (by kernel_rfl) (F24x73_ok K (⟨(⟨false, []⟩ : S52), false⟩ : S73) x2) (fun r3 => ?_)
  refine RefR.nilC 4 (by kernel_rfl) ?_
  refine Ref.seqC (cd (bd Tryd.f17) [1, 1, 1, 0]) (cd (bd Tryd.f17) [1, 1, 1, 1]) (by kernel_rfl) ?_
  refine Ref.seqC (cd (bd Tryd.f17) [1, 1, 1, 0, 0]) (cd (bd Tryd.f17) [1, 1, 1, 0, 1]) (by kernel_rfl) ?_
  refine Ref.regionC 3 (by kernel_rfl) ?_
  refine RefR.ev0 (st' := ⟨[(6, .c (.ptr 0 0 0)), (21, .c (E45.tree a1)), (22, .c (.val (.int .i64 (Int.ofNat a1.length)))), (23, .c (.val (.int .i64 0)))], [.cells [.self 73 r3.2.2.fBuilder.faddr 0, .own 1 r3.2.2.fBuilder.fbuf.length, .val (.bool r3.2.2.fbad)], E5.row r3.2.2.fBuilder.fbuf], [], 0⟩) 0 3 3 [6, 21, 22, 23] [0, 2] rfl (by kernel_rfl) ?_
  refine RefR.nilC 3 (by kernel_rfl) ?_
  refine Ref.codeEq (c' := .block 0 (cd (bd Tryd.f17) [1, 1, 1, 0, 1, 0])) (by kernel_rfl) ?_
  refine Ref.block (go1 := fun u218 => ⟨[(6, .c (.ptr 0 0 0))], [.cells [.self 73 u218.1 0, .own 1 u218.2.1.length, .val (.bool u218.2.2)], E5.row u218.2.1], [], 0⟩) ?_ (fun _ h => by cases h) (fun u218 => ?_)
  ·
    refine Ref.codeEq (c' := .loop (cd (bd Tryd.f17) [1, 1, 1, 0, 1, 0, 0])) (by kernel_rfl) ?_
    refine Ref.loop (hd := fun u303 => ⟨[(6, .c (.ptr 0 0 0)), (21, .c (E45.tree a1)), (22, .c (.val (.int .i64 (Int.ofNat a1.length)))), (23, .c (.val (.int .i64 u303.2.2.2)))], [.cells [.self 73 u303.1 0, .own 1 u303.2.1.length, .val (.bool u303.2.2.1)], E5.row u303.2.1], [], 0⟩) K (r3.2.2.fBuilder.faddr, r3.2.2.fBuilder.fbuf, r3.2.2.fbad, 0) (by kernel_rfl) (fun u303 => ?_)
    refine Ref.seqC (cd (bd Tryd.f17) [1, 1, 1, 0, 1, 0, 0, 0]) (cd (bd Tryd.f17) [1, 1, 1, 0, 1, 0, 0, 1]) (by kernel_rfl) ?_
    refine Ref.regionC 4 (by kernel_rfl) ?_
    refine RefR.ev0 (st' := ⟨[(6, .c (.ptr 0 0 0)), (21, .c (E45.tree a1)), (22, .c (.val (.int .i64 (Int.ofNat a1.length)))), (23, .c (.val (.int .i64 u303.2.2.2))), (24, .c (.val (.bool (decide ((u303.2.2.2 : Int) < (Int.ofNat a1.length))))))], [.cells [.self 73 u303.1 0, .own 1 u303.2.1.length, .val (.bool u303.2.2.1)], E5.row u303.2.1], [], 0⟩) 0 1 1 [6, 21, 22, 23, 24] [0, 1] rfl (by kernel_rfl) ?_
    refine RefR.letC (stf := fun x369 => ⟨[(6, .c (.ptr 0 0 0)), (21, .c (E45.tree a1)), (22, .c (.val (.int .i64 (Int.ofNat a1.length)))), (23, .c (.val (.int .i64 u303.2.2.2))), (24, .c (.val (.bool x369)))], [.cells [.self 73 u303.1 0, .own 1 u303.2.1.length, .val (.bool u303.2.2.1)], E5.row u303.2.1], [], 0⟩) (by kernel_rfl) (fun x369 => ?_)
    refine RefR.nilC 1 (by kernel_rfl) ?_
    refine Ref.seqC (cd (bd Tryd.f17) [1, 1, 1, 0, 1, 0, 0, 1, 0]) (cd (bd Tryd.f17) [1, 1, 1, 0, 1, 0, 0, 1, 1]) (by kernel_rfl) ?_
    refine Ref.condC (.tmp 24) x369 (by kernel_rfl) rfl (by kernel_rfl) (fun hc => ?_) (fun hc => ?_)
    ·
      refine Ref.skipC (by kernel_rfl) ?_
      refine Ref.seqC (cd (bd Tryd.f17) [1, 1, 1, 0, 1, 0, 0, 1, 1, 0]) (cd (bd Tryd.f17) [1, 1, 1, 0, 1, 0, 0, 1, 1, 1]) (by kernel_rfl) ?_
      refine Ref.codeEq (c' := .block 1 (cd (bd Tryd.f17) [1, 1, 1, 0, 1, 0, 0, 1, 1, 0, 0])) (by kernel_rfl) ?_
      refine Ref.block (go1 := fun u401 => ⟨[(6, .c (.ptr 0 0 0)), (21, .c (E45.tree a1)), (22, .c (.val (.int .i64 (Int.ofNat a1.length)))), (23, .c (.val (.int .i64 u303.2.2.2)))], [.cells [.self 73 u401.1 0, .own 1 u401.2.1.length, .val (.bool u401.2.2)], E5.row u401.2.1], [], 0⟩) ?_ (fun a => match a with | .inl _ => (fun h => by cases h) | .inr _ => (fun h => by cases h)) (fun u401 => ?_)
      ·
        refine Ref.seqC (cd (bd Tryd.f17) [1, 1, 1, 0, 1, 0, 0, 1, 1, 0, 0, 0]) (cd (bd Tryd.f17) [1, 1, 1, 0, 1, 0, 0, 1, 1, 0, 0, 1]) (by kernel_rfl) ?_
        refine Ref.regionC 5 (by kernel_rfl) ?_
        refine RefR.evC (vs := [inb u303.2.2.2 a1.length]) (st' := ⟨[(6, .c (.ptr 0 0 0)), (8, .c (.ptr 2 0 0)), (21, .c (E45.tree a1)), (22, .c (.val (.int .i64 (Int.ofNat a1.length)))), (23, .c (.val (.int .i64 u303.2.2.2)))], [.cells [.self 73 u303.1 0, .own 1 u303.2.1.length, .val (.bool u303.2.2.1)], E5.row u303.2.1, .cells (E45.cs (a1.getD (u303.2.2.2 : Int).toNat default))], [], 0⟩) 0 4 4 [6, 8, 21, 22, 23] [0, 1, 2] rfl (by kernel_rfl) ?_
        refine RefR.nilC 4 (by kernel_rfl) ?_
        refine Ref.seqC (cd (bd Tryd.f17) [1, 1, 1, 0, 1, 0, 0, 1, 1, 0, 0, 1, 0]) (cd (bd Tryd.f17) [1, 1, 1, 0, 1, 0, 0, 1, 1, 0, 0, 1, 1]) (by kernel_rfl) ?_
        refine Ref.regionC 6 (by kernel_rfl) ?_
        refine RefR.ev0 (st' := ⟨[(6, .c (.ptr 0 0 0)), (8, .c (.ptr 2 0 0)), (21, .c (E45.tree a1)), (22, .c (.val (.int .i64 (Int.ofNat a1.length)))), (23, .c (.val (.int .i64 u303.2.2.2))), (29, .c (.ptr 0 0 0))], [.cells [.self 73 u303.1 0, .own 1 u303.2.1.length, .val (.bool u303.2.2.1)], E5.row u303.2.1, .cells (E45.cs (a1.getD (u303.2.2.2 : Int).toNat default))], [], 0⟩) 0 3 3 [6, 8, 21, 22, 23, 29] [0, 1, 2] rfl (by kernel_rfl) ?_
        refine RefR.callC (t := 30) 3 4 [0, 1] rfl (by kernel_rfl) (F24x73_ok K (⟨(⟨u303.1, u303.2.1⟩ : S52), u303.2.2.1⟩ : S73) ([115, 99, 97, 110] : Bytes)) (fun r402 => ?_)
        refine RefR.nilC 4 (by kernel_rfl) ?_
        refine Ref.seqC (cd (bd Tryd.f17) [1, 1, 1, 0, 1, 0, 0, 1, 1, 0, 0, 1, 1, 0]) (cd (bd Tryd.f17) [1, 1, 1, 0, 1, 0, 0, 1, 1, 0, 0, 1, 1, 1]) (by kernel_rfl) ?_
        refine Ref.regionC 7 (by kernel_rfl) ?_
        refine RefR.ev0 (st' := ⟨[(6, .c (.ptr 0 0 0)), (8, .c (.ptr 1 0 0)), (21, .c (E45.tree a1)), (22, .c (.val (.int .i64 (Int.ofNat a1.length)))), (23, .c (.val (.int .i64 u303.2.2.2))), (31, .c (.ptr 0 0 0)), (33, .c (.val (.int .i64 ((a1.getD (u303.2.2.2 : Int).toNat default).fTicks))))], [.cells [.self 73 r402.2.2.fBuilder.faddr 0, .own 2 r402.2.2.fBuilder.fbuf.length, .val (.bool r402.2.2.fbad)], .cells (E45.cs (a1.getD (u303.2.2.2 : Int).toNat default)), E5.row r402.2.2.fBuilder.fbuf], [], 0⟩) 0 3 3 [6, 8, 21, 22, 23, 31, 33] [0, 2, 3] rfl (by kernel_rfl) ?_
        refine RefR.letC (stf := fun x403 => ⟨[(6, .c (.ptr 0 0 0)), (8, .c (.ptr 1 0 0)), (21, .c (E45.tree a1)), (22, .c (.val (.int .i64 (Int.ofNat a1.length)))), (23, .c (.val (.int .i64 u303.2.2.2))), (31, .c (.ptr 0 0 0)), (33, .c (.val (.int .i64 x403)))], [.cells [.self 73 r402.2.2.fBuilder.faddr 0, .own 2 r402.2.2.fBuilder.fbuf.length, .val (.bool r402.2.2.fbad)], .cells (E45.cs (a1.getD (u303.2.2.2 : Int).toNat default)), E5.row r402.2.2.fBuilder.fbuf], [], 0⟩) (by kernel_rfl) (fun x403 => ?_)
        refine RefR.callC (t := 34) 3 4 [0, 2] rfl (by kernel_rfl) (F31_ok K r402.2.2 x403) (fun r404 => ?_)
        refine RefR.nilC 4 (by kernel_rfl) ?_
        refine Ref.seqC (cd (bd Tryd.f17) [1, 1, 1, 0, 1, 0, 0, 1, 1, 0, 0, 1, 1, 1, 0]) (cd (bd Tryd.f17) [1, 1, 1, 0, 1, 0, 0, 1, 1, 0, 0, 1, 1, 1, 1]) (by kernel_rfl) ?_
        refine Ref.regionC 8 (by kernel_rfl) ?_
        refine RefR.ev0 (st' := ⟨[(6, .c (.ptr 0 0 0)), (8, .c (.ptr 1 0 0)), (21, .c (E45.tree a1)), (22, .c (.val (.int .i64 (Int.ofNat a1.length)))), (23, .c (.val (.int .i64 u303.2.2.2)))], [.cells [.self 73 r404.fBuilder.faddr 0, .own 2 r404.fBuilder.fbuf.length, .val (.bool (r404.fbad || (decide (((Int.ofNat ((a1.getD (u303.2.2.2 : Int).toNat default).fIn).length) : Int) > 16))))], .cells (E45.cs (a1.getD (u303.2.2.2 : Int).toNat default)), E5.row r404.fBuilder.fbuf], [], 0⟩) 0 14 14 [6, 8, 21, 22, 23] [0, 1, 3] rfl (by kernel_rfl) ?_
        refine RefR.nilC 14 (by kernel_rfl) ?_
        refine Ref.seqC (cd (bd Tryd.f17) [1, 1, 1, 0, 1, 0, 0, 1, 1, 0, 0, 1, 1, 1, 1, 0]) (cd (bd Tryd.f17) [1, 1, 1, 0, 1, 0, 0, 1, 1, 0, 0, 1, 1, 1, 1, 1]) (by kernel_rfl) ?_
        refine Ref.seqC (cd (bd Tryd.f17) [1, 1, 1, 0, 1, 0, 0, 1, 1, 0, 0, 1, 1, 1, 1, 0, 0]) (cd (bd Tryd.f17) [1, 1, 1, 0, 1, 0, 0, 1, 1, 0, 0, 1, 1, 1, 1, 0, 1]) (by kernel_rfl) ?_
        refine Ref.regionC 9 (by kernel_rfl) ?_
        refine RefR.ev0 (st' := ⟨[(6, .c (.ptr 0 0 0)), (21, .c (E45.tree a1)), (22, .c (.val (.int .i64 (Int.ofNat a1.length)))), (23, .c (.val (.int .i64 u303.2.2.2))), (49, .c (E3.tree ((a1.getD (u303.2.2.2 : Int).toNat default).fIn))), (50, .c (.val (.int .i64 (Int.ofNat ((a1.getD (u303.2.2.2 : Int).toNat default).fIn).length)))), (51, .c (.val (.int .i64 0)))], [.cells [.self 73 r404.fBuilder.faddr 0, .own 1 r404.fBuilder.fbuf.length, .val (.bool (r404.fbad || (decide (((Int.ofNat ((a1.getD (u303.2.2.2 : Int).toNat default).fIn).length) : Int) > 16))))], E5.row r404.fBuilder.fbuf], [], 0⟩) 0 4 4 [6, 21, 22, 23, 49, 50, 51] [0, 2] rfl (by kernel_rfl) ?_
        refine RefR.letC (stf := fun x405 => ⟨[(6, .c (.ptr 0 0 0)), (21, .c (E45.tree a1)), (22, .c (.val (.int .i64 (Int.ofNat a1.length)))), (23, .c (.val (.int .i64 u303.2.2.2))), (49, .c (E3.tree x405)), (50, .c (.val (.int .i64 (Int.ofNat ((a1.getD (u303.2.2.2 : Int).toNat default).fIn).length)))), (51, .c (.val (.int .i64 0)))], [.cells [.self 73 r404.fBuilder.faddr 0, .own 1 r404.fBuilder.fbuf.length, .val (.bool (r404.fbad || (decide (((Int.ofNat ((a1.getD (u303.2.2.2 : Int).toNat default).fIn).length) : Int) > 16))))], E5.row r404.fBuilder.fbuf], [], 0⟩) (by kernel_rfl) (fun x405 => ?_)
        refine RefR.letC (stf := fun x406 => ⟨[(6, .c (.ptr 0 0 0)), (21, .c (E45.tree a1)), (22, .c (.val (.int .i64 (Int.ofNat a1.length)))), (23, .c (.val (.int .i64 u303.2.2.2))), (49, .c (E3.tree x405)), (50, .c (.val (.int .i64 x406))), (51, .c (.val (.int .i64 0)))], [.cells [.self 73 r404.fBuilder.faddr 0, .own 1 r404.fBuilder.fbuf.length, .val (.bool (r404.fbad || (decide (((Int.ofNat ((a1.getD (u303.2.2.2 : Int).toNat default).fIn).length) : Int) > 16))))], E5.row r404.fBuilder.fbuf], [], 0⟩) (by kernel_rfl) (fun x406 => ?_)
        refine RefR.nilC 4 (by kernel_rfl) ?_
        refine Ref.codeEq (c' := .block 2 (cd (bd Tryd.f17) [1, 1, 1, 0, 1, 0, 0, 1, 1, 0, 0, 1, 1, 1, 1, 0, 1, 0])) (by kernel_rfl) ?_
        refine Ref.block (go1 := fun u419 => ⟨[(6, .c (.ptr 0 0 0)), (21, .c (E45.tree a1)), (22, .c (.val (.int .i64 (Int.ofNat a1.length)))), (23, .c (.val (.int .i64 u303.2.2.2)))], [.cells [.self 73 u419.1 0, .own 1 u419.2.1.length, .val (.bool u419.2.2)], E5.row u419.2.1], [], 0⟩) ?_ (fun a => match a with | .inl _ => (fun h => by cases h) | .inr (.inl _) => (fun h => by cases h) | .inr (.inr _) => (fun h => by cases h)) (fun u419 => ?_)
        ·
          refine Ref.codeEq (c' := .loop (cd (bd Tryd.f17) [1, 1, 1, 0, 1, 0, 0, 1, 1, 0, 0, 1, 1, 1, 1, 0, 1, 0, 0])) (by kernel_rfl) ?_
          refine Ref.loop (hd := fun u424 => ⟨[(6, .c (.ptr 0 0 0)), (21, .c (E45.tree a1)), (22, .c (.val (.int .i64 (Int.ofNat a1.length)))), (23, .c (.val (.int .i64 u303.2.2.2))), (49, .c (E3.tree x405)), (50, .c (.val (.int .i64 x406))), (51, .c (.val (.int .i64 u424.2.2.2)))], [.cells [.self 73 u424.1 0, .own 1 u424.2.1.length, .val (.bool u424.2.2.1)], E5.row u424.2.1], [], 0⟩) K (r404.fBuilder.faddr, r404.fBuilder.fbuf, (r404.fbad || (decide (((Int.ofNat ((a1.getD (u303.2.2.2 : Int).toNat default).fIn).length) : Int) > 16))), 0) (by kernel_rfl) (fun u424 => ?_)
          refine Ref.seqC (cd (bd Tryd.f17) [1, 1, 1, 0, 1, 0, 0, 1, 1, 0, 0, 1, 1, 1, 1, 0, 1, 0, 0, 0]) (cd (bd Tryd.f17) [1, 1, 1, 0, 1, 0, 0, 1, 1, 0, 0, 1, 1, 1, 1, 0, 1, 0, 0, 1]) (by kernel_rfl) ?_
          refine Ref.regionC 10 (by kernel_rfl) ?_
          refine RefR.ev0 (st' := ⟨[(6, .c (.ptr 0 0 0)), (21, .c (E45.tree a1)), (22, .c (.val (.int .i64 (Int.ofNat a1.length)))), (23, .c (.val (.int .i64 u303.2.2.2))), (49, .c (E3.tree x405)), (50, .c (.val (.int .i64 x406))), (51, .c (.val (.int .i64 u424.2.2.2))), (52, .c (.val (.bool (decide ((u424.2.2.2 : Int) < x406)))))], [.cells [.self 73 u424.1 0, .own 1 u424.2.1.length, .val (.bool u424.2.2.1)], E5.row u424.2.1], [], 0⟩) 0 1 1 [6, 21, 22, 23, 49, 50, 51, 52] [0, 1] rfl (by kernel_rfl) ?_
          refine RefR.nilC 1 (by kernel_rfl) ?_
          refine Ref.seqC (cd (bd Tryd.f17) [1, 1, 1, 0, 1, 0, 0, 1, 1, 0, 0, 1, 1, 1, 1, 0, 1, 0, 0, 1, 0]) (cd (bd Tryd.f17) [1, 1, 1, 0, 1, 0, 0, 1, 1, 0, 0, 1, 1, 1, 1, 0, 1, 0, 0, 1, 1]) (by kernel_rfl) ?_
          refine Ref.condC (.tmp 52) (decide ((u424.2.2.2 : Int) < x406)) (by kernel_rfl) rfl (by kernel_rfl) (fun hc => ?_) (fun hc => ?_)
          ·
            refine Ref.skipC (by kernel_rfl) ?_
            refine Ref.seqC (cd (bd Tryd.f17) [1, 1, 1, 0, 1, 0, 0, 1, 1, 0, 0, 1, 1, 1, 1, 0, 1, 0, 0, 1, 1, 0]) (cd (bd Tryd.f17) [1, 1, 1, 0, 1, 0, 0, 1, 1, 0, 0, 1, 1, 1, 1, 0, 1, 0, 0, 1, 1, 1]) (by kernel_rfl) ?_
            refine Ref.codeEq (c' := .block 3 (cd (bd Tryd.f17) [1, 1, 1, 0, 1, 0, 0, 1, 1, 0, 0, 1, 1, 1, 1, 0, 1, 0, 0, 1, 1, 0, 0])) (by kernel_rfl) ?_
            refine Ref.block (go1 := fun u430 => ⟨[(6, .c (.ptr 0 0 0)), (21, .c (E45.tree a1)), (22, .c (.val (.int .i64 (Int.ofNat a1.length)))), (23, .c (.val (.int .i64 u303.2.2.2))), (49, .c (E3.tree x405)), (50, .c (.val (.int .i64 x406))), (51, .c (.val (.int .i64 u424.2.2.2)))], [.cells [.self 73 u430.1 0, .own 1 u430.2.1.length, .val (.bool u430.2.2)], E5.row u430.2.1], [], 0⟩) ?_ (fun a => match a with | .inl _ => (fun h => by cases h) | .inr (.inl _) => (fun h => by cases h) | .inr (.inr (.inl _)) => (fun h => by cases h) | .inr (.inr (.inr _)) => (fun h => by cases h)) (fun u430 => ?_)
            ·
              refine Ref.seqC (cd (bd Tryd.f17) [1, 1, 1, 0, 1, 0, 0, 1, 1, 0, 0, 1, 1, 1, 1, 0, 1, 0, 0, 1, 1, 0, 0, 0]) (cd (bd Tryd.f17) [1, 1, 1, 0, 1, 0, 0, 1, 1, 0, 0, 1, 1, 1, 1, 0, 1, 0, 0, 1, 1, 0, 0, 1]) (by kernel_rfl) ?_
              refine Ref.regionC 11 (by kernel_rfl) ?_
              refine RefR.evC (vs := [inb u424.2.2.2 x405.length]) (st' := ⟨[(6, .c (.ptr 0 0 0)), (10, .c (.val (.int .i64 (x405.getD (u424.2.2.2 : Int).toNat default)))), (21, .c (E45.tree a1)), (22, .c (.val (.int .i64 (Int.ofNat a1.length)))), (23, .c (.val (.int .i64 u303.2.2.2))), (49, .c (E3.tree x405)), (50, .c (.val (.int .i64 x406))), (51, .c (.val (.int .i64 u424.2.2.2)))], [.cells [.self 73 u424.1 0, .own 1 u424.2.1.length, .val (.bool u424.2.2.1)], E5.row u424.2.1], [], 0⟩) 0 3 3 [6, 10, 21, 22, 23, 49, 50, 51] [0, 1] rfl (by kernel_rfl) ?_
              refine RefR.nilC 3 (by kernel_rfl) ?_
              refine Ref.regionC 12 (by kernel_rfl) ?_
              refine RefR.ev0 (st' := ⟨[(6, .c (.ptr 0 0 0)), (21, .c (E45.tree a1)), (22, .c (.val (.int .i64 (Int.ofNat a1.length)))), (23, .c (.val (.int .i64 u303.2.2.2))), (49, .c (E3.tree x405)), (50, .c (.val (.int .i64 x406))), (51, .c (.val (.int .i64 u424.2.2.2))), (55, .c (.ptr 0 0 0)), (56, .c (.val (.int .i64 (x405.getD (u424.2.2.2 : Int).toNat default))))], [.cells [.self 73 u424.1 0, .own 1 u424.2.1.length, .val (.bool u424.2.2.1)], E5.row u424.2.1], [], 0⟩) 0 2 2 [6, 21, 22, 23, 49, 50, 51, 55, 56] [0, 1] rfl (by kernel_rfl) ?_
              refine RefR.callC (t := 57) 2 3 [0, 1] rfl (by kernel_rfl) (F31_ok K (⟨(⟨u424.1, u424.2.1⟩ : S52), u424.2.2.1⟩ : S73) (x405.getD (u424.2.2.2 : Int).toNat default)) (fun r431 => ?_)
              refine RefR.nilC 3 (by kernel_rfl) ?_
              refine Ref.conv (Conv.keep (st' := ⟨[(6, .c (.ptr 0 0 0)), (21, .c (E45.tree a1)), (22, .c (.val (.int .i64 (Int.ofNat a1.length)))), (23, .c (.val (.int .i64 u303.2.2.2))), (49, .c (E3.tree x405)), (50, .c (.val (.int .i64 x406))), (51, .c (.val (.int .i64 u424.2.2.2)))], [.cells [.self 73 r431.fBuilder.faddr 0, .own 1 r431.fBuilder.fbuf.length, .val (.bool r431.fbad)], E5.row r431.fBuilder.fbuf], [], 0⟩) [6, 21, 22, 23, 49, 50, 51] [0, 2] (by kernel_rfl)) ?_
              exact Ref.nil (t := (r431.fBuilder.faddr, r431.fBuilder.fbuf, r431.fbad)) (by kernel_rfl)
            ·
              refine Ref.regionC 13 (by kernel_rfl) ?_
              refine RefR.ev0 (st' := ⟨[(6, .c (.ptr 0 0 0)), (21, .c (E45.tree a1)), (22, .c (.val (.int .i64 (Int.ofNat a1.length)))), (23, .c (.val (.int .i64 u303.2.2.2))), (49, .c (E3.tree x405)), (50, .c (.val (.int .i64 x406))), (51, .c (.val (.int .i64 (IntKind.i64.wrap (u424.2.2.2 + 1)))))], [.cells [.self 73 u430.1 0, .own 1 u430.2.1.length, .val (.bool u430.2.2)], E5.row u430.2.1], [], 0⟩) 0 2 2 [6, 21, 22, 23, 49, 50, 51] [0, 1] rfl (by kernel_rfl) ?_
              refine RefR.nilC 2 (by kernel_rfl) ?_
              exact Ref.nil (t := (u430.1, u430.2.1, u430.2.2, (IntKind.i64.wrap (u424.2.2.2 + 1)))) (by kernel_rfl)
          ·
            refine Ref.conv (Conv.keep (st' := ⟨[(6, .c (.ptr 0 0 0)), (21, .c (E45.tree a1)), (22, .c (.val (.int .i64 (Int.ofNat a1.length)))), (23, .c (.val (.int .i64 u303.2.2.2)))], [.cells [.self 73 u424.1 0, .own 1 u424.2.1.length, .val (.bool u424.2.2.1)], E5.row u424.2.1], [], 0⟩) [6, 21, 22, 23] [0, 1] (by kernel_rfl)) ?_
            exact Ref.exitC 2 (t := (Sum.inl (u424.1, u424.2.1, u424.2.2.1))) (by kernel_rfl) (by kernel_rfl)
        ·
          refine Ref.regionC 14 (by kernel_rfl) ?_
          refine RefR.ev0 (st' := ⟨[(6, .c (.ptr 0 0 0)), (21, .c (E45.tree a1)), (22, .c (.val (.int .i64 (Int.ofNat a1.length)))), (23, .c (.val (.int .i64 u303.2.2.2))), (61, .c (.ptr 0 0 0))], [.cells [.self 73 u419.1 0, .own 1 u419.2.1.length, .val (.bool u419.2.2)], E5.row u419.2.1], [], 0⟩) 0 3 3 [6, 21, 22, 23, 61] [0, 1] rfl (by kernel_rfl) ?_
          refine RefR.callC (t := 62) 3 4 [0, 1] rfl (by kernel_rfl) (F32x73_ok K (⟨(⟨u419.1, u419.2.1⟩ : S52), u419.2.2⟩ : S73) (b8 10)) (fun r432 => ?_)
          refine RefR.nilC 4 (by kernel_rfl) ?_
          refine Ref.conv (Conv.keep (st' := ⟨[(6, .c (.ptr 0 0 0)), (21, .c (E45.tree a1)), (22, .c (.val (.int .i64 (Int.ofNat a1.length)))), (23, .c (.val (.int .i64 u303.2.2.2)))], [.cells [.self 73 r432.2.fBuilder.faddr 0, .own 1 r432.2.fBuilder.fbuf.length, .val (.bool r432.2.fbad)], E5.row r432.2.fBuilder.fbuf], [], 0⟩) [6, 21, 22, 23] [0, 2] (by kernel_rfl)) ?_
          exact Ref.nil (t := (r432.2.fBuilder.faddr, r432.2.fBuilder.fbuf, r432.2.fbad)) (by kernel_rfl)
      ·
        refine Ref.regionC 15 (by kernel_rfl) ?_
        refine RefR.ev0 (st' := ⟨[(6, .c (.ptr 0 0 0)), (21, .c (E45.tree a1)), (22, .c (.val (.int .i64 (Int.ofNat a1.length)))), (23, .c (.val (.int .i64 (IntKind.i64.wrap (u303.2.2.2 + 1)))))], [.cells [.self 73 u401.1 0, .own 1 u401.2.1.length, .val (.bool u401.2.2)], E5.row u401.2.1], [], 0⟩) 0 2 2 [6, 21, 22, 23] [0, 1] rfl (by kernel_rfl) ?_
        refine RefR.nilC 2 (by kernel_rfl) ?_
        exact Ref.nil (t := (u401.1, u401.2.1, u401.2.2, (IntKind.i64.wrap (u303.2.2.2 + 1)))) (by kernel_rfl)
    ·
      refine Ref.conv (Conv.keep (st' := ⟨[(6, .c (.ptr 0 0 0))], [.cells [.self 73 u303.1 0, .own 1 u303.2.1.length, .val (.bool u303.2.2.1)], E5.row u303.2.1], [], 0⟩) [6] [0, 1] (by kernel_rfl)) ?_
      exact Ref.exitC 0 (t := (Sum.inl (u303.1, u303.2.1, u303.2.2.1))) (by kernel_rfl) (by kernel_rfl)
  ·
    refine Ref.seqC (cd (bd Tryd.f17) [1, 1, 1, 1, 0]) (cd (bd Tryd.f17) [1, 1, 1, 1, 1]) (by kernel_rfl) ?_
    refine Ref.codeEq (c' := .block 4 (cd (bd Tryd.f17) [1, 1, 1, 1, 0, 0])) (by kernel_rfl) ?_
    refine Ref.block (go1 := fun u436 => ⟨[(6, .c (.ptr 0 0 0))], [.cells [.self 73 u436.1 0, .own 1 u436.2.1.length, .val (.bool u436.2.2)], E5.row u436.2.1], [], 0⟩) ?_ (fun _ h => by cases h) (fun u436 => ?_)
    ·
      refine Ref.seqC (cd (bd Tryd.f17) [1, 1, 1, 1, 0, 0, 0]) (cd (bd Tryd.f17) [1, 1, 1, 1, 0, 0, 1]) (by kernel_rfl) ?_
      refine Ref.regionC 16 (by kernel_rfl) ?_
      refine RefR.ev0 (st' := ⟨[(6, .c (.ptr 0 0 0)), (64, .c (.val (.bool u218.2.2)))], [.cells [.self 73 u218.1 0, .own 1 u218.2.1.length, .val (.bool u218.2.2)], E5.row u218.2.1], [], 0⟩) 0 5 5 [6, 64] [0, 1] rfl (by kernel_rfl) ?_
      refine RefR.nilC 5 (by kernel_rfl) ?_
      refine Ref.condC (.tmp 64) u218.2.2 (by kernel_rfl) rfl (by kernel_rfl) (fun hc => ?_) (fun hc => ?_)
      ·
        refine Ref.seqC (cd (bd Tryd.f17) [1, 1, 1, 1, 0, 0, 1, 0, 0]) (cd (bd Tryd.f17) [1, 1, 1, 1, 0, 0, 1, 0, 1]) (by kernel_rfl) ?_
        refine Ref.regionC 17 (by kernel_rfl) ?_
        refine RefR.callC (t := 69) 0 1 [] rfl (by kernel_rfl) (F21_ok K 22 0) (fun r437 => ?_)
        refine RefR.ev0 (st' := ⟨[(4, .c (.str ([] : Bytes))), (5, .c (errC r437))], [], [], 0⟩) 1 2 3 [4, 5] [] rfl (by kernel_rfl) ?_
        refine RefR.nilC 3 (by kernel_rfl) ?_
        exact Ref.retC (t := (Sum.inr (([] : Bytes), r437))) (by kernel_rfl) (by kernel_rfl)
      ·
        refine Ref.seqC (cd (bd Tryd.f17) [1, 1, 1, 1, 0, 0, 1, 1, 0]) (cd (bd Tryd.f17) [1, 1, 1, 1, 0, 0, 1, 1, 1]) (by kernel_rfl) ?_
        refine Ref.regionC 18 (by kernel_rfl) ?_
        refine RefR.ev0 (st' := ⟨[(6, .c (.ptr 0 0 0)), (73, .c (.ptr 0 0 0))], [.cells [.self 73 u218.1 0, .own 1 u218.2.1.length, .val (.bool u218.2.2)], E5.row u218.2.1], [], 0⟩) 0 3 3 [6, 73] [0, 1] rfl (by kernel_rfl) ?_
        refine RefR.callC (t := 74) 3 4 [0, 1] rfl (by kernel_rfl) (F33x73_ok K (⟨(⟨u218.1, u218.2.1⟩ : S52), u218.2.2⟩ : S73)) (fun r438 => ?_)
        refine RefR.ev0 (st' := ⟨[(6, .c (.ptr 0 0 0)), (70, .c (.val (.bool (decide ((r438.1 : Int) > 65536)))))], [.cells [.self 73 r438.2.fBuilder.faddr 0, .own 1 r438.2.fBuilder.fbuf.length, .val (.bool r438.2.fbad)], E5.row r438.2.fBuilder.fbuf], [], 0⟩) 4 2 6 [6, 70] [0, 2] rfl (by kernel_rfl) ?_
        refine RefR.nilC 6 (by kernel_rfl) ?_
        refine Ref.condC (.tmp 70) (decide ((r438.1 : Int) > 65536)) (by kernel_rfl) rfl (by kernel_rfl) (fun hc => ?_) (fun hc => ?_)
        ·
          refine Ref.seqC (cd (bd Tryd.f17) [1, 1, 1, 1, 0, 0, 1, 1, 1, 0, 0]) (cd (bd Tryd.f17) [1, 1, 1, 1, 0, 0, 1, 1, 1, 0, 1]) (by kernel_rfl) ?_
          refine Ref.regionC 19 (by kernel_rfl) ?_
          refine RefR.callC (t := 76) 0 1 [] rfl (by kernel_rfl) (F21_ok K 24 0) (fun r439 => ?_)
          refine RefR.ev0 (st' := ⟨[(4, .c (.str ([] : Bytes))), (5, .c (errC r439))], [], [], 0⟩) 1 2 3 [4, 5] [] rfl (by kernel_rfl) ?_
          refine RefR.nilC 3 (by kernel_rfl) ?_
          exact Ref.retC (t := (Sum.inr (([] : Bytes), r439))) (by kernel_rfl) (by kernel_rfl)
        ·
          refine Ref.skipC (by kernel_rfl) ?_
          refine Ref.conv (Conv.keep (st' := ⟨[(6, .c (.ptr 0 0 0))], [.cells [.self 73 r438.2.fBuilder.faddr 0, .own 1 r438.2.fBuilder.fbuf.length, .val (.bool r438.2.fbad)], E5.row r438.2.fBuilder.fbuf], [], 0⟩) [6] [0, 1] (by kernel_rfl)) ?_
          exact Ref.nil (t := (r438.2.fBuilder.faddr, r438.2.fBuilder.fbuf, r438.2.fbad)) (by kernel_rfl)
    ·
      refine Ref.seqC (cd (bd Tryd.f17) [1, 1, 1, 1, 1, 0]) (cd (bd Tryd.f17) [1, 1, 1, 1, 1, 1]) (by kernel_rfl) ?_
      refine Ref.regionC 20 (by kernel_rfl) ?_
      refine RefR.ev0 (st' := ⟨[(79, .c (.ptr 0 0 0))], [.cells [.self 73 u436.1 0, .own 1 u436.2.1.length, .val (.bool u436.2.2)], E5.row u436.2.1], [], 0⟩) 0 3 3 [79] [0, 1] rfl (by kernel_rfl) ?_
      refine RefR.callC (t := 80) 3 4 [0, 1] rfl (by kernel_rfl) (F26x73_ok K (⟨(⟨u436.1, u436.2.1⟩ : S52), u436.2.2⟩ : S73)) (fun r440 => ?_)
      refine RefR.ev0 (st' := ⟨[(4, .c (.str r440)), (5, .c (.val .nilIface))], [], [], 0⟩) 4 2 6 [4, 5] [] rfl (by kernel_rfl) ?_
      refine RefR.nilC 6 (by kernel_rfl) ?_
      refine Ref.conv (Conv.slot 5 (.c (errC none)) (DLe.c (errC_nil)) (by kernel_rfl)) ?_
      refine Ref.conv (Conv.keep (st' := ⟨[(4, .c (.str r440)), (5, .c (errC none))], [], [], 0⟩) [4, 5] [] (by kernel_rfl)) ?_
      exact Ref.retC (t := (r440, none)) (by kernel_rfl) (by kernel_rfl)

/-- governor/governorlaw0.Code -/
def F18 (K : Nat) (a0 : Err) : Option ((Int) ⊕ (Int)) :=
  ((fnS (F14 K a0)).bind (fun r1 => (some (.inl (r1.1)))))

theorem F18_ok (K : Nat) (a0 : Err) : DFun Tryd.prog 18 [.c (errC a0)] [] (fnS (F18 K a0)) (fun r => .c (.val (.int .i64 r))) (fun r => []) := by
  refine DFun.intro (fn := Tryd.f18) (c := cd (bd Tryd.f18) []) (rs := fun r => ⟨[(2, .c (.val (.int .i64 r)))], [], [], 0⟩) (by kernel_rfl) (by kernel_rfl) (by kernel_rfl) ?_ (fun r => by kernel_rfl) (fun r => by kernel_rfl) (fun r => by kernel_rfl) (fun r => by kernel_rfl)
  unfold F18
  refine Ref.seqC (cd (bd Tryd.f18) [0]) (cd (bd Tryd.f18) [1]) (by kernel_rfl) ?_
  refine Ref.regionC 0 (by kernel_rfl) ?_
  refine RefR.ev0 (st' := ⟨[(0, .c (errC a0))], [], [], 0⟩) 0 1 1 [0] [] rfl (by kernel_rfl) ?_
  refine RefR.nilC 1 (by kernel_rfl) ?_
  refine Ref.seqC (cd (bd Tryd.f18) [1, 0]) (cd (bd Tryd.f18) [1, 1]) (by kernel_rfl) ?_
  refine Ref.regionC 1 (by kernel_rfl) ?_
  refine RefR.ev0 (st' := ⟨[(6, .c (errC a0))], [], [], 0⟩) 0 1 1 [6] [] rfl (by kernel_rfl) ?_
  refine RefR.callC (t := 7) 1 2 [] rfl (by kernel_rfl) (F14_ok K a0) (fun r1 => ?_)
  refine RefR.ev0 (st' := ⟨[(3, .c (.val (.int .i64 r1.1)))], [], [], 0⟩) 2 5 7 [3] [] rfl (by kernel_rfl) ?_
  refine RefR.nilC 7 (by kernel_rfl) ?_
  refine Ref.seqC (cd (bd Tryd.f18) [1, 1, 0]) (cd (bd Tryd.f18) [1, 1, 1]) (by kernel_rfl) ?_
  refine Ref.regionC 2 (by kernel_rfl) ?_
  refine RefR.ev0 (st' := ⟨[(2, .c (.val (.int .i64 r1.1)))], [], [], 0⟩) 0 2 2 [2] [] rfl (by kernel_rfl) ?_
  refine RefR.nilC 2 (by kernel_rfl) ?_
  exact Ref.retC (t := (r1.1)) (by kernel_rfl) (by kernel_rfl)

/-- governor/governorlaw25.awake -/
def F7 (K : Nat) : Option ((Bool) ⊕ (Bool)) :=
  ((fnS (F12 K ([115, 114, 99, 32, 54, 49, 54, 50, 10, 115, 99, 97, 110, 32, 50, 32, 45, 53, 32, 55, 10, 115, 114, 99, 32, 54, 51, 10] : Bytes))).bind (fun r1 => ((fnS (F12 K ([115, 114, 99, 32, 54, 49, 10, 115, 99, 97, 110, 32, 48, 50] : Bytes))).bind (fun r2 => ((fnS (F14 K r2.2.2)).bind (fun r3 => (chk [(r1.1 == ([97, 98, 99] : Bytes))] ((condM true (fnS (F15 K r1.2.1 [(⟨[(-5), 7], 2⟩ : S45)])) default).bind (fun r5 => (letV ((((true && r5) && (!r1.2.2.isSome)) && ((r3.1 : Int) == 23)) && ((r3.2 : Int) == 2)) (fun (x6 : Bool) => ((condM x6 (fnS (F8 K ([15, 122] : Bytes))) default).bind (fun r7 => (some (.inl ((x6 && (r7 == ([48, 102, 55, 97] : Bytes)))))))))))))))))))

theorem F7_ok (K : Nat) : DFun Tryd.prog 7 [] [] (fnS (F7 K)) (fun r => .c (.val (.bool r))) (fun r => []) := by
  refine DFun.intro (fn := Tryd.f7) (c := cd (bd Tryd.f7) []) (rs := fun r => ⟨[(0, .c (.val (.bool r)))], [], [], 0⟩) (by kernel_rfl) (by kernel_rfl) (by kernel_rfl) ?_ (fun r => by kernel_rfl) (fun r => by kernel_rfl) (fun r => by kernel_rfl) (fun r => by kernel_rfl)
  unfold F7
  refine Ref.seqC (cd (bd Tryd.f7) [0]) (cd (bd Tryd.f7) [1]) (by kernel_rfl) ?_
  refine Ref.regionC 0 (by kernel_rfl) ?_
  refine RefR.ev0 (st' := ⟨[], [], [], 0⟩) 0 1 1 [] [] rfl (by kernel_rfl) ?_
  refine RefR.nilC 1 (by kernel_rfl) ?_
  refine Ref.seqC (cd (bd Tryd.f7) [1, 0]) (cd (bd Tryd.f7) [1, 1]) (by kernel_rfl) ?_
  refine Ref.regionC 1 (by kernel_rfl) ?_
  refine RefR.callC (t := 10) 0 1 [] rfl (by kernel_rfl) (F12_ok K ([115, 114, 99, 32, 54, 49, 54, 50, 10, 115, 99, 97, 110, 32, 50, 32, 45, 53, 32, 55, 10, 115, 114, 99, 32, 54, 51, 10] : Bytes)) (fun r1 => ?_)
  refine RefR.ev0 (st' := ⟨[(1, .c (.str r1.1)), (2, .c (E45.tree r1.2.1)), (3, .c (errC r1.2.2))], [], [], 0⟩) 1 7 8 [1, 2, 3] [] rfl (by kernel_rfl) ?_
  refine RefR.nilC 8 (by kernel_rfl) ?_
  refine Ref.seqC (cd (bd Tryd.f7) [1, 1, 0]) (cd (bd Tryd.f7) [1, 1, 1]) (by kernel_rfl) ?_
  refine Ref.regionC 2 (by kernel_rfl) ?_
  refine RefR.callC (t := 15) 0 1 [] rfl (by kernel_rfl) (F12_ok K ([115, 114, 99, 32, 54, 49, 10, 115, 99, 97, 110, 32, 48, 50] : Bytes)) (fun r2 => ?_)
  refine RefR.ev0 (st' := ⟨[(1, .c (.str r1.1)), (2, .c (E45.tree r1.2.1)), (3, .c (errC r1.2.2)), (6, .c (errC r2.2.2))], [], [], 0⟩) 1 7 8 [1, 2, 3, 6] [] rfl (by kernel_rfl) ?_
  refine RefR.nilC 8 (by kernel_rfl) ?_
  refine Ref.seqC (cd (bd Tryd.f7) [1, 1, 1, 0]) (cd (bd Tryd.f7) [1, 1, 1, 1]) (by kernel_rfl) ?_
  refine Ref.regionC 3 (by kernel_rfl) ?_
  refine RefR.ev0 (st' := ⟨[(1, .c (.str r1.1)), (2, .c (E45.tree r1.2.1)), (3, .c (errC r1.2.2)), (20, .c (errC r2.2.2))], [], [], 0⟩) 0 1 1 [1, 2, 3, 20] [] rfl (by kernel_rfl) ?_
  refine RefR.callC (t := 21) 1 2 [] rfl (by kernel_rfl) (F14_ok K r2.2.2) (fun r3 => ?_)
  refine RefR.ev0 (st' := ⟨[(1, .c (.str r1.1)), (2, .c (E45.tree r1.2.1)), (3, .c (errC r1.2.2)), (7, .c (.val (.int .i64 r3.1))), (8, .c (.val (.int .i64 r3.2)))], [], [], 0⟩) 2 5 7 [1, 2, 3, 7, 8] [] rfl (by kernel_rfl) ?_
  refine RefR.nilC 7 (by kernel_rfl) ?_
  refine Ref.seqC (cd (bd Tryd.f7) [1, 1, 1, 1, 0]) (cd (bd Tryd.f7) [1, 1, 1, 1, 1]) (by kernel_rfl) ?_
  refine Ref.regionC 4 (by kernel_rfl) ?_
  refine RefR.ev0 (st' := ⟨[(3, .c (errC r1.2.2)), (7, .c (.val (.int .i64 r3.1))), (8, .c (.val (.int .i64 r3.2))), (26, .c (.val (.bool (r1.1 == ([97, 98, 99] : Bytes))))), (27, .c (E45.tree r1.2.1))], [], [(27, [(26, true)])], 0⟩) 0 4 4 [3, 7, 8, 26, 27] [] rfl (by kernel_rfl) ?_
  refine RefR.assumeC (b := (r1.1 == ([97, 98, 99] : Bytes))) (stf := fun v4 => ⟨[(3, .c (errC r1.2.2)), (7, .c (.val (.int .i64 r3.1))), (8, .c (.val (.int .i64 r3.2))), (26, .c (.val (.bool v4))), (27, .c (E45.tree r1.2.1))], [], [(27, [(26, true)])], 0⟩) (by kernel_rfl) ?_
  refine RefR.conv (Conv.clear (by kernel_rfl)) ?_
  refine RefR.unguard 4 (by kernel_rfl) (by kernel_rfl) ?_
  refine RefR.ev0 (st' := ⟨[(3, .c (errC r1.2.2)), (7, .c (.val (.int .i64 r3.1))), (8, .c (.val (.int .i64 r3.2))), (26, .c (.val (.bool true))), (27, .c (E45.tree r1.2.1)), (28, .c (.own 0 2))], [.row 3 1 2 (tbl [[.val (.int .i64 (-5))], [.val (.int .i64 7)]])], [], 0⟩) 4 1 5 [3, 7, 8, 26, 27, 28] [0] rfl (by kernel_rfl) ?_
  refine RefR.conv (Conv.obj 0 (E3.row [(-5), 7]) (El.row_build E3 [(-5), 7] rfl (by kernel_rfl)) (by kernel_rfl)) ?_
  refine RefR.conv (Conv.slot 28 (.c (.own 0 ([(-5), 7].length))) (DLe.c (CLe.own (by simp))) (by kernel_rfl)) ?_
  refine RefR.ev0 (st' := ⟨[(3, .c (errC r1.2.2)), (7, .c (.val (.int .i64 r3.1))), (8, .c (.val (.int .i64 r3.2))), (26, .c (.val (.bool true))), (27, .c (E45.tree r1.2.1)), (29, .agg [.own 0 ([(-5), 7].length), .val (.int .i64 2)])], [E3.row [(-5), 7]], [(29, [(26, true)])], 0⟩) 5 1 6 [3, 7, 8, 26, 27, 29] [0] rfl (by kernel_rfl) ?_
  refine RefR.conv (Conv.clear (by kernel_rfl)) ?_
  refine RefR.unguard 6 (by kernel_rfl) (by kernel_rfl) ?_
  refine RefR.conv (Conv.freeze (st' := ⟨[(3, .c (errC r1.2.2)), (7, .c (.val (.int .i64 r3.1))), (8, .c (.val (.int .i64 r3.2))), (26, .c (.val (.bool true))), (27, .c (E45.tree r1.2.1)), (29, .agg [E3.tree [(-5), 7], .val (.int .i64 2)])], [.dead], [], 0⟩) 0 (by kernel_rfl)) ?_
  refine RefR.ev0 (st' := ⟨[(3, .c (errC r1.2.2)), (7, .c (.val (.int .i64 r3.1))), (8, .c (.val (.int .i64 r3.2))), (26, .c (.val (.bool true))), (27, .c (E45.tree r1.2.1)), (30, .c (.own 0 1))], [.row 45 2 1 (tbl [[E3.tree [(-5), 7], .val (.int .i64 2)]])], [], 0⟩) 6 1 7 [3, 7, 8, 26, 27, 30] [1] rfl (by kernel_rfl) ?_
  refine RefR.conv (Conv.obj 0 (E45.row [(⟨[(-5), 7], 2⟩ : S45)]) (El.row_build E45 [(⟨[(-5), 7], 2⟩ : S45)] rfl (by kernel_rfl)) (by kernel_rfl)) ?_
  refine RefR.conv (Conv.slot 30 (.c (.own 0 ([(⟨[(-5), 7], 2⟩ : S45)].length))) (DLe.c (CLe.own (by simp))) (by kernel_rfl)) ?_
  refine RefR.lookC (t := 31) (g := [(26, true)]) (b := true) 7 8 [0] (default : Bool) rfl (by kernel_rfl) (F15_ok K r1.2.1 [(⟨[(-5), 7], 2⟩ : S45)]) (fun _ => rfl) (fun r5 => ?_)
  refine RefR.ev0 (st' := ⟨[(45, .c (.val (.bool ((((true && r5) && (!r1.2.2.isSome)) && ((r3.1 : Int) == 23)) && ((r3.2 : Int) == 2)))))], [], [], 0⟩) 8 14 22 [45] [] rfl (by kernel_rfl) ?_
  refine RefR.letC (stf := fun x6 => ⟨[(45, .c (.val (.bool x6)))], [], [], 0⟩) (by kernel_rfl) (fun x6 => ?_)
  refine RefR.lookC (t := 46) (g := [(45, true)]) (b := x6) 22 23 [] (default : Bytes) rfl (by kernel_rfl) (F8_ok K ([15, 122] : Bytes)) (fun _ => rfl) (fun r7 => ?_)
  refine RefR.ev0 (st' := ⟨[(0, .c (.val (.bool (x6 && (r7 == ([48, 102, 55, 97] : Bytes))))))], [], [], 0⟩) 23 3 26 [0] [] rfl (by kernel_rfl) ?_
  refine RefR.nilC 26 (by kernel_rfl) ?_
  exact Ref.retC (t := ((x6 && (r7 == ([48, 102, 55, 97] : Bytes))))) (by kernel_rfl) (by kernel_rfl)

/-- governor/governorlaw25.ScriptHex -/
def F3 (K : Nat) (a0 : Bytes) (a1 : Bytes) : Option ((Bool) ⊕ (Bool)) :=
  (letV ((decide (((Int.ofNat a0.length) : Int) > 500)) || (decide (((Int.ofNat a1.length) : Int) > 500))) (fun (x1 : Bool) => (if x1 = true then ((fnS (F7 K)).bind (fun r2 => (some (.inl (r2))))) else ((fnS (F8 K a0)).bind (fun r3 => ((fnS (F9 K r3)).bind (fun r4 => ((fnS (F9 K a1)).bind (fun r5 => ((fnS (F10 K a1)).bind (fun r6 => ((fnS (F11 K a0)).bind (fun r7 => (letV (((((r3 == r7) && (r4.1 == a0)) && r4.2) && (r5.1 == r6.1)) && (r5.2 == r6.2)) (fun (x8 : Bool) => ((condM x8 (fnS (F7 K)) default).bind (fun r9 => (some (.inl ((x8 && r9)))))))))))))))))))))

theorem F3_ok (K : Nat) (a0 : Bytes) (a1 : Bytes) : DFun Tryd.prog 3 [.c (.str a0), .c (.str a1)] [] (fnS (F3 K a0 a1)) (fun r => .c (.val (.bool r))) (fun r => []) := by
  refine DFun.intro (fn := Tryd.f3) (c := cd (bd Tryd.f3) []) (rs := fun r => ⟨[(4, .c (.val (.bool r)))], [], [], 0⟩) (by kernel_rfl) (by kernel_rfl) (by kernel_rfl) ?_ (fun r => by kernel_rfl) (fun r => by kernel_rfl) (fun r => by kernel_rfl) (fun r => by kernel_rfl)
  unfold F3
  refine Ref.seqC (cd (bd Tryd.f3) [0]) (cd (bd Tryd.f3) [1]) (by kernel_rfl) ?_
  refine Ref.regionC 0 (by kernel_rfl) ?_
  refine RefR.ev0 (st' := ⟨[(0, .c (.str a0)), (1, .c (.str a1))], [], [], 0⟩) 0 1 1 [0, 1] [] rfl (by kernel_rfl) ?_
  refine RefR.nilC 1 (by kernel_rfl) ?_
  refine Ref.seqC (cd (bd Tryd.f3) [1, 0]) (cd (bd Tryd.f3) [1, 1]) (by kernel_rfl) ?_
  refine Ref.seqC (cd (bd Tryd.f3) [1, 0, 0]) (cd (bd Tryd.f3) [1, 0, 1]) (by kernel_rfl) ?_
  refine Ref.regionC 1 (by kernel_rfl) ?_
  refine RefR.ev0 (st' := ⟨[(0, .c (.str a0)), (1, .c (.str a1)), (19, .c (.val (.bool ((decide (((Int.ofNat a0.length) : Int) > 500)) || (decide (((Int.ofNat a1.length) : Int) > 500))))))], [], [], 0⟩) 0 8 8 [0, 1, 19] [] rfl (by kernel_rfl) ?_
  refine RefR.letC (stf := fun x1 => ⟨[(0, .c (.str a0)), (1, .c (.str a1)), (19, .c (.val (.bool x1)))], [], [], 0⟩) (by kernel_rfl) (fun x1 => ?_)
  refine RefR.nilC 8 (by kernel_rfl) ?_
  refine Ref.condC (.tmp 19) x1 (by kernel_rfl) rfl (by kernel_rfl) (fun hc => ?_) (fun hc => ?_)
  ·
    refine Ref.seqC (cd (bd Tryd.f3) [1, 0, 1, 0, 0]) (cd (bd Tryd.f3) [1, 0, 1, 0, 1]) (by kernel_rfl) ?_
    refine Ref.regionC 2 (by kernel_rfl) ?_
    refine RefR.callC (t := 20) 0 1 [] rfl (by kernel_rfl) (F7_ok K) (fun r2 => ?_)
    refine RefR.ev0 (st' := ⟨[(4, .c (.val (.bool r2)))], [], [], 0⟩) 1 1 2 [4] [] rfl (by kernel_rfl) ?_
    refine RefR.nilC 2 (by kernel_rfl) ?_
    exact Ref.retC (t := (r2)) (by kernel_rfl) (by kernel_rfl)
  ·
    refine Ref.skipC (by kernel_rfl) ?_
    refine Ref.seqC (cd (bd Tryd.f3) [1, 1, 0]) (cd (bd Tryd.f3) [1, 1, 1]) (by kernel_rfl) ?_
    refine Ref.regionC 3 (by kernel_rfl) ?_
    refine RefR.ev0 (st' := ⟨[(0, .c (.str a0)), (1, .c (.str a1)), (21, .c (.str a0))], [], [], 0⟩) 0 1 1 [0, 1, 21] [] rfl (by kernel_rfl) ?_
    refine RefR.callC (t := 22) 1 2 [] rfl (by kernel_rfl) (F8_ok K a0) (fun r3 => ?_)
    refine RefR.ev0 (st' := ⟨[(0, .c (.str a0)), (1, .c (.str a1)), (5, .c (.str r3))], [], [], 0⟩) 2 1 3 [0, 1, 5] [] rfl (by kernel_rfl) ?_
    refine RefR.nilC 3 (by kernel_rfl) ?_
    refine Ref.seqC (cd (bd Tryd.f3) [1, 1, 1, 0]) (cd (bd Tryd.f3) [1, 1, 1, 1]) (by kernel_rfl) ?_
    refine Ref.regionC 4 (by kernel_rfl) ?_
    refine RefR.ev0 (st' := ⟨[(0, .c (.str a0)), (1, .c (.str a1)), (5, .c (.str r3)), (24, .c (.str r3))], [], [], 0⟩) 0 1 1 [0, 1, 5, 24] [] rfl (by kernel_rfl) ?_
    refine RefR.callC (t := 25) 1 2 [] rfl (by kernel_rfl) (F9_ok K r3) (fun r4 => ?_)
    refine RefR.ev0 (st' := ⟨[(0, .c (.str a0)), (1, .c (.str a1)), (5, .c (.str r3)), (6, .c (.str r4.1)), (7, .c (.val (.bool r4.2)))], [], [], 0⟩) 2 5 7 [0, 1, 5, 6, 7] [] rfl (by kernel_rfl) ?_
    refine RefR.nilC 7 (by kernel_rfl) ?_
    refine Ref.seqC (cd (bd Tryd.f3) [1, 1, 1, 1, 0]) (cd (bd Tryd.f3) [1, 1, 1, 1, 1]) (by kernel_rfl) ?_
    refine Ref.regionC 5 (by kernel_rfl) ?_
    refine RefR.ev0 (st' := ⟨[(0, .c (.str a0)), (1, .c (.str a1)), (5, .c (.str r3)), (6, .c (.str r4.1)), (7, .c (.val (.bool r4.2))), (29, .c (.str a1))], [], [], 0⟩) 0 1 1 [0, 1, 5, 6, 7, 29] [] rfl (by kernel_rfl) ?_
    refine RefR.callC (t := 30) 1 2 [] rfl (by kernel_rfl) (F9_ok K a1) (fun r5 => ?_)
    refine RefR.ev0 (st' := ⟨[(0, .c (.str a0)), (1, .c (.str a1)), (5, .c (.str r3)), (6, .c (.str r4.1)), (7, .c (.val (.bool r4.2))), (8, .c (.str r5.1)), (9, .c (.val (.bool r5.2)))], [], [], 0⟩) 2 5 7 [0, 1, 5, 6, 7, 8, 9] [] rfl (by kernel_rfl) ?_
    refine RefR.nilC 7 (by kernel_rfl) ?_
    refine Ref.seqC (cd (bd Tryd.f3) [1, 1, 1, 1, 1, 0]) (cd (bd Tryd.f3) [1, 1, 1, 1, 1, 1]) (by kernel_rfl) ?_
    refine Ref.regionC 6 (by kernel_rfl) ?_
    refine RefR.ev0 (st' := ⟨[(0, .c (.str a0)), (5, .c (.str r3)), (6, .c (.str r4.1)), (7, .c (.val (.bool r4.2))), (8, .c (.str r5.1)), (9, .c (.val (.bool r5.2))), (34, .c (.str a1))], [], [], 0⟩) 0 1 1 [0, 5, 6, 7, 8, 9, 34] [] rfl (by kernel_rfl) ?_
    refine RefR.callC (t := 35) 1 2 [] rfl (by kernel_rfl) (F10_ok K a1) (fun r6 => ?_)
    refine RefR.ev0 (st' := ⟨[(0, .c (.str a0)), (5, .c (.str r3)), (6, .c (.str r4.1)), (7, .c (.val (.bool r4.2))), (8, .c (.str r5.1)), (9, .c (.val (.bool r5.2))), (10, .c (.str r6.1)), (11, .c (.val (.bool r6.2)))], [], [], 0⟩) 2 5 7 [0, 5, 6, 7, 8, 9, 10, 11] [] rfl (by kernel_rfl) ?_
    refine RefR.nilC 7 (by kernel_rfl) ?_
    refine Ref.seqC (cd (bd Tryd.f3) [1, 1, 1, 1, 1, 1, 0]) (cd (bd Tryd.f3) [1, 1, 1, 1, 1, 1, 1]) (by kernel_rfl) ?_
    refine Ref.regionC 7 (by kernel_rfl) ?_
    refine RefR.ev0 (st' := ⟨[(0, .c (.str a0)), (6, .c (.str r4.1)), (7, .c (.val (.bool r4.2))), (8, .c (.str r5.1)), (9, .c (.val (.bool r5.2))), (10, .c (.str r6.1)), (11, .c (.val (.bool r6.2))), (38, .c (.str r3)), (39, .c (.str a0))], [], [], 0⟩) 0 2 2 [0, 6, 7, 8, 9, 10, 11, 38, 39] [] rfl (by kernel_rfl) ?_
    refine RefR.callC (t := 40) 2 3 [] rfl (by kernel_rfl) (F11_ok K a0) (fun r7 => ?_)
    refine RefR.ev0 (st' := ⟨[(60, .c (.val (.bool (((((r3 == r7) && (r4.1 == a0)) && r4.2) && (r5.1 == r6.1)) && (r5.2 == r6.2)))))], [], [], 0⟩) 3 20 23 [60] [] rfl (by kernel_rfl) ?_
    refine RefR.letC (stf := fun x8 => ⟨[(60, .c (.val (.bool x8)))], [], [], 0⟩) (by kernel_rfl) (fun x8 => ?_)
    refine RefR.lookC (t := 61) (g := [(60, true)]) (b := x8) 23 24 [] (default : Bool) rfl (by kernel_rfl) (F7_ok K) (fun _ => rfl) (fun r9 => ?_)
    refine RefR.ev0 (st' := ⟨[(4, .c (.val (.bool (x8 && r9))))], [], [], 0⟩) 24 2 26 [4] [] rfl (by kernel_rfl) ?_
    refine RefR.nilC 26 (by kernel_rfl) ?_
    exact Ref.retC (t := ((x8 && r9))) (by kernel_rfl) (by kernel_rfl)

/-- governor/governorlaw25.ScriptReads -/
def F4 (K : Nat) (a0 : Bytes) : Option ((Bool) ⊕ (Bool)) :=
  (letV (decide (((Int.ofNat a0.length) : Int) > 66000)) (fun (x1 : Bool) => (if x1 = true then ((fnS (F7 K)).bind (fun r2 => (some (.inl (r2))))) else ((fnS (F12 K a0)).bind (fun r3 => ((fnS (F13 K a0)).bind (fun r4 => ((fnS (F14 K r3.2.2)).bind (fun r5 => ((condM (r3.1 == r4.1) (fnS (F15 K r3.2.1 r4.2.1)) default).bind (fun r6 => (letV ((((r3.1 == r4.1) && r6) && ((r5.1 : Int) == r4.2.2.1)) && ((r5.2 : Int) == r4.2.2.2)) (fun (x7 : Bool) => ((condM x7 (fnS (F7 K)) default).bind (fun r8 => (some (.inl ((x7 && r8)))))))))))))))))))

theorem F4_ok (K : Nat) (a0 : Bytes) : DFun Tryd.prog 4 [.c (.str a0)] [] (fnS (F4 K a0)) (fun r => .c (.val (.bool r))) (fun r => []) := by
  refine DFun.intro (fn := Tryd.f4) (c := cd (bd Tryd.f4) []) (rs := fun r => ⟨[(2, .c (.val (.bool r)))], [], [], 0⟩) (by kernel_rfl) (by kernel_rfl) (by kernel_rfl) ?_ (fun r => by kernel_rfl) (fun r => by kernel_rfl) (fun r => by kernel_rfl) (fun r => by kernel_rfl)
  unfold F4
  refine Ref.seqC (cd (bd Tryd.f4) [0]) (cd (bd Tryd.f4) [1]) (by kernel_rfl) ?_
  refine Ref.regionC 0 (by kernel_rfl) ?_
  refine RefR.ev0 (st' := ⟨[(0, .c (.str a0))], [], [], 0⟩) 0 1 1 [0] [] rfl (by kernel_rfl) ?_
  refine RefR.nilC 1 (by kernel_rfl) ?_
  refine Ref.seqC (cd (bd Tryd.f4) [1, 0]) (cd (bd Tryd.f4) [1, 1]) (by kernel_rfl) ?_
  refine Ref.seqC (cd (bd Tryd.f4) [1, 0, 0]) (cd (bd Tryd.f4) [1, 0, 1]) (by kernel_rfl) ?_
  refine Ref.regionC 1 (by kernel_rfl) ?_
  refine RefR.ev0 (st' := ⟨[(0, .c (.str a0)), (14, .c (.val (.bool (decide (((Int.ofNat a0.length) : Int) > 66000)))))], [], [], 0⟩) 0 3 3 [0, 14] [] rfl (by kernel_rfl) ?_
  refine RefR.letC (stf := fun x1 => ⟨[(0, .c (.str a0)), (14, .c (.val (.bool x1)))], [], [], 0⟩) (by kernel_rfl) (fun x1 => ?_)
  refine RefR.nilC 3 (by kernel_rfl) ?_
  refine Ref.condC (.tmp 14) x1 (by kernel_rfl) rfl (by kernel_rfl) (fun hc => ?_) (fun hc => ?_)
  ·
    refine Ref.seqC (cd (bd Tryd.f4) [1, 0, 1, 0, 0]) (cd (bd Tryd.f4) [1, 0, 1, 0, 1]) (by kernel_rfl) ?_
    refine Ref.regionC 2 (by kernel_rfl) ?_
    refine RefR.callC (t := 15) 0 1 [] rfl (by kernel_rfl) (F7_ok K) (fun r2 => ?_)
    refine RefR.ev0 (st' := ⟨[(2, .c (.val (.bool r2)))], [], [], 0⟩) 1 1 2 [2] [] rfl (by kernel_rfl) ?_
    refine RefR.nilC 2 (by kernel_rfl) ?_
    exact Ref.retC (t := (r2)) (by kernel_rfl) (by kernel_rfl)
  ·
    refine Ref.skipC (by kernel_rfl) ?_
    refine Ref.seqC (cd (bd Tryd.f4) [1, 1, 0]) (cd (bd Tryd.f4) [1, 1, 1]) (by kernel_rfl) ?_
    refine Ref.regionC 3 (by kernel_rfl) ?_
    refine RefR.ev0 (st' := ⟨[(0, .c (.str a0)), (17, .c (.str a0))], [], [], 0⟩) 0 1 1 [0, 17] [] rfl (by kernel_rfl) ?_
    refine RefR.callC (t := 18) 1 2 [] rfl (by kernel_rfl) (F12_ok K a0) (fun r3 => ?_)
    refine RefR.ev0 (st' := ⟨[(0, .c (.str a0)), (3, .c (.str r3.1)), (4, .c (E45.tree r3.2.1)), (5, .c (errC r3.2.2))], [], [], 0⟩) 2 7 9 [0, 3, 4, 5] [] rfl (by kernel_rfl) ?_
    refine RefR.nilC 9 (by kernel_rfl) ?_
    refine Ref.seqC (cd (bd Tryd.f4) [1, 1, 1, 0]) (cd (bd Tryd.f4) [1, 1, 1, 1]) (by kernel_rfl) ?_
    refine Ref.regionC 4 (by kernel_rfl) ?_
    refine RefR.ev0 (st' := ⟨[(3, .c (.str r3.1)), (4, .c (E45.tree r3.2.1)), (5, .c (errC r3.2.2)), (23, .c (.str a0))], [], [], 0⟩) 0 1 1 [3, 4, 5, 23] [] rfl (by kernel_rfl) ?_
    refine RefR.callC (t := 24) 1 2 [] rfl (by kernel_rfl) (F13_ok K a0) (fun r4 => ?_)
    refine RefR.ev0 (st' := ⟨[(3, .c (.str r3.1)), (4, .c (E45.tree r3.2.1)), (5, .c (errC r3.2.2)), (6, .c (.str r4.1)), (7, .c (E45.tree r4.2.1)), (8, .c (.val (.int .i64 r4.2.2.1))), (9, .c (.val (.int .i64 r4.2.2.2)))], [], [], 0⟩) 2 9 11 [3, 4, 5, 6, 7, 8, 9] [] rfl (by kernel_rfl) ?_
    refine RefR.nilC 11 (by kernel_rfl) ?_
    refine Ref.seqC (cd (bd Tryd.f4) [1, 1, 1, 1, 0]) (cd (bd Tryd.f4) [1, 1, 1, 1, 1]) (by kernel_rfl) ?_
    refine Ref.regionC 5 (by kernel_rfl) ?_
    refine RefR.ev0 (st' := ⟨[(3, .c (.str r3.1)), (4, .c (E45.tree r3.2.1)), (6, .c (.str r4.1)), (7, .c (E45.tree r4.2.1)), (8, .c (.val (.int .i64 r4.2.2.1))), (9, .c (.val (.int .i64 r4.2.2.2))), (30, .c (errC r3.2.2))], [], [], 0⟩) 0 1 1 [3, 4, 6, 7, 8, 9, 30] [] rfl (by kernel_rfl) ?_
    refine RefR.callC (t := 31) 1 2 [] rfl (by kernel_rfl) (F14_ok K r3.2.2) (fun r5 => ?_)
    refine RefR.ev0 (st' := ⟨[(3, .c (.str r3.1)), (4, .c (E45.tree r3.2.1)), (6, .c (.str r4.1)), (7, .c (E45.tree r4.2.1)), (8, .c (.val (.int .i64 r4.2.2.1))), (9, .c (.val (.int .i64 r4.2.2.2))), (10, .c (.val (.int .i64 r5.1))), (11, .c (.val (.int .i64 r5.2)))], [], [], 0⟩) 2 5 7 [3, 4, 6, 7, 8, 9, 10, 11] [] rfl (by kernel_rfl) ?_
    refine RefR.nilC 7 (by kernel_rfl) ?_
    refine Ref.seqC (cd (bd Tryd.f4) [1, 1, 1, 1, 1, 0]) (cd (bd Tryd.f4) [1, 1, 1, 1, 1, 1]) (by kernel_rfl) ?_
    refine Ref.regionC 6 (by kernel_rfl) ?_
    refine RefR.ev0 (st' := ⟨[(8, .c (.val (.int .i64 r4.2.2.1))), (9, .c (.val (.int .i64 r4.2.2.2))), (10, .c (.val (.int .i64 r5.1))), (11, .c (.val (.int .i64 r5.2))), (37, .c (.val (.bool (r3.1 == r4.1)))), (38, .c (E45.tree r3.2.1)), (39, .c (E45.tree r4.2.1))], [], [(39, [(37, true)]), (38, [(37, true)])], 0⟩) 0 6 6 [8, 9, 10, 11, 37, 38, 39] [] rfl (by kernel_rfl) ?_
    refine RefR.lookC (t := 40) (g := [(37, true)]) (b := (r3.1 == r4.1)) 6 7 [] (default : Bool) rfl (by kernel_rfl) (F15_ok K r3.2.1 r4.2.1) (fun _ => rfl) (fun r6 => ?_)
    refine RefR.ev0 (st' := ⟨[(52, .c (.val (.bool ((((r3.1 == r4.1) && r6) && ((r5.1 : Int) == r4.2.2.1)) && ((r5.2 : Int) == r4.2.2.2)))))], [], [], 0⟩) 7 12 19 [52] [] rfl (by kernel_rfl) ?_
    refine RefR.letC (stf := fun x7 => ⟨[(52, .c (.val (.bool x7)))], [], [], 0⟩) (by kernel_rfl) (fun x7 => ?_)
    refine RefR.lookC (t := 53) (g := [(52, true)]) (b := x7) 19 20 [] (default : Bool) rfl (by kernel_rfl) (F7_ok K) (fun _ => rfl) (fun r8 => ?_)
    refine RefR.ev0 (st' := ⟨[(2, .c (.val (.bool (x7 && r8))))], [], [], 0⟩) 20 2 22 [2] [] rfl (by kernel_rfl) ?_
    refine RefR.nilC 22 (by kernel_rfl) ?_
    exact Ref.retC (t := ((x7 && r8))) (by kernel_rfl) (by kernel_rfl)

/-- governor/governorlaw25.ScriptParts -/
def F5 (K : Nat) (a0 : Bytes) (a1 : Bytes) : Option ((Bool) ⊕ (Bool)) :=
  (letV ((decide (((Int.ofNat a0.length) : Int) > 10000)) || (decide (((Int.ofNat a1.length) : Int) > 10000))) (fun (x1 : Bool) => (if x1 = true then ((fnS (F7 K)).bind (fun r2 => (some (.inl (r2))))) else ((fnS (F12 K a0)).bind (fun r3 => (chk [room (a0.length + ([10] : Bytes).length), room ((a0 ++ ([10] : Bytes)).length + a1.length)] ((fnS (F12 K ((a0 ++ ([10] : Bytes)) ++ a1))).bind (fun r4 => (if (!(!r3.2.2.isSome)) = true then ((fnS (F14 K r3.2.2)).bind (fun r5 => ((fnS (F14 K r4.2.2)).bind (fun r6 => (chk [!(!(a0 == ([] : Bytes))) || inb (IntKind.i64.wrap ((Int.ofNat a0.length) - 1)) a0.length] (letV ((!(a0 == ([] : Bytes))) && (((Int.ofNat (a0.getD ((IntKind.i64.wrap ((Int.ofNat a0.length) - 1)) : Int).toNat 0).toNat) : Int) != 10)) (fun (x7 : Bool) => (if x7 = true then (letV (((((r5.1 : Int) == r6.1) && ((r5.2 : Int) == r6.2)) && (r4.1 == ([] : Bytes))) && (((Int.ofNat r4.2.1.length) : Int) == 0)) (fun (x8 : Bool) => ((condM x8 (fnS (F7 K)) default).bind (fun r9 => (some (.inl ((x8 && r9)))))))) else ((condM (!(!r4.2.2.isSome)) (fnS (F7 K)) default).bind (fun r10 => (some (.inl (((!(!r4.2.2.isSome)) && r10)))))))))))))) else (letV ((!r4.2.2.isSome) || ((r4.1 == ([] : Bytes)) && (((Int.ofNat r4.2.1.length) : Int) == 0))) (fun (x11 : Bool) => ((condM x11 (fnS (F7 K)) default).bind (fun r12 => (some (.inl ((x11 && r12)))))))))))))))))

theorem F5_ok (K : Nat) (a0 : Bytes) (a1 : Bytes) : DFun Tryd.prog 5 [.c (.str a0), .c (.str a1)] [] (fnS (F5 K a0 a1)) (fun r => .c (.val (.bool r))) (fun r => []) := by
  refine DFun.intro (fn := Tryd.f5) (c := cd (bd Tryd.f5) []) (rs := fun r => ⟨[(4, .c (.val (.bool r)))], [], [], 0⟩) (by kernel_rfl) (by kernel_rfl) (by kernel_rfl) ?_ (fun r => by kernel_rfl) (fun r => by kernel_rfl) (fun r => by kernel_rfl) (fun r => by kernel_rfl)
  unfold F5
  refine Ref.seqC (cd (bd Tryd.f5) [0]) (cd (bd Tryd.f5) [1]) (by kernel_rfl) ?_
  refine Ref.regionC 0 (by kernel_rfl) ?_
  refine RefR.ev0 (st' := ⟨[(0, .c (.str a0)), (1, .c (.str a1))], [], [], 0⟩) 0 1 1 [0, 1] [] rfl (by kernel_rfl) ?_
  refine RefR.nilC 1 (by kernel_rfl) ?_
  refine Ref.seqC (cd (bd Tryd.f5) [1, 0]) (cd (bd Tryd.f5) [1, 1]) (by kernel_rfl) ?_
  refine Ref.seqC (cd (bd Tryd.f5) [1, 0, 0]) (cd (bd Tryd.f5) [1, 0, 1]) (by kernel_rfl) ?_
  refine Ref.regionC 1 (by kernel_rfl) ?_
  refine RefR.ev0 (st' := ⟨[(0, .c (.str a0)), (1, .c (.str a1)), (22, .c (.val (.bool ((decide (((Int.ofNat a0.length) : Int) > 10000)) || (decide (((Int.ofNat a1.length) : Int) > 10000))))))], [], [], 0⟩) 0 8 8 [0, 1, 22] [] rfl (by kernel_rfl) ?_
  refine RefR.letC (stf := fun x1 => ⟨[(0, .c (.str a0)), (1, .c (.str a1)), (22, .c (.val (.bool x1)))], [], [], 0⟩) (by kernel_rfl) (fun x1 => ?_)
  refine RefR.nilC 8 (by kernel_rfl) ?_
  refine Ref.condC (.tmp 22) x1 (by kernel_rfl) rfl (by kernel_rfl) (fun hc => ?_) (fun hc => ?_)
  ·
    refine Ref.seqC (cd (bd Tryd.f5) [1, 0, 1, 0, 0]) (cd (bd Tryd.f5) [1, 0, 1, 0, 1]) (by kernel_rfl) ?_
    refine Ref.regionC 2 (by kernel_rfl) ?_
    refine RefR.callC (t := 23) 0 1 [] rfl (by kernel_rfl) (F7_ok K) (fun r2 => ?_)
    refine RefR.ev0 (st' := ⟨[(4, .c (.val (.bool r2)))], [], [], 0⟩) 1 1 2 [4] [] rfl (by kernel_rfl) ?_
    refine RefR.nilC 2 (by kernel_rfl) ?_
    exact Ref.retC (t := (r2)) (by kernel_rfl) (by kernel_rfl)
  ·
    refine Ref.skipC (by kernel_rfl) ?_
    refine Ref.seqC (cd (bd Tryd.f5) [1, 1, 0]) (cd (bd Tryd.f5) [1, 1, 1]) (by kernel_rfl) ?_
    refine Ref.regionC 3 (by kernel_rfl) ?_
    refine RefR.ev0 (st' := ⟨[(0, .c (.str a0)), (1, .c (.str a1)), (25, .c (.str a0))], [], [], 0⟩) 0 1 1 [0, 1, 25] [] rfl (by kernel_rfl) ?_
    refine RefR.callC (t := 26) 1 2 [] rfl (by kernel_rfl) (F12_ok K a0) (fun r3 => ?_)
    refine RefR.ev0 (st' := ⟨[(0, .c (.str a0)), (1, .c (.str a1)), (7, .c (errC r3.2.2))], [], [], 0⟩) 2 7 9 [0, 1, 7] [] rfl (by kernel_rfl) ?_
    refine RefR.nilC 9 (by kernel_rfl) ?_
    refine Ref.seqC (cd (bd Tryd.f5) [1, 1, 1, 0]) (cd (bd Tryd.f5) [1, 1, 1, 1]) (by kernel_rfl) ?_
    refine Ref.regionC 4 (by kernel_rfl) ?_
    refine RefR.evC (vs := [room (a0.length + ([10] : Bytes).length), room ((a0 ++ ([10] : Bytes)).length + a1.length)]) (st' := ⟨[(0, .c (.str a0)), (7, .c (errC r3.2.2)), (34, .c (.str ((a0 ++ ([10] : Bytes)) ++ a1)))], [], [], 0⟩) 0 4 4 [0, 7, 34] [] rfl (by kernel_rfl) ?_
    refine RefR.callC (t := 35) 4 5 [] rfl (by kernel_rfl) (F12_ok K ((a0 ++ ([10] : Bytes)) ++ a1)) (fun r4 => ?_)
    refine RefR.ev0 (st' := ⟨[(0, .c (.str a0)), (7, .c (errC r3.2.2)), (8, .c (.str r4.1)), (9, .c (E45.tree r4.2.1)), (10, .c (errC r4.2.2))], [], [], 0⟩) 5 7 12 [0, 7, 8, 9, 10] [] rfl (by kernel_rfl) ?_
    refine RefR.nilC 12 (by kernel_rfl) ?_
    refine Ref.seqC (cd (bd Tryd.f5) [1, 1, 1, 1, 0]) (cd (bd Tryd.f5) [1, 1, 1, 1, 1]) (by kernel_rfl) ?_
    refine Ref.seqC (cd (bd Tryd.f5) [1, 1, 1, 1, 0, 0]) (cd (bd Tryd.f5) [1, 1, 1, 1, 0, 1]) (by kernel_rfl) ?_
    refine Ref.regionC 5 (by kernel_rfl) ?_
    refine RefR.ev0 (st' := ⟨[(0, .c (.str a0)), (7, .c (errC r3.2.2)), (8, .c (.str r4.1)), (9, .c (E45.tree r4.2.1)), (10, .c (errC r4.2.2)), (40, .c (.val (.bool (!(!r3.2.2.isSome)))))], [], [], 0⟩) 0 2 2 [0, 7, 8, 9, 10, 40] [] rfl (by kernel_rfl) ?_
    refine RefR.nilC 2 (by kernel_rfl) ?_
    refine Ref.condC (.tmp 40) (!(!r3.2.2.isSome)) (by kernel_rfl) rfl (by kernel_rfl) (fun hc => ?_) (fun hc => ?_)
    ·
      refine Ref.seqC (cd (bd Tryd.f5) [1, 1, 1, 1, 0, 1, 0, 0]) (cd (bd Tryd.f5) [1, 1, 1, 1, 0, 1, 0, 1]) (by kernel_rfl) ?_
      refine Ref.regionC 6 (by kernel_rfl) ?_
      refine RefR.ev0 (st' := ⟨[(0, .c (.str a0)), (8, .c (.str r4.1)), (9, .c (E45.tree r4.2.1)), (10, .c (errC r4.2.2)), (42, .c (errC r3.2.2))], [], [], 0⟩) 0 1 1 [0, 8, 9, 10, 42] [] rfl (by kernel_rfl) ?_
      refine RefR.callC (t := 43) 1 2 [] rfl (by kernel_rfl) (F14_ok K r3.2.2) (fun r5 => ?_)
      refine RefR.ev0 (st' := ⟨[(0, .c (.str a0)), (8, .c (.str r4.1)), (9, .c (E45.tree r4.2.1)), (10, .c (errC r4.2.2)), (11, .c (.val (.int .i64 r5.1))), (12, .c (.val (.int .i64 r5.2)))], [], [], 0⟩) 2 5 7 [0, 8, 9, 10, 11, 12] [] rfl (by kernel_rfl) ?_
      refine RefR.nilC 7 (by kernel_rfl) ?_
      refine Ref.seqC (cd (bd Tryd.f5) [1, 1, 1, 1, 0, 1, 0, 1, 0]) (cd (bd Tryd.f5) [1, 1, 1, 1, 0, 1, 0, 1, 1]) (by kernel_rfl) ?_
      refine Ref.regionC 7 (by kernel_rfl) ?_
      refine RefR.ev0 (st' := ⟨[(0, .c (.str a0)), (8, .c (.str r4.1)), (9, .c (E45.tree r4.2.1)), (10, .c (errC r4.2.2)), (11, .c (.val (.int .i64 r5.1))), (12, .c (.val (.int .i64 r5.2))), (47, .c (errC r4.2.2))], [], [], 0⟩) 0 1 1 [0, 8, 9, 10, 11, 12, 47] [] rfl (by kernel_rfl) ?_
      refine RefR.callC (t := 48) 1 2 [] rfl (by kernel_rfl) (F14_ok K r4.2.2) (fun r6 => ?_)
      refine RefR.ev0 (st' := ⟨[(0, .c (.str a0)), (8, .c (.str r4.1)), (9, .c (E45.tree r4.2.1)), (10, .c (errC r4.2.2)), (11, .c (.val (.int .i64 r5.1))), (12, .c (.val (.int .i64 r5.2))), (13, .c (.val (.int .i64 r6.1))), (14, .c (.val (.int .i64 r6.2)))], [], [], 0⟩) 2 5 7 [0, 8, 9, 10, 11, 12, 13, 14] [] rfl (by kernel_rfl) ?_
      refine RefR.nilC 7 (by kernel_rfl) ?_
      refine Ref.seqC (cd (bd Tryd.f5) [1, 1, 1, 1, 0, 1, 0, 1, 1, 0]) (cd (bd Tryd.f5) [1, 1, 1, 1, 0, 1, 0, 1, 1, 1]) (by kernel_rfl) ?_
      refine Ref.seqC (cd (bd Tryd.f5) [1, 1, 1, 1, 0, 1, 0, 1, 1, 0, 0]) (cd (bd Tryd.f5) [1, 1, 1, 1, 0, 1, 0, 1, 1, 0, 1]) (by kernel_rfl) ?_
      refine Ref.regionC 8 (by kernel_rfl) ?_
      refine RefR.evC (vs := [!(!(a0 == ([] : Bytes))) || inb (IntKind.i64.wrap ((Int.ofNat a0.length) - 1)) a0.length]) (st' := ⟨[(8, .c (.str r4.1)), (9, .c (E45.tree r4.2.1)), (10, .c (errC r4.2.2)), (11, .c (.val (.int .i64 r5.1))), (12, .c (.val (.int .i64 r5.2))), (13, .c (.val (.int .i64 r6.1))), (14, .c (.val (.int .i64 r6.2))), (60, .c (.val (.bool ((!(a0 == ([] : Bytes))) && (((Int.ofNat (a0.getD ((IntKind.i64.wrap ((Int.ofNat a0.length) - 1)) : Int).toNat 0).toNat) : Int) != 10)))))], [], [], 0⟩) 0 10 10 [8, 9, 10, 11, 12, 13, 14, 60] [] rfl (by kernel_rfl) ?_
      refine RefR.letC (stf := fun x7 => ⟨[(8, .c (.str r4.1)), (9, .c (E45.tree r4.2.1)), (10, .c (errC r4.2.2)), (11, .c (.val (.int .i64 r5.1))), (12, .c (.val (.int .i64 r5.2))), (13, .c (.val (.int .i64 r6.1))), (14, .c (.val (.int .i64 r6.2))), (60, .c (.val (.bool x7)))], [], [], 0⟩) (by kernel_rfl) (fun x7 => ?_)
      refine RefR.nilC 10 (by kernel_rfl) ?_
      refine Ref.condC (.tmp 60) x7 (by kernel_rfl) rfl (by kernel_rfl) (fun hc => ?_) (fun hc => ?_)
      ·
        refine Ref.seqC (cd (bd Tryd.f5) [1, 1, 1, 1, 0, 1, 0, 1, 1, 0, 1, 0, 0]) (cd (bd Tryd.f5) [1, 1, 1, 1, 0, 1, 0, 1, 1, 0, 1, 0, 1]) (by kernel_rfl) ?_
        refine Ref.regionC 9 (by kernel_rfl) ?_
        refine RefR.ev0 (st' := ⟨[(78, .c (.val (.bool (((((r5.1 : Int) == r6.1) && ((r5.2 : Int) == r6.2)) && (r4.1 == ([] : Bytes))) && (((Int.ofNat r4.2.1.length) : Int) == 0)))))], [], [], 0⟩) 0 18 18 [78] [] rfl (by kernel_rfl) ?_
        refine RefR.letC (stf := fun x8 => ⟨[(78, .c (.val (.bool x8)))], [], [], 0⟩) (by kernel_rfl) (fun x8 => ?_)
        refine RefR.lookC (t := 79) (g := [(78, true)]) (b := x8) 18 19 [] (default : Bool) rfl (by kernel_rfl) (F7_ok K) (fun _ => rfl) (fun r9 => ?_)
        refine RefR.ev0 (st' := ⟨[(4, .c (.val (.bool (x8 && r9))))], [], [], 0⟩) 19 2 21 [4] [] rfl (by kernel_rfl) ?_
        refine RefR.nilC 21 (by kernel_rfl) ?_
        exact Ref.retC (t := ((x8 && r9))) (by kernel_rfl) (by kernel_rfl)
      ·
        refine Ref.skipC (by kernel_rfl) ?_
        refine Ref.seqC (cd (bd Tryd.f5) [1, 1, 1, 1, 0, 1, 0, 1, 1, 1, 0]) (cd (bd Tryd.f5) [1, 1, 1, 1, 0, 1, 0, 1, 1, 1, 1]) (by kernel_rfl) ?_
        refine Ref.regionC 10 (by kernel_rfl) ?_
        refine RefR.ev0 (st' := ⟨[(83, .c (.val (.bool (!(!r4.2.2.isSome)))))], [], [], 0⟩) 0 3 3 [83] [] rfl (by kernel_rfl) ?_
        refine RefR.lookC (t := 84) (g := [(83, true)]) (b := (!(!r4.2.2.isSome))) 3 4 [] (default : Bool) rfl (by kernel_rfl) (F7_ok K) (fun _ => rfl) (fun r10 => ?_)
        refine RefR.ev0 (st' := ⟨[(4, .c (.val (.bool ((!(!r4.2.2.isSome)) && r10))))], [], [], 0⟩) 4 2 6 [4] [] rfl (by kernel_rfl) ?_
        refine RefR.nilC 6 (by kernel_rfl) ?_
        exact Ref.retC (t := (((!(!r4.2.2.isSome)) && r10))) (by kernel_rfl) (by kernel_rfl)
    ·
      refine Ref.skipC (by kernel_rfl) ?_
      refine Ref.seqC (cd (bd Tryd.f5) [1, 1, 1, 1, 1, 0]) (cd (bd Tryd.f5) [1, 1, 1, 1, 1, 1]) (by kernel_rfl) ?_
      refine Ref.regionC 11 (by kernel_rfl) ?_
      refine RefR.ev0 (st' := ⟨[(97, .c (.val (.bool ((!r4.2.2.isSome) || ((r4.1 == ([] : Bytes)) && (((Int.ofNat r4.2.1.length) : Int) == 0))))))], [], [], 0⟩) 0 12 12 [97] [] rfl (by kernel_rfl) ?_
      refine RefR.letC (stf := fun x11 => ⟨[(97, .c (.val (.bool x11)))], [], [], 0⟩) (by kernel_rfl) (fun x11 => ?_)
      refine RefR.lookC (t := 98) (g := [(97, true)]) (b := x11) 12 13 [] (default : Bool) rfl (by kernel_rfl) (F7_ok K) (fun _ => rfl) (fun r12 => ?_)
      refine RefR.ev0 (st' := ⟨[(4, .c (.val (.bool (x11 && r12))))], [], [], 0⟩) 13 2 15 [4] [] rfl (by kernel_rfl) ?_
      refine RefR.nilC 15 (by kernel_rfl) ?_
      exact Ref.retC (t := ((x11 && r12))) (by kernel_rfl) (by kernel_rfl)

/-- governor/governorlaw25.ScriptBack -/
def F6 (K : Nat) (a0 : Bytes) (a1 : (List S45)) (a2 : Bytes) : Option ((Bool) ⊕ (Bool)) :=
  (letV (decide (((Int.ofNat a0.length) : Int) > 20000)) (fun (x1 : Bool) => ((condM (!x1) (fnS (F16 K a1 40)) default).bind (fun r2 => (letV ((x1 || r2) || (decide (((Int.ofNat a2.length) : Int) > 20000))) (fun (x3 : Bool) => (if x3 = true then ((fnS (F7 K)).bind (fun r4 => (some (.inl (r4))))) else ((fnS (F17 K a0 a1)).bind (fun r5 => (bindS (if (!r5.2.isSome) = true then ((fnS (F12 K r5.1)).bind (fun r10 => ((condM (!((!(!r10.2.2.isSome)) || (!(r10.1 == a0)))) (fnS (F15 K r10.2.1 a1)) default).bind (fun r11 => (letV (((!(!r10.2.2.isSome)) || (!(r10.1 == a0))) || (!r11)) (fun (x12 : Bool) => (if x12 = true then (some (.inl (false))) else (some (.inr ()))))))))) else (if (!(r5.1 == ([] : Bytes))) = true then (some (.inl (false))) else (some (.inr ())))) (fun (u9 : Unit) => ((fnS (F12 K a2)).bind (fun r13 => (if (!(!r13.2.2.isSome)) = true then (letV ((r13.1 == ([] : Bytes)) && (((Int.ofNat r13.2.1.length) : Int) == 0)) (fun (x14 : Bool) => ((condM x14 (fnS (F7 K)) default).bind (fun r15 => (some (.inl ((x14 && r15)))))))) else ((fnS (F17 K r13.1 r13.2.1)).bind (fun r16 => ((fnS (F12 K r16.1)).bind (fun r17 => ((condM (((!r17.2.2.isSome) && (r17.1 == r13.1)) && (!(!(!r16.2.isSome)))) (fnS (F15 K r17.2.1 r13.2.1)) default).bind (fun r18 => (letV ((!(!r16.2.isSome)) || (((!r17.2.2.isSome) && (r17.1 == r13.1)) && r18)) (fun (x19 : Bool) => ((condM ((!(!r16.2.isSome)) && x19) (fnS (F18 K r16.2)) default).bind (fun r20 => (letV (x19 && ((!r16.2.isSome) || ((r20 : Int) == 24))) (fun (x21 : Bool) => ((condM x21 (fnS (F7 K)) default).bind (fun r22 => (some (.inl ((x21 && r22))))))))))))))))))))))))))))))))

theorem F6_ok (K : Nat) (a0 : Bytes) (a1 : (List S45)) (a2 : Bytes) : DFun Tryd.prog 6 [.c (.str a0), .c (E45.tree a1), .c (.str a2)] [] (fnS (F6 K a0 a1 a2)) (fun r => .c (.val (.bool r))) (fun r => []) := by
  refine DFun.intro (fn := Tryd.f6) (c := cd (bd Tryd.f6) []) (rs := fun r => ⟨[(6, .c (.val (.bool r)))], [], [], 0⟩) (by kernel_rfl) (by kernel_rfl) (by kernel_rfl) ?_ (fun r => by kernel_rfl) (fun r => by kernel_rfl) (fun r => by kernel_rfl) (fun r => by kernel_rfl)
  unfold F6
  refine Ref.seqC (cd (bd Tryd.f6) [0]) (cd (bd Tryd.f6) [1]) (by kernel_rfl) ?_
  refine Ref.regionC 0 (by kernel_rfl) ?_
  refine RefR.ev0 (st' := ⟨[(0, .c (.str a0)), (1, .c (E45.tree a1)), (2, .c (.str a2))], [], [], 0⟩) 0 1 1 [0, 1, 2] [] rfl (by kernel_rfl) ?_
  refine RefR.nilC 1 (by kernel_rfl) ?_
  refine Ref.seqC (cd (bd Tryd.f6) [1, 0]) (cd (bd Tryd.f6) [1, 1]) (by kernel_rfl) ?_
  refine Ref.seqC (cd (bd Tryd.f6) [1, 0, 0]) (cd (bd Tryd.f6) [1, 0, 1]) (by kernel_rfl) ?_
  refine Ref.regionC 1 (by kernel_rfl) ?_
  refine RefR.ev0 (st' := ⟨[(0, .c (.str a0)), (1, .c (E45.tree a1)), (2, .c (.str a2)), (23, .c (.val (.bool (decide (((Int.ofNat a0.length) : Int) > 20000))))), (24, .c (E45.tree a1))], [], [(24, [(23, false)])], 0⟩) 0 5 5 [0, 1, 2, 23, 24] [] rfl (by kernel_rfl) ?_
  refine RefR.letC (stf := fun x1 => ⟨[(0, .c (.str a0)), (1, .c (E45.tree a1)), (2, .c (.str a2)), (23, .c (.val (.bool x1))), (24, .c (E45.tree a1))], [], [(24, [(23, false)])], 0⟩) (by kernel_rfl) (fun x1 => ?_)
  refine RefR.lookC (t := 25) (g := [(23, false)]) (b := (!x1)) 5 6 [] (default : Bool) rfl (by kernel_rfl) (F16_ok K a1 40) (fun _ => rfl) (fun r2 => ?_)
  refine RefR.ev0 (st' := ⟨[(0, .c (.str a0)), (1, .c (E45.tree a1)), (2, .c (.str a2)), (31, .c (.val (.bool ((x1 || r2) || (decide (((Int.ofNat a2.length) : Int) > 20000))))))], [], [], 0⟩) 6 6 12 [0, 1, 2, 31] [] rfl (by kernel_rfl) ?_
  refine RefR.letC (stf := fun x3 => ⟨[(0, .c (.str a0)), (1, .c (E45.tree a1)), (2, .c (.str a2)), (31, .c (.val (.bool x3)))], [], [], 0⟩) (by kernel_rfl) (fun x3 => ?_)
  refine RefR.nilC 12 (by kernel_rfl) ?_
  refine Ref.condC (.tmp 31) x3 (by kernel_rfl) rfl (by kernel_rfl) (fun hc => ?_) (fun hc => ?_)
  ·
    refine Ref.seqC (cd (bd Tryd.f6) [1, 0, 1, 0, 0]) (cd (bd Tryd.f6) [1, 0, 1, 0, 1]) (by kernel_rfl) ?_
    refine Ref.regionC 2 (by kernel_rfl) ?_
    refine RefR.callC (t := 32) 0 1 [] rfl (by kernel_rfl) (F7_ok K) (fun r4 => ?_)
    refine RefR.ev0 (st' := ⟨[(6, .c (.val (.bool r4)))], [], [], 0⟩) 1 1 2 [6] [] rfl (by kernel_rfl) ?_
    refine RefR.nilC 2 (by kernel_rfl) ?_
    exact Ref.retC (t := (r4)) (by kernel_rfl) (by kernel_rfl)
  ·
    refine Ref.skipC (by kernel_rfl) ?_
    refine Ref.seqC (cd (bd Tryd.f6) [1, 1, 0]) (cd (bd Tryd.f6) [1, 1, 1]) (by kernel_rfl) ?_
    refine Ref.regionC 3 (by kernel_rfl) ?_
    refine RefR.ev0 (st' := ⟨[(0, .c (.str a0)), (1, .c (E45.tree a1)), (2, .c (.str a2)), (34, .c (.str a0)), (35, .c (E45.tree a1))], [], [], 0⟩) 0 2 2 [0, 1, 2, 34, 35] [] rfl (by kernel_rfl) ?_
    refine RefR.callC (t := 36) 2 3 [] rfl (by kernel_rfl) (F17_ok K a0 a1) (fun r5 => ?_)
    refine RefR.ev0 (st' := ⟨[(0, .c (.str a0)), (1, .c (E45.tree a1)), (2, .c (.str a2)), (7, .c (.str r5.1)), (8, .c (errC r5.2))], [], [], 0⟩) 3 5 8 [0, 1, 2, 7, 8] [] rfl (by kernel_rfl) ?_
    refine RefR.nilC 8 (by kernel_rfl) ?_
    refine Ref.seqC (cd (bd Tryd.f6) [1, 1, 1, 0]) (cd (bd Tryd.f6) [1, 1, 1, 1]) (by kernel_rfl) ?_
    refine Ref.seqC (cd (bd Tryd.f6) [1, 1, 1, 0, 0]) (cd (bd Tryd.f6) [1, 1, 1, 0, 1]) (by kernel_rfl) ?_
    refine Ref.regionC 4 (by kernel_rfl) ?_
    refine RefR.ev0 (st' := ⟨[(0, .c (.str a0)), (1, .c (E45.tree a1)), (2, .c (.str a2)), (7, .c (.str r5.1)), (40, .c (.val (.bool (!r5.2.isSome))))], [], [], 0⟩) 0 2 2 [0, 1, 2, 7, 40] [] rfl (by kernel_rfl) ?_
    refine RefR.nilC 2 (by kernel_rfl) ?_
    refine Ref.bind (go1 := fun u9 => ⟨[(2, .c (.str a2))], [], [], 0⟩) ?_ (fun u9 => ?_)
    ·
      refine Ref.condC (.tmp 40) (!r5.2.isSome) (by kernel_rfl) rfl (by kernel_rfl) (fun hc => ?_) (fun hc => ?_)
      ·
        refine Ref.seqC (cd (bd Tryd.f6) [1, 1, 1, 0, 1, 0, 0]) (cd (bd Tryd.f6) [1, 1, 1, 0, 1, 0, 1]) (by kernel_rfl) ?_
        refine Ref.regionC 5 (by kernel_rfl) ?_
        refine RefR.ev0 (st' := ⟨[(0, .c (.str a0)), (1, .c (E45.tree a1)), (2, .c (.str a2)), (42, .c (.str r5.1))], [], [], 0⟩) 0 1 1 [0, 1, 2, 42] [] rfl (by kernel_rfl) ?_
        refine RefR.callC (t := 43) 1 2 [] rfl (by kernel_rfl) (F12_ok K r5.1) (fun r10 => ?_)
        refine RefR.ev0 (st' := ⟨[(0, .c (.str a0)), (1, .c (E45.tree a1)), (2, .c (.str a2)), (9, .c (.str r10.1)), (10, .c (E45.tree r10.2.1)), (11, .c (errC r10.2.2))], [], [], 0⟩) 2 7 9 [0, 1, 2, 9, 10, 11] [] rfl (by kernel_rfl) ?_
        refine RefR.nilC 9 (by kernel_rfl) ?_
        refine Ref.seqC (cd (bd Tryd.f6) [1, 1, 1, 0, 1, 0, 1, 0]) (cd (bd Tryd.f6) [1, 1, 1, 0, 1, 0, 1, 1]) (by kernel_rfl) ?_
        refine Ref.regionC 6 (by kernel_rfl) ?_
        refine RefR.ev0 (st' := ⟨[(2, .c (.str a2)), (54, .c (.val (.bool ((!(!r10.2.2.isSome)) || (!(r10.1 == a0)))))), (55, .c (E45.tree r10.2.1)), (56, .c (E45.tree a1))], [], [(56, [(54, false)]), (55, [(54, false)])], 0⟩) 0 10 10 [2, 54, 55, 56] [] rfl (by kernel_rfl) ?_
        refine RefR.lookC (t := 57) (g := [(54, false)]) (b := (!((!(!r10.2.2.isSome)) || (!(r10.1 == a0))))) 10 11 [] (default : Bool) rfl (by kernel_rfl) (F15_ok K r10.2.1 a1) (fun _ => rfl) (fun r11 => ?_)
        refine RefR.ev0 (st' := ⟨[(2, .c (.str a2)), (59, .c (.val (.bool (((!(!r10.2.2.isSome)) || (!(r10.1 == a0))) || (!r11)))))], [], [], 0⟩) 11 2 13 [2, 59] [] rfl (by kernel_rfl) ?_
        refine RefR.letC (stf := fun x12 => ⟨[(2, .c (.str a2)), (59, .c (.val (.bool x12)))], [], [], 0⟩) (by kernel_rfl) (fun x12 => ?_)
        refine RefR.nilC 13 (by kernel_rfl) ?_
        refine Ref.condC (.tmp 59) x12 (by kernel_rfl) rfl (by kernel_rfl) (fun hc => ?_) (fun hc => ?_)
        ·
          refine Ref.seqC (cd (bd Tryd.f6) [1, 1, 1, 0, 1, 0, 1, 1, 0, 0]) (cd (bd Tryd.f6) [1, 1, 1, 0, 1, 0, 1, 1, 0, 1]) (by kernel_rfl) ?_
          refine Ref.regionC 7 (by kernel_rfl) ?_
          refine RefR.ev0 (st' := ⟨[(6, .c (.val (.bool false)))], [], [], 0⟩) 0 1 1 [6] [] rfl (by kernel_rfl) ?_
          refine RefR.nilC 1 (by kernel_rfl) ?_
          exact Ref.retC (t := (false)) (by kernel_rfl) (by kernel_rfl)
        ·
          refine Ref.skipC (by kernel_rfl) ?_
          refine Ref.conv (Conv.keep (st' := ⟨[(2, .c (.str a2))], [], [], 0⟩) [2] [] (by kernel_rfl)) ?_
          exact Ref.nil (t := ()) (by kernel_rfl)
      ·
        refine Ref.seqC (cd (bd Tryd.f6) [1, 1, 1, 0, 1, 1, 0]) (cd (bd Tryd.f6) [1, 1, 1, 0, 1, 1, 1]) (by kernel_rfl) ?_
        refine Ref.regionC 8 (by kernel_rfl) ?_
        refine RefR.ev0 (st' := ⟨[(2, .c (.str a2)), (61, .c (.val (.bool (!(r5.1 == ([] : Bytes))))))], [], [], 0⟩) 0 2 2 [2, 61] [] rfl (by kernel_rfl) ?_
        refine RefR.nilC 2 (by kernel_rfl) ?_
        refine Ref.condC (.tmp 61) (!(r5.1 == ([] : Bytes))) (by kernel_rfl) rfl (by kernel_rfl) (fun hc => ?_) (fun hc => ?_)
        ·
          refine Ref.seqC (cd (bd Tryd.f6) [1, 1, 1, 0, 1, 1, 1, 0, 0]) (cd (bd Tryd.f6) [1, 1, 1, 0, 1, 1, 1, 0, 1]) (by kernel_rfl) ?_
          refine Ref.regionC 9 (by kernel_rfl) ?_
          refine RefR.ev0 (st' := ⟨[(6, .c (.val (.bool false)))], [], [], 0⟩) 0 1 1 [6] [] rfl (by kernel_rfl) ?_
          refine RefR.nilC 1 (by kernel_rfl) ?_
          exact Ref.retC (t := (false)) (by kernel_rfl) (by kernel_rfl)
        ·
          refine Ref.skipC (by kernel_rfl) ?_
          refine Ref.conv (Conv.keep (st' := ⟨[(2, .c (.str a2))], [], [], 0⟩) [2] [] (by kernel_rfl)) ?_
          exact Ref.nil (t := ()) (by kernel_rfl)
    ·
      refine Ref.seqC (cd (bd Tryd.f6) [1, 1, 1, 1, 0]) (cd (bd Tryd.f6) [1, 1, 1, 1, 1]) (by kernel_rfl) ?_
      refine Ref.regionC 10 (by kernel_rfl) ?_
      refine RefR.ev0 (st' := ⟨[(63, .c (.str a2))], [], [], 0⟩) 0 1 1 [63] [] rfl (by kernel_rfl) ?_
      refine RefR.callC (t := 64) 1 2 [] rfl (by kernel_rfl) (F12_ok K a2) (fun r13 => ?_)
      refine RefR.ev0 (st' := ⟨[(12, .c (.str r13.1)), (13, .c (E45.tree r13.2.1)), (14, .c (errC r13.2.2))], [], [], 0⟩) 2 7 9 [12, 13, 14] [] rfl (by kernel_rfl) ?_
      refine RefR.nilC 9 (by kernel_rfl) ?_
      refine Ref.seqC (cd (bd Tryd.f6) [1, 1, 1, 1, 1, 0]) (cd (bd Tryd.f6) [1, 1, 1, 1, 1, 1]) (by kernel_rfl) ?_
      refine Ref.seqC (cd (bd Tryd.f6) [1, 1, 1, 1, 1, 0, 0]) (cd (bd Tryd.f6) [1, 1, 1, 1, 1, 0, 1]) (by kernel_rfl) ?_
      refine Ref.regionC 11 (by kernel_rfl) ?_
      refine RefR.ev0 (st' := ⟨[(12, .c (.str r13.1)), (13, .c (E45.tree r13.2.1)), (69, .c (.val (.bool (!(!r13.2.2.isSome)))))], [], [], 0⟩) 0 2 2 [12, 13, 69] [] rfl (by kernel_rfl) ?_
      refine RefR.nilC 2 (by kernel_rfl) ?_
      refine Ref.condC (.tmp 69) (!(!r13.2.2.isSome)) (by kernel_rfl) rfl (by kernel_rfl) (fun hc => ?_) (fun hc => ?_)
      ·
        refine Ref.seqC (cd (bd Tryd.f6) [1, 1, 1, 1, 1, 0, 1, 0, 0]) (cd (bd Tryd.f6) [1, 1, 1, 1, 1, 0, 1, 0, 1]) (by kernel_rfl) ?_
        refine Ref.regionC 12 (by kernel_rfl) ?_
        refine RefR.ev0 (st' := ⟨[(77, .c (.val (.bool ((r13.1 == ([] : Bytes)) && (((Int.ofNat r13.2.1.length) : Int) == 0)))))], [], [], 0⟩) 0 8 8 [77] [] rfl (by kernel_rfl) ?_
        refine RefR.letC (stf := fun x14 => ⟨[(77, .c (.val (.bool x14)))], [], [], 0⟩) (by kernel_rfl) (fun x14 => ?_)
        refine RefR.lookC (t := 78) (g := [(77, true)]) (b := x14) 8 9 [] (default : Bool) rfl (by kernel_rfl) (F7_ok K) (fun _ => rfl) (fun r15 => ?_)
        refine RefR.ev0 (st' := ⟨[(6, .c (.val (.bool (x14 && r15))))], [], [], 0⟩) 9 2 11 [6] [] rfl (by kernel_rfl) ?_
        refine RefR.nilC 11 (by kernel_rfl) ?_
        exact Ref.retC (t := ((x14 && r15))) (by kernel_rfl) (by kernel_rfl)
      ·
        refine Ref.skipC (by kernel_rfl) ?_
        refine Ref.seqC (cd (bd Tryd.f6) [1, 1, 1, 1, 1, 1, 0]) (cd (bd Tryd.f6) [1, 1, 1, 1, 1, 1, 1]) (by kernel_rfl) ?_
        refine Ref.regionC 13 (by kernel_rfl) ?_
        refine RefR.ev0 (st' := ⟨[(12, .c (.str r13.1)), (13, .c (E45.tree r13.2.1)), (81, .c (.str r13.1)), (82, .c (E45.tree r13.2.1))], [], [], 0⟩) 0 2 2 [12, 13, 81, 82] [] rfl (by kernel_rfl) ?_
        refine RefR.callC (t := 83) 2 3 [] rfl (by kernel_rfl) (F17_ok K r13.1 r13.2.1) (fun r16 => ?_)
        refine RefR.ev0 (st' := ⟨[(12, .c (.str r13.1)), (13, .c (E45.tree r13.2.1)), (15, .c (.str r16.1)), (16, .c (errC r16.2))], [], [], 0⟩) 3 5 8 [12, 13, 15, 16] [] rfl (by kernel_rfl) ?_
        refine RefR.nilC 8 (by kernel_rfl) ?_
        refine Ref.seqC (cd (bd Tryd.f6) [1, 1, 1, 1, 1, 1, 1, 0]) (cd (bd Tryd.f6) [1, 1, 1, 1, 1, 1, 1, 1]) (by kernel_rfl) ?_
        refine Ref.regionC 14 (by kernel_rfl) ?_
        refine RefR.ev0 (st' := ⟨[(12, .c (.str r13.1)), (13, .c (E45.tree r13.2.1)), (16, .c (errC r16.2)), (87, .c (.str r16.1))], [], [], 0⟩) 0 1 1 [12, 13, 16, 87] [] rfl (by kernel_rfl) ?_
        refine RefR.callC (t := 88) 1 2 [] rfl (by kernel_rfl) (F12_ok K r16.1) (fun r17 => ?_)
        refine RefR.ev0 (st' := ⟨[(12, .c (.str r13.1)), (13, .c (E45.tree r13.2.1)), (16, .c (errC r16.2)), (17, .c (.str r17.1)), (18, .c (E45.tree r17.2.1)), (19, .c (errC r17.2.2))], [], [], 0⟩) 2 7 9 [12, 13, 16, 17, 18, 19] [] rfl (by kernel_rfl) ?_
        refine RefR.nilC 9 (by kernel_rfl) ?_
        refine Ref.seqC (cd (bd Tryd.f6) [1, 1, 1, 1, 1, 1, 1, 1, 0]) (cd (bd Tryd.f6) [1, 1, 1, 1, 1, 1, 1, 1, 1]) (by kernel_rfl) ?_
        refine Ref.regionC 15 (by kernel_rfl) ?_
        refine RefR.ev0 (st' := ⟨[(16, .c (errC r16.2)), (94, .c (.val (.bool (!(!r16.2.isSome))))), (102, .c (.val (.bool ((!r17.2.2.isSome) && (r17.1 == r13.1))))), (103, .c (E45.tree r17.2.1)), (104, .c (E45.tree r13.2.1))], [], [(104, [(102, true), (94, false)]), (103, [(102, true), (94, false)]), (102, [(94, false)])], 0⟩) 0 13 13 [16, 94, 102, 103, 104] [] rfl (by kernel_rfl) ?_
        refine RefR.lookC (t := 105) (g := [(102, true), (94, false)]) (b := (((!r17.2.2.isSome) && (r17.1 == r13.1)) && (!(!(!r16.2.isSome))))) 13 14 [] (default : Bool) rfl (by kernel_rfl) (F15_ok K r17.2.1 r13.2.1) (fun _ => rfl) (fun r18 => ?_)
        refine RefR.ev0 (st' := ⟨[(108, .c (.val (.bool ((!(!r16.2.isSome)) || (((!r17.2.2.isSome) && (r17.1 == r13.1)) && r18))))), (111, .c (.val (.bool (!r16.2.isSome)))), (112, .c (errC r16.2))], [], [(112, [(111, false), (108, true)]), (111, [(108, true)])], 0⟩) 14 7 21 [108, 111, 112] [] rfl (by kernel_rfl) ?_
        refine RefR.letC (stf := fun x19 => ⟨[(108, .c (.val (.bool x19))), (111, .c (.val (.bool (!r16.2.isSome)))), (112, .c (errC r16.2))], [], [(112, [(111, false), (108, true)]), (111, [(108, true)])], 0⟩) (by kernel_rfl) (fun x19 => ?_)
        refine RefR.lookC (t := 113) (g := [(111, false), (108, true)]) (b := ((!(!r16.2.isSome)) && x19)) 21 22 [] (default : Int) rfl (by kernel_rfl) (F18_ok K r16.2) (fun _ => rfl) (fun r20 => ?_)
        refine RefR.ev0 (st' := ⟨[(117, .c (.val (.bool (x19 && ((!r16.2.isSome) || ((r20 : Int) == 24))))))], [], [], 0⟩) 22 4 26 [117] [] rfl (by kernel_rfl) ?_
        refine RefR.letC (stf := fun x21 => ⟨[(117, .c (.val (.bool x21)))], [], [], 0⟩) (by kernel_rfl) (fun x21 => ?_)
        refine RefR.lookC (t := 118) (g := [(117, true)]) (b := x21) 26 27 [] (default : Bool) rfl (by kernel_rfl) (F7_ok K) (fun _ => rfl) (fun r22 => ?_)
        refine RefR.ev0 (st' := ⟨[(6, .c (.val (.bool (x21 && r22))))], [], [], 0⟩) 27 2 29 [6] [] rfl (by kernel_rfl) ?_
        refine RefR.nilC 29 (by kernel_rfl) ?_
        exact Ref.retC (t := ((x21 && r22))) (by kernel_rfl) (by kernel_rfl)

end Go.Proofs.YtmllhpnlceaneaaDoor
