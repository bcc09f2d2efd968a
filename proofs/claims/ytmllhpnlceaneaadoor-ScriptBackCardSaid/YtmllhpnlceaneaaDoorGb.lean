/- Plain functions, and that the Go functions do what these do: printed by gen2.py. No conditions. -/
import Derived.Test.YtmllhpnlceaneaaDoorGa
import Derived.Test.YtmllhpnlceaneaaDoorProg
set_option linter.unusedVariables false
set_option linter.unusedSimpArgs false
set_option linter.unusedSectionVars false
namespace Go.Proofs.YtmllhpnlceaneaaDoor
open Go Go.Proofs Go.Dl

/-- (*strings.Builder).WriteString -/
def F24 (K : Nat) (a0 : S52) (a1 : Bytes) : Option ((Int × Err × S52) ⊕ (Int × Err × S52)) :=
  ((fnS (F37 K a0)).bind (fun r1 => (chk [room ((r1.fbuf.length + a1.length) * 1)] (some (.inl ((Int.ofNat a1.length), none, (⟨r1.faddr, (r1.fbuf ++ a1)⟩ : S52)))))))

theorem F24_ok (K : Nat) (a0 : S52) (a1 : Bytes) : DFun Tryd.prog 24 [.c (.ptr 0 0 0), .c (.str a1)] [.cells [.self 52 a0.faddr 0, .own 1 a0.fbuf.length], E5.row a0.fbuf] (fnS (F24 K a0 a1)) (fun r => .tup [.c (.val (.int .i64 r.1)), .c (errC r.2.1)]) (fun r => [.cells [.self 52 r.2.2.faddr 0, .own 2 r.2.2.fbuf.length], .dead, E5.row r.2.2.fbuf]) := by
  refine DFun.intro (fn := Tryd.f24) (c := cd (bd Tryd.f24) []) (rs := fun r => ⟨[(4, .c (.val (.int .i64 r.1))), (5, .c (errC r.2.1))], [.cells [.self 52 r.2.2.faddr 0, .own 2 r.2.2.fbuf.length], .dead, E5.row r.2.2.fbuf], [], 2⟩) (by kernel_rfl) (by kernel_rfl) (by kernel_rfl) ?_ (fun r => by kernel_rfl) (fun r => by kernel_rfl) (fun r => by kernel_rfl) (fun r => by kernel_rfl)
  unfold F24
  refine Ref.seqC (cd (bd Tryd.f24) [0]) (cd (bd Tryd.f24) [1]) (by kernel_rfl) ?_
  refine Ref.regionC 0 (by kernel_rfl) ?_
  refine RefR.ev0 (st' := ⟨[(0, .c (.ptr 0 0 0)), (1, .c (.str a1))], [.cells [.self 52 a0.faddr 0, .own 1 a0.fbuf.length], E5.row a0.fbuf], [], 2⟩) 0 2 2 [0, 1] [0, 1] rfl (by kernel_rfl) ?_
  refine RefR.nilC 2 (by kernel_rfl) ?_
  refine Ref.seqC (cd (bd Tryd.f24) [1, 0]) (cd (bd Tryd.f24) [1, 1]) (by kernel_rfl) ?_
  refine Ref.regionC 1 (by kernel_rfl) ?_
  refine RefR.ev0 (st' := ⟨[(0, .c (.ptr 0 0 0)), (1, .c (.str a1)), (6, .c (.ptr 0 0 0))], [.cells [.self 52 a0.faddr 0, .own 1 a0.fbuf.length], E5.row a0.fbuf], [], 2⟩) 0 1 1 [0, 1, 6] [0, 1] rfl (by kernel_rfl) ?_
  refine RefR.callC (t := 7) 1 2 [0, 1] rfl (by kernel_rfl) (F37_ok K a0) (fun r1 => ?_)
  refine RefR.nilC 2 (by kernel_rfl) ?_
  refine Ref.seqC (cd (bd Tryd.f24) [1, 1, 0]) (cd (bd Tryd.f24) [1, 1, 1]) (by kernel_rfl) ?_
  refine Ref.regionC 2 (by kernel_rfl) ?_
  refine RefR.ev0 (st' := ⟨[(1, .c (.str a1)), (8, .c (.ptr 0 0 0)), (12, .c (.own 1 r1.fbuf.length)), (13, .c (.str a1))], [.cells [.self 52 r1.faddr 0, .own 1 r1.fbuf.length], E5.row r1.fbuf], [], 2⟩) 0 6 6 [1, 8, 12, 13] [0, 1] rfl (by kernel_rfl) ?_
  refine RefR.evC (vs := [room ((r1.fbuf.length + a1.length) * 1)]) (st' := ⟨[(1, .c (.str a1)), (8, .c (.ptr 0 0 0)), (14, .c (.own 2 (r1.fbuf.length + a1.length)))], [.cells [.self 52 r1.faddr 0, .own 1 r1.fbuf.length], .dead, .row 5 1 (r1.fbuf.length + a1.length) fun i j => bif Nat.blt i r1.fbuf.length then E5.at r1.fbuf i j else (fun i _ => .val (.int .u8 (a1.getD i 0).toNat)) (i - r1.fbuf.length) j], [], 2⟩) 6 1 7 [1, 8, 14] [0, 1, 2] rfl (by kernel_rfl) ?_
  refine RefR.conv (Conv.obj 2 (E5.row (r1.fbuf ++ a1)) (El.row_append_str E5 rfl r1.fbuf a1 rfl) (by kernel_rfl)) ?_
  refine RefR.conv (Conv.slot 14 (.c (.own 2 ((r1.fbuf ++ a1).length))) (DLe.c (CLe.own (by simp))) (by kernel_rfl)) ?_
  refine RefR.ev0 (st' := ⟨[(1, .c (.str a1))], [.cells [.self 52 r1.faddr 0, .own 2 ((r1.fbuf ++ a1).length)], .dead, E5.row (r1.fbuf ++ a1)], [], 2⟩) 7 3 10 [1] [0, 1, 2] rfl (by kernel_rfl) ?_
  refine RefR.nilC 10 (by kernel_rfl) ?_
  refine Ref.seqC (cd (bd Tryd.f24) [1, 1, 1, 0]) (cd (bd Tryd.f24) [1, 1, 1, 1]) (by kernel_rfl) ?_
  refine Ref.regionC 3 (by kernel_rfl) ?_
  refine RefR.ev0 (st' := ⟨[(4, .c (.val (.int .i64 (Int.ofNat a1.length)))), (5, .c (.val .nilIface))], [.cells [.self 52 r1.faddr 0, .own 2 ((r1.fbuf ++ a1).length)], .dead, E5.row (r1.fbuf ++ a1)], [], 2⟩) 0 4 4 [4, 5] [0, 1, 2] rfl (by kernel_rfl) ?_
  refine RefR.nilC 4 (by kernel_rfl) ?_
  refine Ref.conv (Conv.slot 5 (.c (errC none)) (DLe.c (errC_nil)) (by kernel_rfl)) ?_
  refine Ref.conv (Conv.keep (st' := ⟨[(4, .c (.val (.int .i64 (Int.ofNat a1.length)))), (5, .c (errC none))], [.cells [.self 52 r1.faddr 0, .own 2 ((r1.fbuf ++ a1).length)], .dead, E5.row (r1.fbuf ++ a1)], [], 2⟩) [4, 5] [0, 1, 2] (by kernel_rfl)) ?_
  exact Ref.retC (t := ((Int.ofNat a1.length), none, (⟨r1.faddr, (r1.fbuf ++ a1)⟩ : S52))) (by kernel_rfl) (by kernel_rfl)

/-- (*strings.Builder).WriteString -/
def F24x73 (K : Nat) (a0 : S73) (a1 : Bytes) : Option ((Int × Err × S73) ⊕ (Int × Err × S73)) :=
  ((fnS (F37x73 K a0)).bind (fun r1 => (chk [room ((r1.fBuilder.fbuf.length + a1.length) * 1)] (some (.inl ((Int.ofNat a1.length), none, (⟨(⟨r1.fBuilder.faddr, (r1.fBuilder.fbuf ++ a1)⟩ : S52), r1.fbad⟩ : S73)))))))

theorem F24x73_ok (K : Nat) (a0 : S73) (a1 : Bytes) : DFun Tryd.prog 24 [.c (.ptr 0 0 0), .c (.str a1)] [.cells [.self 73 a0.fBuilder.faddr 0, .own 1 a0.fBuilder.fbuf.length, .val (.bool a0.fbad)], E5.row a0.fBuilder.fbuf] (fnS (F24x73 K a0 a1)) (fun r => .tup [.c (.val (.int .i64 r.1)), .c (errC r.2.1)]) (fun r => [.cells [.self 73 r.2.2.fBuilder.faddr 0, .own 2 r.2.2.fBuilder.fbuf.length, .val (.bool r.2.2.fbad)], .dead, E5.row r.2.2.fBuilder.fbuf]) := by
  refine DFun.intro (fn := Tryd.f24) (c := cd (bd Tryd.f24) []) (rs := fun r => ⟨[(4, .c (.val (.int .i64 r.1))), (5, .c (errC r.2.1))], [.cells [.self 73 r.2.2.fBuilder.faddr 0, .own 2 r.2.2.fBuilder.fbuf.length, .val (.bool r.2.2.fbad)], .dead, E5.row r.2.2.fBuilder.fbuf], [], 2⟩) (by kernel_rfl) (by kernel_rfl) (by kernel_rfl) ?_ (fun r => by kernel_rfl) (fun r => by kernel_rfl) (fun r => by kernel_rfl) (fun r => by kernel_rfl)
  unfold F24x73
  refine Ref.seqC (cd (bd Tryd.f24) [0]) (cd (bd Tryd.f24) [1]) (by kernel_rfl) ?_
  refine Ref.regionC 0 (by kernel_rfl) ?_
  refine RefR.ev0 (st' := ⟨[(0, .c (.ptr 0 0 0)), (1, .c (.str a1))], [.cells [.self 73 a0.fBuilder.faddr 0, .own 1 a0.fBuilder.fbuf.length, .val (.bool a0.fbad)], E5.row a0.fBuilder.fbuf], [], 2⟩) 0 2 2 [0, 1] [0, 1] rfl (by kernel_rfl) ?_
  refine RefR.nilC 2 (by kernel_rfl) ?_
  refine Ref.seqC (cd (bd Tryd.f24) [1, 0]) (cd (bd Tryd.f24) [1, 1]) (by kernel_rfl) ?_
  refine Ref.regionC 1 (by kernel_rfl) ?_
  refine RefR.ev0 (st' := ⟨[(0, .c (.ptr 0 0 0)), (1, .c (.str a1)), (6, .c (.ptr 0 0 0))], [.cells [.self 73 a0.fBuilder.faddr 0, .own 1 a0.fBuilder.fbuf.length, .val (.bool a0.fbad)], E5.row a0.fBuilder.fbuf], [], 2⟩) 0 1 1 [0, 1, 6] [0, 1] rfl (by kernel_rfl) ?_
  refine RefR.callC (t := 7) 1 2 [0, 1] rfl (by kernel_rfl) (F37x73_ok K a0) (fun r1 => ?_)
  refine RefR.nilC 2 (by kernel_rfl) ?_
  refine Ref.seqC (cd (bd Tryd.f24) [1, 1, 0]) (cd (bd Tryd.f24) [1, 1, 1]) (by kernel_rfl) ?_
  refine Ref.regionC 2 (by kernel_rfl) ?_
  refine RefR.ev0 (st' := ⟨[(1, .c (.str a1)), (8, .c (.ptr 0 0 0)), (12, .c (.own 1 r1.fBuilder.fbuf.length)), (13, .c (.str a1))], [.cells [.self 73 r1.fBuilder.faddr 0, .own 1 r1.fBuilder.fbuf.length, .val (.bool r1.fbad)], E5.row r1.fBuilder.fbuf], [], 2⟩) 0 6 6 [1, 8, 12, 13] [0, 1] rfl (by kernel_rfl) ?_
  refine RefR.evC (vs := [room ((r1.fBuilder.fbuf.length + a1.length) * 1)]) (st' := ⟨[(1, .c (.str a1)), (8, .c (.ptr 0 0 0)), (14, .c (.own 2 (r1.fBuilder.fbuf.length + a1.length)))], [.cells [.self 73 r1.fBuilder.faddr 0, .own 1 r1.fBuilder.fbuf.length, .val (.bool r1.fbad)], .dead, .row 5 1 (r1.fBuilder.fbuf.length + a1.length) fun i j => bif Nat.blt i r1.fBuilder.fbuf.length then E5.at r1.fBuilder.fbuf i j else (fun i _ => .val (.int .u8 (a1.getD i 0).toNat)) (i - r1.fBuilder.fbuf.length) j], [], 2⟩) 6 1 7 [1, 8, 14] [0, 1, 2] rfl (by kernel_rfl) ?_
  refine RefR.conv (Conv.obj 2 (E5.row (r1.fBuilder.fbuf ++ a1)) (El.row_append_str E5 rfl r1.fBuilder.fbuf a1 rfl) (by kernel_rfl)) ?_
  refine RefR.conv (Conv.slot 14 (.c (.own 2 ((r1.fBuilder.fbuf ++ a1).length))) (DLe.c (CLe.own (by simp))) (by kernel_rfl)) ?_
  refine RefR.ev0 (st' := ⟨[(1, .c (.str a1))], [.cells [.self 73 r1.fBuilder.faddr 0, .own 2 ((r1.fBuilder.fbuf ++ a1).length), .val (.bool r1.fbad)], .dead, E5.row (r1.fBuilder.fbuf ++ a1)], [], 2⟩) 7 3 10 [1] [0, 1, 2] rfl (by kernel_rfl) ?_
  refine RefR.nilC 10 (by kernel_rfl) ?_
  refine Ref.seqC (cd (bd Tryd.f24) [1, 1, 1, 0]) (cd (bd Tryd.f24) [1, 1, 1, 1]) (by kernel_rfl) ?_
  refine Ref.regionC 3 (by kernel_rfl) ?_
  refine RefR.ev0 (st' := ⟨[(4, .c (.val (.int .i64 (Int.ofNat a1.length)))), (5, .c (.val .nilIface))], [.cells [.self 73 r1.fBuilder.faddr 0, .own 2 ((r1.fBuilder.fbuf ++ a1).length), .val (.bool r1.fbad)], .dead, E5.row (r1.fBuilder.fbuf ++ a1)], [], 2⟩) 0 4 4 [4, 5] [0, 1, 2] rfl (by kernel_rfl) ?_
  refine RefR.nilC 4 (by kernel_rfl) ?_
  refine Ref.conv (Conv.slot 5 (.c (errC none)) (DLe.c (errC_nil)) (by kernel_rfl)) ?_
  refine Ref.conv (Conv.keep (st' := ⟨[(4, .c (.val (.int .i64 (Int.ofNat a1.length)))), (5, .c (errC none))], [.cells [.self 73 r1.fBuilder.faddr 0, .own 2 ((r1.fBuilder.fbuf ++ a1).length), .val (.bool r1.fbad)], .dead, E5.row (r1.fBuilder.fbuf ++ a1)], [], 2⟩) [4, 5] [0, 1, 2] (by kernel_rfl)) ?_
  exact Ref.retC (t := ((Int.ofNat a1.length), none, (⟨(⟨r1.fBuilder.faddr, (r1.fBuilder.fbuf ++ a1)⟩ : S52), r1.fbad⟩ : S73))) (by kernel_rfl) (by kernel_rfl)

/-- (*strings.Builder).WriteByte -/
def F32x73 (K : Nat) (a0 : S73) (a1 : UInt8) : Option ((Err × S73) ⊕ (Err × S73)) :=
  ((fnS (F37x73 K a0)).bind (fun r1 => (chk [room ((r1.fBuilder.fbuf.length + ([a1].length)) * 1)] (some (.inl (none, (⟨(⟨r1.fBuilder.faddr, (r1.fBuilder.fbuf ++ [a1])⟩ : S52), r1.fbad⟩ : S73)))))))

theorem F32x73_ok (K : Nat) (a0 : S73) (a1 : UInt8) : DFun Tryd.prog 32 [.c (.ptr 0 0 0), .c (.val (.int .u8 (Int.ofNat a1.toNat)))] [.cells [.self 73 a0.fBuilder.faddr 0, .own 1 a0.fBuilder.fbuf.length, .val (.bool a0.fbad)], E5.row a0.fBuilder.fbuf] (fnS (F32x73 K a0 a1)) (fun r => .c (errC r.1)) (fun r => [.cells [.self 73 r.2.fBuilder.faddr 0, .own 2 r.2.fBuilder.fbuf.length, .val (.bool r.2.fbad)], .dead, E5.row r.2.fBuilder.fbuf]) := by
  refine DFun.intro (fn := Tryd.f32) (c := cd (bd Tryd.f32) []) (rs := fun r => ⟨[(4, .c (errC r.1))], [.cells [.self 73 r.2.fBuilder.faddr 0, .own 2 r.2.fBuilder.fbuf.length, .val (.bool r.2.fbad)], .dead, E5.row r.2.fBuilder.fbuf], [], 2⟩) (by kernel_rfl) (by kernel_rfl) (by kernel_rfl) ?_ (fun r => by kernel_rfl) (fun r => by kernel_rfl) (fun r => by kernel_rfl) (fun r => by kernel_rfl)
  unfold F32x73
  refine Ref.seqC (cd (bd Tryd.f32) [0]) (cd (bd Tryd.f32) [1]) (by kernel_rfl) ?_
  refine Ref.regionC 0 (by kernel_rfl) ?_
  refine RefR.ev0 (st' := ⟨[(0, .c (.ptr 0 0 0)), (1, .c (.val (.int .u8 (Int.ofNat a1.toNat))))], [.cells [.self 73 a0.fBuilder.faddr 0, .own 1 a0.fBuilder.fbuf.length, .val (.bool a0.fbad)], E5.row a0.fBuilder.fbuf], [], 2⟩) 0 1 1 [0, 1] [0, 1] rfl (by kernel_rfl) ?_
  refine RefR.nilC 1 (by kernel_rfl) ?_
  refine Ref.seqC (cd (bd Tryd.f32) [1, 0]) (cd (bd Tryd.f32) [1, 1]) (by kernel_rfl) ?_
  refine Ref.regionC 1 (by kernel_rfl) ?_
  refine RefR.ev0 (st' := ⟨[(0, .c (.ptr 0 0 0)), (1, .c (.val (.int .u8 (Int.ofNat a1.toNat)))), (5, .c (.ptr 0 0 0))], [.cells [.self 73 a0.fBuilder.faddr 0, .own 1 a0.fBuilder.fbuf.length, .val (.bool a0.fbad)], E5.row a0.fBuilder.fbuf], [], 2⟩) 0 1 1 [0, 1, 5] [0, 1] rfl (by kernel_rfl) ?_
  refine RefR.callC (t := 6) 1 2 [0, 1] rfl (by kernel_rfl) (F37x73_ok K a0) (fun r1 => ?_)
  refine RefR.nilC 2 (by kernel_rfl) ?_
  refine Ref.seqC (cd (bd Tryd.f32) [1, 1, 0]) (cd (bd Tryd.f32) [1, 1, 1]) (by kernel_rfl) ?_
  refine Ref.regionC 2 (by kernel_rfl) ?_
  refine RefR.ev0 (st' := ⟨[(7, .c (.ptr 0 0 0)), (11, .c (.own 1 r1.fBuilder.fbuf.length)), (12, .c (.val (.int .u8 (Int.ofNat a1.toNat))))], [.cells [.self 73 r1.fBuilder.faddr 0, .own 1 r1.fBuilder.fbuf.length, .val (.bool r1.fbad)], E5.row r1.fBuilder.fbuf], [], 2⟩) 0 6 6 [7, 11, 12] [0, 1] rfl (by kernel_rfl) ?_
  refine RefR.ev0 (st' := ⟨[(7, .c (.ptr 0 0 0)), (11, .c (.own 1 r1.fBuilder.fbuf.length)), (13, .c (.own 2 1))], [.cells [.self 73 r1.fBuilder.faddr 0, .own 1 r1.fBuilder.fbuf.length, .val (.bool r1.fbad)], E5.row r1.fBuilder.fbuf, .row 5 1 1 (tbl [[.val (.int .u8 (Int.ofNat a1.toNat))]])], [], 2⟩) 6 1 7 [7, 11, 13] [0, 1, 2] rfl (by kernel_rfl) ?_
  refine RefR.conv (Conv.obj 2 (E5.row [a1]) (El.row_build E5 [a1] rfl (by kernel_rfl)) (by kernel_rfl)) ?_
  refine RefR.conv (Conv.slot 13 (.c (.own 2 ([a1].length))) (DLe.c (CLe.own (by simp))) (by kernel_rfl)) ?_
  refine RefR.evC (vs := [room ((r1.fBuilder.fbuf.length + ([a1].length)) * 1)]) (st' := ⟨[(7, .c (.ptr 0 0 0)), (14, .c (.own 2 (r1.fBuilder.fbuf.length + ([a1].length))))], [.cells [.self 73 r1.fBuilder.faddr 0, .own 1 r1.fBuilder.fbuf.length, .val (.bool r1.fbad)], .dead, .row 5 1 (r1.fBuilder.fbuf.length + ([a1].length)) fun i j => bif Nat.blt i r1.fBuilder.fbuf.length then E5.at r1.fBuilder.fbuf i j else (E5.at [a1]) (i - r1.fBuilder.fbuf.length) j], [], 2⟩) 7 1 8 [7, 14] [0, 1, 3] rfl (by kernel_rfl) ?_
  refine RefR.conv (Conv.obj 2 (E5.row (r1.fBuilder.fbuf ++ [a1])) (El.row_append E5 r1.fBuilder.fbuf [a1] rfl rfl) (by kernel_rfl)) ?_
  refine RefR.conv (Conv.slot 14 (.c (.own 2 ((r1.fBuilder.fbuf ++ [a1]).length))) (DLe.c (CLe.own (by simp))) (by kernel_rfl)) ?_
  refine RefR.ev0 (st' := ⟨[], [.cells [.self 73 r1.fBuilder.faddr 0, .own 2 ((r1.fBuilder.fbuf ++ [a1]).length), .val (.bool r1.fbad)], .dead, E5.row (r1.fBuilder.fbuf ++ [a1])], [], 2⟩) 8 3 11 [] [0, 1, 2] rfl (by kernel_rfl) ?_
  refine RefR.nilC 11 (by kernel_rfl) ?_
  refine Ref.seqC (cd (bd Tryd.f32) [1, 1, 1, 0]) (cd (bd Tryd.f32) [1, 1, 1, 1]) (by kernel_rfl) ?_
  refine Ref.regionC 3 (by kernel_rfl) ?_
  refine RefR.ev0 (st' := ⟨[(4, .c (.val .nilIface))], [.cells [.self 73 r1.fBuilder.faddr 0, .own 2 ((r1.fBuilder.fbuf ++ [a1]).length), .val (.bool r1.fbad)], .dead, E5.row (r1.fBuilder.fbuf ++ [a1])], [], 2⟩) 0 1 1 [4] [0, 1, 2] rfl (by kernel_rfl) ?_
  refine RefR.nilC 1 (by kernel_rfl) ?_
  refine Ref.conv (Conv.slot 4 (.c (errC none)) (DLe.c (errC_nil)) (by kernel_rfl)) ?_
  exact Ref.retC (t := (none, (⟨(⟨r1.fBuilder.faddr, (r1.fBuilder.fbuf ++ [a1])⟩ : S52), r1.fbad⟩ : S73))) (by kernel_rfl) (by kernel_rfl)

/-- (*strings.Builder).Len -/
def F33x73 (K : Nat) (a0 : S73) : Option ((Int × S73) ⊕ (Int × S73)) :=
  (some (.inl ((Int.ofNat a0.fBuilder.fbuf.length), a0)))

theorem F33x73_ok (K : Nat) (a0 : S73) : DFun Tryd.prog 33 [.c (.ptr 0 0 0)] [.cells [.self 73 a0.fBuilder.faddr 0, .own 1 a0.fBuilder.fbuf.length, .val (.bool a0.fbad)], E5.row a0.fBuilder.fbuf] (fnS (F33x73 K a0)) (fun r => .c (.val (.int .i64 r.1))) (fun r => [.cells [.self 73 r.2.fBuilder.faddr 0, .own 2 r.2.fBuilder.fbuf.length, .val (.bool r.2.fbad)], .dead, E5.row r.2.fBuilder.fbuf]) := by
  refine DFun.intro (fn := Tryd.f33) (c := cd (bd Tryd.f33) []) (rs := fun r => ⟨[(2, .c (.val (.int .i64 r.1)))], [.cells [.self 73 r.2.fBuilder.faddr 0, .own 2 r.2.fBuilder.fbuf.length, .val (.bool r.2.fbad)], .dead, E5.row r.2.fBuilder.fbuf], [], 2⟩) (by kernel_rfl) (by kernel_rfl) (by kernel_rfl) ?_ (fun r => by kernel_rfl) (fun r => by kernel_rfl) (fun r => by kernel_rfl) (fun r => by kernel_rfl)
  unfold F33x73
  refine Ref.seqC (cd (bd Tryd.f33) [0]) (cd (bd Tryd.f33) [1]) (by kernel_rfl) ?_
  refine Ref.regionC 0 (by kernel_rfl) ?_
  refine RefR.ev0 (st' := ⟨[(0, .c (.ptr 0 0 0))], [.cells [.self 73 a0.fBuilder.faddr 0, .own 1 a0.fBuilder.fbuf.length, .val (.bool a0.fbad)], E5.row a0.fBuilder.fbuf], [], 2⟩) 0 1 1 [0] [0, 1] rfl (by kernel_rfl) ?_
  refine RefR.nilC 1 (by kernel_rfl) ?_
  refine Ref.seqC (cd (bd Tryd.f33) [1, 0]) (cd (bd Tryd.f33) [1, 1]) (by kernel_rfl) ?_
  refine Ref.regionC 1 (by kernel_rfl) ?_
  refine RefR.ev0 (st' := ⟨[(2, .c (.val (.int .i64 (Int.ofNat a0.fBuilder.fbuf.length))))], [.cells [.self 73 a0.fBuilder.faddr 0, .own 1 a0.fBuilder.fbuf.length, .val (.bool a0.fbad)], E5.row a0.fBuilder.fbuf], [], 2⟩) 0 6 6 [2] [0, 1] rfl (by kernel_rfl) ?_
  refine RefR.nilC 6 (by kernel_rfl) ?_
  refine Ref.conv (Conv.move (st' := ⟨[(2, .c (.val (.int .i64 (Int.ofNat a0.fBuilder.fbuf.length))))], [.cells [.self 73 a0.fBuilder.faddr 0, .own 2 a0.fBuilder.fbuf.length, .val (.bool a0.fbad)], .dead, E5.row a0.fBuilder.fbuf], [], 2⟩) 1 (by kernel_rfl) (by kernel_rfl)) ?_
  exact Ref.retC (t := ((Int.ofNat a0.fBuilder.fbuf.length), a0)) (by kernel_rfl) (by kernel_rfl)

/-- governor/script.number -/
def F38 (K : Nat) (a0 : Bytes) : Option ((Int × Bool) ⊕ (Int × Bool)) :=
  ((fnS (F52 K a0)).bind (fun r1 => (letV (((!r1.2) && (decide ((r1.1 : Int) ≥ (-2147483648)))) && (decide ((r1.1 : Int) ≤ 2147483648))) (fun (x2 : Bool) => ((condM x2 (fnS (F45 K r1.1)) default).bind (fun r3 => (some (.inl (r1.1, (x2 && (r3 == a0)))))))))))

theorem F38_ok (K : Nat) (a0 : Bytes) : DFun Tryd.prog 38 [.c (.str a0)] [] (fnS (F38 K a0)) (fun r => .tup [.c (.val (.int .i64 r.1)), .c (.val (.bool r.2))]) (fun r => []) := by
  refine DFun.intro (fn := Tryd.f38) (c := cd (bd Tryd.f38) []) (rs := fun r => ⟨[(2, .c (.val (.int .i64 r.1))), (3, .c (.val (.bool r.2)))], [], [], 0⟩) (by kernel_rfl) (by kernel_rfl) (by kernel_rfl) ?_ (fun r => by kernel_rfl) (fun r => by kernel_rfl) (fun r => by kernel_rfl) (fun r => by kernel_rfl)
  unfold F38
  refine Ref.seqC (cd (bd Tryd.f38) [0]) (cd (bd Tryd.f38) [1]) (by kernel_rfl) ?_
  refine Ref.regionC 0 (by kernel_rfl) ?_
  refine RefR.ev0 (st' := ⟨[(0, .c (.str a0))], [], [], 0⟩) 0 2 2 [0] [] rfl (by kernel_rfl) ?_
  refine RefR.nilC 2 (by kernel_rfl) ?_
  refine Ref.seqC (cd (bd Tryd.f38) [1, 0]) (cd (bd Tryd.f38) [1, 1]) (by kernel_rfl) ?_
  refine Ref.regionC 1 (by kernel_rfl) ?_
  refine RefR.ev0 (st' := ⟨[(0, .c (.str a0)), (7, .c (.str a0))], [], [], 0⟩) 0 1 1 [0, 7] [] rfl (by kernel_rfl) ?_
  refine RefR.callC (t := 8) 1 2 [] rfl (by kernel_rfl) (F52_ok K a0) (fun r1 => ?_)
  refine RefR.ev0 (st' := ⟨[(0, .c (.str a0)), (4, .c (.val (.int .i64 r1.1))), (5, .c (.iface r1.2 125 .bot))], [], [], 0⟩) 2 5 7 [0, 4, 5] [] rfl (by kernel_rfl) ?_
  refine RefR.nilC 7 (by kernel_rfl) ?_
  refine Ref.seqC (cd (bd Tryd.f38) [1, 1, 0]) (cd (bd Tryd.f38) [1, 1, 1]) (by kernel_rfl) ?_
  refine Ref.regionC 2 (by kernel_rfl) ?_
  refine RefR.ev0 (st' := ⟨[(0, .c (.str a0)), (11, .c (.val (.int .i64 r1.1))), (22, .c (.val (.bool (((!r1.2) && (decide ((r1.1 : Int) ≥ (-2147483648)))) && (decide ((r1.1 : Int) ≤ 2147483648)))))), (23, .c (.val (.int .i64 r1.1)))], [], [(23, [(22, true)])], 0⟩) 0 13 13 [0, 11, 22, 23] [] rfl (by kernel_rfl) ?_
  refine RefR.letC (stf := fun x2 => ⟨[(0, .c (.str a0)), (11, .c (.val (.int .i64 r1.1))), (22, .c (.val (.bool x2))), (23, .c (.val (.int .i64 r1.1)))], [], [(23, [(22, true)])], 0⟩) (by kernel_rfl) (fun x2 => ?_)
  refine RefR.lookC (t := 24) (g := [(22, true)]) (b := x2) 13 14 [] (default : Bytes) rfl (by kernel_rfl) (F45_ok K r1.1) (fun _ => rfl) (fun r3 => ?_)
  refine RefR.ev0 (st' := ⟨[(2, .c (.val (.int .i64 r1.1))), (3, .c (.val (.bool (x2 && (r3 == a0)))))], [], [], 0⟩) 14 5 19 [2, 3] [] rfl (by kernel_rfl) ?_
  refine RefR.nilC 19 (by kernel_rfl) ?_
  exact Ref.retC (t := (r1.1, (x2 && (r3 == a0)))) (by kernel_rfl) (by kernel_rfl)

/-- governor/script.scan -/
def F25 (K : Nat) (a0 : (List Bytes)) : Option ((S45 × Bool) ⊕ (S45 × Bool)) :=
  (letV ((decide (((Int.ofNat a0.length) : Int) < 1)) || (decide (((Int.ofNat a0.length) : Int) > 17))) (fun (x1 : Bool) => (if x1 = true then (some (.inl ((⟨[], 0⟩ : S45), false))) else (chk [inb 0 a0.length] ((fnS (F38 K (a0.getD (0 : Int).toNat default))).bind (fun r2 => (chk [bndOk a0.length 1 (Int.ofNat a0.length)] (letV ((a0.drop (1 : Int).toNat).take (((Int.ofNat a0.length) : Int).toNat - (1 : Int).toNat)) (fun (x3 : (List Bytes)) => (bindS (blockS ((iter K (fun (u23 : Bool × (List Int) × Int) => (letV (decide ((u23.2.2 : Int) < (Int.ofNat x3.length))) (fun (x29 : Bool) => (if x29 = true then (bindS (blockS (chk [inb u23.2.2 x3.length] ((fnS (F38 K (x3.getD (u23.2.2 : Int).toNat default))).bind (fun r32 => (chk [room ((u23.2.1.length + ([r32.1].length)) * 8)] (some (.inr ((u23.1 && r32.2), (u23.2.1 ++ [r32.1]))))))))) (fun (u31 : Bool × (List Int)) => (some (.inr (u31.1, u31.2, (IntKind.i64.wrap (u23.2.2 + 1))))))) else (some (.inl (Sum.inl (u23.1, u23.2.1)))))))) (r2.2, [], 0)).map .inl)) (fun (u18 : Bool × (List Int)) => (some (.inl ((⟨u18.2, r2.1⟩ : S45), u18.1))))))))))))))

theorem F25_ok (K : Nat) (a0 : (List Bytes)) : DFun Tryd.prog 25 [.c (E9.tree a0)] [] (fnS (F25 K a0)) (fun r => .tup [.agg (E45.cs r.1), .c (.val (.bool r.2))]) (fun r => [.cells (E45.cs r.1)]) := by
  refine DFun.intro (fn := Tryd.f25) (c := cd (bd Tryd.f25) []) (rs := fun r => ⟨[(2, .c (.ptr 0 0 0)), (3, .c (.val (.bool r.2)))], [.cells (E45.cs r.1)], [], 0⟩) (by kernel_rfl) (by kernel_rfl) (by kernel_rfl) ?_ (fun r => by kernel_rfl) (fun r => by kernel_rfl) (fun r => by kernel_rfl) (fun r => by kernel_rfl)
  unfold F25
  refine Ref.seqC (cd (bd Tryd.f25) [0]) (cd (bd Tryd.f25) [1]) (by kernel_rfl) ?_
  refine Ref.regionC 0 (by kernel_rfl) ?_
  refine RefR.ev0 (st' := ⟨[(0, .c (E9.tree a0)), (2, .c (.ptr 0 0 0))], [.cells [.nil, .val (.int .i64 0)]], [], 0⟩) 0 2 2 [0, 2] [0] rfl (by kernel_rfl) ?_
  refine RefR.nilC 2 (by kernel_rfl) ?_
  refine Ref.seqC (cd (bd Tryd.f25) [1, 0]) (cd (bd Tryd.f25) [1, 1]) (by kernel_rfl) ?_
  refine Ref.seqC (cd (bd Tryd.f25) [1, 0, 0]) (cd (bd Tryd.f25) [1, 0, 1]) (by kernel_rfl) ?_
  refine Ref.regionC 1 (by kernel_rfl) ?_
  refine RefR.ev0 (st' := ⟨[(0, .c (E9.tree a0)), (2, .c (.ptr 0 0 0)), (18, .c (.val (.bool ((decide (((Int.ofNat a0.length) : Int) < 1)) || (decide (((Int.ofNat a0.length) : Int) > 17))))))], [.cells [.nil, .val (.int .i64 0)]], [], 0⟩) 0 8 8 [0, 2, 18] [0] rfl (by kernel_rfl) ?_
  refine RefR.letC (stf := fun x1 => ⟨[(0, .c (E9.tree a0)), (2, .c (.ptr 0 0 0)), (18, .c (.val (.bool x1)))], [.cells [.nil, .val (.int .i64 0)]], [], 0⟩) (by kernel_rfl) (fun x1 => ?_)
  refine RefR.nilC 8 (by kernel_rfl) ?_
  refine Ref.condC (.tmp 18) x1 (by kernel_rfl) rfl (by kernel_rfl) (fun hc => ?_) (fun hc => ?_)
  ·
    refine Ref.seqC (cd (bd Tryd.f25) [1, 0, 1, 0, 0]) (cd (bd Tryd.f25) [1, 0, 1, 0, 1]) (by kernel_rfl) ?_
    refine Ref.regionC 2 (by kernel_rfl) ?_
    refine RefR.ev0 (st' := ⟨[(2, .c (.ptr 0 0 0)), (3, .c (.val (.bool false)))], [.cells [.nil, .val (.int .i64 0)]], [], 0⟩) 0 3 3 [2, 3] [0] rfl (by kernel_rfl) ?_
    refine RefR.nilC 3 (by kernel_rfl) ?_
    refine Ref.conv (Conv.obj 0 (.cells [E3.tree [], .val (.int .i64 0)]) (OLe.cells (All2.cons (El.tree_nil E3) (All2.cons (CLe.refl _) (All2.nil)))) (by kernel_rfl)) ?_
    exact Ref.retC (t := ((⟨[], 0⟩ : S45), false)) (by kernel_rfl) (by kernel_rfl)
  ·
    refine Ref.skipC (by kernel_rfl) ?_
    refine Ref.seqC (cd (bd Tryd.f25) [1, 1, 0]) (cd (bd Tryd.f25) [1, 1, 1]) (by kernel_rfl) ?_
    refine Ref.regionC 3 (by kernel_rfl) ?_
    refine RefR.evC (vs := [inb 0 a0.length]) (st' := ⟨[(0, .c (E9.tree a0)), (2, .c (.ptr 0 0 0)), (23, .c (.str (a0.getD (0 : Int).toNat default)))], [.cells [.nil, .val (.int .i64 0)]], [], 0⟩) 0 3 3 [0, 2, 23] [0] rfl (by kernel_rfl) ?_
    refine RefR.callC (t := 24) 3 4 [] rfl (by kernel_rfl) (F38_ok K (a0.getD (0 : Int).toNat default)) (fun r2 => ?_)
    refine RefR.ev0 (st' := ⟨[(0, .c (E9.tree a0)), (2, .c (.ptr 0 0 0)), (4, .c (.val (.int .i64 r2.1))), (5, .c (.val (.bool r2.2)))], [.cells [.nil, .val (.int .i64 0)]], [], 0⟩) 4 5 9 [0, 2, 4, 5] [0] rfl (by kernel_rfl) ?_
    refine RefR.nilC 9 (by kernel_rfl) ?_
    refine Ref.seqC (cd (bd Tryd.f25) [1, 1, 1, 0]) (cd (bd Tryd.f25) [1, 1, 1, 1]) (by kernel_rfl) ?_
    refine Ref.regionC 4 (by kernel_rfl) ?_
    refine RefR.ev0 (st' := ⟨[(0, .c (E9.tree a0)), (2, .c (.ptr 0 0 0)), (5, .c (.val (.bool r2.2))), (6, .c (.ptr 1 0 0))], [.cells [.nil, .val (.int .i64 0)], .cells [.nil, .val (.int .i64 r2.1)]], [], 0⟩) 0 4 4 [0, 2, 5, 6] [0, 1] rfl (by kernel_rfl) ?_
    refine RefR.nilC 4 (by kernel_rfl) ?_
    refine Ref.seqC (cd (bd Tryd.f25) [1, 1, 1, 1, 0]) (cd (bd Tryd.f25) [1, 1, 1, 1, 1]) (by kernel_rfl) ?_
    refine Ref.seqC (cd (bd Tryd.f25) [1, 1, 1, 1, 0, 0]) (cd (bd Tryd.f25) [1, 1, 1, 1, 0, 1]) (by kernel_rfl) ?_
    refine Ref.regionC 5 (by kernel_rfl) ?_
    refine RefR.evH (vs := [bndOk a0.length 1 (Int.ofNat a0.length)]) (st' := ⟨[(2, .c (.ptr 0 0 0)), (5, .c (.val (.bool r2.2))), (6, .c (.ptr 1 0 0)), (30, .c (.tree E9.w (((Int.ofNat a0.length) : Int).toNat - (1 : Int).toNat) fun i j => E9.at a0 ((1 : Int).toNat + i) j))], [.cells [.nil, .val (.int .i64 0)], .cells [.nil, .val (.int .i64 r2.1)]], [], 0⟩) 0 2 2 [2, 5, 6, 30] [0, 1] rfl (by kernel_rfl) (fun hv => ?_)
    refine RefR.conv (Conv.slot 30 (.c (E9.tree ((a0.drop (1 : Int).toNat).take (((Int.ofNat a0.length) : Int).toNat - (1 : Int).toNat)))) (DLe.c (El.tree_slice E9 _ (bndOk_le (hv _ (List.Mem.head _))))) (by kernel_rfl)) ?_
    refine RefR.letC (stf := fun x3 => ⟨[(30, .c (E9.tree x3)), (2, .c (.ptr 0 0 0)), (5, .c (.val (.bool r2.2))), (6, .c (.ptr 1 0 0))], [.cells [.nil, .val (.int .i64 0)], .cells [.nil, .val (.int .i64 r2.1)]], [], 0⟩) (by kernel_rfl) (fun x3 => ?_)
    refine RefR.ev0 (st' := ⟨[(2, .c (.ptr 0 0 0)), (5, .c (.val (.bool r2.2))), (6, .c (.ptr 1 0 0)), (30, .c (E9.tree x3)), (31, .c (.val (.int .i64 (Int.ofNat x3.length)))), (32, .c (.val (.int .i64 0)))], [.cells [.nil, .val (.int .i64 0)], .cells [.nil, .val (.int .i64 r2.1)]], [], 0⟩) 2 2 4 [2, 5, 6, 30, 31, 32] [0, 1] rfl (by kernel_rfl) ?_
    refine RefR.nilC 4 (by kernel_rfl) ?_
    refine Ref.codeEq (c' := .block 0 (cd (bd Tryd.f25) [1, 1, 1, 1, 0, 1, 0])) (by kernel_rfl) ?_
    refine Ref.block (go1 := fun u18 => ⟨[(2, .c (.ptr 0 0 0)), (5, .c (.val (.bool u18.1))), (6, .c (.ptr 1 0 0))], [.cells [.nil, .val (.int .i64 0)], .cells [.own 2 u18.2.length, .val (.int .i64 r2.1)], E3.row u18.2], [], 0⟩) ?_ (fun _ h => by cases h) (fun u18 => ?_)
    ·
      refine Ref.codeEq (c' := .loop (cd (bd Tryd.f25) [1, 1, 1, 1, 0, 1, 0, 0])) (by kernel_rfl) ?_
      refine Ref.conv (Conv.adoptCell (st' := ⟨[(2, .c (.ptr 0 0 0)), (5, .c (.val (.bool r2.2))), (6, .c (.ptr 1 0 0)), (30, .c (E9.tree x3)), (31, .c (.val (.int .i64 (Int.ofNat x3.length)))), (32, .c (.val (.int .i64 0)))], [.cells [.nil, .val (.int .i64 0)], .cells [.own 2 0, .val (.int .i64 r2.1)], E3.row []], [], 0⟩) 1 0 E3.ty E3.w (E3.at []) (by kernel_rfl)) ?_
      refine Ref.loop (hd := fun u23 => ⟨[(2, .c (.ptr 0 0 0)), (5, .c (.val (.bool u23.1))), (6, .c (.ptr 1 0 0)), (30, .c (E9.tree x3)), (31, .c (.val (.int .i64 (Int.ofNat x3.length)))), (32, .c (.val (.int .i64 u23.2.2)))], [.cells [.nil, .val (.int .i64 0)], .cells [.own 2 u23.2.1.length, .val (.int .i64 r2.1)], E3.row u23.2.1], [], 0⟩) K (r2.2, [], 0) (by kernel_rfl) (fun u23 => ?_)
      refine Ref.seqC (cd (bd Tryd.f25) [1, 1, 1, 1, 0, 1, 0, 0, 0]) (cd (bd Tryd.f25) [1, 1, 1, 1, 0, 1, 0, 0, 1]) (by kernel_rfl) ?_
      refine Ref.regionC 6 (by kernel_rfl) ?_
      refine RefR.ev0 (st' := ⟨[(2, .c (.ptr 0 0 0)), (5, .c (.val (.bool u23.1))), (6, .c (.ptr 1 0 0)), (30, .c (E9.tree x3)), (31, .c (.val (.int .i64 (Int.ofNat x3.length)))), (32, .c (.val (.int .i64 u23.2.2))), (33, .c (.val (.bool (decide ((u23.2.2 : Int) < (Int.ofNat x3.length))))))], [.cells [.nil, .val (.int .i64 0)], .cells [.own 2 u23.2.1.length, .val (.int .i64 r2.1)], E3.row u23.2.1], [], 0⟩) 0 1 1 [2, 5, 6, 30, 31, 32, 33] [0, 1, 2] rfl (by kernel_rfl) ?_
      refine RefR.letC (stf := fun x29 => ⟨[(2, .c (.ptr 0 0 0)), (5, .c (.val (.bool u23.1))), (6, .c (.ptr 1 0 0)), (30, .c (E9.tree x3)), (31, .c (.val (.int .i64 (Int.ofNat x3.length)))), (32, .c (.val (.int .i64 u23.2.2))), (33, .c (.val (.bool x29)))], [.cells [.nil, .val (.int .i64 0)], .cells [.own 2 u23.2.1.length, .val (.int .i64 r2.1)], E3.row u23.2.1], [], 0⟩) (by kernel_rfl) (fun x29 => ?_)
      refine RefR.nilC 1 (by kernel_rfl) ?_
      refine Ref.seqC (cd (bd Tryd.f25) [1, 1, 1, 1, 0, 1, 0, 0, 1, 0]) (cd (bd Tryd.f25) [1, 1, 1, 1, 0, 1, 0, 0, 1, 1]) (by kernel_rfl) ?_
      refine Ref.condC (.tmp 33) x29 (by kernel_rfl) rfl (by kernel_rfl) (fun hc => ?_) (fun hc => ?_)
      ·
        refine Ref.skipC (by kernel_rfl) ?_
        refine Ref.seqC (cd (bd Tryd.f25) [1, 1, 1, 1, 0, 1, 0, 0, 1, 1, 0]) (cd (bd Tryd.f25) [1, 1, 1, 1, 0, 1, 0, 0, 1, 1, 1]) (by kernel_rfl) ?_
        refine Ref.codeEq (c' := .block 1 (cd (bd Tryd.f25) [1, 1, 1, 1, 0, 1, 0, 0, 1, 1, 0, 0])) (by kernel_rfl) ?_
        refine Ref.block (go1 := fun u31 => ⟨[(2, .c (.ptr 0 0 0)), (5, .c (.val (.bool u31.1))), (6, .c (.ptr 1 0 0)), (30, .c (E9.tree x3)), (31, .c (.val (.int .i64 (Int.ofNat x3.length)))), (32, .c (.val (.int .i64 u23.2.2)))], [.cells [.nil, .val (.int .i64 0)], .cells [.own 2 u31.2.length, .val (.int .i64 r2.1)], E3.row u31.2], [], 0⟩) ?_ (fun a => match a with | .inl _ => (fun h => by cases h) | .inr _ => (fun h => by cases h)) (fun u31 => ?_)
        ·
          refine Ref.seqC (cd (bd Tryd.f25) [1, 1, 1, 1, 0, 1, 0, 0, 1, 1, 0, 0, 0]) (cd (bd Tryd.f25) [1, 1, 1, 1, 0, 1, 0, 0, 1, 1, 0, 0, 1]) (by kernel_rfl) ?_
          refine Ref.regionC 7 (by kernel_rfl) ?_
          refine RefR.evC (vs := [inb u23.2.2 x3.length]) (st' := ⟨[(2, .c (.ptr 0 0 0)), (5, .c (.val (.bool u23.1))), (6, .c (.ptr 1 0 0)), (8, .c (.str (x3.getD (u23.2.2 : Int).toNat default))), (30, .c (E9.tree x3)), (31, .c (.val (.int .i64 (Int.ofNat x3.length)))), (32, .c (.val (.int .i64 u23.2.2)))], [.cells [.nil, .val (.int .i64 0)], .cells [.own 2 u23.2.1.length, .val (.int .i64 r2.1)], E3.row u23.2.1], [], 0⟩) 0 3 3 [2, 5, 6, 8, 30, 31, 32] [0, 1, 2] rfl (by kernel_rfl) ?_
          refine RefR.nilC 3 (by kernel_rfl) ?_
          refine Ref.seqC (cd (bd Tryd.f25) [1, 1, 1, 1, 0, 1, 0, 0, 1, 1, 0, 0, 1, 0]) (cd (bd Tryd.f25) [1, 1, 1, 1, 0, 1, 0, 0, 1, 1, 0, 0, 1, 1]) (by kernel_rfl) ?_
          refine Ref.regionC 8 (by kernel_rfl) ?_
          refine RefR.ev0 (st' := ⟨[(2, .c (.ptr 0 0 0)), (5, .c (.val (.bool u23.1))), (6, .c (.ptr 1 0 0)), (30, .c (E9.tree x3)), (31, .c (.val (.int .i64 (Int.ofNat x3.length)))), (32, .c (.val (.int .i64 u23.2.2))), (37, .c (.str (x3.getD (u23.2.2 : Int).toNat default)))], [.cells [.nil, .val (.int .i64 0)], .cells [.own 2 u23.2.1.length, .val (.int .i64 r2.1)], E3.row u23.2.1], [], 0⟩) 0 1 1 [2, 5, 6, 30, 31, 32, 37] [0, 1, 2] rfl (by kernel_rfl) ?_
          refine RefR.callC (t := 38) 1 2 [] rfl (by kernel_rfl) (F38_ok K (x3.getD (u23.2.2 : Int).toNat default)) (fun r32 => ?_)
          refine RefR.ev0 (st' := ⟨[(2, .c (.ptr 0 0 0)), (5, .c (.val (.bool u23.1))), (6, .c (.ptr 1 0 0)), (9, .c (.val (.int .i64 r32.1))), (10, .c (.val (.bool r32.2))), (30, .c (E9.tree x3)), (31, .c (.val (.int .i64 (Int.ofNat x3.length)))), (32, .c (.val (.int .i64 u23.2.2)))], [.cells [.nil, .val (.int .i64 0)], .cells [.own 2 u23.2.1.length, .val (.int .i64 r2.1)], E3.row u23.2.1], [], 0⟩) 2 5 7 [2, 5, 6, 9, 10, 30, 31, 32] [0, 1, 2] rfl (by kernel_rfl) ?_
          refine RefR.nilC 7 (by kernel_rfl) ?_
          refine Ref.regionC 9 (by kernel_rfl) ?_
          refine RefR.ev0 (st' := ⟨[(2, .c (.ptr 0 0 0)), (5, .c (.val (.bool u23.1))), (6, .c (.ptr 1 0 0)), (10, .c (.val (.bool r32.2))), (30, .c (E9.tree x3)), (31, .c (.val (.int .i64 (Int.ofNat x3.length)))), (32, .c (.val (.int .i64 u23.2.2))), (42, .c (.own 2 u23.2.1.length)), (43, .c (.val (.int .i64 r32.1)))], [.cells [.nil, .val (.int .i64 0)], .cells [.own 2 u23.2.1.length, .val (.int .i64 r2.1)], E3.row u23.2.1], [], 0⟩) 0 3 3 [2, 5, 6, 10, 30, 31, 32, 42, 43] [0, 1, 2] rfl (by kernel_rfl) ?_
          refine RefR.ev0 (st' := ⟨[(2, .c (.ptr 0 0 0)), (5, .c (.val (.bool u23.1))), (6, .c (.ptr 1 0 0)), (10, .c (.val (.bool r32.2))), (30, .c (E9.tree x3)), (31, .c (.val (.int .i64 (Int.ofNat x3.length)))), (32, .c (.val (.int .i64 u23.2.2))), (42, .c (.own 2 u23.2.1.length)), (44, .c (.own 3 1))], [.cells [.nil, .val (.int .i64 0)], .cells [.own 2 u23.2.1.length, .val (.int .i64 r2.1)], E3.row u23.2.1, .row 3 1 1 (tbl [[.val (.int .i64 r32.1)]])], [], 0⟩) 3 1 4 [2, 5, 6, 10, 30, 31, 32, 42, 44] [0, 1, 2, 3] rfl (by kernel_rfl) ?_
          refine RefR.conv (Conv.obj 3 (E3.row [r32.1]) (El.row_build E3 [r32.1] rfl (by kernel_rfl)) (by kernel_rfl)) ?_
          refine RefR.conv (Conv.slot 44 (.c (.own 3 ([r32.1].length))) (DLe.c (CLe.own (by simp))) (by kernel_rfl)) ?_
          refine RefR.evC (vs := [room ((u23.2.1.length + ([r32.1].length)) * 8)]) (st' := ⟨[(2, .c (.ptr 0 0 0)), (5, .c (.val (.bool u23.1))), (6, .c (.ptr 1 0 0)), (10, .c (.val (.bool r32.2))), (30, .c (E9.tree x3)), (31, .c (.val (.int .i64 (Int.ofNat x3.length)))), (32, .c (.val (.int .i64 u23.2.2))), (45, .c (.own 3 (u23.2.1.length + ([r32.1].length))))], [.cells [.nil, .val (.int .i64 0)], .cells [.own 2 u23.2.1.length, .val (.int .i64 r2.1)], .dead, .row 3 1 (u23.2.1.length + ([r32.1].length)) fun i j => bif Nat.blt i u23.2.1.length then E3.at u23.2.1 i j else (E3.at [r32.1]) (i - u23.2.1.length) j], [], 0⟩) 4 1 5 [2, 5, 6, 10, 30, 31, 32, 45] [0, 1, 2, 4] rfl (by kernel_rfl) ?_
          refine RefR.conv (Conv.obj 3 (E3.row (u23.2.1 ++ [r32.1])) (El.row_append E3 u23.2.1 [r32.1] rfl rfl) (by kernel_rfl)) ?_
          refine RefR.conv (Conv.slot 45 (.c (.own 3 ((u23.2.1 ++ [r32.1]).length))) (DLe.c (CLe.own (by simp))) (by kernel_rfl)) ?_
          refine RefR.ev0 (st' := ⟨[(2, .c (.ptr 0 0 0)), (5, .c (.val (.bool (u23.1 && r32.2)))), (6, .c (.ptr 1 0 0)), (30, .c (E9.tree x3)), (31, .c (.val (.int .i64 (Int.ofNat x3.length)))), (32, .c (.val (.int .i64 u23.2.2)))], [.cells [.nil, .val (.int .i64 0)], .cells [.own 2 ((u23.2.1 ++ [r32.1]).length), .val (.int .i64 r2.1)], E3.row (u23.2.1 ++ [r32.1])], [], 0⟩) 5 7 12 [2, 5, 6, 30, 31, 32] [0, 1, 3] rfl (by kernel_rfl) ?_
          refine RefR.nilC 12 (by kernel_rfl) ?_
          exact Ref.nil (t := ((u23.1 && r32.2), (u23.2.1 ++ [r32.1]))) (by kernel_rfl)
        ·
          refine Ref.regionC 10 (by kernel_rfl) ?_
          refine RefR.ev0 (st' := ⟨[(2, .c (.ptr 0 0 0)), (5, .c (.val (.bool u31.1))), (6, .c (.ptr 1 0 0)), (30, .c (E9.tree x3)), (31, .c (.val (.int .i64 (Int.ofNat x3.length)))), (32, .c (.val (.int .i64 (IntKind.i64.wrap (u23.2.2 + 1)))))], [.cells [.nil, .val (.int .i64 0)], .cells [.own 2 u31.2.length, .val (.int .i64 r2.1)], E3.row u31.2], [], 0⟩) 0 2 2 [2, 5, 6, 30, 31, 32] [0, 1, 2] rfl (by kernel_rfl) ?_
          refine RefR.nilC 2 (by kernel_rfl) ?_
          exact Ref.nil (t := (u31.1, u31.2, (IntKind.i64.wrap (u23.2.2 + 1)))) (by kernel_rfl)
      ·
        refine Ref.conv (Conv.keep (st' := ⟨[(2, .c (.ptr 0 0 0)), (5, .c (.val (.bool u23.1))), (6, .c (.ptr 1 0 0))], [.cells [.nil, .val (.int .i64 0)], .cells [.own 2 u23.2.1.length, .val (.int .i64 r2.1)], E3.row u23.2.1], [], 0⟩) [2, 5, 6] [0, 1, 2] (by kernel_rfl)) ?_
        exact Ref.exitC 0 (t := (Sum.inl (u23.1, u23.2.1))) (by kernel_rfl) (by kernel_rfl)
    ·
      refine Ref.seqC (cd (bd Tryd.f25) [1, 1, 1, 1, 1, 0]) (cd (bd Tryd.f25) [1, 1, 1, 1, 1, 1]) (by kernel_rfl) ?_
      refine Ref.regionC 11 (by kernel_rfl) ?_
      refine RefR.ev0 (st' := ⟨[(2, .c (.ptr 0 0 0)), (3, .c (.val (.bool u18.1)))], [.cells [.own 1 u18.2.length, .val (.int .i64 r2.1)], E3.row u18.2], [], 0⟩) 0 4 4 [2, 3] [0, 2] rfl (by kernel_rfl) ?_
      refine RefR.nilC 4 (by kernel_rfl) ?_
      refine Ref.conv (Conv.freeze (st' := ⟨[(2, .c (.ptr 0 0 0)), (3, .c (.val (.bool u18.1)))], [.cells [E3.tree u18.2, .val (.int .i64 r2.1)], .dead], [], 0⟩) 1 (by kernel_rfl)) ?_
      refine Ref.conv (Conv.keep (st' := ⟨[(2, .c (.ptr 0 0 0)), (3, .c (.val (.bool u18.1)))], [.cells [E3.tree u18.2, .val (.int .i64 r2.1)]], [], 0⟩) [2, 3] [0] (by kernel_rfl)) ?_
      exact Ref.retC (t := ((⟨u18.2, r2.1⟩ : S45), u18.1)) (by kernel_rfl) (by kernel_rfl)

/-- (*governor/script.writer).num -/
def F31 (K : Nat) (a0 : S73) (a1 : Int) : Option ((S73) ⊕ (S73)) :=
  ((fnS (F45 K a1)).bind (fun r1 => (chk [room (([32] : Bytes).length + r1.length)] ((fnS (F24x73 K (⟨a0.fBuilder, ((a0.fbad || (decide ((a1 : Int) < (-2147483648)))) || (decide ((a1 : Int) > 2147483648)))⟩ : S73) (([32] : Bytes) ++ r1))).bind (fun r2 => (some (.inr (r2.2.2))))))))

theorem F31_ok (K : Nat) (a0 : S73) (a1 : Int) : DFun Tryd.prog 31 [.c (.ptr 0 0 0), .c (.val (.int .i64 a1))] [.cells [.self 73 a0.fBuilder.faddr 0, .own 1 a0.fBuilder.fbuf.length, .val (.bool a0.fbad)], E5.row a0.fBuilder.fbuf] (fnS (F31 K a0 a1)) (fun r => .tup []) (fun r => [.cells [.self 73 r.fBuilder.faddr 0, .own 2 r.fBuilder.fbuf.length, .val (.bool r.fbad)], .dead, E5.row r.fBuilder.fbuf]) := by
  refine DFun.intro (fn := Tryd.f31) (c := cd (bd Tryd.f31) []) (rs := fun r => ⟨[], [.cells [.self 73 r.fBuilder.faddr 0, .own 2 r.fBuilder.fbuf.length, .val (.bool r.fbad)], .dead, E5.row r.fBuilder.fbuf], [], 2⟩) (by kernel_rfl) (by kernel_rfl) (by kernel_rfl) ?_ (fun r => by kernel_rfl) (fun r => by kernel_rfl) (fun r => by kernel_rfl) (fun r => by kernel_rfl)
  unfold F31
  refine Ref.seqC (cd (bd Tryd.f31) [0]) (cd (bd Tryd.f31) [1]) (by kernel_rfl) ?_
  refine Ref.regionC 0 (by kernel_rfl) ?_
  refine RefR.ev0 (st' := ⟨[(0, .c (.ptr 0 0 0)), (1, .c (.val (.int .i64 a1)))], [.cells [.self 73 a0.fBuilder.faddr 0, .own 1 a0.fBuilder.fbuf.length, .val (.bool ((a0.fbad || (decide ((a1 : Int) < (-2147483648)))) || (decide ((a1 : Int) > 2147483648))))], E5.row a0.fBuilder.fbuf], [], 2⟩) 0 16 16 [0, 1] [0, 1] rfl (by kernel_rfl) ?_
  refine RefR.nilC 16 (by kernel_rfl) ?_
  refine Ref.drawnY 1 (by kernel_rfl) (by kernel_rfl) ?_
  refine RefY.evC0 (st' := ⟨[(21, .c (.ptr 0 0 0)), (22, .c (.val (.int .i64 a1)))], [.cells [.self 73 a0.fBuilder.faddr 0, .own 1 a0.fBuilder.fbuf.length, .val (.bool ((a0.fbad || (decide ((a1 : Int) < (-2147483648)))) || (decide ((a1 : Int) > 2147483648))))], E5.row a0.fBuilder.fbuf], [], 2⟩) (fuel' := 3) [0, 1, 2, 3] [21, 22] [0, 1] rfl (by kernel_rfl) (by kernel_rfl) ?_
  refine RefY.tail [4, 5, 6] rfl (by kernel_rfl) ?_
  refine RefR.callC (t := 23) 0 1 [] rfl (by kernel_rfl) (F45_ok K a1) (fun r1 => ?_)
  refine RefR.evC (vs := [room (([32] : Bytes).length + r1.length)]) (st' := ⟨[(21, .c (.ptr 0 0 0)), (24, .c (.str (([32] : Bytes) ++ r1)))], [.cells [.self 73 a0.fBuilder.faddr 0, .own 1 a0.fBuilder.fbuf.length, .val (.bool ((a0.fbad || (decide ((a1 : Int) < (-2147483648)))) || (decide ((a1 : Int) > 2147483648))))], E5.row a0.fBuilder.fbuf], [], 2⟩) 1 1 2 [21, 24] [0, 1] rfl (by kernel_rfl) ?_
  refine RefR.callC (t := 25) 2 3 [0, 1] rfl (by kernel_rfl) (F24x73_ok K (⟨a0.fBuilder, ((a0.fbad || (decide ((a1 : Int) < (-2147483648)))) || (decide ((a1 : Int) > 2147483648)))⟩ : S73) (([32] : Bytes) ++ r1)) (fun r2 => ?_)
  refine RefR.nilC 3 (by kernel_rfl) ?_
  refine Ref.conv (Conv.keep (st' := ⟨[], [.cells [.self 73 r2.2.2.fBuilder.faddr 0, .own 2 r2.2.2.fBuilder.fbuf.length, .val (.bool r2.2.2.fbad)], .dead, E5.row r2.2.2.fBuilder.fbuf], [], 2⟩) [] [0, 1, 2] (by kernel_rfl)) ?_
  exact Ref.nil (t := (r2.2.2)) (by kernel_rfl)

end Go.Proofs.YtmllhpnlceaneaaDoor
