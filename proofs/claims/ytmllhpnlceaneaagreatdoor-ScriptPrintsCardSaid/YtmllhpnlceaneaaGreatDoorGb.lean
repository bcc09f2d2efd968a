/- Plain functions, and that the Go functions do what these do: printed by gen2.py. No conditions. -/
import Derived.Test.YtmllhpnlceaneaaGreatDoorGa
import Derived.Test.YtmllhpnlceaneaaGreatDoorProg
set_option linter.unusedVariables false
set_option linter.unusedSimpArgs false
set_option linter.unusedSectionVars false
namespace Go.Proofs.YtmllhpnlceaneaaGreatDoor
open Go Go.Proofs Go.Dl
set_option maxRecDepth 100000

/-- (*strings.Builder).WriteString -/
def F13 (K : Nat) (a0 : S46) (a1 : Bytes) : Option ((Int × Err × S46) ⊕ (Int × Err × S46)) :=
 ((fnS (F28 K a0)).bind (fun r1 => (chk [room ((r1.fbuf.length + a1.length) * 1)] (some (.inl ((Int.ofNat a1.length), none, (⟨r1.faddr, (r1.fbuf ++ a1)⟩ : S46)))))))

theorem F13_ok (K : Nat) (a0 : S46) (a1 : Bytes) : DFun Tryz.prog 13 [.c (.ptr 0 0 0), .c (.str a1)] [.cells [.self 46 a0.faddr 0, .own 1 a0.fbuf.length], E5.row a0.fbuf] (fnS (F13 K a0 a1)) (fun r => .tup [.c (.val (.int .i64 r.1)), .c (errC r.2.1)]) (fun r => [.cells [.self 46 r.2.2.faddr 0, .own 2 r.2.2.fbuf.length], .dead, E5.row r.2.2.fbuf]) := by
 refine DFun.intro (fn := Tryz.f13) (c := cd (bd Tryz.f13) []) (rs := fun r => ⟨[sI 4 r.1, (5, .c (errC r.2.1))], [.cells [.self 46 r.2.2.faddr 0, .own 2 r.2.2.fbuf.length], .dead, E5.row r.2.2.fbuf], [], 2⟩) (by kernel_rfl) (by kernel_rfl) (by kernel_rfl) ?_ (fun r => by kernel_rfl) (fun r => by kernel_rfl) (fun r => by kernel_rfl) (fun r => by kernel_rfl)
 unfold F13
 refine Ref.sq ?_
 refine Ref.rn 0 ?_
 refine RefR.e0 (st' := ⟨[sP 0 0 0 0, sS 1 a1], [.cells [.self 46 a0.faddr 0, .own 1 a0.fbuf.length], E5.row a0.fbuf], [], 2⟩) 0 2 2 [0, 1] [0, 1] ?_
 refine RefR.nl 2 ?_
 refine Ref.sq ?_
 refine Ref.rn 1 ?_
 refine RefR.e0 (st' := ⟨[sP 0 0 0 0, sS 1 a1, sP 6 0 0 0], [.cells [.self 46 a0.faddr 0, .own 1 a0.fbuf.length], E5.row a0.fbuf], [], 2⟩) 0 1 1 [0, 1, 6] [0, 1] ?_
 refine RefR.callC (t := 7) 1 2 [0, 1] rfl (by kernel_rfl) (F28_ok K a0) (fun r1 => ?_)
 refine RefR.nl 2 ?_
 refine Ref.sq ?_
 refine Ref.rn 2 ?_
 refine RefR.e0 (st' := ⟨[sS 1 a1, sP 8 0 0 0, (12, .c (.own 1 r1.fbuf.length)), sS 13 a1], [.cells [.self 46 r1.faddr 0, .own 1 r1.fbuf.length], E5.row r1.fbuf], [], 2⟩) 0 6 6 [1, 8, 12, 13] [0, 1] ?_
 refine RefR.evC (vs := [room ((r1.fbuf.length + a1.length) * 1)]) (st' := ⟨[sS 1 a1, sP 8 0 0 0, (14, .c (.own 2 (r1.fbuf.length + a1.length)))], [.cells [.self 46 r1.faddr 0, .own 1 r1.fbuf.length], .dead, .row 5 1 (r1.fbuf.length + a1.length) fun i j => bif Nat.blt i r1.fbuf.length then E5.at r1.fbuf i j else (fun i _ => .val (.int .u8 (a1.getD i 0).toNat)) (i - r1.fbuf.length) j], [], 2⟩) 6 1 7 [1, 8, 14] [0, 1, 2] rfl (by kernel_rfl) ?_
 refine RefR.conv (Conv.obj 2 (E5.row (r1.fbuf ++ a1)) (El.row_append_str E5 rfl r1.fbuf a1 rfl) (by kernel_rfl)) ?_
 refine RefR.conv (Conv.slot 14 (.c (.own 2 ((r1.fbuf ++ a1).length))) (DLe.c (CLe.own (by simp <;> omega))) (by kernel_rfl)) ?_
 refine RefR.e0 (st' := ⟨[sS 1 a1], [.cells [.self 46 r1.faddr 0, .own 2 ((r1.fbuf ++ a1).length)], .dead, E5.row (r1.fbuf ++ a1)], [], 2⟩) 7 3 10 [1] [0, 1, 2] ?_
 refine RefR.nl 10 ?_
 refine Ref.sq ?_
 refine Ref.rn 3 ?_
 refine RefR.e0 (st' := ⟨[sI 4 (Int.ofNat a1.length), (5, .c (.val .nilIface))], [.cells [.self 46 r1.faddr 0, .own 2 ((r1.fbuf ++ a1).length)], .dead, E5.row (r1.fbuf ++ a1)], [], 2⟩) 0 4 4 [4, 5] [0, 1, 2] ?_
 refine RefR.nl 4 ?_
 refine Ref.conv (Conv.slot 5 (.c (errC none)) (DLe.c (errC_nil)) (by kernel_rfl)) ?_
 refine Ref.conv (Conv.keep (st' := ⟨[sI 4 (Int.ofNat a1.length), (5, .c (errC none))], [.cells [.self 46 r1.faddr 0, .own 2 ((r1.fbuf ++ a1).length)], .dead, E5.row (r1.fbuf ++ a1)], [], 2⟩) [4, 5] [0, 1, 2] (by kernel_rfl)) ?_
 exact Ref.rt (t := ((Int.ofNat a1.length), none, (⟨r1.faddr, (r1.fbuf ++ a1)⟩ : S46)))

/-- (*strings.Builder).WriteString -/
def F13x48 (K : Nat) (a0 : S48) (a1 : Bytes) : Option ((Int × Err × S48) ⊕ (Int × Err × S48)) :=
 ((fnS (F28x48 K a0)).bind (fun r1 => (chk [room ((r1.fBuilder.fbuf.length + a1.length) * 1)] (some (.inl ((Int.ofNat a1.length), none, (⟨(⟨r1.fBuilder.faddr, (r1.fBuilder.fbuf ++ a1)⟩ : S46), r1.fbad⟩ : S48)))))))

theorem F13x48_ok (K : Nat) (a0 : S48) (a1 : Bytes) : DFun Tryz.prog 13 [.c (.ptr 0 0 0), .c (.str a1)] [.cells [.self 48 a0.fBuilder.faddr 0, .own 1 a0.fBuilder.fbuf.length, .val (.bool a0.fbad)], E5.row a0.fBuilder.fbuf] (fnS (F13x48 K a0 a1)) (fun r => .tup [.c (.val (.int .i64 r.1)), .c (errC r.2.1)]) (fun r => [.cells [.self 48 r.2.2.fBuilder.faddr 0, .own 2 r.2.2.fBuilder.fbuf.length, .val (.bool r.2.2.fbad)], .dead, E5.row r.2.2.fBuilder.fbuf]) := by
 refine DFun.intro (fn := Tryz.f13) (c := cd (bd Tryz.f13) []) (rs := fun r => ⟨[sI 4 r.1, (5, .c (errC r.2.1))], [.cells [.self 48 r.2.2.fBuilder.faddr 0, .own 2 r.2.2.fBuilder.fbuf.length, .val (.bool r.2.2.fbad)], .dead, E5.row r.2.2.fBuilder.fbuf], [], 2⟩) (by kernel_rfl) (by kernel_rfl) (by kernel_rfl) ?_ (fun r => by kernel_rfl) (fun r => by kernel_rfl) (fun r => by kernel_rfl) (fun r => by kernel_rfl)
 unfold F13x48
 refine Ref.sq ?_
 refine Ref.rn 0 ?_
 refine RefR.e0 (st' := ⟨[sP 0 0 0 0, sS 1 a1], [.cells [.self 48 a0.fBuilder.faddr 0, .own 1 a0.fBuilder.fbuf.length, .val (.bool a0.fbad)], E5.row a0.fBuilder.fbuf], [], 2⟩) 0 2 2 [0, 1] [0, 1] ?_
 refine RefR.nl 2 ?_
 refine Ref.sq ?_
 refine Ref.rn 1 ?_
 refine RefR.e0 (st' := ⟨[sP 0 0 0 0, sS 1 a1, sP 6 0 0 0], [.cells [.self 48 a0.fBuilder.faddr 0, .own 1 a0.fBuilder.fbuf.length, .val (.bool a0.fbad)], E5.row a0.fBuilder.fbuf], [], 2⟩) 0 1 1 [0, 1, 6] [0, 1] ?_
 refine RefR.callC (t := 7) 1 2 [0, 1] rfl (by kernel_rfl) (F28x48_ok K a0) (fun r1 => ?_)
 refine RefR.nl 2 ?_
 refine Ref.sq ?_
 refine Ref.rn 2 ?_
 refine RefR.e0 (st' := ⟨[sS 1 a1, sP 8 0 0 0, (12, .c (.own 1 r1.fBuilder.fbuf.length)), sS 13 a1], [.cells [.self 48 r1.fBuilder.faddr 0, .own 1 r1.fBuilder.fbuf.length, .val (.bool r1.fbad)], E5.row r1.fBuilder.fbuf], [], 2⟩) 0 6 6 [1, 8, 12, 13] [0, 1] ?_
 refine RefR.evC (vs := [room ((r1.fBuilder.fbuf.length + a1.length) * 1)]) (st' := ⟨[sS 1 a1, sP 8 0 0 0, (14, .c (.own 2 (r1.fBuilder.fbuf.length + a1.length)))], [.cells [.self 48 r1.fBuilder.faddr 0, .own 1 r1.fBuilder.fbuf.length, .val (.bool r1.fbad)], .dead, .row 5 1 (r1.fBuilder.fbuf.length + a1.length) fun i j => bif Nat.blt i r1.fBuilder.fbuf.length then E5.at r1.fBuilder.fbuf i j else (fun i _ => .val (.int .u8 (a1.getD i 0).toNat)) (i - r1.fBuilder.fbuf.length) j], [], 2⟩) 6 1 7 [1, 8, 14] [0, 1, 2] rfl (by kernel_rfl) ?_
 refine RefR.conv (Conv.obj 2 (E5.row (r1.fBuilder.fbuf ++ a1)) (El.row_append_str E5 rfl r1.fBuilder.fbuf a1 rfl) (by kernel_rfl)) ?_
 refine RefR.conv (Conv.slot 14 (.c (.own 2 ((r1.fBuilder.fbuf ++ a1).length))) (DLe.c (CLe.own (by simp <;> omega))) (by kernel_rfl)) ?_
 refine RefR.e0 (st' := ⟨[sS 1 a1], [.cells [.self 48 r1.fBuilder.faddr 0, .own 2 ((r1.fBuilder.fbuf ++ a1).length), .val (.bool r1.fbad)], .dead, E5.row (r1.fBuilder.fbuf ++ a1)], [], 2⟩) 7 3 10 [1] [0, 1, 2] ?_
 refine RefR.nl 10 ?_
 refine Ref.sq ?_
 refine Ref.rn 3 ?_
 refine RefR.e0 (st' := ⟨[sI 4 (Int.ofNat a1.length), (5, .c (.val .nilIface))], [.cells [.self 48 r1.fBuilder.faddr 0, .own 2 ((r1.fBuilder.fbuf ++ a1).length), .val (.bool r1.fbad)], .dead, E5.row (r1.fBuilder.fbuf ++ a1)], [], 2⟩) 0 4 4 [4, 5] [0, 1, 2] ?_
 refine RefR.nl 4 ?_
 refine Ref.conv (Conv.slot 5 (.c (errC none)) (DLe.c (errC_nil)) (by kernel_rfl)) ?_
 refine Ref.conv (Conv.keep (st' := ⟨[sI 4 (Int.ofNat a1.length), (5, .c (errC none))], [.cells [.self 48 r1.fBuilder.faddr 0, .own 2 ((r1.fBuilder.fbuf ++ a1).length), .val (.bool r1.fbad)], .dead, E5.row (r1.fBuilder.fbuf ++ a1)], [], 2⟩) [4, 5] [0, 1, 2] (by kernel_rfl)) ?_
 exact Ref.rt (t := ((Int.ofNat a1.length), none, (⟨(⟨r1.fBuilder.faddr, (r1.fBuilder.fbuf ++ a1)⟩ : S46), r1.fbad⟩ : S48)))

/-- (*strings.Builder).WriteByte -/
def F15x48 (K : Nat) (a0 : S48) (a1 : UInt8) : Option ((Err × S48) ⊕ (Err × S48)) :=
 ((fnS (F28x48 K a0)).bind (fun r1 => (chk [room ((r1.fBuilder.fbuf.length + ([a1].length)) * 1)] (some (.inl (none, (⟨(⟨r1.fBuilder.faddr, (r1.fBuilder.fbuf ++ [a1])⟩ : S46), r1.fbad⟩ : S48)))))))

theorem F15x48_ok (K : Nat) (a0 : S48) (a1 : UInt8) : DFun Tryz.prog 15 [.c (.ptr 0 0 0), .c (.val (.int .u8 (Int.ofNat a1.toNat)))] [.cells [.self 48 a0.fBuilder.faddr 0, .own 1 a0.fBuilder.fbuf.length, .val (.bool a0.fbad)], E5.row a0.fBuilder.fbuf] (fnS (F15x48 K a0 a1)) (fun r => .c (errC r.1)) (fun r => [.cells [.self 48 r.2.fBuilder.faddr 0, .own 2 r.2.fBuilder.fbuf.length, .val (.bool r.2.fbad)], .dead, E5.row r.2.fBuilder.fbuf]) := by
 refine DFun.intro (fn := Tryz.f15) (c := cd (bd Tryz.f15) []) (rs := fun r => ⟨[(4, .c (errC r.1))], [.cells [.self 48 r.2.fBuilder.faddr 0, .own 2 r.2.fBuilder.fbuf.length, .val (.bool r.2.fbad)], .dead, E5.row r.2.fBuilder.fbuf], [], 2⟩) (by kernel_rfl) (by kernel_rfl) (by kernel_rfl) ?_ (fun r => by kernel_rfl) (fun r => by kernel_rfl) (fun r => by kernel_rfl) (fun r => by kernel_rfl)
 unfold F15x48
 refine Ref.sq ?_
 refine Ref.rn 0 ?_
 refine RefR.e0 (st' := ⟨[sP 0 0 0 0, (1, .c (.val (.int .u8 (Int.ofNat a1.toNat))))], [.cells [.self 48 a0.fBuilder.faddr 0, .own 1 a0.fBuilder.fbuf.length, .val (.bool a0.fbad)], E5.row a0.fBuilder.fbuf], [], 2⟩) 0 1 1 [0, 1] [0, 1] ?_
 refine RefR.nl 1 ?_
 refine Ref.sq ?_
 refine Ref.rn 1 ?_
 refine RefR.e0 (st' := ⟨[sP 0 0 0 0, (1, .c (.val (.int .u8 (Int.ofNat a1.toNat)))), sP 5 0 0 0], [.cells [.self 48 a0.fBuilder.faddr 0, .own 1 a0.fBuilder.fbuf.length, .val (.bool a0.fbad)], E5.row a0.fBuilder.fbuf], [], 2⟩) 0 1 1 [0, 1, 5] [0, 1] ?_
 refine RefR.callC (t := 6) 1 2 [0, 1] rfl (by kernel_rfl) (F28x48_ok K a0) (fun r1 => ?_)
 refine RefR.nl 2 ?_
 refine Ref.sq ?_
 refine Ref.rn 2 ?_
 refine RefR.e0 (st' := ⟨[sP 7 0 0 0, (11, .c (.own 1 r1.fBuilder.fbuf.length)), (12, .c (.val (.int .u8 (Int.ofNat a1.toNat))))], [.cells [.self 48 r1.fBuilder.faddr 0, .own 1 r1.fBuilder.fbuf.length, .val (.bool r1.fbad)], E5.row r1.fBuilder.fbuf], [], 2⟩) 0 6 6 [7, 11, 12] [0, 1] ?_
 refine RefR.e0 (st' := ⟨[sP 7 0 0 0, (11, .c (.own 1 r1.fBuilder.fbuf.length)), (13, .c (.own 2 1))], [.cells [.self 48 r1.fBuilder.faddr 0, .own 1 r1.fBuilder.fbuf.length, .val (.bool r1.fbad)], E5.row r1.fBuilder.fbuf, .row 5 1 1 (tbl [[.val (.int .u8 (Int.ofNat a1.toNat))]])], [], 2⟩) 6 1 7 [7, 11, 13] [0, 1, 2] ?_
 refine RefR.conv (Conv.obj 2 (E5.row [a1]) (El.row_build E5 [a1] rfl (by kernel_rfl)) (by kernel_rfl)) ?_
 refine RefR.conv (Conv.slot 13 (.c (.own 2 ([a1].length))) (DLe.c (CLe.own (by simp <;> omega))) (by kernel_rfl)) ?_
 refine RefR.evC (vs := [room ((r1.fBuilder.fbuf.length + ([a1].length)) * 1)]) (st' := ⟨[sP 7 0 0 0, (14, .c (.own 2 (r1.fBuilder.fbuf.length + ([a1].length))))], [.cells [.self 48 r1.fBuilder.faddr 0, .own 1 r1.fBuilder.fbuf.length, .val (.bool r1.fbad)], .dead, .row 5 1 (r1.fBuilder.fbuf.length + ([a1].length)) fun i j => bif Nat.blt i r1.fBuilder.fbuf.length then E5.at r1.fBuilder.fbuf i j else (E5.at [a1]) (i - r1.fBuilder.fbuf.length) j], [], 2⟩) 7 1 8 [7, 14] [0, 1, 3] rfl (by kernel_rfl) ?_
 refine RefR.conv (Conv.obj 2 (E5.row (r1.fBuilder.fbuf ++ [a1])) (El.row_append E5 r1.fBuilder.fbuf [a1] rfl rfl) (by kernel_rfl)) ?_
 refine RefR.conv (Conv.slot 14 (.c (.own 2 ((r1.fBuilder.fbuf ++ [a1]).length))) (DLe.c (CLe.own (by simp <;> omega))) (by kernel_rfl)) ?_
 refine RefR.e0 (st' := ⟨[], [.cells [.self 48 r1.fBuilder.faddr 0, .own 2 ((r1.fBuilder.fbuf ++ [a1]).length), .val (.bool r1.fbad)], .dead, E5.row (r1.fBuilder.fbuf ++ [a1])], [], 2⟩) 8 3 11 [] [0, 1, 2] ?_
 refine RefR.nl 11 ?_
 refine Ref.sq ?_
 refine Ref.rn 3 ?_
 refine RefR.e0 (st' := ⟨[(4, .c (.val .nilIface))], [.cells [.self 48 r1.fBuilder.faddr 0, .own 2 ((r1.fBuilder.fbuf ++ [a1]).length), .val (.bool r1.fbad)], .dead, E5.row (r1.fBuilder.fbuf ++ [a1])], [], 2⟩) 0 1 1 [4] [0, 1, 2] ?_
 refine RefR.nl 1 ?_
 refine Ref.conv (Conv.slot 4 (.c (errC none)) (DLe.c (errC_nil)) (by kernel_rfl)) ?_
 exact Ref.rt (t := (none, (⟨(⟨r1.fBuilder.faddr, (r1.fBuilder.fbuf ++ [a1])⟩ : S46), r1.fbad⟩ : S48)))

/-- (*strings.Builder).Len -/
def F17x48 (K : Nat) (a0 : S48) : Option ((Int × S48) ⊕ (Int × S48)) :=
 (some (.inl ((Int.ofNat a0.fBuilder.fbuf.length), a0)))

theorem F17x48_ok (K : Nat) (a0 : S48) : DFun Tryz.prog 17 [.c (.ptr 0 0 0)] [.cells [.self 48 a0.fBuilder.faddr 0, .own 1 a0.fBuilder.fbuf.length, .val (.bool a0.fbad)], E5.row a0.fBuilder.fbuf] (fnS (F17x48 K a0)) (fun r => .c (.val (.int .i64 r.1))) (fun r => [.cells [.self 48 r.2.fBuilder.faddr 0, .own 2 r.2.fBuilder.fbuf.length, .val (.bool r.2.fbad)], .dead, E5.row r.2.fBuilder.fbuf]) := by
 refine DFun.intro (fn := Tryz.f17) (c := cd (bd Tryz.f17) []) (rs := fun r => ⟨[sI 2 r.1], [.cells [.self 48 r.2.fBuilder.faddr 0, .own 2 r.2.fBuilder.fbuf.length, .val (.bool r.2.fbad)], .dead, E5.row r.2.fBuilder.fbuf], [], 2⟩) (by kernel_rfl) (by kernel_rfl) (by kernel_rfl) ?_ (fun r => by kernel_rfl) (fun r => by kernel_rfl) (fun r => by kernel_rfl) (fun r => by kernel_rfl)
 unfold F17x48
 refine Ref.sq ?_
 refine Ref.rn 0 ?_
 refine RefR.e0 (st' := ⟨[sP 0 0 0 0], [.cells [.self 48 a0.fBuilder.faddr 0, .own 1 a0.fBuilder.fbuf.length, .val (.bool a0.fbad)], E5.row a0.fBuilder.fbuf], [], 2⟩) 0 1 1 [0] [0, 1] ?_
 refine RefR.nl 1 ?_
 refine Ref.sq ?_
 refine Ref.rn 1 ?_
 refine RefR.e0 (st' := ⟨[sI 2 (Int.ofNat a0.fBuilder.fbuf.length)], [.cells [.self 48 a0.fBuilder.faddr 0, .own 1 a0.fBuilder.fbuf.length, .val (.bool a0.fbad)], E5.row a0.fBuilder.fbuf], [], 2⟩) 0 6 6 [2] [0, 1] ?_
 refine RefR.nl 6 ?_
 refine Ref.conv (Conv.move (st' := ⟨[sI 2 (Int.ofNat a0.fBuilder.fbuf.length)], [.cells [.self 48 a0.fBuilder.faddr 0, .own 2 a0.fBuilder.fbuf.length, .val (.bool a0.fbad)], .dead, E5.row a0.fBuilder.fbuf], [], 2⟩) 1 (by kernel_rfl) (by kernel_rfl)) ?_
 exact Ref.rt (t := ((Int.ofNat a0.fBuilder.fbuf.length), a0))

/-- governor/script.number -/
def F33 (K : Nat) (a0 : Bytes) : Option ((Int × Bool) ⊕ (Int × Bool)) :=
 ((fnS (F45 K a0)).bind (fun r1 => (letV (((!r1.2) && (decide ((r1.1 : Int) ≥ (-2147483648)))) && (decide ((r1.1 : Int) ≤ 2147483648))) (fun (x2 : Bool) => ((condM x2 (fnS (F29 K r1.1)) default).bind (fun r3 => (some (.inl (r1.1, (x2 && (r3 == a0)))))))))))

theorem F33_ok (K : Nat) (a0 : Bytes) : DFun Tryz.prog 33 [.c (.str a0)] [] (fnS (F33 K a0)) (fun r => .tup [.c (.val (.int .i64 r.1)), .c (.val (.bool r.2))]) (fun r => []) := by
 refine DFun.intro (fn := Tryz.f33) (c := cd (bd Tryz.f33) []) (rs := fun r => ⟨[sI 2 r.1, sB 3 r.2], [], [], 0⟩) (by kernel_rfl) (by kernel_rfl) (by kernel_rfl) ?_ (fun r => by kernel_rfl) (fun r => by kernel_rfl) (fun r => by kernel_rfl) (fun r => by kernel_rfl)
 unfold F33
 refine Ref.sq ?_
 refine Ref.rn 0 ?_
 refine RefR.e0 (st' := ⟨[sS 0 a0], [], [], 0⟩) 0 2 2 [0] [] ?_
 refine RefR.nl 2 ?_
 refine Ref.sq ?_
 refine Ref.rn 1 ?_
 refine RefR.e0 (st' := ⟨[sS 0 a0, sS 7 a0], [], [], 0⟩) 0 1 1 [0, 7] [] ?_
 refine RefR.callC (t := 8) 1 2 [] rfl (by kernel_rfl) (F45_ok K a0) (fun r1 => ?_)
 refine RefR.e0 (st' := ⟨[sS 0 a0, sI 4 r1.1, (5, .c (.iface r1.2 125 .bot))], [], [], 0⟩) 2 5 7 [0, 4, 5] [] ?_
 refine RefR.nl 7 ?_
 refine Ref.sq ?_
 refine Ref.rn 2 ?_
 refine RefR.e0 (st' := ⟨[sS 0 a0, sI 11 r1.1, sB 22 (((!r1.2) && (decide ((r1.1 : Int) ≥ (-2147483648)))) && (decide ((r1.1 : Int) ≤ 2147483648))), sI 23 r1.1], [], [(23, [(22, true)])], 0⟩) 0 13 13 [0, 11, 22, 23] [] ?_
 refine RefR.letC (stf := fun x2 => ⟨[sS 0 a0, sI 11 r1.1, sB 22 x2, sI 23 r1.1], [], [(23, [(22, true)])], 0⟩) (by kernel_rfl) (fun x2 => ?_)
 refine RefR.lookC (t := 24) (g := [(22, true)]) (b := x2) 13 14 [] (default : Bytes) rfl (by kernel_rfl) (F29_ok K r1.1) (fun _ => rfl) (fun r3 => ?_)
 refine RefR.e0 (st' := ⟨[sI 2 r1.1, sB 3 (x2 && (r3 == a0))], [], [], 0⟩) 14 5 19 [2, 3] [] ?_
 refine RefR.nl 19 ?_
 exact Ref.rt (t := (r1.1, (x2 && (r3 == a0))))

/-- governor/script.scan -/
def F25 (K : Nat) (a0 : (List Bytes)) : Option ((S35 × Bool) ⊕ (S35 × Bool)) :=
 (letV ((decide (((Int.ofNat a0.length) : Int) < 1)) || (decide (((Int.ofNat a0.length) : Int) > 17))) (fun (x1 : Bool) => (if x1 = true then (some (.inl ((⟨[], 0⟩ : S35), false))) else (chk [inb 0 a0.length] ((fnS (F33 K (a0.getD (0 : Int).toNat default))).bind (fun r2 => (chk [bndOk a0.length 1 (Int.ofNat a0.length)] (letV ((a0.drop (1 : Int).toNat).take (((Int.ofNat a0.length) : Int).toNat - (1 : Int).toNat)) (fun (x3 : (List Bytes)) => (bindS (blockS ((iter K (fun (u23 : Bool × (List Int) × Int) => (letV (decide ((u23.2.2 : Int) < (Int.ofNat x3.length))) (fun (x29 : Bool) => (if x29 = true then (bindS (blockS (chk [inb u23.2.2 x3.length] ((fnS (F33 K (x3.getD (u23.2.2 : Int).toNat default))).bind (fun r32 => (chk [room ((u23.2.1.length + ([r32.1].length)) * 8)] (some (.inr ((u23.1 && r32.2), (u23.2.1 ++ [r32.1]))))))))) (fun (u31 : Bool × (List Int)) => (some (.inr (u31.1, u31.2, (IntKind.i64.wrap (u23.2.2 + 1))))))) else (some (.inl (Sum.inl (u23.1, u23.2.1)))))))) (r2.2, [], 0)).map .inl)) (fun (u18 : Bool × (List Int)) => (some (.inl ((⟨u18.2, r2.1⟩ : S35), u18.1))))))))))))))

theorem F25_ok (K : Nat) (a0 : (List Bytes)) : DFun Tryz.prog 25 [.c (E9.tree a0)] [] (fnS (F25 K a0)) (fun r => .tup [.agg (E35.cs r.1), .c (.val (.bool r.2))]) (fun r => [.cells (E35.cs r.1)]) := by
 refine DFun.intro (fn := Tryz.f25) (c := cd (bd Tryz.f25) []) (rs := fun r => ⟨[sP 2 0 0 0, sB 3 r.2], [.cells (E35.cs r.1)], [], 0⟩) (by kernel_rfl) (by kernel_rfl) (by kernel_rfl) ?_ (fun r => by kernel_rfl) (fun r => by kernel_rfl) (fun r => by kernel_rfl) (fun r => by kernel_rfl)
 unfold F25
 refine Ref.sq ?_
 refine Ref.rn 0 ?_
 refine RefR.e0 (st' := ⟨[(0, .c (E9.tree a0)), sP 2 0 0 0], [.cells [.nil, .val (.int .i64 0)]], [], 0⟩) 0 2 2 [0, 2] [0] ?_
 refine RefR.nl 2 ?_
 refine Ref.sq ?_
 refine Ref.sq ?_
 refine Ref.rn 1 ?_
 refine RefR.e0 (st' := ⟨[(0, .c (E9.tree a0)), sP 2 0 0 0, sB 18 ((decide (((Int.ofNat a0.length) : Int) < 1)) || (decide (((Int.ofNat a0.length) : Int) > 17)))], [.cells [.nil, .val (.int .i64 0)]], [], 0⟩) 0 8 8 [0, 2, 18] [0] ?_
 refine RefR.letC (stf := fun x1 => ⟨[(0, .c (E9.tree a0)), sP 2 0 0 0, sB 18 x1], [.cells [.nil, .val (.int .i64 0)]], [], 0⟩) (by kernel_rfl) (fun x1 => ?_)
 refine RefR.nl 8 ?_
 refine Ref.cn (.tmp 18) x1 (fun hc => ?_) (fun hc => ?_)
 ·
  refine Ref.sq ?_
  refine Ref.rn 2 ?_
  refine RefR.e0 (st' := ⟨[sP 2 0 0 0, sB 3 false], [.cells [.nil, .val (.int .i64 0)]], [], 0⟩) 0 3 3 [2, 3] [0] ?_
  refine RefR.nl 3 ?_
  refine Ref.conv (Conv.obj 0 (.cells [E3.tree [], .val (.int .i64 0)]) (OLe.cells (All2.cons (El.tree_nil E3) (All2.cons (CLe.refl _) (All2.nil)))) (by kernel_rfl)) ?_
  exact Ref.rt (t := ((⟨[], 0⟩ : S35), false))
 ·
  refine Ref.sk ?_
  refine Ref.sq ?_
  refine Ref.rn 3 ?_
  refine RefR.evC (vs := [inb 0 a0.length]) (st' := ⟨[(0, .c (E9.tree a0)), sP 2 0 0 0, sS 23 (a0.getD (0 : Int).toNat default)], [.cells [.nil, .val (.int .i64 0)]], [], 0⟩) 0 3 3 [0, 2, 23] [0] rfl (by kernel_rfl) ?_
  refine RefR.callC (t := 24) 3 4 [] rfl (by kernel_rfl) (F33_ok K (a0.getD (0 : Int).toNat default)) (fun r2 => ?_)
  refine RefR.e0 (st' := ⟨[(0, .c (E9.tree a0)), sP 2 0 0 0, sI 4 r2.1, sB 5 r2.2], [.cells [.nil, .val (.int .i64 0)]], [], 0⟩) 4 5 9 [0, 2, 4, 5] [0] ?_
  refine RefR.nl 9 ?_
  refine Ref.sq ?_
  refine Ref.rn 4 ?_
  refine RefR.e0 (st' := ⟨[(0, .c (E9.tree a0)), sP 2 0 0 0, sB 5 r2.2, sP 6 1 0 0], [.cells [.nil, .val (.int .i64 0)], .cells [.nil, .val (.int .i64 r2.1)]], [], 0⟩) 0 4 4 [0, 2, 5, 6] [0, 1] ?_
  refine RefR.nl 4 ?_
  refine Ref.sq ?_
  refine Ref.sq ?_
  refine Ref.rn 5 ?_
  refine RefR.evH (vs := [bndOk a0.length 1 (Int.ofNat a0.length)]) (st' := ⟨[sP 2 0 0 0, sB 5 r2.2, sP 6 1 0 0, (30, .c (.tree E9.w (((Int.ofNat a0.length) : Int).toNat - (1 : Int).toNat) fun i j => E9.at a0 ((1 : Int).toNat + i) j))], [.cells [.nil, .val (.int .i64 0)], .cells [.nil, .val (.int .i64 r2.1)]], [], 0⟩) 0 2 2 [2, 5, 6, 30] [0, 1] rfl (by kernel_rfl) (fun hv => ?_)
  refine RefR.conv (Conv.slot 30 (.c (E9.tree ((a0.drop (1 : Int).toNat).take (((Int.ofNat a0.length) : Int).toNat - (1 : Int).toNat)))) (DLe.c (El.tree_slice E9 _ (bndOk_le (hv _ (List.Mem.head _))))) (by kernel_rfl)) ?_
  refine RefR.letC (stf := fun x3 => ⟨[(30, .c (E9.tree x3)), sP 2 0 0 0, sB 5 r2.2, sP 6 1 0 0], [.cells [.nil, .val (.int .i64 0)], .cells [.nil, .val (.int .i64 r2.1)]], [], 0⟩) (by kernel_rfl) (fun x3 => ?_)
  refine RefR.e0 (st' := ⟨[sP 2 0 0 0, sB 5 r2.2, sP 6 1 0 0, (30, .c (E9.tree x3)), sI 31 (Int.ofNat x3.length), sI 32 0], [.cells [.nil, .val (.int .i64 0)], .cells [.nil, .val (.int .i64 r2.1)]], [], 0⟩) 2 2 4 [2, 5, 6, 30, 31, 32] [0, 1] ?_
  refine RefR.nl 4 ?_
  refine Ref.codeEq (c' := .block 0 (cd (bd Tryz.f25) [1, 1, 1, 1, 0, 1, 0])) (by kernel_rfl) ?_
  refine Ref.block (go1 := fun u18 => ⟨[sP 2 0 0 0, sB 5 u18.1, sP 6 1 0 0], [.cells [.nil, .val (.int .i64 0)], .cells [.own 2 u18.2.length, .val (.int .i64 r2.1)], E3.row u18.2], [], 0⟩) ?_ (fun _ h => by cases h) (fun u18 => ?_)
  ·
   refine Ref.codeEq (c' := .loop (cd (bd Tryz.f25) [1, 1, 1, 1, 0, 1, 0, 0])) (by kernel_rfl) ?_
   refine Ref.conv (Conv.adoptCell (st' := ⟨[sP 2 0 0 0, sB 5 r2.2, sP 6 1 0 0, (30, .c (E9.tree x3)), sI 31 (Int.ofNat x3.length), sI 32 0], [.cells [.nil, .val (.int .i64 0)], .cells [.own 2 0, .val (.int .i64 r2.1)], E3.row []], [], 0⟩) 1 0 E3.ty E3.w (E3.at []) (by kernel_rfl)) ?_
   refine Ref.loop (hd := fun u23 => ⟨[sP 2 0 0 0, sB 5 u23.1, sP 6 1 0 0, (30, .c (E9.tree x3)), sI 31 (Int.ofNat x3.length), sI 32 u23.2.2], [.cells [.nil, .val (.int .i64 0)], .cells [.own 2 u23.2.1.length, .val (.int .i64 r2.1)], E3.row u23.2.1], [], 0⟩) K (r2.2, [], 0) (by kernel_rfl) (fun u23 => ?_)
   refine Ref.sq ?_
   refine Ref.rn 6 ?_
   refine RefR.e0 (st' := ⟨[sP 2 0 0 0, sB 5 u23.1, sP 6 1 0 0, (30, .c (E9.tree x3)), sI 31 (Int.ofNat x3.length), sI 32 u23.2.2, sB 33 (decide ((u23.2.2 : Int) < (Int.ofNat x3.length)))], [.cells [.nil, .val (.int .i64 0)], .cells [.own 2 u23.2.1.length, .val (.int .i64 r2.1)], E3.row u23.2.1], [], 0⟩) 0 1 1 [2, 5, 6, 30, 31, 32, 33] [0, 1, 2] ?_
   refine RefR.letC (stf := fun x29 => ⟨[sP 2 0 0 0, sB 5 u23.1, sP 6 1 0 0, (30, .c (E9.tree x3)), sI 31 (Int.ofNat x3.length), sI 32 u23.2.2, sB 33 x29], [.cells [.nil, .val (.int .i64 0)], .cells [.own 2 u23.2.1.length, .val (.int .i64 r2.1)], E3.row u23.2.1], [], 0⟩) (by kernel_rfl) (fun x29 => ?_)
   refine RefR.nl 1 ?_
   refine Ref.sq ?_
   refine Ref.cn (.tmp 33) x29 (fun hc => ?_) (fun hc => ?_)
   ·
    refine Ref.sk ?_
    refine Ref.sq ?_
    refine Ref.codeEq (c' := .block 1 (cd (bd Tryz.f25) [1, 1, 1, 1, 0, 1, 0, 0, 1, 1, 0, 0])) (by kernel_rfl) ?_
    refine Ref.block (go1 := fun u31 => ⟨[sP 2 0 0 0, sB 5 u31.1, sP 6 1 0 0, (30, .c (E9.tree x3)), sI 31 (Int.ofNat x3.length), sI 32 u23.2.2], [.cells [.nil, .val (.int .i64 0)], .cells [.own 2 u31.2.length, .val (.int .i64 r2.1)], E3.row u31.2], [], 0⟩) ?_ (fun a => match a with | .inl _ => (fun h => by cases h) | .inr _ => (fun h => by cases h)) (fun u31 => ?_)
    ·
     refine Ref.sq ?_
     refine Ref.rn 7 ?_
     refine RefR.evC (vs := [inb u23.2.2 x3.length]) (st' := ⟨[sP 2 0 0 0, sB 5 u23.1, sP 6 1 0 0, sS 8 (x3.getD (u23.2.2 : Int).toNat default), (30, .c (E9.tree x3)), sI 31 (Int.ofNat x3.length), sI 32 u23.2.2], [.cells [.nil, .val (.int .i64 0)], .cells [.own 2 u23.2.1.length, .val (.int .i64 r2.1)], E3.row u23.2.1], [], 0⟩) 0 3 3 [2, 5, 6, 8, 30, 31, 32] [0, 1, 2] rfl (by kernel_rfl) ?_
     refine RefR.nl 3 ?_
     refine Ref.sq ?_
     refine Ref.rn 8 ?_
     refine RefR.e0 (st' := ⟨[sP 2 0 0 0, sB 5 u23.1, sP 6 1 0 0, (30, .c (E9.tree x3)), sI 31 (Int.ofNat x3.length), sI 32 u23.2.2, sS 37 (x3.getD (u23.2.2 : Int).toNat default)], [.cells [.nil, .val (.int .i64 0)], .cells [.own 2 u23.2.1.length, .val (.int .i64 r2.1)], E3.row u23.2.1], [], 0⟩) 0 1 1 [2, 5, 6, 30, 31, 32, 37] [0, 1, 2] ?_
     refine RefR.callC (t := 38) 1 2 [] rfl (by kernel_rfl) (F33_ok K (x3.getD (u23.2.2 : Int).toNat default)) (fun r32 => ?_)
     refine RefR.e0 (st' := ⟨[sP 2 0 0 0, sB 5 u23.1, sP 6 1 0 0, sI 9 r32.1, sB 10 r32.2, (30, .c (E9.tree x3)), sI 31 (Int.ofNat x3.length), sI 32 u23.2.2], [.cells [.nil, .val (.int .i64 0)], .cells [.own 2 u23.2.1.length, .val (.int .i64 r2.1)], E3.row u23.2.1], [], 0⟩) 2 5 7 [2, 5, 6, 9, 10, 30, 31, 32] [0, 1, 2] ?_
     refine RefR.nl 7 ?_
     refine Ref.rn 9 ?_
     refine RefR.e0 (st' := ⟨[sP 2 0 0 0, sB 5 u23.1, sP 6 1 0 0, sB 10 r32.2, (30, .c (E9.tree x3)), sI 31 (Int.ofNat x3.length), sI 32 u23.2.2, (42, .c (.own 2 u23.2.1.length)), sI 43 r32.1], [.cells [.nil, .val (.int .i64 0)], .cells [.own 2 u23.2.1.length, .val (.int .i64 r2.1)], E3.row u23.2.1], [], 0⟩) 0 3 3 [2, 5, 6, 10, 30, 31, 32, 42, 43] [0, 1, 2] ?_
     refine RefR.e0 (st' := ⟨[sP 2 0 0 0, sB 5 u23.1, sP 6 1 0 0, sB 10 r32.2, (30, .c (E9.tree x3)), sI 31 (Int.ofNat x3.length), sI 32 u23.2.2, (42, .c (.own 2 u23.2.1.length)), (44, .c (.own 3 1))], [.cells [.nil, .val (.int .i64 0)], .cells [.own 2 u23.2.1.length, .val (.int .i64 r2.1)], E3.row u23.2.1, .row 3 1 1 (tbl [[.val (.int .i64 r32.1)]])], [], 0⟩) 3 1 4 [2, 5, 6, 10, 30, 31, 32, 42, 44] [0, 1, 2, 3] ?_
     refine RefR.conv (Conv.obj 3 (E3.row [r32.1]) (El.row_build E3 [r32.1] rfl (by kernel_rfl)) (by kernel_rfl)) ?_
     refine RefR.conv (Conv.slot 44 (.c (.own 3 ([r32.1].length))) (DLe.c (CLe.own (by simp <;> omega))) (by kernel_rfl)) ?_
     refine RefR.evC (vs := [room ((u23.2.1.length + ([r32.1].length)) * 8)]) (st' := ⟨[sP 2 0 0 0, sB 5 u23.1, sP 6 1 0 0, sB 10 r32.2, (30, .c (E9.tree x3)), sI 31 (Int.ofNat x3.length), sI 32 u23.2.2, (45, .c (.own 3 (u23.2.1.length + ([r32.1].length))))], [.cells [.nil, .val (.int .i64 0)], .cells [.own 2 u23.2.1.length, .val (.int .i64 r2.1)], .dead, .row 3 1 (u23.2.1.length + ([r32.1].length)) fun i j => bif Nat.blt i u23.2.1.length then E3.at u23.2.1 i j else (E3.at [r32.1]) (i - u23.2.1.length) j], [], 0⟩) 4 1 5 [2, 5, 6, 10, 30, 31, 32, 45] [0, 1, 2, 4] rfl (by kernel_rfl) ?_
     refine RefR.conv (Conv.obj 3 (E3.row (u23.2.1 ++ [r32.1])) (El.row_append E3 u23.2.1 [r32.1] rfl rfl) (by kernel_rfl)) ?_
     refine RefR.conv (Conv.slot 45 (.c (.own 3 ((u23.2.1 ++ [r32.1]).length))) (DLe.c (CLe.own (by simp <;> omega))) (by kernel_rfl)) ?_
     refine RefR.e0 (st' := ⟨[sP 2 0 0 0, sB 5 (u23.1 && r32.2), sP 6 1 0 0, (30, .c (E9.tree x3)), sI 31 (Int.ofNat x3.length), sI 32 u23.2.2], [.cells [.nil, .val (.int .i64 0)], .cells [.own 2 ((u23.2.1 ++ [r32.1]).length), .val (.int .i64 r2.1)], E3.row (u23.2.1 ++ [r32.1])], [], 0⟩) 5 7 12 [2, 5, 6, 30, 31, 32] [0, 1, 3] ?_
     refine RefR.nl 12 ?_
     exact Ref.n0 (t := ((u23.1 && r32.2), (u23.2.1 ++ [r32.1])))
    ·
     refine Ref.rn 10 ?_
     refine RefR.e0 (st' := ⟨[sP 2 0 0 0, sB 5 u31.1, sP 6 1 0 0, (30, .c (E9.tree x3)), sI 31 (Int.ofNat x3.length), sI 32 (IntKind.i64.wrap (u23.2.2 + 1))], [.cells [.nil, .val (.int .i64 0)], .cells [.own 2 u31.2.length, .val (.int .i64 r2.1)], E3.row u31.2], [], 0⟩) 0 2 2 [2, 5, 6, 30, 31, 32] [0, 1, 2] ?_
     refine RefR.nl 2 ?_
     exact Ref.n0 (t := (u31.1, u31.2, (IntKind.i64.wrap (u23.2.2 + 1))))
   ·
    refine Ref.conv (Conv.keep (st' := ⟨[sP 2 0 0 0, sB 5 u23.1, sP 6 1 0 0], [.cells [.nil, .val (.int .i64 0)], .cells [.own 2 u23.2.1.length, .val (.int .i64 r2.1)], E3.row u23.2.1], [], 0⟩) [2, 5, 6] [0, 1, 2] (by kernel_rfl)) ?_
    exact Ref.xt 0 (t := (Sum.inl (u23.1, u23.2.1)))
  ·
   refine Ref.sq ?_
   refine Ref.rn 11 ?_
   refine RefR.e0 (st' := ⟨[sP 2 0 0 0, sB 3 u18.1], [.cells [.own 1 u18.2.length, .val (.int .i64 r2.1)], E3.row u18.2], [], 0⟩) 0 4 4 [2, 3] [0, 2] ?_
   refine RefR.nl 4 ?_
   refine Ref.conv (Conv.freeze (st' := ⟨[sP 2 0 0 0, sB 3 u18.1], [.cells [E3.tree u18.2, .val (.int .i64 r2.1)], .dead], [], 0⟩) 1 (by kernel_rfl)) ?_
   refine Ref.conv (Conv.keep (st' := ⟨[sP 2 0 0 0, sB 3 u18.1], [.cells [E3.tree u18.2, .val (.int .i64 r2.1)]], [], 0⟩) [2, 3] [0] (by kernel_rfl)) ?_
   exact Ref.rt (t := ((⟨u18.2, r2.1⟩ : S35), u18.1))

/-- (*governor/script.writer).num -/
def F14 (K : Nat) (a0 : S48) (a1 : Int) : Option ((S48) ⊕ (S48)) :=
 ((fnS (F29 K a1)).bind (fun r1 => (chk [room (([32] : Bytes).length + r1.length)] ((fnS (F13x48 K (⟨a0.fBuilder, ((a0.fbad || (decide ((a1 : Int) < (-2147483648)))) || (decide ((a1 : Int) > 2147483648)))⟩ : S48) (([32] : Bytes) ++ r1))).bind (fun r2 => (some (.inr (r2.2.2))))))))

theorem F14_ok (K : Nat) (a0 : S48) (a1 : Int) : DFun Tryz.prog 14 [.c (.ptr 0 0 0), .c (.val (.int .i64 a1))] [.cells [.self 48 a0.fBuilder.faddr 0, .own 1 a0.fBuilder.fbuf.length, .val (.bool a0.fbad)], E5.row a0.fBuilder.fbuf] (fnS (F14 K a0 a1)) (fun r => .tup []) (fun r => [.cells [.self 48 r.fBuilder.faddr 0, .own 2 r.fBuilder.fbuf.length, .val (.bool r.fbad)], .dead, E5.row r.fBuilder.fbuf]) := by
 refine DFun.intro (fn := Tryz.f14) (c := cd (bd Tryz.f14) []) (rs := fun r => ⟨[], [.cells [.self 48 r.fBuilder.faddr 0, .own 2 r.fBuilder.fbuf.length, .val (.bool r.fbad)], .dead, E5.row r.fBuilder.fbuf], [], 2⟩) (by kernel_rfl) (by kernel_rfl) (by kernel_rfl) ?_ (fun r => by kernel_rfl) (fun r => by kernel_rfl) (fun r => by kernel_rfl) (fun r => by kernel_rfl)
 unfold F14
 refine Ref.sq ?_
 refine Ref.rn 0 ?_
 refine RefR.e0 (st' := ⟨[sP 0 0 0 0, sI 1 a1], [.cells [.self 48 a0.fBuilder.faddr 0, .own 1 a0.fBuilder.fbuf.length, .val (.bool ((a0.fbad || (decide ((a1 : Int) < (-2147483648)))) || (decide ((a1 : Int) > 2147483648))))], E5.row a0.fBuilder.fbuf], [], 2⟩) 0 16 16 [0, 1] [0, 1] ?_
 refine RefR.nl 16 ?_
 refine Ref.drawnY 1 (by kernel_rfl) (by kernel_rfl) ?_
 refine RefY.evC0 (st' := ⟨[sP 21 0 0 0, sI 22 a1], [.cells [.self 48 a0.fBuilder.faddr 0, .own 1 a0.fBuilder.fbuf.length, .val (.bool ((a0.fbad || (decide ((a1 : Int) < (-2147483648)))) || (decide ((a1 : Int) > 2147483648))))], E5.row a0.fBuilder.fbuf], [], 2⟩) (fuel' := 3) [0, 1, 2, 3] [21, 22] [0, 1] rfl (by kernel_rfl) (by kernel_rfl) ?_
 refine RefY.tail [4, 5, 6] rfl (by kernel_rfl) ?_
 refine RefR.callC (t := 23) 0 1 [] rfl (by kernel_rfl) (F29_ok K a1) (fun r1 => ?_)
 refine RefR.evC (vs := [room (([32] : Bytes).length + r1.length)]) (st' := ⟨[sP 21 0 0 0, sS 24 (([32] : Bytes) ++ r1)], [.cells [.self 48 a0.fBuilder.faddr 0, .own 1 a0.fBuilder.fbuf.length, .val (.bool ((a0.fbad || (decide ((a1 : Int) < (-2147483648)))) || (decide ((a1 : Int) > 2147483648))))], E5.row a0.fBuilder.fbuf], [], 2⟩) 1 1 2 [21, 24] [0, 1] rfl (by kernel_rfl) ?_
 refine RefR.callC (t := 25) 2 3 [0, 1] rfl (by kernel_rfl) (F13x48_ok K (⟨a0.fBuilder, ((a0.fbad || (decide ((a1 : Int) < (-2147483648)))) || (decide ((a1 : Int) > 2147483648)))⟩ : S48) (([32] : Bytes) ++ r1)) (fun r2 => ?_)
 refine RefR.nl 3 ?_
 refine Ref.conv (Conv.keep (st' := ⟨[], [.cells [.self 48 r2.2.2.fBuilder.faddr 0, .own 2 r2.2.2.fBuilder.fbuf.length, .val (.bool r2.2.2.fbad)], .dead, E5.row r2.2.2.fBuilder.fbuf], [], 2⟩) [] [0, 1, 2] (by kernel_rfl)) ?_
 exact Ref.n0 (t := (r2.2.2))

end Go.Proofs.YtmllhpnlceaneaaGreatDoor
