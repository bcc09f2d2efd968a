/- Plain functions, and that the Go functions do what these do: printed by gen2.py. No conditions. -/
import Derived.Test.YtnneapbegnmncaaGreatDoorLCe
import Derived.Test.YtnneapbegnmncaaGreatDoorProg
set_option linter.unusedVariables false
set_option linter.unusedSimpArgs false
set_option linter.unusedSectionVars false
namespace Go.Proofs.YtnneapbegnmncaaGreatDoor
open Go Go.Proofs Go.Dl

/-- governor/diag.New -/
def F13 (K : Nat) (a0 : Int) (a1 : Int) : Option ((Err) ⊕ (Err)) :=
  (some (.inl ((some (a0, a1)))))

theorem F13_ok (K : Nat) (a0 : Int) (a1 : Int) : DFun Tryz.prog 13 [.c (.val (.int .i64 a0)), .c (.val (.int .i64 a1))] [] (fnS (F13 K a0 a1)) (fun r => .c (errC r)) (fun r => []) := by
  refine DFun.intro (fn := Tryz.f13) (c := cd (bd Tryz.f13) []) (rs := fun r => ⟨[(4, .c (errC r))], [], [], 0⟩) (by kernel_rfl) (by kernel_rfl) (by kernel_rfl) ?_ (fun r => by kernel_rfl) (fun r => by kernel_rfl) (fun r => by kernel_rfl) (fun r => by kernel_rfl)
  unfold F13
  refine Ref.seqC (cd (bd Tryz.f13) [0]) (cd (bd Tryz.f13) [1]) (by kernel_rfl) ?_
  refine Ref.regionC 0 (by kernel_rfl) ?_
  refine RefR.ev0 (st' := ⟨[(0, .c (.val (.int .i64 a0))), (1, .c (.val (.int .i64 a1)))], [], [], 0⟩) 0 1 1 [0, 1] [] rfl (by kernel_rfl) ?_
  refine RefR.nilC 1 (by kernel_rfl) ?_
  refine Ref.seqC (cd (bd Tryz.f13) [1, 0]) (cd (bd Tryz.f13) [1, 1]) (by kernel_rfl) ?_
  refine Ref.regionC 1 (by kernel_rfl) ?_
  refine RefR.ev0 (st' := ⟨[(4, .c (.iface true 47 (.ptr 0 0 0)))], [.cells [.val (.int .i64 a0), .val (.int .i64 a1), .val .nilIface]], [], 0⟩) 0 6 6 [4] [0] rfl (by kernel_rfl) ?_
  refine RefR.nilC 6 (by kernel_rfl) ?_
  refine Ref.conv (Conv.freeze (st' := ⟨[(4, .c (errC (some (a0, a1))))], [.dead], [], 0⟩) 0 (by kernel_rfl)) ?_
  refine Ref.conv (Conv.keep (st' := ⟨[(4, .c (errC (some (a0, a1))))], [], [], 0⟩) [4] [] (by kernel_rfl)) ?_
  exact Ref.retC (t := ((some (a0, a1)))) (by kernel_rfl) (by kernel_rfl)

/-- (*governor/lex.lexer).peek -/
def F21 (K : Nat) (a0 : S42) (a1 : Int) : Option ((UInt8 × S42) ⊕ (UInt8 × S42)) :=
  (letV (decide (((IntKind.i64.wrap (a0.fat + a1)) : Int) ≥ (Int.ofNat a0.fsrc.length))) (fun (x1 : Bool) => (if x1 = true then (some (.inl ((b8 0), a0))) else (chk [inb (IntKind.i64.wrap (a0.fat + a1)) a0.fsrc.length] (letV (a0.fsrc.getD ((IntKind.i64.wrap (a0.fat + a1)) : Int).toNat 0) (fun (x2 : UInt8) => (some (.inl (x2, a0)))))))))

theorem F21_ok (K : Nat) (a0 : S42) (a1 : Int) : DFun Tryz.prog 21 [.c (.ptr 0 0 0), .c (.val (.int .i64 a1))] [.cells [.str a0.fsrc, .val (.int .i64 a0.fat), .own 1 a0.ftokens.length], E37.row a0.ftokens] (fnS (F21 K a0 a1)) (fun r => .c (.val (.int .u8 (Int.ofNat r.1.toNat)))) (fun r => [.cells [.str r.2.fsrc, .val (.int .i64 r.2.fat), .own 2 r.2.ftokens.length], .dead, E37.row r.2.ftokens]) := by
  refine DFun.intro (fn := Tryz.f21) (c := cd (bd Tryz.f21) []) (rs := fun r => ⟨[(4, .c (.val (.int .u8 (Int.ofNat r.1.toNat))))], [.cells [.str r.2.fsrc, .val (.int .i64 r.2.fat), .own 2 r.2.ftokens.length], .dead, E37.row r.2.ftokens], [], 2⟩) (by kernel_rfl) (by kernel_rfl) (by kernel_rfl) ?_ (fun r => by kernel_rfl) (fun r => by kernel_rfl) (fun r => by kernel_rfl) (fun r => by kernel_rfl)
  unfold F21
  refine Ref.seqC (cd (bd Tryz.f21) [0]) (cd (bd Tryz.f21) [1]) (by kernel_rfl) ?_
  refine Ref.regionC 0 (by kernel_rfl) ?_
  refine RefR.ev0 (st' := ⟨[(0, .c (.ptr 0 0 0)), (1, .c (.val (.int .i64 a1)))], [.cells [.str a0.fsrc, .val (.int .i64 a0.fat), .own 1 a0.ftokens.length], E37.row a0.ftokens], [], 2⟩) 0 1 1 [0, 1] [0, 1] rfl (by kernel_rfl) ?_
  refine RefR.nilC 1 (by kernel_rfl) ?_
  refine Ref.seqC (cd (bd Tryz.f21) [1, 0]) (cd (bd Tryz.f21) [1, 1]) (by kernel_rfl) ?_
  refine Ref.seqC (cd (bd Tryz.f21) [1, 0, 0]) (cd (bd Tryz.f21) [1, 0, 1]) (by kernel_rfl) ?_
  refine Ref.drawnY 1 (by kernel_rfl) (by kernel_rfl) ?_
  refine RefY.evC0 (st' := ⟨[(0, .c (.ptr 0 0 0)), (1, .c (.val (.int .i64 a1))), (7, .c (.ptr 0 0 1)), (9, .c (.val (.int .i64 a1))), (13, .c (.ptr 0 0 0))], [.cells [.str a0.fsrc, .val (.int .i64 a0.fat), .own 1 a0.ftokens.length], E37.row a0.ftokens], [], 2⟩) (fuel' := 5) [0, 1, 2, 4, 6, 7, 8] [0, 1, 7, 9, 13] [0, 1] rfl (by kernel_rfl) (by kernel_rfl) ?_
  refine RefY.toX [] ?_
  refine RefX.evC0 (st' := ⟨[(0, .c (.ptr 0 0 0)), (1, .c (.val (.int .i64 a1))), (16, .c (.val (.bool (decide (((IntKind.i64.wrap (a0.fat + a1)) : Int) ≥ (Int.ofNat a0.fsrc.length))))))], [.cells [.str a0.fsrc, .val (.int .i64 a0.fat), .own 1 a0.ftokens.length], E37.row a0.ftokens], [], 2⟩) (fuel' := 0) [3, 5, 9, 10, 11] [0, 1, 16] [0, 1] rfl (by kernel_rfl) (by kernel_rfl) ?_
  refine RefX.letC (stf := fun x1 => ⟨[(0, .c (.ptr 0 0 0)), (1, .c (.val (.int .i64 a1))), (16, .c (.val (.bool x1)))], [.cells [.str a0.fsrc, .val (.int .i64 a0.fat), .own 1 a0.ftokens.length], E37.row a0.ftokens], [], 2⟩) (by kernel_rfl) (fun x1 => ?_)
  refine RefX.done (by kernel_rfl) ?_
  refine Ref.condC (.tmp 16) x1 (by kernel_rfl) rfl (by kernel_rfl) (fun hc => ?_) (fun hc => ?_)
  ·
    refine Ref.seqC (cd (bd Tryz.f21) [1, 0, 1, 0, 0]) (cd (bd Tryz.f21) [1, 0, 1, 0, 1]) (by kernel_rfl) ?_
    refine Ref.regionC 2 (by kernel_rfl) ?_
    refine RefR.ev0 (st' := ⟨[(4, .c (.val (.int .u8 0)))], [.cells [.str a0.fsrc, .val (.int .i64 a0.fat), .own 1 a0.ftokens.length], E37.row a0.ftokens], [], 2⟩) 0 1 1 [4] [0, 1] rfl (by kernel_rfl) ?_
    refine RefR.nilC 1 (by kernel_rfl) ?_
    refine Ref.conv (Conv.move (st' := ⟨[(4, .c (.val (.int .u8 0)))], [.cells [.str a0.fsrc, .val (.int .i64 a0.fat), .own 2 a0.ftokens.length], .dead, E37.row a0.ftokens], [], 2⟩) 1 (by kernel_rfl) (by kernel_rfl)) ?_
    exact Ref.retC (t := ((b8 0), a0)) (by kernel_rfl) (by kernel_rfl)
  ·
    refine Ref.skipC (by kernel_rfl) ?_
    refine Ref.seqC (cd (bd Tryz.f21) [1, 1, 0]) (cd (bd Tryz.f21) [1, 1, 1]) (by kernel_rfl) ?_
    refine Ref.drawnY 3 (by kernel_rfl) (by kernel_rfl) ?_
    refine RefY.evC0 (st' := ⟨[(19, .c (.ptr 0 0 0)), (23, .c (.ptr 0 0 1)), (25, .c (.val (.int .i64 a1)))], [.cells [.str a0.fsrc, .val (.int .i64 a0.fat), .own 1 a0.ftokens.length], E37.row a0.ftokens], [], 2⟩) (fuel' := 5) [0, 1, 2, 4, 5, 6, 8] [19, 23, 25] [0, 1] rfl (by kernel_rfl) (by kernel_rfl) ?_
    refine RefY.toX [] ?_
    refine RefX.evC (vs := [inb (IntKind.i64.wrap (a0.fat + a1)) a0.fsrc.length]) (st' := ⟨[(4, .c (.val (.int .u8 (Int.ofNat (a0.fsrc.getD ((IntKind.i64.wrap (a0.fat + a1)) : Int).toNat 0).toNat))))], [.cells [.str a0.fsrc, .val (.int .i64 a0.fat), .own 1 a0.ftokens.length], E37.row a0.ftokens], [], 2⟩) (fuel' := 0) [3, 7, 9, 10, 11] [4] [0, 1] rfl (by kernel_rfl) (by kernel_rfl) ?_
    refine RefX.letC (stf := fun x2 => ⟨[(4, .c (.val (.int .u8 (Int.ofNat x2.toNat))))], [.cells [.str a0.fsrc, .val (.int .i64 a0.fat), .own 1 a0.ftokens.length], E37.row a0.ftokens], [], 2⟩) (by kernel_rfl) (fun x2 => ?_)
    refine RefX.done (by kernel_rfl) ?_
    refine Ref.conv (Conv.move (st' := ⟨[(4, .c (.val (.int .u8 (Int.ofNat x2.toNat))))], [.cells [.str a0.fsrc, .val (.int .i64 a0.fat), .own 2 a0.ftokens.length], .dead, E37.row a0.ftokens], [], 2⟩) 1 (by kernel_rfl) (by kernel_rfl)) ?_
    exact Ref.retC (t := (x2, a0)) (by kernel_rfl) (by kernel_rfl)

/-- governor/lex.letter -/
def F24 (K : Nat) (a0 : UInt8) : Option ((Bool) ⊕ (Bool)) :=
  (letV (((decide (((Int.ofNat a0.toNat) : Int) ≥ 97)) && (decide (((Int.ofNat a0.toNat) : Int) ≤ 122))) || ((decide (((Int.ofNat a0.toNat) : Int) ≥ 65)) && (decide (((Int.ofNat a0.toNat) : Int) ≤ 90)))) (fun (x1 : Bool) => (some (.inl (x1)))))

theorem F24_ok (K : Nat) (a0 : UInt8) : DFun Tryz.prog 24 [.c (.val (.int .u8 (Int.ofNat a0.toNat)))] [] (fnS (F24 K a0)) (fun r => .c (.val (.bool r))) (fun r => []) := by
  refine DFun.intro (fn := Tryz.f24) (c := cd (bd Tryz.f24) []) (rs := fun r => ⟨[(2, .c (.val (.bool r)))], [], [], 0⟩) (by kernel_rfl) (by kernel_rfl) (by kernel_rfl) ?_ (fun r => by kernel_rfl) (fun r => by kernel_rfl) (fun r => by kernel_rfl) (fun r => by kernel_rfl)
  unfold F24
  refine Ref.seqC (cd (bd Tryz.f24) [0]) (cd (bd Tryz.f24) [1]) (by kernel_rfl) ?_
  refine Ref.regionC 0 (by kernel_rfl) ?_
  refine RefR.ev0 (st' := ⟨[(0, .c (.val (.int .u8 (Int.ofNat a0.toNat))))], [], [], 0⟩) 0 1 1 [0] [] rfl (by kernel_rfl) ?_
  refine RefR.nilC 1 (by kernel_rfl) ?_
  refine Ref.seqC (cd (bd Tryz.f24) [1, 0]) (cd (bd Tryz.f24) [1, 1]) (by kernel_rfl) ?_
  refine Ref.regionC 1 (by kernel_rfl) ?_
  refine RefR.ev0 (st' := ⟨[(2, .c (.val (.bool (((decide (((Int.ofNat a0.toNat) : Int) ≥ 97)) && (decide (((Int.ofNat a0.toNat) : Int) ≤ 122))) || ((decide (((Int.ofNat a0.toNat) : Int) ≥ 65)) && (decide (((Int.ofNat a0.toNat) : Int) ≤ 90)))))))], [], [], 0⟩) 0 15 15 [2] [] rfl (by kernel_rfl) ?_
  refine RefR.letC (stf := fun x1 => ⟨[(2, .c (.val (.bool x1)))], [], [], 0⟩) (by kernel_rfl) (fun x1 => ?_)
  refine RefR.nilC 15 (by kernel_rfl) ?_
  exact Ref.retC (t := (x1)) (by kernel_rfl) (by kernel_rfl)

/-- governor/lex.digit -/
def F26 (K : Nat) (a0 : UInt8) : Option ((Bool) ⊕ (Bool)) :=
  (letV ((decide (((Int.ofNat a0.toNat) : Int) ≥ 48)) && (decide (((Int.ofNat a0.toNat) : Int) ≤ 57))) (fun (x1 : Bool) => (some (.inl (x1)))))

theorem F26_ok (K : Nat) (a0 : UInt8) : DFun Tryz.prog 26 [.c (.val (.int .u8 (Int.ofNat a0.toNat)))] [] (fnS (F26 K a0)) (fun r => .c (.val (.bool r))) (fun r => []) := by
  refine DFun.intro (fn := Tryz.f26) (c := cd (bd Tryz.f26) []) (rs := fun r => ⟨[(2, .c (.val (.bool r)))], [], [], 0⟩) (by kernel_rfl) (by kernel_rfl) (by kernel_rfl) ?_ (fun r => by kernel_rfl) (fun r => by kernel_rfl) (fun r => by kernel_rfl) (fun r => by kernel_rfl)
  unfold F26
  refine Ref.seqC (cd (bd Tryz.f26) [0]) (cd (bd Tryz.f26) [1]) (by kernel_rfl) ?_
  refine Ref.regionC 0 (by kernel_rfl) ?_
  refine RefR.ev0 (st' := ⟨[(0, .c (.val (.int .u8 (Int.ofNat a0.toNat))))], [], [], 0⟩) 0 1 1 [0] [] rfl (by kernel_rfl) ?_
  refine RefR.nilC 1 (by kernel_rfl) ?_
  refine Ref.seqC (cd (bd Tryz.f26) [1, 0]) (cd (bd Tryz.f26) [1, 1]) (by kernel_rfl) ?_
  refine Ref.regionC 1 (by kernel_rfl) ?_
  refine RefR.ev0 (st' := ⟨[(2, .c (.val (.bool ((decide (((Int.ofNat a0.toNat) : Int) ≥ 48)) && (decide (((Int.ofNat a0.toNat) : Int) ≤ 57))))))], [], [], 0⟩) 0 7 7 [2] [] rfl (by kernel_rfl) ?_
  refine RefR.letC (stf := fun x1 => ⟨[(2, .c (.val (.bool x1)))], [], [], 0⟩) (by kernel_rfl) (fun x1 => ?_)
  refine RefR.nilC 7 (by kernel_rfl) ?_
  exact Ref.retC (t := (x1)) (by kernel_rfl) (by kernel_rfl)

/-- governor/lex.inner -/
def F40 (K : Nat) (a0 : UInt8) : Option ((Bool) ⊕ (Bool)) :=
  ((fnS (F24 K a0)).bind (fun r1 => ((condM (!r1) (fnS (F26 K a0)) default).bind (fun r2 => (letV ((r1 || r2) || (((Int.ofNat a0.toNat) : Int) == 95)) (fun (x3 : Bool) => (some (.inl (x3)))))))))

theorem F40_ok (K : Nat) (a0 : UInt8) : DFun Tryz.prog 40 [.c (.val (.int .u8 (Int.ofNat a0.toNat)))] [] (fnS (F40 K a0)) (fun r => .c (.val (.bool r))) (fun r => []) := by
  refine DFun.intro (fn := Tryz.f40) (c := cd (bd Tryz.f40) []) (rs := fun r => ⟨[(2, .c (.val (.bool r)))], [], [], 0⟩) (by kernel_rfl) (by kernel_rfl) (by kernel_rfl) ?_ (fun r => by kernel_rfl) (fun r => by kernel_rfl) (fun r => by kernel_rfl) (fun r => by kernel_rfl)
  unfold F40
  refine Ref.seqC (cd (bd Tryz.f40) [0]) (cd (bd Tryz.f40) [1]) (by kernel_rfl) ?_
  refine Ref.regionC 0 (by kernel_rfl) ?_
  refine RefR.ev0 (st' := ⟨[(0, .c (.val (.int .u8 (Int.ofNat a0.toNat))))], [], [], 0⟩) 0 1 1 [0] [] rfl (by kernel_rfl) ?_
  refine RefR.nilC 1 (by kernel_rfl) ?_
  refine Ref.seqC (cd (bd Tryz.f40) [1, 0]) (cd (bd Tryz.f40) [1, 1]) (by kernel_rfl) ?_
  refine Ref.regionC 1 (by kernel_rfl) ?_
  refine RefR.ev0 (st' := ⟨[(0, .c (.val (.int .u8 (Int.ofNat a0.toNat)))), (3, .c (.val (.int .u8 (Int.ofNat a0.toNat))))], [], [], 0⟩) 0 1 1 [0, 3] [] rfl (by kernel_rfl) ?_
  refine RefR.callC (t := 4) 1 2 [] rfl (by kernel_rfl) (F24_ok K a0) (fun r1 => ?_)
  refine RefR.ev0 (st' := ⟨[(0, .c (.val (.int .u8 (Int.ofNat a0.toNat)))), (5, .c (.val (.bool r1))), (6, .c (.val (.int .u8 (Int.ofNat a0.toNat))))], [], [(6, [(5, false)])], 0⟩) 2 2 4 [0, 5, 6] [] rfl (by kernel_rfl) ?_
  refine RefR.lookC (t := 7) (g := [(5, false)]) (b := (!r1)) 4 5 [] (default : Bool) rfl (by kernel_rfl) (F26_ok K a0) (fun _ => rfl) (fun r2 => ?_)
  refine RefR.ev0 (st' := ⟨[(2, .c (.val (.bool ((r1 || r2) || (((Int.ofNat a0.toNat) : Int) == 95)))))], [], [], 0⟩) 5 6 11 [2] [] rfl (by kernel_rfl) ?_
  refine RefR.letC (stf := fun x3 => ⟨[(2, .c (.val (.bool x3)))], [], [], 0⟩) (by kernel_rfl) (fun x3 => ?_)
  refine RefR.nilC 11 (by kernel_rfl) ?_
  exact Ref.retC (t := (x3)) (by kernel_rfl) (by kernel_rfl)

/-- (*governor/lex.lexer).run -/
def F39f40 (K : Nat) (a0 : S42) : Option ((Bytes × S42) ⊕ (Bytes × S42)) :=
  (bindS (blockS ((iter K (fun (u18 : Bytes × Int × (List S37) × Int) => ((fnS (F21 K (⟨u18.1, u18.2.1, u18.2.2.1⟩ : S42) u18.2.2.2)).bind (fun r23 => ((fnS (F40 K r23.1)).bind (fun r24 => (if r24 = true then (bindS (blockS (some (.inr ((IntKind.i64.wrap (u18.2.2.2 + 1)))))) (fun (u25 : Int) => (some (.inr (r23.2.fsrc, r23.2.fat, r23.2.ftokens, u25))))) else (some (.inl (Sum.inl (r23.2.fsrc, r23.2.fat, r23.2.ftokens, u18.2.2.2)))))))))) (a0.fsrc, a0.fat, a0.ftokens, 0)).map .inl)) (fun (u13 : Bytes × Int × (List S37) × Int) => (chk [bndOk u13.1.length u13.2.1 (IntKind.i64.wrap (u13.2.1 + u13.2.2.2))] (letV ((u13.1.drop (u13.2.1 : Int).toNat).take (((IntKind.i64.wrap (u13.2.1 + u13.2.2.2)) : Int).toNat - (u13.2.1 : Int).toNat)) (fun (x26 : Bytes) => (some (.inl (x26, (⟨u13.1, u13.2.1, u13.2.2.1⟩ : S42)))))))))

theorem F39f40_ok (K : Nat) (a0 : S42) : DFun Tryz.prog 39 [.c (.ptr 0 0 0), .c (.func (.func 40) 0 (fun _ => .bot))] [.cells [.str a0.fsrc, .val (.int .i64 a0.fat), .own 1 a0.ftokens.length], E37.row a0.ftokens] (fnS (F39f40 K a0)) (fun r => .c (.str r.1)) (fun r => [.cells [.str r.2.fsrc, .val (.int .i64 r.2.fat), .own 2 r.2.ftokens.length], .dead, E37.row r.2.ftokens]) := by
  refine DFun.intro (fn := Tryz.f39) (c := cd (bd Tryz.f39) []) (rs := fun r => ⟨[(4, .c (.str r.1))], [.cells [.str r.2.fsrc, .val (.int .i64 r.2.fat), .own 2 r.2.ftokens.length], .dead, E37.row r.2.ftokens], [], 2⟩) (by kernel_rfl) (by kernel_rfl) (by kernel_rfl) ?_ (fun r => by kernel_rfl) (fun r => by kernel_rfl) (fun r => by kernel_rfl) (fun r => by kernel_rfl)
  unfold F39f40
  refine Ref.seqC (cd (bd Tryz.f39) [0]) (cd (bd Tryz.f39) [1]) (by kernel_rfl) ?_
  refine Ref.regionC 0 (by kernel_rfl) ?_
  refine RefR.ev0 (st' := ⟨[(0, .c (.ptr 0 0 0)), (1, .c (.func (.func 40) 0 (fun _ => .bot)))], [.cells [.str a0.fsrc, .val (.int .i64 a0.fat), .own 1 a0.ftokens.length], E37.row a0.ftokens], [], 2⟩) 0 1 1 [0, 1] [0, 1] rfl (by kernel_rfl) ?_
  refine RefR.nilC 1 (by kernel_rfl) ?_
  refine Ref.seqC (cd (bd Tryz.f39) [1, 0]) (cd (bd Tryz.f39) [1, 1]) (by kernel_rfl) ?_
  refine Ref.regionC 1 (by kernel_rfl) ?_
  refine RefR.ev0 (st' := ⟨[(0, .c (.ptr 0 0 0)), (1, .c (.func (.func 40) 0 (fun _ => .bot))), (5, .c (.val (.int .i64 0)))], [.cells [.str a0.fsrc, .val (.int .i64 a0.fat), .own 1 a0.ftokens.length], E37.row a0.ftokens], [], 2⟩) 0 1 1 [0, 1, 5] [0, 1] rfl (by kernel_rfl) ?_
  refine RefR.nilC 1 (by kernel_rfl) ?_
  refine Ref.seqC (cd (bd Tryz.f39) [1, 1, 0]) (cd (bd Tryz.f39) [1, 1, 1]) (by kernel_rfl) ?_
  refine Ref.codeEq (c' := .block 0 (cd (bd Tryz.f39) [1, 1, 0, 0])) (by kernel_rfl) ?_
  refine Ref.block (go1 := fun u13 => ⟨[(0, .c (.ptr 0 0 0)), (5, .c (.val (.int .i64 u13.2.2.2)))], [.cells [.str u13.1, .val (.int .i64 u13.2.1), .own 2 u13.2.2.1.length], .dead, E37.row u13.2.2.1], [], 2⟩) ?_ (fun _ h => by cases h) (fun u13 => ?_)
  ·
    refine Ref.codeEq (c' := .loop (cd (bd Tryz.f39) [1, 1, 0, 0, 0])) (by kernel_rfl) ?_
    refine Ref.conv (Conv.move (st' := ⟨[(0, .c (.ptr 0 0 0)), (1, .c (.func (.func 40) 0 (fun _ => .bot))), (5, .c (.val (.int .i64 0)))], [.cells [.str a0.fsrc, .val (.int .i64 a0.fat), .own 2 a0.ftokens.length], .dead, E37.row a0.ftokens], [], 2⟩) 1 (by kernel_rfl) (by kernel_rfl)) ?_
    refine Ref.loop (hd := fun u18 => ⟨[(0, .c (.ptr 0 0 0)), (1, .c (.func (.func 40) 0 (fun _ => .bot))), (5, .c (.val (.int .i64 u18.2.2.2)))], [.cells [.str u18.1, .val (.int .i64 u18.2.1), .own 2 u18.2.2.1.length], .dead, E37.row u18.2.2.1], [], 2⟩) K (a0.fsrc, a0.fat, a0.ftokens, 0) (by kernel_rfl) (fun u18 => ?_)
    refine Ref.seqC (cd (bd Tryz.f39) [1, 1, 0, 0, 0, 0]) (cd (bd Tryz.f39) [1, 1, 0, 0, 0, 1]) (by kernel_rfl) ?_
    refine Ref.seqC (cd (bd Tryz.f39) [1, 1, 0, 0, 0, 0, 0]) (cd (bd Tryz.f39) [1, 1, 0, 0, 0, 0, 1]) (by kernel_rfl) ?_
    refine Ref.regionC 2 (by kernel_rfl) ?_
    refine RefR.ev0 (st' := ⟨[(0, .c (.ptr 0 0 0)), (1, .c (.func (.func 40) 0 (fun _ => .bot))), (5, .c (.val (.int .i64 u18.2.2.2))), (6, .c (.func (.func 40) 0 (fun _ => .bot))), (7, .c (.ptr 0 0 0)), (8, .c (.val (.int .i64 u18.2.2.2)))], [.cells [.str u18.1, .val (.int .i64 u18.2.1), .own 2 u18.2.2.1.length], .dead, E37.row u18.2.2.1], [], 2⟩) 0 3 3 [0, 1, 5, 6, 7, 8] [0, 1, 2] rfl (by kernel_rfl) ?_
    refine RefR.callC (t := 9) 3 4 [0, 2] rfl (by kernel_rfl) (F21_ok K (⟨u18.1, u18.2.1, u18.2.2.1⟩ : S42) u18.2.2.2) (fun r23 => ?_)
    refine RefR.callC (t := 10) 4 5 [] rfl (by kernel_rfl) (F40_ok K r23.1) (fun r24 => ?_)
    refine RefR.nilC 5 (by kernel_rfl) ?_
    refine Ref.condC (.tmp 10) r24 (by kernel_rfl) rfl (by kernel_rfl) (fun hc => ?_) (fun hc => ?_)
    ·
      refine Ref.skipC (by kernel_rfl) ?_
      refine Ref.codeEq (c' := .block 1 (cd (bd Tryz.f39) [1, 1, 0, 0, 0, 1, 0])) (by kernel_rfl) ?_
      refine Ref.block (go1 := fun u25 => ⟨[(0, .c (.ptr 0 0 0)), (1, .c (.func (.func 40) 0 (fun _ => .bot))), (5, .c (.val (.int .i64 u25)))], [.cells [.str r23.2.fsrc, .val (.int .i64 r23.2.fat), .own 2 r23.2.ftokens.length], .dead, E37.row r23.2.ftokens], [], 2⟩) ?_ (fun a => match a with | .inl _ => (fun h => by cases h) | .inr _ => (fun h => by cases h)) (fun u25 => ?_)
      ·
        refine Ref.regionC 3 (by kernel_rfl) ?_
        refine RefR.ev0 (st' := ⟨[(0, .c (.ptr 0 0 0)), (1, .c (.func (.func 40) 0 (fun _ => .bot))), (5, .c (.val (.int .i64 (IntKind.i64.wrap (u18.2.2.2 + 1)))))], [.cells [.str r23.2.fsrc, .val (.int .i64 r23.2.fat), .own 2 r23.2.ftokens.length], .dead, E37.row r23.2.ftokens], [], 2⟩) 0 3 3 [0, 1, 5] [0, 1, 3] rfl (by kernel_rfl) ?_
        refine RefR.nilC 3 (by kernel_rfl) ?_
        exact Ref.nil (t := ((IntKind.i64.wrap (u18.2.2.2 + 1)))) (by kernel_rfl)
      ·
        exact Ref.nil (t := (r23.2.fsrc, r23.2.fat, r23.2.ftokens, u25)) (by kernel_rfl)
    ·
      refine Ref.conv (Conv.keep (st' := ⟨[(0, .c (.ptr 0 0 0)), (5, .c (.val (.int .i64 u18.2.2.2)))], [.cells [.str r23.2.fsrc, .val (.int .i64 r23.2.fat), .own 2 r23.2.ftokens.length], .dead, E37.row r23.2.ftokens], [], 2⟩) [0, 5] [0, 1, 3] (by kernel_rfl)) ?_
      exact Ref.exitC 0 (t := (Sum.inl (r23.2.fsrc, r23.2.fat, r23.2.ftokens, u18.2.2.2))) (by kernel_rfl) (by kernel_rfl)
  ·
    refine Ref.seqC (cd (bd Tryz.f39) [1, 1, 1, 0]) (cd (bd Tryz.f39) [1, 1, 1, 1]) (by kernel_rfl) ?_
    refine Ref.drawnY 4 (by kernel_rfl) (by kernel_rfl) ?_
    refine RefY.evC0 (st' := ⟨[(15, .c (.ptr 0 0 0)), (19, .c (.ptr 0 0 1)), (23, .c (.ptr 0 0 1)), (25, .c (.val (.int .i64 u13.2.2.2)))], [.cells [.str u13.1, .val (.int .i64 u13.2.1), .own 2 u13.2.2.1.length], .dead, E37.row u13.2.2.1], [], 2⟩) (fuel' := 6) [0, 1, 2, 4, 5, 6, 8, 9, 10, 12] [15, 19, 23, 25] [0, 1, 2] rfl (by kernel_rfl) (by kernel_rfl) ?_
    refine RefY.toX [] ?_
    refine RefX.evC (vs := [bndOk u13.1.length u13.2.1 (IntKind.i64.wrap (u13.2.1 + u13.2.2.2))]) (st' := ⟨[(4, .c (.str ((u13.1.drop (u13.2.1 : Int).toNat).take (((IntKind.i64.wrap (u13.2.1 + u13.2.2.2)) : Int).toNat - (u13.2.1 : Int).toNat))))], [.cells [.str u13.1, .val (.int .i64 u13.2.1), .own 2 u13.2.2.1.length], .dead, E37.row u13.2.2.1], [], 2⟩) (fuel' := 0) [3, 7, 11, 13, 14, 15] [4] [0, 1, 2] rfl (by kernel_rfl) (by kernel_rfl) ?_
    refine RefX.letC (stf := fun x26 => ⟨[(4, .c (.str x26))], [.cells [.str u13.1, .val (.int .i64 u13.2.1), .own 2 u13.2.2.1.length], .dead, E37.row u13.2.2.1], [], 2⟩) (by kernel_rfl) (fun x26 => ?_)
    refine RefX.done (by kernel_rfl) ?_
    exact Ref.retC (t := (x26, (⟨u13.1, u13.2.1, u13.2.2.1⟩ : S42))) (by kernel_rfl) (by kernel_rfl)

/-- (*governor/lex.lexer).run -/
def F39f26 (K : Nat) (a0 : S42) : Option ((Bytes × S42) ⊕ (Bytes × S42)) :=
  (bindS (blockS ((iter K (fun (u18 : Bytes × Int × (List S37) × Int) => ((fnS (F21 K (⟨u18.1, u18.2.1, u18.2.2.1⟩ : S42) u18.2.2.2)).bind (fun r23 => ((fnS (F26 K r23.1)).bind (fun r24 => (if r24 = true then (bindS (blockS (some (.inr ((IntKind.i64.wrap (u18.2.2.2 + 1)))))) (fun (u25 : Int) => (some (.inr (r23.2.fsrc, r23.2.fat, r23.2.ftokens, u25))))) else (some (.inl (Sum.inl (r23.2.fsrc, r23.2.fat, r23.2.ftokens, u18.2.2.2)))))))))) (a0.fsrc, a0.fat, a0.ftokens, 0)).map .inl)) (fun (u13 : Bytes × Int × (List S37) × Int) => (chk [bndOk u13.1.length u13.2.1 (IntKind.i64.wrap (u13.2.1 + u13.2.2.2))] (letV ((u13.1.drop (u13.2.1 : Int).toNat).take (((IntKind.i64.wrap (u13.2.1 + u13.2.2.2)) : Int).toNat - (u13.2.1 : Int).toNat)) (fun (x26 : Bytes) => (some (.inl (x26, (⟨u13.1, u13.2.1, u13.2.2.1⟩ : S42)))))))))

theorem F39f26_ok (K : Nat) (a0 : S42) : DFun Tryz.prog 39 [.c (.ptr 0 0 0), .c (.func (.func 26) 0 (fun _ => .bot))] [.cells [.str a0.fsrc, .val (.int .i64 a0.fat), .own 1 a0.ftokens.length], E37.row a0.ftokens] (fnS (F39f26 K a0)) (fun r => .c (.str r.1)) (fun r => [.cells [.str r.2.fsrc, .val (.int .i64 r.2.fat), .own 2 r.2.ftokens.length], .dead, E37.row r.2.ftokens]) := by
  refine DFun.intro (fn := Tryz.f39) (c := cd (bd Tryz.f39) []) (rs := fun r => ⟨[(4, .c (.str r.1))], [.cells [.str r.2.fsrc, .val (.int .i64 r.2.fat), .own 2 r.2.ftokens.length], .dead, E37.row r.2.ftokens], [], 2⟩) (by kernel_rfl) (by kernel_rfl) (by kernel_rfl) ?_ (fun r => by kernel_rfl) (fun r => by kernel_rfl) (fun r => by kernel_rfl) (fun r => by kernel_rfl)
  unfold F39f26
  refine Ref.seqC (cd (bd Tryz.f39) [0]) (cd (bd Tryz.f39) [1]) (by kernel_rfl) ?_
  refine Ref.regionC 0 (by kernel_rfl) ?_
  refine RefR.ev0 (st' := ⟨[(0, .c (.ptr 0 0 0)), (1, .c (.func (.func 26) 0 (fun _ => .bot)))], [.cells [.str a0.fsrc, .val (.int .i64 a0.fat), .own 1 a0.ftokens.length], E37.row a0.ftokens], [], 2⟩) 0 1 1 [0, 1] [0, 1] rfl (by kernel_rfl) ?_
  refine RefR.nilC 1 (by kernel_rfl) ?_
  refine Ref.seqC (cd (bd Tryz.f39) [1, 0]) (cd (bd Tryz.f39) [1, 1]) (by kernel_rfl) ?_
  refine Ref.regionC 1 (by kernel_rfl) ?_
  refine RefR.ev0 (st' := ⟨[(0, .c (.ptr 0 0 0)), (1, .c (.func (.func 26) 0 (fun _ => .bot))), (5, .c (.val (.int .i64 0)))], [.cells [.str a0.fsrc, .val (.int .i64 a0.fat), .own 1 a0.ftokens.length], E37.row a0.ftokens], [], 2⟩) 0 1 1 [0, 1, 5] [0, 1] rfl (by kernel_rfl) ?_
  refine RefR.nilC 1 (by kernel_rfl) ?_
  refine Ref.seqC (cd (bd Tryz.f39) [1, 1, 0]) (cd (bd Tryz.f39) [1, 1, 1]) (by kernel_rfl) ?_
  refine Ref.codeEq (c' := .block 0 (cd (bd Tryz.f39) [1, 1, 0, 0])) (by kernel_rfl) ?_
  refine Ref.block (go1 := fun u13 => ⟨[(0, .c (.ptr 0 0 0)), (5, .c (.val (.int .i64 u13.2.2.2)))], [.cells [.str u13.1, .val (.int .i64 u13.2.1), .own 2 u13.2.2.1.length], .dead, E37.row u13.2.2.1], [], 2⟩) ?_ (fun _ h => by cases h) (fun u13 => ?_)
  ·
    refine Ref.codeEq (c' := .loop (cd (bd Tryz.f39) [1, 1, 0, 0, 0])) (by kernel_rfl) ?_
    refine Ref.conv (Conv.move (st' := ⟨[(0, .c (.ptr 0 0 0)), (1, .c (.func (.func 26) 0 (fun _ => .bot))), (5, .c (.val (.int .i64 0)))], [.cells [.str a0.fsrc, .val (.int .i64 a0.fat), .own 2 a0.ftokens.length], .dead, E37.row a0.ftokens], [], 2⟩) 1 (by kernel_rfl) (by kernel_rfl)) ?_
    refine Ref.loop (hd := fun u18 => ⟨[(0, .c (.ptr 0 0 0)), (1, .c (.func (.func 26) 0 (fun _ => .bot))), (5, .c (.val (.int .i64 u18.2.2.2)))], [.cells [.str u18.1, .val (.int .i64 u18.2.1), .own 2 u18.2.2.1.length], .dead, E37.row u18.2.2.1], [], 2⟩) K (a0.fsrc, a0.fat, a0.ftokens, 0) (by kernel_rfl) (fun u18 => ?_)
    refine Ref.seqC (cd (bd Tryz.f39) [1, 1, 0, 0, 0, 0]) (cd (bd Tryz.f39) [1, 1, 0, 0, 0, 1]) (by kernel_rfl) ?_
    refine Ref.seqC (cd (bd Tryz.f39) [1, 1, 0, 0, 0, 0, 0]) (cd (bd Tryz.f39) [1, 1, 0, 0, 0, 0, 1]) (by kernel_rfl) ?_
    refine Ref.regionC 2 (by kernel_rfl) ?_
    refine RefR.ev0 (st' := ⟨[(0, .c (.ptr 0 0 0)), (1, .c (.func (.func 26) 0 (fun _ => .bot))), (5, .c (.val (.int .i64 u18.2.2.2))), (6, .c (.func (.func 26) 0 (fun _ => .bot))), (7, .c (.ptr 0 0 0)), (8, .c (.val (.int .i64 u18.2.2.2)))], [.cells [.str u18.1, .val (.int .i64 u18.2.1), .own 2 u18.2.2.1.length], .dead, E37.row u18.2.2.1], [], 2⟩) 0 3 3 [0, 1, 5, 6, 7, 8] [0, 1, 2] rfl (by kernel_rfl) ?_
    refine RefR.callC (t := 9) 3 4 [0, 2] rfl (by kernel_rfl) (F21_ok K (⟨u18.1, u18.2.1, u18.2.2.1⟩ : S42) u18.2.2.2) (fun r23 => ?_)
    refine RefR.callC (t := 10) 4 5 [] rfl (by kernel_rfl) (F26_ok K r23.1) (fun r24 => ?_)
    refine RefR.nilC 5 (by kernel_rfl) ?_
    refine Ref.condC (.tmp 10) r24 (by kernel_rfl) rfl (by kernel_rfl) (fun hc => ?_) (fun hc => ?_)
    ·
      refine Ref.skipC (by kernel_rfl) ?_
      refine Ref.codeEq (c' := .block 1 (cd (bd Tryz.f39) [1, 1, 0, 0, 0, 1, 0])) (by kernel_rfl) ?_
      refine Ref.block (go1 := fun u25 => ⟨[(0, .c (.ptr 0 0 0)), (1, .c (.func (.func 26) 0 (fun _ => .bot))), (5, .c (.val (.int .i64 u25)))], [.cells [.str r23.2.fsrc, .val (.int .i64 r23.2.fat), .own 2 r23.2.ftokens.length], .dead, E37.row r23.2.ftokens], [], 2⟩) ?_ (fun a => match a with | .inl _ => (fun h => by cases h) | .inr _ => (fun h => by cases h)) (fun u25 => ?_)
      ·
        refine Ref.regionC 3 (by kernel_rfl) ?_
        refine RefR.ev0 (st' := ⟨[(0, .c (.ptr 0 0 0)), (1, .c (.func (.func 26) 0 (fun _ => .bot))), (5, .c (.val (.int .i64 (IntKind.i64.wrap (u18.2.2.2 + 1)))))], [.cells [.str r23.2.fsrc, .val (.int .i64 r23.2.fat), .own 2 r23.2.ftokens.length], .dead, E37.row r23.2.ftokens], [], 2⟩) 0 3 3 [0, 1, 5] [0, 1, 3] rfl (by kernel_rfl) ?_
        refine RefR.nilC 3 (by kernel_rfl) ?_
        exact Ref.nil (t := ((IntKind.i64.wrap (u18.2.2.2 + 1)))) (by kernel_rfl)
      ·
        exact Ref.nil (t := (r23.2.fsrc, r23.2.fat, r23.2.ftokens, u25)) (by kernel_rfl)
    ·
      refine Ref.conv (Conv.keep (st' := ⟨[(0, .c (.ptr 0 0 0)), (5, .c (.val (.int .i64 u18.2.2.2)))], [.cells [.str r23.2.fsrc, .val (.int .i64 r23.2.fat), .own 2 r23.2.ftokens.length], .dead, E37.row r23.2.ftokens], [], 2⟩) [0, 5] [0, 1, 3] (by kernel_rfl)) ?_
      exact Ref.exitC 0 (t := (Sum.inl (r23.2.fsrc, r23.2.fat, r23.2.ftokens, u18.2.2.2))) (by kernel_rfl) (by kernel_rfl)
  ·
    refine Ref.seqC (cd (bd Tryz.f39) [1, 1, 1, 0]) (cd (bd Tryz.f39) [1, 1, 1, 1]) (by kernel_rfl) ?_
    refine Ref.drawnY 4 (by kernel_rfl) (by kernel_rfl) ?_
    refine RefY.evC0 (st' := ⟨[(15, .c (.ptr 0 0 0)), (19, .c (.ptr 0 0 1)), (23, .c (.ptr 0 0 1)), (25, .c (.val (.int .i64 u13.2.2.2)))], [.cells [.str u13.1, .val (.int .i64 u13.2.1), .own 2 u13.2.2.1.length], .dead, E37.row u13.2.2.1], [], 2⟩) (fuel' := 6) [0, 1, 2, 4, 5, 6, 8, 9, 10, 12] [15, 19, 23, 25] [0, 1, 2] rfl (by kernel_rfl) (by kernel_rfl) ?_
    refine RefY.toX [] ?_
    refine RefX.evC (vs := [bndOk u13.1.length u13.2.1 (IntKind.i64.wrap (u13.2.1 + u13.2.2.2))]) (st' := ⟨[(4, .c (.str ((u13.1.drop (u13.2.1 : Int).toNat).take (((IntKind.i64.wrap (u13.2.1 + u13.2.2.2)) : Int).toNat - (u13.2.1 : Int).toNat))))], [.cells [.str u13.1, .val (.int .i64 u13.2.1), .own 2 u13.2.2.1.length], .dead, E37.row u13.2.2.1], [], 2⟩) (fuel' := 0) [3, 7, 11, 13, 14, 15] [4] [0, 1, 2] rfl (by kernel_rfl) (by kernel_rfl) ?_
    refine RefX.letC (stf := fun x26 => ⟨[(4, .c (.str x26))], [.cells [.str u13.1, .val (.int .i64 u13.2.1), .own 2 u13.2.2.1.length], .dead, E37.row u13.2.2.1], [], 2⟩) (by kernel_rfl) (fun x26 => ?_)
    refine RefX.done (by kernel_rfl) ?_
    exact Ref.retC (t := (x26, (⟨u13.1, u13.2.1, u13.2.2.1⟩ : S42))) (by kernel_rfl) (by kernel_rfl)

/-- (*governor/lex.lexer).token -/
def F23 (K : Nat) (a0 : S42) (a1 : Int) (a2 : Bytes) (a3 : Int) : Option ((Err × S42) ⊕ (Err × S42)) :=
  (letV (decide (((Int.ofNat a0.ftokens.length) : Int) ≥ 1500)) (fun (x1 : Bool) => (if x1 = true then ((fnS (F13 K 5 a0.fat)).bind (fun r2 => (some (.inl (r2, a0))))) else (chk [room ((a0.ftokens.length + ([(⟨a1, a2, a3, a0.fat⟩ : S37)].length)) * 40)] (some (.inl (none, (⟨a0.fsrc, (IntKind.i64.wrap (a0.fat + (Int.ofNat a2.length))), (a0.ftokens ++ [(⟨a1, a2, a3, a0.fat⟩ : S37)])⟩ : S42))))))))

theorem F23_ok (K : Nat) (a0 : S42) (a1 : Int) (a2 : Bytes) (a3 : Int) : DFun Tryz.prog 23 [.c (.ptr 0 0 0), .c (.val (.int .i64 a1)), .c (.str a2), .c (.val (.int .i64 a3))] [.cells [.str a0.fsrc, .val (.int .i64 a0.fat), .own 1 a0.ftokens.length], E37.row a0.ftokens] (fnS (F23 K a0 a1 a2 a3)) (fun r => .c (errC r.1)) (fun r => [.cells [.str r.2.fsrc, .val (.int .i64 r.2.fat), .own 2 r.2.ftokens.length], .dead, E37.row r.2.ftokens]) := by
  refine DFun.intro (fn := Tryz.f23) (c := cd (bd Tryz.f23) []) (rs := fun r => ⟨[(8, .c (errC r.1))], [.cells [.str r.2.fsrc, .val (.int .i64 r.2.fat), .own 2 r.2.ftokens.length], .dead, E37.row r.2.ftokens], [], 2⟩) (by kernel_rfl) (by kernel_rfl) (by kernel_rfl) ?_ (fun r => by kernel_rfl) (fun r => by kernel_rfl) (fun r => by kernel_rfl) (fun r => by kernel_rfl)
  unfold F23
  refine Ref.seqC (cd (bd Tryz.f23) [0]) (cd (bd Tryz.f23) [1]) (by kernel_rfl) ?_
  refine Ref.regionC 0 (by kernel_rfl) ?_
  refine RefR.ev0 (st' := ⟨[(0, .c (.ptr 0 0 0)), (1, .c (.val (.int .i64 a1))), (2, .c (.str a2)), (3, .c (.val (.int .i64 a3)))], [.cells [.str a0.fsrc, .val (.int .i64 a0.fat), .own 1 a0.ftokens.length], E37.row a0.ftokens], [], 2⟩) 0 1 1 [0, 1, 2, 3] [0, 1] rfl (by kernel_rfl) ?_
  refine RefR.nilC 1 (by kernel_rfl) ?_
  refine Ref.seqC (cd (bd Tryz.f23) [1, 0]) (cd (bd Tryz.f23) [1, 1]) (by kernel_rfl) ?_
  refine Ref.seqC (cd (bd Tryz.f23) [1, 0, 0]) (cd (bd Tryz.f23) [1, 0, 1]) (by kernel_rfl) ?_
  refine Ref.regionC 1 (by kernel_rfl) ?_
  refine RefR.ev0 (st' := ⟨[(0, .c (.ptr 0 0 0)), (1, .c (.val (.int .i64 a1))), (2, .c (.str a2)), (3, .c (.val (.int .i64 a3))), (14, .c (.val (.bool (decide (((Int.ofNat a0.ftokens.length) : Int) ≥ 1500)))))], [.cells [.str a0.fsrc, .val (.int .i64 a0.fat), .own 1 a0.ftokens.length], E37.row a0.ftokens], [], 2⟩) 0 6 6 [0, 1, 2, 3, 14] [0, 1] rfl (by kernel_rfl) ?_
  refine RefR.letC (stf := fun x1 => ⟨[(0, .c (.ptr 0 0 0)), (1, .c (.val (.int .i64 a1))), (2, .c (.str a2)), (3, .c (.val (.int .i64 a3))), (14, .c (.val (.bool x1)))], [.cells [.str a0.fsrc, .val (.int .i64 a0.fat), .own 1 a0.ftokens.length], E37.row a0.ftokens], [], 2⟩) (by kernel_rfl) (fun x1 => ?_)
  refine RefR.nilC 6 (by kernel_rfl) ?_
  refine Ref.condC (.tmp 14) x1 (by kernel_rfl) rfl (by kernel_rfl) (fun hc => ?_) (fun hc => ?_)
  ·
    refine Ref.seqC (cd (bd Tryz.f23) [1, 0, 1, 0, 0]) (cd (bd Tryz.f23) [1, 0, 1, 0, 1]) (by kernel_rfl) ?_
    refine Ref.regionC 2 (by kernel_rfl) ?_
    refine RefR.ev0 (st' := ⟨[(18, .c (.val (.int .i64 a0.fat)))], [.cells [.str a0.fsrc, .val (.int .i64 a0.fat), .own 1 a0.ftokens.length], E37.row a0.ftokens], [], 2⟩) 0 4 4 [18] [0, 1] rfl (by kernel_rfl) ?_
    refine RefR.callC (t := 19) 4 5 [] rfl (by kernel_rfl) (F13_ok K 5 a0.fat) (fun r2 => ?_)
    refine RefR.ev0 (st' := ⟨[(8, .c (errC r2))], [.cells [.str a0.fsrc, .val (.int .i64 a0.fat), .own 1 a0.ftokens.length], E37.row a0.ftokens], [], 2⟩) 5 1 6 [8] [0, 1] rfl (by kernel_rfl) ?_
    refine RefR.nilC 6 (by kernel_rfl) ?_
    refine Ref.conv (Conv.move (st' := ⟨[(8, .c (errC r2))], [.cells [.str a0.fsrc, .val (.int .i64 a0.fat), .own 2 a0.ftokens.length], .dead, E37.row a0.ftokens], [], 2⟩) 1 (by kernel_rfl) (by kernel_rfl)) ?_
    exact Ref.retC (t := (r2, a0)) (by kernel_rfl) (by kernel_rfl)
  ·
    refine Ref.skipC (by kernel_rfl) ?_
    refine Ref.seqC (cd (bd Tryz.f23) [1, 1, 0]) (cd (bd Tryz.f23) [1, 1, 1]) (by kernel_rfl) ?_
    refine Ref.drawnY 3 (by kernel_rfl) (by kernel_rfl) ?_
    refine RefY.evC0 (st' := ⟨[(0, .c (.ptr 0 0 0)), (2, .c (.str a2)), (20, .c (.ptr 0 0 0)), (23, .c (.ptr 0 0 2)), (25, .c (.val (.int .i64 a1))), (26, .c (.str a2)), (27, .c (.val (.int .i64 a3))), (30, .c (.ptr 0 0 1))], [.cells [.str a0.fsrc, .val (.int .i64 a0.fat), .own 1 a0.ftokens.length], E37.row a0.ftokens], [], 2⟩) (fuel' := 8) [0, 1, 2, 3, 5, 6, 7, 8, 9, 10] [0, 2, 20, 23, 25, 26, 27, 30] [0, 1] rfl (by kernel_rfl) (by kernel_rfl) ?_
    refine RefY.toX [14, 15, 16, 17] ?_
    refine RefX.evC0 (st' := ⟨[(0, .c (.ptr 0 0 0)), (2, .c (.str a2)), (20, .c (.ptr 0 0 0)), (24, .c (.own 1 a0.ftokens.length)), (32, .agg [.val (.int .i64 a1), .str a2, .val (.int .i64 a3), .val (.int .i64 a0.fat)])], [.cells [.str a0.fsrc, .val (.int .i64 a0.fat), .own 1 a0.ftokens.length], E37.row a0.ftokens], [], 2⟩) (fuel' := 5) [4, 11, 12] [0, 2, 20, 24, 32] [0, 1] rfl (by kernel_rfl) (by kernel_rfl) ?_
    refine RefX.madeC0 (st' := ⟨[(0, .c (.ptr 0 0 0)), (2, .c (.str a2)), (20, .c (.ptr 0 0 0)), (24, .c (.own 1 a0.ftokens.length)), (33, .c (.own 2 1))], [.cells [.str a0.fsrc, .val (.int .i64 a0.fat), .own 1 a0.ftokens.length], E37.row a0.ftokens, .row 37 4 1 (tbl [[.val (.int .i64 a1), .str a2, .val (.int .i64 a3), .val (.int .i64 a0.fat)]])], [], 2⟩) (fuel' := 4) 13 [0, 2, 20, 24, 33] [0, 1, 2] rfl (by kernel_rfl) (by kernel_rfl) ?_
    refine RefX.conv (Conv.obj 2 (E37.row [(⟨a1, a2, a3, a0.fat⟩ : S37)]) (El.row_build E37 [(⟨a1, a2, a3, a0.fat⟩ : S37)] rfl (by kernel_rfl)) (by kernel_rfl)) ?_
    refine RefX.conv (Conv.slot 33 (.c (.own 2 ([(⟨a1, a2, a3, a0.fat⟩ : S37)].length))) (DLe.c (CLe.own (by simp <;> omega))) (by kernel_rfl)) ?_
    refine RefX.tailC [14, 15, 16, 17] rfl (by kernel_rfl) ?_
    refine RefR.evC (vs := [room ((a0.ftokens.length + ([(⟨a1, a2, a3, a0.fat⟩ : S37)].length)) * 40)]) (st' := ⟨[(0, .c (.ptr 0 0 0)), (2, .c (.str a2)), (20, .c (.ptr 0 0 0)), (34, .c (.own 2 (a0.ftokens.length + ([(⟨a1, a2, a3, a0.fat⟩ : S37)].length))))], [.cells [.str a0.fsrc, .val (.int .i64 a0.fat), .own 1 a0.ftokens.length], .dead, .row 37 4 (a0.ftokens.length + ([(⟨a1, a2, a3, a0.fat⟩ : S37)].length)) fun i j => bif Nat.blt i a0.ftokens.length then E37.at a0.ftokens i j else (E37.at [(⟨a1, a2, a3, a0.fat⟩ : S37)]) (i - a0.ftokens.length) j], [], 2⟩) 0 1 1 [0, 2, 20, 34] [0, 1, 3] rfl (by kernel_rfl) ?_
    refine RefR.conv (Conv.obj 2 (E37.row (a0.ftokens ++ [(⟨a1, a2, a3, a0.fat⟩ : S37)])) (El.row_append E37 a0.ftokens [(⟨a1, a2, a3, a0.fat⟩ : S37)] rfl rfl) (by kernel_rfl)) ?_
    refine RefR.conv (Conv.slot 34 (.c (.own 2 ((a0.ftokens ++ [(⟨a1, a2, a3, a0.fat⟩ : S37)]).length))) (DLe.c (CLe.own (by simp <;> omega))) (by kernel_rfl)) ?_
    refine RefR.ev0 (st' := ⟨[(0, .c (.ptr 0 0 0)), (2, .c (.str a2))], [.cells [.str a0.fsrc, .val (.int .i64 a0.fat), .own 2 ((a0.ftokens ++ [(⟨a1, a2, a3, a0.fat⟩ : S37)]).length)], .dead, E37.row (a0.ftokens ++ [(⟨a1, a2, a3, a0.fat⟩ : S37)])], [], 2⟩) 1 3 4 [0, 2] [0, 1, 2] rfl (by kernel_rfl) ?_
    refine RefR.nilC 4 (by kernel_rfl) ?_
    refine Ref.seqC (cd (bd Tryz.f23) [1, 1, 1, 0]) (cd (bd Tryz.f23) [1, 1, 1, 1]) (by kernel_rfl) ?_
    refine Ref.regionC 4 (by kernel_rfl) ?_
    refine RefR.ev0 (st' := ⟨[], [.cells [.str a0.fsrc, .val (.int .i64 (IntKind.i64.wrap (a0.fat + (Int.ofNat a2.length)))), .own 2 ((a0.ftokens ++ [(⟨a1, a2, a3, a0.fat⟩ : S37)]).length)], .dead, E37.row (a0.ftokens ++ [(⟨a1, a2, a3, a0.fat⟩ : S37)])], [], 2⟩) 0 10 10 [] [0, 1, 2] rfl (by kernel_rfl) ?_
    refine RefR.nilC 10 (by kernel_rfl) ?_
    refine Ref.seqC (cd (bd Tryz.f23) [1, 1, 1, 1, 0]) (cd (bd Tryz.f23) [1, 1, 1, 1, 1]) (by kernel_rfl) ?_
    refine Ref.regionC 5 (by kernel_rfl) ?_
    refine RefR.ev0 (st' := ⟨[(8, .c (.val .nilIface))], [.cells [.str a0.fsrc, .val (.int .i64 (IntKind.i64.wrap (a0.fat + (Int.ofNat a2.length)))), .own 2 ((a0.ftokens ++ [(⟨a1, a2, a3, a0.fat⟩ : S37)]).length)], .dead, E37.row (a0.ftokens ++ [(⟨a1, a2, a3, a0.fat⟩ : S37)])], [], 2⟩) 0 1 1 [8] [0, 1, 2] rfl (by kernel_rfl) ?_
    refine RefR.nilC 1 (by kernel_rfl) ?_
    refine Ref.conv (Conv.slot 8 (.c (errC none)) (DLe.c (errC_nil)) (by kernel_rfl)) ?_
    exact Ref.retC (t := (none, (⟨a0.fsrc, (IntKind.i64.wrap (a0.fat + (Int.ofNat a2.length))), (a0.ftokens ++ [(⟨a1, a2, a3, a0.fat⟩ : S37)])⟩ : S42))) (by kernel_rfl) (by kernel_rfl)

/-- slices.Index[[]string,string] -/
def F36 (K : Nat) (a0 : (List Bytes)) (a1 : Bytes) : Option ((Int) ⊕ (Int)) :=
  (bindS (blockS ((iter K (fun (u12 : Int) => (letV (decide ((u12 : Int) < (Int.ofNat a0.length))) (fun (x16 : Bool) => (if x16 = true then (bindS (blockS (chk [inb u12 a0.length] (if (a1 == (a0.getD (u12 : Int).toNat default)) = true then (some (.inl (Sum.inr (Sum.inr (u12))))) else (some (.inr ()))))) (fun (u17 : Unit) => (some (.inr ((IntKind.i64.wrap (u12 + 1))))))) else (some (.inl (Sum.inl ()))))))) (0)).map .inl)) (fun (u9 : Unit) => (some (.inl ((-1))))))

theorem F36_ok (K : Nat) (a0 : (List Bytes)) (a1 : Bytes) : DFun Tryz.prog 36 [.c (E9.tree a0), .c (.str a1)] [] (fnS (F36 K a0 a1)) (fun r => .c (.val (.int .i64 r))) (fun r => []) := by
  refine DFun.intro (fn := Tryz.f36) (c := cd (bd Tryz.f36) []) (rs := fun r => ⟨[(4, .c (.val (.int .i64 r)))], [], [], 0⟩) (by kernel_rfl) (by kernel_rfl) (by kernel_rfl) ?_ (fun r => by kernel_rfl) (fun r => by kernel_rfl) (fun r => by kernel_rfl) (fun r => by kernel_rfl)
  unfold F36
  refine Ref.seqC (cd (bd Tryz.f36) [0]) (cd (bd Tryz.f36) [1]) (by kernel_rfl) ?_
  refine Ref.regionC 0 (by kernel_rfl) ?_
  refine RefR.ev0 (st' := ⟨[(0, .c (E9.tree a0)), (1, .c (.str a1))], [], [], 0⟩) 0 1 1 [0, 1] [] rfl (by kernel_rfl) ?_
  refine RefR.nilC 1 (by kernel_rfl) ?_
  refine Ref.seqC (cd (bd Tryz.f36) [1, 0]) (cd (bd Tryz.f36) [1, 1]) (by kernel_rfl) ?_
  refine Ref.seqC (cd (bd Tryz.f36) [1, 0, 0]) (cd (bd Tryz.f36) [1, 0, 1]) (by kernel_rfl) ?_
  refine Ref.regionC 1 (by kernel_rfl) ?_
  refine RefR.ev0 (st' := ⟨[(0, .c (E9.tree a0)), (1, .c (.str a1)), (7, .c (.val (.int .i64 (Int.ofNat a0.length)))), (8, .c (.val (.int .i64 0)))], [], [], 0⟩) 0 3 3 [0, 1, 7, 8] [] rfl (by kernel_rfl) ?_
  refine RefR.nilC 3 (by kernel_rfl) ?_
  refine Ref.codeEq (c' := .block 0 (cd (bd Tryz.f36) [1, 0, 1, 0])) (by kernel_rfl) ?_
  refine Ref.block (go1 := fun u9 => ⟨[], [], [], 0⟩) ?_ (fun _ h => by cases h) (fun u9 => ?_)
  ·
    refine Ref.codeEq (c' := .loop (cd (bd Tryz.f36) [1, 0, 1, 0, 0])) (by kernel_rfl) ?_
    refine Ref.loop (hd := fun u12 => ⟨[(0, .c (E9.tree a0)), (1, .c (.str a1)), (7, .c (.val (.int .i64 (Int.ofNat a0.length)))), (8, .c (.val (.int .i64 u12)))], [], [], 0⟩) K (0) (by kernel_rfl) (fun u12 => ?_)
    refine Ref.seqC (cd (bd Tryz.f36) [1, 0, 1, 0, 0, 0]) (cd (bd Tryz.f36) [1, 0, 1, 0, 0, 1]) (by kernel_rfl) ?_
    refine Ref.regionC 2 (by kernel_rfl) ?_
    refine RefR.ev0 (st' := ⟨[(0, .c (E9.tree a0)), (1, .c (.str a1)), (7, .c (.val (.int .i64 (Int.ofNat a0.length)))), (8, .c (.val (.int .i64 u12))), (9, .c (.val (.bool (decide ((u12 : Int) < (Int.ofNat a0.length))))))], [], [], 0⟩) 0 1 1 [0, 1, 7, 8, 9] [] rfl (by kernel_rfl) ?_
    refine RefR.letC (stf := fun x16 => ⟨[(0, .c (E9.tree a0)), (1, .c (.str a1)), (7, .c (.val (.int .i64 (Int.ofNat a0.length)))), (8, .c (.val (.int .i64 u12))), (9, .c (.val (.bool x16)))], [], [], 0⟩) (by kernel_rfl) (fun x16 => ?_)
    refine RefR.nilC 1 (by kernel_rfl) ?_
    refine Ref.seqC (cd (bd Tryz.f36) [1, 0, 1, 0, 0, 1, 0]) (cd (bd Tryz.f36) [1, 0, 1, 0, 0, 1, 1]) (by kernel_rfl) ?_
    refine Ref.condC (.tmp 9) x16 (by kernel_rfl) rfl (by kernel_rfl) (fun hc => ?_) (fun hc => ?_)
    ·
      refine Ref.skipC (by kernel_rfl) ?_
      refine Ref.seqC (cd (bd Tryz.f36) [1, 0, 1, 0, 0, 1, 1, 0]) (cd (bd Tryz.f36) [1, 0, 1, 0, 0, 1, 1, 1]) (by kernel_rfl) ?_
      refine Ref.codeEq (c' := .block 1 (cd (bd Tryz.f36) [1, 0, 1, 0, 0, 1, 1, 0, 0])) (by kernel_rfl) ?_
      refine Ref.block (go1 := fun u17 => ⟨[(0, .c (E9.tree a0)), (1, .c (.str a1)), (7, .c (.val (.int .i64 (Int.ofNat a0.length)))), (8, .c (.val (.int .i64 u12)))], [], [], 0⟩) ?_ (fun a => match a with | .inl _ => (fun h => by cases h) | .inr _ => (fun h => by cases h)) (fun u17 => ?_)
      ·
        refine Ref.seqC (cd (bd Tryz.f36) [1, 0, 1, 0, 0, 1, 1, 0, 0, 0]) (cd (bd Tryz.f36) [1, 0, 1, 0, 0, 1, 1, 0, 0, 1]) (by kernel_rfl) ?_
        refine Ref.regionC 3 (by kernel_rfl) ?_
        refine RefR.ev0 (st' := ⟨[(0, .c (E9.tree a0)), (1, .c (.str a1)), (5, .c (.val (.int .i64 u12))), (7, .c (.val (.int .i64 (Int.ofNat a0.length)))), (8, .c (.val (.int .i64 u12)))], [], [], 0⟩) 0 2 2 [0, 1, 5, 7, 8] [] rfl (by kernel_rfl) ?_
        refine RefR.nilC 2 (by kernel_rfl) ?_
        refine Ref.seqC (cd (bd Tryz.f36) [1, 0, 1, 0, 0, 1, 1, 0, 0, 1, 0]) (cd (bd Tryz.f36) [1, 0, 1, 0, 0, 1, 1, 0, 0, 1, 1]) (by kernel_rfl) ?_
        refine Ref.regionC 4 (by kernel_rfl) ?_
        refine RefR.evC (vs := [inb u12 a0.length]) (st' := ⟨[(0, .c (E9.tree a0)), (1, .c (.str a1)), (5, .c (.val (.int .i64 u12))), (7, .c (.val (.int .i64 (Int.ofNat a0.length)))), (8, .c (.val (.int .i64 u12))), (16, .c (.val (.bool (a1 == (a0.getD (u12 : Int).toNat default)))))], [], [], 0⟩) 0 6 6 [0, 1, 5, 7, 8, 16] [] rfl (by kernel_rfl) ?_
        refine RefR.nilC 6 (by kernel_rfl) ?_
        refine Ref.condC (.tmp 16) (a1 == (a0.getD (u12 : Int).toNat default)) (by kernel_rfl) rfl (by kernel_rfl) (fun hc => ?_) (fun hc => ?_)
        ·
          refine Ref.seqC (cd (bd Tryz.f36) [1, 0, 1, 0, 0, 1, 1, 0, 0, 1, 1, 0, 0]) (cd (bd Tryz.f36) [1, 0, 1, 0, 0, 1, 1, 0, 0, 1, 1, 0, 1]) (by kernel_rfl) ?_
          refine Ref.regionC 5 (by kernel_rfl) ?_
          refine RefR.ev0 (st' := ⟨[(4, .c (.val (.int .i64 u12)))], [], [], 0⟩) 0 2 2 [4] [] rfl (by kernel_rfl) ?_
          refine RefR.nilC 2 (by kernel_rfl) ?_
          exact Ref.retC (t := (Sum.inr (Sum.inr (u12)))) (by kernel_rfl) (by kernel_rfl)
        ·
          refine Ref.skipC (by kernel_rfl) ?_
          refine Ref.conv (Conv.keep (st' := ⟨[(0, .c (E9.tree a0)), (1, .c (.str a1)), (7, .c (.val (.int .i64 (Int.ofNat a0.length)))), (8, .c (.val (.int .i64 u12)))], [], [], 0⟩) [0, 1, 7, 8] [] (by kernel_rfl)) ?_
          exact Ref.nil (t := ()) (by kernel_rfl)
      ·
        refine Ref.regionC 6 (by kernel_rfl) ?_
        refine RefR.ev0 (st' := ⟨[(0, .c (E9.tree a0)), (1, .c (.str a1)), (7, .c (.val (.int .i64 (Int.ofNat a0.length)))), (8, .c (.val (.int .i64 (IntKind.i64.wrap (u12 + 1)))))], [], [], 0⟩) 0 2 2 [0, 1, 7, 8] [] rfl (by kernel_rfl) ?_
        refine RefR.nilC 2 (by kernel_rfl) ?_
        exact Ref.nil (t := ((IntKind.i64.wrap (u12 + 1)))) (by kernel_rfl)
    ·
      refine Ref.conv (Conv.keep (st' := ⟨[], [], [], 0⟩) [] [] (by kernel_rfl)) ?_
      exact Ref.exitC 0 (t := (Sum.inl ())) (by kernel_rfl) (by kernel_rfl)
  ·
    refine Ref.seqC (cd (bd Tryz.f36) [1, 1, 0]) (cd (bd Tryz.f36) [1, 1, 1]) (by kernel_rfl) ?_
    refine Ref.regionC 7 (by kernel_rfl) ?_
    refine RefR.ev0 (st' := ⟨[(4, .c (.val (.int .i64 (-1))))], [], [], 0⟩) 0 1 1 [4] [] rfl (by kernel_rfl) ?_
    refine RefR.nilC 1 (by kernel_rfl) ?_
    exact Ref.retC (t := ((-1))) (by kernel_rfl) (by kernel_rfl)

/-- slices.Contains[[]string,string] -/
def F18 (K : Nat) (a0 : (List Bytes)) (a1 : Bytes) : Option ((Bool) ⊕ (Bool)) :=
  ((fnS (F36 K a0 a1)).bind (fun r1 => (some (.inl ((decide ((r1 : Int) ≥ 0)))))))

theorem F18_ok (K : Nat) (a0 : (List Bytes)) (a1 : Bytes) : DFun Tryz.prog 18 [.c (E9.tree a0), .c (.str a1)] [] (fnS (F18 K a0 a1)) (fun r => .c (.val (.bool r))) (fun r => []) := by
  refine DFun.intro (fn := Tryz.f18) (c := cd (bd Tryz.f18) []) (rs := fun r => ⟨[(4, .c (.val (.bool r)))], [], [], 0⟩) (by kernel_rfl) (by kernel_rfl) (by kernel_rfl) ?_ (fun r => by kernel_rfl) (fun r => by kernel_rfl) (fun r => by kernel_rfl) (fun r => by kernel_rfl)
  unfold F18
  refine Ref.seqC (cd (bd Tryz.f18) [0]) (cd (bd Tryz.f18) [1]) (by kernel_rfl) ?_
  refine Ref.regionC 0 (by kernel_rfl) ?_
  refine RefR.ev0 (st' := ⟨[(0, .c (E9.tree a0)), (1, .c (.str a1))], [], [], 0⟩) 0 1 1 [0, 1] [] rfl (by kernel_rfl) ?_
  refine RefR.nilC 1 (by kernel_rfl) ?_
  refine Ref.seqC (cd (bd Tryz.f18) [1, 0]) (cd (bd Tryz.f18) [1, 1]) (by kernel_rfl) ?_
  refine Ref.regionC 1 (by kernel_rfl) ?_
  refine RefR.ev0 (st' := ⟨[(5, .c (E9.tree a0)), (6, .c (.str a1))], [], [], 0⟩) 0 2 2 [5, 6] [] rfl (by kernel_rfl) ?_
  refine RefR.callC (t := 7) 2 3 [] rfl (by kernel_rfl) (F36_ok K a0 a1) (fun r1 => ?_)
  refine RefR.ev0 (st' := ⟨[(4, .c (.val (.bool (decide ((r1 : Int) ≥ 0)))))], [], [], 0⟩) 3 2 5 [4] [] rfl (by kernel_rfl) ?_
  refine RefR.nilC 5 (by kernel_rfl) ?_
  exact Ref.retC (t := ((decide ((r1 : Int) ≥ 0)))) (by kernel_rfl) (by kernel_rfl)

/-- governor/lex.keys -/
def F19 (K : Nat) : Option (((List Bytes)) ⊕ ((List Bytes))) :=
  ((fnS (F37 K ([73, 78, 84, 69, 82, 70, 65, 67, 69, 32, 69, 78, 68, 95, 73, 78, 84, 69, 82, 70, 65, 67, 69, 32, 67, 76, 65, 83, 83, 32, 69, 78, 68, 95, 67, 76, 65, 83, 83, 32, 80, 82, 79, 71, 82, 65, 77, 32, 69, 78, 68, 95, 80, 82, 79, 71, 82, 65, 77, 32, 77, 69, 84, 72, 79, 68, 32, 69, 78, 68, 95, 77, 69, 84, 72, 79, 68, 32, 84, 65, 83, 75, 32, 73, 78, 84, 69, 82, 86, 65, 76, 32, 80, 82, 73, 79, 82, 73, 84, 89, 32, 69, 88, 84, 69, 78, 68, 83, 32, 73, 77, 80, 76, 69, 77, 69, 78, 84, 83, 32, 65, 66, 83, 84, 82, 65, 67, 84, 32, 70, 73, 78, 65, 76, 32, 79, 86, 69, 82, 82, 73, 68, 69, 32, 86, 65, 82, 32, 65, 84, 32, 73, 78, 32, 79, 85, 84, 32, 73, 78, 84, 32, 66, 79, 79, 76, 32, 82, 69, 65, 76, 32, 76, 82, 69, 65, 76, 32, 65, 82, 82, 65, 89, 32, 79, 70, 32, 82, 69, 70, 95, 84, 79, 32, 82, 69, 70, 32, 84, 79, 78, 32, 84, 79, 70, 32, 84, 80, 32, 67, 84, 85, 32, 67, 84, 68, 32, 82, 95, 84, 82, 73, 71, 32, 70, 95, 84, 82, 73, 71, 32, 84, 82, 85, 69, 32, 70, 65, 76, 83, 69, 32, 78, 85, 76, 76, 32, 84, 72, 73, 83, 32, 83, 85, 80, 69, 82, 32, 65, 83, 32, 78, 79, 84, 32, 65, 78, 68, 32, 79, 82, 32, 88, 79, 82, 32, 77, 79, 68, 32, 73, 70, 32, 84, 72, 69, 78, 32, 69, 76, 83, 73, 70, 32, 69, 76, 83, 69, 32, 69, 78, 68, 95, 73, 70, 32, 67, 65, 83, 69, 32, 69, 78, 68, 95, 67, 65, 83, 69, 32, 87, 72, 73, 76, 69, 32, 68, 79, 32, 69, 78, 68, 95, 87, 72, 73, 76, 69, 32, 70, 79, 82, 32, 84, 79, 32, 66, 89, 32, 69, 78, 68, 95, 70, 79, 82, 32, 82, 69, 84, 85, 82, 78, 32, 69, 88, 73, 84, 32, 83, 84, 69, 80, 32, 68, 79, 78, 69, 32, 67, 79, 85, 78, 84] : Bytes))).bind (fun r1 => (some (.inl (r1)))))

theorem F19_ok (K : Nat) : DFun Tryz.prog 19 [] [] (fnS (F19 K)) (fun r => .c (E9.tree r)) (fun r => []) := by
  refine DFun.intro (fn := Tryz.f19) (c := cd (bd Tryz.f19) []) (rs := fun r => ⟨[(0, .c (E9.tree r))], [], [], 0⟩) (by kernel_rfl) (by kernel_rfl) (by kernel_rfl) ?_ (fun r => by kernel_rfl) (fun r => by kernel_rfl) (fun r => by kernel_rfl) (fun r => by kernel_rfl)
  unfold F19
  refine Ref.seqC (cd (bd Tryz.f19) [0]) (cd (bd Tryz.f19) [1]) (by kernel_rfl) ?_
  refine Ref.regionC 0 (by kernel_rfl) ?_
  refine RefR.ev0 (st' := ⟨[], [], [], 0⟩) 0 1 1 [] [] rfl (by kernel_rfl) ?_
  refine RefR.nilC 1 (by kernel_rfl) ?_
  refine Ref.seqC (cd (bd Tryz.f19) [1, 0]) (cd (bd Tryz.f19) [1, 1]) (by kernel_rfl) ?_
  refine Ref.regionC 1 (by kernel_rfl) ?_
  refine RefR.callC (t := 1) 0 1 [] rfl (by kernel_rfl) (F37_ok K ([73, 78, 84, 69, 82, 70, 65, 67, 69, 32, 69, 78, 68, 95, 73, 78, 84, 69, 82, 70, 65, 67, 69, 32, 67, 76, 65, 83, 83, 32, 69, 78, 68, 95, 67, 76, 65, 83, 83, 32, 80, 82, 79, 71, 82, 65, 77, 32, 69, 78, 68, 95, 80, 82, 79, 71, 82, 65, 77, 32, 77, 69, 84, 72, 79, 68, 32, 69, 78, 68, 95, 77, 69, 84, 72, 79, 68, 32, 84, 65, 83, 75, 32, 73, 78, 84, 69, 82, 86, 65, 76, 32, 80, 82, 73, 79, 82, 73, 84, 89, 32, 69, 88, 84, 69, 78, 68, 83, 32, 73, 77, 80, 76, 69, 77, 69, 78, 84, 83, 32, 65, 66, 83, 84, 82, 65, 67, 84, 32, 70, 73, 78, 65, 76, 32, 79, 86, 69, 82, 82, 73, 68, 69, 32, 86, 65, 82, 32, 65, 84, 32, 73, 78, 32, 79, 85, 84, 32, 73, 78, 84, 32, 66, 79, 79, 76, 32, 82, 69, 65, 76, 32, 76, 82, 69, 65, 76, 32, 65, 82, 82, 65, 89, 32, 79, 70, 32, 82, 69, 70, 95, 84, 79, 32, 82, 69, 70, 32, 84, 79, 78, 32, 84, 79, 70, 32, 84, 80, 32, 67, 84, 85, 32, 67, 84, 68, 32, 82, 95, 84, 82, 73, 71, 32, 70, 95, 84, 82, 73, 71, 32, 84, 82, 85, 69, 32, 70, 65, 76, 83, 69, 32, 78, 85, 76, 76, 32, 84, 72, 73, 83, 32, 83, 85, 80, 69, 82, 32, 65, 83, 32, 78, 79, 84, 32, 65, 78, 68, 32, 79, 82, 32, 88, 79, 82, 32, 77, 79, 68, 32, 73, 70, 32, 84, 72, 69, 78, 32, 69, 76, 83, 73, 70, 32, 69, 76, 83, 69, 32, 69, 78, 68, 95, 73, 70, 32, 67, 65, 83, 69, 32, 69, 78, 68, 95, 67, 65, 83, 69, 32, 87, 72, 73, 76, 69, 32, 68, 79, 32, 69, 78, 68, 95, 87, 72, 73, 76, 69, 32, 70, 79, 82, 32, 84, 79, 32, 66, 89, 32, 69, 78, 68, 95, 70, 79, 82, 32, 82, 69, 84, 85, 82, 78, 32, 69, 88, 73, 84, 32, 83, 84, 69, 80, 32, 68, 79, 78, 69, 32, 67, 79, 85, 78, 84] : Bytes)) (fun r1 => ?_)
  refine RefR.ev0 (st' := ⟨[(0, .c (E9.tree r1))], [], [], 0⟩) 1 1 2 [0] [] rfl (by kernel_rfl) ?_
  refine RefR.nilC 2 (by kernel_rfl) ?_
  exact Ref.retC (t := (r1)) (by kernel_rfl) (by kernel_rfl)

/-- governor/lex.IsKey -/
def F9 (K : Nat) (a0 : Bytes) : Option ((Bool) ⊕ (Bool)) :=
  ((fnS (F19 K)).bind (fun r1 => ((fnS (F18 K r1 a0)).bind (fun r2 => (some (.inl (r2)))))))

theorem F9_ok (K : Nat) (a0 : Bytes) : DFun Tryz.prog 9 [.c (.str a0)] [] (fnS (F9 K a0)) (fun r => .c (.val (.bool r))) (fun r => []) := by
  refine DFun.intro (fn := Tryz.f9) (c := cd (bd Tryz.f9) []) (rs := fun r => ⟨[(2, .c (.val (.bool r)))], [], [], 0⟩) (by kernel_rfl) (by kernel_rfl) (by kernel_rfl) ?_ (fun r => by kernel_rfl) (fun r => by kernel_rfl) (fun r => by kernel_rfl) (fun r => by kernel_rfl)
  unfold F9
  refine Ref.seqC (cd (bd Tryz.f9) [0]) (cd (bd Tryz.f9) [1]) (by kernel_rfl) ?_
  refine Ref.regionC 0 (by kernel_rfl) ?_
  refine RefR.ev0 (st' := ⟨[(0, .c (.str a0))], [], [], 0⟩) 0 1 1 [0] [] rfl (by kernel_rfl) ?_
  refine RefR.nilC 1 (by kernel_rfl) ?_
  refine Ref.seqC (cd (bd Tryz.f9) [1, 0]) (cd (bd Tryz.f9) [1, 1]) (by kernel_rfl) ?_
  refine Ref.regionC 1 (by kernel_rfl) ?_
  refine RefR.callC (t := 3) 0 1 [] rfl (by kernel_rfl) (F19_ok K) (fun r1 => ?_)
  refine RefR.ev0 (st' := ⟨[(3, .c (E9.tree r1)), (4, .c (.str a0))], [], [], 0⟩) 1 1 2 [3, 4] [] rfl (by kernel_rfl) ?_
  refine RefR.callC (t := 5) 2 3 [] rfl (by kernel_rfl) (F18_ok K r1 a0) (fun r2 => ?_)
  refine RefR.ev0 (st' := ⟨[(2, .c (.val (.bool r2)))], [], [], 0⟩) 3 1 4 [2] [] rfl (by kernel_rfl) ?_
  refine RefR.nilC 4 (by kernel_rfl) ?_
  exact Ref.retC (t := (r2)) (by kernel_rfl) (by kernel_rfl)

/-- (*governor/lex.lexer).word -/
def F25 (K : Nat) (a0 : S42) : Option ((Err × S42) ⊕ (Err × S42)) :=
  ((fnS (F39f40 K a0)).bind (fun r1 => (bindS (blockS (letV ((r1.1 == ([82, 69, 65, 76] : Bytes)) || (r1.1 == ([76, 82, 69, 65, 76] : Bytes))) (fun (x9 : Bool) => (if x9 = true then ((fnS (F13 K 2 r1.2.fat)).bind (fun r10 => (some (.inl (Sum.inr (r10, r1.2)))))) else ((fnS (F9 K r1.1)).bind (fun r11 => (if r11 = true then ((fnS (F23 K r1.2 2 r1.1 0)).bind (fun r12 => (some (.inl (Sum.inr (r12.1, r12.2)))))) else (letV (decide (((Int.ofNat r1.1.length) : Int) > 12)) (fun (x13 : Bool) => (if x13 = true then ((fnS (F13 K 1 r1.2.fat)).bind (fun r14 => (some (.inl (Sum.inr (r14, r1.2)))))) else (some (.inr ())))))))))))) (fun (u8 : Unit) => ((fnS (F23 K r1.2 1 r1.1 0)).bind (fun r15 => (some (.inl (r15.1, r15.2)))))))))

theorem F25_ok (K : Nat) (a0 : S42) : DFun Tryz.prog 25 [.c (.ptr 0 0 0)] [.cells [.str a0.fsrc, .val (.int .i64 a0.fat), .own 1 a0.ftokens.length], E37.row a0.ftokens] (fnS (F25 K a0)) (fun r => .c (errC r.1)) (fun r => [.cells [.str r.2.fsrc, .val (.int .i64 r.2.fat), .own 2 r.2.ftokens.length], .dead, E37.row r.2.ftokens]) := by
  refine DFun.intro (fn := Tryz.f25) (c := cd (bd Tryz.f25) []) (rs := fun r => ⟨[(2, .c (errC r.1))], [.cells [.str r.2.fsrc, .val (.int .i64 r.2.fat), .own 2 r.2.ftokens.length], .dead, E37.row r.2.ftokens], [], 2⟩) (by kernel_rfl) (by kernel_rfl) (by kernel_rfl) ?_ (fun r => by kernel_rfl) (fun r => by kernel_rfl) (fun r => by kernel_rfl) (fun r => by kernel_rfl)
  unfold F25
  refine Ref.seqC (cd (bd Tryz.f25) [0]) (cd (bd Tryz.f25) [1]) (by kernel_rfl) ?_
  refine Ref.regionC 0 (by kernel_rfl) ?_
  refine RefR.ev0 (st' := ⟨[(0, .c (.ptr 0 0 0))], [.cells [.str a0.fsrc, .val (.int .i64 a0.fat), .own 1 a0.ftokens.length], E37.row a0.ftokens], [], 2⟩) 0 1 1 [0] [0, 1] rfl (by kernel_rfl) ?_
  refine RefR.nilC 1 (by kernel_rfl) ?_
  refine Ref.seqC (cd (bd Tryz.f25) [1, 0]) (cd (bd Tryz.f25) [1, 1]) (by kernel_rfl) ?_
  refine Ref.regionC 1 (by kernel_rfl) ?_
  refine RefR.ev0 (st' := ⟨[(0, .c (.ptr 0 0 0)), (4, .c (.ptr 0 0 0))], [.cells [.str a0.fsrc, .val (.int .i64 a0.fat), .own 1 a0.ftokens.length], E37.row a0.ftokens], [], 2⟩) 0 1 1 [0, 4] [0, 1] rfl (by kernel_rfl) ?_
  refine RefR.callC (t := 5) 1 2 [0, 1] rfl (by kernel_rfl) (F39f40_ok K a0) (fun r1 => ?_)
  refine RefR.ev0 (st' := ⟨[(0, .c (.ptr 0 0 0)), (3, .c (.str r1.1))], [.cells [.str r1.2.fsrc, .val (.int .i64 r1.2.fat), .own 2 r1.2.ftokens.length], .dead, E37.row r1.2.ftokens], [], 2⟩) 2 1 3 [0, 3] [0, 1, 2] rfl (by kernel_rfl) ?_
  refine RefR.nilC 3 (by kernel_rfl) ?_
  refine Ref.seqC (cd (bd Tryz.f25) [1, 1, 0]) (cd (bd Tryz.f25) [1, 1, 1]) (by kernel_rfl) ?_
  refine Ref.codeEq (c' := .block 0 (cd (bd Tryz.f25) [1, 1, 0, 0])) (by kernel_rfl) ?_
  refine Ref.block (go1 := fun u8 => ⟨[(0, .c (.ptr 0 0 0)), (3, .c (.str r1.1))], [.cells [.str r1.2.fsrc, .val (.int .i64 r1.2.fat), .own 2 r1.2.ftokens.length], .dead, E37.row r1.2.ftokens], [], 2⟩) ?_ (fun _ h => by cases h) (fun u8 => ?_)
  ·
    refine Ref.seqC (cd (bd Tryz.f25) [1, 1, 0, 0, 0]) (cd (bd Tryz.f25) [1, 1, 0, 0, 1]) (by kernel_rfl) ?_
    refine Ref.regionC 2 (by kernel_rfl) ?_
    refine RefR.ev0 (st' := ⟨[(0, .c (.ptr 0 0 0)), (3, .c (.str r1.1)), (6, .c (.val (.bool ((r1.1 == ([82, 69, 65, 76] : Bytes)) || (r1.1 == ([76, 82, 69, 65, 76] : Bytes))))))], [.cells [.str r1.2.fsrc, .val (.int .i64 r1.2.fat), .own 2 r1.2.ftokens.length], .dead, E37.row r1.2.ftokens], [], 2⟩) 0 7 7 [0, 3, 6] [0, 1, 2] rfl (by kernel_rfl) ?_
    refine RefR.letC (stf := fun x9 => ⟨[(0, .c (.ptr 0 0 0)), (3, .c (.str r1.1)), (6, .c (.val (.bool x9)))], [.cells [.str r1.2.fsrc, .val (.int .i64 r1.2.fat), .own 2 r1.2.ftokens.length], .dead, E37.row r1.2.ftokens], [], 2⟩) (by kernel_rfl) (fun x9 => ?_)
    refine RefR.nilC 7 (by kernel_rfl) ?_
    refine Ref.condC (.tmp 6) x9 (by kernel_rfl) rfl (by kernel_rfl) (fun hc => ?_) (fun hc => ?_)
    ·
      refine Ref.seqC (cd (bd Tryz.f25) [1, 1, 0, 0, 1, 0, 0]) (cd (bd Tryz.f25) [1, 1, 0, 0, 1, 0, 1]) (by kernel_rfl) ?_
      refine Ref.regionC 3 (by kernel_rfl) ?_
      refine RefR.ev0 (st' := ⟨[(16, .c (.val (.int .i64 r1.2.fat)))], [.cells [.str r1.2.fsrc, .val (.int .i64 r1.2.fat), .own 2 r1.2.ftokens.length], .dead, E37.row r1.2.ftokens], [], 2⟩) 0 4 4 [16] [0, 1, 2] rfl (by kernel_rfl) ?_
      refine RefR.callC (t := 17) 4 5 [] rfl (by kernel_rfl) (F13_ok K 2 r1.2.fat) (fun r10 => ?_)
      refine RefR.ev0 (st' := ⟨[(2, .c (errC r10))], [.cells [.str r1.2.fsrc, .val (.int .i64 r1.2.fat), .own 2 r1.2.ftokens.length], .dead, E37.row r1.2.ftokens], [], 2⟩) 5 1 6 [2] [0, 1, 2] rfl (by kernel_rfl) ?_
      refine RefR.nilC 6 (by kernel_rfl) ?_
      exact Ref.retC (t := (Sum.inr (r10, r1.2))) (by kernel_rfl) (by kernel_rfl)
    ·
      refine Ref.seqC (cd (bd Tryz.f25) [1, 1, 0, 0, 1, 1, 0]) (cd (bd Tryz.f25) [1, 1, 0, 0, 1, 1, 1]) (by kernel_rfl) ?_
      refine Ref.regionC 4 (by kernel_rfl) ?_
      refine RefR.ev0 (st' := ⟨[(0, .c (.ptr 0 0 0)), (3, .c (.str r1.1)), (19, .c (.str r1.1))], [.cells [.str r1.2.fsrc, .val (.int .i64 r1.2.fat), .own 2 r1.2.ftokens.length], .dead, E37.row r1.2.ftokens], [], 2⟩) 0 1 1 [0, 3, 19] [0, 1, 2] rfl (by kernel_rfl) ?_
      refine RefR.callC (t := 20) 1 2 [] rfl (by kernel_rfl) (F9_ok K r1.1) (fun r11 => ?_)
      refine RefR.ev0 (st' := ⟨[(0, .c (.ptr 0 0 0)), (3, .c (.str r1.1)), (18, .c (.val (.bool r11)))], [.cells [.str r1.2.fsrc, .val (.int .i64 r1.2.fat), .own 2 r1.2.ftokens.length], .dead, E37.row r1.2.ftokens], [], 2⟩) 2 1 3 [0, 3, 18] [0, 1, 2] rfl (by kernel_rfl) ?_
      refine RefR.nilC 3 (by kernel_rfl) ?_
      refine Ref.condC (.tmp 18) r11 (by kernel_rfl) rfl (by kernel_rfl) (fun hc => ?_) (fun hc => ?_)
      ·
        refine Ref.seqC (cd (bd Tryz.f25) [1, 1, 0, 0, 1, 1, 1, 0, 0]) (cd (bd Tryz.f25) [1, 1, 0, 0, 1, 1, 1, 0, 1]) (by kernel_rfl) ?_
        refine Ref.regionC 5 (by kernel_rfl) ?_
        refine RefR.ev0 (st' := ⟨[(21, .c (.ptr 0 0 0)), (22, .c (.str r1.1))], [.cells [.str r1.2.fsrc, .val (.int .i64 r1.2.fat), .own 2 r1.2.ftokens.length], .dead, E37.row r1.2.ftokens], [], 2⟩) 0 2 2 [21, 22] [0, 1, 2] rfl (by kernel_rfl) ?_
        refine RefR.callC (t := 23) 2 3 [0, 2] rfl (by kernel_rfl) (F23_ok K r1.2 2 r1.1 0) (fun r12 => ?_)
        refine RefR.ev0 (st' := ⟨[(2, .c (errC r12.1))], [.cells [.str r12.2.fsrc, .val (.int .i64 r12.2.fat), .own 2 r12.2.ftokens.length], .dead, E37.row r12.2.ftokens], [], 2⟩) 3 1 4 [2] [0, 1, 3] rfl (by kernel_rfl) ?_
        refine RefR.nilC 4 (by kernel_rfl) ?_
        exact Ref.retC (t := (Sum.inr (r12.1, r12.2))) (by kernel_rfl) (by kernel_rfl)
      ·
        refine Ref.seqC (cd (bd Tryz.f25) [1, 1, 0, 0, 1, 1, 1, 1, 0]) (cd (bd Tryz.f25) [1, 1, 0, 0, 1, 1, 1, 1, 1]) (by kernel_rfl) ?_
        refine Ref.regionC 6 (by kernel_rfl) ?_
        refine RefR.ev0 (st' := ⟨[(0, .c (.ptr 0 0 0)), (3, .c (.str r1.1)), (24, .c (.val (.bool (decide (((Int.ofNat r1.1.length) : Int) > 12)))))], [.cells [.str r1.2.fsrc, .val (.int .i64 r1.2.fat), .own 2 r1.2.ftokens.length], .dead, E37.row r1.2.ftokens], [], 2⟩) 0 4 4 [0, 3, 24] [0, 1, 2] rfl (by kernel_rfl) ?_
        refine RefR.letC (stf := fun x13 => ⟨[(0, .c (.ptr 0 0 0)), (3, .c (.str r1.1)), (24, .c (.val (.bool x13)))], [.cells [.str r1.2.fsrc, .val (.int .i64 r1.2.fat), .own 2 r1.2.ftokens.length], .dead, E37.row r1.2.ftokens], [], 2⟩) (by kernel_rfl) (fun x13 => ?_)
        refine RefR.nilC 4 (by kernel_rfl) ?_
        refine Ref.condC (.tmp 24) x13 (by kernel_rfl) rfl (by kernel_rfl) (fun hc => ?_) (fun hc => ?_)
        ·
          refine Ref.seqC (cd (bd Tryz.f25) [1, 1, 0, 0, 1, 1, 1, 1, 1, 0, 0]) (cd (bd Tryz.f25) [1, 1, 0, 0, 1, 1, 1, 1, 1, 0, 1]) (by kernel_rfl) ?_
          refine Ref.regionC 7 (by kernel_rfl) ?_
          refine RefR.ev0 (st' := ⟨[(31, .c (.val (.int .i64 r1.2.fat)))], [.cells [.str r1.2.fsrc, .val (.int .i64 r1.2.fat), .own 2 r1.2.ftokens.length], .dead, E37.row r1.2.ftokens], [], 2⟩) 0 4 4 [31] [0, 1, 2] rfl (by kernel_rfl) ?_
          refine RefR.callC (t := 32) 4 5 [] rfl (by kernel_rfl) (F13_ok K 1 r1.2.fat) (fun r14 => ?_)
          refine RefR.ev0 (st' := ⟨[(2, .c (errC r14))], [.cells [.str r1.2.fsrc, .val (.int .i64 r1.2.fat), .own 2 r1.2.ftokens.length], .dead, E37.row r1.2.ftokens], [], 2⟩) 5 1 6 [2] [0, 1, 2] rfl (by kernel_rfl) ?_
          refine RefR.nilC 6 (by kernel_rfl) ?_
          exact Ref.retC (t := (Sum.inr (r14, r1.2))) (by kernel_rfl) (by kernel_rfl)
        ·
          refine Ref.skipC (by kernel_rfl) ?_
          refine Ref.conv (Conv.keep (st' := ⟨[(0, .c (.ptr 0 0 0)), (3, .c (.str r1.1))], [.cells [.str r1.2.fsrc, .val (.int .i64 r1.2.fat), .own 2 r1.2.ftokens.length], .dead, E37.row r1.2.ftokens], [], 2⟩) [0, 3] [0, 1, 2] (by kernel_rfl)) ?_
          exact Ref.nil (t := ()) (by kernel_rfl)
  ·
    refine Ref.seqC (cd (bd Tryz.f25) [1, 1, 1, 0]) (cd (bd Tryz.f25) [1, 1, 1, 1]) (by kernel_rfl) ?_
    refine Ref.regionC 8 (by kernel_rfl) ?_
    refine RefR.ev0 (st' := ⟨[(33, .c (.ptr 0 0 0)), (34, .c (.str r1.1))], [.cells [.str r1.2.fsrc, .val (.int .i64 r1.2.fat), .own 2 r1.2.ftokens.length], .dead, E37.row r1.2.ftokens], [], 2⟩) 0 2 2 [33, 34] [0, 1, 2] rfl (by kernel_rfl) ?_
    refine RefR.callC (t := 35) 2 3 [0, 2] rfl (by kernel_rfl) (F23_ok K r1.2 1 r1.1 0) (fun r15 => ?_)
    refine RefR.ev0 (st' := ⟨[(2, .c (errC r15.1))], [.cells [.str r15.2.fsrc, .val (.int .i64 r15.2.fat), .own 2 r15.2.ftokens.length], .dead, E37.row r15.2.ftokens], [], 2⟩) 3 1 4 [2] [0, 1, 3] rfl (by kernel_rfl) ?_
    refine RefR.nilC 4 (by kernel_rfl) ?_
    exact Ref.retC (t := (r15.1, r15.2)) (by kernel_rfl) (by kernel_rfl)

/-- (*governor/lex.lexer).number -/
def F27 (K : Nat) (a0 : S42) : Option ((Err × S42) ⊕ (Err × S42)) :=
  ((fnS (F39f26 K a0)).bind (fun r1 => ((fnS (F41 K r1.1)).bind (fun r2 => (letV (((!(!r2.2)) || (decide (((Int.ofNat r1.1.length) : Int) > 5))) || (decide ((r2.1 : Int) > 32768))) (fun (x3 : Bool) => (if x3 = true then ((fnS (F13 K 1 r1.2.fat)).bind (fun r4 => (some (.inl (r4, r1.2))))) else ((fnS (F23 K r1.2 3 r1.1 r2.1)).bind (fun r5 => (some (.inl (r5.1, r5.2))))))))))))

theorem F27_ok (K : Nat) (a0 : S42) : DFun Tryz.prog 27 [.c (.ptr 0 0 0)] [.cells [.str a0.fsrc, .val (.int .i64 a0.fat), .own 1 a0.ftokens.length], E37.row a0.ftokens] (fnS (F27 K a0)) (fun r => .c (errC r.1)) (fun r => [.cells [.str r.2.fsrc, .val (.int .i64 r.2.fat), .own 2 r.2.ftokens.length], .dead, E37.row r.2.ftokens]) := by
  refine DFun.intro (fn := Tryz.f27) (c := cd (bd Tryz.f27) []) (rs := fun r => ⟨[(2, .c (errC r.1))], [.cells [.str r.2.fsrc, .val (.int .i64 r.2.fat), .own 2 r.2.ftokens.length], .dead, E37.row r.2.ftokens], [], 2⟩) (by kernel_rfl) (by kernel_rfl) (by kernel_rfl) ?_ (fun r => by kernel_rfl) (fun r => by kernel_rfl) (fun r => by kernel_rfl) (fun r => by kernel_rfl)
  unfold F27
  refine Ref.seqC (cd (bd Tryz.f27) [0]) (cd (bd Tryz.f27) [1]) (by kernel_rfl) ?_
  refine Ref.regionC 0 (by kernel_rfl) ?_
  refine RefR.ev0 (st' := ⟨[(0, .c (.ptr 0 0 0))], [.cells [.str a0.fsrc, .val (.int .i64 a0.fat), .own 1 a0.ftokens.length], E37.row a0.ftokens], [], 2⟩) 0 1 1 [0] [0, 1] rfl (by kernel_rfl) ?_
  refine RefR.nilC 1 (by kernel_rfl) ?_
  refine Ref.seqC (cd (bd Tryz.f27) [1, 0]) (cd (bd Tryz.f27) [1, 1]) (by kernel_rfl) ?_
  refine Ref.regionC 1 (by kernel_rfl) ?_
  refine RefR.ev0 (st' := ⟨[(0, .c (.ptr 0 0 0)), (6, .c (.ptr 0 0 0))], [.cells [.str a0.fsrc, .val (.int .i64 a0.fat), .own 1 a0.ftokens.length], E37.row a0.ftokens], [], 2⟩) 0 1 1 [0, 6] [0, 1] rfl (by kernel_rfl) ?_
  refine RefR.callC (t := 7) 1 2 [0, 1] rfl (by kernel_rfl) (F39f26_ok K a0) (fun r1 => ?_)
  refine RefR.ev0 (st' := ⟨[(0, .c (.ptr 0 0 0)), (3, .c (.str r1.1))], [.cells [.str r1.2.fsrc, .val (.int .i64 r1.2.fat), .own 2 r1.2.ftokens.length], .dead, E37.row r1.2.ftokens], [], 2⟩) 2 1 3 [0, 3] [0, 1, 2] rfl (by kernel_rfl) ?_
  refine RefR.nilC 3 (by kernel_rfl) ?_
  refine Ref.seqC (cd (bd Tryz.f27) [1, 1, 0]) (cd (bd Tryz.f27) [1, 1, 1]) (by kernel_rfl) ?_
  refine Ref.regionC 2 (by kernel_rfl) ?_
  refine RefR.ev0 (st' := ⟨[(0, .c (.ptr 0 0 0)), (3, .c (.str r1.1)), (9, .c (.str r1.1))], [.cells [.str r1.2.fsrc, .val (.int .i64 r1.2.fat), .own 2 r1.2.ftokens.length], .dead, E37.row r1.2.ftokens], [], 2⟩) 0 1 1 [0, 3, 9] [0, 1, 2] rfl (by kernel_rfl) ?_
  refine RefR.callC (t := 10) 1 2 [] rfl (by kernel_rfl) (F41_ok K r1.1) (fun r2 => ?_)
  refine RefR.ev0 (st' := ⟨[(0, .c (.ptr 0 0 0)), (3, .c (.str r1.1)), (4, .c (.val (.int .i64 r2.1))), (5, .c (.iface r2.2 106 .bot))], [.cells [.str r1.2.fsrc, .val (.int .i64 r1.2.fat), .own 2 r1.2.ftokens.length], .dead, E37.row r1.2.ftokens], [], 2⟩) 2 5 7 [0, 3, 4, 5] [0, 1, 2] rfl (by kernel_rfl) ?_
  refine RefR.nilC 7 (by kernel_rfl) ?_
  refine Ref.seqC (cd (bd Tryz.f27) [1, 1, 1, 0]) (cd (bd Tryz.f27) [1, 1, 1, 1]) (by kernel_rfl) ?_
  refine Ref.seqC (cd (bd Tryz.f27) [1, 1, 1, 0, 0]) (cd (bd Tryz.f27) [1, 1, 1, 0, 1]) (by kernel_rfl) ?_
  refine Ref.regionC 3 (by kernel_rfl) ?_
  refine RefR.ev0 (st' := ⟨[(0, .c (.ptr 0 0 0)), (3, .c (.str r1.1)), (4, .c (.val (.int .i64 r2.1))), (23, .c (.val (.bool (((!(!r2.2)) || (decide (((Int.ofNat r1.1.length) : Int) > 5))) || (decide ((r2.1 : Int) > 32768))))))], [.cells [.str r1.2.fsrc, .val (.int .i64 r1.2.fat), .own 2 r1.2.ftokens.length], .dead, E37.row r1.2.ftokens], [], 2⟩) 0 11 11 [0, 3, 4, 23] [0, 1, 2] rfl (by kernel_rfl) ?_
  refine RefR.letC (stf := fun x3 => ⟨[(0, .c (.ptr 0 0 0)), (3, .c (.str r1.1)), (4, .c (.val (.int .i64 r2.1))), (23, .c (.val (.bool x3)))], [.cells [.str r1.2.fsrc, .val (.int .i64 r1.2.fat), .own 2 r1.2.ftokens.length], .dead, E37.row r1.2.ftokens], [], 2⟩) (by kernel_rfl) (fun x3 => ?_)
  refine RefR.nilC 11 (by kernel_rfl) ?_
  refine Ref.condC (.tmp 23) x3 (by kernel_rfl) rfl (by kernel_rfl) (fun hc => ?_) (fun hc => ?_)
  ·
    refine Ref.seqC (cd (bd Tryz.f27) [1, 1, 1, 0, 1, 0, 0]) (cd (bd Tryz.f27) [1, 1, 1, 0, 1, 0, 1]) (by kernel_rfl) ?_
    refine Ref.regionC 4 (by kernel_rfl) ?_
    refine RefR.ev0 (st' := ⟨[(27, .c (.val (.int .i64 r1.2.fat)))], [.cells [.str r1.2.fsrc, .val (.int .i64 r1.2.fat), .own 2 r1.2.ftokens.length], .dead, E37.row r1.2.ftokens], [], 2⟩) 0 4 4 [27] [0, 1, 2] rfl (by kernel_rfl) ?_
    refine RefR.callC (t := 28) 4 5 [] rfl (by kernel_rfl) (F13_ok K 1 r1.2.fat) (fun r4 => ?_)
    refine RefR.ev0 (st' := ⟨[(2, .c (errC r4))], [.cells [.str r1.2.fsrc, .val (.int .i64 r1.2.fat), .own 2 r1.2.ftokens.length], .dead, E37.row r1.2.ftokens], [], 2⟩) 5 1 6 [2] [0, 1, 2] rfl (by kernel_rfl) ?_
    refine RefR.nilC 6 (by kernel_rfl) ?_
    exact Ref.retC (t := (r4, r1.2)) (by kernel_rfl) (by kernel_rfl)
  ·
    refine Ref.skipC (by kernel_rfl) ?_
    refine Ref.seqC (cd (bd Tryz.f27) [1, 1, 1, 1, 0]) (cd (bd Tryz.f27) [1, 1, 1, 1, 1]) (by kernel_rfl) ?_
    refine Ref.regionC 5 (by kernel_rfl) ?_
    refine RefR.ev0 (st' := ⟨[(29, .c (.ptr 0 0 0)), (30, .c (.str r1.1)), (31, .c (.val (.int .i64 r2.1)))], [.cells [.str r1.2.fsrc, .val (.int .i64 r1.2.fat), .own 2 r1.2.ftokens.length], .dead, E37.row r1.2.ftokens], [], 2⟩) 0 3 3 [29, 30, 31] [0, 1, 2] rfl (by kernel_rfl) ?_
    refine RefR.callC (t := 32) 3 4 [0, 2] rfl (by kernel_rfl) (F23_ok K r1.2 3 r1.1 r2.1) (fun r5 => ?_)
    refine RefR.ev0 (st' := ⟨[(2, .c (errC r5.1))], [.cells [.str r5.2.fsrc, .val (.int .i64 r5.2.fat), .own 2 r5.2.ftokens.length], .dead, E37.row r5.2.ftokens], [], 2⟩) 4 1 5 [2] [0, 1, 3] rfl (by kernel_rfl) ?_
    refine RefR.nilC 5 (by kernel_rfl) ?_
    exact Ref.retC (t := (r5.1, r5.2)) (by kernel_rfl) (by kernel_rfl)

/-- (*governor/lex.lexer).comment -/
def F22 (K : Nat) (a0 : S42) : Option ((Err × S42) ⊕ (Err × S42)) :=
  (chk [bndOk a0.fsrc.length (IntKind.i64.wrap (a0.fat + 2)) (Int.ofNat a0.fsrc.length)] (letV ((a0.fsrc.drop ((IntKind.i64.wrap (a0.fat + 2)) : Int).toNat).take (((Int.ofNat a0.fsrc.length) : Int).toNat - ((IntKind.i64.wrap (a0.fat + 2)) : Int).toNat)) (fun (x1 : Bytes) => ((condM true (fnS (F38 K x1 ([42, 41] : Bytes))) default).bind (fun r2 => (if (decide ((r2 : Int) < 0)) = true then ((fnS (F13 K 1 a0.fat)).bind (fun r3 => (some (.inl (r3, a0))))) else (some (.inl (none, (⟨a0.fsrc, (IntKind.i64.wrap (a0.fat + (IntKind.i64.wrap (r2 + 4)))), a0.ftokens⟩ : S42))))))))))

theorem F22_ok (K : Nat) (a0 : S42) : DFun Tryz.prog 22 [.c (.ptr 0 0 0)] [.cells [.str a0.fsrc, .val (.int .i64 a0.fat), .own 1 a0.ftokens.length], E37.row a0.ftokens] (fnS (F22 K a0)) (fun r => .c (errC r.1)) (fun r => [.cells [.str r.2.fsrc, .val (.int .i64 r.2.fat), .own 2 r.2.ftokens.length], .dead, E37.row r.2.ftokens]) := by
  refine DFun.intro (fn := Tryz.f22) (c := cd (bd Tryz.f22) []) (rs := fun r => ⟨[(2, .c (errC r.1))], [.cells [.str r.2.fsrc, .val (.int .i64 r.2.fat), .own 2 r.2.ftokens.length], .dead, E37.row r.2.ftokens], [], 2⟩) (by kernel_rfl) (by kernel_rfl) (by kernel_rfl) ?_ (fun r => by kernel_rfl) (fun r => by kernel_rfl) (fun r => by kernel_rfl) (fun r => by kernel_rfl)
  unfold F22
  refine Ref.seqC (cd (bd Tryz.f22) [0]) (cd (bd Tryz.f22) [1]) (by kernel_rfl) ?_
  refine Ref.regionC 0 (by kernel_rfl) ?_
  refine RefR.ev0 (st' := ⟨[(0, .c (.ptr 0 0 0))], [.cells [.str a0.fsrc, .val (.int .i64 a0.fat), .own 1 a0.ftokens.length], E37.row a0.ftokens], [], 2⟩) 0 1 1 [0] [0, 1] rfl (by kernel_rfl) ?_
  refine RefR.nilC 1 (by kernel_rfl) ?_
  refine Ref.seqC (cd (bd Tryz.f22) [1, 0]) (cd (bd Tryz.f22) [1, 1]) (by kernel_rfl) ?_
  refine Ref.drawnY 1 (by kernel_rfl) (by kernel_rfl) ?_
  refine RefY.evC0 (st' := ⟨[(0, .c (.ptr 0 0 0)), (6, .c (.ptr 0 0 0)), (10, .c (.ptr 0 0 1))], [.cells [.str a0.fsrc, .val (.int .i64 a0.fat), .own 1 a0.ftokens.length], E37.row a0.ftokens], [], 2⟩) (fuel' := 6) [0, 1, 2, 4, 5, 6] [0, 6, 10] [0, 1] rfl (by kernel_rfl) (by kernel_rfl) ?_
  refine RefY.toX [] ?_
  refine RefX.evC (vs := [bndOk a0.fsrc.length (IntKind.i64.wrap (a0.fat + 2)) (Int.ofNat a0.fsrc.length)]) (st' := ⟨[(0, .c (.ptr 0 0 0)), (13, .c (.str ((a0.fsrc.drop ((IntKind.i64.wrap (a0.fat + 2)) : Int).toNat).take (((Int.ofNat a0.fsrc.length) : Int).toNat - ((IntKind.i64.wrap (a0.fat + 2)) : Int).toNat))))], [.cells [.str a0.fsrc, .val (.int .i64 a0.fat), .own 1 a0.ftokens.length], E37.row a0.ftokens], [], 2⟩) (fuel' := 2) [3, 7, 8, 9] [0, 13] [0, 1] rfl (by kernel_rfl) (by kernel_rfl) ?_
  refine RefX.letC (stf := fun x1 => ⟨[(0, .c (.ptr 0 0 0)), (13, .c (.str x1))], [.cells [.str a0.fsrc, .val (.int .i64 a0.fat), .own 1 a0.ftokens.length], E37.row a0.ftokens], [], 2⟩) (by kernel_rfl) (fun x1 => ?_)
  refine RefX.lookC (t := 14) (g := []) (b := true) (fuel' := 1) 10 [] (default : Int) rfl (by kernel_rfl) (by kernel_rfl) (F38_ok K x1 ([42, 41] : Bytes)) (fun _ => rfl) (fun r2 => ?_)
  refine RefX.evC0 (st' := ⟨[(0, .c (.ptr 0 0 0)), (3, .c (.val (.int .i64 r2)))], [.cells [.str a0.fsrc, .val (.int .i64 a0.fat), .own 1 a0.ftokens.length], E37.row a0.ftokens], [], 2⟩) (fuel' := 0) [11] [0, 3] [0, 1] rfl (by kernel_rfl) (by kernel_rfl) ?_
  refine RefX.done (by kernel_rfl) ?_
  refine Ref.seqC (cd (bd Tryz.f22) [1, 1, 0]) (cd (bd Tryz.f22) [1, 1, 1]) (by kernel_rfl) ?_
  refine Ref.seqC (cd (bd Tryz.f22) [1, 1, 0, 0]) (cd (bd Tryz.f22) [1, 1, 0, 1]) (by kernel_rfl) ?_
  refine Ref.regionC 2 (by kernel_rfl) ?_
  refine RefR.ev0 (st' := ⟨[(0, .c (.ptr 0 0 0)), (3, .c (.val (.int .i64 r2))), (16, .c (.val (.bool (decide ((r2 : Int) < 0)))))], [.cells [.str a0.fsrc, .val (.int .i64 a0.fat), .own 1 a0.ftokens.length], E37.row a0.ftokens], [], 2⟩) 0 2 2 [0, 3, 16] [0, 1] rfl (by kernel_rfl) ?_
  refine RefR.nilC 2 (by kernel_rfl) ?_
  refine Ref.condC (.tmp 16) (decide ((r2 : Int) < 0)) (by kernel_rfl) rfl (by kernel_rfl) (fun hc => ?_) (fun hc => ?_)
  ·
    refine Ref.seqC (cd (bd Tryz.f22) [1, 1, 0, 1, 0, 0]) (cd (bd Tryz.f22) [1, 1, 0, 1, 0, 1]) (by kernel_rfl) ?_
    refine Ref.regionC 3 (by kernel_rfl) ?_
    refine RefR.ev0 (st' := ⟨[(20, .c (.val (.int .i64 a0.fat)))], [.cells [.str a0.fsrc, .val (.int .i64 a0.fat), .own 1 a0.ftokens.length], E37.row a0.ftokens], [], 2⟩) 0 4 4 [20] [0, 1] rfl (by kernel_rfl) ?_
    refine RefR.callC (t := 21) 4 5 [] rfl (by kernel_rfl) (F13_ok K 1 a0.fat) (fun r3 => ?_)
    refine RefR.ev0 (st' := ⟨[(2, .c (errC r3))], [.cells [.str a0.fsrc, .val (.int .i64 a0.fat), .own 1 a0.ftokens.length], E37.row a0.ftokens], [], 2⟩) 5 1 6 [2] [0, 1] rfl (by kernel_rfl) ?_
    refine RefR.nilC 6 (by kernel_rfl) ?_
    refine Ref.conv (Conv.move (st' := ⟨[(2, .c (errC r3))], [.cells [.str a0.fsrc, .val (.int .i64 a0.fat), .own 2 a0.ftokens.length], .dead, E37.row a0.ftokens], [], 2⟩) 1 (by kernel_rfl) (by kernel_rfl)) ?_
    exact Ref.retC (t := (r3, a0)) (by kernel_rfl) (by kernel_rfl)
  ·
    refine Ref.skipC (by kernel_rfl) ?_
    refine Ref.seqC (cd (bd Tryz.f22) [1, 1, 1, 0]) (cd (bd Tryz.f22) [1, 1, 1, 1]) (by kernel_rfl) ?_
    refine Ref.regionC 4 (by kernel_rfl) ?_
    refine RefR.ev0 (st' := ⟨[], [.cells [.str a0.fsrc, .val (.int .i64 (IntKind.i64.wrap (a0.fat + (IntKind.i64.wrap (r2 + 4))))), .own 1 a0.ftokens.length], E37.row a0.ftokens], [], 2⟩) 0 10 10 [] [0, 1] rfl (by kernel_rfl) ?_
    refine RefR.nilC 10 (by kernel_rfl) ?_
    refine Ref.seqC (cd (bd Tryz.f22) [1, 1, 1, 1, 0]) (cd (bd Tryz.f22) [1, 1, 1, 1, 1]) (by kernel_rfl) ?_
    refine Ref.regionC 5 (by kernel_rfl) ?_
    refine RefR.ev0 (st' := ⟨[(2, .c (.val .nilIface))], [.cells [.str a0.fsrc, .val (.int .i64 (IntKind.i64.wrap (a0.fat + (IntKind.i64.wrap (r2 + 4))))), .own 1 a0.ftokens.length], E37.row a0.ftokens], [], 2⟩) 0 1 1 [2] [0, 1] rfl (by kernel_rfl) ?_
    refine RefR.nilC 1 (by kernel_rfl) ?_
    refine Ref.conv (Conv.move (st' := ⟨[(2, .c (.val .nilIface))], [.cells [.str a0.fsrc, .val (.int .i64 (IntKind.i64.wrap (a0.fat + (IntKind.i64.wrap (r2 + 4))))), .own 2 a0.ftokens.length], .dead, E37.row a0.ftokens], [], 2⟩) 1 (by kernel_rfl) (by kernel_rfl)) ?_
    refine Ref.conv (Conv.slot 2 (.c (errC none)) (DLe.c (errC_nil)) (by kernel_rfl)) ?_
    exact Ref.retC (t := (none, (⟨a0.fsrc, (IntKind.i64.wrap (a0.fat + (IntKind.i64.wrap (r2 + 4)))), a0.ftokens⟩ : S42))) (by kernel_rfl) (by kernel_rfl)

/-- (*governor/lex.lexer).next -/
def F14 (K : Nat) (a0 : S42) : Option ((Err × S42) ⊕ (Err × S42)) :=
  ((fnS (F21 K a0 0)).bind (fun r1 => ((fnS (F21 K r1.2 1)).bind (fun r2 => (bindS (blockS (bindS (blockS (bindS (blockS (bindS (blockS (bindS (blockS (bindS (blockS (bindS (blockS (bindS (blockS (bindS (if (((Int.ofNat r1.1.toNat) : Int) == 32) = true then (some (.inr ((((Int.ofNat r1.1.toNat) : Int) == 32)))) else (if (((Int.ofNat r1.1.toNat) : Int) == 9) = true then (some (.inr ((((Int.ofNat r1.1.toNat) : Int) == 9)))) else (if (((Int.ofNat r1.1.toNat) : Int) == 10) = true then (some (.inr ((((Int.ofNat r1.1.toNat) : Int) == 10)))) else (some (.inr ((((Int.ofNat r1.1.toNat) : Int) == 13))))))) (fun (u1236 : Bool) => (if u1236 = true then (some (.inl (Sum.inl ()))) else (if (((Int.ofNat r1.1.toNat) : Int) == 40) = true then (some (.inl (Sum.inr (Sum.inl ())))) else (bindS (if (((Int.ofNat r1.1.toNat) : Int) == 58) = true then (some (.inr ((((Int.ofNat r1.1.toNat) : Int) == 58)))) else (if (((Int.ofNat r1.1.toNat) : Int) == 63) = true then (some (.inr ((((Int.ofNat r1.1.toNat) : Int) == 63)))) else (some (.inr ((((Int.ofNat r1.1.toNat) : Int) == 62)))))) (fun (u1237 : Bool) => (if u1237 = true then (some (.inl (Sum.inr (Sum.inr (Sum.inl ()))))) else (if (((Int.ofNat r1.1.toNat) : Int) == 60) = true then (some (.inl (Sum.inr (Sum.inr (Sum.inr (Sum.inl ())))))) else (if (((Int.ofNat r1.1.toNat) : Int) == 46) = true then (some (.inl (Sum.inr (Sum.inr (Sum.inr (Sum.inr (Sum.inl ()))))))) else (bindS (if (((Int.ofNat r1.1.toNat) : Int) == 43) = true then (some (.inr ((((Int.ofNat r1.1.toNat) : Int) == 43)))) else (if (((Int.ofNat r1.1.toNat) : Int) == 45) = true then (some (.inr ((((Int.ofNat r1.1.toNat) : Int) == 45)))) else (if (((Int.ofNat r1.1.toNat) : Int) == 42) = true then (some (.inr ((((Int.ofNat r1.1.toNat) : Int) == 42)))) else (if (((Int.ofNat r1.1.toNat) : Int) == 47) = true then (some (.inr ((((Int.ofNat r1.1.toNat) : Int) == 47)))) else (if (((Int.ofNat r1.1.toNat) : Int) == 61) = true then (some (.inr ((((Int.ofNat r1.1.toNat) : Int) == 61)))) else (if (((Int.ofNat r1.1.toNat) : Int) == 41) = true then (some (.inr ((((Int.ofNat r1.1.toNat) : Int) == 41)))) else (if (((Int.ofNat r1.1.toNat) : Int) == 91) = true then (some (.inr ((((Int.ofNat r1.1.toNat) : Int) == 91)))) else (if (((Int.ofNat r1.1.toNat) : Int) == 93) = true then (some (.inr ((((Int.ofNat r1.1.toNat) : Int) == 93)))) else (if (((Int.ofNat r1.1.toNat) : Int) == 44) = true then (some (.inr ((((Int.ofNat r1.1.toNat) : Int) == 44)))) else (some (.inr ((((Int.ofNat r1.1.toNat) : Int) == 59))))))))))))) (fun (u1238 : Bool) => (if u1238 = true then (some (.inl (Sum.inr (Sum.inr (Sum.inr (Sum.inr (Sum.inr (Sum.inl ())))))))) else (some (.inl (Sum.inr (Sum.inr (Sum.inr (Sum.inr (Sum.inr (Sum.inr (Sum.inl ())))))))))))))))))))))) (fun (u1235 : Unit) => (some (.inl (Sum.inr (Sum.inr (Sum.inr (Sum.inr (Sum.inr (Sum.inr (Sum.inr (none, (⟨r2.2.fsrc, (IntKind.i64.wrap (r2.2.fat + 1)), r2.2.ftokens⟩ : S42)))))))))))))) (fun (u1231 : Unit) => (if (((Int.ofNat r2.1.toNat) : Int) == 42) = true then ((fnS (F22 K r2.2)).bind (fun r1239 => (some (.inl (Sum.inr (Sum.inr (Sum.inr (Sum.inr (Sum.inr (Sum.inr (r1239.1, r1239.2))))))))))) else (some (.inl (Sum.inr (Sum.inr (Sum.inr (Sum.inr (Sum.inr (Sum.inl ())))))))))))) (fun (u1223 : Unit) => (if (((Int.ofNat r2.1.toNat) : Int) == 61) = true then (chk [bndOk r2.2.fsrc.length r2.2.fat (IntKind.i64.wrap (r2.2.fat + 2))] (letV ((r2.2.fsrc.drop (r2.2.fat : Int).toNat).take (((IntKind.i64.wrap (r2.2.fat + 2)) : Int).toNat - (r2.2.fat : Int).toNat)) (fun (x1240 : Bytes) => ((fnS (F23 K r2.2 4 x1240 0)).bind (fun r1241 => (some (.inl (Sum.inr (Sum.inr (Sum.inr (Sum.inr (Sum.inr (r1241.1, r1241.2))))))))))))) else (if (((Int.ofNat r1.1.toNat) : Int) == 63) = true then ((fnS (F13 K 1 r2.2.fat)).bind (fun r1242 => (some (.inl (Sum.inr (Sum.inr (Sum.inr (Sum.inr (Sum.inr (r1242, r2.2)))))))))) else (some (.inl (Sum.inr (Sum.inr (Sum.inr (Sum.inr (Sum.inl ())))))))))))) (fun (u1206 : Unit) => (letV ((((Int.ofNat r2.1.toNat) : Int) == 61) || (((Int.ofNat r2.1.toNat) : Int) == 62)) (fun (x1243 : Bool) => (if x1243 = true then (chk [bndOk r2.2.fsrc.length r2.2.fat (IntKind.i64.wrap (r2.2.fat + 2))] (letV ((r2.2.fsrc.drop (r2.2.fat : Int).toNat).take (((IntKind.i64.wrap (r2.2.fat + 2)) : Int).toNat - (r2.2.fat : Int).toNat)) (fun (x1244 : Bytes) => ((fnS (F23 K r2.2 4 x1244 0)).bind (fun r1245 => (some (.inl (Sum.inr (Sum.inr (Sum.inr (Sum.inr (r1245.1, r1245.2)))))))))))) else (some (.inl (Sum.inr (Sum.inr (Sum.inr (Sum.inl ())))))))))))) (fun (u1169 : Unit) => (if (((Int.ofNat r2.1.toNat) : Int) == 46) = true then ((fnS (F23 K r2.2 4 ([46, 46] : Bytes) 0)).bind (fun r1246 => (some (.inl (Sum.inr (Sum.inr (Sum.inr (r1246.1, r1246.2)))))))) else (some (.inr ())))))) (fun (u1092 : Unit) => (some (.inl (Sum.inr (Sum.inl ()))))))) (fun (u937 : Unit) => ((fnS (F24 K r1.1)).bind (fun r1247 => (if r1247 = true then ((fnS (F25 K r2.2)).bind (fun r1248 => (some (.inl (Sum.inr (r1248.1, r1248.2)))))) else ((fnS (F26 K r1.1)).bind (fun r1249 => (if r1249 = true then ((fnS (F27 K r2.2)).bind (fun r1250 => (some (.inl (Sum.inr (r1250.1, r1250.2)))))) else ((fnS (F13 K 1 r2.2.fat)).bind (fun r1251 => (some (.inl (Sum.inr (r1251, r2.2))))))))))))))) (fun (u627 : Unit) => ((fnS (F23 K r2.2 4 [r1.1] 0)).bind (fun r1252 => (some (.inl (r1252.1, r1252.2)))))))))))

theorem F14_ok (K : Nat) (a0 : S42) : DFun Tryz.prog 14 [.c (.ptr 0 0 0)] [.cells [.str a0.fsrc, .val (.int .i64 a0.fat), .own 1 a0.ftokens.length], E37.row a0.ftokens] (fnS (F14 K a0)) (fun r => .c (errC r.1)) (fun r => [.cells [.str r.2.fsrc, .val (.int .i64 r.2.fat), .own 2 r.2.ftokens.length], .dead, E37.row r.2.ftokens]) := by
  refine DFun.intro (fn := Tryz.f14) (c := cd (bd Tryz.f14) []) (rs := fun r => ⟨[(2, .c (errC r.1))], [.cells [.str r.2.fsrc, .val (.int .i64 r.2.fat), .own 2 r.2.ftokens.length], .dead, E37.row r.2.ftokens], [], 2⟩) (by kernel_rfl) (by kernel_rfl) (by kernel_rfl) ?_ (fun r => by kernel_rfl) (fun r => by kernel_rfl) (fun r => by kernel_rfl) (fun r => by kernel_rfl)
  unfold F14
  refine Ref.seqC (cd (bd Tryz.f14) [0]) (cd (bd Tryz.f14) [1]) (by kernel_rfl) ?_
  refine Ref.regionC 0 (by kernel_rfl) ?_
  refine RefR.ev0 (st' := ⟨[(0, .c (.ptr 0 0 0))], [.cells [.str a0.fsrc, .val (.int .i64 a0.fat), .own 1 a0.ftokens.length], E37.row a0.ftokens], [], 2⟩) 0 1 1 [0] [0, 1] rfl (by kernel_rfl) ?_
  refine RefR.nilC 1 (by kernel_rfl) ?_
  refine Ref.seqC (cd (bd Tryz.f14) [1, 0]) (cd (bd Tryz.f14) [1, 1]) (by kernel_rfl) ?_
  refine Ref.regionC 1 (by kernel_rfl) ?_
  refine RefR.ev0 (st' := ⟨[(0, .c (.ptr 0 0 0)), (5, .c (.ptr 0 0 0))], [.cells [.str a0.fsrc, .val (.int .i64 a0.fat), .own 1 a0.ftokens.length], E37.row a0.ftokens], [], 2⟩) 0 1 1 [0, 5] [0, 1] rfl (by kernel_rfl) ?_
  refine RefR.callC (t := 6) 1 2 [0, 1] rfl (by kernel_rfl) (F21_ok K a0 0) (fun r1 => ?_)
  refine RefR.ev0 (st' := ⟨[(0, .c (.ptr 0 0 0)), (6, .c (.val (.int .u8 (Int.ofNat r1.1.toNat)))), (7, .c (.ptr 0 0 0))], [.cells [.str r1.2.fsrc, .val (.int .i64 r1.2.fat), .own 2 r1.2.ftokens.length], .dead, E37.row r1.2.ftokens], [], 2⟩) 2 1 3 [0, 6, 7] [0, 1, 2] rfl (by kernel_rfl) ?_
  refine RefR.callC (t := 8) 3 4 [0, 2] rfl (by kernel_rfl) (F21_ok K r1.2 1) (fun r2 => ?_)
  refine RefR.ev0 (st' := ⟨[(0, .c (.ptr 0 0 0)), (3, .c (.val (.int .u8 (Int.ofNat r1.1.toNat)))), (4, .c (.val (.int .u8 (Int.ofNat r2.1.toNat))))], [.cells [.str r2.2.fsrc, .val (.int .i64 r2.2.fat), .own 2 r2.2.ftokens.length], .dead, E37.row r2.2.ftokens], [], 2⟩) 4 2 6 [0, 3, 4] [0, 1, 3] rfl (by kernel_rfl) ?_
  refine RefR.nilC 6 (by kernel_rfl) ?_
  refine Ref.seqC (cd (bd Tryz.f14) [1, 1, 0]) (cd (bd Tryz.f14) [1, 1, 1]) (by kernel_rfl) ?_
  refine Ref.seqC (cd (bd Tryz.f14) [1, 1, 0, 0]) (cd (bd Tryz.f14) [1, 1, 0, 1]) (by kernel_rfl) ?_
  refine Ref.regionC 2 (by kernel_rfl) ?_
  refine RefR.ev0 (st' := ⟨[(0, .c (.ptr 0 0 0)), (3, .c (.val (.int .u8 (Int.ofNat r1.1.toNat)))), (4, .c (.val (.int .u8 (Int.ofNat r2.1.toNat)))), (9, .c (.val (.int .u8 (Int.ofNat r1.1.toNat))))], [.cells [.str r2.2.fsrc, .val (.int .i64 r2.2.fat), .own 2 r2.2.ftokens.length], .dead, E37.row r2.2.ftokens], [], 2⟩) 0 1 1 [0, 3, 4, 9] [0, 1, 2] rfl (by kernel_rfl) ?_
  refine RefR.nilC 1 (by kernel_rfl) ?_
  refine Ref.codeEq (c' := .block 0 (cd (bd Tryz.f14) [1, 1, 0, 1, 0])) (by kernel_rfl) ?_
  refine Ref.block (go1 := fun u627 => ⟨[(0, .c (.ptr 0 0 0)), (3, .c (.val (.int .u8 (Int.ofNat r1.1.toNat))))], [.cells [.str r2.2.fsrc, .val (.int .i64 r2.2.fat), .own 2 r2.2.ftokens.length], .dead, E37.row r2.2.ftokens], [], 2⟩) ?_ (fun _ h => by cases h) (fun u627 => ?_)
  ·
    refine Ref.seqC (cd (bd Tryz.f14) [1, 1, 0, 1, 0, 0]) (cd (bd Tryz.f14) [1, 1, 0, 1, 0, 1]) (by kernel_rfl) ?_
    refine Ref.codeEq (c' := .block 7 (cd (bd Tryz.f14) [1, 1, 0, 1, 0, 0, 0])) (by kernel_rfl) ?_
    refine Ref.block (go1 := fun u937 => ⟨[(0, .c (.ptr 0 0 0)), (3, .c (.val (.int .u8 (Int.ofNat r1.1.toNat))))], [.cells [.str r2.2.fsrc, .val (.int .i64 r2.2.fat), .own 2 r2.2.ftokens.length], .dead, E37.row r2.2.ftokens], [], 2⟩) ?_ (fun a => match a with | .inl _ => (fun h => by cases h) | .inr _ => (fun h => by cases h)) (fun u937 => ?_)
    ·
      refine Ref.seqC (cd (bd Tryz.f14) [1, 1, 0, 1, 0, 0, 0, 0]) (cd (bd Tryz.f14) [1, 1, 0, 1, 0, 0, 0, 1]) (by kernel_rfl) ?_
      refine Ref.codeEq (c' := .block 6 (cd (bd Tryz.f14) [1, 1, 0, 1, 0, 0, 0, 0, 0])) (by kernel_rfl) ?_
      refine Ref.block (go1 := fun u1092 => ⟨[(0, .c (.ptr 0 0 0)), (3, .c (.val (.int .u8 (Int.ofNat r1.1.toNat))))], [.cells [.str r2.2.fsrc, .val (.int .i64 r2.2.fat), .own 2 r2.2.ftokens.length], .dead, E37.row r2.2.ftokens], [], 2⟩) ?_ (fun a => match a with | .inl _ => (fun h => by cases h) | .inr (.inl _) => (fun h => by cases h) | .inr (.inr _) => (fun h => by cases h)) (fun u1092 => ?_)
      ·
        refine Ref.seqC (cd (bd Tryz.f14) [1, 1, 0, 1, 0, 0, 0, 0, 0, 0]) (cd (bd Tryz.f14) [1, 1, 0, 1, 0, 0, 0, 0, 0, 1]) (by kernel_rfl) ?_
        refine Ref.codeEq (c' := .block 5 (cd (bd Tryz.f14) [1, 1, 0, 1, 0, 0, 0, 0, 0, 0, 0])) (by kernel_rfl) ?_
        refine Ref.block (go1 := fun u1169 => ⟨[(0, .c (.ptr 0 0 0)), (3, .c (.val (.int .u8 (Int.ofNat r1.1.toNat)))), (4, .c (.val (.int .u8 (Int.ofNat r2.1.toNat))))], [.cells [.str r2.2.fsrc, .val (.int .i64 r2.2.fat), .own 2 r2.2.ftokens.length], .dead, E37.row r2.2.ftokens], [], 2⟩) ?_ (fun a => match a with | .inl _ => (fun h => by cases h) | .inr (.inl _) => (fun h => by cases h) | .inr (.inr (.inl _)) => (fun h => by cases h) | .inr (.inr (.inr _)) => (fun h => by cases h)) (fun u1169 => ?_)
        ·
          refine Ref.seqC (cd (bd Tryz.f14) [1, 1, 0, 1, 0, 0, 0, 0, 0, 0, 0, 0]) (cd (bd Tryz.f14) [1, 1, 0, 1, 0, 0, 0, 0, 0, 0, 0, 1]) (by kernel_rfl) ?_
          refine Ref.codeEq (c' := .block 4 (cd (bd Tryz.f14) [1, 1, 0, 1, 0, 0, 0, 0, 0, 0, 0, 0, 0])) (by kernel_rfl) ?_
          refine Ref.block (go1 := fun u1206 => ⟨[(0, .c (.ptr 0 0 0)), (3, .c (.val (.int .u8 (Int.ofNat r1.1.toNat)))), (4, .c (.val (.int .u8 (Int.ofNat r2.1.toNat))))], [.cells [.str r2.2.fsrc, .val (.int .i64 r2.2.fat), .own 2 r2.2.ftokens.length], .dead, E37.row r2.2.ftokens], [], 2⟩) ?_ (fun a => match a with | .inl _ => (fun h => by cases h) | .inr (.inl _) => (fun h => by cases h) | .inr (.inr (.inl _)) => (fun h => by cases h) | .inr (.inr (.inr (.inl _))) => (fun h => by cases h) | .inr (.inr (.inr (.inr _))) => (fun h => by cases h)) (fun u1206 => ?_)
          ·
            refine Ref.seqC (cd (bd Tryz.f14) [1, 1, 0, 1, 0, 0, 0, 0, 0, 0, 0, 0, 0, 0]) (cd (bd Tryz.f14) [1, 1, 0, 1, 0, 0, 0, 0, 0, 0, 0, 0, 0, 1]) (by kernel_rfl) ?_
            refine Ref.codeEq (c' := .block 3 (cd (bd Tryz.f14) [1, 1, 0, 1, 0, 0, 0, 0, 0, 0, 0, 0, 0, 0, 0])) (by kernel_rfl) ?_
            refine Ref.block (go1 := fun u1223 => ⟨[(0, .c (.ptr 0 0 0)), (3, .c (.val (.int .u8 (Int.ofNat r1.1.toNat)))), (4, .c (.val (.int .u8 (Int.ofNat r2.1.toNat))))], [.cells [.str r2.2.fsrc, .val (.int .i64 r2.2.fat), .own 2 r2.2.ftokens.length], .dead, E37.row r2.2.ftokens], [], 2⟩) ?_ (fun a => match a with | .inl _ => (fun h => by cases h) | .inr (.inl _) => (fun h => by cases h) | .inr (.inr (.inl _)) => (fun h => by cases h) | .inr (.inr (.inr (.inl _))) => (fun h => by cases h) | .inr (.inr (.inr (.inr (.inl _)))) => (fun h => by cases h) | .inr (.inr (.inr (.inr (.inr _)))) => (fun h => by cases h)) (fun u1223 => ?_)
            ·
              refine Ref.seqC (cd (bd Tryz.f14) [1, 1, 0, 1, 0, 0, 0, 0, 0, 0, 0, 0, 0, 0, 0, 0]) (cd (bd Tryz.f14) [1, 1, 0, 1, 0, 0, 0, 0, 0, 0, 0, 0, 0, 0, 0, 1]) (by kernel_rfl) ?_
              refine Ref.codeEq (c' := .block 2 (cd (bd Tryz.f14) [1, 1, 0, 1, 0, 0, 0, 0, 0, 0, 0, 0, 0, 0, 0, 0, 0])) (by kernel_rfl) ?_
              refine Ref.block (go1 := fun u1231 => ⟨[(0, .c (.ptr 0 0 0)), (3, .c (.val (.int .u8 (Int.ofNat r1.1.toNat)))), (4, .c (.val (.int .u8 (Int.ofNat r2.1.toNat))))], [.cells [.str r2.2.fsrc, .val (.int .i64 r2.2.fat), .own 2 r2.2.ftokens.length], .dead, E37.row r2.2.ftokens], [], 2⟩) ?_ (fun a => match a with | .inl _ => (fun h => by cases h) | .inr (.inl _) => (fun h => by cases h) | .inr (.inr (.inl _)) => (fun h => by cases h) | .inr (.inr (.inr (.inl _))) => (fun h => by cases h) | .inr (.inr (.inr (.inr (.inl _)))) => (fun h => by cases h) | .inr (.inr (.inr (.inr (.inr (.inl _))))) => (fun h => by cases h) | .inr (.inr (.inr (.inr (.inr (.inr _))))) => (fun h => by cases h)) (fun u1231 => ?_)
              ·
                refine Ref.seqC (cd (bd Tryz.f14) [1, 1, 0, 1, 0, 0, 0, 0, 0, 0, 0, 0, 0, 0, 0, 0, 0, 0]) (cd (bd Tryz.f14) [1, 1, 0, 1, 0, 0, 0, 0, 0, 0, 0, 0, 0, 0, 0, 0, 0, 1]) (by kernel_rfl) ?_
                refine Ref.codeEq (c' := .block 1 (cd (bd Tryz.f14) [1, 1, 0, 1, 0, 0, 0, 0, 0, 0, 0, 0, 0, 0, 0, 0, 0, 0, 0])) (by kernel_rfl) ?_
                refine Ref.block (go1 := fun u1235 => ⟨[(0, .c (.ptr 0 0 0))], [.cells [.str r2.2.fsrc, .val (.int .i64 r2.2.fat), .own 2 r2.2.ftokens.length], .dead, E37.row r2.2.ftokens], [], 2⟩) ?_ (fun a => match a with | .inl _ => (fun h => by cases h) | .inr (.inl _) => (fun h => by cases h) | .inr (.inr (.inl _)) => (fun h => by cases h) | .inr (.inr (.inr (.inl _))) => (fun h => by cases h) | .inr (.inr (.inr (.inr (.inl _)))) => (fun h => by cases h) | .inr (.inr (.inr (.inr (.inr (.inl _))))) => (fun h => by cases h) | .inr (.inr (.inr (.inr (.inr (.inr (.inl _)))))) => (fun h => by cases h) | .inr (.inr (.inr (.inr (.inr (.inr (.inr _)))))) => (fun h => by cases h)) (fun u1235 => ?_)
                ·
                  refine Ref.seqC (cd (bd Tryz.f14) [1, 1, 0, 1, 0, 0, 0, 0, 0, 0, 0, 0, 0, 0, 0, 0, 0, 0, 0, 0]) (cd (bd Tryz.f14) [1, 1, 0, 1, 0, 0, 0, 0, 0, 0, 0, 0, 0, 0, 0, 0, 0, 0, 0, 1]) (by kernel_rfl) ?_
                  refine Ref.seqC (cd (bd Tryz.f14) [1, 1, 0, 1, 0, 0, 0, 0, 0, 0, 0, 0, 0, 0, 0, 0, 0, 0, 0, 0, 0]) (cd (bd Tryz.f14) [1, 1, 0, 1, 0, 0, 0, 0, 0, 0, 0, 0, 0, 0, 0, 0, 0, 0, 0, 0, 1]) (by kernel_rfl) ?_
                  refine Ref.seqC (cd (bd Tryz.f14) [1, 1, 0, 1, 0, 0, 0, 0, 0, 0, 0, 0, 0, 0, 0, 0, 0, 0, 0, 0, 0, 0]) (cd (bd Tryz.f14) [1, 1, 0, 1, 0, 0, 0, 0, 0, 0, 0, 0, 0, 0, 0, 0, 0, 0, 0, 0, 0, 1]) (by kernel_rfl) ?_
                  refine Ref.seqC (cd (bd Tryz.f14) [1, 1, 0, 1, 0, 0, 0, 0, 0, 0, 0, 0, 0, 0, 0, 0, 0, 0, 0, 0, 0, 0, 0]) (cd (bd Tryz.f14) [1, 1, 0, 1, 0, 0, 0, 0, 0, 0, 0, 0, 0, 0, 0, 0, 0, 0, 0, 0, 0, 0, 1]) (by kernel_rfl) ?_
                  refine Ref.regionC 3 (by kernel_rfl) ?_
                  refine RefR.ev0 (st' := ⟨[(0, .c (.ptr 0 0 0)), (3, .c (.val (.int .u8 (Int.ofNat r1.1.toNat)))), (4, .c (.val (.int .u8 (Int.ofNat r2.1.toNat)))), (9, .c (.val (.int .u8 (Int.ofNat r1.1.toNat)))), (10, .c (.val (.bool (((Int.ofNat r1.1.toNat) : Int) == 32))))], [.cells [.str r2.2.fsrc, .val (.int .i64 r2.2.fat), .own 2 r2.2.ftokens.length], .dead, E37.row r2.2.ftokens], [], 2⟩) 0 2 2 [0, 3, 4, 9, 10] [0, 1, 2] rfl (by kernel_rfl) ?_
                  refine RefR.nilC 2 (by kernel_rfl) ?_
                  refine Ref.bind (go1 := fun u1236 => ⟨[(0, .c (.ptr 0 0 0)), (3, .c (.val (.int .u8 (Int.ofNat r1.1.toNat)))), (4, .c (.val (.int .u8 (Int.ofNat r2.1.toNat)))), (9, .c (.val (.int .u8 (Int.ofNat r1.1.toNat)))), (10, .c (.val (.bool u1236)))], [.cells [.str r2.2.fsrc, .val (.int .i64 r2.2.fat), .own 2 r2.2.ftokens.length], .dead, E37.row r2.2.ftokens], [], 2⟩) ?_ (fun u1236 => ?_)
                  ·
                    refine Ref.condC (.tmp 10) (((Int.ofNat r1.1.toNat) : Int) == 32) (by kernel_rfl) rfl (by kernel_rfl) (fun hc => ?_) (fun hc => ?_)
                    ·
                      refine Ref.skipC (by kernel_rfl) ?_
                      exact Ref.nil (t := ((((Int.ofNat r1.1.toNat) : Int) == 32))) (by kernel_rfl)
                    ·
                      refine Ref.seqC (cd (bd Tryz.f14) [1, 1, 0, 1, 0, 0, 0, 0, 0, 0, 0, 0, 0, 0, 0, 0, 0, 0, 0, 0, 0, 0, 1, 1, 0]) (cd (bd Tryz.f14) [1, 1, 0, 1, 0, 0, 0, 0, 0, 0, 0, 0, 0, 0, 0, 0, 0, 0, 0, 0, 0, 0, 1, 1, 1]) (by kernel_rfl) ?_
                      refine Ref.regionC 4 (by kernel_rfl) ?_
                      refine RefR.ev0 (st' := ⟨[(0, .c (.ptr 0 0 0)), (3, .c (.val (.int .u8 (Int.ofNat r1.1.toNat)))), (4, .c (.val (.int .u8 (Int.ofNat r2.1.toNat)))), (9, .c (.val (.int .u8 (Int.ofNat r1.1.toNat)))), (10, .c (.val (.bool (((Int.ofNat r1.1.toNat) : Int) == 9))))], [.cells [.str r2.2.fsrc, .val (.int .i64 r2.2.fat), .own 2 r2.2.ftokens.length], .dead, E37.row r2.2.ftokens], [], 2⟩) 0 2 2 [0, 3, 4, 9, 10] [0, 1, 2] rfl (by kernel_rfl) ?_
                      refine RefR.nilC 2 (by kernel_rfl) ?_
                      refine Ref.condC (.tmp 10) (((Int.ofNat r1.1.toNat) : Int) == 9) (by kernel_rfl) rfl (by kernel_rfl) (fun hc => ?_) (fun hc => ?_)
                      ·
                        refine Ref.skipC (by kernel_rfl) ?_
                        exact Ref.nil (t := ((((Int.ofNat r1.1.toNat) : Int) == 9))) (by kernel_rfl)
                      ·
                        refine Ref.seqC (cd (bd Tryz.f14) [1, 1, 0, 1, 0, 0, 0, 0, 0, 0, 0, 0, 0, 0, 0, 0, 0, 0, 0, 0, 0, 0, 1, 1, 1, 1, 0]) (cd (bd Tryz.f14) [1, 1, 0, 1, 0, 0, 0, 0, 0, 0, 0, 0, 0, 0, 0, 0, 0, 0, 0, 0, 0, 0, 1, 1, 1, 1, 1]) (by kernel_rfl) ?_
                        refine Ref.regionC 5 (by kernel_rfl) ?_
                        refine RefR.ev0 (st' := ⟨[(0, .c (.ptr 0 0 0)), (3, .c (.val (.int .u8 (Int.ofNat r1.1.toNat)))), (4, .c (.val (.int .u8 (Int.ofNat r2.1.toNat)))), (9, .c (.val (.int .u8 (Int.ofNat r1.1.toNat)))), (10, .c (.val (.bool (((Int.ofNat r1.1.toNat) : Int) == 10))))], [.cells [.str r2.2.fsrc, .val (.int .i64 r2.2.fat), .own 2 r2.2.ftokens.length], .dead, E37.row r2.2.ftokens], [], 2⟩) 0 2 2 [0, 3, 4, 9, 10] [0, 1, 2] rfl (by kernel_rfl) ?_
                        refine RefR.nilC 2 (by kernel_rfl) ?_
                        refine Ref.condC (.tmp 10) (((Int.ofNat r1.1.toNat) : Int) == 10) (by kernel_rfl) rfl (by kernel_rfl) (fun hc => ?_) (fun hc => ?_)
                        ·
                          refine Ref.skipC (by kernel_rfl) ?_
                          exact Ref.nil (t := ((((Int.ofNat r1.1.toNat) : Int) == 10))) (by kernel_rfl)
                        ·
                          refine Ref.regionC 6 (by kernel_rfl) ?_
                          refine RefR.ev0 (st' := ⟨[(0, .c (.ptr 0 0 0)), (3, .c (.val (.int .u8 (Int.ofNat r1.1.toNat)))), (4, .c (.val (.int .u8 (Int.ofNat r2.1.toNat)))), (9, .c (.val (.int .u8 (Int.ofNat r1.1.toNat)))), (10, .c (.val (.bool (((Int.ofNat r1.1.toNat) : Int) == 13))))], [.cells [.str r2.2.fsrc, .val (.int .i64 r2.2.fat), .own 2 r2.2.ftokens.length], .dead, E37.row r2.2.ftokens], [], 2⟩) 0 2 2 [0, 3, 4, 9, 10] [0, 1, 2] rfl (by kernel_rfl) ?_
                          refine RefR.nilC 2 (by kernel_rfl) ?_
                          exact Ref.nil (t := ((((Int.ofNat r1.1.toNat) : Int) == 13))) (by kernel_rfl)
                  ·
                    refine Ref.condC (.tmp 10) u1236 (by kernel_rfl) rfl (by kernel_rfl) (fun hc => ?_) (fun hc => ?_)
                    ·
                      refine Ref.conv (Conv.keep (st' := ⟨[(0, .c (.ptr 0 0 0))], [.cells [.str r2.2.fsrc, .val (.int .i64 r2.2.fat), .own 2 r2.2.ftokens.length], .dead, E37.row r2.2.ftokens], [], 2⟩) [0] [0, 1, 2] (by kernel_rfl)) ?_
                      exact Ref.exitC 1 (t := (Sum.inl ())) (by kernel_rfl) (by kernel_rfl)
                    ·
                      refine Ref.skipC (by kernel_rfl) ?_
                      refine Ref.seqC (cd (bd Tryz.f14) [1, 1, 0, 1, 0, 0, 0, 0, 0, 0, 0, 0, 0, 0, 0, 0, 0, 0, 0, 0, 1, 0]) (cd (bd Tryz.f14) [1, 1, 0, 1, 0, 0, 0, 0, 0, 0, 0, 0, 0, 0, 0, 0, 0, 0, 0, 0, 1, 1]) (by kernel_rfl) ?_
                      refine Ref.seqC (cd (bd Tryz.f14) [1, 1, 0, 1, 0, 0, 0, 0, 0, 0, 0, 0, 0, 0, 0, 0, 0, 0, 0, 0, 1, 0, 0]) (cd (bd Tryz.f14) [1, 1, 0, 1, 0, 0, 0, 0, 0, 0, 0, 0, 0, 0, 0, 0, 0, 0, 0, 0, 1, 0, 1]) (by kernel_rfl) ?_
                      refine Ref.regionC 7 (by kernel_rfl) ?_
                      refine RefR.ev0 (st' := ⟨[(0, .c (.ptr 0 0 0)), (3, .c (.val (.int .u8 (Int.ofNat r1.1.toNat)))), (4, .c (.val (.int .u8 (Int.ofNat r2.1.toNat)))), (9, .c (.val (.int .u8 (Int.ofNat r1.1.toNat)))), (15, .c (.val (.bool (((Int.ofNat r1.1.toNat) : Int) == 40))))], [.cells [.str r2.2.fsrc, .val (.int .i64 r2.2.fat), .own 2 r2.2.ftokens.length], .dead, E37.row r2.2.ftokens], [], 2⟩) 0 2 2 [0, 3, 4, 9, 15] [0, 1, 2] rfl (by kernel_rfl) ?_
                      refine RefR.nilC 2 (by kernel_rfl) ?_
                      refine Ref.condC (.tmp 15) (((Int.ofNat r1.1.toNat) : Int) == 40) (by kernel_rfl) rfl (by kernel_rfl) (fun hc => ?_) (fun hc => ?_)
                      ·
                        refine Ref.conv (Conv.keep (st' := ⟨[(0, .c (.ptr 0 0 0)), (3, .c (.val (.int .u8 (Int.ofNat r1.1.toNat)))), (4, .c (.val (.int .u8 (Int.ofNat r2.1.toNat))))], [.cells [.str r2.2.fsrc, .val (.int .i64 r2.2.fat), .own 2 r2.2.ftokens.length], .dead, E37.row r2.2.ftokens], [], 2⟩) [0, 3, 4] [0, 1, 2] (by kernel_rfl)) ?_
                        exact Ref.exitC 2 (t := (Sum.inr (Sum.inl ()))) (by kernel_rfl) (by kernel_rfl)
                      ·
                        refine Ref.skipC (by kernel_rfl) ?_
                        refine Ref.seqC (cd (bd Tryz.f14) [1, 1, 0, 1, 0, 0, 0, 0, 0, 0, 0, 0, 0, 0, 0, 0, 0, 0, 0, 0, 1, 1, 0]) (cd (bd Tryz.f14) [1, 1, 0, 1, 0, 0, 0, 0, 0, 0, 0, 0, 0, 0, 0, 0, 0, 0, 0, 0, 1, 1, 1]) (by kernel_rfl) ?_
                        refine Ref.seqC (cd (bd Tryz.f14) [1, 1, 0, 1, 0, 0, 0, 0, 0, 0, 0, 0, 0, 0, 0, 0, 0, 0, 0, 0, 1, 1, 0, 0]) (cd (bd Tryz.f14) [1, 1, 0, 1, 0, 0, 0, 0, 0, 0, 0, 0, 0, 0, 0, 0, 0, 0, 0, 0, 1, 1, 0, 1]) (by kernel_rfl) ?_
                        refine Ref.seqC (cd (bd Tryz.f14) [1, 1, 0, 1, 0, 0, 0, 0, 0, 0, 0, 0, 0, 0, 0, 0, 0, 0, 0, 0, 1, 1, 0, 0, 0]) (cd (bd Tryz.f14) [1, 1, 0, 1, 0, 0, 0, 0, 0, 0, 0, 0, 0, 0, 0, 0, 0, 0, 0, 0, 1, 1, 0, 0, 1]) (by kernel_rfl) ?_
                        refine Ref.regionC 8 (by kernel_rfl) ?_
                        refine RefR.ev0 (st' := ⟨[(0, .c (.ptr 0 0 0)), (3, .c (.val (.int .u8 (Int.ofNat r1.1.toNat)))), (4, .c (.val (.int .u8 (Int.ofNat r2.1.toNat)))), (9, .c (.val (.int .u8 (Int.ofNat r1.1.toNat)))), (17, .c (.val (.bool (((Int.ofNat r1.1.toNat) : Int) == 58))))], [.cells [.str r2.2.fsrc, .val (.int .i64 r2.2.fat), .own 2 r2.2.ftokens.length], .dead, E37.row r2.2.ftokens], [], 2⟩) 0 2 2 [0, 3, 4, 9, 17] [0, 1, 2] rfl (by kernel_rfl) ?_
                        refine RefR.nilC 2 (by kernel_rfl) ?_
                        refine Ref.bind (go1 := fun u1237 => ⟨[(0, .c (.ptr 0 0 0)), (3, .c (.val (.int .u8 (Int.ofNat r1.1.toNat)))), (4, .c (.val (.int .u8 (Int.ofNat r2.1.toNat)))), (9, .c (.val (.int .u8 (Int.ofNat r1.1.toNat)))), (17, .c (.val (.bool u1237)))], [.cells [.str r2.2.fsrc, .val (.int .i64 r2.2.fat), .own 2 r2.2.ftokens.length], .dead, E37.row r2.2.ftokens], [], 2⟩) ?_ (fun u1237 => ?_)
                        ·
                          refine Ref.condC (.tmp 17) (((Int.ofNat r1.1.toNat) : Int) == 58) (by kernel_rfl) rfl (by kernel_rfl) (fun hc => ?_) (fun hc => ?_)
                          ·
                            refine Ref.skipC (by kernel_rfl) ?_
                            exact Ref.nil (t := ((((Int.ofNat r1.1.toNat) : Int) == 58))) (by kernel_rfl)
                          ·
                            refine Ref.seqC (cd (bd Tryz.f14) [1, 1, 0, 1, 0, 0, 0, 0, 0, 0, 0, 0, 0, 0, 0, 0, 0, 0, 0, 0, 1, 1, 0, 0, 1, 1, 0]) (cd (bd Tryz.f14) [1, 1, 0, 1, 0, 0, 0, 0, 0, 0, 0, 0, 0, 0, 0, 0, 0, 0, 0, 0, 1, 1, 0, 0, 1, 1, 1]) (by kernel_rfl) ?_
                            refine Ref.regionC 9 (by kernel_rfl) ?_
                            refine RefR.ev0 (st' := ⟨[(0, .c (.ptr 0 0 0)), (3, .c (.val (.int .u8 (Int.ofNat r1.1.toNat)))), (4, .c (.val (.int .u8 (Int.ofNat r2.1.toNat)))), (9, .c (.val (.int .u8 (Int.ofNat r1.1.toNat)))), (17, .c (.val (.bool (((Int.ofNat r1.1.toNat) : Int) == 63))))], [.cells [.str r2.2.fsrc, .val (.int .i64 r2.2.fat), .own 2 r2.2.ftokens.length], .dead, E37.row r2.2.ftokens], [], 2⟩) 0 2 2 [0, 3, 4, 9, 17] [0, 1, 2] rfl (by kernel_rfl) ?_
                            refine RefR.nilC 2 (by kernel_rfl) ?_
                            refine Ref.condC (.tmp 17) (((Int.ofNat r1.1.toNat) : Int) == 63) (by kernel_rfl) rfl (by kernel_rfl) (fun hc => ?_) (fun hc => ?_)
                            ·
                              refine Ref.skipC (by kernel_rfl) ?_
                              exact Ref.nil (t := ((((Int.ofNat r1.1.toNat) : Int) == 63))) (by kernel_rfl)
                            ·
                              refine Ref.regionC 10 (by kernel_rfl) ?_
                              refine RefR.ev0 (st' := ⟨[(0, .c (.ptr 0 0 0)), (3, .c (.val (.int .u8 (Int.ofNat r1.1.toNat)))), (4, .c (.val (.int .u8 (Int.ofNat r2.1.toNat)))), (9, .c (.val (.int .u8 (Int.ofNat r1.1.toNat)))), (17, .c (.val (.bool (((Int.ofNat r1.1.toNat) : Int) == 62))))], [.cells [.str r2.2.fsrc, .val (.int .i64 r2.2.fat), .own 2 r2.2.ftokens.length], .dead, E37.row r2.2.ftokens], [], 2⟩) 0 2 2 [0, 3, 4, 9, 17] [0, 1, 2] rfl (by kernel_rfl) ?_
                              refine RefR.nilC 2 (by kernel_rfl) ?_
                              exact Ref.nil (t := ((((Int.ofNat r1.1.toNat) : Int) == 62))) (by kernel_rfl)
                        ·
                          refine Ref.condC (.tmp 17) u1237 (by kernel_rfl) rfl (by kernel_rfl) (fun hc => ?_) (fun hc => ?_)
                          ·
                            refine Ref.conv (Conv.keep (st' := ⟨[(0, .c (.ptr 0 0 0)), (3, .c (.val (.int .u8 (Int.ofNat r1.1.toNat)))), (4, .c (.val (.int .u8 (Int.ofNat r2.1.toNat))))], [.cells [.str r2.2.fsrc, .val (.int .i64 r2.2.fat), .own 2 r2.2.ftokens.length], .dead, E37.row r2.2.ftokens], [], 2⟩) [0, 3, 4] [0, 1, 2] (by kernel_rfl)) ?_
                            exact Ref.exitC 3 (t := (Sum.inr (Sum.inr (Sum.inl ())))) (by kernel_rfl) (by kernel_rfl)
                          ·
                            refine Ref.skipC (by kernel_rfl) ?_
                            refine Ref.seqC (cd (bd Tryz.f14) [1, 1, 0, 1, 0, 0, 0, 0, 0, 0, 0, 0, 0, 0, 0, 0, 0, 0, 0, 0, 1, 1, 1, 0]) (cd (bd Tryz.f14) [1, 1, 0, 1, 0, 0, 0, 0, 0, 0, 0, 0, 0, 0, 0, 0, 0, 0, 0, 0, 1, 1, 1, 1]) (by kernel_rfl) ?_
                            refine Ref.seqC (cd (bd Tryz.f14) [1, 1, 0, 1, 0, 0, 0, 0, 0, 0, 0, 0, 0, 0, 0, 0, 0, 0, 0, 0, 1, 1, 1, 0, 0]) (cd (bd Tryz.f14) [1, 1, 0, 1, 0, 0, 0, 0, 0, 0, 0, 0, 0, 0, 0, 0, 0, 0, 0, 0, 1, 1, 1, 0, 1]) (by kernel_rfl) ?_
                            refine Ref.regionC 11 (by kernel_rfl) ?_
                            refine RefR.ev0 (st' := ⟨[(0, .c (.ptr 0 0 0)), (3, .c (.val (.int .u8 (Int.ofNat r1.1.toNat)))), (4, .c (.val (.int .u8 (Int.ofNat r2.1.toNat)))), (9, .c (.val (.int .u8 (Int.ofNat r1.1.toNat)))), (21, .c (.val (.bool (((Int.ofNat r1.1.toNat) : Int) == 60))))], [.cells [.str r2.2.fsrc, .val (.int .i64 r2.2.fat), .own 2 r2.2.ftokens.length], .dead, E37.row r2.2.ftokens], [], 2⟩) 0 2 2 [0, 3, 4, 9, 21] [0, 1, 2] rfl (by kernel_rfl) ?_
                            refine RefR.nilC 2 (by kernel_rfl) ?_
                            refine Ref.condC (.tmp 21) (((Int.ofNat r1.1.toNat) : Int) == 60) (by kernel_rfl) rfl (by kernel_rfl) (fun hc => ?_) (fun hc => ?_)
                            ·
                              refine Ref.conv (Conv.keep (st' := ⟨[(0, .c (.ptr 0 0 0)), (3, .c (.val (.int .u8 (Int.ofNat r1.1.toNat)))), (4, .c (.val (.int .u8 (Int.ofNat r2.1.toNat))))], [.cells [.str r2.2.fsrc, .val (.int .i64 r2.2.fat), .own 2 r2.2.ftokens.length], .dead, E37.row r2.2.ftokens], [], 2⟩) [0, 3, 4] [0, 1, 2] (by kernel_rfl)) ?_
                              exact Ref.exitC 4 (t := (Sum.inr (Sum.inr (Sum.inr (Sum.inl ()))))) (by kernel_rfl) (by kernel_rfl)
                            ·
                              refine Ref.skipC (by kernel_rfl) ?_
                              refine Ref.seqC (cd (bd Tryz.f14) [1, 1, 0, 1, 0, 0, 0, 0, 0, 0, 0, 0, 0, 0, 0, 0, 0, 0, 0, 0, 1, 1, 1, 1, 0]) (cd (bd Tryz.f14) [1, 1, 0, 1, 0, 0, 0, 0, 0, 0, 0, 0, 0, 0, 0, 0, 0, 0, 0, 0, 1, 1, 1, 1, 1]) (by kernel_rfl) ?_
                              refine Ref.seqC (cd (bd Tryz.f14) [1, 1, 0, 1, 0, 0, 0, 0, 0, 0, 0, 0, 0, 0, 0, 0, 0, 0, 0, 0, 1, 1, 1, 1, 0, 0]) (cd (bd Tryz.f14) [1, 1, 0, 1, 0, 0, 0, 0, 0, 0, 0, 0, 0, 0, 0, 0, 0, 0, 0, 0, 1, 1, 1, 1, 0, 1]) (by kernel_rfl) ?_
                              refine Ref.regionC 12 (by kernel_rfl) ?_
                              refine RefR.ev0 (st' := ⟨[(0, .c (.ptr 0 0 0)), (3, .c (.val (.int .u8 (Int.ofNat r1.1.toNat)))), (4, .c (.val (.int .u8 (Int.ofNat r2.1.toNat)))), (9, .c (.val (.int .u8 (Int.ofNat r1.1.toNat)))), (23, .c (.val (.bool (((Int.ofNat r1.1.toNat) : Int) == 46))))], [.cells [.str r2.2.fsrc, .val (.int .i64 r2.2.fat), .own 2 r2.2.ftokens.length], .dead, E37.row r2.2.ftokens], [], 2⟩) 0 2 2 [0, 3, 4, 9, 23] [0, 1, 2] rfl (by kernel_rfl) ?_
                              refine RefR.nilC 2 (by kernel_rfl) ?_
                              refine Ref.condC (.tmp 23) (((Int.ofNat r1.1.toNat) : Int) == 46) (by kernel_rfl) rfl (by kernel_rfl) (fun hc => ?_) (fun hc => ?_)
                              ·
                                refine Ref.conv (Conv.keep (st' := ⟨[(0, .c (.ptr 0 0 0)), (3, .c (.val (.int .u8 (Int.ofNat r1.1.toNat)))), (4, .c (.val (.int .u8 (Int.ofNat r2.1.toNat))))], [.cells [.str r2.2.fsrc, .val (.int .i64 r2.2.fat), .own 2 r2.2.ftokens.length], .dead, E37.row r2.2.ftokens], [], 2⟩) [0, 3, 4] [0, 1, 2] (by kernel_rfl)) ?_
                                exact Ref.exitC 5 (t := (Sum.inr (Sum.inr (Sum.inr (Sum.inr (Sum.inl ())))))) (by kernel_rfl) (by kernel_rfl)
                              ·
                                refine Ref.skipC (by kernel_rfl) ?_
                                refine Ref.seqC (cd (bd Tryz.f14) [1, 1, 0, 1, 0, 0, 0, 0, 0, 0, 0, 0, 0, 0, 0, 0, 0, 0, 0, 0, 1, 1, 1, 1, 1, 0]) (cd (bd Tryz.f14) [1, 1, 0, 1, 0, 0, 0, 0, 0, 0, 0, 0, 0, 0, 0, 0, 0, 0, 0, 0, 1, 1, 1, 1, 1, 1]) (by kernel_rfl) ?_
                                refine Ref.seqC (cd (bd Tryz.f14) [1, 1, 0, 1, 0, 0, 0, 0, 0, 0, 0, 0, 0, 0, 0, 0, 0, 0, 0, 0, 1, 1, 1, 1, 1, 0, 0]) (cd (bd Tryz.f14) [1, 1, 0, 1, 0, 0, 0, 0, 0, 0, 0, 0, 0, 0, 0, 0, 0, 0, 0, 0, 1, 1, 1, 1, 1, 0, 1]) (by kernel_rfl) ?_
                                refine Ref.regionC 13 (by kernel_rfl) ?_
                                refine RefR.ev0 (st' := ⟨[(0, .c (.ptr 0 0 0)), (3, .c (.val (.int .u8 (Int.ofNat r1.1.toNat)))), (9, .c (.val (.int .u8 (Int.ofNat r1.1.toNat)))), (25, .c (.val (.bool (((Int.ofNat r1.1.toNat) : Int) == 43))))], [.cells [.str r2.2.fsrc, .val (.int .i64 r2.2.fat), .own 2 r2.2.ftokens.length], .dead, E37.row r2.2.ftokens], [], 2⟩) 0 2 2 [0, 3, 9, 25] [0, 1, 2] rfl (by kernel_rfl) ?_
                                refine RefR.nilC 2 (by kernel_rfl) ?_
                                refine Ref.bind (go1 := fun u1238 => ⟨[(0, .c (.ptr 0 0 0)), (3, .c (.val (.int .u8 (Int.ofNat r1.1.toNat)))), (25, .c (.val (.bool u1238)))], [.cells [.str r2.2.fsrc, .val (.int .i64 r2.2.fat), .own 2 r2.2.ftokens.length], .dead, E37.row r2.2.ftokens], [], 2⟩) ?_ (fun u1238 => ?_)
                                ·
                                  refine Ref.condC (.tmp 25) (((Int.ofNat r1.1.toNat) : Int) == 43) (by kernel_rfl) rfl (by kernel_rfl) (fun hc => ?_) (fun hc => ?_)
                                  ·
                                    refine Ref.skipC (by kernel_rfl) ?_
                                    refine Ref.conv (Conv.keep (st' := ⟨[(0, .c (.ptr 0 0 0)), (3, .c (.val (.int .u8 (Int.ofNat r1.1.toNat)))), (25, .c (.val (.bool (((Int.ofNat r1.1.toNat) : Int) == 43))))], [.cells [.str r2.2.fsrc, .val (.int .i64 r2.2.fat), .own 2 r2.2.ftokens.length], .dead, E37.row r2.2.ftokens], [], 2⟩) [0, 3, 25] [0, 1, 2] (by kernel_rfl)) ?_
                                    exact Ref.nil (t := ((((Int.ofNat r1.1.toNat) : Int) == 43))) (by kernel_rfl)
                                  ·
                                    refine Ref.seqC (cd (bd Tryz.f14) [1, 1, 0, 1, 0, 0, 0, 0, 0, 0, 0, 0, 0, 0, 0, 0, 0, 0, 0, 0, 1, 1, 1, 1, 1, 0, 1, 1, 0]) (cd (bd Tryz.f14) [1, 1, 0, 1, 0, 0, 0, 0, 0, 0, 0, 0, 0, 0, 0, 0, 0, 0, 0, 0, 1, 1, 1, 1, 1, 0, 1, 1, 1]) (by kernel_rfl) ?_
                                    refine Ref.regionC 14 (by kernel_rfl) ?_
                                    refine RefR.ev0 (st' := ⟨[(0, .c (.ptr 0 0 0)), (3, .c (.val (.int .u8 (Int.ofNat r1.1.toNat)))), (9, .c (.val (.int .u8 (Int.ofNat r1.1.toNat)))), (25, .c (.val (.bool (((Int.ofNat r1.1.toNat) : Int) == 45))))], [.cells [.str r2.2.fsrc, .val (.int .i64 r2.2.fat), .own 2 r2.2.ftokens.length], .dead, E37.row r2.2.ftokens], [], 2⟩) 0 2 2 [0, 3, 9, 25] [0, 1, 2] rfl (by kernel_rfl) ?_
                                    refine RefR.nilC 2 (by kernel_rfl) ?_
                                    refine Ref.condC (.tmp 25) (((Int.ofNat r1.1.toNat) : Int) == 45) (by kernel_rfl) rfl (by kernel_rfl) (fun hc => ?_) (fun hc => ?_)
                                    ·
                                      refine Ref.skipC (by kernel_rfl) ?_
                                      refine Ref.conv (Conv.keep (st' := ⟨[(0, .c (.ptr 0 0 0)), (3, .c (.val (.int .u8 (Int.ofNat r1.1.toNat)))), (25, .c (.val (.bool (((Int.ofNat r1.1.toNat) : Int) == 45))))], [.cells [.str r2.2.fsrc, .val (.int .i64 r2.2.fat), .own 2 r2.2.ftokens.length], .dead, E37.row r2.2.ftokens], [], 2⟩) [0, 3, 25] [0, 1, 2] (by kernel_rfl)) ?_
                                      exact Ref.nil (t := ((((Int.ofNat r1.1.toNat) : Int) == 45))) (by kernel_rfl)
                                    ·
                                      refine Ref.seqC (cd (bd Tryz.f14) [1, 1, 0, 1, 0, 0, 0, 0, 0, 0, 0, 0, 0, 0, 0, 0, 0, 0, 0, 0, 1, 1, 1, 1, 1, 0, 1, 1, 1, 1, 0]) (cd (bd Tryz.f14) [1, 1, 0, 1, 0, 0, 0, 0, 0, 0, 0, 0, 0, 0, 0, 0, 0, 0, 0, 0, 1, 1, 1, 1, 1, 0, 1, 1, 1, 1, 1]) (by kernel_rfl) ?_
                                      refine Ref.regionC 15 (by kernel_rfl) ?_
                                      refine RefR.ev0 (st' := ⟨[(0, .c (.ptr 0 0 0)), (3, .c (.val (.int .u8 (Int.ofNat r1.1.toNat)))), (9, .c (.val (.int .u8 (Int.ofNat r1.1.toNat)))), (25, .c (.val (.bool (((Int.ofNat r1.1.toNat) : Int) == 42))))], [.cells [.str r2.2.fsrc, .val (.int .i64 r2.2.fat), .own 2 r2.2.ftokens.length], .dead, E37.row r2.2.ftokens], [], 2⟩) 0 2 2 [0, 3, 9, 25] [0, 1, 2] rfl (by kernel_rfl) ?_
                                      refine RefR.nilC 2 (by kernel_rfl) ?_
                                      refine Ref.condC (.tmp 25) (((Int.ofNat r1.1.toNat) : Int) == 42) (by kernel_rfl) rfl (by kernel_rfl) (fun hc => ?_) (fun hc => ?_)
                                      ·
                                        refine Ref.skipC (by kernel_rfl) ?_
                                        refine Ref.conv (Conv.keep (st' := ⟨[(0, .c (.ptr 0 0 0)), (3, .c (.val (.int .u8 (Int.ofNat r1.1.toNat)))), (25, .c (.val (.bool (((Int.ofNat r1.1.toNat) : Int) == 42))))], [.cells [.str r2.2.fsrc, .val (.int .i64 r2.2.fat), .own 2 r2.2.ftokens.length], .dead, E37.row r2.2.ftokens], [], 2⟩) [0, 3, 25] [0, 1, 2] (by kernel_rfl)) ?_
                                        exact Ref.nil (t := ((((Int.ofNat r1.1.toNat) : Int) == 42))) (by kernel_rfl)
                                      ·
                                        refine Ref.seqC (cd (bd Tryz.f14) [1, 1, 0, 1, 0, 0, 0, 0, 0, 0, 0, 0, 0, 0, 0, 0, 0, 0, 0, 0, 1, 1, 1, 1, 1, 0, 1, 1, 1, 1, 1, 1, 0]) (cd (bd Tryz.f14) [1, 1, 0, 1, 0, 0, 0, 0, 0, 0, 0, 0, 0, 0, 0, 0, 0, 0, 0, 0, 1, 1, 1, 1, 1, 0, 1, 1, 1, 1, 1, 1, 1]) (by kernel_rfl) ?_
                                        refine Ref.regionC 16 (by kernel_rfl) ?_
                                        refine RefR.ev0 (st' := ⟨[(0, .c (.ptr 0 0 0)), (3, .c (.val (.int .u8 (Int.ofNat r1.1.toNat)))), (9, .c (.val (.int .u8 (Int.ofNat r1.1.toNat)))), (25, .c (.val (.bool (((Int.ofNat r1.1.toNat) : Int) == 47))))], [.cells [.str r2.2.fsrc, .val (.int .i64 r2.2.fat), .own 2 r2.2.ftokens.length], .dead, E37.row r2.2.ftokens], [], 2⟩) 0 2 2 [0, 3, 9, 25] [0, 1, 2] rfl (by kernel_rfl) ?_
                                        refine RefR.nilC 2 (by kernel_rfl) ?_
                                        refine Ref.condC (.tmp 25) (((Int.ofNat r1.1.toNat) : Int) == 47) (by kernel_rfl) rfl (by kernel_rfl) (fun hc => ?_) (fun hc => ?_)
                                        ·
                                          refine Ref.skipC (by kernel_rfl) ?_
                                          refine Ref.conv (Conv.keep (st' := ⟨[(0, .c (.ptr 0 0 0)), (3, .c (.val (.int .u8 (Int.ofNat r1.1.toNat)))), (25, .c (.val (.bool (((Int.ofNat r1.1.toNat) : Int) == 47))))], [.cells [.str r2.2.fsrc, .val (.int .i64 r2.2.fat), .own 2 r2.2.ftokens.length], .dead, E37.row r2.2.ftokens], [], 2⟩) [0, 3, 25] [0, 1, 2] (by kernel_rfl)) ?_
                                          exact Ref.nil (t := ((((Int.ofNat r1.1.toNat) : Int) == 47))) (by kernel_rfl)
                                        ·
                                          refine Ref.seqC (cd (bd Tryz.f14) [1, 1, 0, 1, 0, 0, 0, 0, 0, 0, 0, 0, 0, 0, 0, 0, 0, 0, 0, 0, 1, 1, 1, 1, 1, 0, 1, 1, 1, 1, 1, 1, 1, 1, 0]) (cd (bd Tryz.f14) [1, 1, 0, 1, 0, 0, 0, 0, 0, 0, 0, 0, 0, 0, 0, 0, 0, 0, 0, 0, 1, 1, 1, 1, 1, 0, 1, 1, 1, 1, 1, 1, 1, 1, 1]) (by kernel_rfl) ?_
                                          refine Ref.regionC 17 (by kernel_rfl) ?_
                                          refine RefR.ev0 (st' := ⟨[(0, .c (.ptr 0 0 0)), (3, .c (.val (.int .u8 (Int.ofNat r1.1.toNat)))), (9, .c (.val (.int .u8 (Int.ofNat r1.1.toNat)))), (25, .c (.val (.bool (((Int.ofNat r1.1.toNat) : Int) == 61))))], [.cells [.str r2.2.fsrc, .val (.int .i64 r2.2.fat), .own 2 r2.2.ftokens.length], .dead, E37.row r2.2.ftokens], [], 2⟩) 0 2 2 [0, 3, 9, 25] [0, 1, 2] rfl (by kernel_rfl) ?_
                                          refine RefR.nilC 2 (by kernel_rfl) ?_
                                          refine Ref.condC (.tmp 25) (((Int.ofNat r1.1.toNat) : Int) == 61) (by kernel_rfl) rfl (by kernel_rfl) (fun hc => ?_) (fun hc => ?_)
                                          ·
                                            refine Ref.skipC (by kernel_rfl) ?_
                                            refine Ref.conv (Conv.keep (st' := ⟨[(0, .c (.ptr 0 0 0)), (3, .c (.val (.int .u8 (Int.ofNat r1.1.toNat)))), (25, .c (.val (.bool (((Int.ofNat r1.1.toNat) : Int) == 61))))], [.cells [.str r2.2.fsrc, .val (.int .i64 r2.2.fat), .own 2 r2.2.ftokens.length], .dead, E37.row r2.2.ftokens], [], 2⟩) [0, 3, 25] [0, 1, 2] (by kernel_rfl)) ?_
                                            exact Ref.nil (t := ((((Int.ofNat r1.1.toNat) : Int) == 61))) (by kernel_rfl)
                                          ·
                                            refine Ref.seqC (cd (bd Tryz.f14) [1, 1, 0, 1, 0, 0, 0, 0, 0, 0, 0, 0, 0, 0, 0, 0, 0, 0, 0, 0, 1, 1, 1, 1, 1, 0, 1, 1, 1, 1, 1, 1, 1, 1, 1, 1, 0]) (cd (bd Tryz.f14) [1, 1, 0, 1, 0, 0, 0, 0, 0, 0, 0, 0, 0, 0, 0, 0, 0, 0, 0, 0, 1, 1, 1, 1, 1, 0, 1, 1, 1, 1, 1, 1, 1, 1, 1, 1, 1]) (by kernel_rfl) ?_
                                            refine Ref.regionC 18 (by kernel_rfl) ?_
                                            refine RefR.ev0 (st' := ⟨[(0, .c (.ptr 0 0 0)), (3, .c (.val (.int .u8 (Int.ofNat r1.1.toNat)))), (9, .c (.val (.int .u8 (Int.ofNat r1.1.toNat)))), (25, .c (.val (.bool (((Int.ofNat r1.1.toNat) : Int) == 41))))], [.cells [.str r2.2.fsrc, .val (.int .i64 r2.2.fat), .own 2 r2.2.ftokens.length], .dead, E37.row r2.2.ftokens], [], 2⟩) 0 2 2 [0, 3, 9, 25] [0, 1, 2] rfl (by kernel_rfl) ?_
                                            refine RefR.nilC 2 (by kernel_rfl) ?_
                                            refine Ref.condC (.tmp 25) (((Int.ofNat r1.1.toNat) : Int) == 41) (by kernel_rfl) rfl (by kernel_rfl) (fun hc => ?_) (fun hc => ?_)
                                            ·
                                              refine Ref.skipC (by kernel_rfl) ?_
                                              refine Ref.conv (Conv.keep (st' := ⟨[(0, .c (.ptr 0 0 0)), (3, .c (.val (.int .u8 (Int.ofNat r1.1.toNat)))), (25, .c (.val (.bool (((Int.ofNat r1.1.toNat) : Int) == 41))))], [.cells [.str r2.2.fsrc, .val (.int .i64 r2.2.fat), .own 2 r2.2.ftokens.length], .dead, E37.row r2.2.ftokens], [], 2⟩) [0, 3, 25] [0, 1, 2] (by kernel_rfl)) ?_
                                              exact Ref.nil (t := ((((Int.ofNat r1.1.toNat) : Int) == 41))) (by kernel_rfl)
                                            ·
                                              refine Ref.seqC (cd (bd Tryz.f14) [1, 1, 0, 1, 0, 0, 0, 0, 0, 0, 0, 0, 0, 0, 0, 0, 0, 0, 0, 0, 1, 1, 1, 1, 1, 0, 1, 1, 1, 1, 1, 1, 1, 1, 1, 1, 1, 1, 0]) (cd (bd Tryz.f14) [1, 1, 0, 1, 0, 0, 0, 0, 0, 0, 0, 0, 0, 0, 0, 0, 0, 0, 0, 0, 1, 1, 1, 1, 1, 0, 1, 1, 1, 1, 1, 1, 1, 1, 1, 1, 1, 1, 1]) (by kernel_rfl) ?_
                                              refine Ref.regionC 19 (by kernel_rfl) ?_
                                              refine RefR.ev0 (st' := ⟨[(0, .c (.ptr 0 0 0)), (3, .c (.val (.int .u8 (Int.ofNat r1.1.toNat)))), (9, .c (.val (.int .u8 (Int.ofNat r1.1.toNat)))), (25, .c (.val (.bool (((Int.ofNat r1.1.toNat) : Int) == 91))))], [.cells [.str r2.2.fsrc, .val (.int .i64 r2.2.fat), .own 2 r2.2.ftokens.length], .dead, E37.row r2.2.ftokens], [], 2⟩) 0 2 2 [0, 3, 9, 25] [0, 1, 2] rfl (by kernel_rfl) ?_
                                              refine RefR.nilC 2 (by kernel_rfl) ?_
                                              refine Ref.condC (.tmp 25) (((Int.ofNat r1.1.toNat) : Int) == 91) (by kernel_rfl) rfl (by kernel_rfl) (fun hc => ?_) (fun hc => ?_)
                                              ·
                                                refine Ref.skipC (by kernel_rfl) ?_
                                                refine Ref.conv (Conv.keep (st' := ⟨[(0, .c (.ptr 0 0 0)), (3, .c (.val (.int .u8 (Int.ofNat r1.1.toNat)))), (25, .c (.val (.bool (((Int.ofNat r1.1.toNat) : Int) == 91))))], [.cells [.str r2.2.fsrc, .val (.int .i64 r2.2.fat), .own 2 r2.2.ftokens.length], .dead, E37.row r2.2.ftokens], [], 2⟩) [0, 3, 25] [0, 1, 2] (by kernel_rfl)) ?_
                                                exact Ref.nil (t := ((((Int.ofNat r1.1.toNat) : Int) == 91))) (by kernel_rfl)
                                              ·
                                                refine Ref.seqC (cd (bd Tryz.f14) [1, 1, 0, 1, 0, 0, 0, 0, 0, 0, 0, 0, 0, 0, 0, 0, 0, 0, 0, 0, 1, 1, 1, 1, 1, 0, 1, 1, 1, 1, 1, 1, 1, 1, 1, 1, 1, 1, 1, 1, 0]) (cd (bd Tryz.f14) [1, 1, 0, 1, 0, 0, 0, 0, 0, 0, 0, 0, 0, 0, 0, 0, 0, 0, 0, 0, 1, 1, 1, 1, 1, 0, 1, 1, 1, 1, 1, 1, 1, 1, 1, 1, 1, 1, 1, 1, 1]) (by kernel_rfl) ?_
                                                refine Ref.regionC 20 (by kernel_rfl) ?_
                                                refine RefR.ev0 (st' := ⟨[(0, .c (.ptr 0 0 0)), (3, .c (.val (.int .u8 (Int.ofNat r1.1.toNat)))), (9, .c (.val (.int .u8 (Int.ofNat r1.1.toNat)))), (25, .c (.val (.bool (((Int.ofNat r1.1.toNat) : Int) == 93))))], [.cells [.str r2.2.fsrc, .val (.int .i64 r2.2.fat), .own 2 r2.2.ftokens.length], .dead, E37.row r2.2.ftokens], [], 2⟩) 0 2 2 [0, 3, 9, 25] [0, 1, 2] rfl (by kernel_rfl) ?_
                                                refine RefR.nilC 2 (by kernel_rfl) ?_
                                                refine Ref.condC (.tmp 25) (((Int.ofNat r1.1.toNat) : Int) == 93) (by kernel_rfl) rfl (by kernel_rfl) (fun hc => ?_) (fun hc => ?_)
                                                ·
                                                  refine Ref.skipC (by kernel_rfl) ?_
                                                  refine Ref.conv (Conv.keep (st' := ⟨[(0, .c (.ptr 0 0 0)), (3, .c (.val (.int .u8 (Int.ofNat r1.1.toNat)))), (25, .c (.val (.bool (((Int.ofNat r1.1.toNat) : Int) == 93))))], [.cells [.str r2.2.fsrc, .val (.int .i64 r2.2.fat), .own 2 r2.2.ftokens.length], .dead, E37.row r2.2.ftokens], [], 2⟩) [0, 3, 25] [0, 1, 2] (by kernel_rfl)) ?_
                                                  exact Ref.nil (t := ((((Int.ofNat r1.1.toNat) : Int) == 93))) (by kernel_rfl)
                                                ·
                                                  refine Ref.seqC (cd (bd Tryz.f14) [1, 1, 0, 1, 0, 0, 0, 0, 0, 0, 0, 0, 0, 0, 0, 0, 0, 0, 0, 0, 1, 1, 1, 1, 1, 0, 1, 1, 1, 1, 1, 1, 1, 1, 1, 1, 1, 1, 1, 1, 1, 1, 0]) (cd (bd Tryz.f14) [1, 1, 0, 1, 0, 0, 0, 0, 0, 0, 0, 0, 0, 0, 0, 0, 0, 0, 0, 0, 1, 1, 1, 1, 1, 0, 1, 1, 1, 1, 1, 1, 1, 1, 1, 1, 1, 1, 1, 1, 1, 1, 1]) (by kernel_rfl) ?_
                                                  refine Ref.regionC 21 (by kernel_rfl) ?_
                                                  refine RefR.ev0 (st' := ⟨[(0, .c (.ptr 0 0 0)), (3, .c (.val (.int .u8 (Int.ofNat r1.1.toNat)))), (9, .c (.val (.int .u8 (Int.ofNat r1.1.toNat)))), (25, .c (.val (.bool (((Int.ofNat r1.1.toNat) : Int) == 44))))], [.cells [.str r2.2.fsrc, .val (.int .i64 r2.2.fat), .own 2 r2.2.ftokens.length], .dead, E37.row r2.2.ftokens], [], 2⟩) 0 2 2 [0, 3, 9, 25] [0, 1, 2] rfl (by kernel_rfl) ?_
                                                  refine RefR.nilC 2 (by kernel_rfl) ?_
                                                  refine Ref.condC (.tmp 25) (((Int.ofNat r1.1.toNat) : Int) == 44) (by kernel_rfl) rfl (by kernel_rfl) (fun hc => ?_) (fun hc => ?_)
                                                  ·
                                                    refine Ref.skipC (by kernel_rfl) ?_
                                                    refine Ref.conv (Conv.keep (st' := ⟨[(0, .c (.ptr 0 0 0)), (3, .c (.val (.int .u8 (Int.ofNat r1.1.toNat)))), (25, .c (.val (.bool (((Int.ofNat r1.1.toNat) : Int) == 44))))], [.cells [.str r2.2.fsrc, .val (.int .i64 r2.2.fat), .own 2 r2.2.ftokens.length], .dead, E37.row r2.2.ftokens], [], 2⟩) [0, 3, 25] [0, 1, 2] (by kernel_rfl)) ?_
                                                    exact Ref.nil (t := ((((Int.ofNat r1.1.toNat) : Int) == 44))) (by kernel_rfl)
                                                  ·
                                                    refine Ref.regionC 22 (by kernel_rfl) ?_
                                                    refine RefR.ev0 (st' := ⟨[(0, .c (.ptr 0 0 0)), (3, .c (.val (.int .u8 (Int.ofNat r1.1.toNat)))), (25, .c (.val (.bool (((Int.ofNat r1.1.toNat) : Int) == 59))))], [.cells [.str r2.2.fsrc, .val (.int .i64 r2.2.fat), .own 2 r2.2.ftokens.length], .dead, E37.row r2.2.ftokens], [], 2⟩) 0 2 2 [0, 3, 25] [0, 1, 2] rfl (by kernel_rfl) ?_
                                                    refine RefR.nilC 2 (by kernel_rfl) ?_
                                                    exact Ref.nil (t := ((((Int.ofNat r1.1.toNat) : Int) == 59))) (by kernel_rfl)
                                ·
                                  refine Ref.condC (.tmp 25) u1238 (by kernel_rfl) rfl (by kernel_rfl) (fun hc => ?_) (fun hc => ?_)
                                  ·
                                    refine Ref.conv (Conv.keep (st' := ⟨[(0, .c (.ptr 0 0 0)), (3, .c (.val (.int .u8 (Int.ofNat r1.1.toNat))))], [.cells [.str r2.2.fsrc, .val (.int .i64 r2.2.fat), .own 2 r2.2.ftokens.length], .dead, E37.row r2.2.ftokens], [], 2⟩) [0, 3] [0, 1, 2] (by kernel_rfl)) ?_
                                    exact Ref.exitC 6 (t := (Sum.inr (Sum.inr (Sum.inr (Sum.inr (Sum.inr (Sum.inl ()))))))) (by kernel_rfl) (by kernel_rfl)
                                  ·
                                    refine Ref.skipC (by kernel_rfl) ?_
                                    refine Ref.conv (Conv.keep (st' := ⟨[(0, .c (.ptr 0 0 0)), (3, .c (.val (.int .u8 (Int.ofNat r1.1.toNat))))], [.cells [.str r2.2.fsrc, .val (.int .i64 r2.2.fat), .own 2 r2.2.ftokens.length], .dead, E37.row r2.2.ftokens], [], 2⟩) [0, 3] [0, 1, 2] (by kernel_rfl)) ?_
                                    exact Ref.exitC 7 (t := (Sum.inr (Sum.inr (Sum.inr (Sum.inr (Sum.inr (Sum.inr (Sum.inl ())))))))) (by kernel_rfl) (by kernel_rfl)
                ·
                  refine Ref.seqC (cd (bd Tryz.f14) [1, 1, 0, 1, 0, 0, 0, 0, 0, 0, 0, 0, 0, 0, 0, 0, 0, 1, 0]) (cd (bd Tryz.f14) [1, 1, 0, 1, 0, 0, 0, 0, 0, 0, 0, 0, 0, 0, 0, 0, 0, 1, 1]) (by kernel_rfl) ?_
                  refine Ref.seqC (cd (bd Tryz.f14) [1, 1, 0, 1, 0, 0, 0, 0, 0, 0, 0, 0, 0, 0, 0, 0, 0, 1, 0, 0]) (cd (bd Tryz.f14) [1, 1, 0, 1, 0, 0, 0, 0, 0, 0, 0, 0, 0, 0, 0, 0, 0, 1, 0, 1]) (by kernel_rfl) ?_
                  refine Ref.regionC 23 (by kernel_rfl) ?_
                  refine RefR.ev0 (st' := ⟨[], [.cells [.str r2.2.fsrc, .val (.int .i64 (IntKind.i64.wrap (r2.2.fat + 1))), .own 2 r2.2.ftokens.length], .dead, E37.row r2.2.ftokens], [], 2⟩) 0 8 8 [] [0, 1, 2] rfl (by kernel_rfl) ?_
                  refine RefR.nilC 8 (by kernel_rfl) ?_
                  refine Ref.seqC (cd (bd Tryz.f14) [1, 1, 0, 1, 0, 0, 0, 0, 0, 0, 0, 0, 0, 0, 0, 0, 0, 1, 0, 1, 0]) (cd (bd Tryz.f14) [1, 1, 0, 1, 0, 0, 0, 0, 0, 0, 0, 0, 0, 0, 0, 0, 0, 1, 0, 1, 1]) (by kernel_rfl) ?_
                  refine Ref.regionC 24 (by kernel_rfl) ?_
                  refine RefR.ev0 (st' := ⟨[(2, .c (.val .nilIface))], [.cells [.str r2.2.fsrc, .val (.int .i64 (IntKind.i64.wrap (r2.2.fat + 1))), .own 2 r2.2.ftokens.length], .dead, E37.row r2.2.ftokens], [], 2⟩) 0 1 1 [2] [0, 1, 2] rfl (by kernel_rfl) ?_
                  refine RefR.nilC 1 (by kernel_rfl) ?_
                  refine Ref.conv (Conv.slot 2 (.c (errC none)) (DLe.c (errC_nil)) (by kernel_rfl)) ?_
                  exact Ref.retC (t := (Sum.inr (Sum.inr (Sum.inr (Sum.inr (Sum.inr (Sum.inr (Sum.inr (none, (⟨r2.2.fsrc, (IntKind.i64.wrap (r2.2.fat + 1)), r2.2.ftokens⟩ : S42)))))))))) (by kernel_rfl) (by kernel_rfl)
              ·
                refine Ref.seqC (cd (bd Tryz.f14) [1, 1, 0, 1, 0, 0, 0, 0, 0, 0, 0, 0, 0, 0, 0, 1, 0]) (cd (bd Tryz.f14) [1, 1, 0, 1, 0, 0, 0, 0, 0, 0, 0, 0, 0, 0, 0, 1, 1]) (by kernel_rfl) ?_
                refine Ref.seqC (cd (bd Tryz.f14) [1, 1, 0, 1, 0, 0, 0, 0, 0, 0, 0, 0, 0, 0, 0, 1, 0, 0]) (cd (bd Tryz.f14) [1, 1, 0, 1, 0, 0, 0, 0, 0, 0, 0, 0, 0, 0, 0, 1, 0, 1]) (by kernel_rfl) ?_
                refine Ref.regionC 25 (by kernel_rfl) ?_
                refine RefR.ev0 (st' := ⟨[(0, .c (.ptr 0 0 0)), (3, .c (.val (.int .u8 (Int.ofNat r1.1.toNat)))), (44, .c (.val (.bool (((Int.ofNat r2.1.toNat) : Int) == 42))))], [.cells [.str r2.2.fsrc, .val (.int .i64 r2.2.fat), .own 2 r2.2.ftokens.length], .dead, E37.row r2.2.ftokens], [], 2⟩) 0 2 2 [0, 3, 44] [0, 1, 2] rfl (by kernel_rfl) ?_
                refine RefR.nilC 2 (by kernel_rfl) ?_
                refine Ref.condC (.tmp 44) (((Int.ofNat r2.1.toNat) : Int) == 42) (by kernel_rfl) rfl (by kernel_rfl) (fun hc => ?_) (fun hc => ?_)
                ·
                  refine Ref.seqC (cd (bd Tryz.f14) [1, 1, 0, 1, 0, 0, 0, 0, 0, 0, 0, 0, 0, 0, 0, 1, 0, 1, 0, 0]) (cd (bd Tryz.f14) [1, 1, 0, 1, 0, 0, 0, 0, 0, 0, 0, 0, 0, 0, 0, 1, 0, 1, 0, 1]) (by kernel_rfl) ?_
                  refine Ref.regionC 26 (by kernel_rfl) ?_
                  refine RefR.ev0 (st' := ⟨[(45, .c (.ptr 0 0 0))], [.cells [.str r2.2.fsrc, .val (.int .i64 r2.2.fat), .own 2 r2.2.ftokens.length], .dead, E37.row r2.2.ftokens], [], 2⟩) 0 1 1 [45] [0, 1, 2] rfl (by kernel_rfl) ?_
                  refine RefR.callC (t := 46) 1 2 [0, 2] rfl (by kernel_rfl) (F22_ok K r2.2) (fun r1239 => ?_)
                  refine RefR.ev0 (st' := ⟨[(2, .c (errC r1239.1))], [.cells [.str r1239.2.fsrc, .val (.int .i64 r1239.2.fat), .own 2 r1239.2.ftokens.length], .dead, E37.row r1239.2.ftokens], [], 2⟩) 2 1 3 [2] [0, 1, 3] rfl (by kernel_rfl) ?_
                  refine RefR.nilC 3 (by kernel_rfl) ?_
                  exact Ref.retC (t := (Sum.inr (Sum.inr (Sum.inr (Sum.inr (Sum.inr (Sum.inr (r1239.1, r1239.2)))))))) (by kernel_rfl) (by kernel_rfl)
                ·
                  refine Ref.skipC (by kernel_rfl) ?_
                  refine Ref.conv (Conv.keep (st' := ⟨[(0, .c (.ptr 0 0 0)), (3, .c (.val (.int .u8 (Int.ofNat r1.1.toNat))))], [.cells [.str r2.2.fsrc, .val (.int .i64 r2.2.fat), .own 2 r2.2.ftokens.length], .dead, E37.row r2.2.ftokens], [], 2⟩) [0, 3] [0, 1, 2] (by kernel_rfl)) ?_
                  exact Ref.exitC 0 (t := (Sum.inr (Sum.inr (Sum.inr (Sum.inr (Sum.inr (Sum.inl ()))))))) (by kernel_rfl) (by kernel_rfl)
            ·
              refine Ref.seqC (cd (bd Tryz.f14) [1, 1, 0, 1, 0, 0, 0, 0, 0, 0, 0, 0, 0, 1, 0]) (cd (bd Tryz.f14) [1, 1, 0, 1, 0, 0, 0, 0, 0, 0, 0, 0, 0, 1, 1]) (by kernel_rfl) ?_
              refine Ref.seqC (cd (bd Tryz.f14) [1, 1, 0, 1, 0, 0, 0, 0, 0, 0, 0, 0, 0, 1, 0, 0]) (cd (bd Tryz.f14) [1, 1, 0, 1, 0, 0, 0, 0, 0, 0, 0, 0, 0, 1, 0, 1]) (by kernel_rfl) ?_
              refine Ref.seqC (cd (bd Tryz.f14) [1, 1, 0, 1, 0, 0, 0, 0, 0, 0, 0, 0, 0, 1, 0, 0, 0]) (cd (bd Tryz.f14) [1, 1, 0, 1, 0, 0, 0, 0, 0, 0, 0, 0, 0, 1, 0, 0, 1]) (by kernel_rfl) ?_
              refine Ref.regionC 27 (by kernel_rfl) ?_
              refine RefR.ev0 (st' := ⟨[(0, .c (.ptr 0 0 0)), (3, .c (.val (.int .u8 (Int.ofNat r1.1.toNat)))), (48, .c (.val (.bool (((Int.ofNat r2.1.toNat) : Int) == 61))))], [.cells [.str r2.2.fsrc, .val (.int .i64 r2.2.fat), .own 2 r2.2.ftokens.length], .dead, E37.row r2.2.ftokens], [], 2⟩) 0 2 2 [0, 3, 48] [0, 1, 2] rfl (by kernel_rfl) ?_
              refine RefR.nilC 2 (by kernel_rfl) ?_
              refine Ref.condC (.tmp 48) (((Int.ofNat r2.1.toNat) : Int) == 61) (by kernel_rfl) rfl (by kernel_rfl) (fun hc => ?_) (fun hc => ?_)
              ·
                refine Ref.seqC (cd (bd Tryz.f14) [1, 1, 0, 1, 0, 0, 0, 0, 0, 0, 0, 0, 0, 1, 0, 0, 1, 0, 0]) (cd (bd Tryz.f14) [1, 1, 0, 1, 0, 0, 0, 0, 0, 0, 0, 0, 0, 1, 0, 0, 1, 0, 1]) (by kernel_rfl) ?_
                refine Ref.drawnY 28 (by kernel_rfl) (by kernel_rfl) ?_
                refine RefY.evC0 (st' := ⟨[(49, .c (.ptr 0 0 0)), (52, .c (.ptr 0 0 0)), (56, .c (.ptr 0 0 1)), (60, .c (.ptr 0 0 1))], [.cells [.str r2.2.fsrc, .val (.int .i64 r2.2.fat), .own 2 r2.2.ftokens.length], .dead, E37.row r2.2.ftokens], [], 2⟩) (fuel' := 7) [0, 1, 2, 3, 5, 6, 7, 9, 10, 11] [49, 52, 56, 60] [0, 1, 2] rfl (by kernel_rfl) (by kernel_rfl) ?_
                refine RefY.toX [15, 16] ?_
                refine RefX.evC (vs := [bndOk r2.2.fsrc.length r2.2.fat (IntKind.i64.wrap (r2.2.fat + 2))]) (st' := ⟨[(49, .c (.ptr 0 0 0)), (63, .c (.str ((r2.2.fsrc.drop (r2.2.fat : Int).toNat).take (((IntKind.i64.wrap (r2.2.fat + 2)) : Int).toNat - (r2.2.fat : Int).toNat))))], [.cells [.str r2.2.fsrc, .val (.int .i64 r2.2.fat), .own 2 r2.2.ftokens.length], .dead, E37.row r2.2.ftokens], [], 2⟩) (fuel' := 2) [4, 8, 12, 13, 14] [49, 63] [0, 1, 2] rfl (by kernel_rfl) (by kernel_rfl) ?_
                refine RefX.letC (stf := fun x1240 => ⟨[(49, .c (.ptr 0 0 0)), (63, .c (.str x1240))], [.cells [.str r2.2.fsrc, .val (.int .i64 r2.2.fat), .own 2 r2.2.ftokens.length], .dead, E37.row r2.2.ftokens], [], 2⟩) (by kernel_rfl) (fun x1240 => ?_)
                refine RefX.tailC [15, 16] rfl (by kernel_rfl) ?_
                refine RefR.callC (t := 64) 0 1 [0, 2] rfl (by kernel_rfl) (F23_ok K r2.2 4 x1240 0) (fun r1241 => ?_)
                refine RefR.ev0 (st' := ⟨[(2, .c (errC r1241.1))], [.cells [.str r1241.2.fsrc, .val (.int .i64 r1241.2.fat), .own 2 r1241.2.ftokens.length], .dead, E37.row r1241.2.ftokens], [], 2⟩) 1 1 2 [2] [0, 1, 3] rfl (by kernel_rfl) ?_
                refine RefR.nilC 2 (by kernel_rfl) ?_
                exact Ref.retC (t := (Sum.inr (Sum.inr (Sum.inr (Sum.inr (Sum.inr (r1241.1, r1241.2))))))) (by kernel_rfl) (by kernel_rfl)
              ·
                refine Ref.skipC (by kernel_rfl) ?_
                refine Ref.seqC (cd (bd Tryz.f14) [1, 1, 0, 1, 0, 0, 0, 0, 0, 0, 0, 0, 0, 1, 0, 1, 0]) (cd (bd Tryz.f14) [1, 1, 0, 1, 0, 0, 0, 0, 0, 0, 0, 0, 0, 1, 0, 1, 1]) (by kernel_rfl) ?_
                refine Ref.regionC 29 (by kernel_rfl) ?_
                refine RefR.ev0 (st' := ⟨[(0, .c (.ptr 0 0 0)), (3, .c (.val (.int .u8 (Int.ofNat r1.1.toNat)))), (66, .c (.val (.bool (((Int.ofNat r1.1.toNat) : Int) == 63))))], [.cells [.str r2.2.fsrc, .val (.int .i64 r2.2.fat), .own 2 r2.2.ftokens.length], .dead, E37.row r2.2.ftokens], [], 2⟩) 0 2 2 [0, 3, 66] [0, 1, 2] rfl (by kernel_rfl) ?_
                refine RefR.nilC 2 (by kernel_rfl) ?_
                refine Ref.condC (.tmp 66) (((Int.ofNat r1.1.toNat) : Int) == 63) (by kernel_rfl) rfl (by kernel_rfl) (fun hc => ?_) (fun hc => ?_)
                ·
                  refine Ref.seqC (cd (bd Tryz.f14) [1, 1, 0, 1, 0, 0, 0, 0, 0, 0, 0, 0, 0, 1, 0, 1, 1, 0, 0]) (cd (bd Tryz.f14) [1, 1, 0, 1, 0, 0, 0, 0, 0, 0, 0, 0, 0, 1, 0, 1, 1, 0, 1]) (by kernel_rfl) ?_
                  refine Ref.regionC 30 (by kernel_rfl) ?_
                  refine RefR.ev0 (st' := ⟨[(70, .c (.val (.int .i64 r2.2.fat)))], [.cells [.str r2.2.fsrc, .val (.int .i64 r2.2.fat), .own 2 r2.2.ftokens.length], .dead, E37.row r2.2.ftokens], [], 2⟩) 0 4 4 [70] [0, 1, 2] rfl (by kernel_rfl) ?_
                  refine RefR.callC (t := 71) 4 5 [] rfl (by kernel_rfl) (F13_ok K 1 r2.2.fat) (fun r1242 => ?_)
                  refine RefR.ev0 (st' := ⟨[(2, .c (errC r1242))], [.cells [.str r2.2.fsrc, .val (.int .i64 r2.2.fat), .own 2 r2.2.ftokens.length], .dead, E37.row r2.2.ftokens], [], 2⟩) 5 1 6 [2] [0, 1, 2] rfl (by kernel_rfl) ?_
                  refine RefR.nilC 6 (by kernel_rfl) ?_
                  exact Ref.retC (t := (Sum.inr (Sum.inr (Sum.inr (Sum.inr (Sum.inr (r1242, r2.2))))))) (by kernel_rfl) (by kernel_rfl)
                ·
                  refine Ref.skipC (by kernel_rfl) ?_
                  refine Ref.conv (Conv.keep (st' := ⟨[(0, .c (.ptr 0 0 0)), (3, .c (.val (.int .u8 (Int.ofNat r1.1.toNat))))], [.cells [.str r2.2.fsrc, .val (.int .i64 r2.2.fat), .own 2 r2.2.ftokens.length], .dead, E37.row r2.2.ftokens], [], 2⟩) [0, 3] [0, 1, 2] (by kernel_rfl)) ?_
                  exact Ref.exitC 0 (t := (Sum.inr (Sum.inr (Sum.inr (Sum.inr (Sum.inl ())))))) (by kernel_rfl) (by kernel_rfl)
          ·
            refine Ref.seqC (cd (bd Tryz.f14) [1, 1, 0, 1, 0, 0, 0, 0, 0, 0, 0, 1, 0]) (cd (bd Tryz.f14) [1, 1, 0, 1, 0, 0, 0, 0, 0, 0, 0, 1, 1]) (by kernel_rfl) ?_
            refine Ref.seqC (cd (bd Tryz.f14) [1, 1, 0, 1, 0, 0, 0, 0, 0, 0, 0, 1, 0, 0]) (cd (bd Tryz.f14) [1, 1, 0, 1, 0, 0, 0, 0, 0, 0, 0, 1, 0, 1]) (by kernel_rfl) ?_
            refine Ref.regionC 31 (by kernel_rfl) ?_
            refine RefR.ev0 (st' := ⟨[(0, .c (.ptr 0 0 0)), (3, .c (.val (.int .u8 (Int.ofNat r1.1.toNat)))), (77, .c (.val (.bool ((((Int.ofNat r2.1.toNat) : Int) == 61) || (((Int.ofNat r2.1.toNat) : Int) == 62)))))], [.cells [.str r2.2.fsrc, .val (.int .i64 r2.2.fat), .own 2 r2.2.ftokens.length], .dead, E37.row r2.2.ftokens], [], 2⟩) 0 6 6 [0, 3, 77] [0, 1, 2] rfl (by kernel_rfl) ?_
            refine RefR.letC (stf := fun x1243 => ⟨[(0, .c (.ptr 0 0 0)), (3, .c (.val (.int .u8 (Int.ofNat r1.1.toNat)))), (77, .c (.val (.bool x1243)))], [.cells [.str r2.2.fsrc, .val (.int .i64 r2.2.fat), .own 2 r2.2.ftokens.length], .dead, E37.row r2.2.ftokens], [], 2⟩) (by kernel_rfl) (fun x1243 => ?_)
            refine RefR.nilC 6 (by kernel_rfl) ?_
            refine Ref.condC (.tmp 77) x1243 (by kernel_rfl) rfl (by kernel_rfl) (fun hc => ?_) (fun hc => ?_)
            ·
              refine Ref.seqC (cd (bd Tryz.f14) [1, 1, 0, 1, 0, 0, 0, 0, 0, 0, 0, 1, 0, 1, 0, 0]) (cd (bd Tryz.f14) [1, 1, 0, 1, 0, 0, 0, 0, 0, 0, 0, 1, 0, 1, 0, 1]) (by kernel_rfl) ?_
              refine Ref.drawnY 32 (by kernel_rfl) (by kernel_rfl) ?_
              refine RefY.evC0 (st' := ⟨[(78, .c (.ptr 0 0 0)), (81, .c (.ptr 0 0 0)), (85, .c (.ptr 0 0 1)), (89, .c (.ptr 0 0 1))], [.cells [.str r2.2.fsrc, .val (.int .i64 r2.2.fat), .own 2 r2.2.ftokens.length], .dead, E37.row r2.2.ftokens], [], 2⟩) (fuel' := 7) [0, 1, 2, 3, 5, 6, 7, 9, 10, 11] [78, 81, 85, 89] [0, 1, 2] rfl (by kernel_rfl) (by kernel_rfl) ?_
              refine RefY.toX [15, 16] ?_
              refine RefX.evC (vs := [bndOk r2.2.fsrc.length r2.2.fat (IntKind.i64.wrap (r2.2.fat + 2))]) (st' := ⟨[(78, .c (.ptr 0 0 0)), (92, .c (.str ((r2.2.fsrc.drop (r2.2.fat : Int).toNat).take (((IntKind.i64.wrap (r2.2.fat + 2)) : Int).toNat - (r2.2.fat : Int).toNat))))], [.cells [.str r2.2.fsrc, .val (.int .i64 r2.2.fat), .own 2 r2.2.ftokens.length], .dead, E37.row r2.2.ftokens], [], 2⟩) (fuel' := 2) [4, 8, 12, 13, 14] [78, 92] [0, 1, 2] rfl (by kernel_rfl) (by kernel_rfl) ?_
              refine RefX.letC (stf := fun x1244 => ⟨[(78, .c (.ptr 0 0 0)), (92, .c (.str x1244))], [.cells [.str r2.2.fsrc, .val (.int .i64 r2.2.fat), .own 2 r2.2.ftokens.length], .dead, E37.row r2.2.ftokens], [], 2⟩) (by kernel_rfl) (fun x1244 => ?_)
              refine RefX.tailC [15, 16] rfl (by kernel_rfl) ?_
              refine RefR.callC (t := 93) 0 1 [0, 2] rfl (by kernel_rfl) (F23_ok K r2.2 4 x1244 0) (fun r1245 => ?_)
              refine RefR.ev0 (st' := ⟨[(2, .c (errC r1245.1))], [.cells [.str r1245.2.fsrc, .val (.int .i64 r1245.2.fat), .own 2 r1245.2.ftokens.length], .dead, E37.row r1245.2.ftokens], [], 2⟩) 1 1 2 [2] [0, 1, 3] rfl (by kernel_rfl) ?_
              refine RefR.nilC 2 (by kernel_rfl) ?_
              exact Ref.retC (t := (Sum.inr (Sum.inr (Sum.inr (Sum.inr (r1245.1, r1245.2)))))) (by kernel_rfl) (by kernel_rfl)
            ·
              refine Ref.skipC (by kernel_rfl) ?_
              refine Ref.conv (Conv.keep (st' := ⟨[(0, .c (.ptr 0 0 0)), (3, .c (.val (.int .u8 (Int.ofNat r1.1.toNat))))], [.cells [.str r2.2.fsrc, .val (.int .i64 r2.2.fat), .own 2 r2.2.ftokens.length], .dead, E37.row r2.2.ftokens], [], 2⟩) [0, 3] [0, 1, 2] (by kernel_rfl)) ?_
              exact Ref.exitC 0 (t := (Sum.inr (Sum.inr (Sum.inr (Sum.inl ()))))) (by kernel_rfl) (by kernel_rfl)
        ·
          refine Ref.seqC (cd (bd Tryz.f14) [1, 1, 0, 1, 0, 0, 0, 0, 0, 1, 0]) (cd (bd Tryz.f14) [1, 1, 0, 1, 0, 0, 0, 0, 0, 1, 1]) (by kernel_rfl) ?_
          refine Ref.regionC 33 (by kernel_rfl) ?_
          refine RefR.ev0 (st' := ⟨[(0, .c (.ptr 0 0 0)), (3, .c (.val (.int .u8 (Int.ofNat r1.1.toNat)))), (95, .c (.val (.bool (((Int.ofNat r2.1.toNat) : Int) == 46))))], [.cells [.str r2.2.fsrc, .val (.int .i64 r2.2.fat), .own 2 r2.2.ftokens.length], .dead, E37.row r2.2.ftokens], [], 2⟩) 0 2 2 [0, 3, 95] [0, 1, 2] rfl (by kernel_rfl) ?_
          refine RefR.nilC 2 (by kernel_rfl) ?_
          refine Ref.condC (.tmp 95) (((Int.ofNat r2.1.toNat) : Int) == 46) (by kernel_rfl) rfl (by kernel_rfl) (fun hc => ?_) (fun hc => ?_)
          ·
            refine Ref.seqC (cd (bd Tryz.f14) [1, 1, 0, 1, 0, 0, 0, 0, 0, 1, 1, 0, 0]) (cd (bd Tryz.f14) [1, 1, 0, 1, 0, 0, 0, 0, 0, 1, 1, 0, 1]) (by kernel_rfl) ?_
            refine Ref.regionC 34 (by kernel_rfl) ?_
            refine RefR.ev0 (st' := ⟨[(96, .c (.ptr 0 0 0))], [.cells [.str r2.2.fsrc, .val (.int .i64 r2.2.fat), .own 2 r2.2.ftokens.length], .dead, E37.row r2.2.ftokens], [], 2⟩) 0 1 1 [96] [0, 1, 2] rfl (by kernel_rfl) ?_
            refine RefR.callC (t := 97) 1 2 [0, 2] rfl (by kernel_rfl) (F23_ok K r2.2 4 ([46, 46] : Bytes) 0) (fun r1246 => ?_)
            refine RefR.ev0 (st' := ⟨[(2, .c (errC r1246.1))], [.cells [.str r1246.2.fsrc, .val (.int .i64 r1246.2.fat), .own 2 r1246.2.ftokens.length], .dead, E37.row r1246.2.ftokens], [], 2⟩) 2 1 3 [2] [0, 1, 3] rfl (by kernel_rfl) ?_
            refine RefR.nilC 3 (by kernel_rfl) ?_
            exact Ref.retC (t := (Sum.inr (Sum.inr (Sum.inr (r1246.1, r1246.2))))) (by kernel_rfl) (by kernel_rfl)
          ·
            refine Ref.skipC (by kernel_rfl) ?_
            refine Ref.conv (Conv.keep (st' := ⟨[(0, .c (.ptr 0 0 0)), (3, .c (.val (.int .u8 (Int.ofNat r1.1.toNat))))], [.cells [.str r2.2.fsrc, .val (.int .i64 r2.2.fat), .own 2 r2.2.ftokens.length], .dead, E37.row r2.2.ftokens], [], 2⟩) [0, 3] [0, 1, 2] (by kernel_rfl)) ?_
            exact Ref.nil (t := ()) (by kernel_rfl)
      ·
        exact Ref.exitC 0 (t := (Sum.inr (Sum.inl ()))) (by kernel_rfl) (by kernel_rfl)
    ·
      refine Ref.seqC (cd (bd Tryz.f14) [1, 1, 0, 1, 0, 1, 0]) (cd (bd Tryz.f14) [1, 1, 0, 1, 0, 1, 1]) (by kernel_rfl) ?_
      refine Ref.seqC (cd (bd Tryz.f14) [1, 1, 0, 1, 0, 1, 0, 0]) (cd (bd Tryz.f14) [1, 1, 0, 1, 0, 1, 0, 1]) (by kernel_rfl) ?_
      refine Ref.seqC (cd (bd Tryz.f14) [1, 1, 0, 1, 0, 1, 0, 0, 0]) (cd (bd Tryz.f14) [1, 1, 0, 1, 0, 1, 0, 0, 1]) (by kernel_rfl) ?_
      refine Ref.regionC 35 (by kernel_rfl) ?_
      refine RefR.ev0 (st' := ⟨[(0, .c (.ptr 0 0 0)), (3, .c (.val (.int .u8 (Int.ofNat r1.1.toNat)))), (98, .c (.val (.int .u8 (Int.ofNat r1.1.toNat))))], [.cells [.str r2.2.fsrc, .val (.int .i64 r2.2.fat), .own 2 r2.2.ftokens.length], .dead, E37.row r2.2.ftokens], [], 2⟩) 0 1 1 [0, 3, 98] [0, 1, 2] rfl (by kernel_rfl) ?_
      refine RefR.callC (t := 99) 1 2 [] rfl (by kernel_rfl) (F24_ok K r1.1) (fun r1247 => ?_)
      refine RefR.nilC 2 (by kernel_rfl) ?_
      refine Ref.condC (.tmp 99) r1247 (by kernel_rfl) rfl (by kernel_rfl) (fun hc => ?_) (fun hc => ?_)
      ·
        refine Ref.seqC (cd (bd Tryz.f14) [1, 1, 0, 1, 0, 1, 0, 0, 1, 0, 0]) (cd (bd Tryz.f14) [1, 1, 0, 1, 0, 1, 0, 0, 1, 0, 1]) (by kernel_rfl) ?_
        refine Ref.regionC 36 (by kernel_rfl) ?_
        refine RefR.ev0 (st' := ⟨[(100, .c (.ptr 0 0 0))], [.cells [.str r2.2.fsrc, .val (.int .i64 r2.2.fat), .own 2 r2.2.ftokens.length], .dead, E37.row r2.2.ftokens], [], 2⟩) 0 1 1 [100] [0, 1, 2] rfl (by kernel_rfl) ?_
        refine RefR.callC (t := 101) 1 2 [0, 2] rfl (by kernel_rfl) (F25_ok K r2.2) (fun r1248 => ?_)
        refine RefR.ev0 (st' := ⟨[(2, .c (errC r1248.1))], [.cells [.str r1248.2.fsrc, .val (.int .i64 r1248.2.fat), .own 2 r1248.2.ftokens.length], .dead, E37.row r1248.2.ftokens], [], 2⟩) 2 1 3 [2] [0, 1, 3] rfl (by kernel_rfl) ?_
        refine RefR.nilC 3 (by kernel_rfl) ?_
        exact Ref.retC (t := (Sum.inr (r1248.1, r1248.2))) (by kernel_rfl) (by kernel_rfl)
      ·
        refine Ref.skipC (by kernel_rfl) ?_
        refine Ref.seqC (cd (bd Tryz.f14) [1, 1, 0, 1, 0, 1, 0, 1, 0]) (cd (bd Tryz.f14) [1, 1, 0, 1, 0, 1, 0, 1, 1]) (by kernel_rfl) ?_
        refine Ref.seqC (cd (bd Tryz.f14) [1, 1, 0, 1, 0, 1, 0, 1, 0, 0]) (cd (bd Tryz.f14) [1, 1, 0, 1, 0, 1, 0, 1, 0, 1]) (by kernel_rfl) ?_
        refine Ref.regionC 37 (by kernel_rfl) ?_
        refine RefR.ev0 (st' := ⟨[(0, .c (.ptr 0 0 0)), (102, .c (.val (.int .u8 (Int.ofNat r1.1.toNat))))], [.cells [.str r2.2.fsrc, .val (.int .i64 r2.2.fat), .own 2 r2.2.ftokens.length], .dead, E37.row r2.2.ftokens], [], 2⟩) 0 1 1 [0, 102] [0, 1, 2] rfl (by kernel_rfl) ?_
        refine RefR.callC (t := 103) 1 2 [] rfl (by kernel_rfl) (F26_ok K r1.1) (fun r1249 => ?_)
        refine RefR.nilC 2 (by kernel_rfl) ?_
        refine Ref.condC (.tmp 103) r1249 (by kernel_rfl) rfl (by kernel_rfl) (fun hc => ?_) (fun hc => ?_)
        ·
          refine Ref.seqC (cd (bd Tryz.f14) [1, 1, 0, 1, 0, 1, 0, 1, 0, 1, 0, 0]) (cd (bd Tryz.f14) [1, 1, 0, 1, 0, 1, 0, 1, 0, 1, 0, 1]) (by kernel_rfl) ?_
          refine Ref.regionC 38 (by kernel_rfl) ?_
          refine RefR.ev0 (st' := ⟨[(104, .c (.ptr 0 0 0))], [.cells [.str r2.2.fsrc, .val (.int .i64 r2.2.fat), .own 2 r2.2.ftokens.length], .dead, E37.row r2.2.ftokens], [], 2⟩) 0 1 1 [104] [0, 1, 2] rfl (by kernel_rfl) ?_
          refine RefR.callC (t := 105) 1 2 [0, 2] rfl (by kernel_rfl) (F27_ok K r2.2) (fun r1250 => ?_)
          refine RefR.ev0 (st' := ⟨[(2, .c (errC r1250.1))], [.cells [.str r1250.2.fsrc, .val (.int .i64 r1250.2.fat), .own 2 r1250.2.ftokens.length], .dead, E37.row r1250.2.ftokens], [], 2⟩) 2 1 3 [2] [0, 1, 3] rfl (by kernel_rfl) ?_
          refine RefR.nilC 3 (by kernel_rfl) ?_
          exact Ref.retC (t := (Sum.inr (r1250.1, r1250.2))) (by kernel_rfl) (by kernel_rfl)
        ·
          refine Ref.skipC (by kernel_rfl) ?_
          refine Ref.seqC (cd (bd Tryz.f14) [1, 1, 0, 1, 0, 1, 0, 1, 1, 0]) (cd (bd Tryz.f14) [1, 1, 0, 1, 0, 1, 0, 1, 1, 1]) (by kernel_rfl) ?_
          refine Ref.regionC 39 (by kernel_rfl) ?_
          refine RefR.ev0 (st' := ⟨[(109, .c (.val (.int .i64 r2.2.fat)))], [.cells [.str r2.2.fsrc, .val (.int .i64 r2.2.fat), .own 2 r2.2.ftokens.length], .dead, E37.row r2.2.ftokens], [], 2⟩) 0 4 4 [109] [0, 1, 2] rfl (by kernel_rfl) ?_
          refine RefR.callC (t := 110) 4 5 [] rfl (by kernel_rfl) (F13_ok K 1 r2.2.fat) (fun r1251 => ?_)
          refine RefR.ev0 (st' := ⟨[(2, .c (errC r1251))], [.cells [.str r2.2.fsrc, .val (.int .i64 r2.2.fat), .own 2 r2.2.ftokens.length], .dead, E37.row r2.2.ftokens], [], 2⟩) 5 1 6 [2] [0, 1, 2] rfl (by kernel_rfl) ?_
          refine RefR.nilC 6 (by kernel_rfl) ?_
          exact Ref.retC (t := (Sum.inr (r1251, r2.2))) (by kernel_rfl) (by kernel_rfl)
  ·
    refine Ref.seqC (cd (bd Tryz.f14) [1, 1, 1, 0]) (cd (bd Tryz.f14) [1, 1, 1, 1]) (by kernel_rfl) ?_
    refine Ref.regionC 40 (by kernel_rfl) ?_
    refine RefR.ev0 (st' := ⟨[(111, .c (.ptr 0 0 0)), (112, .c (.val (.int .u8 (Int.ofNat r1.1.toNat))))], [.cells [.str r2.2.fsrc, .val (.int .i64 r2.2.fat), .own 2 r2.2.ftokens.length], .dead, E37.row r2.2.ftokens], [], 2⟩) 0 2 2 [111, 112] [0, 1, 2] rfl (by kernel_rfl) ?_
    refine RefR.ev0 (st' := ⟨[(111, .c (.ptr 0 0 0)), (113, .c (.own 3 1))], [.cells [.str r2.2.fsrc, .val (.int .i64 r2.2.fat), .own 2 r2.2.ftokens.length], .dead, E37.row r2.2.ftokens, .row 5 1 1 (tbl [[.val (.int .u8 (Int.ofNat r1.1.toNat))]])], [], 2⟩) 2 1 3 [111, 113] [0, 1, 2, 3] rfl (by kernel_rfl) ?_
    refine RefR.conv (Conv.obj 3 (E5.row [r1.1]) (El.row_build E5 [r1.1] rfl (by kernel_rfl)) (by kernel_rfl)) ?_
    refine RefR.conv (Conv.slot 113 (.c (.own 3 ([r1.1].length))) (DLe.c (CLe.own (by simp <;> omega))) (by kernel_rfl)) ?_
    refine RefR.bytesStr (t := 114) (d := .c (.own 3 ([r1.1].length))) 3 4 [r1.1] (by kernel_rfl) (by kernel_rfl) (isBytes.own 3 5 (by kernel_rfl) (by kernel_rfl)) ?_
    refine RefR.callC (t := 115) 4 5 [0, 2] rfl (by kernel_rfl) (F23_ok K r2.2 4 [r1.1] 0) (fun r1252 => ?_)
    refine RefR.ev0 (st' := ⟨[(2, .c (errC r1252.1))], [.cells [.str r1252.2.fsrc, .val (.int .i64 r1252.2.fat), .own 2 r1252.2.ftokens.length], .dead, E37.row r1252.2.ftokens], [], 2⟩) 5 1 6 [2] [0, 1, 4] rfl (by kernel_rfl) ?_
    refine RefR.nilC 6 (by kernel_rfl) ?_
    exact Ref.retC (t := (r1252.1, r1252.2)) (by kernel_rfl) (by kernel_rfl)

/-- governor/lex.All -/
def F5 (K : Nat) (a0 : Bytes) : Option (((List S37) × Err) ⊕ ((List S37) × Err)) :=
  (letV (decide (((Int.ofNat a0.length) : Int) > 6000)) (fun (x1 : Bool) => (if x1 = true then ((fnS (F13 K 5 6000)).bind (fun r2 => (some (.inl ([], r2))))) else (bindS (blockS ((iter K (fun (u22 : Bytes × Int × (List S37)) => (letV (decide ((u22.2.1 : Int) < (Int.ofNat a0.length))) (fun (x28 : Bool) => (if x28 = true then (bindS (blockS ((fnS (F14 K (⟨u22.1, u22.2.1, u22.2.2⟩ : S42))).bind (fun r31 => (if (!(!r31.1.isSome)) = true then (some (.inl (Sum.inr (Sum.inr ([], r31.1))))) else (some (.inr (r31.2.fsrc, r31.2.fat, r31.2.ftokens))))))) (fun (u30 : Bytes × Int × (List S37)) => (some (.inr (u30.1, u30.2.1, u30.2.2))))) else (some (.inl (Sum.inl (u22.1, u22.2.1, u22.2.2)))))))) (a0, 0, [])).map .inl)) (fun (u17 : Bytes × Int × (List S37)) => (some (.inl (u17.2.2, none))))))))

theorem F5_ok (K : Nat) (a0 : Bytes) : DFun Tryz.prog 5 [.c (.str a0)] [] (fnS (F5 K a0)) (fun r => .tup [.c (E37.tree r.1), .c (errC r.2)]) (fun r => []) := by
  refine DFun.intro (fn := Tryz.f5) (c := cd (bd Tryz.f5) []) (rs := fun r => ⟨[(2, .c (E37.tree r.1)), (3, .c (errC r.2))], [], [], 0⟩) (by kernel_rfl) (by kernel_rfl) (by kernel_rfl) ?_ (fun r => by kernel_rfl) (fun r => by kernel_rfl) (fun r => by kernel_rfl) (fun r => by kernel_rfl)
  unfold F5
  refine Ref.seqC (cd (bd Tryz.f5) [0]) (cd (bd Tryz.f5) [1]) (by kernel_rfl) ?_
  refine Ref.regionC 0 (by kernel_rfl) ?_
  refine RefR.ev0 (st' := ⟨[(0, .c (.str a0))], [], [], 0⟩) 0 2 2 [0] [] rfl (by kernel_rfl) ?_
  refine RefR.nilC 2 (by kernel_rfl) ?_
  refine Ref.seqC (cd (bd Tryz.f5) [1, 0]) (cd (bd Tryz.f5) [1, 1]) (by kernel_rfl) ?_
  refine Ref.seqC (cd (bd Tryz.f5) [1, 0, 0]) (cd (bd Tryz.f5) [1, 0, 1]) (by kernel_rfl) ?_
  refine Ref.regionC 1 (by kernel_rfl) ?_
  refine RefR.ev0 (st' := ⟨[(0, .c (.str a0)), (8, .c (.val (.bool (decide (((Int.ofNat a0.length) : Int) > 6000)))))], [], [], 0⟩) 0 3 3 [0, 8] [] rfl (by kernel_rfl) ?_
  refine RefR.letC (stf := fun x1 => ⟨[(0, .c (.str a0)), (8, .c (.val (.bool x1)))], [], [], 0⟩) (by kernel_rfl) (fun x1 => ?_)
  refine RefR.nilC 3 (by kernel_rfl) ?_
  refine Ref.condC (.tmp 8) x1 (by kernel_rfl) rfl (by kernel_rfl) (fun hc => ?_) (fun hc => ?_)
  ·
    refine Ref.seqC (cd (bd Tryz.f5) [1, 0, 1, 0, 0]) (cd (bd Tryz.f5) [1, 0, 1, 0, 1]) (by kernel_rfl) ?_
    refine Ref.regionC 2 (by kernel_rfl) ?_
    refine RefR.callC (t := 9) 0 1 [] rfl (by kernel_rfl) (F13_ok K 5 6000) (fun r2 => ?_)
    refine RefR.ev0 (st' := ⟨[(2, .c (.nil)), (3, .c (errC r2))], [], [], 0⟩) 1 2 3 [2, 3] [] rfl (by kernel_rfl) ?_
    refine RefR.nilC 3 (by kernel_rfl) ?_
    refine Ref.conv (Conv.slot 2 (.c (E37.tree [])) (DLe.c (El.tree_nil E37)) (by kernel_rfl)) ?_
    exact Ref.retC (t := ([], r2)) (by kernel_rfl) (by kernel_rfl)
  ·
    refine Ref.skipC (by kernel_rfl) ?_
    refine Ref.seqC (cd (bd Tryz.f5) [1, 1, 0]) (cd (bd Tryz.f5) [1, 1, 1]) (by kernel_rfl) ?_
    refine Ref.regionC 3 (by kernel_rfl) ?_
    refine RefR.ev0 (st' := ⟨[(0, .c (.str a0)), (4, .c (.ptr 0 0 0))], [.cells [.str a0, .val (.int .i64 0), .nil]], [], 0⟩) 0 4 4 [0, 4] [0] rfl (by kernel_rfl) ?_
    refine RefR.nilC 4 (by kernel_rfl) ?_
    refine Ref.seqC (cd (bd Tryz.f5) [1, 1, 1, 0]) (cd (bd Tryz.f5) [1, 1, 1, 1]) (by kernel_rfl) ?_
    refine Ref.codeEq (c' := .block 0 (cd (bd Tryz.f5) [1, 1, 1, 0, 0])) (by kernel_rfl) ?_
    refine Ref.block (go1 := fun u17 => ⟨[(4, .c (.ptr 0 0 0))], [.cells [.str u17.1, .val (.int .i64 u17.2.1), .own 1 u17.2.2.length], E37.row u17.2.2], [], 0⟩) ?_ (fun _ h => by cases h) (fun u17 => ?_)
    ·
      refine Ref.codeEq (c' := .loop (cd (bd Tryz.f5) [1, 1, 1, 0, 0, 0])) (by kernel_rfl) ?_
      refine Ref.conv (Conv.adoptCell (st' := ⟨[(0, .c (.str a0)), (4, .c (.ptr 0 0 0))], [.cells [.str a0, .val (.int .i64 0), .own 1 0], E37.row []], [], 0⟩) 0 2 E37.ty E37.w (E37.at []) (by kernel_rfl)) ?_
      refine Ref.loop (hd := fun u22 => ⟨[(0, .c (.str a0)), (4, .c (.ptr 0 0 0))], [.cells [.str u22.1, .val (.int .i64 u22.2.1), .own 1 u22.2.2.length], E37.row u22.2.2], [], 0⟩) K (a0, 0, []) (by kernel_rfl) (fun u22 => ?_)
      refine Ref.seqC (cd (bd Tryz.f5) [1, 1, 1, 0, 0, 0, 0]) (cd (bd Tryz.f5) [1, 1, 1, 0, 0, 0, 1]) (by kernel_rfl) ?_
      refine Ref.seqC (cd (bd Tryz.f5) [1, 1, 1, 0, 0, 0, 0, 0]) (cd (bd Tryz.f5) [1, 1, 1, 0, 0, 0, 0, 1]) (by kernel_rfl) ?_
      refine Ref.regionC 4 (by kernel_rfl) ?_
      refine RefR.ev0 (st' := ⟨[(0, .c (.str a0)), (4, .c (.ptr 0 0 0)), (19, .c (.val (.bool (decide ((u22.2.1 : Int) < (Int.ofNat a0.length))))))], [.cells [.str u22.1, .val (.int .i64 u22.2.1), .own 1 u22.2.2.length], E37.row u22.2.2], [], 0⟩) 0 7 7 [0, 4, 19] [0, 1] rfl (by kernel_rfl) ?_
      refine RefR.letC (stf := fun x28 => ⟨[(0, .c (.str a0)), (4, .c (.ptr 0 0 0)), (19, .c (.val (.bool x28)))], [.cells [.str u22.1, .val (.int .i64 u22.2.1), .own 1 u22.2.2.length], E37.row u22.2.2], [], 0⟩) (by kernel_rfl) (fun x28 => ?_)
      refine RefR.nilC 7 (by kernel_rfl) ?_
      refine Ref.condC (.tmp 19) x28 (by kernel_rfl) rfl (by kernel_rfl) (fun hc => ?_) (fun hc => ?_)
      ·
        refine Ref.skipC (by kernel_rfl) ?_
        refine Ref.codeEq (c' := .block 1 (cd (bd Tryz.f5) [1, 1, 1, 0, 0, 0, 1, 0])) (by kernel_rfl) ?_
        refine Ref.block (go1 := fun u30 => ⟨[(0, .c (.str a0)), (4, .c (.ptr 0 0 0))], [.cells [.str u30.1, .val (.int .i64 u30.2.1), .own 1 u30.2.2.length], E37.row u30.2.2], [], 0⟩) ?_ (fun a => match a with | .inl _ => (fun h => by cases h) | .inr _ => (fun h => by cases h)) (fun u30 => ?_)
        ·
          refine Ref.seqC (cd (bd Tryz.f5) [1, 1, 1, 0, 0, 0, 1, 0, 0]) (cd (bd Tryz.f5) [1, 1, 1, 0, 0, 0, 1, 0, 1]) (by kernel_rfl) ?_
          refine Ref.regionC 5 (by kernel_rfl) ?_
          refine RefR.ev0 (st' := ⟨[(0, .c (.str a0)), (4, .c (.ptr 0 0 0)), (20, .c (.ptr 0 0 0))], [.cells [.str u22.1, .val (.int .i64 u22.2.1), .own 1 u22.2.2.length], E37.row u22.2.2], [], 0⟩) 0 1 1 [0, 4, 20] [0, 1] rfl (by kernel_rfl) ?_
          refine RefR.callC (t := 21) 1 2 [0, 1] rfl (by kernel_rfl) (F14_ok K (⟨u22.1, u22.2.1, u22.2.2⟩ : S42)) (fun r31 => ?_)
          refine RefR.ev0 (st' := ⟨[(0, .c (.str a0)), (4, .c (.ptr 0 0 0)), (5, .c (errC r31.1))], [.cells [.str r31.2.fsrc, .val (.int .i64 r31.2.fat), .own 1 r31.2.ftokens.length], E37.row r31.2.ftokens], [], 0⟩) 2 1 3 [0, 4, 5] [0, 2] rfl (by kernel_rfl) ?_
          refine RefR.nilC 3 (by kernel_rfl) ?_
          refine Ref.seqC (cd (bd Tryz.f5) [1, 1, 1, 0, 0, 0, 1, 0, 1, 0]) (cd (bd Tryz.f5) [1, 1, 1, 0, 0, 0, 1, 0, 1, 1]) (by kernel_rfl) ?_
          refine Ref.regionC 6 (by kernel_rfl) ?_
          refine RefR.ev0 (st' := ⟨[(0, .c (.str a0)), (4, .c (.ptr 0 0 0)), (5, .c (errC r31.1)), (23, .c (.val (.bool (!(!r31.1.isSome)))))], [.cells [.str r31.2.fsrc, .val (.int .i64 r31.2.fat), .own 1 r31.2.ftokens.length], E37.row r31.2.ftokens], [], 0⟩) 0 2 2 [0, 4, 5, 23] [0, 1] rfl (by kernel_rfl) ?_
          refine RefR.nilC 2 (by kernel_rfl) ?_
          refine Ref.condC (.tmp 23) (!(!r31.1.isSome)) (by kernel_rfl) rfl (by kernel_rfl) (fun hc => ?_) (fun hc => ?_)
          ·
            refine Ref.seqC (cd (bd Tryz.f5) [1, 1, 1, 0, 0, 0, 1, 0, 1, 1, 0, 0]) (cd (bd Tryz.f5) [1, 1, 1, 0, 0, 0, 1, 0, 1, 1, 0, 1]) (by kernel_rfl) ?_
            refine Ref.regionC 7 (by kernel_rfl) ?_
            refine RefR.ev0 (st' := ⟨[(2, .c (.nil)), (3, .c (errC r31.1))], [], [], 0⟩) 0 3 3 [2, 3] [] rfl (by kernel_rfl) ?_
            refine RefR.nilC 3 (by kernel_rfl) ?_
            refine Ref.conv (Conv.slot 2 (.c (E37.tree [])) (DLe.c (El.tree_nil E37)) (by kernel_rfl)) ?_
            exact Ref.retC (t := (Sum.inr (Sum.inr ([], r31.1)))) (by kernel_rfl) (by kernel_rfl)
          ·
            refine Ref.skipC (by kernel_rfl) ?_
            refine Ref.conv (Conv.keep (st' := ⟨[(0, .c (.str a0)), (4, .c (.ptr 0 0 0))], [.cells [.str r31.2.fsrc, .val (.int .i64 r31.2.fat), .own 1 r31.2.ftokens.length], E37.row r31.2.ftokens], [], 0⟩) [0, 4] [0, 1] (by kernel_rfl)) ?_
            exact Ref.nil (t := (r31.2.fsrc, r31.2.fat, r31.2.ftokens)) (by kernel_rfl)
        ·
          exact Ref.nil (t := (u30.1, u30.2.1, u30.2.2)) (by kernel_rfl)
      ·
        refine Ref.conv (Conv.keep (st' := ⟨[(4, .c (.ptr 0 0 0))], [.cells [.str u22.1, .val (.int .i64 u22.2.1), .own 1 u22.2.2.length], E37.row u22.2.2], [], 0⟩) [4] [0, 1] (by kernel_rfl)) ?_
        exact Ref.exitC 0 (t := (Sum.inl (u22.1, u22.2.1, u22.2.2))) (by kernel_rfl) (by kernel_rfl)
    ·
      refine Ref.seqC (cd (bd Tryz.f5) [1, 1, 1, 1, 0]) (cd (bd Tryz.f5) [1, 1, 1, 1, 1]) (by kernel_rfl) ?_
      refine Ref.regionC 8 (by kernel_rfl) ?_
      refine RefR.ev0 (st' := ⟨[(2, .c (.own 0 u17.2.2.length)), (3, .c (.val .nilIface))], [E37.row u17.2.2], [], 0⟩) 0 6 6 [2, 3] [1] rfl (by kernel_rfl) ?_
      refine RefR.nilC 6 (by kernel_rfl) ?_
      refine Ref.conv (Conv.freeze (st' := ⟨[(2, .c (E37.tree u17.2.2)), (3, .c (.val .nilIface))], [.dead], [], 0⟩) 0 (by kernel_rfl)) ?_
      refine Ref.conv (Conv.slot 3 (.c (errC none)) (DLe.c (errC_nil)) (by kernel_rfl)) ?_
      refine Ref.conv (Conv.keep (st' := ⟨[(2, .c (E37.tree u17.2.2)), (3, .c (errC none))], [], [], 0⟩) [2, 3] [] (by kernel_rfl)) ?_
      exact Ref.retC (t := (u17.2.2, none)) (by kernel_rfl) (by kernel_rfl)

/-- governor/lex.All -/
def F5w (K : Nat) (a0 : Bytes) : Option (((List S37) × Err) ⊕ ((List S37) × Err)) :=
  (letV (decide (((Int.ofNat a0.length) : Int) > 6000)) (fun (x1 : Bool) => (if x1 = true then ((fnS (F13 K 5 6000)).bind (fun r2 => (some (.inl ([], r2))))) else (bindS (blockS ((iter K (fun (u22 : Bytes × Int × (List S37)) => (letV (decide ((u22.2.1 : Int) < (Int.ofNat a0.length))) (fun (x28 : Bool) => (if x28 = true then (bindS (blockS ((fnS (F14 K (⟨u22.1, u22.2.1, u22.2.2⟩ : S42))).bind (fun r31 => (if (!(!r31.1.isSome)) = true then (some (.inl (Sum.inr (Sum.inr ([], r31.1))))) else (some (.inr (r31.2.fsrc, r31.2.fat, r31.2.ftokens))))))) (fun (u30 : Bytes × Int × (List S37)) => (some (.inr (u30.1, u30.2.1, u30.2.2))))) else (some (.inl (Sum.inl (u22.1, u22.2.1, u22.2.2)))))))) (a0, 0, [])).map .inl)) (fun (u17 : Bytes × Int × (List S37)) => (some (.inl (u17.2.2, none))))))))

theorem F5w_ok (K : Nat) (a0 : Bytes) : DFun Tryz.prog 5 [.c (.str a0)] [] (fnS (F5w K a0)) (fun r => .tup [.c (.own 0 r.1.length), .c (errC r.2)]) (fun r => [E37.row r.1]) := by
  refine DFun.intro (fn := Tryz.f5) (c := cd (bd Tryz.f5) []) (rs := fun r => ⟨[(2, .c (.own 0 r.1.length)), (3, .c (errC r.2))], [E37.row r.1], [], 0⟩) (by kernel_rfl) (by kernel_rfl) (by kernel_rfl) ?_ (fun r => by kernel_rfl) (fun r => by kernel_rfl) (fun r => by kernel_rfl) (fun r => by kernel_rfl)
  unfold F5w
  refine Ref.seqC (cd (bd Tryz.f5) [0]) (cd (bd Tryz.f5) [1]) (by kernel_rfl) ?_
  refine Ref.regionC 0 (by kernel_rfl) ?_
  refine RefR.ev0 (st' := ⟨[(0, .c (.str a0))], [], [], 0⟩) 0 2 2 [0] [] rfl (by kernel_rfl) ?_
  refine RefR.nilC 2 (by kernel_rfl) ?_
  refine Ref.seqC (cd (bd Tryz.f5) [1, 0]) (cd (bd Tryz.f5) [1, 1]) (by kernel_rfl) ?_
  refine Ref.seqC (cd (bd Tryz.f5) [1, 0, 0]) (cd (bd Tryz.f5) [1, 0, 1]) (by kernel_rfl) ?_
  refine Ref.regionC 1 (by kernel_rfl) ?_
  refine RefR.ev0 (st' := ⟨[(0, .c (.str a0)), (8, .c (.val (.bool (decide (((Int.ofNat a0.length) : Int) > 6000)))))], [], [], 0⟩) 0 3 3 [0, 8] [] rfl (by kernel_rfl) ?_
  refine RefR.letC (stf := fun x1 => ⟨[(0, .c (.str a0)), (8, .c (.val (.bool x1)))], [], [], 0⟩) (by kernel_rfl) (fun x1 => ?_)
  refine RefR.nilC 3 (by kernel_rfl) ?_
  refine Ref.condC (.tmp 8) x1 (by kernel_rfl) rfl (by kernel_rfl) (fun hc => ?_) (fun hc => ?_)
  ·
    refine Ref.seqC (cd (bd Tryz.f5) [1, 0, 1, 0, 0]) (cd (bd Tryz.f5) [1, 0, 1, 0, 1]) (by kernel_rfl) ?_
    refine Ref.regionC 2 (by kernel_rfl) ?_
    refine RefR.callC (t := 9) 0 1 [] rfl (by kernel_rfl) (F13_ok K 5 6000) (fun r2 => ?_)
    refine RefR.ev0 (st' := ⟨[(2, .c (.nil)), (3, .c (errC r2))], [], [], 0⟩) 1 2 3 [2, 3] [] rfl (by kernel_rfl) ?_
    refine RefR.nilC 3 (by kernel_rfl) ?_
    refine Ref.conv (Conv.adopt 2 E37.ty E37.w (E37.at []) (by kernel_rfl) (by kernel_rfl) (by kernel_rfl)) ?_
    exact Ref.retC (t := ([], r2)) (by kernel_rfl) (by kernel_rfl)
  ·
    refine Ref.skipC (by kernel_rfl) ?_
    refine Ref.seqC (cd (bd Tryz.f5) [1, 1, 0]) (cd (bd Tryz.f5) [1, 1, 1]) (by kernel_rfl) ?_
    refine Ref.regionC 3 (by kernel_rfl) ?_
    refine RefR.ev0 (st' := ⟨[(0, .c (.str a0)), (4, .c (.ptr 0 0 0))], [.cells [.str a0, .val (.int .i64 0), .nil]], [], 0⟩) 0 4 4 [0, 4] [0] rfl (by kernel_rfl) ?_
    refine RefR.nilC 4 (by kernel_rfl) ?_
    refine Ref.seqC (cd (bd Tryz.f5) [1, 1, 1, 0]) (cd (bd Tryz.f5) [1, 1, 1, 1]) (by kernel_rfl) ?_
    refine Ref.codeEq (c' := .block 0 (cd (bd Tryz.f5) [1, 1, 1, 0, 0])) (by kernel_rfl) ?_
    refine Ref.block (go1 := fun u17 => ⟨[(4, .c (.ptr 0 0 0))], [.cells [.str u17.1, .val (.int .i64 u17.2.1), .own 1 u17.2.2.length], E37.row u17.2.2], [], 0⟩) ?_ (fun _ h => by cases h) (fun u17 => ?_)
    ·
      refine Ref.codeEq (c' := .loop (cd (bd Tryz.f5) [1, 1, 1, 0, 0, 0])) (by kernel_rfl) ?_
      refine Ref.conv (Conv.adoptCell (st' := ⟨[(0, .c (.str a0)), (4, .c (.ptr 0 0 0))], [.cells [.str a0, .val (.int .i64 0), .own 1 0], E37.row []], [], 0⟩) 0 2 E37.ty E37.w (E37.at []) (by kernel_rfl)) ?_
      refine Ref.loop (hd := fun u22 => ⟨[(0, .c (.str a0)), (4, .c (.ptr 0 0 0))], [.cells [.str u22.1, .val (.int .i64 u22.2.1), .own 1 u22.2.2.length], E37.row u22.2.2], [], 0⟩) K (a0, 0, []) (by kernel_rfl) (fun u22 => ?_)
      refine Ref.seqC (cd (bd Tryz.f5) [1, 1, 1, 0, 0, 0, 0]) (cd (bd Tryz.f5) [1, 1, 1, 0, 0, 0, 1]) (by kernel_rfl) ?_
      refine Ref.seqC (cd (bd Tryz.f5) [1, 1, 1, 0, 0, 0, 0, 0]) (cd (bd Tryz.f5) [1, 1, 1, 0, 0, 0, 0, 1]) (by kernel_rfl) ?_
      refine Ref.regionC 4 (by kernel_rfl) ?_
      refine RefR.ev0 (st' := ⟨[(0, .c (.str a0)), (4, .c (.ptr 0 0 0)), (19, .c (.val (.bool (decide ((u22.2.1 : Int) < (Int.ofNat a0.length))))))], [.cells [.str u22.1, .val (.int .i64 u22.2.1), .own 1 u22.2.2.length], E37.row u22.2.2], [], 0⟩) 0 7 7 [0, 4, 19] [0, 1] rfl (by kernel_rfl) ?_
      refine RefR.letC (stf := fun x28 => ⟨[(0, .c (.str a0)), (4, .c (.ptr 0 0 0)), (19, .c (.val (.bool x28)))], [.cells [.str u22.1, .val (.int .i64 u22.2.1), .own 1 u22.2.2.length], E37.row u22.2.2], [], 0⟩) (by kernel_rfl) (fun x28 => ?_)
      refine RefR.nilC 7 (by kernel_rfl) ?_
      refine Ref.condC (.tmp 19) x28 (by kernel_rfl) rfl (by kernel_rfl) (fun hc => ?_) (fun hc => ?_)
      ·
        refine Ref.skipC (by kernel_rfl) ?_
        refine Ref.codeEq (c' := .block 1 (cd (bd Tryz.f5) [1, 1, 1, 0, 0, 0, 1, 0])) (by kernel_rfl) ?_
        refine Ref.block (go1 := fun u30 => ⟨[(0, .c (.str a0)), (4, .c (.ptr 0 0 0))], [.cells [.str u30.1, .val (.int .i64 u30.2.1), .own 1 u30.2.2.length], E37.row u30.2.2], [], 0⟩) ?_ (fun a => match a with | .inl _ => (fun h => by cases h) | .inr _ => (fun h => by cases h)) (fun u30 => ?_)
        ·
          refine Ref.seqC (cd (bd Tryz.f5) [1, 1, 1, 0, 0, 0, 1, 0, 0]) (cd (bd Tryz.f5) [1, 1, 1, 0, 0, 0, 1, 0, 1]) (by kernel_rfl) ?_
          refine Ref.regionC 5 (by kernel_rfl) ?_
          refine RefR.ev0 (st' := ⟨[(0, .c (.str a0)), (4, .c (.ptr 0 0 0)), (20, .c (.ptr 0 0 0))], [.cells [.str u22.1, .val (.int .i64 u22.2.1), .own 1 u22.2.2.length], E37.row u22.2.2], [], 0⟩) 0 1 1 [0, 4, 20] [0, 1] rfl (by kernel_rfl) ?_
          refine RefR.callC (t := 21) 1 2 [0, 1] rfl (by kernel_rfl) (F14_ok K (⟨u22.1, u22.2.1, u22.2.2⟩ : S42)) (fun r31 => ?_)
          refine RefR.ev0 (st' := ⟨[(0, .c (.str a0)), (4, .c (.ptr 0 0 0)), (5, .c (errC r31.1))], [.cells [.str r31.2.fsrc, .val (.int .i64 r31.2.fat), .own 1 r31.2.ftokens.length], E37.row r31.2.ftokens], [], 0⟩) 2 1 3 [0, 4, 5] [0, 2] rfl (by kernel_rfl) ?_
          refine RefR.nilC 3 (by kernel_rfl) ?_
          refine Ref.seqC (cd (bd Tryz.f5) [1, 1, 1, 0, 0, 0, 1, 0, 1, 0]) (cd (bd Tryz.f5) [1, 1, 1, 0, 0, 0, 1, 0, 1, 1]) (by kernel_rfl) ?_
          refine Ref.regionC 6 (by kernel_rfl) ?_
          refine RefR.ev0 (st' := ⟨[(0, .c (.str a0)), (4, .c (.ptr 0 0 0)), (5, .c (errC r31.1)), (23, .c (.val (.bool (!(!r31.1.isSome)))))], [.cells [.str r31.2.fsrc, .val (.int .i64 r31.2.fat), .own 1 r31.2.ftokens.length], E37.row r31.2.ftokens], [], 0⟩) 0 2 2 [0, 4, 5, 23] [0, 1] rfl (by kernel_rfl) ?_
          refine RefR.nilC 2 (by kernel_rfl) ?_
          refine Ref.condC (.tmp 23) (!(!r31.1.isSome)) (by kernel_rfl) rfl (by kernel_rfl) (fun hc => ?_) (fun hc => ?_)
          ·
            refine Ref.seqC (cd (bd Tryz.f5) [1, 1, 1, 0, 0, 0, 1, 0, 1, 1, 0, 0]) (cd (bd Tryz.f5) [1, 1, 1, 0, 0, 0, 1, 0, 1, 1, 0, 1]) (by kernel_rfl) ?_
            refine Ref.regionC 7 (by kernel_rfl) ?_
            refine RefR.ev0 (st' := ⟨[(2, .c (.nil)), (3, .c (errC r31.1))], [], [], 0⟩) 0 3 3 [2, 3] [] rfl (by kernel_rfl) ?_
            refine RefR.nilC 3 (by kernel_rfl) ?_
            refine Ref.conv (Conv.adopt 2 E37.ty E37.w (E37.at []) (by kernel_rfl) (by kernel_rfl) (by kernel_rfl)) ?_
            exact Ref.retC (t := (Sum.inr (Sum.inr ([], r31.1)))) (by kernel_rfl) (by kernel_rfl)
          ·
            refine Ref.skipC (by kernel_rfl) ?_
            refine Ref.conv (Conv.keep (st' := ⟨[(0, .c (.str a0)), (4, .c (.ptr 0 0 0))], [.cells [.str r31.2.fsrc, .val (.int .i64 r31.2.fat), .own 1 r31.2.ftokens.length], E37.row r31.2.ftokens], [], 0⟩) [0, 4] [0, 1] (by kernel_rfl)) ?_
            exact Ref.nil (t := (r31.2.fsrc, r31.2.fat, r31.2.ftokens)) (by kernel_rfl)
        ·
          exact Ref.nil (t := (u30.1, u30.2.1, u30.2.2)) (by kernel_rfl)
      ·
        refine Ref.conv (Conv.keep (st' := ⟨[(4, .c (.ptr 0 0 0))], [.cells [.str u22.1, .val (.int .i64 u22.2.1), .own 1 u22.2.2.length], E37.row u22.2.2], [], 0⟩) [4] [0, 1] (by kernel_rfl)) ?_
        exact Ref.exitC 0 (t := (Sum.inl (u22.1, u22.2.1, u22.2.2))) (by kernel_rfl) (by kernel_rfl)
    ·
      refine Ref.seqC (cd (bd Tryz.f5) [1, 1, 1, 1, 0]) (cd (bd Tryz.f5) [1, 1, 1, 1, 1]) (by kernel_rfl) ?_
      refine Ref.regionC 8 (by kernel_rfl) ?_
      refine RefR.ev0 (st' := ⟨[(2, .c (.own 0 u17.2.2.length)), (3, .c (.val .nilIface))], [E37.row u17.2.2], [], 0⟩) 0 6 6 [2, 3] [1] rfl (by kernel_rfl) ?_
      refine RefR.nilC 6 (by kernel_rfl) ?_
      refine Ref.conv (Conv.slot 3 (.c (errC none)) (DLe.c (errC_nil)) (by kernel_rfl)) ?_
      refine Ref.conv (Conv.keep (st' := ⟨[(2, .c (.own 0 u17.2.2.length)), (3, .c (errC none))], [E37.row u17.2.2], [], 0⟩) [2, 3] [0] (by kernel_rfl)) ?_
      exact Ref.retC (t := (u17.2.2, none)) (by kernel_rfl) (by kernel_rfl)

end Go.Proofs.YtnneapbegnmncaaGreatDoor
