/- Plain functions, and that the Go functions do what these do: printed by gen2.py. No conditions. -/
import Derived.Test.YtidjangjfekfjaaGreatDoorGa
import Derived.Test.YtidjangjfekfjaaGreatDoorLCe
import Derived.Test.YtidjangjfekfjaaGreatDoorProg
set_option linter.unusedVariables false
set_option linter.unusedSimpArgs false
set_option linter.unusedSectionVars false
namespace Go.Proofs.YtidjangjfekfjaaGreatDoor
open Go Go.Proofs Go.Dl
set_option maxRecDepth 100000
set_option maxHeartbeats 4000000
def F88 (K : Nat) (a0 : S114) (a1 : Int) : Option ((UInt8 × S114) ⊕ (UInt8 × S114)) :=
 (letV (decide (((IntKind.i64.wrap (a0.fat + a1)) : Int) ≥ (Int.ofNat a0.fsrc.length))) (fun (x1 : Bool) => (if x1 = true then (some (.inl ((b8 0), a0))) else (chk [inb (IntKind.i64.wrap (a0.fat + a1)) a0.fsrc.length] (letV (a0.fsrc.getD ((IntKind.i64.wrap (a0.fat + a1)) : Int).toNat 0) (fun (x2 : UInt8) => (some (.inl (x2, a0)))))))))
theorem F88_ok (K : Nat) (a0 : S114) (a1 : Int) : DFun Tryz.prog 88 [.c (.ptr 0 0 0), .c (.val (.int .i64 a1))] [.cells [.str a0.fsrc, .val (.int .i64 a0.fat), .own 1 a0.ftokens.length], E69.row a0.ftokens] (fnS (F88 K a0 a1)) (fun r => .c (.val (.int .u8 (Int.ofNat r.1.toNat)))) (fun r => [.cells [.str r.2.fsrc, .val (.int .i64 r.2.fat), .own 2 r.2.ftokens.length], .dead, E69.row r.2.ftokens]) := by
 refine DFun.it Tryz.f88 (fun r => ⟨[(4, .c (.val (.int .u8 (Int.ofNat r.1.toNat))))], [.cells [.str r.2.fsrc, iC r.2.fat, .own 2 r.2.ftokens.length], .dead, E69.row r.2.ftokens], [], 2⟩) ?_
 unfold F88
 refine Ref.sq ?_
 refine Ref.rn 0 ?_
 refine RefR.e0 (st' := ⟨[sP 0 0 0 0, sI 1 a1], [.cells [.str a0.fsrc, iC a0.fat, .own 1 a0.ftokens.length], E69.row a0.ftokens], [], 2⟩) 0 1 1 [0, 1] [0, 1] ?_
 refine RefR.nl 1 ?_
 refine Ref.sq ?_
 refine Ref.sq ?_
 refine Ref.drawnY 1 (by kernel_rfl) (by kernel_rfl) ?_
 refine RefY.evC0 (st' := ⟨[sP 0 0 0 0, sI 1 a1, sP 7 0 0 1, sI 9 a1, sP 13 0 0 0], [.cells [.str a0.fsrc, iC a0.fat, .own 1 a0.ftokens.length], E69.row a0.ftokens], [], 2⟩) (fuel' := 5) [0, 1, 2, 4, 6, 7, 8] [0, 1, 7, 9, 13] [0, 1] rfl (by kernel_rfl) (by kernel_rfl) ?_
 refine RefY.toX [] ?_
 refine RefX.evC0 (st' := ⟨[sP 0 0 0 0, sI 1 a1, sB 16 (decide (((IntKind.i64.wrap (a0.fat + a1)) : Int) ≥ (Int.ofNat a0.fsrc.length)))], [.cells [.str a0.fsrc, iC a0.fat, .own 1 a0.ftokens.length], E69.row a0.ftokens], [], 2⟩) (fuel' := 0) [3, 5, 9, 10, 11] [0, 1, 16] [0, 1] rfl (by kernel_rfl) (by kernel_rfl) ?_
 refine RefX.letC (stf := fun x1 => ⟨[sP 0 0 0 0, sI 1 a1, sB 16 x1], [.cells [.str a0.fsrc, iC a0.fat, .own 1 a0.ftokens.length], E69.row a0.ftokens], [], 2⟩) (by kernel_rfl) (fun x1 => ?_)
 refine RefX.done (by kernel_rfl) ?_
 refine Ref.cn (.tmp 16) x1 (fun hc => ?_) (fun hc => ?_)
 ·
  refine Ref.sq ?_
  refine Ref.rn 2 ?_
  refine RefR.e0 (st' := ⟨[(4, .c (.val (.int .u8 0)))], [.cells [.str a0.fsrc, iC a0.fat, .own 1 a0.ftokens.length], E69.row a0.ftokens], [], 2⟩) 0 1 1 [4] [0, 1] ?_
  refine RefR.nl 1 ?_
  refine Ref.conv (Conv.move (st' := ⟨[(4, .c (.val (.int .u8 0)))], [.cells [.str a0.fsrc, iC a0.fat, .own 2 a0.ftokens.length], .dead, E69.row a0.ftokens], [], 2⟩) 1 (by kernel_rfl) (by kernel_rfl)) ?_
  exact Ref.rt (t := ((b8 0), a0))
 ·
  refine Ref.sk ?_
  refine Ref.sq ?_
  refine Ref.drawnY 3 (by kernel_rfl) (by kernel_rfl) ?_
  refine RefY.evC0 (st' := ⟨[sP 19 0 0 0, sP 23 0 0 1, sI 25 a1], [.cells [.str a0.fsrc, iC a0.fat, .own 1 a0.ftokens.length], E69.row a0.ftokens], [], 2⟩) (fuel' := 5) [0, 1, 2, 4, 5, 6, 8] [19, 23, 25] [0, 1] rfl (by kernel_rfl) (by kernel_rfl) ?_
  refine RefY.toX [] ?_
  refine RefX.evC (vs := [inb (IntKind.i64.wrap (a0.fat + a1)) a0.fsrc.length]) (st' := ⟨[(4, .c (.val (.int .u8 (Int.ofNat (a0.fsrc.getD ((IntKind.i64.wrap (a0.fat + a1)) : Int).toNat 0).toNat))))], [.cells [.str a0.fsrc, iC a0.fat, .own 1 a0.ftokens.length], E69.row a0.ftokens], [], 2⟩) (fuel' := 0) [3, 7, 9, 10, 11] [4] [0, 1] rfl (by kernel_rfl) (by kernel_rfl) ?_
  refine RefX.letC (stf := fun x2 => ⟨[(4, .c (.val (.int .u8 (Int.ofNat x2.toNat))))], [.cells [.str a0.fsrc, iC a0.fat, .own 1 a0.ftokens.length], E69.row a0.ftokens], [], 2⟩) (by kernel_rfl) (fun x2 => ?_)
  refine RefX.done (by kernel_rfl) ?_
  refine Ref.conv (Conv.move (st' := ⟨[(4, .c (.val (.int .u8 (Int.ofNat x2.toNat))))], [.cells [.str a0.fsrc, iC a0.fat, .own 2 a0.ftokens.length], .dead, E69.row a0.ftokens], [], 2⟩) 1 (by kernel_rfl) (by kernel_rfl)) ?_
  exact Ref.rt (t := (x2, a0))
def F91 (K : Nat) (a0 : UInt8) : Option ((Bool) ⊕ (Bool)) :=
 (letV (((decide (((Int.ofNat a0.toNat) : Int) ≥ 97)) && (decide (((Int.ofNat a0.toNat) : Int) ≤ 122))) || ((decide (((Int.ofNat a0.toNat) : Int) ≥ 65)) && (decide (((Int.ofNat a0.toNat) : Int) ≤ 90)))) (fun (x1 : Bool) => (some (.inl (x1)))))
theorem F91_ok (K : Nat) (a0 : UInt8) : DFun Tryz.prog 91 [.c (.val (.int .u8 (Int.ofNat a0.toNat)))] [] (fnS (F91 K a0)) (fun r => .c (.val (.bool r))) (fun r => []) := by
 refine DFun.it Tryz.f91 (fun r => ⟨[sB 2 r], [], [], 0⟩) ?_
 unfold F91
 refine Ref.sq ?_
 refine Ref.rn 0 ?_
 refine RefR.e0 (st' := ⟨[(0, .c (.val (.int .u8 (Int.ofNat a0.toNat))))], [], [], 0⟩) 0 1 1 [0] [] ?_
 refine RefR.nl 1 ?_
 refine Ref.sq ?_
 refine Ref.rn 1 ?_
 refine RefR.e0 (st' := ⟨[sB 2 (((decide (((Int.ofNat a0.toNat) : Int) ≥ 97)) && (decide (((Int.ofNat a0.toNat) : Int) ≤ 122))) || ((decide (((Int.ofNat a0.toNat) : Int) ≥ 65)) && (decide (((Int.ofNat a0.toNat) : Int) ≤ 90))))], [], [], 0⟩) 0 15 15 [2] [] ?_
 refine RefR.letC (stf := fun x1 => ⟨[sB 2 x1], [], [], 0⟩) (by kernel_rfl) (fun x1 => ?_)
 refine RefR.nl 15 ?_
 exact Ref.rt (t := (x1))
def F93 (K : Nat) (a0 : UInt8) : Option ((Bool) ⊕ (Bool)) :=
 (letV ((decide (((Int.ofNat a0.toNat) : Int) ≥ 48)) && (decide (((Int.ofNat a0.toNat) : Int) ≤ 57))) (fun (x1 : Bool) => (some (.inl (x1)))))
theorem F93_ok (K : Nat) (a0 : UInt8) : DFun Tryz.prog 93 [.c (.val (.int .u8 (Int.ofNat a0.toNat)))] [] (fnS (F93 K a0)) (fun r => .c (.val (.bool r))) (fun r => []) := by
 refine DFun.it Tryz.f93 (fun r => ⟨[sB 2 r], [], [], 0⟩) ?_
 unfold F93
 refine Ref.sq ?_
 refine Ref.rn 0 ?_
 refine RefR.e0 (st' := ⟨[(0, .c (.val (.int .u8 (Int.ofNat a0.toNat))))], [], [], 0⟩) 0 1 1 [0] [] ?_
 refine RefR.nl 1 ?_
 refine Ref.sq ?_
 refine Ref.rn 1 ?_
 refine RefR.e0 (st' := ⟨[sB 2 ((decide (((Int.ofNat a0.toNat) : Int) ≥ 48)) && (decide (((Int.ofNat a0.toNat) : Int) ≤ 57)))], [], [], 0⟩) 0 7 7 [2] [] ?_
 refine RefR.letC (stf := fun x1 => ⟨[sB 2 x1], [], [], 0⟩) (by kernel_rfl) (fun x1 => ?_)
 refine RefR.nl 7 ?_
 exact Ref.rt (t := (x1))
def F113 (K : Nat) (a0 : UInt8) : Option ((Bool) ⊕ (Bool)) :=
 ((fnS (F91 K a0)).bind (fun r1 => ((condM (!r1) (fnS (F93 K a0)) default).bind (fun r2 => (letV ((r1 || r2) || (((Int.ofNat a0.toNat) : Int) == 95)) (fun (x3 : Bool) => (some (.inl (x3)))))))))
theorem F113_ok (K : Nat) (a0 : UInt8) : DFun Tryz.prog 113 [.c (.val (.int .u8 (Int.ofNat a0.toNat)))] [] (fnS (F113 K a0)) (fun r => .c (.val (.bool r))) (fun r => []) := by
 refine DFun.it Tryz.f113 (fun r => ⟨[sB 2 r], [], [], 0⟩) ?_
 unfold F113
 refine Ref.sq ?_
 refine Ref.rn 0 ?_
 refine RefR.e0 (st' := ⟨[(0, .c (.val (.int .u8 (Int.ofNat a0.toNat))))], [], [], 0⟩) 0 1 1 [0] [] ?_
 refine RefR.nl 1 ?_
 refine Ref.sq ?_
 refine Ref.rn 1 ?_
 refine RefR.e1 0 1 1 [0, 3] [] ?_
 refine RefR.cc 4 1 2 [] (F91_ok K a0) (fun r1 => ?_)
 refine RefR.e1 2 2 4 [0, 5, 6] [] ?_
 refine RefR.lookC (t := 7) (g := [(5, false)]) (b := (!r1)) 4 5 [] (default : Bool) rfl (by kernel_rfl) (F93_ok K a0) (fun _ => rfl) (fun r2 => ?_)
 refine RefR.e0 (st' := ⟨[sB 2 ((r1 || r2) || (((Int.ofNat a0.toNat) : Int) == 95))], [], [], 0⟩) 5 6 11 [2] [] ?_
 refine RefR.letC (stf := fun x3 => ⟨[sB 2 x3], [], [], 0⟩) (by kernel_rfl) (fun x3 => ?_)
 refine RefR.nl 11 ?_
 exact Ref.rt (t := (x3))
def F112f113 (K : Nat) (a0 : S114) : Option ((Bytes × S114) ⊕ (Bytes × S114)) :=
 (bindS (blockS ((iter K (fun (u18 : Bytes × Int × (List S69) × Int) => ((fnS (F88 K (⟨u18.1, u18.2.1, u18.2.2.1⟩ : S114) u18.2.2.2)).bind (fun r23 => ((fnS (F113 K r23.1)).bind (fun r24 => (if r24 = true then (bindS (blockS (some (.inr ((IntKind.i64.wrap (u18.2.2.2 + 1)))))) (fun (u25 : Int) => (some (.inr (r23.2.fsrc, r23.2.fat, r23.2.ftokens, u25))))) else (some (.inl (Sum.inl (r23.2.fsrc, r23.2.fat, r23.2.ftokens, u18.2.2.2)))))))))) (a0.fsrc, a0.fat, a0.ftokens, 0)).map .inl)) (fun (u13 : Bytes × Int × (List S69) × Int) => (chk [bndOk u13.1.length u13.2.1 (IntKind.i64.wrap (u13.2.1 + u13.2.2.2))] (letV ((u13.1.drop (u13.2.1 : Int).toNat).take (((IntKind.i64.wrap (u13.2.1 + u13.2.2.2)) : Int).toNat - (u13.2.1 : Int).toNat)) (fun (x26 : Bytes) => (some (.inl (x26, (⟨u13.1, u13.2.1, u13.2.2.1⟩ : S114)))))))))
theorem F112f113_ok (K : Nat) (a0 : S114) : DFun Tryz.prog 112 [.c (.ptr 0 0 0), .c (.func (.func 113) 0 (fun _ => .bot))] [.cells [.str a0.fsrc, .val (.int .i64 a0.fat), .own 1 a0.ftokens.length], E69.row a0.ftokens] (fnS (F112f113 K a0)) (fun r => .c (.str r.1)) (fun r => [.cells [.str r.2.fsrc, .val (.int .i64 r.2.fat), .own 2 r.2.ftokens.length], .dead, E69.row r.2.ftokens]) := by
 refine DFun.it Tryz.f112 (fun r => ⟨[sS 4 r.1], [.cells [.str r.2.fsrc, iC r.2.fat, .own 2 r.2.ftokens.length], .dead, E69.row r.2.ftokens], [], 2⟩) ?_
 unfold F112f113
 refine Ref.sq ?_
 refine Ref.rn 0 ?_
 refine RefR.e0 (st' := ⟨[sP 0 0 0 0, (1, .c (.func (.func 113) 0 (fun _ => .bot)))], [.cells [.str a0.fsrc, iC a0.fat, .own 1 a0.ftokens.length], E69.row a0.ftokens], [], 2⟩) 0 1 1 [0, 1] [0, 1] ?_
 refine RefR.nl 1 ?_
 refine Ref.sq ?_
 refine Ref.rn 1 ?_
 refine RefR.e0 (st' := ⟨[sP 0 0 0 0, (1, .c (.func (.func 113) 0 (fun _ => .bot))), sI 5 0], [.cells [.str a0.fsrc, iC a0.fat, .own 1 a0.ftokens.length], E69.row a0.ftokens], [], 2⟩) 0 1 1 [0, 1, 5] [0, 1] ?_
 refine RefR.nl 1 ?_
 refine Ref.sq ?_
 refine Ref.ce (.block 0 (cd (bd Tryz.f112) [1, 1, 0, 0])) ?_
 refine Ref.block (go1 := fun u13 => ⟨[sP 0 0 0 0, sI 5 u13.2.2.2], [.cells [.str u13.1, iC u13.2.1, .own 2 u13.2.2.1.length], .dead, E69.row u13.2.2.1], [], 2⟩) ?_ (fun _ h => by cases h) (fun u13 => ?_)
 ·
  refine Ref.ce (.loop (cd (bd Tryz.f112) [1, 1, 0, 0, 0])) ?_
  refine Ref.conv (Conv.move (st' := ⟨[sP 0 0 0 0, (1, .c (.func (.func 113) 0 (fun _ => .bot))), sI 5 0], [.cells [.str a0.fsrc, iC a0.fat, .own 2 a0.ftokens.length], .dead, E69.row a0.ftokens], [], 2⟩) 1 (by kernel_rfl) (by kernel_rfl)) ?_
  refine Ref.loop (hd := fun u18 => ⟨[sP 0 0 0 0, (1, .c (.func (.func 113) 0 (fun _ => .bot))), sI 5 u18.2.2.2], [.cells [.str u18.1, iC u18.2.1, .own 2 u18.2.2.1.length], .dead, E69.row u18.2.2.1], [], 2⟩) K (a0.fsrc, a0.fat, a0.ftokens, 0) (by kernel_rfl) (fun u18 => ?_)
  refine Ref.sq ?_
  refine Ref.sq ?_
  refine Ref.rn 2 ?_
  refine RefR.e1 0 3 3 [0, 1, 5, 6, 7, 8] [0, 1, 2] ?_
  refine RefR.cc 9 3 4 [0, 2] (F88_ok K (⟨u18.1, u18.2.1, u18.2.2.1⟩ : S114) u18.2.2.2) (fun r23 => ?_)
  refine RefR.cc 10 4 5 [] (F113_ok K r23.1) (fun r24 => ?_)
  refine RefR.nl 5 ?_
  refine Ref.cn (.tmp 10) r24 (fun hc => ?_) (fun hc => ?_)
  ·
   refine Ref.sk ?_
   refine Ref.ce (.block 1 (cd (bd Tryz.f112) [1, 1, 0, 0, 0, 1, 0])) ?_
   refine Ref.block (go1 := fun u25 => ⟨[sP 0 0 0 0, (1, .c (.func (.func 113) 0 (fun _ => .bot))), sI 5 u25], [.cells [.str r23.2.fsrc, iC r23.2.fat, .own 2 r23.2.ftokens.length], .dead, E69.row r23.2.ftokens], [], 2⟩) ?_ (fun a => match a with | .inl _ => (fun h => by cases h) | .inr _ => (fun h => by cases h)) (fun u25 => ?_)
   ·
    refine Ref.rn 3 ?_
    refine RefR.e0 (st' := ⟨[sP 0 0 0 0, (1, .c (.func (.func 113) 0 (fun _ => .bot))), sI 5 (IntKind.i64.wrap (u18.2.2.2 + 1))], [.cells [.str r23.2.fsrc, iC r23.2.fat, .own 2 r23.2.ftokens.length], .dead, E69.row r23.2.ftokens], [], 2⟩) 0 3 3 [0, 1, 5] [0, 1, 3] ?_
    refine RefR.nl 3 ?_
    exact Ref.n0 (t := ((IntKind.i64.wrap (u18.2.2.2 + 1))))
   ·
    exact Ref.n0 (t := (r23.2.fsrc, r23.2.fat, r23.2.ftokens, u25))
  ·
   refine Ref.ck ⟨[sP 0 0 0 0, sI 5 u18.2.2.2], [.cells [.str r23.2.fsrc, iC r23.2.fat, .own 2 r23.2.ftokens.length], .dead, E69.row r23.2.ftokens], [], 2⟩ [0, 5] [0, 1, 3] ?_
   exact Ref.xt 0 (t := (Sum.inl (r23.2.fsrc, r23.2.fat, r23.2.ftokens, u18.2.2.2)))
 ·
  refine Ref.sq ?_
  refine Ref.drawnY 4 (by kernel_rfl) (by kernel_rfl) ?_
  refine RefY.evC0 (st' := ⟨[sP 15 0 0 0, sP 19 0 0 1, sP 23 0 0 1, sI 25 u13.2.2.2], [.cells [.str u13.1, iC u13.2.1, .own 2 u13.2.2.1.length], .dead, E69.row u13.2.2.1], [], 2⟩) (fuel' := 6) [0, 1, 2, 4, 5, 6, 8, 9, 10, 12] [15, 19, 23, 25] [0, 1, 2] rfl (by kernel_rfl) (by kernel_rfl) ?_
  refine RefY.toX [] ?_
  refine RefX.evC (vs := [bndOk u13.1.length u13.2.1 (IntKind.i64.wrap (u13.2.1 + u13.2.2.2))]) (st' := ⟨[sS 4 ((u13.1.drop (u13.2.1 : Int).toNat).take (((IntKind.i64.wrap (u13.2.1 + u13.2.2.2)) : Int).toNat - (u13.2.1 : Int).toNat))], [.cells [.str u13.1, iC u13.2.1, .own 2 u13.2.2.1.length], .dead, E69.row u13.2.2.1], [], 2⟩) (fuel' := 0) [3, 7, 11, 13, 14, 15] [4] [0, 1, 2] rfl (by kernel_rfl) (by kernel_rfl) ?_
  refine RefX.letC (stf := fun x26 => ⟨[sS 4 x26], [.cells [.str u13.1, iC u13.2.1, .own 2 u13.2.2.1.length], .dead, E69.row u13.2.2.1], [], 2⟩) (by kernel_rfl) (fun x26 => ?_)
  refine RefX.done (by kernel_rfl) ?_
  exact Ref.rt (t := (x26, (⟨u13.1, u13.2.1, u13.2.2.1⟩ : S114)))
def F112f93 (K : Nat) (a0 : S114) : Option ((Bytes × S114) ⊕ (Bytes × S114)) :=
 (bindS (blockS ((iter K (fun (u18 : Bytes × Int × (List S69) × Int) => ((fnS (F88 K (⟨u18.1, u18.2.1, u18.2.2.1⟩ : S114) u18.2.2.2)).bind (fun r23 => ((fnS (F93 K r23.1)).bind (fun r24 => (if r24 = true then (bindS (blockS (some (.inr ((IntKind.i64.wrap (u18.2.2.2 + 1)))))) (fun (u25 : Int) => (some (.inr (r23.2.fsrc, r23.2.fat, r23.2.ftokens, u25))))) else (some (.inl (Sum.inl (r23.2.fsrc, r23.2.fat, r23.2.ftokens, u18.2.2.2)))))))))) (a0.fsrc, a0.fat, a0.ftokens, 0)).map .inl)) (fun (u13 : Bytes × Int × (List S69) × Int) => (chk [bndOk u13.1.length u13.2.1 (IntKind.i64.wrap (u13.2.1 + u13.2.2.2))] (letV ((u13.1.drop (u13.2.1 : Int).toNat).take (((IntKind.i64.wrap (u13.2.1 + u13.2.2.2)) : Int).toNat - (u13.2.1 : Int).toNat)) (fun (x26 : Bytes) => (some (.inl (x26, (⟨u13.1, u13.2.1, u13.2.2.1⟩ : S114)))))))))
theorem F112f93_ok (K : Nat) (a0 : S114) : DFun Tryz.prog 112 [.c (.ptr 0 0 0), .c (.func (.func 93) 0 (fun _ => .bot))] [.cells [.str a0.fsrc, .val (.int .i64 a0.fat), .own 1 a0.ftokens.length], E69.row a0.ftokens] (fnS (F112f93 K a0)) (fun r => .c (.str r.1)) (fun r => [.cells [.str r.2.fsrc, .val (.int .i64 r.2.fat), .own 2 r.2.ftokens.length], .dead, E69.row r.2.ftokens]) := by
 refine DFun.it Tryz.f112 (fun r => ⟨[sS 4 r.1], [.cells [.str r.2.fsrc, iC r.2.fat, .own 2 r.2.ftokens.length], .dead, E69.row r.2.ftokens], [], 2⟩) ?_
 unfold F112f93
 refine Ref.sq ?_
 refine Ref.rn 0 ?_
 refine RefR.e0 (st' := ⟨[sP 0 0 0 0, (1, .c (.func (.func 93) 0 (fun _ => .bot)))], [.cells [.str a0.fsrc, iC a0.fat, .own 1 a0.ftokens.length], E69.row a0.ftokens], [], 2⟩) 0 1 1 [0, 1] [0, 1] ?_
 refine RefR.nl 1 ?_
 refine Ref.sq ?_
 refine Ref.rn 1 ?_
 refine RefR.e0 (st' := ⟨[sP 0 0 0 0, (1, .c (.func (.func 93) 0 (fun _ => .bot))), sI 5 0], [.cells [.str a0.fsrc, iC a0.fat, .own 1 a0.ftokens.length], E69.row a0.ftokens], [], 2⟩) 0 1 1 [0, 1, 5] [0, 1] ?_
 refine RefR.nl 1 ?_
 refine Ref.sq ?_
 refine Ref.ce (.block 0 (cd (bd Tryz.f112) [1, 1, 0, 0])) ?_
 refine Ref.block (go1 := fun u13 => ⟨[sP 0 0 0 0, sI 5 u13.2.2.2], [.cells [.str u13.1, iC u13.2.1, .own 2 u13.2.2.1.length], .dead, E69.row u13.2.2.1], [], 2⟩) ?_ (fun _ h => by cases h) (fun u13 => ?_)
 ·
  refine Ref.ce (.loop (cd (bd Tryz.f112) [1, 1, 0, 0, 0])) ?_
  refine Ref.conv (Conv.move (st' := ⟨[sP 0 0 0 0, (1, .c (.func (.func 93) 0 (fun _ => .bot))), sI 5 0], [.cells [.str a0.fsrc, iC a0.fat, .own 2 a0.ftokens.length], .dead, E69.row a0.ftokens], [], 2⟩) 1 (by kernel_rfl) (by kernel_rfl)) ?_
  refine Ref.loop (hd := fun u18 => ⟨[sP 0 0 0 0, (1, .c (.func (.func 93) 0 (fun _ => .bot))), sI 5 u18.2.2.2], [.cells [.str u18.1, iC u18.2.1, .own 2 u18.2.2.1.length], .dead, E69.row u18.2.2.1], [], 2⟩) K (a0.fsrc, a0.fat, a0.ftokens, 0) (by kernel_rfl) (fun u18 => ?_)
  refine Ref.sq ?_
  refine Ref.sq ?_
  refine Ref.rn 2 ?_
  refine RefR.e1 0 3 3 [0, 1, 5, 6, 7, 8] [0, 1, 2] ?_
  refine RefR.cc 9 3 4 [0, 2] (F88_ok K (⟨u18.1, u18.2.1, u18.2.2.1⟩ : S114) u18.2.2.2) (fun r23 => ?_)
  refine RefR.cc 10 4 5 [] (F93_ok K r23.1) (fun r24 => ?_)
  refine RefR.nl 5 ?_
  refine Ref.cn (.tmp 10) r24 (fun hc => ?_) (fun hc => ?_)
  ·
   refine Ref.sk ?_
   refine Ref.ce (.block 1 (cd (bd Tryz.f112) [1, 1, 0, 0, 0, 1, 0])) ?_
   refine Ref.block (go1 := fun u25 => ⟨[sP 0 0 0 0, (1, .c (.func (.func 93) 0 (fun _ => .bot))), sI 5 u25], [.cells [.str r23.2.fsrc, iC r23.2.fat, .own 2 r23.2.ftokens.length], .dead, E69.row r23.2.ftokens], [], 2⟩) ?_ (fun a => match a with | .inl _ => (fun h => by cases h) | .inr _ => (fun h => by cases h)) (fun u25 => ?_)
   ·
    refine Ref.rn 3 ?_
    refine RefR.e0 (st' := ⟨[sP 0 0 0 0, (1, .c (.func (.func 93) 0 (fun _ => .bot))), sI 5 (IntKind.i64.wrap (u18.2.2.2 + 1))], [.cells [.str r23.2.fsrc, iC r23.2.fat, .own 2 r23.2.ftokens.length], .dead, E69.row r23.2.ftokens], [], 2⟩) 0 3 3 [0, 1, 5] [0, 1, 3] ?_
    refine RefR.nl 3 ?_
    exact Ref.n0 (t := ((IntKind.i64.wrap (u18.2.2.2 + 1))))
   ·
    exact Ref.n0 (t := (r23.2.fsrc, r23.2.fat, r23.2.ftokens, u25))
  ·
   refine Ref.ck ⟨[sP 0 0 0 0, sI 5 u18.2.2.2], [.cells [.str r23.2.fsrc, iC r23.2.fat, .own 2 r23.2.ftokens.length], .dead, E69.row r23.2.ftokens], [], 2⟩ [0, 5] [0, 1, 3] ?_
   exact Ref.xt 0 (t := (Sum.inl (r23.2.fsrc, r23.2.fat, r23.2.ftokens, u18.2.2.2)))
 ·
  refine Ref.sq ?_
  refine Ref.drawnY 4 (by kernel_rfl) (by kernel_rfl) ?_
  refine RefY.evC0 (st' := ⟨[sP 15 0 0 0, sP 19 0 0 1, sP 23 0 0 1, sI 25 u13.2.2.2], [.cells [.str u13.1, iC u13.2.1, .own 2 u13.2.2.1.length], .dead, E69.row u13.2.2.1], [], 2⟩) (fuel' := 6) [0, 1, 2, 4, 5, 6, 8, 9, 10, 12] [15, 19, 23, 25] [0, 1, 2] rfl (by kernel_rfl) (by kernel_rfl) ?_
  refine RefY.toX [] ?_
  refine RefX.evC (vs := [bndOk u13.1.length u13.2.1 (IntKind.i64.wrap (u13.2.1 + u13.2.2.2))]) (st' := ⟨[sS 4 ((u13.1.drop (u13.2.1 : Int).toNat).take (((IntKind.i64.wrap (u13.2.1 + u13.2.2.2)) : Int).toNat - (u13.2.1 : Int).toNat))], [.cells [.str u13.1, iC u13.2.1, .own 2 u13.2.2.1.length], .dead, E69.row u13.2.2.1], [], 2⟩) (fuel' := 0) [3, 7, 11, 13, 14, 15] [4] [0, 1, 2] rfl (by kernel_rfl) (by kernel_rfl) ?_
  refine RefX.letC (stf := fun x26 => ⟨[sS 4 x26], [.cells [.str u13.1, iC u13.2.1, .own 2 u13.2.2.1.length], .dead, E69.row u13.2.2.1], [], 2⟩) (by kernel_rfl) (fun x26 => ?_)
  refine RefX.done (by kernel_rfl) ?_
  exact Ref.rt (t := (x26, (⟨u13.1, u13.2.1, u13.2.2.1⟩ : S114)))
def F90 (K : Nat) (a0 : S114) (a1 : Int) (a2 : Bytes) (a3 : Int) : Option ((Err × S114) ⊕ (Err × S114)) :=
 (letV (decide (((Int.ofNat a0.ftokens.length) : Int) ≥ 1500)) (fun (x1 : Bool) => (if x1 = true then ((fnS (F41 K 5 a0.fat)).bind (fun r2 => (some (.inl (r2, a0))))) else (chk [room ((a0.ftokens.length + ([(⟨a1, a2, a3, a0.fat⟩ : S69)].length)) * 40)] (some (.inl (([] : Err), (⟨a0.fsrc, (IntKind.i64.wrap (a0.fat + (Int.ofNat a2.length))), (a0.ftokens ++ [(⟨a1, a2, a3, a0.fat⟩ : S69)])⟩ : S114))))))))
theorem F90_ok (K : Nat) (a0 : S114) (a1 : Int) (a2 : Bytes) (a3 : Int) : DFun Tryz.prog 90 [.c (.ptr 0 0 0), .c (.val (.int .i64 a1)), .c (.str a2), .c (.val (.int .i64 a3))] [.cells [.str a0.fsrc, .val (.int .i64 a0.fat), .own 1 a0.ftokens.length], E69.row a0.ftokens] (fnS (F90 K a0 a1 a2 a3)) (fun r => .c (errC r.1)) (fun r => [.cells [.str r.2.fsrc, .val (.int .i64 r.2.fat), .own 2 r.2.ftokens.length], .dead, E69.row r.2.ftokens]) := by
 refine DFun.it Tryz.f90 (fun r => ⟨[(8, .c (errC r.1))], [.cells [.str r.2.fsrc, iC r.2.fat, .own 2 r.2.ftokens.length], .dead, E69.row r.2.ftokens], [], 2⟩) ?_
 unfold F90
 refine Ref.sq ?_
 refine Ref.rn 0 ?_
 refine RefR.e0 (st' := ⟨[sP 0 0 0 0, sI 1 a1, sS 2 a2, sI 3 a3], [.cells [.str a0.fsrc, iC a0.fat, .own 1 a0.ftokens.length], E69.row a0.ftokens], [], 2⟩) 0 1 1 [0, 1, 2, 3] [0, 1] ?_
 refine RefR.nl 1 ?_
 refine Ref.sq ?_
 refine Ref.sq ?_
 refine Ref.rn 1 ?_
 refine RefR.e0 (st' := ⟨[sP 0 0 0 0, sI 1 a1, sS 2 a2, sI 3 a3, sB 14 (decide (((Int.ofNat a0.ftokens.length) : Int) ≥ 1500))], [.cells [.str a0.fsrc, iC a0.fat, .own 1 a0.ftokens.length], E69.row a0.ftokens], [], 2⟩) 0 6 6 [0, 1, 2, 3, 14] [0, 1] ?_
 refine RefR.letC (stf := fun x1 => ⟨[sP 0 0 0 0, sI 1 a1, sS 2 a2, sI 3 a3, sB 14 x1], [.cells [.str a0.fsrc, iC a0.fat, .own 1 a0.ftokens.length], E69.row a0.ftokens], [], 2⟩) (by kernel_rfl) (fun x1 => ?_)
 refine RefR.nl 6 ?_
 refine Ref.cn (.tmp 14) x1 (fun hc => ?_) (fun hc => ?_)
 ·
  refine Ref.sq ?_
  refine Ref.rn 2 ?_
  refine RefR.e1 0 4 4 [18] [0, 1] ?_
  refine RefR.cc 19 4 5 [] (F41_ok K 5 a0.fat) (fun r2 => ?_)
  refine RefR.e0 (st' := ⟨[(8, .c (errC r2))], [.cells [.str a0.fsrc, iC a0.fat, .own 1 a0.ftokens.length], E69.row a0.ftokens], [], 2⟩) 5 1 6 [8] [0, 1] ?_
  refine RefR.nl 6 ?_
  refine Ref.conv (Conv.move (st' := ⟨[(8, .c (errC r2))], [.cells [.str a0.fsrc, iC a0.fat, .own 2 a0.ftokens.length], .dead, E69.row a0.ftokens], [], 2⟩) 1 (by kernel_rfl) (by kernel_rfl)) ?_
  exact Ref.rt (t := (r2, a0))
 ·
  refine Ref.sk ?_
  refine Ref.sq ?_
  refine Ref.drawnY 3 (by kernel_rfl) (by kernel_rfl) ?_
  refine RefY.evC0 (st' := ⟨[sP 0 0 0 0, sS 2 a2, sP 20 0 0 0, sP 23 0 0 2, sI 25 a1, sS 26 a2, sI 27 a3, sP 30 0 0 1], [.cells [.str a0.fsrc, iC a0.fat, .own 1 a0.ftokens.length], E69.row a0.ftokens], [], 2⟩) (fuel' := 8) [0, 1, 2, 3, 5, 6, 7, 8, 9, 10] [0, 2, 20, 23, 25, 26, 27, 30] [0, 1] rfl (by kernel_rfl) (by kernel_rfl) ?_
  refine RefY.toX [14, 15, 16, 17] ?_
  refine RefX.evC0 (st' := ⟨[sP 0 0 0 0, sS 2 a2, sP 20 0 0 0, (24, .c (.own 1 a0.ftokens.length)), (32, .agg [iC a1, .str a2, iC a3, iC a0.fat])], [.cells [.str a0.fsrc, iC a0.fat, .own 1 a0.ftokens.length], E69.row a0.ftokens], [], 2⟩) (fuel' := 5) [4, 11, 12] [0, 2, 20, 24, 32] [0, 1] rfl (by kernel_rfl) (by kernel_rfl) ?_
  refine RefX.madeC0 (st' := ⟨[sP 0 0 0 0, sS 2 a2, sP 20 0 0 0, (24, .c (.own 1 a0.ftokens.length)), (33, .c (.own 2 1))], [.cells [.str a0.fsrc, iC a0.fat, .own 1 a0.ftokens.length], E69.row a0.ftokens, .row 69 4 1 (tbl [[iC a1, .str a2, iC a3, iC a0.fat]])], [], 2⟩) (fuel' := 4) 13 [0, 2, 20, 24, 33] [0, 1, 2] rfl (by kernel_rfl) (by kernel_rfl) ?_
  refine RefX.conv (Conv.ob 2 (E69.row [(⟨a1, a2, a3, a0.fat⟩ : S69)]) (El.row_build E69 [(⟨a1, a2, a3, a0.fat⟩ : S69)] rfl (by kernel_rfl))) ?_
  refine RefX.conv (Conv.sl 33 (.c (.own 2 ([(⟨a1, a2, a3, a0.fat⟩ : S69)].length))) (DLe.c (CLe.own (by simp <;> omega)))) ?_
  refine RefX.tailC [14, 15, 16, 17] rfl (by kernel_rfl) ?_
  refine RefR.evC (vs := [room ((a0.ftokens.length + ([(⟨a1, a2, a3, a0.fat⟩ : S69)].length)) * 40)]) (st' := ⟨[sP 0 0 0 0, sS 2 a2, sP 20 0 0 0, (34, .c (.own 2 (a0.ftokens.length + ([(⟨a1, a2, a3, a0.fat⟩ : S69)].length))))], [.cells [.str a0.fsrc, iC a0.fat, .own 1 a0.ftokens.length], .dead, .row 69 4 (a0.ftokens.length + ([(⟨a1, a2, a3, a0.fat⟩ : S69)].length)) fun i j => bif Nat.blt i a0.ftokens.length then E69.at a0.ftokens i j else (E69.at [(⟨a1, a2, a3, a0.fat⟩ : S69)]) (i - a0.ftokens.length) j], [], 2⟩) 0 1 1 [0, 2, 20, 34] [0, 1, 3] rfl (by kernel_rfl) ?_
  refine RefR.conv (Conv.ob 2 (E69.row (a0.ftokens ++ [(⟨a1, a2, a3, a0.fat⟩ : S69)])) (El.row_append E69 a0.ftokens [(⟨a1, a2, a3, a0.fat⟩ : S69)] rfl rfl)) ?_
  refine RefR.conv (Conv.sl 34 (.c (.own 2 ((a0.ftokens ++ [(⟨a1, a2, a3, a0.fat⟩ : S69)]).length))) (DLe.c (CLe.own (by simp <;> omega)))) ?_
  refine RefR.e0 (st' := ⟨[sP 0 0 0 0, sS 2 a2], [.cells [.str a0.fsrc, iC a0.fat, .own 2 ((a0.ftokens ++ [(⟨a1, a2, a3, a0.fat⟩ : S69)]).length)], .dead, E69.row (a0.ftokens ++ [(⟨a1, a2, a3, a0.fat⟩ : S69)])], [], 2⟩) 1 3 4 [0, 2] [0, 1, 2] ?_
  refine RefR.nl 4 ?_
  refine Ref.sq ?_
  refine Ref.rn 4 ?_
  refine RefR.e0 (st' := ⟨[], [.cells [.str a0.fsrc, iC (IntKind.i64.wrap (a0.fat + (Int.ofNat a2.length))), .own 2 ((a0.ftokens ++ [(⟨a1, a2, a3, a0.fat⟩ : S69)]).length)], .dead, E69.row (a0.ftokens ++ [(⟨a1, a2, a3, a0.fat⟩ : S69)])], [], 2⟩) 0 10 10 [] [0, 1, 2] ?_
  refine RefR.nl 10 ?_
  refine Ref.sq ?_
  refine Ref.rn 5 ?_
  refine RefR.e0 (st' := ⟨[(8, .c (.val .nilIface))], [.cells [.str a0.fsrc, iC (IntKind.i64.wrap (a0.fat + (Int.ofNat a2.length))), .own 2 ((a0.ftokens ++ [(⟨a1, a2, a3, a0.fat⟩ : S69)]).length)], .dead, E69.row (a0.ftokens ++ [(⟨a1, a2, a3, a0.fat⟩ : S69)])], [], 2⟩) 0 1 1 [8] [0, 1, 2] ?_
  refine RefR.nl 1 ?_
  refine Ref.conv (Conv.sl 8 (.c (errC ([] : Err))) (DLe.c (errC_nil))) ?_
  exact Ref.rt (t := (([] : Err), (⟨a0.fsrc, (IntKind.i64.wrap (a0.fat + (Int.ofNat a2.length))), (a0.ftokens ++ [(⟨a1, a2, a3, a0.fat⟩ : S69)])⟩ : S114)))
def F125 (K : Nat) : Option (((List Bytes)) ⊕ ((List Bytes))) :=
 ((fnS (F137 K ([73, 78, 84, 69, 82, 70, 65, 67, 69, 32, 69, 78, 68, 95, 73, 78, 84, 69, 82, 70, 65, 67, 69, 32, 67, 76, 65, 83, 83, 32, 69, 78, 68, 95, 67, 76, 65, 83, 83, 32, 80, 82, 79, 71, 82, 65, 77, 32, 69, 78, 68, 95, 80, 82, 79, 71, 82, 65, 77, 32, 77, 69, 84, 72, 79, 68, 32, 69, 78, 68, 95, 77, 69, 84, 72, 79, 68, 32, 84, 65, 83, 75, 32, 73, 78, 84, 69, 82, 86, 65, 76, 32, 80, 82, 73, 79, 82, 73, 84, 89, 32, 69, 88, 84, 69, 78, 68, 83, 32, 73, 77, 80, 76, 69, 77, 69, 78, 84, 83, 32, 65, 66, 83, 84, 82, 65, 67, 84, 32, 70, 73, 78, 65, 76, 32, 79, 86, 69, 82, 82, 73, 68, 69, 32, 86, 65, 82, 32, 65, 84, 32, 73, 78, 32, 79, 85, 84, 32, 73, 78, 84, 32, 66, 79, 79, 76, 32, 82, 69, 65, 76, 32, 76, 82, 69, 65, 76, 32, 65, 82, 82, 65, 89, 32, 79, 70, 32, 82, 69, 70, 95, 84, 79, 32, 82, 69, 70, 32, 84, 79, 78, 32, 84, 79, 70, 32, 84, 80, 32, 67, 84, 85, 32, 67, 84, 68, 32, 82, 95, 84, 82, 73, 71, 32, 70, 95, 84, 82, 73, 71, 32, 84, 82, 85, 69, 32, 70, 65, 76, 83, 69, 32, 78, 85, 76, 76, 32, 84, 72, 73, 83, 32, 83, 85, 80, 69, 82, 32, 65, 83, 32, 78, 79, 84, 32, 65, 78, 68, 32, 79, 82, 32, 88, 79, 82, 32, 77, 79, 68, 32, 73, 70, 32, 84, 72, 69, 78, 32, 69, 76, 83, 73, 70, 32, 69, 76, 83, 69, 32, 69, 78, 68, 95, 73, 70, 32, 67, 65, 83, 69, 32, 69, 78, 68, 95, 67, 65, 83, 69, 32, 87, 72, 73, 76, 69, 32, 68, 79, 32, 69, 78, 68, 95, 87, 72, 73, 76, 69, 32, 70, 79, 82, 32, 84, 79, 32, 66, 89, 32, 69, 78, 68, 95, 70, 79, 82, 32, 82, 69, 84, 85, 82, 78, 32, 69, 88, 73, 84, 32, 83, 84, 69, 80, 32, 68, 79, 78, 69, 32, 67, 79, 85, 78, 84] : Bytes))).bind (fun r1 => (some (.inl (r1)))))
theorem F125_ok (K : Nat) : DFun Tryz.prog 125 [] [] (fnS (F125 K)) (fun r => .c (E9.tree r)) (fun r => []) := by
 refine DFun.it Tryz.f125 (fun r => ⟨[(0, .c (E9.tree r))], [], [], 0⟩) ?_
 unfold F125
 refine Ref.sq ?_
 refine Ref.rn 0 ?_
 refine RefR.e0 (st' := ⟨[], [], [], 0⟩) 0 1 1 [] [] ?_
 refine RefR.nl 1 ?_
 refine Ref.sq ?_
 refine Ref.rn 1 ?_
 refine RefR.cc 1 0 1 [] (F137_ok K ([73, 78, 84, 69, 82, 70, 65, 67, 69, 32, 69, 78, 68, 95, 73, 78, 84, 69, 82, 70, 65, 67, 69, 32, 67, 76, 65, 83, 83, 32, 69, 78, 68, 95, 67, 76, 65, 83, 83, 32, 80, 82, 79, 71, 82, 65, 77, 32, 69, 78, 68, 95, 80, 82, 79, 71, 82, 65, 77, 32, 77, 69, 84, 72, 79, 68, 32, 69, 78, 68, 95, 77, 69, 84, 72, 79, 68, 32, 84, 65, 83, 75, 32, 73, 78, 84, 69, 82, 86, 65, 76, 32, 80, 82, 73, 79, 82, 73, 84, 89, 32, 69, 88, 84, 69, 78, 68, 83, 32, 73, 77, 80, 76, 69, 77, 69, 78, 84, 83, 32, 65, 66, 83, 84, 82, 65, 67, 84, 32, 70, 73, 78, 65, 76, 32, 79, 86, 69, 82, 82, 73, 68, 69, 32, 86, 65, 82, 32, 65, 84, 32, 73, 78, 32, 79, 85, 84, 32, 73, 78, 84, 32, 66, 79, 79, 76, 32, 82, 69, 65, 76, 32, 76, 82, 69, 65, 76, 32, 65, 82, 82, 65, 89, 32, 79, 70, 32, 82, 69, 70, 95, 84, 79, 32, 82, 69, 70, 32, 84, 79, 78, 32, 84, 79, 70, 32, 84, 80, 32, 67, 84, 85, 32, 67, 84, 68, 32, 82, 95, 84, 82, 73, 71, 32, 70, 95, 84, 82, 73, 71, 32, 84, 82, 85, 69, 32, 70, 65, 76, 83, 69, 32, 78, 85, 76, 76, 32, 84, 72, 73, 83, 32, 83, 85, 80, 69, 82, 32, 65, 83, 32, 78, 79, 84, 32, 65, 78, 68, 32, 79, 82, 32, 88, 79, 82, 32, 77, 79, 68, 32, 73, 70, 32, 84, 72, 69, 78, 32, 69, 76, 83, 73, 70, 32, 69, 76, 83, 69, 32, 69, 78, 68, 95, 73, 70, 32, 67, 65, 83, 69, 32, 69, 78, 68, 95, 67, 65, 83, 69, 32, 87, 72, 73, 76, 69, 32, 68, 79, 32, 69, 78, 68, 95, 87, 72, 73, 76, 69, 32, 70, 79, 82, 32, 84, 79, 32, 66, 89, 32, 69, 78, 68, 95, 70, 79, 82, 32, 82, 69, 84, 85, 82, 78, 32, 69, 88, 73, 84, 32, 83, 84, 69, 80, 32, 68, 79, 78, 69, 32, 67, 79, 85, 78, 84] : Bytes)) (fun r1 => ?_)
 refine RefR.e0 (st' := ⟨[(0, .c (E9.tree r1))], [], [], 0⟩) 1 1 2 [0] [] ?_
 refine RefR.nl 2 ?_
 exact Ref.rt (t := (r1))
def F114 (K : Nat) (a0 : Bytes) : Option ((Bool) ⊕ (Bool)) :=
 ((fnS (F125 K)).bind (fun r1 => ((fnS (F50 K r1 a0)).bind (fun r2 => (some (.inl (r2)))))))
theorem F114_ok (K : Nat) (a0 : Bytes) : DFun Tryz.prog 114 [.c (.str a0)] [] (fnS (F114 K a0)) (fun r => .c (.val (.bool r))) (fun r => []) := by
 refine DFun.it Tryz.f114 (fun r => ⟨[sB 2 r], [], [], 0⟩) ?_
 unfold F114
 refine Ref.sq ?_
 refine Ref.rn 0 ?_
 refine RefR.e0 (st' := ⟨[sS 0 a0], [], [], 0⟩) 0 1 1 [0] [] ?_
 refine RefR.nl 1 ?_
 refine Ref.sq ?_
 refine Ref.rn 1 ?_
 refine RefR.cc 3 0 1 [] (F125_ok K) (fun r1 => ?_)
 refine RefR.e1 1 1 2 [3, 4] [] ?_
 refine RefR.cc 5 2 3 [] (F50_ok K r1 a0) (fun r2 => ?_)
 refine RefR.e0 (st' := ⟨[sB 2 r2], [], [], 0⟩) 3 1 4 [2] [] ?_
 refine RefR.nl 4 ?_
 exact Ref.rt (t := (r2))
def F92 (K : Nat) (a0 : S114) : Option ((Err × S114) ⊕ (Err × S114)) :=
 ((fnS (F112f113 K a0)).bind (fun r1 => (bindS (blockS (letV ((r1.1 == ([82, 69, 65, 76] : Bytes)) || (r1.1 == ([76, 82, 69, 65, 76] : Bytes))) (fun (x9 : Bool) => (if x9 = true then ((fnS (F41 K 2 r1.2.fat)).bind (fun r10 => (some (.inl (Sum.inr (r10, r1.2)))))) else ((fnS (F114 K r1.1)).bind (fun r11 => (if r11 = true then ((fnS (F90 K r1.2 2 r1.1 0)).bind (fun r12 => (some (.inl (Sum.inr (r12.1, r12.2)))))) else (letV (decide (((Int.ofNat r1.1.length) : Int) > 12)) (fun (x13 : Bool) => (if x13 = true then ((fnS (F41 K 1 r1.2.fat)).bind (fun r14 => (some (.inl (Sum.inr (r14, r1.2)))))) else (some (.inr ())))))))))))) (fun (u8 : Unit) => ((fnS (F90 K r1.2 1 r1.1 0)).bind (fun r15 => (some (.inl (r15.1, r15.2)))))))))
theorem F92_ok (K : Nat) (a0 : S114) : DFun Tryz.prog 92 [.c (.ptr 0 0 0)] [.cells [.str a0.fsrc, .val (.int .i64 a0.fat), .own 1 a0.ftokens.length], E69.row a0.ftokens] (fnS (F92 K a0)) (fun r => .c (errC r.1)) (fun r => [.cells [.str r.2.fsrc, .val (.int .i64 r.2.fat), .own 2 r.2.ftokens.length], .dead, E69.row r.2.ftokens]) := by
 refine DFun.it Tryz.f92 (fun r => ⟨[(2, .c (errC r.1))], [.cells [.str r.2.fsrc, iC r.2.fat, .own 2 r.2.ftokens.length], .dead, E69.row r.2.ftokens], [], 2⟩) ?_
 unfold F92
 refine Ref.sq ?_
 refine Ref.rn 0 ?_
 refine RefR.e0 (st' := ⟨[sP 0 0 0 0], [.cells [.str a0.fsrc, iC a0.fat, .own 1 a0.ftokens.length], E69.row a0.ftokens], [], 2⟩) 0 1 1 [0] [0, 1] ?_
 refine RefR.nl 1 ?_
 refine Ref.sq ?_
 refine Ref.rn 1 ?_
 refine RefR.e1 0 1 1 [0, 4] [0, 1] ?_
 refine RefR.cc 5 1 2 [0, 1] (F112f113_ok K a0) (fun r1 => ?_)
 refine RefR.e0 (st' := ⟨[sP 0 0 0 0, sS 3 r1.1], [.cells [.str r1.2.fsrc, iC r1.2.fat, .own 2 r1.2.ftokens.length], .dead, E69.row r1.2.ftokens], [], 2⟩) 2 1 3 [0, 3] [0, 1, 2] ?_
 refine RefR.nl 3 ?_
 refine Ref.sq ?_
 refine Ref.ce (.block 0 (cd (bd Tryz.f92) [1, 1, 0, 0])) ?_
 refine Ref.block (go1 := fun u8 => ⟨[sP 0 0 0 0, sS 3 r1.1], [.cells [.str r1.2.fsrc, iC r1.2.fat, .own 2 r1.2.ftokens.length], .dead, E69.row r1.2.ftokens], [], 2⟩) ?_ (fun _ h => by cases h) (fun u8 => ?_)
 ·
  refine Ref.sq ?_
  refine Ref.rn 2 ?_
  refine RefR.e0 (st' := ⟨[sP 0 0 0 0, sS 3 r1.1, sB 6 ((r1.1 == ([82, 69, 65, 76] : Bytes)) || (r1.1 == ([76, 82, 69, 65, 76] : Bytes)))], [.cells [.str r1.2.fsrc, iC r1.2.fat, .own 2 r1.2.ftokens.length], .dead, E69.row r1.2.ftokens], [], 2⟩) 0 7 7 [0, 3, 6] [0, 1, 2] ?_
  refine RefR.letC (stf := fun x9 => ⟨[sP 0 0 0 0, sS 3 r1.1, sB 6 x9], [.cells [.str r1.2.fsrc, iC r1.2.fat, .own 2 r1.2.ftokens.length], .dead, E69.row r1.2.ftokens], [], 2⟩) (by kernel_rfl) (fun x9 => ?_)
  refine RefR.nl 7 ?_
  refine Ref.cn (.tmp 6) x9 (fun hc => ?_) (fun hc => ?_)
  ·
   refine Ref.sq ?_
   refine Ref.rn 3 ?_
   refine RefR.e1 0 4 4 [16] [0, 1, 2] ?_
   refine RefR.cc 17 4 5 [] (F41_ok K 2 r1.2.fat) (fun r10 => ?_)
   refine RefR.e0 (st' := ⟨[(2, .c (errC r10))], [.cells [.str r1.2.fsrc, iC r1.2.fat, .own 2 r1.2.ftokens.length], .dead, E69.row r1.2.ftokens], [], 2⟩) 5 1 6 [2] [0, 1, 2] ?_
   refine RefR.nl 6 ?_
   exact Ref.rt (t := (Sum.inr (r10, r1.2)))
  ·
   refine Ref.sq ?_
   refine Ref.rn 4 ?_
   refine RefR.e1 0 1 1 [0, 3, 19] [0, 1, 2] ?_
   refine RefR.cc 20 1 2 [] (F114_ok K r1.1) (fun r11 => ?_)
   refine RefR.e0 (st' := ⟨[sP 0 0 0 0, sS 3 r1.1, sB 18 r11], [.cells [.str r1.2.fsrc, iC r1.2.fat, .own 2 r1.2.ftokens.length], .dead, E69.row r1.2.ftokens], [], 2⟩) 2 1 3 [0, 3, 18] [0, 1, 2] ?_
   refine RefR.nl 3 ?_
   refine Ref.cn (.tmp 18) r11 (fun hc => ?_) (fun hc => ?_)
   ·
    refine Ref.sq ?_
    refine Ref.rn 5 ?_
    refine RefR.e1 0 2 2 [21, 22] [0, 1, 2] ?_
    refine RefR.cc 23 2 3 [0, 2] (F90_ok K r1.2 2 r1.1 0) (fun r12 => ?_)
    refine RefR.e0 (st' := ⟨[(2, .c (errC r12.1))], [.cells [.str r12.2.fsrc, iC r12.2.fat, .own 2 r12.2.ftokens.length], .dead, E69.row r12.2.ftokens], [], 2⟩) 3 1 4 [2] [0, 1, 3] ?_
    refine RefR.nl 4 ?_
    exact Ref.rt (t := (Sum.inr (r12.1, r12.2)))
   ·
    refine Ref.sq ?_
    refine Ref.rn 6 ?_
    refine RefR.e0 (st' := ⟨[sP 0 0 0 0, sS 3 r1.1, sB 24 (decide (((Int.ofNat r1.1.length) : Int) > 12))], [.cells [.str r1.2.fsrc, iC r1.2.fat, .own 2 r1.2.ftokens.length], .dead, E69.row r1.2.ftokens], [], 2⟩) 0 4 4 [0, 3, 24] [0, 1, 2] ?_
    refine RefR.letC (stf := fun x13 => ⟨[sP 0 0 0 0, sS 3 r1.1, sB 24 x13], [.cells [.str r1.2.fsrc, iC r1.2.fat, .own 2 r1.2.ftokens.length], .dead, E69.row r1.2.ftokens], [], 2⟩) (by kernel_rfl) (fun x13 => ?_)
    refine RefR.nl 4 ?_
    refine Ref.cn (.tmp 24) x13 (fun hc => ?_) (fun hc => ?_)
    ·
     refine Ref.sq ?_
     refine Ref.rn 7 ?_
     refine RefR.e1 0 4 4 [31] [0, 1, 2] ?_
     refine RefR.cc 32 4 5 [] (F41_ok K 1 r1.2.fat) (fun r14 => ?_)
     refine RefR.e0 (st' := ⟨[(2, .c (errC r14))], [.cells [.str r1.2.fsrc, iC r1.2.fat, .own 2 r1.2.ftokens.length], .dead, E69.row r1.2.ftokens], [], 2⟩) 5 1 6 [2] [0, 1, 2] ?_
     refine RefR.nl 6 ?_
     exact Ref.rt (t := (Sum.inr (r14, r1.2)))
    ·
     refine Ref.sk ?_
     refine Ref.ck ⟨[sP 0 0 0 0, sS 3 r1.1], [.cells [.str r1.2.fsrc, iC r1.2.fat, .own 2 r1.2.ftokens.length], .dead, E69.row r1.2.ftokens], [], 2⟩ [0, 3] [0, 1, 2] ?_
     exact Ref.n0 (t := ())
 ·
  refine Ref.sq ?_
  refine Ref.rn 8 ?_
  refine RefR.e1 0 2 2 [33, 34] [0, 1, 2] ?_
  refine RefR.cc 35 2 3 [0, 2] (F90_ok K r1.2 1 r1.1 0) (fun r15 => ?_)
  refine RefR.e0 (st' := ⟨[(2, .c (errC r15.1))], [.cells [.str r15.2.fsrc, iC r15.2.fat, .own 2 r15.2.ftokens.length], .dead, E69.row r15.2.ftokens], [], 2⟩) 3 1 4 [2] [0, 1, 3] ?_
  refine RefR.nl 4 ?_
  exact Ref.rt (t := (r15.1, r15.2))
def F94 (K : Nat) (a0 : S114) : Option ((Err × S114) ⊕ (Err × S114)) :=
 ((fnS (F112f93 K a0)).bind (fun r1 => ((fnS (F115 K r1.1)).bind (fun r2 => (letV (((!(!r2.2)) || (decide (((Int.ofNat r1.1.length) : Int) > 5))) || (decide ((r2.1 : Int) > 32768))) (fun (x3 : Bool) => (if x3 = true then ((fnS (F41 K 1 r1.2.fat)).bind (fun r4 => (some (.inl (r4, r1.2))))) else ((fnS (F90 K r1.2 3 r1.1 r2.1)).bind (fun r5 => (some (.inl (r5.1, r5.2))))))))))))
theorem F94_ok (K : Nat) (a0 : S114) : DFun Tryz.prog 94 [.c (.ptr 0 0 0)] [.cells [.str a0.fsrc, .val (.int .i64 a0.fat), .own 1 a0.ftokens.length], E69.row a0.ftokens] (fnS (F94 K a0)) (fun r => .c (errC r.1)) (fun r => [.cells [.str r.2.fsrc, .val (.int .i64 r.2.fat), .own 2 r.2.ftokens.length], .dead, E69.row r.2.ftokens]) := by
 refine DFun.it Tryz.f94 (fun r => ⟨[(2, .c (errC r.1))], [.cells [.str r.2.fsrc, iC r.2.fat, .own 2 r.2.ftokens.length], .dead, E69.row r.2.ftokens], [], 2⟩) ?_
 unfold F94
 refine Ref.sq ?_
 refine Ref.rn 0 ?_
 refine RefR.e0 (st' := ⟨[sP 0 0 0 0], [.cells [.str a0.fsrc, iC a0.fat, .own 1 a0.ftokens.length], E69.row a0.ftokens], [], 2⟩) 0 1 1 [0] [0, 1] ?_
 refine RefR.nl 1 ?_
 refine Ref.sq ?_
 refine Ref.rn 1 ?_
 refine RefR.e1 0 1 1 [0, 6] [0, 1] ?_
 refine RefR.cc 7 1 2 [0, 1] (F112f93_ok K a0) (fun r1 => ?_)
 refine RefR.e0 (st' := ⟨[sP 0 0 0 0, sS 3 r1.1], [.cells [.str r1.2.fsrc, iC r1.2.fat, .own 2 r1.2.ftokens.length], .dead, E69.row r1.2.ftokens], [], 2⟩) 2 1 3 [0, 3] [0, 1, 2] ?_
 refine RefR.nl 3 ?_
 refine Ref.sq ?_
 refine Ref.rn 2 ?_
 refine RefR.e1 0 1 1 [0, 3, 9] [0, 1, 2] ?_
 refine RefR.cc 10 1 2 [] (F115_ok K r1.1) (fun r2 => ?_)
 refine RefR.e0 (st' := ⟨[sP 0 0 0 0, sS 3 r1.1, sI 4 r2.1, (5, .c (.iface r2.2 193 .bot))], [.cells [.str r1.2.fsrc, iC r1.2.fat, .own 2 r1.2.ftokens.length], .dead, E69.row r1.2.ftokens], [], 2⟩) 2 5 7 [0, 3, 4, 5] [0, 1, 2] ?_
 refine RefR.nl 7 ?_
 refine Ref.sq ?_
 refine Ref.sq ?_
 refine Ref.rn 3 ?_
 refine RefR.e0 (st' := ⟨[sP 0 0 0 0, sS 3 r1.1, sI 4 r2.1, sB 23 (((!(!r2.2)) || (decide (((Int.ofNat r1.1.length) : Int) > 5))) || (decide ((r2.1 : Int) > 32768)))], [.cells [.str r1.2.fsrc, iC r1.2.fat, .own 2 r1.2.ftokens.length], .dead, E69.row r1.2.ftokens], [], 2⟩) 0 11 11 [0, 3, 4, 23] [0, 1, 2] ?_
 refine RefR.letC (stf := fun x3 => ⟨[sP 0 0 0 0, sS 3 r1.1, sI 4 r2.1, sB 23 x3], [.cells [.str r1.2.fsrc, iC r1.2.fat, .own 2 r1.2.ftokens.length], .dead, E69.row r1.2.ftokens], [], 2⟩) (by kernel_rfl) (fun x3 => ?_)
 refine RefR.nl 11 ?_
 refine Ref.cn (.tmp 23) x3 (fun hc => ?_) (fun hc => ?_)
 ·
  refine Ref.sq ?_
  refine Ref.rn 4 ?_
  refine RefR.e1 0 4 4 [27] [0, 1, 2] ?_
  refine RefR.cc 28 4 5 [] (F41_ok K 1 r1.2.fat) (fun r4 => ?_)
  refine RefR.e0 (st' := ⟨[(2, .c (errC r4))], [.cells [.str r1.2.fsrc, iC r1.2.fat, .own 2 r1.2.ftokens.length], .dead, E69.row r1.2.ftokens], [], 2⟩) 5 1 6 [2] [0, 1, 2] ?_
  refine RefR.nl 6 ?_
  exact Ref.rt (t := (r4, r1.2))
 ·
  refine Ref.sk ?_
  refine Ref.sq ?_
  refine Ref.rn 5 ?_
  refine RefR.e1 0 3 3 [29, 30, 31] [0, 1, 2] ?_
  refine RefR.cc 32 3 4 [0, 2] (F90_ok K r1.2 3 r1.1 r2.1) (fun r5 => ?_)
  refine RefR.e0 (st' := ⟨[(2, .c (errC r5.1))], [.cells [.str r5.2.fsrc, iC r5.2.fat, .own 2 r5.2.ftokens.length], .dead, E69.row r5.2.ftokens], [], 2⟩) 4 1 5 [2] [0, 1, 3] ?_
  refine RefR.nl 5 ?_
  exact Ref.rt (t := (r5.1, r5.2))
def F89 (K : Nat) (a0 : S114) : Option ((Err × S114) ⊕ (Err × S114)) :=
 (chk [bndOk a0.fsrc.length (IntKind.i64.wrap (a0.fat + 2)) (Int.ofNat a0.fsrc.length)] (letV ((a0.fsrc.drop ((IntKind.i64.wrap (a0.fat + 2)) : Int).toNat).take (((Int.ofNat a0.fsrc.length) : Int).toNat - ((IntKind.i64.wrap (a0.fat + 2)) : Int).toNat)) (fun (x1 : Bytes) => ((condM true (fnS (F111 K x1 ([42, 41] : Bytes))) default).bind (fun r2 => (if (decide ((r2 : Int) < 0)) = true then ((fnS (F41 K 1 a0.fat)).bind (fun r3 => (some (.inl (r3, a0))))) else (some (.inl (([] : Err), (⟨a0.fsrc, (IntKind.i64.wrap (a0.fat + (IntKind.i64.wrap (r2 + 4)))), a0.ftokens⟩ : S114))))))))))
theorem F89_ok (K : Nat) (a0 : S114) : DFun Tryz.prog 89 [.c (.ptr 0 0 0)] [.cells [.str a0.fsrc, .val (.int .i64 a0.fat), .own 1 a0.ftokens.length], E69.row a0.ftokens] (fnS (F89 K a0)) (fun r => .c (errC r.1)) (fun r => [.cells [.str r.2.fsrc, .val (.int .i64 r.2.fat), .own 2 r.2.ftokens.length], .dead, E69.row r.2.ftokens]) := by
 refine DFun.it Tryz.f89 (fun r => ⟨[(2, .c (errC r.1))], [.cells [.str r.2.fsrc, iC r.2.fat, .own 2 r.2.ftokens.length], .dead, E69.row r.2.ftokens], [], 2⟩) ?_
 unfold F89
 refine Ref.sq ?_
 refine Ref.rn 0 ?_
 refine RefR.e0 (st' := ⟨[sP 0 0 0 0], [.cells [.str a0.fsrc, iC a0.fat, .own 1 a0.ftokens.length], E69.row a0.ftokens], [], 2⟩) 0 1 1 [0] [0, 1] ?_
 refine RefR.nl 1 ?_
 refine Ref.sq ?_
 refine Ref.drawnY 1 (by kernel_rfl) (by kernel_rfl) ?_
 refine RefY.evC0 (st' := ⟨[sP 0 0 0 0, sP 6 0 0 0, sP 10 0 0 1], [.cells [.str a0.fsrc, iC a0.fat, .own 1 a0.ftokens.length], E69.row a0.ftokens], [], 2⟩) (fuel' := 6) [0, 1, 2, 4, 5, 6] [0, 6, 10] [0, 1] rfl (by kernel_rfl) (by kernel_rfl) ?_
 refine RefY.toX [] ?_
 refine RefX.evC (vs := [bndOk a0.fsrc.length (IntKind.i64.wrap (a0.fat + 2)) (Int.ofNat a0.fsrc.length)]) (st' := ⟨[sP 0 0 0 0, sS 13 ((a0.fsrc.drop ((IntKind.i64.wrap (a0.fat + 2)) : Int).toNat).take (((Int.ofNat a0.fsrc.length) : Int).toNat - ((IntKind.i64.wrap (a0.fat + 2)) : Int).toNat))], [.cells [.str a0.fsrc, iC a0.fat, .own 1 a0.ftokens.length], E69.row a0.ftokens], [], 2⟩) (fuel' := 2) [3, 7, 8, 9] [0, 13] [0, 1] rfl (by kernel_rfl) (by kernel_rfl) ?_
 refine RefX.letC (stf := fun x1 => ⟨[sP 0 0 0 0, sS 13 x1], [.cells [.str a0.fsrc, iC a0.fat, .own 1 a0.ftokens.length], E69.row a0.ftokens], [], 2⟩) (by kernel_rfl) (fun x1 => ?_)
 refine RefX.lookC (t := 14) (g := []) (b := true) (fuel' := 1) 10 [] (default : Int) rfl (by kernel_rfl) (by kernel_rfl) (F111_ok K x1 ([42, 41] : Bytes)) (fun _ => rfl) (fun r2 => ?_)
 refine RefX.evC0 (st' := ⟨[sP 0 0 0 0, sI 3 r2], [.cells [.str a0.fsrc, iC a0.fat, .own 1 a0.ftokens.length], E69.row a0.ftokens], [], 2⟩) (fuel' := 0) [11] [0, 3] [0, 1] rfl (by kernel_rfl) (by kernel_rfl) ?_
 refine RefX.done (by kernel_rfl) ?_
 refine Ref.sq ?_
 refine Ref.sq ?_
 refine Ref.rn 2 ?_
 refine RefR.e0 (st' := ⟨[sP 0 0 0 0, sI 3 r2, sB 16 (decide ((r2 : Int) < 0))], [.cells [.str a0.fsrc, iC a0.fat, .own 1 a0.ftokens.length], E69.row a0.ftokens], [], 2⟩) 0 2 2 [0, 3, 16] [0, 1] ?_
 refine RefR.nl 2 ?_
 refine Ref.cn (.tmp 16) (decide ((r2 : Int) < 0)) (fun hc => ?_) (fun hc => ?_)
 ·
  refine Ref.sq ?_
  refine Ref.rn 3 ?_
  refine RefR.e1 0 4 4 [20] [0, 1] ?_
  refine RefR.cc 21 4 5 [] (F41_ok K 1 a0.fat) (fun r3 => ?_)
  refine RefR.e0 (st' := ⟨[(2, .c (errC r3))], [.cells [.str a0.fsrc, iC a0.fat, .own 1 a0.ftokens.length], E69.row a0.ftokens], [], 2⟩) 5 1 6 [2] [0, 1] ?_
  refine RefR.nl 6 ?_
  refine Ref.conv (Conv.move (st' := ⟨[(2, .c (errC r3))], [.cells [.str a0.fsrc, iC a0.fat, .own 2 a0.ftokens.length], .dead, E69.row a0.ftokens], [], 2⟩) 1 (by kernel_rfl) (by kernel_rfl)) ?_
  exact Ref.rt (t := (r3, a0))
 ·
  refine Ref.sk ?_
  refine Ref.sq ?_
  refine Ref.rn 4 ?_
  refine RefR.e0 (st' := ⟨[], [.cells [.str a0.fsrc, iC (IntKind.i64.wrap (a0.fat + (IntKind.i64.wrap (r2 + 4)))), .own 1 a0.ftokens.length], E69.row a0.ftokens], [], 2⟩) 0 10 10 [] [0, 1] ?_
  refine RefR.nl 10 ?_
  refine Ref.sq ?_
  refine Ref.rn 5 ?_
  refine RefR.e0 (st' := ⟨[(2, .c (.val .nilIface))], [.cells [.str a0.fsrc, iC (IntKind.i64.wrap (a0.fat + (IntKind.i64.wrap (r2 + 4)))), .own 1 a0.ftokens.length], E69.row a0.ftokens], [], 2⟩) 0 1 1 [2] [0, 1] ?_
  refine RefR.nl 1 ?_
  refine Ref.conv (Conv.move (st' := ⟨[(2, .c (.val .nilIface))], [.cells [.str a0.fsrc, iC (IntKind.i64.wrap (a0.fat + (IntKind.i64.wrap (r2 + 4)))), .own 2 a0.ftokens.length], .dead, E69.row a0.ftokens], [], 2⟩) 1 (by kernel_rfl) (by kernel_rfl)) ?_
  refine Ref.conv (Conv.sl 2 (.c (errC ([] : Err))) (DLe.c (errC_nil))) ?_
  exact Ref.rt (t := (([] : Err), (⟨a0.fsrc, (IntKind.i64.wrap (a0.fat + (IntKind.i64.wrap (r2 + 4)))), a0.ftokens⟩ : S114)))
def F61 (K : Nat) (a0 : S114) : Option ((Err × S114) ⊕ (Err × S114)) :=
 ((fnS (F88 K a0 0)).bind (fun r1 => ((fnS (F88 K r1.2 1)).bind (fun r2 => (bindS (blockS (bindS (blockS (bindS (blockS (bindS (blockS (bindS (blockS (bindS (blockS (bindS (blockS (bindS (blockS (bindS (if (((Int.ofNat r1.1.toNat) : Int) == 32) = true then (some (.inr ((((Int.ofNat r1.1.toNat) : Int) == 32)))) else (if (((Int.ofNat r1.1.toNat) : Int) == 9) = true then (some (.inr ((((Int.ofNat r1.1.toNat) : Int) == 9)))) else (if (((Int.ofNat r1.1.toNat) : Int) == 10) = true then (some (.inr ((((Int.ofNat r1.1.toNat) : Int) == 10)))) else (some (.inr ((((Int.ofNat r1.1.toNat) : Int) == 13))))))) (fun (u1236 : Bool) => (if u1236 = true then (some (.inl (Sum.inl ()))) else (if (((Int.ofNat r1.1.toNat) : Int) == 40) = true then (some (.inl (Sum.inr (Sum.inl ())))) else (bindS (if (((Int.ofNat r1.1.toNat) : Int) == 58) = true then (some (.inr ((((Int.ofNat r1.1.toNat) : Int) == 58)))) else (if (((Int.ofNat r1.1.toNat) : Int) == 63) = true then (some (.inr ((((Int.ofNat r1.1.toNat) : Int) == 63)))) else (some (.inr ((((Int.ofNat r1.1.toNat) : Int) == 62)))))) (fun (u1237 : Bool) => (if u1237 = true then (some (.inl (Sum.inr (Sum.inr (Sum.inl ()))))) else (if (((Int.ofNat r1.1.toNat) : Int) == 60) = true then (some (.inl (Sum.inr (Sum.inr (Sum.inr (Sum.inl ())))))) else (if (((Int.ofNat r1.1.toNat) : Int) == 46) = true then (some (.inl (Sum.inr (Sum.inr (Sum.inr (Sum.inr (Sum.inl ()))))))) else (bindS (if (((Int.ofNat r1.1.toNat) : Int) == 43) = true then (some (.inr ((((Int.ofNat r1.1.toNat) : Int) == 43)))) else (if (((Int.ofNat r1.1.toNat) : Int) == 45) = true then (some (.inr ((((Int.ofNat r1.1.toNat) : Int) == 45)))) else (if (((Int.ofNat r1.1.toNat) : Int) == 42) = true then (some (.inr ((((Int.ofNat r1.1.toNat) : Int) == 42)))) else (if (((Int.ofNat r1.1.toNat) : Int) == 47) = true then (some (.inr ((((Int.ofNat r1.1.toNat) : Int) == 47)))) else (if (((Int.ofNat r1.1.toNat) : Int) == 61) = true then (some (.inr ((((Int.ofNat r1.1.toNat) : Int) == 61)))) else (if (((Int.ofNat r1.1.toNat) : Int) == 41) = true then (some (.inr ((((Int.ofNat r1.1.toNat) : Int) == 41)))) else (if (((Int.ofNat r1.1.toNat) : Int) == 91) = true then (some (.inr ((((Int.ofNat r1.1.toNat) : Int) == 91)))) else (if (((Int.ofNat r1.1.toNat) : Int) == 93) = true then (some (.inr ((((Int.ofNat r1.1.toNat) : Int) == 93)))) else (if (((Int.ofNat r1.1.toNat) : Int) == 44) = true then (some (.inr ((((Int.ofNat r1.1.toNat) : Int) == 44)))) else (some (.inr ((((Int.ofNat r1.1.toNat) : Int) == 59))))))))))))) (fun (u1238 : Bool) => (if u1238 = true then (some (.inl (Sum.inr (Sum.inr (Sum.inr (Sum.inr (Sum.inr (Sum.inl ())))))))) else (some (.inl (Sum.inr (Sum.inr (Sum.inr (Sum.inr (Sum.inr (Sum.inr (Sum.inl ())))))))))))))))))))))) (fun (u1235 : Unit) => (some (.inl (Sum.inr (Sum.inr (Sum.inr (Sum.inr (Sum.inr (Sum.inr (Sum.inr (([] : Err), (⟨r2.2.fsrc, (IntKind.i64.wrap (r2.2.fat + 1)), r2.2.ftokens⟩ : S114)))))))))))))) (fun (u1231 : Unit) => (if (((Int.ofNat r2.1.toNat) : Int) == 42) = true then ((fnS (F89 K r2.2)).bind (fun r1239 => (some (.inl (Sum.inr (Sum.inr (Sum.inr (Sum.inr (Sum.inr (Sum.inr (r1239.1, r1239.2))))))))))) else (some (.inl (Sum.inr (Sum.inr (Sum.inr (Sum.inr (Sum.inr (Sum.inl ())))))))))))) (fun (u1223 : Unit) => (if (((Int.ofNat r2.1.toNat) : Int) == 61) = true then (chk [bndOk r2.2.fsrc.length r2.2.fat (IntKind.i64.wrap (r2.2.fat + 2))] (letV ((r2.2.fsrc.drop (r2.2.fat : Int).toNat).take (((IntKind.i64.wrap (r2.2.fat + 2)) : Int).toNat - (r2.2.fat : Int).toNat)) (fun (x1240 : Bytes) => ((fnS (F90 K r2.2 4 x1240 0)).bind (fun r1241 => (some (.inl (Sum.inr (Sum.inr (Sum.inr (Sum.inr (Sum.inr (r1241.1, r1241.2))))))))))))) else (if (((Int.ofNat r1.1.toNat) : Int) == 63) = true then ((fnS (F41 K 1 r2.2.fat)).bind (fun r1242 => (some (.inl (Sum.inr (Sum.inr (Sum.inr (Sum.inr (Sum.inr (r1242, r2.2)))))))))) else (some (.inl (Sum.inr (Sum.inr (Sum.inr (Sum.inr (Sum.inl ())))))))))))) (fun (u1206 : Unit) => (letV ((((Int.ofNat r2.1.toNat) : Int) == 61) || (((Int.ofNat r2.1.toNat) : Int) == 62)) (fun (x1243 : Bool) => (if x1243 = true then (chk [bndOk r2.2.fsrc.length r2.2.fat (IntKind.i64.wrap (r2.2.fat + 2))] (letV ((r2.2.fsrc.drop (r2.2.fat : Int).toNat).take (((IntKind.i64.wrap (r2.2.fat + 2)) : Int).toNat - (r2.2.fat : Int).toNat)) (fun (x1244 : Bytes) => ((fnS (F90 K r2.2 4 x1244 0)).bind (fun r1245 => (some (.inl (Sum.inr (Sum.inr (Sum.inr (Sum.inr (r1245.1, r1245.2)))))))))))) else (some (.inl (Sum.inr (Sum.inr (Sum.inr (Sum.inl ())))))))))))) (fun (u1169 : Unit) => (if (((Int.ofNat r2.1.toNat) : Int) == 46) = true then ((fnS (F90 K r2.2 4 ([46, 46] : Bytes) 0)).bind (fun r1246 => (some (.inl (Sum.inr (Sum.inr (Sum.inr (r1246.1, r1246.2)))))))) else (some (.inr ())))))) (fun (u1092 : Unit) => (some (.inl (Sum.inr (Sum.inl ()))))))) (fun (u937 : Unit) => ((fnS (F91 K r1.1)).bind (fun r1247 => (if r1247 = true then ((fnS (F92 K r2.2)).bind (fun r1248 => (some (.inl (Sum.inr (r1248.1, r1248.2)))))) else ((fnS (F93 K r1.1)).bind (fun r1249 => (if r1249 = true then ((fnS (F94 K r2.2)).bind (fun r1250 => (some (.inl (Sum.inr (r1250.1, r1250.2)))))) else ((fnS (F41 K 1 r2.2.fat)).bind (fun r1251 => (some (.inl (Sum.inr (r1251, r2.2))))))))))))))) (fun (u627 : Unit) => ((fnS (F90 K r2.2 4 [r1.1] 0)).bind (fun r1252 => (some (.inl (r1252.1, r1252.2)))))))))))
theorem F61_ok (K : Nat) (a0 : S114) : DFun Tryz.prog 61 [.c (.ptr 0 0 0)] [.cells [.str a0.fsrc, .val (.int .i64 a0.fat), .own 1 a0.ftokens.length], E69.row a0.ftokens] (fnS (F61 K a0)) (fun r => .c (errC r.1)) (fun r => [.cells [.str r.2.fsrc, .val (.int .i64 r.2.fat), .own 2 r.2.ftokens.length], .dead, E69.row r.2.ftokens]) := by
 refine DFun.it Tryz.f61 (fun r => ⟨[(2, .c (errC r.1))], [.cells [.str r.2.fsrc, iC r.2.fat, .own 2 r.2.ftokens.length], .dead, E69.row r.2.ftokens], [], 2⟩) ?_
 unfold F61
 refine Ref.sq ?_
 refine Ref.rn 0 ?_
 refine RefR.e0 (st' := ⟨[sP 0 0 0 0], [.cells [.str a0.fsrc, iC a0.fat, .own 1 a0.ftokens.length], E69.row a0.ftokens], [], 2⟩) 0 1 1 [0] [0, 1] ?_
 refine RefR.nl 1 ?_
 refine Ref.sq ?_
 refine Ref.rn 1 ?_
 refine RefR.e1 0 1 1 [0, 5] [0, 1] ?_
 refine RefR.cc 6 1 2 [0, 1] (F88_ok K a0 0) (fun r1 => ?_)
 refine RefR.e1 2 1 3 [0, 6, 7] [0, 1, 2] ?_
 refine RefR.cc 8 3 4 [0, 2] (F88_ok K r1.2 1) (fun r2 => ?_)
 refine RefR.e0 (st' := ⟨[sP 0 0 0 0, (3, .c (.val (.int .u8 (Int.ofNat r1.1.toNat)))), (4, .c (.val (.int .u8 (Int.ofNat r2.1.toNat))))], [.cells [.str r2.2.fsrc, iC r2.2.fat, .own 2 r2.2.ftokens.length], .dead, E69.row r2.2.ftokens], [], 2⟩) 4 2 6 [0, 3, 4] [0, 1, 3] ?_
 refine RefR.nl 6 ?_
 refine Ref.sq ?_
 refine Ref.sq ?_
 refine Ref.rn 2 ?_
 refine RefR.e0 (st' := ⟨[sP 0 0 0 0, (3, .c (.val (.int .u8 (Int.ofNat r1.1.toNat)))), (4, .c (.val (.int .u8 (Int.ofNat r2.1.toNat)))), (9, .c (.val (.int .u8 (Int.ofNat r1.1.toNat))))], [.cells [.str r2.2.fsrc, iC r2.2.fat, .own 2 r2.2.ftokens.length], .dead, E69.row r2.2.ftokens], [], 2⟩) 0 1 1 [0, 3, 4, 9] [0, 1, 2] ?_
 refine RefR.nl 1 ?_
 refine Ref.ce (.block 0 (cd (bd Tryz.f61) [1, 1, 0, 1, 0])) ?_
 refine Ref.block (go1 := fun u627 => ⟨[sP 0 0 0 0, (3, .c (.val (.int .u8 (Int.ofNat r1.1.toNat))))], [.cells [.str r2.2.fsrc, iC r2.2.fat, .own 2 r2.2.ftokens.length], .dead, E69.row r2.2.ftokens], [], 2⟩) ?_ (fun _ h => by cases h) (fun u627 => ?_)
 ·
  refine Ref.sq ?_
  refine Ref.ce (.block 7 (cd (bd Tryz.f61) [1, 1, 0, 1, 0, 0, 0])) ?_
  refine Ref.block (go1 := fun u937 => ⟨[sP 0 0 0 0, (3, .c (.val (.int .u8 (Int.ofNat r1.1.toNat))))], [.cells [.str r2.2.fsrc, iC r2.2.fat, .own 2 r2.2.ftokens.length], .dead, E69.row r2.2.ftokens], [], 2⟩) ?_ (fun a => match a with | .inl _ => (fun h => by cases h) | .inr _ => (fun h => by cases h)) (fun u937 => ?_)
  ·
   refine Ref.sq ?_
   refine Ref.ce (.block 6 (cd (bd Tryz.f61) [1, 1, 0, 1, 0, 0, 0, 0, 0])) ?_
   refine Ref.block (go1 := fun u1092 => ⟨[sP 0 0 0 0, (3, .c (.val (.int .u8 (Int.ofNat r1.1.toNat))))], [.cells [.str r2.2.fsrc, iC r2.2.fat, .own 2 r2.2.ftokens.length], .dead, E69.row r2.2.ftokens], [], 2⟩) ?_ (fun a => match a with | .inl _ => (fun h => by cases h) | .inr (.inl _) => (fun h => by cases h) | .inr (.inr _) => (fun h => by cases h)) (fun u1092 => ?_)
   ·
    refine Ref.sq ?_
    refine Ref.ce (.block 5 (cd (bd Tryz.f61) [1, 1, 0, 1, 0, 0, 0, 0, 0, 0, 0])) ?_
    refine Ref.block (go1 := fun u1169 => ⟨[sP 0 0 0 0, (3, .c (.val (.int .u8 (Int.ofNat r1.1.toNat)))), (4, .c (.val (.int .u8 (Int.ofNat r2.1.toNat))))], [.cells [.str r2.2.fsrc, iC r2.2.fat, .own 2 r2.2.ftokens.length], .dead, E69.row r2.2.ftokens], [], 2⟩) ?_ (fun a => match a with | .inl _ => (fun h => by cases h) | .inr (.inl _) => (fun h => by cases h) | .inr (.inr (.inl _)) => (fun h => by cases h) | .inr (.inr (.inr _)) => (fun h => by cases h)) (fun u1169 => ?_)
    ·
     refine Ref.sq ?_
     refine Ref.ce (.block 4 (cd (bd Tryz.f61) [1, 1, 0, 1, 0, 0, 0, 0, 0, 0, 0, 0, 0])) ?_
     refine Ref.block (go1 := fun u1206 => ⟨[sP 0 0 0 0, (3, .c (.val (.int .u8 (Int.ofNat r1.1.toNat)))), (4, .c (.val (.int .u8 (Int.ofNat r2.1.toNat))))], [.cells [.str r2.2.fsrc, iC r2.2.fat, .own 2 r2.2.ftokens.length], .dead, E69.row r2.2.ftokens], [], 2⟩) ?_ (fun a => match a with | .inl _ => (fun h => by cases h) | .inr (.inl _) => (fun h => by cases h) | .inr (.inr (.inl _)) => (fun h => by cases h) | .inr (.inr (.inr (.inl _))) => (fun h => by cases h) | .inr (.inr (.inr (.inr _))) => (fun h => by cases h)) (fun u1206 => ?_)
     ·
      refine Ref.sq ?_
      refine Ref.ce (.block 3 (cd (bd Tryz.f61) [1, 1, 0, 1, 0, 0, 0, 0, 0, 0, 0, 0, 0, 0, 0])) ?_
      refine Ref.block (go1 := fun u1223 => ⟨[sP 0 0 0 0, (3, .c (.val (.int .u8 (Int.ofNat r1.1.toNat)))), (4, .c (.val (.int .u8 (Int.ofNat r2.1.toNat))))], [.cells [.str r2.2.fsrc, iC r2.2.fat, .own 2 r2.2.ftokens.length], .dead, E69.row r2.2.ftokens], [], 2⟩) ?_ (fun a => match a with | .inl _ => (fun h => by cases h) | .inr (.inl _) => (fun h => by cases h) | .inr (.inr (.inl _)) => (fun h => by cases h) | .inr (.inr (.inr (.inl _))) => (fun h => by cases h) | .inr (.inr (.inr (.inr (.inl _)))) => (fun h => by cases h) | .inr (.inr (.inr (.inr (.inr _)))) => (fun h => by cases h)) (fun u1223 => ?_)
      ·
       refine Ref.sq ?_
       refine Ref.ce (.block 2 (cd (bd Tryz.f61) [1, 1, 0, 1, 0, 0, 0, 0, 0, 0, 0, 0, 0, 0, 0, 0, 0])) ?_
       refine Ref.block (go1 := fun u1231 => ⟨[sP 0 0 0 0, (3, .c (.val (.int .u8 (Int.ofNat r1.1.toNat)))), (4, .c (.val (.int .u8 (Int.ofNat r2.1.toNat))))], [.cells [.str r2.2.fsrc, iC r2.2.fat, .own 2 r2.2.ftokens.length], .dead, E69.row r2.2.ftokens], [], 2⟩) ?_ (fun a => match a with | .inl _ => (fun h => by cases h) | .inr (.inl _) => (fun h => by cases h) | .inr (.inr (.inl _)) => (fun h => by cases h) | .inr (.inr (.inr (.inl _))) => (fun h => by cases h) | .inr (.inr (.inr (.inr (.inl _)))) => (fun h => by cases h) | .inr (.inr (.inr (.inr (.inr (.inl _))))) => (fun h => by cases h) | .inr (.inr (.inr (.inr (.inr (.inr _))))) => (fun h => by cases h)) (fun u1231 => ?_)
       ·
        refine Ref.sq ?_
        refine Ref.ce (.block 1 (cd (bd Tryz.f61) [1, 1, 0, 1, 0, 0, 0, 0, 0, 0, 0, 0, 0, 0, 0, 0, 0, 0, 0])) ?_
        refine Ref.block (go1 := fun u1235 => ⟨[sP 0 0 0 0], [.cells [.str r2.2.fsrc, iC r2.2.fat, .own 2 r2.2.ftokens.length], .dead, E69.row r2.2.ftokens], [], 2⟩) ?_ (fun a => match a with | .inl _ => (fun h => by cases h) | .inr (.inl _) => (fun h => by cases h) | .inr (.inr (.inl _)) => (fun h => by cases h) | .inr (.inr (.inr (.inl _))) => (fun h => by cases h) | .inr (.inr (.inr (.inr (.inl _)))) => (fun h => by cases h) | .inr (.inr (.inr (.inr (.inr (.inl _))))) => (fun h => by cases h) | .inr (.inr (.inr (.inr (.inr (.inr (.inl _)))))) => (fun h => by cases h) | .inr (.inr (.inr (.inr (.inr (.inr (.inr _)))))) => (fun h => by cases h)) (fun u1235 => ?_)
        ·
         refine Ref.sq ?_
         refine Ref.sq ?_
         refine Ref.sq ?_
         refine Ref.sq ?_
         refine Ref.rn 3 ?_
         refine RefR.e0 (st' := ⟨[sP 0 0 0 0, (3, .c (.val (.int .u8 (Int.ofNat r1.1.toNat)))), (4, .c (.val (.int .u8 (Int.ofNat r2.1.toNat)))), (9, .c (.val (.int .u8 (Int.ofNat r1.1.toNat)))), sB 10 (((Int.ofNat r1.1.toNat) : Int) == 32)], [.cells [.str r2.2.fsrc, iC r2.2.fat, .own 2 r2.2.ftokens.length], .dead, E69.row r2.2.ftokens], [], 2⟩) 0 2 2 [0, 3, 4, 9, 10] [0, 1, 2] ?_
         refine RefR.nl 2 ?_
         refine Ref.bind (go1 := fun u1236 => ⟨[sP 0 0 0 0, (3, .c (.val (.int .u8 (Int.ofNat r1.1.toNat)))), (4, .c (.val (.int .u8 (Int.ofNat r2.1.toNat)))), (9, .c (.val (.int .u8 (Int.ofNat r1.1.toNat)))), sB 10 u1236], [.cells [.str r2.2.fsrc, iC r2.2.fat, .own 2 r2.2.ftokens.length], .dead, E69.row r2.2.ftokens], [], 2⟩) ?_ (fun u1236 => ?_)
         ·
          refine Ref.cn (.tmp 10) (((Int.ofNat r1.1.toNat) : Int) == 32) (fun hc => ?_) (fun hc => ?_)
          ·
           refine Ref.sk ?_
           exact Ref.n0 (t := ((((Int.ofNat r1.1.toNat) : Int) == 32)))
          ·
           refine Ref.sq ?_
           refine Ref.rn 4 ?_
           refine RefR.e0 (st' := ⟨[sP 0 0 0 0, (3, .c (.val (.int .u8 (Int.ofNat r1.1.toNat)))), (4, .c (.val (.int .u8 (Int.ofNat r2.1.toNat)))), (9, .c (.val (.int .u8 (Int.ofNat r1.1.toNat)))), sB 10 (((Int.ofNat r1.1.toNat) : Int) == 9)], [.cells [.str r2.2.fsrc, iC r2.2.fat, .own 2 r2.2.ftokens.length], .dead, E69.row r2.2.ftokens], [], 2⟩) 0 2 2 [0, 3, 4, 9, 10] [0, 1, 2] ?_
           refine RefR.nl 2 ?_
           refine Ref.cn (.tmp 10) (((Int.ofNat r1.1.toNat) : Int) == 9) (fun hc => ?_) (fun hc => ?_)
           ·
            refine Ref.sk ?_
            exact Ref.n0 (t := ((((Int.ofNat r1.1.toNat) : Int) == 9)))
           ·
            refine Ref.sq ?_
            refine Ref.rn 5 ?_
            refine RefR.e0 (st' := ⟨[sP 0 0 0 0, (3, .c (.val (.int .u8 (Int.ofNat r1.1.toNat)))), (4, .c (.val (.int .u8 (Int.ofNat r2.1.toNat)))), (9, .c (.val (.int .u8 (Int.ofNat r1.1.toNat)))), sB 10 (((Int.ofNat r1.1.toNat) : Int) == 10)], [.cells [.str r2.2.fsrc, iC r2.2.fat, .own 2 r2.2.ftokens.length], .dead, E69.row r2.2.ftokens], [], 2⟩) 0 2 2 [0, 3, 4, 9, 10] [0, 1, 2] ?_
            refine RefR.nl 2 ?_
            refine Ref.cn (.tmp 10) (((Int.ofNat r1.1.toNat) : Int) == 10) (fun hc => ?_) (fun hc => ?_)
            ·
             refine Ref.sk ?_
             exact Ref.n0 (t := ((((Int.ofNat r1.1.toNat) : Int) == 10)))
            ·
             refine Ref.rn 6 ?_
             refine RefR.e0 (st' := ⟨[sP 0 0 0 0, (3, .c (.val (.int .u8 (Int.ofNat r1.1.toNat)))), (4, .c (.val (.int .u8 (Int.ofNat r2.1.toNat)))), (9, .c (.val (.int .u8 (Int.ofNat r1.1.toNat)))), sB 10 (((Int.ofNat r1.1.toNat) : Int) == 13)], [.cells [.str r2.2.fsrc, iC r2.2.fat, .own 2 r2.2.ftokens.length], .dead, E69.row r2.2.ftokens], [], 2⟩) 0 2 2 [0, 3, 4, 9, 10] [0, 1, 2] ?_
             refine RefR.nl 2 ?_
             exact Ref.n0 (t := ((((Int.ofNat r1.1.toNat) : Int) == 13)))
         ·
          refine Ref.cn (.tmp 10) u1236 (fun hc => ?_) (fun hc => ?_)
          ·
           refine Ref.ck ⟨[sP 0 0 0 0], [.cells [.str r2.2.fsrc, iC r2.2.fat, .own 2 r2.2.ftokens.length], .dead, E69.row r2.2.ftokens], [], 2⟩ [0] [0, 1, 2] ?_
           exact Ref.xt 1 (t := (Sum.inl ()))
          ·
           refine Ref.sk ?_
           refine Ref.sq ?_
           refine Ref.sq ?_
           refine Ref.rn 7 ?_
           refine RefR.e0 (st' := ⟨[sP 0 0 0 0, (3, .c (.val (.int .u8 (Int.ofNat r1.1.toNat)))), (4, .c (.val (.int .u8 (Int.ofNat r2.1.toNat)))), (9, .c (.val (.int .u8 (Int.ofNat r1.1.toNat)))), sB 15 (((Int.ofNat r1.1.toNat) : Int) == 40)], [.cells [.str r2.2.fsrc, iC r2.2.fat, .own 2 r2.2.ftokens.length], .dead, E69.row r2.2.ftokens], [], 2⟩) 0 2 2 [0, 3, 4, 9, 15] [0, 1, 2] ?_
           refine RefR.nl 2 ?_
           refine Ref.cn (.tmp 15) (((Int.ofNat r1.1.toNat) : Int) == 40) (fun hc => ?_) (fun hc => ?_)
           ·
            refine Ref.ck ⟨[sP 0 0 0 0, (3, .c (.val (.int .u8 (Int.ofNat r1.1.toNat)))), (4, .c (.val (.int .u8 (Int.ofNat r2.1.toNat))))], [.cells [.str r2.2.fsrc, iC r2.2.fat, .own 2 r2.2.ftokens.length], .dead, E69.row r2.2.ftokens], [], 2⟩ [0, 3, 4] [0, 1, 2] ?_
            exact Ref.xt 2 (t := (Sum.inr (Sum.inl ())))
           ·
            refine Ref.sk ?_
            refine Ref.sq ?_
            refine Ref.sq ?_
            refine Ref.sq ?_
            refine Ref.rn 8 ?_
            refine RefR.e0 (st' := ⟨[sP 0 0 0 0, (3, .c (.val (.int .u8 (Int.ofNat r1.1.toNat)))), (4, .c (.val (.int .u8 (Int.ofNat r2.1.toNat)))), (9, .c (.val (.int .u8 (Int.ofNat r1.1.toNat)))), sB 17 (((Int.ofNat r1.1.toNat) : Int) == 58)], [.cells [.str r2.2.fsrc, iC r2.2.fat, .own 2 r2.2.ftokens.length], .dead, E69.row r2.2.ftokens], [], 2⟩) 0 2 2 [0, 3, 4, 9, 17] [0, 1, 2] ?_
            refine RefR.nl 2 ?_
            refine Ref.bind (go1 := fun u1237 => ⟨[sP 0 0 0 0, (3, .c (.val (.int .u8 (Int.ofNat r1.1.toNat)))), (4, .c (.val (.int .u8 (Int.ofNat r2.1.toNat)))), (9, .c (.val (.int .u8 (Int.ofNat r1.1.toNat)))), sB 17 u1237], [.cells [.str r2.2.fsrc, iC r2.2.fat, .own 2 r2.2.ftokens.length], .dead, E69.row r2.2.ftokens], [], 2⟩) ?_ (fun u1237 => ?_)
            ·
             refine Ref.cn (.tmp 17) (((Int.ofNat r1.1.toNat) : Int) == 58) (fun hc => ?_) (fun hc => ?_)
             ·
              refine Ref.sk ?_
              exact Ref.n0 (t := ((((Int.ofNat r1.1.toNat) : Int) == 58)))
             ·
              refine Ref.sq ?_
              refine Ref.rn 9 ?_
              refine RefR.e0 (st' := ⟨[sP 0 0 0 0, (3, .c (.val (.int .u8 (Int.ofNat r1.1.toNat)))), (4, .c (.val (.int .u8 (Int.ofNat r2.1.toNat)))), (9, .c (.val (.int .u8 (Int.ofNat r1.1.toNat)))), sB 17 (((Int.ofNat r1.1.toNat) : Int) == 63)], [.cells [.str r2.2.fsrc, iC r2.2.fat, .own 2 r2.2.ftokens.length], .dead, E69.row r2.2.ftokens], [], 2⟩) 0 2 2 [0, 3, 4, 9, 17] [0, 1, 2] ?_
              refine RefR.nl 2 ?_
              refine Ref.cn (.tmp 17) (((Int.ofNat r1.1.toNat) : Int) == 63) (fun hc => ?_) (fun hc => ?_)
              ·
               refine Ref.sk ?_
               exact Ref.n0 (t := ((((Int.ofNat r1.1.toNat) : Int) == 63)))
              ·
               refine Ref.rn 10 ?_
               refine RefR.e0 (st' := ⟨[sP 0 0 0 0, (3, .c (.val (.int .u8 (Int.ofNat r1.1.toNat)))), (4, .c (.val (.int .u8 (Int.ofNat r2.1.toNat)))), (9, .c (.val (.int .u8 (Int.ofNat r1.1.toNat)))), sB 17 (((Int.ofNat r1.1.toNat) : Int) == 62)], [.cells [.str r2.2.fsrc, iC r2.2.fat, .own 2 r2.2.ftokens.length], .dead, E69.row r2.2.ftokens], [], 2⟩) 0 2 2 [0, 3, 4, 9, 17] [0, 1, 2] ?_
               refine RefR.nl 2 ?_
               exact Ref.n0 (t := ((((Int.ofNat r1.1.toNat) : Int) == 62)))
            ·
             refine Ref.cn (.tmp 17) u1237 (fun hc => ?_) (fun hc => ?_)
             ·
              refine Ref.ck ⟨[sP 0 0 0 0, (3, .c (.val (.int .u8 (Int.ofNat r1.1.toNat)))), (4, .c (.val (.int .u8 (Int.ofNat r2.1.toNat))))], [.cells [.str r2.2.fsrc, iC r2.2.fat, .own 2 r2.2.ftokens.length], .dead, E69.row r2.2.ftokens], [], 2⟩ [0, 3, 4] [0, 1, 2] ?_
              exact Ref.xt 3 (t := (Sum.inr (Sum.inr (Sum.inl ()))))
             ·
              refine Ref.sk ?_
              refine Ref.sq ?_
              refine Ref.sq ?_
              refine Ref.rn 11 ?_
              refine RefR.e0 (st' := ⟨[sP 0 0 0 0, (3, .c (.val (.int .u8 (Int.ofNat r1.1.toNat)))), (4, .c (.val (.int .u8 (Int.ofNat r2.1.toNat)))), (9, .c (.val (.int .u8 (Int.ofNat r1.1.toNat)))), sB 21 (((Int.ofNat r1.1.toNat) : Int) == 60)], [.cells [.str r2.2.fsrc, iC r2.2.fat, .own 2 r2.2.ftokens.length], .dead, E69.row r2.2.ftokens], [], 2⟩) 0 2 2 [0, 3, 4, 9, 21] [0, 1, 2] ?_
              refine RefR.nl 2 ?_
              refine Ref.cn (.tmp 21) (((Int.ofNat r1.1.toNat) : Int) == 60) (fun hc => ?_) (fun hc => ?_)
              ·
               refine Ref.ck ⟨[sP 0 0 0 0, (3, .c (.val (.int .u8 (Int.ofNat r1.1.toNat)))), (4, .c (.val (.int .u8 (Int.ofNat r2.1.toNat))))], [.cells [.str r2.2.fsrc, iC r2.2.fat, .own 2 r2.2.ftokens.length], .dead, E69.row r2.2.ftokens], [], 2⟩ [0, 3, 4] [0, 1, 2] ?_
               exact Ref.xt 4 (t := (Sum.inr (Sum.inr (Sum.inr (Sum.inl ())))))
              ·
               refine Ref.sk ?_
               refine Ref.sq ?_
               refine Ref.sq ?_
               refine Ref.rn 12 ?_
               refine RefR.e0 (st' := ⟨[sP 0 0 0 0, (3, .c (.val (.int .u8 (Int.ofNat r1.1.toNat)))), (4, .c (.val (.int .u8 (Int.ofNat r2.1.toNat)))), (9, .c (.val (.int .u8 (Int.ofNat r1.1.toNat)))), sB 23 (((Int.ofNat r1.1.toNat) : Int) == 46)], [.cells [.str r2.2.fsrc, iC r2.2.fat, .own 2 r2.2.ftokens.length], .dead, E69.row r2.2.ftokens], [], 2⟩) 0 2 2 [0, 3, 4, 9, 23] [0, 1, 2] ?_
               refine RefR.nl 2 ?_
               refine Ref.cn (.tmp 23) (((Int.ofNat r1.1.toNat) : Int) == 46) (fun hc => ?_) (fun hc => ?_)
               ·
                refine Ref.ck ⟨[sP 0 0 0 0, (3, .c (.val (.int .u8 (Int.ofNat r1.1.toNat)))), (4, .c (.val (.int .u8 (Int.ofNat r2.1.toNat))))], [.cells [.str r2.2.fsrc, iC r2.2.fat, .own 2 r2.2.ftokens.length], .dead, E69.row r2.2.ftokens], [], 2⟩ [0, 3, 4] [0, 1, 2] ?_
                exact Ref.xt 5 (t := (Sum.inr (Sum.inr (Sum.inr (Sum.inr (Sum.inl ()))))))
               ·
                refine Ref.sk ?_
                refine Ref.sq ?_
                refine Ref.sq ?_
                refine Ref.rn 13 ?_
                refine RefR.e0 (st' := ⟨[sP 0 0 0 0, (3, .c (.val (.int .u8 (Int.ofNat r1.1.toNat)))), (9, .c (.val (.int .u8 (Int.ofNat r1.1.toNat)))), sB 25 (((Int.ofNat r1.1.toNat) : Int) == 43)], [.cells [.str r2.2.fsrc, iC r2.2.fat, .own 2 r2.2.ftokens.length], .dead, E69.row r2.2.ftokens], [], 2⟩) 0 2 2 [0, 3, 9, 25] [0, 1, 2] ?_
                refine RefR.nl 2 ?_
                refine Ref.bind (go1 := fun u1238 => ⟨[sP 0 0 0 0, (3, .c (.val (.int .u8 (Int.ofNat r1.1.toNat)))), sB 25 u1238], [.cells [.str r2.2.fsrc, iC r2.2.fat, .own 2 r2.2.ftokens.length], .dead, E69.row r2.2.ftokens], [], 2⟩) ?_ (fun u1238 => ?_)
                ·
                 refine Ref.cn (.tmp 25) (((Int.ofNat r1.1.toNat) : Int) == 43) (fun hc => ?_) (fun hc => ?_)
                 ·
                  refine Ref.sk ?_
                  refine Ref.ck ⟨[sP 0 0 0 0, (3, .c (.val (.int .u8 (Int.ofNat r1.1.toNat)))), sB 25 (((Int.ofNat r1.1.toNat) : Int) == 43)], [.cells [.str r2.2.fsrc, iC r2.2.fat, .own 2 r2.2.ftokens.length], .dead, E69.row r2.2.ftokens], [], 2⟩ [0, 3, 25] [0, 1, 2] ?_
                  exact Ref.n0 (t := ((((Int.ofNat r1.1.toNat) : Int) == 43)))
                 ·
                  refine Ref.sq ?_
                  refine Ref.rn 14 ?_
                  refine RefR.e0 (st' := ⟨[sP 0 0 0 0, (3, .c (.val (.int .u8 (Int.ofNat r1.1.toNat)))), (9, .c (.val (.int .u8 (Int.ofNat r1.1.toNat)))), sB 25 (((Int.ofNat r1.1.toNat) : Int) == 45)], [.cells [.str r2.2.fsrc, iC r2.2.fat, .own 2 r2.2.ftokens.length], .dead, E69.row r2.2.ftokens], [], 2⟩) 0 2 2 [0, 3, 9, 25] [0, 1, 2] ?_
                  refine RefR.nl 2 ?_
                  refine Ref.cn (.tmp 25) (((Int.ofNat r1.1.toNat) : Int) == 45) (fun hc => ?_) (fun hc => ?_)
                  ·
                   refine Ref.sk ?_
                   refine Ref.ck ⟨[sP 0 0 0 0, (3, .c (.val (.int .u8 (Int.ofNat r1.1.toNat)))), sB 25 (((Int.ofNat r1.1.toNat) : Int) == 45)], [.cells [.str r2.2.fsrc, iC r2.2.fat, .own 2 r2.2.ftokens.length], .dead, E69.row r2.2.ftokens], [], 2⟩ [0, 3, 25] [0, 1, 2] ?_
                   exact Ref.n0 (t := ((((Int.ofNat r1.1.toNat) : Int) == 45)))
                  ·
                   refine Ref.sq ?_
                   refine Ref.rn 15 ?_
                   refine RefR.e0 (st' := ⟨[sP 0 0 0 0, (3, .c (.val (.int .u8 (Int.ofNat r1.1.toNat)))), (9, .c (.val (.int .u8 (Int.ofNat r1.1.toNat)))), sB 25 (((Int.ofNat r1.1.toNat) : Int) == 42)], [.cells [.str r2.2.fsrc, iC r2.2.fat, .own 2 r2.2.ftokens.length], .dead, E69.row r2.2.ftokens], [], 2⟩) 0 2 2 [0, 3, 9, 25] [0, 1, 2] ?_
                   refine RefR.nl 2 ?_
                   refine Ref.cn (.tmp 25) (((Int.ofNat r1.1.toNat) : Int) == 42) (fun hc => ?_) (fun hc => ?_)
                   ·
                    refine Ref.sk ?_
                    refine Ref.ck ⟨[sP 0 0 0 0, (3, .c (.val (.int .u8 (Int.ofNat r1.1.toNat)))), sB 25 (((Int.ofNat r1.1.toNat) : Int) == 42)], [.cells [.str r2.2.fsrc, iC r2.2.fat, .own 2 r2.2.ftokens.length], .dead, E69.row r2.2.ftokens], [], 2⟩ [0, 3, 25] [0, 1, 2] ?_
                    exact Ref.n0 (t := ((((Int.ofNat r1.1.toNat) : Int) == 42)))
                   ·
                    refine Ref.sq ?_
                    refine Ref.rn 16 ?_
                    refine RefR.e0 (st' := ⟨[sP 0 0 0 0, (3, .c (.val (.int .u8 (Int.ofNat r1.1.toNat)))), (9, .c (.val (.int .u8 (Int.ofNat r1.1.toNat)))), sB 25 (((Int.ofNat r1.1.toNat) : Int) == 47)], [.cells [.str r2.2.fsrc, iC r2.2.fat, .own 2 r2.2.ftokens.length], .dead, E69.row r2.2.ftokens], [], 2⟩) 0 2 2 [0, 3, 9, 25] [0, 1, 2] ?_
                    refine RefR.nl 2 ?_
                    refine Ref.cn (.tmp 25) (((Int.ofNat r1.1.toNat) : Int) == 47) (fun hc => ?_) (fun hc => ?_)
                    ·
                     refine Ref.sk ?_
                     refine Ref.ck ⟨[sP 0 0 0 0, (3, .c (.val (.int .u8 (Int.ofNat r1.1.toNat)))), sB 25 (((Int.ofNat r1.1.toNat) : Int) == 47)], [.cells [.str r2.2.fsrc, iC r2.2.fat, .own 2 r2.2.ftokens.length], .dead, E69.row r2.2.ftokens], [], 2⟩ [0, 3, 25] [0, 1, 2] ?_
                     exact Ref.n0 (t := ((((Int.ofNat r1.1.toNat) : Int) == 47)))
                    ·
                     refine Ref.sq ?_
                     refine Ref.rn 17 ?_
                     refine RefR.e0 (st' := ⟨[sP 0 0 0 0, (3, .c (.val (.int .u8 (Int.ofNat r1.1.toNat)))), (9, .c (.val (.int .u8 (Int.ofNat r1.1.toNat)))), sB 25 (((Int.ofNat r1.1.toNat) : Int) == 61)], [.cells [.str r2.2.fsrc, iC r2.2.fat, .own 2 r2.2.ftokens.length], .dead, E69.row r2.2.ftokens], [], 2⟩) 0 2 2 [0, 3, 9, 25] [0, 1, 2] ?_
                     refine RefR.nl 2 ?_
                     refine Ref.cn (.tmp 25) (((Int.ofNat r1.1.toNat) : Int) == 61) (fun hc => ?_) (fun hc => ?_)
                     ·
                      refine Ref.sk ?_
                      refine Ref.ck ⟨[sP 0 0 0 0, (3, .c (.val (.int .u8 (Int.ofNat r1.1.toNat)))), sB 25 (((Int.ofNat r1.1.toNat) : Int) == 61)], [.cells [.str r2.2.fsrc, iC r2.2.fat, .own 2 r2.2.ftokens.length], .dead, E69.row r2.2.ftokens], [], 2⟩ [0, 3, 25] [0, 1, 2] ?_
                      exact Ref.n0 (t := ((((Int.ofNat r1.1.toNat) : Int) == 61)))
                     ·
                      refine Ref.sq ?_
                      refine Ref.rn 18 ?_
                      refine RefR.e0 (st' := ⟨[sP 0 0 0 0, (3, .c (.val (.int .u8 (Int.ofNat r1.1.toNat)))), (9, .c (.val (.int .u8 (Int.ofNat r1.1.toNat)))), sB 25 (((Int.ofNat r1.1.toNat) : Int) == 41)], [.cells [.str r2.2.fsrc, iC r2.2.fat, .own 2 r2.2.ftokens.length], .dead, E69.row r2.2.ftokens], [], 2⟩) 0 2 2 [0, 3, 9, 25] [0, 1, 2] ?_
                      refine RefR.nl 2 ?_
                      refine Ref.cn (.tmp 25) (((Int.ofNat r1.1.toNat) : Int) == 41) (fun hc => ?_) (fun hc => ?_)
                      ·
                       refine Ref.sk ?_
                       refine Ref.ck ⟨[sP 0 0 0 0, (3, .c (.val (.int .u8 (Int.ofNat r1.1.toNat)))), sB 25 (((Int.ofNat r1.1.toNat) : Int) == 41)], [.cells [.str r2.2.fsrc, iC r2.2.fat, .own 2 r2.2.ftokens.length], .dead, E69.row r2.2.ftokens], [], 2⟩ [0, 3, 25] [0, 1, 2] ?_
                       exact Ref.n0 (t := ((((Int.ofNat r1.1.toNat) : Int) == 41)))
                      ·
                       refine Ref.sq ?_
                       refine Ref.rn 19 ?_
                       refine RefR.e0 (st' := ⟨[sP 0 0 0 0, (3, .c (.val (.int .u8 (Int.ofNat r1.1.toNat)))), (9, .c (.val (.int .u8 (Int.ofNat r1.1.toNat)))), sB 25 (((Int.ofNat r1.1.toNat) : Int) == 91)], [.cells [.str r2.2.fsrc, iC r2.2.fat, .own 2 r2.2.ftokens.length], .dead, E69.row r2.2.ftokens], [], 2⟩) 0 2 2 [0, 3, 9, 25] [0, 1, 2] ?_
                       refine RefR.nl 2 ?_
                       refine Ref.cn (.tmp 25) (((Int.ofNat r1.1.toNat) : Int) == 91) (fun hc => ?_) (fun hc => ?_)
                       ·
                        refine Ref.sk ?_
                        refine Ref.ck ⟨[sP 0 0 0 0, (3, .c (.val (.int .u8 (Int.ofNat r1.1.toNat)))), sB 25 (((Int.ofNat r1.1.toNat) : Int) == 91)], [.cells [.str r2.2.fsrc, iC r2.2.fat, .own 2 r2.2.ftokens.length], .dead, E69.row r2.2.ftokens], [], 2⟩ [0, 3, 25] [0, 1, 2] ?_
                        exact Ref.n0 (t := ((((Int.ofNat r1.1.toNat) : Int) == 91)))
                       ·
                        refine Ref.sq ?_
                        refine Ref.rn 20 ?_
                        refine RefR.e0 (st' := ⟨[sP 0 0 0 0, (3, .c (.val (.int .u8 (Int.ofNat r1.1.toNat)))), (9, .c (.val (.int .u8 (Int.ofNat r1.1.toNat)))), sB 25 (((Int.ofNat r1.1.toNat) : Int) == 93)], [.cells [.str r2.2.fsrc, iC r2.2.fat, .own 2 r2.2.ftokens.length], .dead, E69.row r2.2.ftokens], [], 2⟩) 0 2 2 [0, 3, 9, 25] [0, 1, 2] ?_
                        refine RefR.nl 2 ?_
                        refine Ref.cn (.tmp 25) (((Int.ofNat r1.1.toNat) : Int) == 93) (fun hc => ?_) (fun hc => ?_)
                        ·
                         refine Ref.sk ?_
                         refine Ref.ck ⟨[sP 0 0 0 0, (3, .c (.val (.int .u8 (Int.ofNat r1.1.toNat)))), sB 25 (((Int.ofNat r1.1.toNat) : Int) == 93)], [.cells [.str r2.2.fsrc, iC r2.2.fat, .own 2 r2.2.ftokens.length], .dead, E69.row r2.2.ftokens], [], 2⟩ [0, 3, 25] [0, 1, 2] ?_
                         exact Ref.n0 (t := ((((Int.ofNat r1.1.toNat) : Int) == 93)))
                        ·
                         refine Ref.sq ?_
                         refine Ref.rn 21 ?_
                         refine RefR.e0 (st' := ⟨[sP 0 0 0 0, (3, .c (.val (.int .u8 (Int.ofNat r1.1.toNat)))), (9, .c (.val (.int .u8 (Int.ofNat r1.1.toNat)))), sB 25 (((Int.ofNat r1.1.toNat) : Int) == 44)], [.cells [.str r2.2.fsrc, iC r2.2.fat, .own 2 r2.2.ftokens.length], .dead, E69.row r2.2.ftokens], [], 2⟩) 0 2 2 [0, 3, 9, 25] [0, 1, 2] ?_
                         refine RefR.nl 2 ?_
                         refine Ref.cn (.tmp 25) (((Int.ofNat r1.1.toNat) : Int) == 44) (fun hc => ?_) (fun hc => ?_)
                         ·
                          refine Ref.sk ?_
                          refine Ref.ck ⟨[sP 0 0 0 0, (3, .c (.val (.int .u8 (Int.ofNat r1.1.toNat)))), sB 25 (((Int.ofNat r1.1.toNat) : Int) == 44)], [.cells [.str r2.2.fsrc, iC r2.2.fat, .own 2 r2.2.ftokens.length], .dead, E69.row r2.2.ftokens], [], 2⟩ [0, 3, 25] [0, 1, 2] ?_
                          exact Ref.n0 (t := ((((Int.ofNat r1.1.toNat) : Int) == 44)))
                         ·
                          refine Ref.rn 22 ?_
                          refine RefR.e0 (st' := ⟨[sP 0 0 0 0, (3, .c (.val (.int .u8 (Int.ofNat r1.1.toNat)))), sB 25 (((Int.ofNat r1.1.toNat) : Int) == 59)], [.cells [.str r2.2.fsrc, iC r2.2.fat, .own 2 r2.2.ftokens.length], .dead, E69.row r2.2.ftokens], [], 2⟩) 0 2 2 [0, 3, 25] [0, 1, 2] ?_
                          refine RefR.nl 2 ?_
                          exact Ref.n0 (t := ((((Int.ofNat r1.1.toNat) : Int) == 59)))
                ·
                 refine Ref.cn (.tmp 25) u1238 (fun hc => ?_) (fun hc => ?_)
                 ·
                  refine Ref.ck ⟨[sP 0 0 0 0, (3, .c (.val (.int .u8 (Int.ofNat r1.1.toNat))))], [.cells [.str r2.2.fsrc, iC r2.2.fat, .own 2 r2.2.ftokens.length], .dead, E69.row r2.2.ftokens], [], 2⟩ [0, 3] [0, 1, 2] ?_
                  exact Ref.xt 6 (t := (Sum.inr (Sum.inr (Sum.inr (Sum.inr (Sum.inr (Sum.inl ())))))))
                 ·
                  refine Ref.sk ?_
                  refine Ref.ck ⟨[sP 0 0 0 0, (3, .c (.val (.int .u8 (Int.ofNat r1.1.toNat))))], [.cells [.str r2.2.fsrc, iC r2.2.fat, .own 2 r2.2.ftokens.length], .dead, E69.row r2.2.ftokens], [], 2⟩ [0, 3] [0, 1, 2] ?_
                  exact Ref.xt 7 (t := (Sum.inr (Sum.inr (Sum.inr (Sum.inr (Sum.inr (Sum.inr (Sum.inl ()))))))))
        ·
         refine Ref.sq ?_
         refine Ref.sq ?_
         refine Ref.rn 23 ?_
         refine RefR.e0 (st' := ⟨[], [.cells [.str r2.2.fsrc, iC (IntKind.i64.wrap (r2.2.fat + 1)), .own 2 r2.2.ftokens.length], .dead, E69.row r2.2.ftokens], [], 2⟩) 0 8 8 [] [0, 1, 2] ?_
         refine RefR.nl 8 ?_
         refine Ref.sq ?_
         refine Ref.rn 24 ?_
         refine RefR.e0 (st' := ⟨[(2, .c (.val .nilIface))], [.cells [.str r2.2.fsrc, iC (IntKind.i64.wrap (r2.2.fat + 1)), .own 2 r2.2.ftokens.length], .dead, E69.row r2.2.ftokens], [], 2⟩) 0 1 1 [2] [0, 1, 2] ?_
         refine RefR.nl 1 ?_
         refine Ref.conv (Conv.sl 2 (.c (errC ([] : Err))) (DLe.c (errC_nil))) ?_
         exact Ref.rt (t := (Sum.inr (Sum.inr (Sum.inr (Sum.inr (Sum.inr (Sum.inr (Sum.inr (([] : Err), (⟨r2.2.fsrc, (IntKind.i64.wrap (r2.2.fat + 1)), r2.2.ftokens⟩ : S114))))))))))
       ·
        refine Ref.sq ?_
        refine Ref.sq ?_
        refine Ref.rn 25 ?_
        refine RefR.e0 (st' := ⟨[sP 0 0 0 0, (3, .c (.val (.int .u8 (Int.ofNat r1.1.toNat)))), sB 44 (((Int.ofNat r2.1.toNat) : Int) == 42)], [.cells [.str r2.2.fsrc, iC r2.2.fat, .own 2 r2.2.ftokens.length], .dead, E69.row r2.2.ftokens], [], 2⟩) 0 2 2 [0, 3, 44] [0, 1, 2] ?_
        refine RefR.nl 2 ?_
        refine Ref.cn (.tmp 44) (((Int.ofNat r2.1.toNat) : Int) == 42) (fun hc => ?_) (fun hc => ?_)
        ·
         refine Ref.sq ?_
         refine Ref.rn 26 ?_
         refine RefR.e1 0 1 1 [45] [0, 1, 2] ?_
         refine RefR.cc 46 1 2 [0, 2] (F89_ok K r2.2) (fun r1239 => ?_)
         refine RefR.e0 (st' := ⟨[(2, .c (errC r1239.1))], [.cells [.str r1239.2.fsrc, iC r1239.2.fat, .own 2 r1239.2.ftokens.length], .dead, E69.row r1239.2.ftokens], [], 2⟩) 2 1 3 [2] [0, 1, 3] ?_
         refine RefR.nl 3 ?_
         exact Ref.rt (t := (Sum.inr (Sum.inr (Sum.inr (Sum.inr (Sum.inr (Sum.inr (r1239.1, r1239.2))))))))
        ·
         refine Ref.sk ?_
         refine Ref.ck ⟨[sP 0 0 0 0, (3, .c (.val (.int .u8 (Int.ofNat r1.1.toNat))))], [.cells [.str r2.2.fsrc, iC r2.2.fat, .own 2 r2.2.ftokens.length], .dead, E69.row r2.2.ftokens], [], 2⟩ [0, 3] [0, 1, 2] ?_
         exact Ref.xt 0 (t := (Sum.inr (Sum.inr (Sum.inr (Sum.inr (Sum.inr (Sum.inl ())))))))
      ·
       refine Ref.sq ?_
       refine Ref.sq ?_
       refine Ref.sq ?_
       refine Ref.rn 27 ?_
       refine RefR.e0 (st' := ⟨[sP 0 0 0 0, (3, .c (.val (.int .u8 (Int.ofNat r1.1.toNat)))), sB 48 (((Int.ofNat r2.1.toNat) : Int) == 61)], [.cells [.str r2.2.fsrc, iC r2.2.fat, .own 2 r2.2.ftokens.length], .dead, E69.row r2.2.ftokens], [], 2⟩) 0 2 2 [0, 3, 48] [0, 1, 2] ?_
       refine RefR.nl 2 ?_
       refine Ref.cn (.tmp 48) (((Int.ofNat r2.1.toNat) : Int) == 61) (fun hc => ?_) (fun hc => ?_)
       ·
        refine Ref.sq ?_
        refine Ref.drawnY 28 (by kernel_rfl) (by kernel_rfl) ?_
        refine RefY.evC0 (st' := ⟨[sP 49 0 0 0, sP 52 0 0 0, sP 56 0 0 1, sP 60 0 0 1], [.cells [.str r2.2.fsrc, iC r2.2.fat, .own 2 r2.2.ftokens.length], .dead, E69.row r2.2.ftokens], [], 2⟩) (fuel' := 7) [0, 1, 2, 3, 5, 6, 7, 9, 10, 11] [49, 52, 56, 60] [0, 1, 2] rfl (by kernel_rfl) (by kernel_rfl) ?_
        refine RefY.toX [15, 16] ?_
        refine RefX.evC (vs := [bndOk r2.2.fsrc.length r2.2.fat (IntKind.i64.wrap (r2.2.fat + 2))]) (st' := ⟨[sP 49 0 0 0, sS 63 ((r2.2.fsrc.drop (r2.2.fat : Int).toNat).take (((IntKind.i64.wrap (r2.2.fat + 2)) : Int).toNat - (r2.2.fat : Int).toNat))], [.cells [.str r2.2.fsrc, iC r2.2.fat, .own 2 r2.2.ftokens.length], .dead, E69.row r2.2.ftokens], [], 2⟩) (fuel' := 2) [4, 8, 12, 13, 14] [49, 63] [0, 1, 2] rfl (by kernel_rfl) (by kernel_rfl) ?_
        refine RefX.letC (stf := fun x1240 => ⟨[sP 49 0 0 0, sS 63 x1240], [.cells [.str r2.2.fsrc, iC r2.2.fat, .own 2 r2.2.ftokens.length], .dead, E69.row r2.2.ftokens], [], 2⟩) (by kernel_rfl) (fun x1240 => ?_)
        refine RefX.tailC [15, 16] rfl (by kernel_rfl) ?_
        refine RefR.cc 64 0 1 [0, 2] (F90_ok K r2.2 4 x1240 0) (fun r1241 => ?_)
        refine RefR.e0 (st' := ⟨[(2, .c (errC r1241.1))], [.cells [.str r1241.2.fsrc, iC r1241.2.fat, .own 2 r1241.2.ftokens.length], .dead, E69.row r1241.2.ftokens], [], 2⟩) 1 1 2 [2] [0, 1, 3] ?_
        refine RefR.nl 2 ?_
        exact Ref.rt (t := (Sum.inr (Sum.inr (Sum.inr (Sum.inr (Sum.inr (r1241.1, r1241.2)))))))
       ·
        refine Ref.sk ?_
        refine Ref.sq ?_
        refine Ref.rn 29 ?_
        refine RefR.e0 (st' := ⟨[sP 0 0 0 0, (3, .c (.val (.int .u8 (Int.ofNat r1.1.toNat)))), sB 66 (((Int.ofNat r1.1.toNat) : Int) == 63)], [.cells [.str r2.2.fsrc, iC r2.2.fat, .own 2 r2.2.ftokens.length], .dead, E69.row r2.2.ftokens], [], 2⟩) 0 2 2 [0, 3, 66] [0, 1, 2] ?_
        refine RefR.nl 2 ?_
        refine Ref.cn (.tmp 66) (((Int.ofNat r1.1.toNat) : Int) == 63) (fun hc => ?_) (fun hc => ?_)
        ·
         refine Ref.sq ?_
         refine Ref.rn 30 ?_
         refine RefR.e1 0 4 4 [70] [0, 1, 2] ?_
         refine RefR.cc 71 4 5 [] (F41_ok K 1 r2.2.fat) (fun r1242 => ?_)
         refine RefR.e0 (st' := ⟨[(2, .c (errC r1242))], [.cells [.str r2.2.fsrc, iC r2.2.fat, .own 2 r2.2.ftokens.length], .dead, E69.row r2.2.ftokens], [], 2⟩) 5 1 6 [2] [0, 1, 2] ?_
         refine RefR.nl 6 ?_
         exact Ref.rt (t := (Sum.inr (Sum.inr (Sum.inr (Sum.inr (Sum.inr (r1242, r2.2)))))))
        ·
         refine Ref.sk ?_
         refine Ref.ck ⟨[sP 0 0 0 0, (3, .c (.val (.int .u8 (Int.ofNat r1.1.toNat))))], [.cells [.str r2.2.fsrc, iC r2.2.fat, .own 2 r2.2.ftokens.length], .dead, E69.row r2.2.ftokens], [], 2⟩ [0, 3] [0, 1, 2] ?_
         exact Ref.xt 0 (t := (Sum.inr (Sum.inr (Sum.inr (Sum.inr (Sum.inl ()))))))
     ·
      refine Ref.sq ?_
      refine Ref.sq ?_
      refine Ref.rn 31 ?_
      refine RefR.e0 (st' := ⟨[sP 0 0 0 0, (3, .c (.val (.int .u8 (Int.ofNat r1.1.toNat)))), sB 77 ((((Int.ofNat r2.1.toNat) : Int) == 61) || (((Int.ofNat r2.1.toNat) : Int) == 62))], [.cells [.str r2.2.fsrc, iC r2.2.fat, .own 2 r2.2.ftokens.length], .dead, E69.row r2.2.ftokens], [], 2⟩) 0 6 6 [0, 3, 77] [0, 1, 2] ?_
      refine RefR.letC (stf := fun x1243 => ⟨[sP 0 0 0 0, (3, .c (.val (.int .u8 (Int.ofNat r1.1.toNat)))), sB 77 x1243], [.cells [.str r2.2.fsrc, iC r2.2.fat, .own 2 r2.2.ftokens.length], .dead, E69.row r2.2.ftokens], [], 2⟩) (by kernel_rfl) (fun x1243 => ?_)
      refine RefR.nl 6 ?_
      refine Ref.cn (.tmp 77) x1243 (fun hc => ?_) (fun hc => ?_)
      ·
       refine Ref.sq ?_
       refine Ref.drawnY 32 (by kernel_rfl) (by kernel_rfl) ?_
       refine RefY.evC0 (st' := ⟨[sP 78 0 0 0, sP 81 0 0 0, sP 85 0 0 1, sP 89 0 0 1], [.cells [.str r2.2.fsrc, iC r2.2.fat, .own 2 r2.2.ftokens.length], .dead, E69.row r2.2.ftokens], [], 2⟩) (fuel' := 7) [0, 1, 2, 3, 5, 6, 7, 9, 10, 11] [78, 81, 85, 89] [0, 1, 2] rfl (by kernel_rfl) (by kernel_rfl) ?_
       refine RefY.toX [15, 16] ?_
       refine RefX.evC (vs := [bndOk r2.2.fsrc.length r2.2.fat (IntKind.i64.wrap (r2.2.fat + 2))]) (st' := ⟨[sP 78 0 0 0, sS 92 ((r2.2.fsrc.drop (r2.2.fat : Int).toNat).take (((IntKind.i64.wrap (r2.2.fat + 2)) : Int).toNat - (r2.2.fat : Int).toNat))], [.cells [.str r2.2.fsrc, iC r2.2.fat, .own 2 r2.2.ftokens.length], .dead, E69.row r2.2.ftokens], [], 2⟩) (fuel' := 2) [4, 8, 12, 13, 14] [78, 92] [0, 1, 2] rfl (by kernel_rfl) (by kernel_rfl) ?_
       refine RefX.letC (stf := fun x1244 => ⟨[sP 78 0 0 0, sS 92 x1244], [.cells [.str r2.2.fsrc, iC r2.2.fat, .own 2 r2.2.ftokens.length], .dead, E69.row r2.2.ftokens], [], 2⟩) (by kernel_rfl) (fun x1244 => ?_)
       refine RefX.tailC [15, 16] rfl (by kernel_rfl) ?_
       refine RefR.cc 93 0 1 [0, 2] (F90_ok K r2.2 4 x1244 0) (fun r1245 => ?_)
       refine RefR.e0 (st' := ⟨[(2, .c (errC r1245.1))], [.cells [.str r1245.2.fsrc, iC r1245.2.fat, .own 2 r1245.2.ftokens.length], .dead, E69.row r1245.2.ftokens], [], 2⟩) 1 1 2 [2] [0, 1, 3] ?_
       refine RefR.nl 2 ?_
       exact Ref.rt (t := (Sum.inr (Sum.inr (Sum.inr (Sum.inr (r1245.1, r1245.2))))))
      ·
       refine Ref.sk ?_
       refine Ref.ck ⟨[sP 0 0 0 0, (3, .c (.val (.int .u8 (Int.ofNat r1.1.toNat))))], [.cells [.str r2.2.fsrc, iC r2.2.fat, .own 2 r2.2.ftokens.length], .dead, E69.row r2.2.ftokens], [], 2⟩ [0, 3] [0, 1, 2] ?_
       exact Ref.xt 0 (t := (Sum.inr (Sum.inr (Sum.inr (Sum.inl ())))))
    ·
     refine Ref.sq ?_
     refine Ref.rn 33 ?_
     refine RefR.e0 (st' := ⟨[sP 0 0 0 0, (3, .c (.val (.int .u8 (Int.ofNat r1.1.toNat)))), sB 95 (((Int.ofNat r2.1.toNat) : Int) == 46)], [.cells [.str r2.2.fsrc, iC r2.2.fat, .own 2 r2.2.ftokens.length], .dead, E69.row r2.2.ftokens], [], 2⟩) 0 2 2 [0, 3, 95] [0, 1, 2] ?_
     refine RefR.nl 2 ?_
     refine Ref.cn (.tmp 95) (((Int.ofNat r2.1.toNat) : Int) == 46) (fun hc => ?_) (fun hc => ?_)
     ·
      refine Ref.sq ?_
      refine Ref.rn 34 ?_
      refine RefR.e1 0 1 1 [96] [0, 1, 2] ?_
      refine RefR.cc 97 1 2 [0, 2] (F90_ok K r2.2 4 ([46, 46] : Bytes) 0) (fun r1246 => ?_)
      refine RefR.e0 (st' := ⟨[(2, .c (errC r1246.1))], [.cells [.str r1246.2.fsrc, iC r1246.2.fat, .own 2 r1246.2.ftokens.length], .dead, E69.row r1246.2.ftokens], [], 2⟩) 2 1 3 [2] [0, 1, 3] ?_
      refine RefR.nl 3 ?_
      exact Ref.rt (t := (Sum.inr (Sum.inr (Sum.inr (r1246.1, r1246.2)))))
     ·
      refine Ref.sk ?_
      refine Ref.ck ⟨[sP 0 0 0 0, (3, .c (.val (.int .u8 (Int.ofNat r1.1.toNat))))], [.cells [.str r2.2.fsrc, iC r2.2.fat, .own 2 r2.2.ftokens.length], .dead, E69.row r2.2.ftokens], [], 2⟩ [0, 3] [0, 1, 2] ?_
      exact Ref.n0 (t := ())
   ·
    exact Ref.xt 0 (t := (Sum.inr (Sum.inl ())))
  ·
   refine Ref.sq ?_
   refine Ref.sq ?_
   refine Ref.sq ?_
   refine Ref.rn 35 ?_
   refine RefR.e1 0 1 1 [0, 3, 98] [0, 1, 2] ?_
   refine RefR.cc 99 1 2 [] (F91_ok K r1.1) (fun r1247 => ?_)
   refine RefR.nl 2 ?_
   refine Ref.cn (.tmp 99) r1247 (fun hc => ?_) (fun hc => ?_)
   ·
    refine Ref.sq ?_
    refine Ref.rn 36 ?_
    refine RefR.e1 0 1 1 [100] [0, 1, 2] ?_
    refine RefR.cc 101 1 2 [0, 2] (F92_ok K r2.2) (fun r1248 => ?_)
    refine RefR.e0 (st' := ⟨[(2, .c (errC r1248.1))], [.cells [.str r1248.2.fsrc, iC r1248.2.fat, .own 2 r1248.2.ftokens.length], .dead, E69.row r1248.2.ftokens], [], 2⟩) 2 1 3 [2] [0, 1, 3] ?_
    refine RefR.nl 3 ?_
    exact Ref.rt (t := (Sum.inr (r1248.1, r1248.2)))
   ·
    refine Ref.sk ?_
    refine Ref.sq ?_
    refine Ref.sq ?_
    refine Ref.rn 37 ?_
    refine RefR.e1 0 1 1 [0, 102] [0, 1, 2] ?_
    refine RefR.cc 103 1 2 [] (F93_ok K r1.1) (fun r1249 => ?_)
    refine RefR.nl 2 ?_
    refine Ref.cn (.tmp 103) r1249 (fun hc => ?_) (fun hc => ?_)
    ·
     refine Ref.sq ?_
     refine Ref.rn 38 ?_
     refine RefR.e1 0 1 1 [104] [0, 1, 2] ?_
     refine RefR.cc 105 1 2 [0, 2] (F94_ok K r2.2) (fun r1250 => ?_)
     refine RefR.e0 (st' := ⟨[(2, .c (errC r1250.1))], [.cells [.str r1250.2.fsrc, iC r1250.2.fat, .own 2 r1250.2.ftokens.length], .dead, E69.row r1250.2.ftokens], [], 2⟩) 2 1 3 [2] [0, 1, 3] ?_
     refine RefR.nl 3 ?_
     exact Ref.rt (t := (Sum.inr (r1250.1, r1250.2)))
    ·
     refine Ref.sk ?_
     refine Ref.sq ?_
     refine Ref.rn 39 ?_
     refine RefR.e1 0 4 4 [109] [0, 1, 2] ?_
     refine RefR.cc 110 4 5 [] (F41_ok K 1 r2.2.fat) (fun r1251 => ?_)
     refine RefR.e0 (st' := ⟨[(2, .c (errC r1251))], [.cells [.str r2.2.fsrc, iC r2.2.fat, .own 2 r2.2.ftokens.length], .dead, E69.row r2.2.ftokens], [], 2⟩) 5 1 6 [2] [0, 1, 2] ?_
     refine RefR.nl 6 ?_
     exact Ref.rt (t := (Sum.inr (r1251, r2.2)))
 ·
  refine Ref.sq ?_
  refine Ref.rn 40 ?_
  refine RefR.e0 (st' := ⟨[sP 111 0 0 0, (112, .c (.val (.int .u8 (Int.ofNat r1.1.toNat))))], [.cells [.str r2.2.fsrc, iC r2.2.fat, .own 2 r2.2.ftokens.length], .dead, E69.row r2.2.ftokens], [], 2⟩) 0 2 2 [111, 112] [0, 1, 2] ?_
  refine RefR.e0 (st' := ⟨[sP 111 0 0 0, (113, .c (.own 3 1))], [.cells [.str r2.2.fsrc, iC r2.2.fat, .own 2 r2.2.ftokens.length], .dead, E69.row r2.2.ftokens, .row 5 1 1 (tbl [[.val (.int .u8 (Int.ofNat r1.1.toNat))]])], [], 2⟩) 2 1 3 [111, 113] [0, 1, 2, 3] ?_
  refine RefR.conv (Conv.ob 3 (E5.row [r1.1]) (El.row_build E5 [r1.1] rfl (by kernel_rfl))) ?_
  refine RefR.conv (Conv.sl 113 (.c (.own 3 ([r1.1].length))) (DLe.c (CLe.own (by simp <;> omega)))) ?_
  refine RefR.bytesStr (t := 114) (d := .c (.own 3 ([r1.1].length))) 3 4 [r1.1] (by kernel_rfl) (by kernel_rfl) (isBytes.own 3 5 (by kernel_rfl) (by kernel_rfl)) ?_
  refine RefR.cc 115 4 5 [0, 2] (F90_ok K r2.2 4 [r1.1] 0) (fun r1252 => ?_)
  refine RefR.e0 (st' := ⟨[(2, .c (errC r1252.1))], [.cells [.str r1252.2.fsrc, iC r1252.2.fat, .own 2 r1252.2.ftokens.length], .dead, E69.row r1252.2.ftokens], [], 2⟩) 5 1 6 [2] [0, 1, 4] ?_
  refine RefR.nl 6 ?_
  exact Ref.rt (t := (r1252.1, r1252.2))
def F33 (K : Nat) (a0 : Bytes) : Option (((List S69) × Err) ⊕ ((List S69) × Err)) :=
 (letV (decide (((Int.ofNat a0.length) : Int) > 6000)) (fun (x1 : Bool) => (if x1 = true then ((fnS (F41 K 5 6000)).bind (fun r2 => (some (.inl ([], r2))))) else (bindS (blockS ((iter K (fun (u22 : Bytes × Int × (List S69)) => (letV (decide ((u22.2.1 : Int) < (Int.ofNat a0.length))) (fun (x28 : Bool) => (if x28 = true then (bindS (blockS ((fnS (F61 K (⟨u22.1, u22.2.1, u22.2.2⟩ : S114))).bind (fun r31 => (if (!(!errS r31.1)) = true then (some (.inl (Sum.inr (Sum.inr ([], r31.1))))) else (some (.inr (r31.2.fsrc, r31.2.fat, r31.2.ftokens))))))) (fun (u30 : Bytes × Int × (List S69)) => (some (.inr (u30.1, u30.2.1, u30.2.2))))) else (some (.inl (Sum.inl (u22.1, u22.2.1, u22.2.2)))))))) (a0, 0, [])).map .inl)) (fun (u17 : Bytes × Int × (List S69)) => (some (.inl (u17.2.2, ([] : Err)))))))))
theorem F33_ok (K : Nat) (a0 : Bytes) : DFun Tryz.prog 33 [.c (.str a0)] [] (fnS (F33 K a0)) (fun r => .tup [.c (E69.tree r.1), .c (errC r.2)]) (fun r => []) := by
 refine DFun.it Tryz.f33 (fun r => ⟨[(2, .c (E69.tree r.1)), (3, .c (errC r.2))], [], [], 0⟩) ?_
 unfold F33
 refine Ref.sq ?_
 refine Ref.rn 0 ?_
 refine RefR.e0 (st' := ⟨[sS 0 a0], [], [], 0⟩) 0 2 2 [0] [] ?_
 refine RefR.nl 2 ?_
 refine Ref.sq ?_
 refine Ref.sq ?_
 refine Ref.rn 1 ?_
 refine RefR.e0 (st' := ⟨[sS 0 a0, sB 8 (decide (((Int.ofNat a0.length) : Int) > 6000))], [], [], 0⟩) 0 3 3 [0, 8] [] ?_
 refine RefR.letC (stf := fun x1 => ⟨[sS 0 a0, sB 8 x1], [], [], 0⟩) (by kernel_rfl) (fun x1 => ?_)
 refine RefR.nl 3 ?_
 refine Ref.cn (.tmp 8) x1 (fun hc => ?_) (fun hc => ?_)
 ·
  refine Ref.sq ?_
  refine Ref.rn 2 ?_
  refine RefR.cc 9 0 1 [] (F41_ok K 5 6000) (fun r2 => ?_)
  refine RefR.e0 (st' := ⟨[(2, .c (.nil)), (3, .c (errC r2))], [], [], 0⟩) 1 2 3 [2, 3] [] ?_
  refine RefR.nl 3 ?_
  refine Ref.conv (Conv.sl 2 (.c (E69.tree [])) (DLe.c (El.tree_nil E69))) ?_
  exact Ref.rt (t := ([], r2))
 ·
  refine Ref.sk ?_
  refine Ref.sq ?_
  refine Ref.rn 3 ?_
  refine RefR.e0 (st' := ⟨[sS 0 a0, sP 4 0 0 0], [.cells [.str a0, iC 0, .nil]], [], 0⟩) 0 4 4 [0, 4] [0] ?_
  refine RefR.nl 4 ?_
  refine Ref.sq ?_
  refine Ref.ce (.block 0 (cd (bd Tryz.f33) [1, 1, 1, 0, 0])) ?_
  refine Ref.block (go1 := fun u17 => ⟨[sP 4 0 0 0], [.cells [.str u17.1, iC u17.2.1, .own 1 u17.2.2.length], E69.row u17.2.2], [], 0⟩) ?_ (fun _ h => by cases h) (fun u17 => ?_)
  ·
   refine Ref.ce (.loop (cd (bd Tryz.f33) [1, 1, 1, 0, 0, 0])) ?_
   refine Ref.conv (Conv.adoptCell (st' := ⟨[sS 0 a0, sP 4 0 0 0], [.cells [.str a0, iC 0, .own 1 0], E69.row []], [], 0⟩) 0 2 E69.ty E69.w (E69.at []) (by kernel_rfl)) ?_
   refine Ref.loop (hd := fun u22 => ⟨[sS 0 a0, sP 4 0 0 0], [.cells [.str u22.1, iC u22.2.1, .own 1 u22.2.2.length], E69.row u22.2.2], [], 0⟩) K (a0, 0, []) (by kernel_rfl) (fun u22 => ?_)
   refine Ref.sq ?_
   refine Ref.sq ?_
   refine Ref.rn 4 ?_
   refine RefR.e0 (st' := ⟨[sS 0 a0, sP 4 0 0 0, sB 19 (decide ((u22.2.1 : Int) < (Int.ofNat a0.length)))], [.cells [.str u22.1, iC u22.2.1, .own 1 u22.2.2.length], E69.row u22.2.2], [], 0⟩) 0 7 7 [0, 4, 19] [0, 1] ?_
   refine RefR.letC (stf := fun x28 => ⟨[sS 0 a0, sP 4 0 0 0, sB 19 x28], [.cells [.str u22.1, iC u22.2.1, .own 1 u22.2.2.length], E69.row u22.2.2], [], 0⟩) (by kernel_rfl) (fun x28 => ?_)
   refine RefR.nl 7 ?_
   refine Ref.cn (.tmp 19) x28 (fun hc => ?_) (fun hc => ?_)
   ·
    refine Ref.sk ?_
    refine Ref.ce (.block 1 (cd (bd Tryz.f33) [1, 1, 1, 0, 0, 0, 1, 0])) ?_
    refine Ref.block (go1 := fun u30 => ⟨[sS 0 a0, sP 4 0 0 0], [.cells [.str u30.1, iC u30.2.1, .own 1 u30.2.2.length], E69.row u30.2.2], [], 0⟩) ?_ (fun a => match a with | .inl _ => (fun h => by cases h) | .inr _ => (fun h => by cases h)) (fun u30 => ?_)
    ·
     refine Ref.sq ?_
     refine Ref.rn 5 ?_
     refine RefR.e1 0 1 1 [0, 4, 20] [0, 1] ?_
     refine RefR.cc 21 1 2 [0, 1] (F61_ok K (⟨u22.1, u22.2.1, u22.2.2⟩ : S114)) (fun r31 => ?_)
     refine RefR.e0 (st' := ⟨[sS 0 a0, sP 4 0 0 0, (5, .c (errC r31.1))], [.cells [.str r31.2.fsrc, iC r31.2.fat, .own 1 r31.2.ftokens.length], E69.row r31.2.ftokens], [], 0⟩) 2 1 3 [0, 4, 5] [0, 2] ?_
     refine RefR.nl 3 ?_
     refine Ref.sq ?_
     refine Ref.rn 6 ?_
     refine RefR.e0 (st' := ⟨[sS 0 a0, sP 4 0 0 0, (5, .c (errC r31.1)), sB 23 (!(!errS r31.1))], [.cells [.str r31.2.fsrc, iC r31.2.fat, .own 1 r31.2.ftokens.length], E69.row r31.2.ftokens], [], 0⟩) 0 2 2 [0, 4, 5, 23] [0, 1] ?_
     refine RefR.nl 2 ?_
     refine Ref.cn (.tmp 23) (!(!errS r31.1)) (fun hc => ?_) (fun hc => ?_)
     ·
      refine Ref.sq ?_
      refine Ref.rn 7 ?_
      refine RefR.e0 (st' := ⟨[(2, .c (.nil)), (3, .c (errC r31.1))], [], [], 0⟩) 0 3 3 [2, 3] [] ?_
      refine RefR.nl 3 ?_
      refine Ref.conv (Conv.sl 2 (.c (E69.tree [])) (DLe.c (El.tree_nil E69))) ?_
      exact Ref.rt (t := (Sum.inr (Sum.inr ([], r31.1))))
     ·
      refine Ref.sk ?_
      refine Ref.ck ⟨[sS 0 a0, sP 4 0 0 0], [.cells [.str r31.2.fsrc, iC r31.2.fat, .own 1 r31.2.ftokens.length], E69.row r31.2.ftokens], [], 0⟩ [0, 4] [0, 1] ?_
      exact Ref.n0 (t := (r31.2.fsrc, r31.2.fat, r31.2.ftokens))
    ·
     exact Ref.n0 (t := (u30.1, u30.2.1, u30.2.2))
   ·
    refine Ref.ck ⟨[sP 4 0 0 0], [.cells [.str u22.1, iC u22.2.1, .own 1 u22.2.2.length], E69.row u22.2.2], [], 0⟩ [4] [0, 1] ?_
    exact Ref.xt 0 (t := (Sum.inl (u22.1, u22.2.1, u22.2.2)))
  ·
   refine Ref.sq ?_
   refine Ref.rn 8 ?_
   refine RefR.e0 (st' := ⟨[(2, .c (.own 0 u17.2.2.length)), (3, .c (.val .nilIface))], [E69.row u17.2.2], [], 0⟩) 0 6 6 [2, 3] [1] ?_
   refine RefR.nl 6 ?_
   refine Ref.conv (Conv.freeze (st' := ⟨[(2, .c (E69.tree u17.2.2)), (3, .c (.val .nilIface))], [.dead], [], 0⟩) 0 (by kernel_rfl)) ?_
   refine Ref.conv (Conv.sl 3 (.c (errC ([] : Err))) (DLe.c (errC_nil))) ?_
   refine Ref.ck ⟨[(2, .c (E69.tree u17.2.2)), (3, .c (errC ([] : Err)))], [], [], 0⟩ [2, 3] [] ?_
   exact Ref.rt (t := (u17.2.2, ([] : Err)))
end Go.Proofs.YtidjangjfekfjaaGreatDoor
