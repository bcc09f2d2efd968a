/- Plain functions, and that the Go functions do what these do: printed by gen2.py. No conditions. -/
import Derived.Test.YtmllhpnlceaneaaDoorGb
import Derived.Test.YtmllhpnlceaneaaDoorProg
set_option linter.unusedVariables false
set_option linter.unusedSimpArgs false
set_option linter.unusedSectionVars false
namespace Go.Proofs.YtmllhpnlceaneaaDoor
open Go Go.Proofs Go.Dl

/-- governor/script.Parse -/
def F12 (K : Nat) (a0 : Bytes) : Option ((Bytes × (List S45) × Err) ⊕ (Bytes × (List S45) × Err)) :=
  (letV (decide (((Int.ofNat a0.length) : Int) > 65536)) (fun (x1 : Bool) => (if x1 = true then ((fnS (F21 K 24 0)).bind (fun r2 => (some (.inl (([] : Bytes), [], r2))))) else (bindS (blockS ((iter K (fun (u140 : Bytes × Bool × (List UInt8) × (List S45) × Int) => (if (!(u140.1 == ([] : Bytes))) = true then (bindS (blockS ((fnS (F22 K u140.1 ([10] : Bytes))).bind (fun r192 => ((fnS (F23 K r192.1 ([32] : Bytes))).bind (fun r193 => (bindS (blockS (chk [inb 0 r193.length] (letV (((r193.getD (0 : Int).toNat default) == ([115, 114, 99] : Bytes)) && (((Int.ofNat r193.length) : Int) == 2)) (fun (x201 : Bool) => (if x201 = true then (chk [inb 1 r193.length] ((fnS (F9 K (r193.getD (1 : Int).toNat default))).bind (fun r202 => ((fnS (F24 K (⟨u140.2.1, u140.2.2.1⟩ : S52) r202.1)).bind (fun r203 => (some (.inr (r203.2.2.faddr, r203.2.2.fbuf, u140.2.2.2.1, r202.2)))))))) else (chk [inb 0 r193.length] (letV ((r193.getD (0 : Int).toNat default) == ([115, 99, 97, 110] : Bytes)) (fun (x204 : Bool) => (if x204 = true then (chk [bndOk r193.length 1 (Int.ofNat r193.length)] (letV ((r193.drop (1 : Int).toNat).take (((Int.ofNat r193.length) : Int).toNat - (1 : Int).toNat)) (fun (x205 : (List Bytes)) => ((fnS (F25 K x205)).bind (fun r206 => (chk [room ((u140.2.2.2.1.length + ([r206.1].length)) * 32)] (some (.inr (u140.2.1, u140.2.2.1, (u140.2.2.2.1 ++ [r206.1]), r206.2))))))))) else (some (.inr (u140.2.1, u140.2.2.1, u140.2.2.2.1, false)))))))))))) (fun (u200 : Bool × (List UInt8) × (List S45) × Bool) => (if (!u200.2.2.2) = true then ((fnS (F21 K 23 u140.2.2.2.2)).bind (fun r207 => (some (.inl (Sum.inr (Sum.inr (([] : Bytes), [], r207))))))) else (some (.inr (r192.2.1, u200.1, u200.2.1, u200.2.2.1))))))))))) (fun (u191 : Bytes × Bool × (List UInt8) × (List S45)) => (some (.inr (u191.1, u191.2.1, u191.2.2.1, u191.2.2.2, (IntKind.i64.wrap (u140.2.2.2.2 + 1))))))) else (some (.inl (Sum.inl (u140.2.1, u140.2.2.1, u140.2.2.2.1)))))) (a0, false, [], [], 1)).map .inl)) (fun (u105 : Bool × (List UInt8) × (List S45)) => ((fnS (F26 K (⟨u105.1, u105.2.1⟩ : S52))).bind (fun r208 => (some (.inl (r208, u105.2.2, none))))))))))

theorem F12_ok (K : Nat) (a0 : Bytes) : DFun Tryd.prog 12 [.c (.str a0)] [] (fnS (F12 K a0)) (fun r => .tup [.c (.str r.1), .c (E45.tree r.2.1), .c (errC r.2.2)]) (fun r => []) := by
  refine DFun.intro (fn := Tryd.f12) (c := cd (bd Tryd.f12) []) (rs := fun r => ⟨[(2, .c (.str r.1)), (3, .c (E45.tree r.2.1)), (4, .c (errC r.2.2))], [], [], 0⟩) (by kernel_rfl) (by kernel_rfl) (by kernel_rfl) ?_ (fun r => by kernel_rfl) (fun r => by kernel_rfl) (fun r => by kernel_rfl) (fun r => by kernel_rfl)
  unfold F12
  refine Ref.seqC (cd (bd Tryd.f12) [0]) (cd (bd Tryd.f12) [1]) (by kernel_rfl) ?_
  refine Ref.regionC 0 (by kernel_rfl) ?_
  refine RefR.ev0 (st' := ⟨[(0, .c (.str a0))], [], [], 0⟩) 0 3 3 [0] [] rfl (by kernel_rfl) ?_
  refine RefR.nilC 3 (by kernel_rfl) ?_
  refine Ref.seqC (cd (bd Tryd.f12) [1, 0]) (cd (bd Tryd.f12) [1, 1]) (by kernel_rfl) ?_
  refine Ref.seqC (cd (bd Tryd.f12) [1, 0, 0]) (cd (bd Tryd.f12) [1, 0, 1]) (by kernel_rfl) ?_
  refine Ref.regionC 1 (by kernel_rfl) ?_
  refine RefR.ev0 (st' := ⟨[(0, .c (.str a0)), (17, .c (.val (.bool (decide (((Int.ofNat a0.length) : Int) > 65536)))))], [], [], 0⟩) 0 3 3 [0, 17] [] rfl (by kernel_rfl) ?_
  refine RefR.letC (stf := fun x1 => ⟨[(0, .c (.str a0)), (17, .c (.val (.bool x1)))], [], [], 0⟩) (by kernel_rfl) (fun x1 => ?_)
  refine RefR.nilC 3 (by kernel_rfl) ?_
  refine Ref.condC (.tmp 17) x1 (by kernel_rfl) rfl (by kernel_rfl) (fun hc => ?_) (fun hc => ?_)
  ·
    refine Ref.seqC (cd (bd Tryd.f12) [1, 0, 1, 0, 0]) (cd (bd Tryd.f12) [1, 0, 1, 0, 1]) (by kernel_rfl) ?_
    refine Ref.regionC 2 (by kernel_rfl) ?_
    refine RefR.callC (t := 18) 0 1 [] rfl (by kernel_rfl) (F21_ok K 24 0) (fun r2 => ?_)
    refine RefR.ev0 (st' := ⟨[(2, .c (.str ([] : Bytes))), (3, .c (.nil)), (4, .c (errC r2))], [], [], 0⟩) 1 3 4 [2, 3, 4] [] rfl (by kernel_rfl) ?_
    refine RefR.nilC 4 (by kernel_rfl) ?_
    refine Ref.conv (Conv.slot 3 (.c (E45.tree [])) (DLe.c (El.tree_nil E45)) (by kernel_rfl)) ?_
    refine Ref.conv (Conv.keep (st' := ⟨[(2, .c (.str ([] : Bytes))), (3, .c (E45.tree [])), (4, .c (errC r2))], [], [], 0⟩) [2, 3, 4] [] (by kernel_rfl)) ?_
    exact Ref.retC (t := (([] : Bytes), [], r2)) (by kernel_rfl) (by kernel_rfl)
  ·
    refine Ref.skipC (by kernel_rfl) ?_
    refine Ref.seqC (cd (bd Tryd.f12) [1, 1, 0]) (cd (bd Tryd.f12) [1, 1, 1]) (by kernel_rfl) ?_
    refine Ref.regionC 3 (by kernel_rfl) ?_
    refine RefR.allocSelf (d := 5) (t := 52) (cl := [.nil]) 0 1 (by kernel_rfl) (by kernel_rfl) ?_
    refine RefR.nilC 1 (by kernel_rfl) ?_
    refine Ref.seqC (cd (bd Tryd.f12) [1, 1, 1, 0]) (cd (bd Tryd.f12) [1, 1, 1, 1]) (by kernel_rfl) ?_
    refine Ref.regionC 4 (by kernel_rfl) ?_
    refine RefR.ev0 (st' := ⟨[(0, .c (.str a0)), (5, .c (.ptr 0 0 0)), (6, .c (.nil))], [.cells [.self 52 false 0, .nil]], [], 0⟩) 0 1 1 [0, 5, 6] [0] rfl (by kernel_rfl) ?_
    refine RefR.nilC 1 (by kernel_rfl) ?_
    refine Ref.seqC (cd (bd Tryd.f12) [1, 1, 1, 1, 0]) (cd (bd Tryd.f12) [1, 1, 1, 1, 1]) (by kernel_rfl) ?_
    refine Ref.seqC (cd (bd Tryd.f12) [1, 1, 1, 1, 0, 0]) (cd (bd Tryd.f12) [1, 1, 1, 1, 0, 1]) (by kernel_rfl) ?_
    refine Ref.regionC 5 (by kernel_rfl) ?_
    refine RefR.ev0 (st' := ⟨[(0, .c (.str a0)), (5, .c (.ptr 0 0 0)), (6, .c (.nil)), (7, .c (.val (.int .i64 1)))], [.cells [.self 52 false 0, .nil]], [], 0⟩) 0 1 1 [0, 5, 6, 7] [0] rfl (by kernel_rfl) ?_
    refine RefR.nilC 1 (by kernel_rfl) ?_
    refine Ref.codeEq (c' := .block 0 (cd (bd Tryd.f12) [1, 1, 1, 1, 0, 1, 0])) (by kernel_rfl) ?_
    refine Ref.block (go1 := fun u105 => ⟨[(5, .c (.ptr 0 0 0)), (6, .c (.own 2 u105.2.2.length))], [.cells [.self 52 u105.1 0, .own 1 u105.2.1.length], E5.row u105.2.1, E45.row u105.2.2], [], 0⟩) ?_ (fun _ h => by cases h) (fun u105 => ?_)
    ·
      refine Ref.codeEq (c' := .loop (cd (bd Tryd.f12) [1, 1, 1, 1, 0, 1, 0, 0])) (by kernel_rfl) ?_
      refine Ref.conv (Conv.adopt 6 E45.ty E45.w (E45.at []) (by kernel_rfl) (by kernel_rfl) (by kernel_rfl)) ?_
      refine Ref.conv (Conv.adoptCell (st' := ⟨[(6, .c (.own 1 0)), (0, .c (.str a0)), (5, .c (.ptr 0 0 0)), (7, .c (.val (.int .i64 1)))], [.cells [.self 52 false 0, .own 2 0], E45.row [], E5.row []], [], 0⟩) 0 1 E5.ty E5.w (E5.at []) (by kernel_rfl)) ?_
      refine Ref.conv (Conv.keep (st' := ⟨[(0, .c (.str a0)), (5, .c (.ptr 0 0 0)), (6, .c (.own 2 0)), (7, .c (.val (.int .i64 1)))], [.cells [.self 52 false 0, .own 1 0], E5.row [], E45.row []], [], 0⟩) [0, 5, 6, 7] [0, 2, 1] (by kernel_rfl)) ?_
      refine Ref.loop (hd := fun u140 => ⟨[(0, .c (.str u140.1)), (5, .c (.ptr 0 0 0)), (6, .c (.own 2 u140.2.2.2.1.length)), (7, .c (.val (.int .i64 u140.2.2.2.2)))], [.cells [.self 52 u140.2.1 0, .own 1 u140.2.2.1.length], E5.row u140.2.2.1, E45.row u140.2.2.2.1], [], 0⟩) K (a0, false, [], [], 1) (by kernel_rfl) (fun u140 => ?_)
      refine Ref.seqC (cd (bd Tryd.f12) [1, 1, 1, 1, 0, 1, 0, 0, 0]) (cd (bd Tryd.f12) [1, 1, 1, 1, 0, 1, 0, 0, 1]) (by kernel_rfl) ?_
      refine Ref.seqC (cd (bd Tryd.f12) [1, 1, 1, 1, 0, 1, 0, 0, 0, 0]) (cd (bd Tryd.f12) [1, 1, 1, 1, 0, 1, 0, 0, 0, 1]) (by kernel_rfl) ?_
      refine Ref.regionC 6 (by kernel_rfl) ?_
      refine RefR.ev0 (st' := ⟨[(0, .c (.str u140.1)), (5, .c (.ptr 0 0 0)), (6, .c (.own 2 u140.2.2.2.1.length)), (7, .c (.val (.int .i64 u140.2.2.2.2))), (20, .c (.val (.bool (!(u140.1 == ([] : Bytes))))))], [.cells [.self 52 u140.2.1 0, .own 1 u140.2.2.1.length], E5.row u140.2.2.1, E45.row u140.2.2.2.1], [], 0⟩) 0 2 2 [0, 5, 6, 7, 20] [0, 1, 2] rfl (by kernel_rfl) ?_
      refine RefR.nilC 2 (by kernel_rfl) ?_
      refine Ref.condC (.tmp 20) (!(u140.1 == ([] : Bytes))) (by kernel_rfl) rfl (by kernel_rfl) (fun hc => ?_) (fun hc => ?_)
      ·
        refine Ref.skipC (by kernel_rfl) ?_
        refine Ref.seqC (cd (bd Tryd.f12) [1, 1, 1, 1, 0, 1, 0, 0, 1, 0]) (cd (bd Tryd.f12) [1, 1, 1, 1, 0, 1, 0, 0, 1, 1]) (by kernel_rfl) ?_
        refine Ref.codeEq (c' := .block 1 (cd (bd Tryd.f12) [1, 1, 1, 1, 0, 1, 0, 0, 1, 0, 0])) (by kernel_rfl) ?_
        refine Ref.block (go1 := fun u191 => ⟨[(0, .c (.str u191.1)), (5, .c (.ptr 0 0 0)), (6, .c (.own 2 u191.2.2.2.length)), (7, .c (.val (.int .i64 u140.2.2.2.2)))], [.cells [.self 52 u191.2.1 0, .own 1 u191.2.2.1.length], E5.row u191.2.2.1, E45.row u191.2.2.2], [], 0⟩) ?_ (fun a => match a with | .inl _ => (fun h => by cases h) | .inr _ => (fun h => by cases h)) (fun u191 => ?_)
        ·
          refine Ref.seqC (cd (bd Tryd.f12) [1, 1, 1, 1, 0, 1, 0, 0, 1, 0, 0, 0]) (cd (bd Tryd.f12) [1, 1, 1, 1, 0, 1, 0, 0, 1, 0, 0, 1]) (by kernel_rfl) ?_
          refine Ref.regionC 8 (by kernel_rfl) ?_
          refine RefR.ev0 (st' := ⟨[(5, .c (.ptr 0 0 0)), (6, .c (.own 2 u140.2.2.2.1.length)), (7, .c (.val (.int .i64 u140.2.2.2.2))), (24, .c (.str u140.1))], [.cells [.self 52 u140.2.1 0, .own 1 u140.2.2.1.length], E5.row u140.2.2.1, E45.row u140.2.2.2.1], [], 0⟩) 0 1 1 [5, 6, 7, 24] [0, 1, 2] rfl (by kernel_rfl) ?_
          refine RefR.callC (t := 25) 1 2 [] rfl (by kernel_rfl) (F22_ok K u140.1 ([10] : Bytes)) (fun r192 => ?_)
          refine RefR.ev0 (st' := ⟨[(5, .c (.ptr 0 0 0)), (6, .c (.own 2 u140.2.2.2.1.length)), (7, .c (.val (.int .i64 u140.2.2.2.2))), (8, .c (.str r192.1)), (9, .c (.str r192.2.1))], [.cells [.self 52 u140.2.1 0, .own 1 u140.2.2.1.length], E5.row u140.2.2.1, E45.row u140.2.2.2.1], [], 0⟩) 2 7 9 [5, 6, 7, 8, 9] [0, 1, 2] rfl (by kernel_rfl) ?_
          refine RefR.nilC 9 (by kernel_rfl) ?_
          refine Ref.seqC (cd (bd Tryd.f12) [1, 1, 1, 1, 0, 1, 0, 0, 1, 0, 0, 1, 0]) (cd (bd Tryd.f12) [1, 1, 1, 1, 0, 1, 0, 0, 1, 0, 0, 1, 1]) (by kernel_rfl) ?_
          refine Ref.regionC 9 (by kernel_rfl) ?_
          refine RefR.ev0 (st' := ⟨[(0, .c (.str r192.2.1)), (5, .c (.ptr 0 0 0)), (6, .c (.own 2 u140.2.2.2.1.length)), (7, .c (.val (.int .i64 u140.2.2.2.2))), (8, .c (.str r192.1))], [.cells [.self 52 u140.2.1 0, .own 1 u140.2.2.1.length], E5.row u140.2.2.1, E45.row u140.2.2.2.1], [], 0⟩) 0 2 2 [0, 5, 6, 7, 8] [0, 1, 2] rfl (by kernel_rfl) ?_
          refine RefR.nilC 2 (by kernel_rfl) ?_
          refine Ref.seqC (cd (bd Tryd.f12) [1, 1, 1, 1, 0, 1, 0, 0, 1, 0, 0, 1, 1, 0]) (cd (bd Tryd.f12) [1, 1, 1, 1, 0, 1, 0, 0, 1, 0, 0, 1, 1, 1]) (by kernel_rfl) ?_
          refine Ref.regionC 10 (by kernel_rfl) ?_
          refine RefR.ev0 (st' := ⟨[(0, .c (.str r192.2.1)), (5, .c (.ptr 0 0 0)), (6, .c (.own 2 u140.2.2.2.1.length)), (7, .c (.val (.int .i64 u140.2.2.2.2))), (30, .c (.str r192.1))], [.cells [.self 52 u140.2.1 0, .own 1 u140.2.2.1.length], E5.row u140.2.2.1, E45.row u140.2.2.2.1], [], 0⟩) 0 1 1 [0, 5, 6, 7, 30] [0, 1, 2] rfl (by kernel_rfl) ?_
          refine RefR.callC (t := 31) 1 2 [] rfl (by kernel_rfl) (F23_ok K r192.1 ([32] : Bytes)) (fun r193 => ?_)
          refine RefR.ev0 (st' := ⟨[(0, .c (.str r192.2.1)), (5, .c (.ptr 0 0 0)), (6, .c (.own 2 u140.2.2.2.1.length)), (7, .c (.val (.int .i64 u140.2.2.2.2))), (11, .c (E9.tree r193))], [.cells [.self 52 u140.2.1 0, .own 1 u140.2.2.1.length], E5.row u140.2.2.1, E45.row u140.2.2.2.1], [], 0⟩) 2 1 3 [0, 5, 6, 7, 11] [0, 1, 2] rfl (by kernel_rfl) ?_
          refine RefR.nilC 3 (by kernel_rfl) ?_
          refine Ref.seqC (cd (bd Tryd.f12) [1, 1, 1, 1, 0, 1, 0, 0, 1, 0, 0, 1, 1, 1, 0]) (cd (bd Tryd.f12) [1, 1, 1, 1, 0, 1, 0, 0, 1, 0, 0, 1, 1, 1, 1]) (by kernel_rfl) ?_
          refine Ref.regionC 11 (by kernel_rfl) ?_
          refine RefR.ev0 (st' := ⟨[(0, .c (.str r192.2.1)), (5, .c (.ptr 0 0 0)), (6, .c (.own 2 u140.2.2.2.1.length)), (7, .c (.val (.int .i64 u140.2.2.2.2))), (11, .c (E9.tree r193)), (12, .c (.val (.bool false)))], [.cells [.self 52 u140.2.1 0, .own 1 u140.2.2.1.length], E5.row u140.2.2.1, E45.row u140.2.2.2.1], [], 0⟩) 0 1 1 [0, 5, 6, 7, 11, 12] [0, 1, 2] rfl (by kernel_rfl) ?_
          refine RefR.nilC 1 (by kernel_rfl) ?_
          refine Ref.seqC (cd (bd Tryd.f12) [1, 1, 1, 1, 0, 1, 0, 0, 1, 0, 0, 1, 1, 1, 1, 0]) (cd (bd Tryd.f12) [1, 1, 1, 1, 0, 1, 0, 0, 1, 0, 0, 1, 1, 1, 1, 1]) (by kernel_rfl) ?_
          refine Ref.codeEq (c' := .block 2 (cd (bd Tryd.f12) [1, 1, 1, 1, 0, 1, 0, 0, 1, 0, 0, 1, 1, 1, 1, 0, 0])) (by kernel_rfl) ?_
          refine Ref.block (go1 := fun u200 => ⟨[(0, .c (.str r192.2.1)), (5, .c (.ptr 0 0 0)), (6, .c (.own 2 u200.2.2.1.length)), (7, .c (.val (.int .i64 u140.2.2.2.2))), (12, .c (.val (.bool u200.2.2.2)))], [.cells [.self 52 u200.1 0, .own 1 u200.2.1.length], E5.row u200.2.1, E45.row u200.2.2.1], [], 0⟩) ?_ (fun a => match a with | .inl _ => (fun h => by cases h) | .inr (.inl _) => (fun h => by cases h) | .inr (.inr _) => (fun h => by cases h)) (fun u200 => ?_)
          ·
            refine Ref.seqC (cd (bd Tryd.f12) [1, 1, 1, 1, 0, 1, 0, 0, 1, 0, 0, 1, 1, 1, 1, 0, 0, 0]) (cd (bd Tryd.f12) [1, 1, 1, 1, 0, 1, 0, 0, 1, 0, 0, 1, 1, 1, 1, 0, 0, 1]) (by kernel_rfl) ?_
            refine Ref.regionC 12 (by kernel_rfl) ?_
            refine RefR.evC (vs := [inb 0 r193.length]) (st' := ⟨[(0, .c (.str r192.2.1)), (5, .c (.ptr 0 0 0)), (6, .c (.own 2 u140.2.2.2.1.length)), (7, .c (.val (.int .i64 u140.2.2.2.2))), (11, .c (E9.tree r193)), (12, .c (.val (.bool false))), (32, .c (.val (.bool (((r193.getD (0 : Int).toNat default) == ([115, 114, 99] : Bytes)) && (((Int.ofNat r193.length) : Int) == 2)))))], [.cells [.self 52 u140.2.1 0, .own 1 u140.2.2.1.length], E5.row u140.2.2.1, E45.row u140.2.2.2.1], [], 0⟩) 0 10 10 [0, 5, 6, 7, 11, 12, 32] [0, 1, 2] rfl (by kernel_rfl) ?_
            refine RefR.letC (stf := fun x201 => ⟨[(0, .c (.str r192.2.1)), (5, .c (.ptr 0 0 0)), (6, .c (.own 2 u140.2.2.2.1.length)), (7, .c (.val (.int .i64 u140.2.2.2.2))), (11, .c (E9.tree r193)), (12, .c (.val (.bool false))), (32, .c (.val (.bool x201)))], [.cells [.self 52 u140.2.1 0, .own 1 u140.2.2.1.length], E5.row u140.2.2.1, E45.row u140.2.2.2.1], [], 0⟩) (by kernel_rfl) (fun x201 => ?_)
            refine RefR.nilC 10 (by kernel_rfl) ?_
            refine Ref.condC (.tmp 32) x201 (by kernel_rfl) rfl (by kernel_rfl) (fun hc => ?_) (fun hc => ?_)
            ·
              refine Ref.seqC (cd (bd Tryd.f12) [1, 1, 1, 1, 0, 1, 0, 0, 1, 0, 0, 1, 1, 1, 1, 0, 0, 1, 0, 0]) (cd (bd Tryd.f12) [1, 1, 1, 1, 0, 1, 0, 0, 1, 0, 0, 1, 1, 1, 1, 0, 0, 1, 0, 1]) (by kernel_rfl) ?_
              refine Ref.regionC 13 (by kernel_rfl) ?_
              refine RefR.ev0 (st' := ⟨[(0, .c (.str r192.2.1)), (5, .c (.ptr 0 0 0)), (6, .c (.own 2 u140.2.2.2.1.length)), (7, .c (.val (.int .i64 u140.2.2.2.2))), (11, .c (E9.tree r193))], [.cells [.self 52 u140.2.1 0, .own 1 u140.2.2.1.length], E5.row u140.2.2.1, E45.row u140.2.2.2.1], [], 0⟩) 0 1 1 [0, 5, 6, 7, 11] [0, 1, 2] rfl (by kernel_rfl) ?_
              refine RefR.nilC 1 (by kernel_rfl) ?_
              refine Ref.seqC (cd (bd Tryd.f12) [1, 1, 1, 1, 0, 1, 0, 0, 1, 0, 0, 1, 1, 1, 1, 0, 0, 1, 0, 1, 0]) (cd (bd Tryd.f12) [1, 1, 1, 1, 0, 1, 0, 0, 1, 0, 0, 1, 1, 1, 1, 0, 0, 1, 0, 1, 1]) (by kernel_rfl) ?_
              refine Ref.regionC 14 (by kernel_rfl) ?_
              refine RefR.evC (vs := [inb 1 r193.length]) (st' := ⟨[(0, .c (.str r192.2.1)), (5, .c (.ptr 0 0 0)), (6, .c (.own 2 u140.2.2.2.1.length)), (7, .c (.val (.int .i64 u140.2.2.2.2))), (45, .c (.str (r193.getD (1 : Int).toNat default)))], [.cells [.self 52 u140.2.1 0, .own 1 u140.2.2.1.length], E5.row u140.2.2.1, E45.row u140.2.2.2.1], [], 0⟩) 0 3 3 [0, 5, 6, 7, 45] [0, 1, 2] rfl (by kernel_rfl) ?_
              refine RefR.callC (t := 46) 3 4 [] rfl (by kernel_rfl) (F9_ok K (r193.getD (1 : Int).toNat default)) (fun r202 => ?_)
              refine RefR.ev0 (st' := ⟨[(0, .c (.str r192.2.1)), (5, .c (.ptr 0 0 0)), (6, .c (.own 2 u140.2.2.2.1.length)), (7, .c (.val (.int .i64 u140.2.2.2.2))), (12, .c (.val (.bool r202.2))), (13, .c (.str r202.1))], [.cells [.self 52 u140.2.1 0, .own 1 u140.2.2.1.length], E5.row u140.2.2.1, E45.row u140.2.2.2.1], [], 0⟩) 4 5 9 [0, 5, 6, 7, 12, 13] [0, 1, 2] rfl (by kernel_rfl) ?_
              refine RefR.nilC 9 (by kernel_rfl) ?_
              refine Ref.regionC 15 (by kernel_rfl) ?_
              refine RefR.ev0 (st' := ⟨[(0, .c (.str r192.2.1)), (5, .c (.ptr 0 0 0)), (6, .c (.own 2 u140.2.2.2.1.length)), (7, .c (.val (.int .i64 u140.2.2.2.2))), (12, .c (.val (.bool r202.2))), (49, .c (.str r202.1))], [.cells [.self 52 u140.2.1 0, .own 1 u140.2.2.1.length], E5.row u140.2.2.1, E45.row u140.2.2.2.1], [], 0⟩) 0 1 1 [0, 5, 6, 7, 12, 49] [0, 1, 2] rfl (by kernel_rfl) ?_
              refine RefR.callC (t := 50) 1 2 [0, 1] rfl (by kernel_rfl) (F24_ok K (⟨u140.2.1, u140.2.2.1⟩ : S52) r202.1) (fun r203 => ?_)
              refine RefR.nilC 2 (by kernel_rfl) ?_
              refine Ref.conv (Conv.keep (st' := ⟨[(0, .c (.str r192.2.1)), (5, .c (.ptr 0 0 0)), (6, .c (.own 2 u140.2.2.2.1.length)), (7, .c (.val (.int .i64 u140.2.2.2.2))), (12, .c (.val (.bool r202.2)))], [.cells [.self 52 r203.2.2.faddr 0, .own 1 r203.2.2.fbuf.length], E5.row r203.2.2.fbuf, E45.row u140.2.2.2.1], [], 0⟩) [0, 5, 6, 7, 12] [0, 3, 2] (by kernel_rfl)) ?_
              exact Ref.nil (t := (r203.2.2.faddr, r203.2.2.fbuf, u140.2.2.2.1, r202.2)) (by kernel_rfl)
            ·
              refine Ref.seqC (cd (bd Tryd.f12) [1, 1, 1, 1, 0, 1, 0, 0, 1, 0, 0, 1, 1, 1, 1, 0, 0, 1, 1, 0]) (cd (bd Tryd.f12) [1, 1, 1, 1, 0, 1, 0, 0, 1, 0, 0, 1, 1, 1, 1, 0, 0, 1, 1, 1]) (by kernel_rfl) ?_
              refine Ref.regionC 16 (by kernel_rfl) ?_
              refine RefR.evC (vs := [inb 0 r193.length]) (st' := ⟨[(0, .c (.str r192.2.1)), (5, .c (.ptr 0 0 0)), (6, .c (.own 2 u140.2.2.2.1.length)), (7, .c (.val (.int .i64 u140.2.2.2.2))), (11, .c (E9.tree r193)), (12, .c (.val (.bool false))), (51, .c (.val (.bool ((r193.getD (0 : Int).toNat default) == ([115, 99, 97, 110] : Bytes)))))], [.cells [.self 52 u140.2.1 0, .own 1 u140.2.2.1.length], E5.row u140.2.2.1, E45.row u140.2.2.2.1], [], 0⟩) 0 5 5 [0, 5, 6, 7, 11, 12, 51] [0, 1, 2] rfl (by kernel_rfl) ?_
              refine RefR.letC (stf := fun x204 => ⟨[(0, .c (.str r192.2.1)), (5, .c (.ptr 0 0 0)), (6, .c (.own 2 u140.2.2.2.1.length)), (7, .c (.val (.int .i64 u140.2.2.2.2))), (11, .c (E9.tree r193)), (12, .c (.val (.bool false))), (51, .c (.val (.bool x204)))], [.cells [.self 52 u140.2.1 0, .own 1 u140.2.2.1.length], E5.row u140.2.2.1, E45.row u140.2.2.2.1], [], 0⟩) (by kernel_rfl) (fun x204 => ?_)
              refine RefR.nilC 5 (by kernel_rfl) ?_
              refine Ref.condC (.tmp 51) x204 (by kernel_rfl) rfl (by kernel_rfl) (fun hc => ?_) (fun hc => ?_)
              ·
                refine Ref.seqC (cd (bd Tryd.f12) [1, 1, 1, 1, 0, 1, 0, 0, 1, 0, 0, 1, 1, 1, 1, 0, 0, 1, 1, 1, 0, 0]) (cd (bd Tryd.f12) [1, 1, 1, 1, 0, 1, 0, 0, 1, 0, 0, 1, 1, 1, 1, 0, 0, 1, 1, 1, 0, 1]) (by kernel_rfl) ?_
                refine Ref.regionC 17 (by kernel_rfl) ?_
                refine RefR.ev0 (st' := ⟨[(0, .c (.str r192.2.1)), (5, .c (.ptr 0 0 0)), (6, .c (.own 2 u140.2.2.2.1.length)), (7, .c (.val (.int .i64 u140.2.2.2.2))), (11, .c (E9.tree r193)), (14, .c (.ptr 3 0 0))], [.cells [.self 52 u140.2.1 0, .own 1 u140.2.2.1.length], E5.row u140.2.2.1, E45.row u140.2.2.2.1, .cells [.nil, .val (.int .i64 0)]], [], 0⟩) 0 1 1 [0, 5, 6, 7, 11, 14] [0, 1, 2, 3] rfl (by kernel_rfl) ?_
                refine RefR.nilC 1 (by kernel_rfl) ?_
                refine Ref.seqC (cd (bd Tryd.f12) [1, 1, 1, 1, 0, 1, 0, 0, 1, 0, 0, 1, 1, 1, 1, 0, 0, 1, 1, 1, 0, 1, 0]) (cd (bd Tryd.f12) [1, 1, 1, 1, 0, 1, 0, 0, 1, 0, 0, 1, 1, 1, 1, 0, 0, 1, 1, 1, 0, 1, 1]) (by kernel_rfl) ?_
                refine Ref.regionC 18 (by kernel_rfl) ?_
                refine RefR.evH (vs := [bndOk r193.length 1 (Int.ofNat r193.length)]) (st' := ⟨[(0, .c (.str r192.2.1)), (5, .c (.ptr 0 0 0)), (6, .c (.own 2 u140.2.2.2.1.length)), (7, .c (.val (.int .i64 u140.2.2.2.2))), (14, .c (.ptr 3 0 0)), (58, .c (.tree E9.w (((Int.ofNat r193.length) : Int).toNat - (1 : Int).toNat) fun i j => E9.at r193 ((1 : Int).toNat + i) j))], [.cells [.self 52 u140.2.1 0, .own 1 u140.2.2.1.length], E5.row u140.2.2.1, E45.row u140.2.2.2.1, .cells [.nil, .val (.int .i64 0)]], [], 0⟩) 0 2 2 [0, 5, 6, 7, 14, 58] [0, 1, 2, 3] rfl (by kernel_rfl) (fun hv => ?_)
                refine RefR.conv (Conv.slot 58 (.c (E9.tree ((r193.drop (1 : Int).toNat).take (((Int.ofNat r193.length) : Int).toNat - (1 : Int).toNat)))) (DLe.c (El.tree_slice E9 _ (bndOk_le (hv _ (List.Mem.head _))))) (by kernel_rfl)) ?_
                refine RefR.letC (stf := fun x205 => ⟨[(58, .c (E9.tree x205)), (0, .c (.str r192.2.1)), (5, .c (.ptr 0 0 0)), (6, .c (.own 2 u140.2.2.2.1.length)), (7, .c (.val (.int .i64 u140.2.2.2.2))), (14, .c (.ptr 3 0 0))], [.cells [.self 52 u140.2.1 0, .own 1 u140.2.2.1.length], E5.row u140.2.2.1, E45.row u140.2.2.2.1, .cells [.nil, .val (.int .i64 0)]], [], 0⟩) (by kernel_rfl) (fun x205 => ?_)
                refine RefR.callC (t := 59) 2 3 [] rfl (by kernel_rfl) (F25_ok K x205) (fun r206 => ?_)
                refine RefR.ev0 (st' := ⟨[(0, .c (.str r192.2.1)), (5, .c (.ptr 0 0 0)), (6, .c (.own 2 u140.2.2.2.1.length)), (7, .c (.val (.int .i64 u140.2.2.2.2))), (12, .c (.val (.bool r206.2))), (14, .c (.ptr 3 0 0))], [.cells [.self 52 u140.2.1 0, .own 1 u140.2.2.1.length], E5.row u140.2.2.1, E45.row u140.2.2.2.1, .cells (E45.cs r206.1)], [], 0⟩) 3 5 8 [0, 5, 6, 7, 12, 14] [0, 1, 2, 3] rfl (by kernel_rfl) ?_
                refine RefR.nilC 8 (by kernel_rfl) ?_
                refine Ref.regionC 19 (by kernel_rfl) ?_
                refine RefR.ev0 (st' := ⟨[(0, .c (.str r192.2.1)), (5, .c (.ptr 0 0 0)), (7, .c (.val (.int .i64 u140.2.2.2.2))), (12, .c (.val (.bool r206.2))), (62, .c (.own 2 u140.2.2.2.1.length)), (63, .agg (E45.cs r206.1))], [.cells [.self 52 u140.2.1 0, .own 1 u140.2.2.1.length], E5.row u140.2.2.1, E45.row u140.2.2.2.1], [], 0⟩) 0 2 2 [0, 5, 7, 12, 62, 63] [0, 1, 2] rfl (by kernel_rfl) ?_
                refine RefR.ev0 (st' := ⟨[(0, .c (.str r192.2.1)), (5, .c (.ptr 0 0 0)), (7, .c (.val (.int .i64 u140.2.2.2.2))), (12, .c (.val (.bool r206.2))), (62, .c (.own 2 u140.2.2.2.1.length)), (64, .c (.own 3 1))], [.cells [.self 52 u140.2.1 0, .own 1 u140.2.2.1.length], E5.row u140.2.2.1, E45.row u140.2.2.2.1, .row 45 2 1 (tbl [(E45.cs r206.1)])], [], 0⟩) 2 1 3 [0, 5, 7, 12, 62, 64] [0, 1, 2, 3] rfl (by kernel_rfl) ?_
                refine RefR.conv (Conv.obj 3 (E45.row [r206.1]) (El.row_build E45 [r206.1] rfl (by kernel_rfl)) (by kernel_rfl)) ?_
                refine RefR.conv (Conv.slot 64 (.c (.own 3 ([r206.1].length))) (DLe.c (CLe.own (by simp))) (by kernel_rfl)) ?_
                refine RefR.evC (vs := [room ((u140.2.2.2.1.length + ([r206.1].length)) * 32)]) (st' := ⟨[(0, .c (.str r192.2.1)), (5, .c (.ptr 0 0 0)), (7, .c (.val (.int .i64 u140.2.2.2.2))), (12, .c (.val (.bool r206.2))), (65, .c (.own 2 (u140.2.2.2.1.length + ([r206.1].length))))], [.cells [.self 52 u140.2.1 0, .own 1 u140.2.2.1.length], E5.row u140.2.2.1, .row 45 2 (u140.2.2.2.1.length + ([r206.1].length)) fun i j => bif Nat.blt i u140.2.2.2.1.length then E45.at u140.2.2.2.1 i j else (E45.at [r206.1]) (i - u140.2.2.2.1.length) j], [], 0⟩) 3 1 4 [0, 5, 7, 12, 65] [0, 1, 4] rfl (by kernel_rfl) ?_
                refine RefR.conv (Conv.obj 2 (E45.row (u140.2.2.2.1 ++ [r206.1])) (El.row_append E45 u140.2.2.2.1 [r206.1] rfl rfl) (by kernel_rfl)) ?_
                refine RefR.conv (Conv.slot 65 (.c (.own 2 ((u140.2.2.2.1 ++ [r206.1]).length))) (DLe.c (CLe.own (by simp))) (by kernel_rfl)) ?_
                refine RefR.ev0 (st' := ⟨[(0, .c (.str r192.2.1)), (5, .c (.ptr 0 0 0)), (6, .c (.own 2 ((u140.2.2.2.1 ++ [r206.1]).length))), (7, .c (.val (.int .i64 u140.2.2.2.2))), (12, .c (.val (.bool r206.2)))], [.cells [.self 52 u140.2.1 0, .own 1 u140.2.2.1.length], E5.row u140.2.2.1, E45.row (u140.2.2.2.1 ++ [r206.1])], [], 0⟩) 4 1 5 [0, 5, 6, 7, 12] [0, 1, 2] rfl (by kernel_rfl) ?_
                refine RefR.nilC 5 (by kernel_rfl) ?_
                exact Ref.nil (t := (u140.2.1, u140.2.2.1, (u140.2.2.2.1 ++ [r206.1]), r206.2)) (by kernel_rfl)
              ·
                refine Ref.skipC (by kernel_rfl) ?_
                refine Ref.conv (Conv.keep (st' := ⟨[(0, .c (.str r192.2.1)), (5, .c (.ptr 0 0 0)), (6, .c (.own 2 u140.2.2.2.1.length)), (7, .c (.val (.int .i64 u140.2.2.2.2))), (12, .c (.val (.bool false)))], [.cells [.self 52 u140.2.1 0, .own 1 u140.2.2.1.length], E5.row u140.2.2.1, E45.row u140.2.2.2.1], [], 0⟩) [0, 5, 6, 7, 12] [0, 1, 2] (by kernel_rfl)) ?_
                exact Ref.nil (t := (u140.2.1, u140.2.2.1, u140.2.2.2.1, false)) (by kernel_rfl)
          ·
            refine Ref.seqC (cd (bd Tryd.f12) [1, 1, 1, 1, 0, 1, 0, 0, 1, 0, 0, 1, 1, 1, 1, 1, 0]) (cd (bd Tryd.f12) [1, 1, 1, 1, 0, 1, 0, 0, 1, 0, 0, 1, 1, 1, 1, 1, 1]) (by kernel_rfl) ?_
            refine Ref.regionC 20 (by kernel_rfl) ?_
            refine RefR.ev0 (st' := ⟨[(0, .c (.str r192.2.1)), (5, .c (.ptr 0 0 0)), (6, .c (.own 2 u200.2.2.1.length)), (7, .c (.val (.int .i64 u140.2.2.2.2))), (67, .c (.val (.bool (!u200.2.2.2))))], [.cells [.self 52 u200.1 0, .own 1 u200.2.1.length], E5.row u200.2.1, E45.row u200.2.2.1], [], 0⟩) 0 2 2 [0, 5, 6, 7, 67] [0, 1, 2] rfl (by kernel_rfl) ?_
            refine RefR.nilC 2 (by kernel_rfl) ?_
            refine Ref.condC (.tmp 67) (!u200.2.2.2) (by kernel_rfl) rfl (by kernel_rfl) (fun hc => ?_) (fun hc => ?_)
            ·
              refine Ref.seqC (cd (bd Tryd.f12) [1, 1, 1, 1, 0, 1, 0, 0, 1, 0, 0, 1, 1, 1, 1, 1, 1, 0, 0]) (cd (bd Tryd.f12) [1, 1, 1, 1, 0, 1, 0, 0, 1, 0, 0, 1, 1, 1, 1, 1, 1, 0, 1]) (by kernel_rfl) ?_
              refine Ref.regionC 21 (by kernel_rfl) ?_
              refine RefR.ev0 (st' := ⟨[(68, .c (.val (.int .i64 u140.2.2.2.2)))], [], [], 0⟩) 0 1 1 [68] [] rfl (by kernel_rfl) ?_
              refine RefR.callC (t := 69) 1 2 [] rfl (by kernel_rfl) (F21_ok K 23 u140.2.2.2.2) (fun r207 => ?_)
              refine RefR.ev0 (st' := ⟨[(2, .c (.str ([] : Bytes))), (3, .c (.nil)), (4, .c (errC r207))], [], [], 0⟩) 2 3 5 [2, 3, 4] [] rfl (by kernel_rfl) ?_
              refine RefR.nilC 5 (by kernel_rfl) ?_
              refine Ref.conv (Conv.slot 3 (.c (E45.tree [])) (DLe.c (El.tree_nil E45)) (by kernel_rfl)) ?_
              refine Ref.conv (Conv.keep (st' := ⟨[(2, .c (.str ([] : Bytes))), (3, .c (E45.tree [])), (4, .c (errC r207))], [], [], 0⟩) [2, 3, 4] [] (by kernel_rfl)) ?_
              exact Ref.retC (t := (Sum.inr (Sum.inr (([] : Bytes), [], r207)))) (by kernel_rfl) (by kernel_rfl)
            ·
              refine Ref.skipC (by kernel_rfl) ?_
              refine Ref.conv (Conv.keep (st' := ⟨[(0, .c (.str r192.2.1)), (5, .c (.ptr 0 0 0)), (6, .c (.own 2 u200.2.2.1.length)), (7, .c (.val (.int .i64 u140.2.2.2.2)))], [.cells [.self 52 u200.1 0, .own 1 u200.2.1.length], E5.row u200.2.1, E45.row u200.2.2.1], [], 0⟩) [0, 5, 6, 7] [0, 1, 2] (by kernel_rfl)) ?_
              exact Ref.nil (t := (r192.2.1, u200.1, u200.2.1, u200.2.2.1)) (by kernel_rfl)
        ·
          refine Ref.regionC 7 (by kernel_rfl) ?_
          refine RefR.ev0 (st' := ⟨[(0, .c (.str u191.1)), (5, .c (.ptr 0 0 0)), (6, .c (.own 2 u191.2.2.2.length)), (7, .c (.val (.int .i64 (IntKind.i64.wrap (u140.2.2.2.2 + 1)))))], [.cells [.self 52 u191.2.1 0, .own 1 u191.2.2.1.length], E5.row u191.2.2.1, E45.row u191.2.2.2], [], 0⟩) 0 3 3 [0, 5, 6, 7] [0, 1, 2] rfl (by kernel_rfl) ?_
          refine RefR.nilC 3 (by kernel_rfl) ?_
          exact Ref.nil (t := (u191.1, u191.2.1, u191.2.2.1, u191.2.2.2, (IntKind.i64.wrap (u140.2.2.2.2 + 1)))) (by kernel_rfl)
      ·
        refine Ref.conv (Conv.keep (st' := ⟨[(5, .c (.ptr 0 0 0)), (6, .c (.own 2 u140.2.2.2.1.length))], [.cells [.self 52 u140.2.1 0, .own 1 u140.2.2.1.length], E5.row u140.2.2.1, E45.row u140.2.2.2.1], [], 0⟩) [5, 6] [0, 1, 2] (by kernel_rfl)) ?_
        exact Ref.exitC 0 (t := (Sum.inl (u140.2.1, u140.2.2.1, u140.2.2.2.1))) (by kernel_rfl) (by kernel_rfl)
    ·
      refine Ref.seqC (cd (bd Tryd.f12) [1, 1, 1, 1, 1, 0]) (cd (bd Tryd.f12) [1, 1, 1, 1, 1, 1]) (by kernel_rfl) ?_
      refine Ref.regionC 22 (by kernel_rfl) ?_
      refine RefR.callC (t := 70) 0 1 [0, 1] rfl (by kernel_rfl) (F26_ok K (⟨u105.1, u105.2.1⟩ : S52)) (fun r208 => ?_)
      refine RefR.ev0 (st' := ⟨[(2, .c (.str r208)), (3, .c (.own 0 u105.2.2.length)), (4, .c (.val .nilIface))], [E45.row u105.2.2], [], 0⟩) 1 4 5 [2, 3, 4] [2] rfl (by kernel_rfl) ?_
      refine RefR.nilC 5 (by kernel_rfl) ?_
      refine Ref.conv (Conv.freeze (st' := ⟨[(2, .c (.str r208)), (3, .c (E45.tree u105.2.2)), (4, .c (.val .nilIface))], [.dead], [], 0⟩) 0 (by kernel_rfl)) ?_
      refine Ref.conv (Conv.slot 4 (.c (errC none)) (DLe.c (errC_nil)) (by kernel_rfl)) ?_
      refine Ref.conv (Conv.keep (st' := ⟨[(2, .c (.str r208)), (3, .c (E45.tree u105.2.2)), (4, .c (errC none))], [], [], 0⟩) [2, 3, 4] [] (by kernel_rfl)) ?_
      exact Ref.retC (t := (r208, u105.2.2, none)) (by kernel_rfl) (by kernel_rfl)

/-- governor/governorref25.digits -/
def F53 (K : Nat) (a0 : Bytes) : Option ((Int × Bool) ⊕ (Int × Bool)) :=
  (chk [!(!((decide (((Int.ofNat a0.length) : Int) < 1)) || (decide (((Int.ofNat a0.length) : Int) > 10)))) || inb 0 a0.length] (letV (((decide (((Int.ofNat a0.length) : Int) < 1)) || (decide (((Int.ofNat a0.length) : Int) > 10))) || ((((Int.ofNat (a0.getD (0 : Int).toNat 0).toNat) : Int) == 48) && (decide (((Int.ofNat a0.length) : Int) > 1)))) (fun (x1 : Bool) => (if x1 = true then (some (.inl (0, false))) else (bindS (blockS ((iter K (fun (u29 : Int × Int) => (letV (decide ((u29.2 : Int) < (Int.ofNat a0.length))) (fun (x37 : Bool) => (if x37 = true then (bindS (blockS (chk [inb u29.2 a0.length, !(!(decide (((Int.ofNat (a0.getD (u29.2 : Int).toNat 0).toNat) : Int) < 48))) || inb u29.2 a0.length] (letV ((decide (((Int.ofNat (a0.getD (u29.2 : Int).toNat 0).toNat) : Int) < 48)) || (decide (((Int.ofNat (a0.getD (u29.2 : Int).toNat 0).toNat) : Int) > 57))) (fun (x41 : Bool) => (if x41 = true then (some (.inl (Sum.inr (Sum.inr (0, false))))) else (chk [inb u29.2 a0.length] (letV (IntKind.i64.wrap ((IntKind.i64.wrap (u29.1 * 10)) + (IntKind.i64.wrap (IntKind.u8.wrap ((Int.ofNat (a0.getD (u29.2 : Int).toNat 0).toNat) - 48))))) (fun (x42 : Int) => (some (.inr (x42))))))))))) (fun (u40 : Int) => (some (.inr (u40, (IntKind.i64.wrap (u29.2 + 1))))))) else (some (.inl (Sum.inl (u29.1)))))))) (0, 0)).map .inl)) (fun (u22 : Int) => (if (decide ((u22 : Int) > 2147483648)) = true then (some (.inl (0, false))) else (some (.inl (u22, true))))))))))

theorem F53_ok (K : Nat) (a0 : Bytes) : DFun Tryd.prog 53 [.c (.str a0)] [] (fnS (F53 K a0)) (fun r => .tup [.c (.val (.int .i64 r.1)), .c (.val (.bool r.2))]) (fun r => []) := by
  refine DFun.intro (fn := Tryd.f53) (c := cd (bd Tryd.f53) []) (rs := fun r => ⟨[(2, .c (.val (.int .i64 r.1))), (3, .c (.val (.bool r.2)))], [], [], 0⟩) (by kernel_rfl) (by kernel_rfl) (by kernel_rfl) ?_ (fun r => by kernel_rfl) (fun r => by kernel_rfl) (fun r => by kernel_rfl) (fun r => by kernel_rfl)
  unfold F53
  refine Ref.seqC (cd (bd Tryd.f53) [0]) (cd (bd Tryd.f53) [1]) (by kernel_rfl) ?_
  refine Ref.regionC 0 (by kernel_rfl) ?_
  refine RefR.ev0 (st' := ⟨[(0, .c (.str a0))], [], [], 0⟩) 0 2 2 [0] [] rfl (by kernel_rfl) ?_
  refine RefR.nilC 2 (by kernel_rfl) ?_
  refine Ref.seqC (cd (bd Tryd.f53) [1, 0]) (cd (bd Tryd.f53) [1, 1]) (by kernel_rfl) ?_
  refine Ref.seqC (cd (bd Tryd.f53) [1, 0, 0]) (cd (bd Tryd.f53) [1, 0, 1]) (by kernel_rfl) ?_
  refine Ref.regionC 1 (by kernel_rfl) ?_
  refine RefR.evC (vs := [!(!((decide (((Int.ofNat a0.length) : Int) < 1)) || (decide (((Int.ofNat a0.length) : Int) > 10)))) || inb 0 a0.length]) (st' := ⟨[(0, .c (.str a0)), (23, .c (.val (.bool (((decide (((Int.ofNat a0.length) : Int) < 1)) || (decide (((Int.ofNat a0.length) : Int) > 10))) || ((((Int.ofNat (a0.getD (0 : Int).toNat 0).toNat) : Int) == 48) && (decide (((Int.ofNat a0.length) : Int) > 1)))))))], [], [], 0⟩) 0 18 18 [0, 23] [] rfl (by kernel_rfl) ?_
  refine RefR.letC (stf := fun x1 => ⟨[(0, .c (.str a0)), (23, .c (.val (.bool x1)))], [], [], 0⟩) (by kernel_rfl) (fun x1 => ?_)
  refine RefR.nilC 18 (by kernel_rfl) ?_
  refine Ref.condC (.tmp 23) x1 (by kernel_rfl) rfl (by kernel_rfl) (fun hc => ?_) (fun hc => ?_)
  ·
    refine Ref.seqC (cd (bd Tryd.f53) [1, 0, 1, 0, 0]) (cd (bd Tryd.f53) [1, 0, 1, 0, 1]) (by kernel_rfl) ?_
    refine Ref.regionC 2 (by kernel_rfl) ?_
    refine RefR.ev0 (st' := ⟨[(2, .c (.val (.int .i64 0))), (3, .c (.val (.bool false)))], [], [], 0⟩) 0 2 2 [2, 3] [] rfl (by kernel_rfl) ?_
    refine RefR.nilC 2 (by kernel_rfl) ?_
    exact Ref.retC (t := (0, false)) (by kernel_rfl) (by kernel_rfl)
  ·
    refine Ref.skipC (by kernel_rfl) ?_
    refine Ref.seqC (cd (bd Tryd.f53) [1, 1, 0]) (cd (bd Tryd.f53) [1, 1, 1]) (by kernel_rfl) ?_
    refine Ref.regionC 3 (by kernel_rfl) ?_
    refine RefR.ev0 (st' := ⟨[(0, .c (.str a0)), (4, .c (.val (.int .i64 0)))], [], [], 0⟩) 0 1 1 [0, 4] [] rfl (by kernel_rfl) ?_
    refine RefR.nilC 1 (by kernel_rfl) ?_
    refine Ref.seqC (cd (bd Tryd.f53) [1, 1, 1, 0]) (cd (bd Tryd.f53) [1, 1, 1, 1]) (by kernel_rfl) ?_
    refine Ref.seqC (cd (bd Tryd.f53) [1, 1, 1, 0, 0]) (cd (bd Tryd.f53) [1, 1, 1, 0, 1]) (by kernel_rfl) ?_
    refine Ref.regionC 4 (by kernel_rfl) ?_
    refine RefR.ev0 (st' := ⟨[(0, .c (.str a0)), (4, .c (.val (.int .i64 0))), (5, .c (.val (.int .i64 0)))], [], [], 0⟩) 0 1 1 [0, 4, 5] [] rfl (by kernel_rfl) ?_
    refine RefR.nilC 1 (by kernel_rfl) ?_
    refine Ref.codeEq (c' := .block 0 (cd (bd Tryd.f53) [1, 1, 1, 0, 1, 0])) (by kernel_rfl) ?_
    refine Ref.block (go1 := fun u22 => ⟨[(4, .c (.val (.int .i64 u22)))], [], [], 0⟩) ?_ (fun _ h => by cases h) (fun u22 => ?_)
    ·
      refine Ref.codeEq (c' := .loop (cd (bd Tryd.f53) [1, 1, 1, 0, 1, 0, 0])) (by kernel_rfl) ?_
      refine Ref.loop (hd := fun u29 => ⟨[(0, .c (.str a0)), (4, .c (.val (.int .i64 u29.1))), (5, .c (.val (.int .i64 u29.2)))], [], [], 0⟩) K (0, 0) (by kernel_rfl) (fun u29 => ?_)
      refine Ref.seqC (cd (bd Tryd.f53) [1, 1, 1, 0, 1, 0, 0, 0]) (cd (bd Tryd.f53) [1, 1, 1, 0, 1, 0, 0, 1]) (by kernel_rfl) ?_
      refine Ref.seqC (cd (bd Tryd.f53) [1, 1, 1, 0, 1, 0, 0, 0, 0]) (cd (bd Tryd.f53) [1, 1, 1, 0, 1, 0, 0, 0, 1]) (by kernel_rfl) ?_
      refine Ref.regionC 5 (by kernel_rfl) ?_
      refine RefR.ev0 (st' := ⟨[(0, .c (.str a0)), (4, .c (.val (.int .i64 u29.1))), (5, .c (.val (.int .i64 u29.2))), (27, .c (.val (.bool (decide ((u29.2 : Int) < (Int.ofNat a0.length))))))], [], [], 0⟩) 0 4 4 [0, 4, 5, 27] [] rfl (by kernel_rfl) ?_
      refine RefR.letC (stf := fun x37 => ⟨[(0, .c (.str a0)), (4, .c (.val (.int .i64 u29.1))), (5, .c (.val (.int .i64 u29.2))), (27, .c (.val (.bool x37)))], [], [], 0⟩) (by kernel_rfl) (fun x37 => ?_)
      refine RefR.nilC 4 (by kernel_rfl) ?_
      refine Ref.condC (.tmp 27) x37 (by kernel_rfl) rfl (by kernel_rfl) (fun hc => ?_) (fun hc => ?_)
      ·
        refine Ref.skipC (by kernel_rfl) ?_
        refine Ref.seqC (cd (bd Tryd.f53) [1, 1, 1, 0, 1, 0, 0, 1, 0]) (cd (bd Tryd.f53) [1, 1, 1, 0, 1, 0, 0, 1, 1]) (by kernel_rfl) ?_
        refine Ref.codeEq (c' := .block 1 (cd (bd Tryd.f53) [1, 1, 1, 0, 1, 0, 0, 1, 0, 0])) (by kernel_rfl) ?_
        refine Ref.block (go1 := fun u40 => ⟨[(0, .c (.str a0)), (4, .c (.val (.int .i64 u40))), (5, .c (.val (.int .i64 u29.2)))], [], [], 0⟩) ?_ (fun a => match a with | .inl _ => (fun h => by cases h) | .inr _ => (fun h => by cases h)) (fun u40 => ?_)
        ·
          refine Ref.seqC (cd (bd Tryd.f53) [1, 1, 1, 0, 1, 0, 0, 1, 0, 0, 0]) (cd (bd Tryd.f53) [1, 1, 1, 0, 1, 0, 0, 1, 0, 0, 1]) (by kernel_rfl) ?_
          refine Ref.seqC (cd (bd Tryd.f53) [1, 1, 1, 0, 1, 0, 0, 1, 0, 0, 0, 0]) (cd (bd Tryd.f53) [1, 1, 1, 0, 1, 0, 0, 1, 0, 0, 0, 1]) (by kernel_rfl) ?_
          refine Ref.regionC 7 (by kernel_rfl) ?_
          refine RefR.evC (vs := [inb u29.2 a0.length, !(!(decide (((Int.ofNat (a0.getD (u29.2 : Int).toNat 0).toNat) : Int) < 48))) || inb u29.2 a0.length]) (st' := ⟨[(0, .c (.str a0)), (4, .c (.val (.int .i64 u29.1))), (5, .c (.val (.int .i64 u29.2))), (39, .c (.val (.bool ((decide (((Int.ofNat (a0.getD (u29.2 : Int).toNat 0).toNat) : Int) < 48)) || (decide (((Int.ofNat (a0.getD (u29.2 : Int).toNat 0).toNat) : Int) > 57))))))], [], [], 0⟩) 0 10 10 [0, 4, 5, 39] [] rfl (by kernel_rfl) ?_
          refine RefR.letC (stf := fun x41 => ⟨[(0, .c (.str a0)), (4, .c (.val (.int .i64 u29.1))), (5, .c (.val (.int .i64 u29.2))), (39, .c (.val (.bool x41)))], [], [], 0⟩) (by kernel_rfl) (fun x41 => ?_)
          refine RefR.nilC 10 (by kernel_rfl) ?_
          refine Ref.condC (.tmp 39) x41 (by kernel_rfl) rfl (by kernel_rfl) (fun hc => ?_) (fun hc => ?_)
          ·
            refine Ref.seqC (cd (bd Tryd.f53) [1, 1, 1, 0, 1, 0, 0, 1, 0, 0, 0, 1, 0, 0]) (cd (bd Tryd.f53) [1, 1, 1, 0, 1, 0, 0, 1, 0, 0, 0, 1, 0, 1]) (by kernel_rfl) ?_
            refine Ref.regionC 8 (by kernel_rfl) ?_
            refine RefR.ev0 (st' := ⟨[(2, .c (.val (.int .i64 0))), (3, .c (.val (.bool false)))], [], [], 0⟩) 0 2 2 [2, 3] [] rfl (by kernel_rfl) ?_
            refine RefR.nilC 2 (by kernel_rfl) ?_
            exact Ref.retC (t := (Sum.inr (Sum.inr (0, false)))) (by kernel_rfl) (by kernel_rfl)
          ·
            refine Ref.skipC (by kernel_rfl) ?_
            refine Ref.regionC 9 (by kernel_rfl) ?_
            refine RefR.evC (vs := [inb u29.2 a0.length]) (st' := ⟨[(0, .c (.str a0)), (4, .c (.val (.int .i64 (IntKind.i64.wrap ((IntKind.i64.wrap (u29.1 * 10)) + (IntKind.i64.wrap (IntKind.u8.wrap ((Int.ofNat (a0.getD (u29.2 : Int).toNat 0).toNat) - 48)))))))), (5, .c (.val (.int .i64 u29.2)))], [], [], 0⟩) 0 9 9 [0, 4, 5] [] rfl (by kernel_rfl) ?_
            refine RefR.letC (stf := fun x42 => ⟨[(0, .c (.str a0)), (4, .c (.val (.int .i64 x42))), (5, .c (.val (.int .i64 u29.2)))], [], [], 0⟩) (by kernel_rfl) (fun x42 => ?_)
            refine RefR.nilC 9 (by kernel_rfl) ?_
            exact Ref.nil (t := (x42)) (by kernel_rfl)
        ·
          refine Ref.regionC 6 (by kernel_rfl) ?_
          refine RefR.ev0 (st' := ⟨[(0, .c (.str a0)), (4, .c (.val (.int .i64 u40))), (5, .c (.val (.int .i64 (IntKind.i64.wrap (u29.2 + 1)))))], [], [], 0⟩) 0 3 3 [0, 4, 5] [] rfl (by kernel_rfl) ?_
          refine RefR.nilC 3 (by kernel_rfl) ?_
          exact Ref.nil (t := (u40, (IntKind.i64.wrap (u29.2 + 1)))) (by kernel_rfl)
      ·
        refine Ref.conv (Conv.keep (st' := ⟨[(4, .c (.val (.int .i64 u29.1)))], [], [], 0⟩) [4] [] (by kernel_rfl)) ?_
        exact Ref.exitC 0 (t := (Sum.inl (u29.1))) (by kernel_rfl) (by kernel_rfl)
    ·
      refine Ref.seqC (cd (bd Tryd.f53) [1, 1, 1, 1, 0]) (cd (bd Tryd.f53) [1, 1, 1, 1, 1]) (by kernel_rfl) ?_
      refine Ref.seqC (cd (bd Tryd.f53) [1, 1, 1, 1, 0, 0]) (cd (bd Tryd.f53) [1, 1, 1, 1, 0, 1]) (by kernel_rfl) ?_
      refine Ref.regionC 10 (by kernel_rfl) ?_
      refine RefR.ev0 (st' := ⟨[(4, .c (.val (.int .i64 u22))), (49, .c (.val (.bool (decide ((u22 : Int) > 2147483648)))))], [], [], 0⟩) 0 2 2 [4, 49] [] rfl (by kernel_rfl) ?_
      refine RefR.nilC 2 (by kernel_rfl) ?_
      refine Ref.condC (.tmp 49) (decide ((u22 : Int) > 2147483648)) (by kernel_rfl) rfl (by kernel_rfl) (fun hc => ?_) (fun hc => ?_)
      ·
        refine Ref.seqC (cd (bd Tryd.f53) [1, 1, 1, 1, 0, 1, 0, 0]) (cd (bd Tryd.f53) [1, 1, 1, 1, 0, 1, 0, 1]) (by kernel_rfl) ?_
        refine Ref.regionC 11 (by kernel_rfl) ?_
        refine RefR.ev0 (st' := ⟨[(2, .c (.val (.int .i64 0))), (3, .c (.val (.bool false)))], [], [], 0⟩) 0 2 2 [2, 3] [] rfl (by kernel_rfl) ?_
        refine RefR.nilC 2 (by kernel_rfl) ?_
        exact Ref.retC (t := (0, false)) (by kernel_rfl) (by kernel_rfl)
      ·
        refine Ref.skipC (by kernel_rfl) ?_
        refine Ref.seqC (cd (bd Tryd.f53) [1, 1, 1, 1, 1, 0]) (cd (bd Tryd.f53) [1, 1, 1, 1, 1, 1]) (by kernel_rfl) ?_
        refine Ref.regionC 12 (by kernel_rfl) ?_
        refine RefR.ev0 (st' := ⟨[(2, .c (.val (.int .i64 u22))), (3, .c (.val (.bool true)))], [], [], 0⟩) 0 3 3 [2, 3] [] rfl (by kernel_rfl) ?_
        refine RefR.nilC 3 (by kernel_rfl) ?_
        exact Ref.retC (t := (u22, true)) (by kernel_rfl) (by kernel_rfl)

/-- governor/governorref25.Number -/
def F40 (K : Nat) (a0 : Bytes) : Option ((Int × Bool) ⊕ (Int × Bool)) :=
  (chk [!(decide (((Int.ofNat a0.length) : Int) > 1)) || inb 0 a0.length] (letV ((decide (((Int.ofNat a0.length) : Int) > 1)) && (((Int.ofNat (a0.getD (0 : Int).toNat 0).toNat) : Int) == 45)) (fun (x1 : Bool) => (if x1 = true then (chk [bndOk a0.length 1 (Int.ofNat a0.length)] (letV ((a0.drop (1 : Int).toNat).take (((Int.ofNat a0.length) : Int).toNat - (1 : Int).toNat)) (fun (x2 : Bytes) => ((fnS (F53 K x2)).bind (fun r3 => (if ((r3.1 : Int) == 0) = true then (some (.inl (0, false))) else (some (.inl ((IntKind.i64.wrap (0 - r3.1)), r3.2))))))))) else ((fnS (F53 K a0)).bind (fun r4 => (some (.inl (r4.1, r4.2)))))))))

theorem F40_ok (K : Nat) (a0 : Bytes) : DFun Tryd.prog 40 [.c (.str a0)] [] (fnS (F40 K a0)) (fun r => .tup [.c (.val (.int .i64 r.1)), .c (.val (.bool r.2))]) (fun r => []) := by
  refine DFun.intro (fn := Tryd.f40) (c := cd (bd Tryd.f40) []) (rs := fun r => ⟨[(2, .c (.val (.int .i64 r.1))), (3, .c (.val (.bool r.2)))], [], [], 0⟩) (by kernel_rfl) (by kernel_rfl) (by kernel_rfl) ?_ (fun r => by kernel_rfl) (fun r => by kernel_rfl) (fun r => by kernel_rfl) (fun r => by kernel_rfl)
  unfold F40
  refine Ref.seqC (cd (bd Tryd.f40) [0]) (cd (bd Tryd.f40) [1]) (by kernel_rfl) ?_
  refine Ref.regionC 0 (by kernel_rfl) ?_
  refine RefR.ev0 (st' := ⟨[(0, .c (.str a0))], [], [], 0⟩) 0 2 2 [0] [] rfl (by kernel_rfl) ?_
  refine RefR.nilC 2 (by kernel_rfl) ?_
  refine Ref.seqC (cd (bd Tryd.f40) [1, 0]) (cd (bd Tryd.f40) [1, 1]) (by kernel_rfl) ?_
  refine Ref.seqC (cd (bd Tryd.f40) [1, 0, 0]) (cd (bd Tryd.f40) [1, 0, 1]) (by kernel_rfl) ?_
  refine Ref.regionC 1 (by kernel_rfl) ?_
  refine RefR.evC (vs := [!(decide (((Int.ofNat a0.length) : Int) > 1)) || inb 0 a0.length]) (st' := ⟨[(0, .c (.str a0)), (13, .c (.val (.bool ((decide (((Int.ofNat a0.length) : Int) > 1)) && (((Int.ofNat (a0.getD (0 : Int).toNat 0).toNat) : Int) == 45)))))], [], [], 0⟩) 0 8 8 [0, 13] [] rfl (by kernel_rfl) ?_
  refine RefR.letC (stf := fun x1 => ⟨[(0, .c (.str a0)), (13, .c (.val (.bool x1)))], [], [], 0⟩) (by kernel_rfl) (fun x1 => ?_)
  refine RefR.nilC 8 (by kernel_rfl) ?_
  refine Ref.condC (.tmp 13) x1 (by kernel_rfl) rfl (by kernel_rfl) (fun hc => ?_) (fun hc => ?_)
  ·
    refine Ref.seqC (cd (bd Tryd.f40) [1, 0, 1, 0, 0]) (cd (bd Tryd.f40) [1, 0, 1, 0, 1]) (by kernel_rfl) ?_
    refine Ref.regionC 2 (by kernel_rfl) ?_
    refine RefR.evC (vs := [bndOk a0.length 1 (Int.ofNat a0.length)]) (st' := ⟨[(16, .c (.str ((a0.drop (1 : Int).toNat).take (((Int.ofNat a0.length) : Int).toNat - (1 : Int).toNat))))], [], [], 0⟩) 0 2 2 [16] [] rfl (by kernel_rfl) ?_
    refine RefR.letC (stf := fun x2 => ⟨[(16, .c (.str x2))], [], [], 0⟩) (by kernel_rfl) (fun x2 => ?_)
    refine RefR.callC (t := 17) 2 3 [] rfl (by kernel_rfl) (F53_ok K x2) (fun r3 => ?_)
    refine RefR.ev0 (st' := ⟨[(4, .c (.val (.int .i64 r3.1))), (5, .c (.val (.bool r3.2)))], [], [], 0⟩) 3 5 8 [4, 5] [] rfl (by kernel_rfl) ?_
    refine RefR.nilC 8 (by kernel_rfl) ?_
    refine Ref.seqC (cd (bd Tryd.f40) [1, 0, 1, 0, 1, 0]) (cd (bd Tryd.f40) [1, 0, 1, 0, 1, 1]) (by kernel_rfl) ?_
    refine Ref.seqC (cd (bd Tryd.f40) [1, 0, 1, 0, 1, 0, 0]) (cd (bd Tryd.f40) [1, 0, 1, 0, 1, 0, 1]) (by kernel_rfl) ?_
    refine Ref.regionC 3 (by kernel_rfl) ?_
    refine RefR.ev0 (st' := ⟨[(4, .c (.val (.int .i64 r3.1))), (5, .c (.val (.bool r3.2))), (21, .c (.val (.bool ((r3.1 : Int) == 0))))], [], [], 0⟩) 0 2 2 [4, 5, 21] [] rfl (by kernel_rfl) ?_
    refine RefR.nilC 2 (by kernel_rfl) ?_
    refine Ref.condC (.tmp 21) ((r3.1 : Int) == 0) (by kernel_rfl) rfl (by kernel_rfl) (fun hc => ?_) (fun hc => ?_)
    ·
      refine Ref.seqC (cd (bd Tryd.f40) [1, 0, 1, 0, 1, 0, 1, 0, 0]) (cd (bd Tryd.f40) [1, 0, 1, 0, 1, 0, 1, 0, 1]) (by kernel_rfl) ?_
      refine Ref.regionC 4 (by kernel_rfl) ?_
      refine RefR.ev0 (st' := ⟨[(2, .c (.val (.int .i64 0))), (3, .c (.val (.bool false)))], [], [], 0⟩) 0 2 2 [2, 3] [] rfl (by kernel_rfl) ?_
      refine RefR.nilC 2 (by kernel_rfl) ?_
      exact Ref.retC (t := (0, false)) (by kernel_rfl) (by kernel_rfl)
    ·
      refine Ref.skipC (by kernel_rfl) ?_
      refine Ref.seqC (cd (bd Tryd.f40) [1, 0, 1, 0, 1, 1, 0]) (cd (bd Tryd.f40) [1, 0, 1, 0, 1, 1, 1]) (by kernel_rfl) ?_
      refine Ref.regionC 5 (by kernel_rfl) ?_
      refine RefR.ev0 (st' := ⟨[(2, .c (.val (.int .i64 (IntKind.i64.wrap (0 - r3.1))))), (3, .c (.val (.bool r3.2)))], [], [], 0⟩) 0 5 5 [2, 3] [] rfl (by kernel_rfl) ?_
      refine RefR.nilC 5 (by kernel_rfl) ?_
      exact Ref.retC (t := ((IntKind.i64.wrap (0 - r3.1)), r3.2)) (by kernel_rfl) (by kernel_rfl)
  ·
    refine Ref.skipC (by kernel_rfl) ?_
    refine Ref.seqC (cd (bd Tryd.f40) [1, 1, 0]) (cd (bd Tryd.f40) [1, 1, 1]) (by kernel_rfl) ?_
    refine Ref.regionC 6 (by kernel_rfl) ?_
    refine RefR.ev0 (st' := ⟨[(25, .c (.str a0))], [], [], 0⟩) 0 1 1 [25] [] rfl (by kernel_rfl) ?_
    refine RefR.callC (t := 26) 1 2 [] rfl (by kernel_rfl) (F53_ok K a0) (fun r4 => ?_)
    refine RefR.ev0 (st' := ⟨[(2, .c (.val (.int .i64 r4.1))), (3, .c (.val (.bool r4.2)))], [], [], 0⟩) 2 4 6 [2, 3] [] rfl (by kernel_rfl) ?_
    refine RefR.nilC 6 (by kernel_rfl) ?_
    exact Ref.retC (t := (r4.1, r4.2)) (by kernel_rfl) (by kernel_rfl)

/-- governor/governorref25.Split -/
def F39 (K : Nat) (a0 : Bytes) (a1 : UInt8) : Option (((List Bytes)) ⊕ ((List Bytes))) :=
  (bindS (blockS ((iter K (fun (u28 : (List Bytes) × Int × Int) => (letV (decide ((u28.2.2 : Int) ≤ (Int.ofNat a0.length))) (fun (x36 : Bool) => (if x36 = true then (bindS (blockS (chk [!(!((u28.2.2 : Int) == (Int.ofNat a0.length))) || inb u28.2.2 a0.length] (letV (((u28.2.2 : Int) == (Int.ofNat a0.length)) || (((Int.ofNat (a0.getD (u28.2.2 : Int).toNat 0).toNat) : Int) == (Int.ofNat a1.toNat))) (fun (x40 : Bool) => (if x40 = true then (chk [bndOk a0.length u28.2.1 u28.2.2] (letV ((a0.drop (u28.2.1 : Int).toNat).take ((u28.2.2 : Int).toNat - (u28.2.1 : Int).toNat)) (fun (x41 : Bytes) => (chk [room ((u28.1.length + ([x41].length)) * 16)] (some (.inr ((u28.1 ++ [x41]), (IntKind.i64.wrap (u28.2.2 + 1))))))))) else (some (.inr (u28.1, u28.2.1)))))))) (fun (u39 : (List Bytes) × Int) => (some (.inr (u39.1, u39.2, (IntKind.i64.wrap (u28.2.2 + 1))))))) else (some (.inl (Sum.inl (u28.1)))))))) ([], 0, 0)).map .inl)) (fun (u21 : (List Bytes)) => (some (.inl (u21)))))

theorem F39_ok (K : Nat) (a0 : Bytes) (a1 : UInt8) : DFun Tryd.prog 39 [.c (.str a0), .c (.val (.int .u8 (Int.ofNat a1.toNat)))] [] (fnS (F39 K a0 a1)) (fun r => .c (E9.tree r)) (fun r => []) := by
  refine DFun.intro (fn := Tryd.f39) (c := cd (bd Tryd.f39) []) (rs := fun r => ⟨[(4, .c (E9.tree r))], [], [], 0⟩) (by kernel_rfl) (by kernel_rfl) (by kernel_rfl) ?_ (fun r => by kernel_rfl) (fun r => by kernel_rfl) (fun r => by kernel_rfl) (fun r => by kernel_rfl)
  unfold F39
  refine Ref.seqC (cd (bd Tryd.f39) [0]) (cd (bd Tryd.f39) [1]) (by kernel_rfl) ?_
  refine Ref.regionC 0 (by kernel_rfl) ?_
  refine RefR.ev0 (st' := ⟨[(0, .c (.str a0)), (1, .c (.val (.int .u8 (Int.ofNat a1.toNat))))], [], [], 0⟩) 0 1 1 [0, 1] [] rfl (by kernel_rfl) ?_
  refine RefR.nilC 1 (by kernel_rfl) ?_
  refine Ref.seqC (cd (bd Tryd.f39) [1, 0]) (cd (bd Tryd.f39) [1, 1]) (by kernel_rfl) ?_
  refine Ref.regionC 1 (by kernel_rfl) ?_
  refine RefR.ev0 (st' := ⟨[(0, .c (.str a0)), (1, .c (.val (.int .u8 (Int.ofNat a1.toNat)))), (5, .c (.nil))], [], [], 0⟩) 0 1 1 [0, 1, 5] [] rfl (by kernel_rfl) ?_
  refine RefR.nilC 1 (by kernel_rfl) ?_
  refine Ref.seqC (cd (bd Tryd.f39) [1, 1, 0]) (cd (bd Tryd.f39) [1, 1, 1]) (by kernel_rfl) ?_
  refine Ref.regionC 2 (by kernel_rfl) ?_
  refine RefR.ev0 (st' := ⟨[(0, .c (.str a0)), (1, .c (.val (.int .u8 (Int.ofNat a1.toNat)))), (5, .c (.nil)), (6, .c (.val (.int .i64 0)))], [], [], 0⟩) 0 1 1 [0, 1, 5, 6] [] rfl (by kernel_rfl) ?_
  refine RefR.nilC 1 (by kernel_rfl) ?_
  refine Ref.seqC (cd (bd Tryd.f39) [1, 1, 1, 0]) (cd (bd Tryd.f39) [1, 1, 1, 1]) (by kernel_rfl) ?_
  refine Ref.seqC (cd (bd Tryd.f39) [1, 1, 1, 0, 0]) (cd (bd Tryd.f39) [1, 1, 1, 0, 1]) (by kernel_rfl) ?_
  refine Ref.regionC 3 (by kernel_rfl) ?_
  refine RefR.ev0 (st' := ⟨[(0, .c (.str a0)), (1, .c (.val (.int .u8 (Int.ofNat a1.toNat)))), (5, .c (.nil)), (6, .c (.val (.int .i64 0))), (7, .c (.val (.int .i64 0)))], [], [], 0⟩) 0 1 1 [0, 1, 5, 6, 7] [] rfl (by kernel_rfl) ?_
  refine RefR.nilC 1 (by kernel_rfl) ?_
  refine Ref.codeEq (c' := .block 0 (cd (bd Tryd.f39) [1, 1, 1, 0, 1, 0])) (by kernel_rfl) ?_
  refine Ref.block (go1 := fun u21 => ⟨[(5, .c (.own 0 u21.length))], [E9.row u21], [], 0⟩) ?_ (fun _ h => by cases h) (fun u21 => ?_)
  ·
    refine Ref.codeEq (c' := .loop (cd (bd Tryd.f39) [1, 1, 1, 0, 1, 0, 0])) (by kernel_rfl) ?_
    refine Ref.conv (Conv.adopt 5 E9.ty E9.w (E9.at []) (by kernel_rfl) (by kernel_rfl) (by kernel_rfl)) ?_
    refine Ref.conv (Conv.keep (st' := ⟨[(0, .c (.str a0)), (1, .c (.val (.int .u8 (Int.ofNat a1.toNat)))), (5, .c (.own 0 0)), (6, .c (.val (.int .i64 0))), (7, .c (.val (.int .i64 0)))], [E9.row []], [], 0⟩) [0, 1, 5, 6, 7] [0] (by kernel_rfl)) ?_
    refine Ref.loop (hd := fun u28 => ⟨[(0, .c (.str a0)), (1, .c (.val (.int .u8 (Int.ofNat a1.toNat)))), (5, .c (.own 0 u28.1.length)), (6, .c (.val (.int .i64 u28.2.1))), (7, .c (.val (.int .i64 u28.2.2)))], [E9.row u28.1], [], 0⟩) K ([], 0, 0) (by kernel_rfl) (fun u28 => ?_)
    refine Ref.seqC (cd (bd Tryd.f39) [1, 1, 1, 0, 1, 0, 0, 0]) (cd (bd Tryd.f39) [1, 1, 1, 0, 1, 0, 0, 1]) (by kernel_rfl) ?_
    refine Ref.seqC (cd (bd Tryd.f39) [1, 1, 1, 0, 1, 0, 0, 0, 0]) (cd (bd Tryd.f39) [1, 1, 1, 0, 1, 0, 0, 0, 1]) (by kernel_rfl) ?_
    refine Ref.regionC 4 (by kernel_rfl) ?_
    refine RefR.ev0 (st' := ⟨[(0, .c (.str a0)), (1, .c (.val (.int .u8 (Int.ofNat a1.toNat)))), (5, .c (.own 0 u28.1.length)), (6, .c (.val (.int .i64 u28.2.1))), (7, .c (.val (.int .i64 u28.2.2))), (11, .c (.val (.bool (decide ((u28.2.2 : Int) ≤ (Int.ofNat a0.length))))))], [E9.row u28.1], [], 0⟩) 0 4 4 [0, 1, 5, 6, 7, 11] [0] rfl (by kernel_rfl) ?_
    refine RefR.letC (stf := fun x36 => ⟨[(0, .c (.str a0)), (1, .c (.val (.int .u8 (Int.ofNat a1.toNat)))), (5, .c (.own 0 u28.1.length)), (6, .c (.val (.int .i64 u28.2.1))), (7, .c (.val (.int .i64 u28.2.2))), (11, .c (.val (.bool x36)))], [E9.row u28.1], [], 0⟩) (by kernel_rfl) (fun x36 => ?_)
    refine RefR.nilC 4 (by kernel_rfl) ?_
    refine Ref.condC (.tmp 11) x36 (by kernel_rfl) rfl (by kernel_rfl) (fun hc => ?_) (fun hc => ?_)
    ·
      refine Ref.skipC (by kernel_rfl) ?_
      refine Ref.seqC (cd (bd Tryd.f39) [1, 1, 1, 0, 1, 0, 0, 1, 0]) (cd (bd Tryd.f39) [1, 1, 1, 0, 1, 0, 0, 1, 1]) (by kernel_rfl) ?_
      refine Ref.codeEq (c' := .block 1 (cd (bd Tryd.f39) [1, 1, 1, 0, 1, 0, 0, 1, 0, 0])) (by kernel_rfl) ?_
      refine Ref.block (go1 := fun u39 => ⟨[(0, .c (.str a0)), (1, .c (.val (.int .u8 (Int.ofNat a1.toNat)))), (5, .c (.own 0 u39.1.length)), (6, .c (.val (.int .i64 u39.2))), (7, .c (.val (.int .i64 u28.2.2)))], [E9.row u39.1], [], 0⟩) ?_ (fun a => match a with | .inl _ => (fun h => by cases h) | .inr _ => (fun h => by cases h)) (fun u39 => ?_)
      ·
        refine Ref.seqC (cd (bd Tryd.f39) [1, 1, 1, 0, 1, 0, 0, 1, 0, 0, 0]) (cd (bd Tryd.f39) [1, 1, 1, 0, 1, 0, 0, 1, 0, 0, 1]) (by kernel_rfl) ?_
        refine Ref.regionC 6 (by kernel_rfl) ?_
        refine RefR.evC (vs := [!(!((u28.2.2 : Int) == (Int.ofNat a0.length))) || inb u28.2.2 a0.length]) (st' := ⟨[(0, .c (.str a0)), (1, .c (.val (.int .u8 (Int.ofNat a1.toNat)))), (5, .c (.own 0 u28.1.length)), (6, .c (.val (.int .i64 u28.2.1))), (7, .c (.val (.int .i64 u28.2.2))), (24, .c (.val (.bool (((u28.2.2 : Int) == (Int.ofNat a0.length)) || (((Int.ofNat (a0.getD (u28.2.2 : Int).toNat 0).toNat) : Int) == (Int.ofNat a1.toNat))))))], [E9.row u28.1], [], 0⟩) 0 11 11 [0, 1, 5, 6, 7, 24] [0] rfl (by kernel_rfl) ?_
        refine RefR.letC (stf := fun x40 => ⟨[(0, .c (.str a0)), (1, .c (.val (.int .u8 (Int.ofNat a1.toNat)))), (5, .c (.own 0 u28.1.length)), (6, .c (.val (.int .i64 u28.2.1))), (7, .c (.val (.int .i64 u28.2.2))), (24, .c (.val (.bool x40)))], [E9.row u28.1], [], 0⟩) (by kernel_rfl) (fun x40 => ?_)
        refine RefR.nilC 11 (by kernel_rfl) ?_
        refine Ref.condC (.tmp 24) x40 (by kernel_rfl) rfl (by kernel_rfl) (fun hc => ?_) (fun hc => ?_)
        ·
          refine Ref.seqC (cd (bd Tryd.f39) [1, 1, 1, 0, 1, 0, 0, 1, 0, 0, 1, 0, 0]) (cd (bd Tryd.f39) [1, 1, 1, 0, 1, 0, 0, 1, 0, 0, 1, 0, 1]) (by kernel_rfl) ?_
          refine Ref.regionC 7 (by kernel_rfl) ?_
          refine RefR.evC (vs := [bndOk a0.length u28.2.1 u28.2.2]) (st' := ⟨[(0, .c (.str a0)), (1, .c (.val (.int .u8 (Int.ofNat a1.toNat)))), (7, .c (.val (.int .i64 u28.2.2))), (25, .c (.own 0 u28.1.length)), (29, .c (.str ((a0.drop (u28.2.1 : Int).toNat).take ((u28.2.2 : Int).toNat - (u28.2.1 : Int).toNat))))], [E9.row u28.1], [], 0⟩) 0 5 5 [0, 1, 7, 25, 29] [0] rfl (by kernel_rfl) ?_
          refine RefR.letC (stf := fun x41 => ⟨[(0, .c (.str a0)), (1, .c (.val (.int .u8 (Int.ofNat a1.toNat)))), (7, .c (.val (.int .i64 u28.2.2))), (25, .c (.own 0 u28.1.length)), (29, .c (.str x41))], [E9.row u28.1], [], 0⟩) (by kernel_rfl) (fun x41 => ?_)
          refine RefR.ev0 (st' := ⟨[(0, .c (.str a0)), (1, .c (.val (.int .u8 (Int.ofNat a1.toNat)))), (7, .c (.val (.int .i64 u28.2.2))), (25, .c (.own 0 u28.1.length)), (30, .c (.own 1 1))], [E9.row u28.1, .row 9 1 1 (tbl [[.str x41]])], [], 0⟩) 5 1 6 [0, 1, 7, 25, 30] [0, 1] rfl (by kernel_rfl) ?_
          refine RefR.conv (Conv.obj 1 (E9.row [x41]) (El.row_build E9 [x41] rfl (by kernel_rfl)) (by kernel_rfl)) ?_
          refine RefR.conv (Conv.slot 30 (.c (.own 1 ([x41].length))) (DLe.c (CLe.own (by simp))) (by kernel_rfl)) ?_
          refine RefR.evC (vs := [room ((u28.1.length + ([x41].length)) * 16)]) (st' := ⟨[(0, .c (.str a0)), (1, .c (.val (.int .u8 (Int.ofNat a1.toNat)))), (7, .c (.val (.int .i64 u28.2.2))), (31, .c (.own 0 (u28.1.length + ([x41].length))))], [.row 9 1 (u28.1.length + ([x41].length)) fun i j => bif Nat.blt i u28.1.length then E9.at u28.1 i j else (E9.at [x41]) (i - u28.1.length) j], [], 0⟩) 6 1 7 [0, 1, 7, 31] [2] rfl (by kernel_rfl) ?_
          refine RefR.conv (Conv.obj 0 (E9.row (u28.1 ++ [x41])) (El.row_append E9 u28.1 [x41] rfl rfl) (by kernel_rfl)) ?_
          refine RefR.conv (Conv.slot 31 (.c (.own 0 ((u28.1 ++ [x41]).length))) (DLe.c (CLe.own (by simp))) (by kernel_rfl)) ?_
          refine RefR.ev0 (st' := ⟨[(0, .c (.str a0)), (1, .c (.val (.int .u8 (Int.ofNat a1.toNat)))), (5, .c (.own 0 ((u28.1 ++ [x41]).length))), (7, .c (.val (.int .i64 u28.2.2)))], [E9.row (u28.1 ++ [x41])], [], 0⟩) 7 1 8 [0, 1, 5, 7] [0] rfl (by kernel_rfl) ?_
          refine RefR.nilC 8 (by kernel_rfl) ?_
          refine Ref.regionC 8 (by kernel_rfl) ?_
          refine RefR.ev0 (st' := ⟨[(0, .c (.str a0)), (1, .c (.val (.int .u8 (Int.ofNat a1.toNat)))), (5, .c (.own 0 ((u28.1 ++ [x41]).length))), (6, .c (.val (.int .i64 (IntKind.i64.wrap (u28.2.2 + 1))))), (7, .c (.val (.int .i64 u28.2.2)))], [E9.row (u28.1 ++ [x41])], [], 0⟩) 0 3 3 [0, 1, 5, 6, 7] [0] rfl (by kernel_rfl) ?_
          refine RefR.nilC 3 (by kernel_rfl) ?_
          exact Ref.nil (t := ((u28.1 ++ [x41]), (IntKind.i64.wrap (u28.2.2 + 1)))) (by kernel_rfl)
        ·
          refine Ref.skipC (by kernel_rfl) ?_
          refine Ref.conv (Conv.keep (st' := ⟨[(0, .c (.str a0)), (1, .c (.val (.int .u8 (Int.ofNat a1.toNat)))), (5, .c (.own 0 u28.1.length)), (6, .c (.val (.int .i64 u28.2.1))), (7, .c (.val (.int .i64 u28.2.2)))], [E9.row u28.1], [], 0⟩) [0, 1, 5, 6, 7] [0] (by kernel_rfl)) ?_
          exact Ref.nil (t := (u28.1, u28.2.1)) (by kernel_rfl)
      ·
        refine Ref.regionC 5 (by kernel_rfl) ?_
        refine RefR.ev0 (st' := ⟨[(0, .c (.str a0)), (1, .c (.val (.int .u8 (Int.ofNat a1.toNat)))), (5, .c (.own 0 u39.1.length)), (6, .c (.val (.int .i64 u39.2))), (7, .c (.val (.int .i64 (IntKind.i64.wrap (u28.2.2 + 1)))))], [E9.row u39.1], [], 0⟩) 0 3 3 [0, 1, 5, 6, 7] [0] rfl (by kernel_rfl) ?_
        refine RefR.nilC 3 (by kernel_rfl) ?_
        exact Ref.nil (t := (u39.1, u39.2, (IntKind.i64.wrap (u28.2.2 + 1)))) (by kernel_rfl)
    ·
      refine Ref.conv (Conv.keep (st' := ⟨[(5, .c (.own 0 u28.1.length))], [E9.row u28.1], [], 0⟩) [5] [0] (by kernel_rfl)) ?_
      exact Ref.exitC 0 (t := (Sum.inl (u28.1))) (by kernel_rfl) (by kernel_rfl)
  ·
    refine Ref.seqC (cd (bd Tryd.f39) [1, 1, 1, 1, 0]) (cd (bd Tryd.f39) [1, 1, 1, 1, 1]) (by kernel_rfl) ?_
    refine Ref.regionC 9 (by kernel_rfl) ?_
    refine RefR.ev0 (st' := ⟨[(4, .c (.own 0 u21.length))], [E9.row u21], [], 0⟩) 0 2 2 [4] [0] rfl (by kernel_rfl) ?_
    refine RefR.nilC 2 (by kernel_rfl) ?_
    refine Ref.conv (Conv.freeze (st' := ⟨[(4, .c (E9.tree u21))], [.dead], [], 0⟩) 0 (by kernel_rfl)) ?_
    refine Ref.conv (Conv.keep (st' := ⟨[(4, .c (E9.tree u21))], [], [], 0⟩) [4] [] (by kernel_rfl)) ?_
    exact Ref.retC (t := (u21)) (by kernel_rfl) (by kernel_rfl)

/-- governor/governorref25.Lines -/
def F28 (K : Nat) (a0 : Bytes) : Option (((List Bytes)) ⊕ ((List Bytes))) :=
  ((fnS (F39 K a0 (b8 10))).bind (fun r1 => (chk [inb (IntKind.i64.wrap ((Int.ofNat r1.length) - 1)) r1.length] (letV ((r1.getD ((IntKind.i64.wrap ((Int.ofNat r1.length) - 1)) : Int).toNat default) == ([] : Bytes)) (fun (x2 : Bool) => (bindS (if x2 = true then (chk [bndOk r1.length 0 (IntKind.i64.wrap ((Int.ofNat r1.length) - 1))] (letV ((r1.drop (0 : Int).toNat).take (((IntKind.i64.wrap ((Int.ofNat r1.length) - 1)) : Int).toNat - (0 : Int).toNat)) (fun (x5 : (List Bytes)) => (some (.inr (x5)))))) else (some (.inr (r1)))) (fun (u4 : (List Bytes)) => (some (.inl (u4))))))))))

theorem F28_ok (K : Nat) (a0 : Bytes) : DFun Tryd.prog 28 [.c (.str a0)] [] (fnS (F28 K a0)) (fun r => .c (E9.tree r)) (fun r => []) := by
  refine DFun.intro (fn := Tryd.f28) (c := cd (bd Tryd.f28) []) (rs := fun r => ⟨[(2, .c (E9.tree r))], [], [], 0⟩) (by kernel_rfl) (by kernel_rfl) (by kernel_rfl) ?_ (fun r => by kernel_rfl) (fun r => by kernel_rfl) (fun r => by kernel_rfl) (fun r => by kernel_rfl)
  unfold F28
  refine Ref.seqC (cd (bd Tryd.f28) [0]) (cd (bd Tryd.f28) [1]) (by kernel_rfl) ?_
  refine Ref.regionC 0 (by kernel_rfl) ?_
  refine RefR.ev0 (st' := ⟨[(0, .c (.str a0))], [], [], 0⟩) 0 1 1 [0] [] rfl (by kernel_rfl) ?_
  refine RefR.nilC 1 (by kernel_rfl) ?_
  refine Ref.seqC (cd (bd Tryd.f28) [1, 0]) (cd (bd Tryd.f28) [1, 1]) (by kernel_rfl) ?_
  refine Ref.regionC 1 (by kernel_rfl) ?_
  refine RefR.ev0 (st' := ⟨[(4, .c (.str a0))], [], [], 0⟩) 0 1 1 [4] [] rfl (by kernel_rfl) ?_
  refine RefR.callC (t := 5) 1 2 [] rfl (by kernel_rfl) (F39_ok K a0 (b8 10)) (fun r1 => ?_)
  refine RefR.ev0 (st' := ⟨[(3, .c (E9.tree r1))], [], [], 0⟩) 2 1 3 [3] [] rfl (by kernel_rfl) ?_
  refine RefR.nilC 3 (by kernel_rfl) ?_
  refine Ref.seqC (cd (bd Tryd.f28) [1, 1, 0]) (cd (bd Tryd.f28) [1, 1, 1]) (by kernel_rfl) ?_
  refine Ref.seqC (cd (bd Tryd.f28) [1, 1, 0, 0]) (cd (bd Tryd.f28) [1, 1, 0, 1]) (by kernel_rfl) ?_
  refine Ref.regionC 2 (by kernel_rfl) ?_
  refine RefR.evC (vs := [inb (IntKind.i64.wrap ((Int.ofNat r1.length) - 1)) r1.length]) (st' := ⟨[(3, .c (E9.tree r1)), (12, .c (.val (.bool ((r1.getD ((IntKind.i64.wrap ((Int.ofNat r1.length) - 1)) : Int).toNat default) == ([] : Bytes)))))], [], [], 0⟩) 0 7 7 [3, 12] [] rfl (by kernel_rfl) ?_
  refine RefR.letC (stf := fun x2 => ⟨[(3, .c (E9.tree r1)), (12, .c (.val (.bool x2)))], [], [], 0⟩) (by kernel_rfl) (fun x2 => ?_)
  refine RefR.nilC 7 (by kernel_rfl) ?_
  refine Ref.bind (go1 := fun u4 => ⟨[(3, .c (E9.tree u4))], [], [], 0⟩) ?_ (fun u4 => ?_)
  ·
    refine Ref.condC (.tmp 12) x2 (by kernel_rfl) rfl (by kernel_rfl) (fun hc => ?_) (fun hc => ?_)
    ·
      refine Ref.regionC 3 (by kernel_rfl) ?_
      refine RefR.evH (vs := [bndOk r1.length 0 (IntKind.i64.wrap ((Int.ofNat r1.length) - 1))]) (st' := ⟨[(17, .c (.tree E9.w (((IntKind.i64.wrap ((Int.ofNat r1.length) - 1)) : Int).toNat - (0 : Int).toNat) fun i j => E9.at r1 ((0 : Int).toNat + i) j))], [], [], 0⟩) 0 5 5 [17] [] rfl (by kernel_rfl) (fun hv => ?_)
      refine RefR.conv (Conv.slot 17 (.c (E9.tree ((r1.drop (0 : Int).toNat).take (((IntKind.i64.wrap ((Int.ofNat r1.length) - 1)) : Int).toNat - (0 : Int).toNat)))) (DLe.c (El.tree_slice E9 _ (bndOk_le (hv _ (List.Mem.head _))))) (by kernel_rfl)) ?_
      refine RefR.letC (stf := fun x5 => ⟨[(17, .c (E9.tree x5))], [], [], 0⟩) (by kernel_rfl) (fun x5 => ?_)
      refine RefR.ev0 (st' := ⟨[(3, .c (E9.tree x5))], [], [], 0⟩) 5 1 6 [3] [] rfl (by kernel_rfl) ?_
      refine RefR.nilC 6 (by kernel_rfl) ?_
      exact Ref.nil (t := (x5)) (by kernel_rfl)
    ·
      refine Ref.skipC (by kernel_rfl) ?_
      refine Ref.conv (Conv.keep (st' := ⟨[(3, .c (E9.tree r1))], [], [], 0⟩) [3] [] (by kernel_rfl)) ?_
      exact Ref.nil (t := (r1)) (by kernel_rfl)
  ·
    refine Ref.seqC (cd (bd Tryd.f28) [1, 1, 1, 0]) (cd (bd Tryd.f28) [1, 1, 1, 1]) (by kernel_rfl) ?_
    refine Ref.regionC 4 (by kernel_rfl) ?_
    refine RefR.ev0 (st' := ⟨[(2, .c (E9.tree u4))], [], [], 0⟩) 0 2 2 [2] [] rfl (by kernel_rfl) ?_
    refine RefR.nilC 2 (by kernel_rfl) ?_
    exact Ref.retC (t := (u4)) (by kernel_rfl) (by kernel_rfl)

/-- governor/governorref25.Read -/
def F27 (K : Nat) (a0 : (List Bytes)) : Option ((Bytes × (List S45) × Int) ⊕ (Bytes × (List S45) × Int)) :=
  (bindS (blockS ((iter K (fun (u560 : (List UInt8) × (List S45) × Int) => (letV (decide ((u560.2.2 : Int) < (Int.ofNat a0.length))) (fun (x702 : Bool) => (if x702 = true then (bindS (blockS (chk [inb u560.2.2 a0.length] ((fnS (F39 K (a0.getD (u560.2.2 : Int).toNat default) (b8 32))).bind (fun r773 => (chk [inb 0 r773.length] (letV (((r773.getD (0 : Int).toNat default) == ([115, 114, 99] : Bytes)) && (((Int.ofNat r773.length) : Int) == 2)) (fun (x774 : Bool) => (bindS (if x774 = true then (chk [inb 1 r773.length] ((fnS (F10 K (r773.getD (1 : Int).toNat default))).bind (fun r777 => (chk [room ((u560.1.length + r777.1.length) * 1)] (some (.inr ((u560.1 ++ r777.1), r777.2))))))) else (some (.inr (u560.1, false)))) (fun (u776 : (List UInt8) × Bool) => (chk [inb 0 r773.length] (letV ((((r773.getD (0 : Int).toNat default) == ([115, 99, 97, 110] : Bytes)) && (decide (((Int.ofNat r773.length) : Int) ≥ 2))) && (decide (((Int.ofNat r773.length) : Int) ≤ 18))) (fun (x778 : Bool) => (bindS (if x778 = true then (bindS (blockS ((iter K (fun (u832 : Bool × (List Int) × Int × Int) => (letV (decide ((u832.2.2.2 : Int) < (Int.ofNat r773.length))) (fun (x838 : Bool) => (if x838 = true then (bindS (blockS (chk [inb u832.2.2.2 r773.length] ((fnS (F40 K (r773.getD (u832.2.2.2 : Int).toNat default))).bind (fun r841 => (if ((u832.2.2.2 : Int) == 1) = true then (some (.inr ((u832.1 && r841.2), u832.2.1, r841.1))) else (chk [room ((u832.2.1.length + ([r841.1].length)) * 8)] (some (.inr ((u832.1 && r841.2), (u832.2.1 ++ [r841.1]), u832.2.2.1))))))))) (fun (u840 : Bool × (List Int) × Int) => (some (.inr (u840.1, u840.2.1, u840.2.2, (IntKind.i64.wrap (u832.2.2.2 + 1))))))) else (some (.inl (Sum.inl (u832.1, u832.2.1, u832.2.2.1)))))))) (true, [], 0, 1)).map .inl)) (fun (u826 : Bool × (List Int) × Int) => (chk [room ((u560.2.1.length + ([(⟨u826.2.1, u826.2.2⟩ : S45)].length)) * 32)] (some (.inr ((u560.2.1 ++ [(⟨u826.2.1, u826.2.2⟩ : S45)]), u826.1)))))) else (some (.inr (u560.2.1, u776.2)))) (fun (u810 : (List S45) × Bool) => (if (!u810.2) = true then (some (.inl (Sum.inr (Sum.inr (([] : Bytes), [], (IntKind.i64.wrap (u560.2.2 + 1))))))) else (some (.inr (u776.1, u810.1)))))))))))))))))) (fun (u772 : (List UInt8) × (List S45)) => (some (.inr (u772.1, u772.2, (IntKind.i64.wrap (u560.2.2 + 1))))))) else (some (.inl (Sum.inl (u560.1, u560.2.1)))))))) ([], [], 0)).map .inl)) (fun (u419 : (List UInt8) × (List S45)) => (some (.inl (u419.1, u419.2, 0)))))

theorem F27_ok (K : Nat) (a0 : (List Bytes)) : DFun Tryd.prog 27 [.c (E9.tree a0)] [] (fnS (F27 K a0)) (fun r => .tup [.c (.str r.1), .c (E45.tree r.2.1), .c (.val (.int .i64 r.2.2))]) (fun r => []) := by
  refine DFun.intro (fn := Tryd.f27) (c := cd (bd Tryd.f27) []) (rs := fun r => ⟨[(2, .c (.str r.1)), (3, .c (E45.tree r.2.1)), (4, .c (.val (.int .i64 r.2.2)))], [], [], 0⟩) (by kernel_rfl) (by kernel_rfl) (by kernel_rfl) ?_ (fun r => by kernel_rfl) (fun r => by kernel_rfl) (fun r => by kernel_rfl) (fun r => by kernel_rfl)
  unfold F27
  refine Ref.seqC (cd (bd Tryd.f27) [0]) (cd (bd Tryd.f27) [1]) (by kernel_rfl) ?_
  refine Ref.regionC 0 (by kernel_rfl) ?_
  refine RefR.ev0 (st' := ⟨[(0, .c (E9.tree a0))], [], [], 0⟩) 0 3 3 [0] [] rfl (by kernel_rfl) ?_
  refine RefR.nilC 3 (by kernel_rfl) ?_
  refine Ref.seqC (cd (bd Tryd.f27) [1, 0]) (cd (bd Tryd.f27) [1, 1]) (by kernel_rfl) ?_
  refine Ref.regionC 1 (by kernel_rfl) ?_
  refine RefR.ev0 (st' := ⟨[(0, .c (E9.tree a0)), (5, .c (.nil))], [], [], 0⟩) 0 1 1 [0, 5] [] rfl (by kernel_rfl) ?_
  refine RefR.nilC 1 (by kernel_rfl) ?_
  refine Ref.seqC (cd (bd Tryd.f27) [1, 1, 0]) (cd (bd Tryd.f27) [1, 1, 1]) (by kernel_rfl) ?_
  refine Ref.regionC 2 (by kernel_rfl) ?_
  refine RefR.ev0 (st' := ⟨[(0, .c (E9.tree a0)), (5, .c (.nil)), (6, .c (.nil))], [], [], 0⟩) 0 1 1 [0, 5, 6] [] rfl (by kernel_rfl) ?_
  refine RefR.nilC 1 (by kernel_rfl) ?_
  refine Ref.seqC (cd (bd Tryd.f27) [1, 1, 1, 0]) (cd (bd Tryd.f27) [1, 1, 1, 1]) (by kernel_rfl) ?_
  refine Ref.seqC (cd (bd Tryd.f27) [1, 1, 1, 0, 0]) (cd (bd Tryd.f27) [1, 1, 1, 0, 1]) (by kernel_rfl) ?_
  refine Ref.regionC 3 (by kernel_rfl) ?_
  refine RefR.ev0 (st' := ⟨[(0, .c (E9.tree a0)), (5, .c (.nil)), (6, .c (.nil)), (7, .c (.val (.int .i64 0)))], [], [], 0⟩) 0 1 1 [0, 5, 6, 7] [] rfl (by kernel_rfl) ?_
  refine RefR.nilC 1 (by kernel_rfl) ?_
  refine Ref.codeEq (c' := .block 0 (cd (bd Tryd.f27) [1, 1, 1, 0, 1, 0])) (by kernel_rfl) ?_
  refine Ref.block (go1 := fun u419 => ⟨[(5, .c (.own 0 u419.1.length)), (6, .c (.own 1 u419.2.length))], [E5.row u419.1, E45.row u419.2], [], 0⟩) ?_ (fun _ h => by cases h) (fun u419 => ?_)
  ·
    refine Ref.codeEq (c' := .loop (cd (bd Tryd.f27) [1, 1, 1, 0, 1, 0, 0])) (by kernel_rfl) ?_
    refine Ref.conv (Conv.adopt 5 E5.ty E5.w (E5.at []) (by kernel_rfl) (by kernel_rfl) (by kernel_rfl)) ?_
    refine Ref.conv (Conv.adopt 6 E45.ty E45.w (E45.at []) (by kernel_rfl) (by kernel_rfl) (by kernel_rfl)) ?_
    refine Ref.conv (Conv.keep (st' := ⟨[(0, .c (E9.tree a0)), (5, .c (.own 0 0)), (6, .c (.own 1 0)), (7, .c (.val (.int .i64 0)))], [E5.row [], E45.row []], [], 0⟩) [0, 5, 6, 7] [0, 1] (by kernel_rfl)) ?_
    refine Ref.loop (hd := fun u560 => ⟨[(0, .c (E9.tree a0)), (5, .c (.own 0 u560.1.length)), (6, .c (.own 1 u560.2.1.length)), (7, .c (.val (.int .i64 u560.2.2)))], [E5.row u560.1, E45.row u560.2.1], [], 0⟩) K ([], [], 0) (by kernel_rfl) (fun u560 => ?_)
    refine Ref.seqC (cd (bd Tryd.f27) [1, 1, 1, 0, 1, 0, 0, 0]) (cd (bd Tryd.f27) [1, 1, 1, 0, 1, 0, 0, 1]) (by kernel_rfl) ?_
    refine Ref.seqC (cd (bd Tryd.f27) [1, 1, 1, 0, 1, 0, 0, 0, 0]) (cd (bd Tryd.f27) [1, 1, 1, 0, 1, 0, 0, 0, 1]) (by kernel_rfl) ?_
    refine Ref.regionC 4 (by kernel_rfl) ?_
    refine RefR.ev0 (st' := ⟨[(0, .c (E9.tree a0)), (5, .c (.own 0 u560.1.length)), (6, .c (.own 1 u560.2.1.length)), (7, .c (.val (.int .i64 u560.2.2))), (19, .c (.val (.bool (decide ((u560.2.2 : Int) < (Int.ofNat a0.length))))))], [E5.row u560.1, E45.row u560.2.1], [], 0⟩) 0 4 4 [0, 5, 6, 7, 19] [0, 1] rfl (by kernel_rfl) ?_
    refine RefR.letC (stf := fun x702 => ⟨[(0, .c (E9.tree a0)), (5, .c (.own 0 u560.1.length)), (6, .c (.own 1 u560.2.1.length)), (7, .c (.val (.int .i64 u560.2.2))), (19, .c (.val (.bool x702)))], [E5.row u560.1, E45.row u560.2.1], [], 0⟩) (by kernel_rfl) (fun x702 => ?_)
    refine RefR.nilC 4 (by kernel_rfl) ?_
    refine Ref.condC (.tmp 19) x702 (by kernel_rfl) rfl (by kernel_rfl) (fun hc => ?_) (fun hc => ?_)
    ·
      refine Ref.skipC (by kernel_rfl) ?_
      refine Ref.seqC (cd (bd Tryd.f27) [1, 1, 1, 0, 1, 0, 0, 1, 0]) (cd (bd Tryd.f27) [1, 1, 1, 0, 1, 0, 0, 1, 1]) (by kernel_rfl) ?_
      refine Ref.codeEq (c' := .block 1 (cd (bd Tryd.f27) [1, 1, 1, 0, 1, 0, 0, 1, 0, 0])) (by kernel_rfl) ?_
      refine Ref.block (go1 := fun u772 => ⟨[(0, .c (E9.tree a0)), (5, .c (.own 0 u772.1.length)), (6, .c (.own 1 u772.2.length)), (7, .c (.val (.int .i64 u560.2.2)))], [E5.row u772.1, E45.row u772.2], [], 0⟩) ?_ (fun a => match a with | .inl _ => (fun h => by cases h) | .inr _ => (fun h => by cases h)) (fun u772 => ?_)
      ·
        refine Ref.seqC (cd (bd Tryd.f27) [1, 1, 1, 0, 1, 0, 0, 1, 0, 0, 0]) (cd (bd Tryd.f27) [1, 1, 1, 0, 1, 0, 0, 1, 0, 0, 1]) (by kernel_rfl) ?_
        refine Ref.regionC 6 (by kernel_rfl) ?_
        refine RefR.evC (vs := [inb u560.2.2 a0.length]) (st' := ⟨[(0, .c (E9.tree a0)), (5, .c (.own 0 u560.1.length)), (6, .c (.own 1 u560.2.1.length)), (7, .c (.val (.int .i64 u560.2.2))), (25, .c (.str (a0.getD (u560.2.2 : Int).toNat default)))], [E5.row u560.1, E45.row u560.2.1], [], 0⟩) 0 4 4 [0, 5, 6, 7, 25] [0, 1] rfl (by kernel_rfl) ?_
        refine RefR.callC (t := 26) 4 5 [] rfl (by kernel_rfl) (F39_ok K (a0.getD (u560.2.2 : Int).toNat default) (b8 32)) (fun r773 => ?_)
        refine RefR.ev0 (st' := ⟨[(0, .c (E9.tree a0)), (5, .c (.own 0 u560.1.length)), (6, .c (.own 1 u560.2.1.length)), (7, .c (.val (.int .i64 u560.2.2))), (8, .c (E9.tree r773))], [E5.row u560.1, E45.row u560.2.1], [], 0⟩) 5 1 6 [0, 5, 6, 7, 8] [0, 1] rfl (by kernel_rfl) ?_
        refine RefR.nilC 6 (by kernel_rfl) ?_
        refine Ref.seqC (cd (bd Tryd.f27) [1, 1, 1, 0, 1, 0, 0, 1, 0, 0, 1, 0]) (cd (bd Tryd.f27) [1, 1, 1, 0, 1, 0, 0, 1, 0, 0, 1, 1]) (by kernel_rfl) ?_
        refine Ref.regionC 7 (by kernel_rfl) ?_
        refine RefR.ev0 (st' := ⟨[(0, .c (E9.tree a0)), (5, .c (.own 0 u560.1.length)), (6, .c (.own 1 u560.2.1.length)), (7, .c (.val (.int .i64 u560.2.2))), (8, .c (E9.tree r773)), (9, .c (.val (.bool false)))], [E5.row u560.1, E45.row u560.2.1], [], 0⟩) 0 1 1 [0, 5, 6, 7, 8, 9] [0, 1] rfl (by kernel_rfl) ?_
        refine RefR.nilC 1 (by kernel_rfl) ?_
        refine Ref.seqC (cd (bd Tryd.f27) [1, 1, 1, 0, 1, 0, 0, 1, 0, 0, 1, 1, 0]) (cd (bd Tryd.f27) [1, 1, 1, 0, 1, 0, 0, 1, 0, 0, 1, 1, 1]) (by kernel_rfl) ?_
        refine Ref.seqC (cd (bd Tryd.f27) [1, 1, 1, 0, 1, 0, 0, 1, 0, 0, 1, 1, 0, 0]) (cd (bd Tryd.f27) [1, 1, 1, 0, 1, 0, 0, 1, 0, 0, 1, 1, 0, 1]) (by kernel_rfl) ?_
        refine Ref.regionC 8 (by kernel_rfl) ?_
        refine RefR.evC (vs := [inb 0 r773.length]) (st' := ⟨[(0, .c (E9.tree a0)), (5, .c (.own 0 u560.1.length)), (6, .c (.own 1 u560.2.1.length)), (7, .c (.val (.int .i64 u560.2.2))), (8, .c (E9.tree r773)), (9, .c (.val (.bool false))), (35, .c (.val (.bool (((r773.getD (0 : Int).toNat default) == ([115, 114, 99] : Bytes)) && (((Int.ofNat r773.length) : Int) == 2)))))], [E5.row u560.1, E45.row u560.2.1], [], 0⟩) 0 9 9 [0, 5, 6, 7, 8, 9, 35] [0, 1] rfl (by kernel_rfl) ?_
        refine RefR.letC (stf := fun x774 => ⟨[(0, .c (E9.tree a0)), (5, .c (.own 0 u560.1.length)), (6, .c (.own 1 u560.2.1.length)), (7, .c (.val (.int .i64 u560.2.2))), (8, .c (E9.tree r773)), (9, .c (.val (.bool false))), (35, .c (.val (.bool x774)))], [E5.row u560.1, E45.row u560.2.1], [], 0⟩) (by kernel_rfl) (fun x774 => ?_)
        refine RefR.nilC 9 (by kernel_rfl) ?_
        refine Ref.bind (go1 := fun u776 => ⟨[(0, .c (E9.tree a0)), (5, .c (.own 0 u776.1.length)), (6, .c (.own 1 u560.2.1.length)), (7, .c (.val (.int .i64 u560.2.2))), (8, .c (E9.tree r773)), (9, .c (.val (.bool u776.2)))], [E5.row u776.1, E45.row u560.2.1], [], 0⟩) ?_ (fun u776 => ?_)
        ·
          refine Ref.condC (.tmp 35) x774 (by kernel_rfl) rfl (by kernel_rfl) (fun hc => ?_) (fun hc => ?_)
          ·
            refine Ref.seqC (cd (bd Tryd.f27) [1, 1, 1, 0, 1, 0, 0, 1, 0, 0, 1, 1, 0, 1, 0, 0]) (cd (bd Tryd.f27) [1, 1, 1, 0, 1, 0, 0, 1, 0, 0, 1, 1, 0, 1, 0, 1]) (by kernel_rfl) ?_
            refine Ref.regionC 9 (by kernel_rfl) ?_
            refine RefR.evC (vs := [inb 1 r773.length]) (st' := ⟨[(0, .c (E9.tree a0)), (5, .c (.own 0 u560.1.length)), (6, .c (.own 1 u560.2.1.length)), (7, .c (.val (.int .i64 u560.2.2))), (8, .c (E9.tree r773)), (39, .c (.str (r773.getD (1 : Int).toNat default)))], [E5.row u560.1, E45.row u560.2.1], [], 0⟩) 0 3 3 [0, 5, 6, 7, 8, 39] [0, 1] rfl (by kernel_rfl) ?_
            refine RefR.callC (t := 40) 3 4 [] rfl (by kernel_rfl) (F10_ok K (r773.getD (1 : Int).toNat default)) (fun r777 => ?_)
            refine RefR.ev0 (st' := ⟨[(0, .c (E9.tree a0)), (5, .c (.own 0 u560.1.length)), (6, .c (.own 1 u560.2.1.length)), (7, .c (.val (.int .i64 u560.2.2))), (8, .c (E9.tree r773)), (10, .c (.str r777.1)), (11, .c (.val (.bool r777.2)))], [E5.row u560.1, E45.row u560.2.1], [], 0⟩) 4 5 9 [0, 5, 6, 7, 8, 10, 11] [0, 1] rfl (by kernel_rfl) ?_
            refine RefR.nilC 9 (by kernel_rfl) ?_
            refine Ref.seqC (cd (bd Tryd.f27) [1, 1, 1, 0, 1, 0, 0, 1, 0, 0, 1, 1, 0, 1, 0, 1, 0]) (cd (bd Tryd.f27) [1, 1, 1, 0, 1, 0, 0, 1, 0, 0, 1, 1, 0, 1, 0, 1, 1]) (by kernel_rfl) ?_
            refine Ref.regionC 10 (by kernel_rfl) ?_
            refine RefR.ev0 (st' := ⟨[(0, .c (E9.tree a0)), (6, .c (.own 1 u560.2.1.length)), (7, .c (.val (.int .i64 u560.2.2))), (8, .c (E9.tree r773)), (11, .c (.val (.bool r777.2))), (43, .c (.own 0 u560.1.length)), (44, .c (.str r777.1))], [E5.row u560.1, E45.row u560.2.1], [], 0⟩) 0 2 2 [0, 6, 7, 8, 11, 43, 44] [0, 1] rfl (by kernel_rfl) ?_
            refine RefR.evC (vs := [room ((u560.1.length + r777.1.length) * 1)]) (st' := ⟨[(0, .c (E9.tree a0)), (6, .c (.own 0 u560.2.1.length)), (7, .c (.val (.int .i64 u560.2.2))), (8, .c (E9.tree r773)), (11, .c (.val (.bool r777.2))), (45, .c (.own 1 (u560.1.length + r777.1.length)))], [E45.row u560.2.1, .row 5 1 (u560.1.length + r777.1.length) fun i j => bif Nat.blt i u560.1.length then E5.at u560.1 i j else (fun i _ => .val (.int .u8 (r777.1.getD i 0).toNat)) (i - u560.1.length) j], [], 0⟩) 2 1 3 [0, 6, 7, 8, 11, 45] [1, 2] rfl (by kernel_rfl) ?_
            refine RefR.conv (Conv.obj 1 (E5.row (u560.1 ++ r777.1)) (El.row_append_str E5 rfl u560.1 r777.1 rfl) (by kernel_rfl)) ?_
            refine RefR.conv (Conv.slot 45 (.c (.own 1 ((u560.1 ++ r777.1).length))) (DLe.c (CLe.own (by simp))) (by kernel_rfl)) ?_
            refine RefR.ev0 (st' := ⟨[(0, .c (E9.tree a0)), (5, .c (.own 1 ((u560.1 ++ r777.1).length))), (6, .c (.own 0 u560.2.1.length)), (7, .c (.val (.int .i64 u560.2.2))), (8, .c (E9.tree r773)), (11, .c (.val (.bool r777.2)))], [E45.row u560.2.1, E5.row (u560.1 ++ r777.1)], [], 0⟩) 3 1 4 [0, 5, 6, 7, 8, 11] [0, 1] rfl (by kernel_rfl) ?_
            refine RefR.nilC 4 (by kernel_rfl) ?_
            refine Ref.regionC 11 (by kernel_rfl) ?_
            refine RefR.ev0 (st' := ⟨[(0, .c (E9.tree a0)), (5, .c (.own 1 ((u560.1 ++ r777.1).length))), (6, .c (.own 0 u560.2.1.length)), (7, .c (.val (.int .i64 u560.2.2))), (8, .c (E9.tree r773)), (9, .c (.val (.bool r777.2)))], [E45.row u560.2.1, E5.row (u560.1 ++ r777.1)], [], 0⟩) 0 2 2 [0, 5, 6, 7, 8, 9] [0, 1] rfl (by kernel_rfl) ?_
            refine RefR.nilC 2 (by kernel_rfl) ?_
            refine Ref.conv (Conv.keep (st' := ⟨[(0, .c (E9.tree a0)), (5, .c (.own 0 ((u560.1 ++ r777.1).length))), (6, .c (.own 1 u560.2.1.length)), (7, .c (.val (.int .i64 u560.2.2))), (8, .c (E9.tree r773)), (9, .c (.val (.bool r777.2)))], [E5.row (u560.1 ++ r777.1), E45.row u560.2.1], [], 0⟩) [0, 5, 6, 7, 8, 9] [1, 0] (by kernel_rfl)) ?_
            exact Ref.nil (t := ((u560.1 ++ r777.1), r777.2)) (by kernel_rfl)
          ·
            refine Ref.skipC (by kernel_rfl) ?_
            refine Ref.conv (Conv.keep (st' := ⟨[(0, .c (E9.tree a0)), (5, .c (.own 0 u560.1.length)), (6, .c (.own 1 u560.2.1.length)), (7, .c (.val (.int .i64 u560.2.2))), (8, .c (E9.tree r773)), (9, .c (.val (.bool false)))], [E5.row u560.1, E45.row u560.2.1], [], 0⟩) [0, 5, 6, 7, 8, 9] [0, 1] (by kernel_rfl)) ?_
            exact Ref.nil (t := (u560.1, false)) (by kernel_rfl)
        ·
          refine Ref.seqC (cd (bd Tryd.f27) [1, 1, 1, 0, 1, 0, 0, 1, 0, 0, 1, 1, 1, 0]) (cd (bd Tryd.f27) [1, 1, 1, 0, 1, 0, 0, 1, 0, 0, 1, 1, 1, 1]) (by kernel_rfl) ?_
          refine Ref.seqC (cd (bd Tryd.f27) [1, 1, 1, 0, 1, 0, 0, 1, 0, 0, 1, 1, 1, 0, 0]) (cd (bd Tryd.f27) [1, 1, 1, 0, 1, 0, 0, 1, 0, 0, 1, 1, 1, 0, 1]) (by kernel_rfl) ?_
          refine Ref.regionC 12 (by kernel_rfl) ?_
          refine RefR.evC (vs := [inb 0 r773.length]) (st' := ⟨[(0, .c (E9.tree a0)), (5, .c (.own 0 u776.1.length)), (6, .c (.own 1 u560.2.1.length)), (7, .c (.val (.int .i64 u560.2.2))), (8, .c (E9.tree r773)), (9, .c (.val (.bool u776.2))), (60, .c (.val (.bool ((((r773.getD (0 : Int).toNat default) == ([115, 99, 97, 110] : Bytes)) && (decide (((Int.ofNat r773.length) : Int) ≥ 2))) && (decide (((Int.ofNat r773.length) : Int) ≤ 18))))))], [E5.row u776.1, E45.row u560.2.1], [], 0⟩) 0 14 14 [0, 5, 6, 7, 8, 9, 60] [0, 1] rfl (by kernel_rfl) ?_
          refine RefR.letC (stf := fun x778 => ⟨[(0, .c (E9.tree a0)), (5, .c (.own 0 u776.1.length)), (6, .c (.own 1 u560.2.1.length)), (7, .c (.val (.int .i64 u560.2.2))), (8, .c (E9.tree r773)), (9, .c (.val (.bool u776.2))), (60, .c (.val (.bool x778)))], [E5.row u776.1, E45.row u560.2.1], [], 0⟩) (by kernel_rfl) (fun x778 => ?_)
          refine RefR.nilC 14 (by kernel_rfl) ?_
          refine Ref.bind (go1 := fun u810 => ⟨[(0, .c (E9.tree a0)), (5, .c (.own 0 u776.1.length)), (6, .c (.own 1 u810.1.length)), (7, .c (.val (.int .i64 u560.2.2))), (9, .c (.val (.bool u810.2)))], [E5.row u776.1, E45.row u810.1], [], 0⟩) ?_ (fun u810 => ?_)
          ·
            refine Ref.condC (.tmp 60) x778 (by kernel_rfl) rfl (by kernel_rfl) (fun hc => ?_) (fun hc => ?_)
            ·
              refine Ref.seqC (cd (bd Tryd.f27) [1, 1, 1, 0, 1, 0, 0, 1, 0, 0, 1, 1, 1, 0, 1, 0, 0]) (cd (bd Tryd.f27) [1, 1, 1, 0, 1, 0, 0, 1, 0, 0, 1, 1, 1, 0, 1, 0, 1]) (by kernel_rfl) ?_
              refine Ref.regionC 13 (by kernel_rfl) ?_
              refine RefR.ev0 (st' := ⟨[(0, .c (E9.tree a0)), (5, .c (.own 0 u776.1.length)), (6, .c (.own 1 u560.2.1.length)), (7, .c (.val (.int .i64 u560.2.2))), (8, .c (E9.tree r773)), (9, .c (.val (.bool true)))], [E5.row u776.1, E45.row u560.2.1], [], 0⟩) 0 1 1 [0, 5, 6, 7, 8, 9] [0, 1] rfl (by kernel_rfl) ?_
              refine RefR.nilC 1 (by kernel_rfl) ?_
              refine Ref.seqC (cd (bd Tryd.f27) [1, 1, 1, 0, 1, 0, 0, 1, 0, 0, 1, 1, 1, 0, 1, 0, 1, 0]) (cd (bd Tryd.f27) [1, 1, 1, 0, 1, 0, 0, 1, 0, 0, 1, 1, 1, 0, 1, 0, 1, 1]) (by kernel_rfl) ?_
              refine Ref.regionC 14 (by kernel_rfl) ?_
              refine RefR.ev0 (st' := ⟨[(0, .c (E9.tree a0)), (5, .c (.own 0 u776.1.length)), (6, .c (.own 1 u560.2.1.length)), (7, .c (.val (.int .i64 u560.2.2))), (8, .c (E9.tree r773)), (9, .c (.val (.bool true))), (12, .c (.ptr 2 0 0))], [E5.row u776.1, E45.row u560.2.1, .cells [.nil, .val (.int .i64 0)]], [], 0⟩) 0 3 3 [0, 5, 6, 7, 8, 9, 12] [0, 1, 2] rfl (by kernel_rfl) ?_
              refine RefR.nilC 3 (by kernel_rfl) ?_
              refine Ref.seqC (cd (bd Tryd.f27) [1, 1, 1, 0, 1, 0, 0, 1, 0, 0, 1, 1, 1, 0, 1, 0, 1, 1, 0]) (cd (bd Tryd.f27) [1, 1, 1, 0, 1, 0, 0, 1, 0, 0, 1, 1, 1, 0, 1, 0, 1, 1, 1]) (by kernel_rfl) ?_
              refine Ref.seqC (cd (bd Tryd.f27) [1, 1, 1, 0, 1, 0, 0, 1, 0, 0, 1, 1, 1, 0, 1, 0, 1, 1, 0, 0]) (cd (bd Tryd.f27) [1, 1, 1, 0, 1, 0, 0, 1, 0, 0, 1, 1, 1, 0, 1, 0, 1, 1, 0, 1]) (by kernel_rfl) ?_
              refine Ref.regionC 15 (by kernel_rfl) ?_
              refine RefR.ev0 (st' := ⟨[(0, .c (E9.tree a0)), (5, .c (.own 0 u776.1.length)), (6, .c (.own 1 u560.2.1.length)), (7, .c (.val (.int .i64 u560.2.2))), (8, .c (E9.tree r773)), (9, .c (.val (.bool true))), (12, .c (.ptr 2 0 0)), (13, .c (.val (.int .i64 1)))], [E5.row u776.1, E45.row u560.2.1, .cells [.nil, .val (.int .i64 0)]], [], 0⟩) 0 1 1 [0, 5, 6, 7, 8, 9, 12, 13] [0, 1, 2] rfl (by kernel_rfl) ?_
              refine RefR.nilC 1 (by kernel_rfl) ?_
              refine Ref.codeEq (c' := .block 2 (cd (bd Tryd.f27) [1, 1, 1, 0, 1, 0, 0, 1, 0, 0, 1, 1, 1, 0, 1, 0, 1, 1, 0, 1, 0])) (by kernel_rfl) ?_
              refine Ref.block (go1 := fun u826 => ⟨[(0, .c (E9.tree a0)), (5, .c (.own 0 u776.1.length)), (6, .c (.own 1 u560.2.1.length)), (7, .c (.val (.int .i64 u560.2.2))), (9, .c (.val (.bool u826.1))), (12, .c (.ptr 2 0 0))], [E5.row u776.1, E45.row u560.2.1, .cells [.own 3 u826.2.1.length, .val (.int .i64 u826.2.2)], E3.row u826.2.1], [], 0⟩) ?_ (fun a => match a with | .inl _ => (fun h => by cases h) | .inr (.inl _) => (fun h => by cases h) | .inr (.inr _) => (fun h => by cases h)) (fun u826 => ?_)
              ·
                refine Ref.codeEq (c' := .loop (cd (bd Tryd.f27) [1, 1, 1, 0, 1, 0, 0, 1, 0, 0, 1, 1, 1, 0, 1, 0, 1, 1, 0, 1, 0, 0])) (by kernel_rfl) ?_
                refine Ref.conv (Conv.adoptCell (st' := ⟨[(0, .c (E9.tree a0)), (5, .c (.own 0 u776.1.length)), (6, .c (.own 1 u560.2.1.length)), (7, .c (.val (.int .i64 u560.2.2))), (8, .c (E9.tree r773)), (9, .c (.val (.bool true))), (12, .c (.ptr 2 0 0)), (13, .c (.val (.int .i64 1)))], [E5.row u776.1, E45.row u560.2.1, .cells [.own 3 0, .val (.int .i64 0)], E3.row []], [], 0⟩) 2 0 E3.ty E3.w (E3.at []) (by kernel_rfl)) ?_
                refine Ref.loop (hd := fun u832 => ⟨[(0, .c (E9.tree a0)), (5, .c (.own 0 u776.1.length)), (6, .c (.own 1 u560.2.1.length)), (7, .c (.val (.int .i64 u560.2.2))), (8, .c (E9.tree r773)), (9, .c (.val (.bool u832.1))), (12, .c (.ptr 2 0 0)), (13, .c (.val (.int .i64 u832.2.2.2)))], [E5.row u776.1, E45.row u560.2.1, .cells [.own 3 u832.2.1.length, .val (.int .i64 u832.2.2.1)], E3.row u832.2.1], [], 0⟩) K (true, [], 0, 1) (by kernel_rfl) (fun u832 => ?_)
                refine Ref.seqC (cd (bd Tryd.f27) [1, 1, 1, 0, 1, 0, 0, 1, 0, 0, 1, 1, 1, 0, 1, 0, 1, 1, 0, 1, 0, 0, 0]) (cd (bd Tryd.f27) [1, 1, 1, 0, 1, 0, 0, 1, 0, 0, 1, 1, 1, 0, 1, 0, 1, 1, 0, 1, 0, 0, 1]) (by kernel_rfl) ?_
                refine Ref.seqC (cd (bd Tryd.f27) [1, 1, 1, 0, 1, 0, 0, 1, 0, 0, 1, 1, 1, 0, 1, 0, 1, 1, 0, 1, 0, 0, 0, 0]) (cd (bd Tryd.f27) [1, 1, 1, 0, 1, 0, 0, 1, 0, 0, 1, 1, 1, 0, 1, 0, 1, 1, 0, 1, 0, 0, 0, 1]) (by kernel_rfl) ?_
                refine Ref.regionC 16 (by kernel_rfl) ?_
                refine RefR.ev0 (st' := ⟨[(0, .c (E9.tree a0)), (5, .c (.own 0 u776.1.length)), (6, .c (.own 1 u560.2.1.length)), (7, .c (.val (.int .i64 u560.2.2))), (8, .c (E9.tree r773)), (9, .c (.val (.bool u832.1))), (12, .c (.ptr 2 0 0)), (13, .c (.val (.int .i64 u832.2.2.2))), (65, .c (.val (.bool (decide ((u832.2.2.2 : Int) < (Int.ofNat r773.length))))))], [E5.row u776.1, E45.row u560.2.1, .cells [.own 3 u832.2.1.length, .val (.int .i64 u832.2.2.1)], E3.row u832.2.1], [], 0⟩) 0 4 4 [0, 5, 6, 7, 8, 9, 12, 13, 65] [0, 1, 2, 3] rfl (by kernel_rfl) ?_
                refine RefR.letC (stf := fun x838 => ⟨[(0, .c (E9.tree a0)), (5, .c (.own 0 u776.1.length)), (6, .c (.own 1 u560.2.1.length)), (7, .c (.val (.int .i64 u560.2.2))), (8, .c (E9.tree r773)), (9, .c (.val (.bool u832.1))), (12, .c (.ptr 2 0 0)), (13, .c (.val (.int .i64 u832.2.2.2))), (65, .c (.val (.bool x838)))], [E5.row u776.1, E45.row u560.2.1, .cells [.own 3 u832.2.1.length, .val (.int .i64 u832.2.2.1)], E3.row u832.2.1], [], 0⟩) (by kernel_rfl) (fun x838 => ?_)
                refine RefR.nilC 4 (by kernel_rfl) ?_
                refine Ref.condC (.tmp 65) x838 (by kernel_rfl) rfl (by kernel_rfl) (fun hc => ?_) (fun hc => ?_)
                ·
                  refine Ref.skipC (by kernel_rfl) ?_
                  refine Ref.seqC (cd (bd Tryd.f27) [1, 1, 1, 0, 1, 0, 0, 1, 0, 0, 1, 1, 1, 0, 1, 0, 1, 1, 0, 1, 0, 0, 1, 0]) (cd (bd Tryd.f27) [1, 1, 1, 0, 1, 0, 0, 1, 0, 0, 1, 1, 1, 0, 1, 0, 1, 1, 0, 1, 0, 0, 1, 1]) (by kernel_rfl) ?_
                  refine Ref.codeEq (c' := .block 3 (cd (bd Tryd.f27) [1, 1, 1, 0, 1, 0, 0, 1, 0, 0, 1, 1, 1, 0, 1, 0, 1, 1, 0, 1, 0, 0, 1, 0, 0])) (by kernel_rfl) ?_
                  refine Ref.block (go1 := fun u840 => ⟨[(0, .c (E9.tree a0)), (5, .c (.own 0 u776.1.length)), (6, .c (.own 1 u560.2.1.length)), (7, .c (.val (.int .i64 u560.2.2))), (8, .c (E9.tree r773)), (9, .c (.val (.bool u840.1))), (12, .c (.ptr 2 0 0)), (13, .c (.val (.int .i64 u832.2.2.2)))], [E5.row u776.1, E45.row u560.2.1, .cells [.own 3 u840.2.1.length, .val (.int .i64 u840.2.2)], E3.row u840.2.1], [], 0⟩) ?_ (fun a => match a with | .inl _ => (fun h => by cases h) | .inr (.inl _) => (fun h => by cases h) | .inr (.inr (.inl _)) => (fun h => by cases h) | .inr (.inr (.inr _)) => (fun h => by cases h)) (fun u840 => ?_)
                  ·
                    refine Ref.seqC (cd (bd Tryd.f27) [1, 1, 1, 0, 1, 0, 0, 1, 0, 0, 1, 1, 1, 0, 1, 0, 1, 1, 0, 1, 0, 0, 1, 0, 0, 0]) (cd (bd Tryd.f27) [1, 1, 1, 0, 1, 0, 0, 1, 0, 0, 1, 1, 1, 0, 1, 0, 1, 1, 0, 1, 0, 0, 1, 0, 0, 1]) (by kernel_rfl) ?_
                    refine Ref.regionC 18 (by kernel_rfl) ?_
                    refine RefR.evC (vs := [inb u832.2.2.2 r773.length]) (st' := ⟨[(0, .c (E9.tree a0)), (5, .c (.own 0 u776.1.length)), (6, .c (.own 1 u560.2.1.length)), (7, .c (.val (.int .i64 u560.2.2))), (8, .c (E9.tree r773)), (9, .c (.val (.bool u832.1))), (12, .c (.ptr 2 0 0)), (13, .c (.val (.int .i64 u832.2.2.2))), (72, .c (.str (r773.getD (u832.2.2.2 : Int).toNat default)))], [E5.row u776.1, E45.row u560.2.1, .cells [.own 3 u832.2.1.length, .val (.int .i64 u832.2.2.1)], E3.row u832.2.1], [], 0⟩) 0 4 4 [0, 5, 6, 7, 8, 9, 12, 13, 72] [0, 1, 2, 3] rfl (by kernel_rfl) ?_
                    refine RefR.callC (t := 73) 4 5 [] rfl (by kernel_rfl) (F40_ok K (r773.getD (u832.2.2.2 : Int).toNat default)) (fun r841 => ?_)
                    refine RefR.ev0 (st' := ⟨[(0, .c (E9.tree a0)), (5, .c (.own 0 u776.1.length)), (6, .c (.own 1 u560.2.1.length)), (7, .c (.val (.int .i64 u560.2.2))), (8, .c (E9.tree r773)), (9, .c (.val (.bool u832.1))), (12, .c (.ptr 2 0 0)), (13, .c (.val (.int .i64 u832.2.2.2))), (14, .c (.val (.int .i64 r841.1))), (15, .c (.val (.bool r841.2)))], [E5.row u776.1, E45.row u560.2.1, .cells [.own 3 u832.2.1.length, .val (.int .i64 u832.2.2.1)], E3.row u832.2.1], [], 0⟩) 5 5 10 [0, 5, 6, 7, 8, 9, 12, 13, 14, 15] [0, 1, 2, 3] rfl (by kernel_rfl) ?_
                    refine RefR.nilC 10 (by kernel_rfl) ?_
                    refine Ref.seqC (cd (bd Tryd.f27) [1, 1, 1, 0, 1, 0, 0, 1, 0, 0, 1, 1, 1, 0, 1, 0, 1, 1, 0, 1, 0, 0, 1, 0, 0, 1, 0]) (cd (bd Tryd.f27) [1, 1, 1, 0, 1, 0, 0, 1, 0, 0, 1, 1, 1, 0, 1, 0, 1, 1, 0, 1, 0, 0, 1, 0, 0, 1, 1]) (by kernel_rfl) ?_
                    refine Ref.regionC 19 (by kernel_rfl) ?_
                    refine RefR.ev0 (st' := ⟨[(0, .c (E9.tree a0)), (5, .c (.own 0 u776.1.length)), (6, .c (.own 1 u560.2.1.length)), (7, .c (.val (.int .i64 u560.2.2))), (8, .c (E9.tree r773)), (9, .c (.val (.bool (u832.1 && r841.2)))), (12, .c (.ptr 2 0 0)), (13, .c (.val (.int .i64 u832.2.2.2))), (14, .c (.val (.int .i64 r841.1)))], [E5.row u776.1, E45.row u560.2.1, .cells [.own 3 u832.2.1.length, .val (.int .i64 u832.2.2.1)], E3.row u832.2.1], [], 0⟩) 0 5 5 [0, 5, 6, 7, 8, 9, 12, 13, 14] [0, 1, 2, 3] rfl (by kernel_rfl) ?_
                    refine RefR.nilC 5 (by kernel_rfl) ?_
                    refine Ref.seqC (cd (bd Tryd.f27) [1, 1, 1, 0, 1, 0, 0, 1, 0, 0, 1, 1, 1, 0, 1, 0, 1, 1, 0, 1, 0, 0, 1, 0, 0, 1, 1, 0]) (cd (bd Tryd.f27) [1, 1, 1, 0, 1, 0, 0, 1, 0, 0, 1, 1, 1, 0, 1, 0, 1, 1, 0, 1, 0, 0, 1, 0, 0, 1, 1, 1]) (by kernel_rfl) ?_
                    refine Ref.regionC 20 (by kernel_rfl) ?_
                    refine RefR.ev0 (st' := ⟨[(0, .c (E9.tree a0)), (5, .c (.own 0 u776.1.length)), (6, .c (.own 1 u560.2.1.length)), (7, .c (.val (.int .i64 u560.2.2))), (8, .c (E9.tree r773)), (9, .c (.val (.bool (u832.1 && r841.2)))), (12, .c (.ptr 2 0 0)), (13, .c (.val (.int .i64 u832.2.2.2))), (14, .c (.val (.int .i64 r841.1))), (81, .c (.val (.bool ((u832.2.2.2 : Int) == 1))))], [E5.row u776.1, E45.row u560.2.1, .cells [.own 3 u832.2.1.length, .val (.int .i64 u832.2.2.1)], E3.row u832.2.1], [], 0⟩) 0 2 2 [0, 5, 6, 7, 8, 9, 12, 13, 14, 81] [0, 1, 2, 3] rfl (by kernel_rfl) ?_
                    refine RefR.nilC 2 (by kernel_rfl) ?_
                    refine Ref.condC (.tmp 81) ((u832.2.2.2 : Int) == 1) (by kernel_rfl) rfl (by kernel_rfl) (fun hc => ?_) (fun hc => ?_)
                    ·
                      refine Ref.regionC 21 (by kernel_rfl) ?_
                      refine RefR.ev0 (st' := ⟨[(0, .c (E9.tree a0)), (5, .c (.own 0 u776.1.length)), (6, .c (.own 1 u560.2.1.length)), (7, .c (.val (.int .i64 u560.2.2))), (8, .c (E9.tree r773)), (9, .c (.val (.bool (u832.1 && r841.2)))), (12, .c (.ptr 2 0 0)), (13, .c (.val (.int .i64 u832.2.2.2)))], [E5.row u776.1, E45.row u560.2.1, .cells [.own 3 u832.2.1.length, .val (.int .i64 r841.1)], E3.row u832.2.1], [], 0⟩) 0 3 3 [0, 5, 6, 7, 8, 9, 12, 13] [0, 1, 2, 3] rfl (by kernel_rfl) ?_
                      refine RefR.nilC 3 (by kernel_rfl) ?_
                      exact Ref.nil (t := ((u832.1 && r841.2), u832.2.1, r841.1)) (by kernel_rfl)
                    ·
                      refine Ref.regionC 22 (by kernel_rfl) ?_
                      refine RefR.ev0 (st' := ⟨[(0, .c (E9.tree a0)), (5, .c (.own 0 u776.1.length)), (6, .c (.own 1 u560.2.1.length)), (7, .c (.val (.int .i64 u560.2.2))), (8, .c (E9.tree r773)), (9, .c (.val (.bool (u832.1 && r841.2)))), (12, .c (.ptr 2 0 0)), (13, .c (.val (.int .i64 u832.2.2.2))), (85, .c (.own 3 u832.2.1.length)), (86, .c (.val (.int .i64 r841.1)))], [E5.row u776.1, E45.row u560.2.1, .cells [.own 3 u832.2.1.length, .val (.int .i64 u832.2.2.1)], E3.row u832.2.1], [], 0⟩) 0 3 3 [0, 5, 6, 7, 8, 9, 12, 13, 85, 86] [0, 1, 2, 3] rfl (by kernel_rfl) ?_
                      refine RefR.ev0 (st' := ⟨[(0, .c (E9.tree a0)), (5, .c (.own 0 u776.1.length)), (6, .c (.own 1 u560.2.1.length)), (7, .c (.val (.int .i64 u560.2.2))), (8, .c (E9.tree r773)), (9, .c (.val (.bool (u832.1 && r841.2)))), (12, .c (.ptr 2 0 0)), (13, .c (.val (.int .i64 u832.2.2.2))), (85, .c (.own 3 u832.2.1.length)), (87, .c (.own 4 1))], [E5.row u776.1, E45.row u560.2.1, .cells [.own 3 u832.2.1.length, .val (.int .i64 u832.2.2.1)], E3.row u832.2.1, .row 3 1 1 (tbl [[.val (.int .i64 r841.1)]])], [], 0⟩) 3 1 4 [0, 5, 6, 7, 8, 9, 12, 13, 85, 87] [0, 1, 2, 3, 4] rfl (by kernel_rfl) ?_
                      refine RefR.conv (Conv.obj 4 (E3.row [r841.1]) (El.row_build E3 [r841.1] rfl (by kernel_rfl)) (by kernel_rfl)) ?_
                      refine RefR.conv (Conv.slot 87 (.c (.own 4 ([r841.1].length))) (DLe.c (CLe.own (by simp))) (by kernel_rfl)) ?_
                      refine RefR.evC (vs := [room ((u832.2.1.length + ([r841.1].length)) * 8)]) (st' := ⟨[(0, .c (E9.tree a0)), (5, .c (.own 0 u776.1.length)), (6, .c (.own 1 u560.2.1.length)), (7, .c (.val (.int .i64 u560.2.2))), (8, .c (E9.tree r773)), (9, .c (.val (.bool (u832.1 && r841.2)))), (12, .c (.ptr 2 0 0)), (13, .c (.val (.int .i64 u832.2.2.2))), (88, .c (.own 4 (u832.2.1.length + ([r841.1].length))))], [E5.row u776.1, E45.row u560.2.1, .cells [.own 3 u832.2.1.length, .val (.int .i64 u832.2.2.1)], .dead, .row 3 1 (u832.2.1.length + ([r841.1].length)) fun i j => bif Nat.blt i u832.2.1.length then E3.at u832.2.1 i j else (E3.at [r841.1]) (i - u832.2.1.length) j], [], 0⟩) 4 1 5 [0, 5, 6, 7, 8, 9, 12, 13, 88] [0, 1, 2, 3, 5] rfl (by kernel_rfl) ?_
                      refine RefR.conv (Conv.obj 4 (E3.row (u832.2.1 ++ [r841.1])) (El.row_append E3 u832.2.1 [r841.1] rfl rfl) (by kernel_rfl)) ?_
                      refine RefR.conv (Conv.slot 88 (.c (.own 4 ((u832.2.1 ++ [r841.1]).length))) (DLe.c (CLe.own (by simp))) (by kernel_rfl)) ?_
                      refine RefR.ev0 (st' := ⟨[(0, .c (E9.tree a0)), (5, .c (.own 0 u776.1.length)), (6, .c (.own 1 u560.2.1.length)), (7, .c (.val (.int .i64 u560.2.2))), (8, .c (E9.tree r773)), (9, .c (.val (.bool (u832.1 && r841.2)))), (12, .c (.ptr 2 0 0)), (13, .c (.val (.int .i64 u832.2.2.2)))], [E5.row u776.1, E45.row u560.2.1, .cells [.own 3 ((u832.2.1 ++ [r841.1]).length), .val (.int .i64 u832.2.2.1)], E3.row (u832.2.1 ++ [r841.1])], [], 0⟩) 5 2 7 [0, 5, 6, 7, 8, 9, 12, 13] [0, 1, 2, 4] rfl (by kernel_rfl) ?_
                      refine RefR.nilC 7 (by kernel_rfl) ?_
                      exact Ref.nil (t := ((u832.1 && r841.2), (u832.2.1 ++ [r841.1]), u832.2.2.1)) (by kernel_rfl)
                  ·
                    refine Ref.regionC 17 (by kernel_rfl) ?_
                    refine RefR.ev0 (st' := ⟨[(0, .c (E9.tree a0)), (5, .c (.own 0 u776.1.length)), (6, .c (.own 1 u560.2.1.length)), (7, .c (.val (.int .i64 u560.2.2))), (8, .c (E9.tree r773)), (9, .c (.val (.bool u840.1))), (12, .c (.ptr 2 0 0)), (13, .c (.val (.int .i64 (IntKind.i64.wrap (u832.2.2.2 + 1)))))], [E5.row u776.1, E45.row u560.2.1, .cells [.own 3 u840.2.1.length, .val (.int .i64 u840.2.2)], E3.row u840.2.1], [], 0⟩) 0 3 3 [0, 5, 6, 7, 8, 9, 12, 13] [0, 1, 2, 3] rfl (by kernel_rfl) ?_
                    refine RefR.nilC 3 (by kernel_rfl) ?_
                    exact Ref.nil (t := (u840.1, u840.2.1, u840.2.2, (IntKind.i64.wrap (u832.2.2.2 + 1)))) (by kernel_rfl)
                ·
                  refine Ref.conv (Conv.keep (st' := ⟨[(0, .c (E9.tree a0)), (5, .c (.own 0 u776.1.length)), (6, .c (.own 1 u560.2.1.length)), (7, .c (.val (.int .i64 u560.2.2))), (9, .c (.val (.bool u832.1))), (12, .c (.ptr 2 0 0))], [E5.row u776.1, E45.row u560.2.1, .cells [.own 3 u832.2.1.length, .val (.int .i64 u832.2.2.1)], E3.row u832.2.1], [], 0⟩) [0, 5, 6, 7, 9, 12] [0, 1, 2, 3] (by kernel_rfl)) ?_
                  exact Ref.exitC 2 (t := (Sum.inl (u832.1, u832.2.1, u832.2.2.1))) (by kernel_rfl) (by kernel_rfl)
              ·
                refine Ref.regionC 23 (by kernel_rfl) ?_
                refine RefR.ev0 (st' := ⟨[(0, .c (E9.tree a0)), (5, .c (.own 0 u776.1.length)), (7, .c (.val (.int .i64 u560.2.2))), (9, .c (.val (.bool u826.1))), (90, .c (.own 1 u560.2.1.length)), (91, .agg [.own 2 u826.2.1.length, .val (.int .i64 u826.2.2)])], [E5.row u776.1, E45.row u560.2.1, E3.row u826.2.1], [], 0⟩) 0 2 2 [0, 5, 7, 9, 90, 91] [0, 1, 3] rfl (by kernel_rfl) ?_
                refine RefR.conv (Conv.freeze (st' := ⟨[(0, .c (E9.tree a0)), (5, .c (.own 0 u776.1.length)), (7, .c (.val (.int .i64 u560.2.2))), (9, .c (.val (.bool u826.1))), (90, .c (.own 1 u560.2.1.length)), (91, .agg [E3.tree u826.2.1, .val (.int .i64 u826.2.2)])], [E5.row u776.1, E45.row u560.2.1, .dead], [], 0⟩) 2 (by kernel_rfl)) ?_
                refine RefR.ev0 (st' := ⟨[(0, .c (E9.tree a0)), (5, .c (.own 0 u776.1.length)), (7, .c (.val (.int .i64 u560.2.2))), (9, .c (.val (.bool u826.1))), (90, .c (.own 1 u560.2.1.length)), (92, .c (.own 2 1))], [E5.row u776.1, E45.row u560.2.1, .row 45 2 1 (tbl [[E3.tree u826.2.1, .val (.int .i64 u826.2.2)]])], [], 0⟩) 2 1 3 [0, 5, 7, 9, 90, 92] [0, 1, 3] rfl (by kernel_rfl) ?_
                refine RefR.conv (Conv.obj 2 (E45.row [(⟨u826.2.1, u826.2.2⟩ : S45)]) (El.row_build E45 [(⟨u826.2.1, u826.2.2⟩ : S45)] rfl (by kernel_rfl)) (by kernel_rfl)) ?_
                refine RefR.conv (Conv.slot 92 (.c (.own 2 ([(⟨u826.2.1, u826.2.2⟩ : S45)].length))) (DLe.c (CLe.own (by simp))) (by kernel_rfl)) ?_
                refine RefR.evC (vs := [room ((u560.2.1.length + ([(⟨u826.2.1, u826.2.2⟩ : S45)].length)) * 32)]) (st' := ⟨[(0, .c (E9.tree a0)), (5, .c (.own 0 u776.1.length)), (7, .c (.val (.int .i64 u560.2.2))), (9, .c (.val (.bool u826.1))), (93, .c (.own 1 (u560.2.1.length + ([(⟨u826.2.1, u826.2.2⟩ : S45)].length))))], [E5.row u776.1, .row 45 2 (u560.2.1.length + ([(⟨u826.2.1, u826.2.2⟩ : S45)].length)) fun i j => bif Nat.blt i u560.2.1.length then E45.at u560.2.1 i j else (E45.at [(⟨u826.2.1, u826.2.2⟩ : S45)]) (i - u560.2.1.length) j], [], 0⟩) 3 1 4 [0, 5, 7, 9, 93] [0, 3] rfl (by kernel_rfl) ?_
                refine RefR.conv (Conv.obj 1 (E45.row (u560.2.1 ++ [(⟨u826.2.1, u826.2.2⟩ : S45)])) (El.row_append E45 u560.2.1 [(⟨u826.2.1, u826.2.2⟩ : S45)] rfl rfl) (by kernel_rfl)) ?_
                refine RefR.conv (Conv.slot 93 (.c (.own 1 ((u560.2.1 ++ [(⟨u826.2.1, u826.2.2⟩ : S45)]).length))) (DLe.c (CLe.own (by simp))) (by kernel_rfl)) ?_
                refine RefR.ev0 (st' := ⟨[(0, .c (E9.tree a0)), (5, .c (.own 0 u776.1.length)), (6, .c (.own 1 ((u560.2.1 ++ [(⟨u826.2.1, u826.2.2⟩ : S45)]).length))), (7, .c (.val (.int .i64 u560.2.2))), (9, .c (.val (.bool u826.1)))], [E5.row u776.1, E45.row (u560.2.1 ++ [(⟨u826.2.1, u826.2.2⟩ : S45)])], [], 0⟩) 4 1 5 [0, 5, 6, 7, 9] [0, 1] rfl (by kernel_rfl) ?_
                refine RefR.nilC 5 (by kernel_rfl) ?_
                exact Ref.nil (t := ((u560.2.1 ++ [(⟨u826.2.1, u826.2.2⟩ : S45)]), u826.1)) (by kernel_rfl)
            ·
              refine Ref.skipC (by kernel_rfl) ?_
              refine Ref.conv (Conv.keep (st' := ⟨[(0, .c (E9.tree a0)), (5, .c (.own 0 u776.1.length)), (6, .c (.own 1 u560.2.1.length)), (7, .c (.val (.int .i64 u560.2.2))), (9, .c (.val (.bool u776.2)))], [E5.row u776.1, E45.row u560.2.1], [], 0⟩) [0, 5, 6, 7, 9] [0, 1] (by kernel_rfl)) ?_
              exact Ref.nil (t := (u560.2.1, u776.2)) (by kernel_rfl)
          ·
            refine Ref.seqC (cd (bd Tryd.f27) [1, 1, 1, 0, 1, 0, 0, 1, 0, 0, 1, 1, 1, 1, 0]) (cd (bd Tryd.f27) [1, 1, 1, 0, 1, 0, 0, 1, 0, 0, 1, 1, 1, 1, 1]) (by kernel_rfl) ?_
            refine Ref.regionC 24 (by kernel_rfl) ?_
            refine RefR.ev0 (st' := ⟨[(0, .c (E9.tree a0)), (5, .c (.own 0 u776.1.length)), (6, .c (.own 1 u810.1.length)), (7, .c (.val (.int .i64 u560.2.2))), (95, .c (.val (.bool (!u810.2))))], [E5.row u776.1, E45.row u810.1], [], 0⟩) 0 2 2 [0, 5, 6, 7, 95] [0, 1] rfl (by kernel_rfl) ?_
            refine RefR.nilC 2 (by kernel_rfl) ?_
            refine Ref.condC (.tmp 95) (!u810.2) (by kernel_rfl) rfl (by kernel_rfl) (fun hc => ?_) (fun hc => ?_)
            ·
              refine Ref.seqC (cd (bd Tryd.f27) [1, 1, 1, 0, 1, 0, 0, 1, 0, 0, 1, 1, 1, 1, 1, 0, 0]) (cd (bd Tryd.f27) [1, 1, 1, 0, 1, 0, 0, 1, 0, 0, 1, 1, 1, 1, 1, 0, 1]) (by kernel_rfl) ?_
              refine Ref.regionC 25 (by kernel_rfl) ?_
              refine RefR.ev0 (st' := ⟨[(2, .c (.str ([] : Bytes))), (3, .c (.nil)), (4, .c (.val (.int .i64 (IntKind.i64.wrap (u560.2.2 + 1)))))], [], [], 0⟩) 0 5 5 [2, 3, 4] [] rfl (by kernel_rfl) ?_
              refine RefR.nilC 5 (by kernel_rfl) ?_
              refine Ref.conv (Conv.slot 3 (.c (E45.tree [])) (DLe.c (El.tree_nil E45)) (by kernel_rfl)) ?_
              refine Ref.conv (Conv.keep (st' := ⟨[(2, .c (.str ([] : Bytes))), (3, .c (E45.tree [])), (4, .c (.val (.int .i64 (IntKind.i64.wrap (u560.2.2 + 1)))))], [], [], 0⟩) [2, 3, 4] [] (by kernel_rfl)) ?_
              exact Ref.retC (t := (Sum.inr (Sum.inr (([] : Bytes), [], (IntKind.i64.wrap (u560.2.2 + 1)))))) (by kernel_rfl) (by kernel_rfl)
            ·
              refine Ref.skipC (by kernel_rfl) ?_
              refine Ref.conv (Conv.keep (st' := ⟨[(0, .c (E9.tree a0)), (5, .c (.own 0 u776.1.length)), (6, .c (.own 1 u810.1.length)), (7, .c (.val (.int .i64 u560.2.2)))], [E5.row u776.1, E45.row u810.1], [], 0⟩) [0, 5, 6, 7] [0, 1] (by kernel_rfl)) ?_
              exact Ref.nil (t := (u776.1, u810.1)) (by kernel_rfl)
      ·
        refine Ref.regionC 5 (by kernel_rfl) ?_
        refine RefR.ev0 (st' := ⟨[(0, .c (E9.tree a0)), (5, .c (.own 0 u772.1.length)), (6, .c (.own 1 u772.2.length)), (7, .c (.val (.int .i64 (IntKind.i64.wrap (u560.2.2 + 1)))))], [E5.row u772.1, E45.row u772.2], [], 0⟩) 0 3 3 [0, 5, 6, 7] [0, 1] rfl (by kernel_rfl) ?_
        refine RefR.nilC 3 (by kernel_rfl) ?_
        exact Ref.nil (t := (u772.1, u772.2, (IntKind.i64.wrap (u560.2.2 + 1)))) (by kernel_rfl)
    ·
      refine Ref.conv (Conv.keep (st' := ⟨[(5, .c (.own 0 u560.1.length)), (6, .c (.own 1 u560.2.1.length))], [E5.row u560.1, E45.row u560.2.1], [], 0⟩) [5, 6] [0, 1] (by kernel_rfl)) ?_
      exact Ref.exitC 0 (t := (Sum.inl (u560.1, u560.2.1))) (by kernel_rfl) (by kernel_rfl)
  ·
    refine Ref.seqC (cd (bd Tryd.f27) [1, 1, 1, 1, 0]) (cd (bd Tryd.f27) [1, 1, 1, 1, 1]) (by kernel_rfl) ?_
    refine Ref.regionC 26 (by kernel_rfl) ?_
    refine RefR.ev0 (st' := ⟨[(6, .c (.own 1 u419.2.length)), (98, .c (.own 0 u419.1.length))], [E5.row u419.1, E45.row u419.2], [], 0⟩) 0 1 1 [6, 98] [0, 1] rfl (by kernel_rfl) ?_
    refine RefR.bytesStr (t := 99) (d := .c (.own 0 u419.1.length)) 1 2 u419.1 (by kernel_rfl) (by kernel_rfl) (isBytes.own 0 5 (by kernel_rfl) (by kernel_rfl)) ?_
    refine RefR.ev0 (st' := ⟨[(2, .c (.str u419.1)), (3, .c (.own 0 u419.2.length)), (4, .c (.val (.int .i64 0)))], [E45.row u419.2], [], 0⟩) 2 4 6 [2, 3, 4] [1] rfl (by kernel_rfl) ?_
    refine RefR.nilC 6 (by kernel_rfl) ?_
    refine Ref.conv (Conv.freeze (st' := ⟨[(2, .c (.str u419.1)), (3, .c (E45.tree u419.2)), (4, .c (.val (.int .i64 0)))], [.dead], [], 0⟩) 0 (by kernel_rfl)) ?_
    refine Ref.conv (Conv.keep (st' := ⟨[(2, .c (.str u419.1)), (3, .c (E45.tree u419.2)), (4, .c (.val (.int .i64 0)))], [], [], 0⟩) [2, 3, 4] [] (by kernel_rfl)) ?_
    exact Ref.retC (t := (u419.1, u419.2, 0)) (by kernel_rfl) (by kernel_rfl)

/-- governor/governorref25.Parse -/
def F13 (K : Nat) (a0 : Bytes) : Option ((Bytes × (List S45) × Int × Int) ⊕ (Bytes × (List S45) × Int × Int)) :=
  (letV (decide (((Int.ofNat a0.length) : Int) > 65536)) (fun (x1 : Bool) => (if x1 = true then (some (.inl (([] : Bytes), [], 24, 0))) else ((fnS (F28 K a0)).bind (fun r2 => ((fnS (F27 K r2)).bind (fun r3 => (if (decide ((r3.2.2 : Int) > 0)) = true then (some (.inl (([] : Bytes), [], 23, r3.2.2))) else (some (.inl (r3.1, r3.2.1, 0, 0)))))))))))

theorem F13_ok (K : Nat) (a0 : Bytes) : DFun Tryd.prog 13 [.c (.str a0)] [] (fnS (F13 K a0)) (fun r => .tup [.c (.str r.1), .c (E45.tree r.2.1), .c (.val (.int .i64 r.2.2.1)), .c (.val (.int .i64 r.2.2.2))]) (fun r => []) := by
  refine DFun.intro (fn := Tryd.f13) (c := cd (bd Tryd.f13) []) (rs := fun r => ⟨[(2, .c (.str r.1)), (3, .c (E45.tree r.2.1)), (4, .c (.val (.int .i64 r.2.2.1))), (5, .c (.val (.int .i64 r.2.2.2)))], [], [], 0⟩) (by kernel_rfl) (by kernel_rfl) (by kernel_rfl) ?_ (fun r => by kernel_rfl) (fun r => by kernel_rfl) (fun r => by kernel_rfl) (fun r => by kernel_rfl)
  unfold F13
  refine Ref.seqC (cd (bd Tryd.f13) [0]) (cd (bd Tryd.f13) [1]) (by kernel_rfl) ?_
  refine Ref.regionC 0 (by kernel_rfl) ?_
  refine RefR.ev0 (st' := ⟨[(0, .c (.str a0))], [], [], 0⟩) 0 4 4 [0] [] rfl (by kernel_rfl) ?_
  refine RefR.nilC 4 (by kernel_rfl) ?_
  refine Ref.seqC (cd (bd Tryd.f13) [1, 0]) (cd (bd Tryd.f13) [1, 1]) (by kernel_rfl) ?_
  refine Ref.seqC (cd (bd Tryd.f13) [1, 0, 0]) (cd (bd Tryd.f13) [1, 0, 1]) (by kernel_rfl) ?_
  refine Ref.regionC 1 (by kernel_rfl) ?_
  refine RefR.ev0 (st' := ⟨[(0, .c (.str a0)), (11, .c (.val (.bool (decide (((Int.ofNat a0.length) : Int) > 65536)))))], [], [], 0⟩) 0 3 3 [0, 11] [] rfl (by kernel_rfl) ?_
  refine RefR.letC (stf := fun x1 => ⟨[(0, .c (.str a0)), (11, .c (.val (.bool x1)))], [], [], 0⟩) (by kernel_rfl) (fun x1 => ?_)
  refine RefR.nilC 3 (by kernel_rfl) ?_
  refine Ref.condC (.tmp 11) x1 (by kernel_rfl) rfl (by kernel_rfl) (fun hc => ?_) (fun hc => ?_)
  ·
    refine Ref.seqC (cd (bd Tryd.f13) [1, 0, 1, 0, 0]) (cd (bd Tryd.f13) [1, 0, 1, 0, 1]) (by kernel_rfl) ?_
    refine Ref.regionC 2 (by kernel_rfl) ?_
    refine RefR.ev0 (st' := ⟨[(2, .c (.str ([] : Bytes))), (3, .c (.nil)), (4, .c (.val (.int .i64 24))), (5, .c (.val (.int .i64 0)))], [], [], 0⟩) 0 4 4 [2, 3, 4, 5] [] rfl (by kernel_rfl) ?_
    refine RefR.nilC 4 (by kernel_rfl) ?_
    refine Ref.conv (Conv.slot 3 (.c (E45.tree [])) (DLe.c (El.tree_nil E45)) (by kernel_rfl)) ?_
    refine Ref.conv (Conv.keep (st' := ⟨[(2, .c (.str ([] : Bytes))), (3, .c (E45.tree [])), (4, .c (.val (.int .i64 24))), (5, .c (.val (.int .i64 0)))], [], [], 0⟩) [2, 3, 4, 5] [] (by kernel_rfl)) ?_
    exact Ref.retC (t := (([] : Bytes), [], 24, 0)) (by kernel_rfl) (by kernel_rfl)
  ·
    refine Ref.skipC (by kernel_rfl) ?_
    refine Ref.seqC (cd (bd Tryd.f13) [1, 1, 0]) (cd (bd Tryd.f13) [1, 1, 1]) (by kernel_rfl) ?_
    refine Ref.regionC 3 (by kernel_rfl) ?_
    refine RefR.ev0 (st' := ⟨[(13, .c (.str a0))], [], [], 0⟩) 0 1 1 [13] [] rfl (by kernel_rfl) ?_
    refine RefR.callC (t := 14) 1 2 [] rfl (by kernel_rfl) (F28_ok K a0) (fun r2 => ?_)
    refine RefR.callC (t := 15) 2 3 [] rfl (by kernel_rfl) (F27_ok K r2) (fun r3 => ?_)
    refine RefR.ev0 (st' := ⟨[(6, .c (.str r3.1)), (7, .c (E45.tree r3.2.1)), (8, .c (.val (.int .i64 r3.2.2)))], [], [], 0⟩) 3 7 10 [6, 7, 8] [] rfl (by kernel_rfl) ?_
    refine RefR.nilC 10 (by kernel_rfl) ?_
    refine Ref.seqC (cd (bd Tryd.f13) [1, 1, 1, 0]) (cd (bd Tryd.f13) [1, 1, 1, 1]) (by kernel_rfl) ?_
    refine Ref.seqC (cd (bd Tryd.f13) [1, 1, 1, 0, 0]) (cd (bd Tryd.f13) [1, 1, 1, 0, 1]) (by kernel_rfl) ?_
    refine Ref.regionC 4 (by kernel_rfl) ?_
    refine RefR.ev0 (st' := ⟨[(6, .c (.str r3.1)), (7, .c (E45.tree r3.2.1)), (8, .c (.val (.int .i64 r3.2.2))), (20, .c (.val (.bool (decide ((r3.2.2 : Int) > 0)))))], [], [], 0⟩) 0 2 2 [6, 7, 8, 20] [] rfl (by kernel_rfl) ?_
    refine RefR.nilC 2 (by kernel_rfl) ?_
    refine Ref.condC (.tmp 20) (decide ((r3.2.2 : Int) > 0)) (by kernel_rfl) rfl (by kernel_rfl) (fun hc => ?_) (fun hc => ?_)
    ·
      refine Ref.seqC (cd (bd Tryd.f13) [1, 1, 1, 0, 1, 0, 0]) (cd (bd Tryd.f13) [1, 1, 1, 0, 1, 0, 1]) (by kernel_rfl) ?_
      refine Ref.regionC 5 (by kernel_rfl) ?_
      refine RefR.ev0 (st' := ⟨[(2, .c (.str ([] : Bytes))), (3, .c (.nil)), (4, .c (.val (.int .i64 23))), (5, .c (.val (.int .i64 r3.2.2)))], [], [], 0⟩) 0 5 5 [2, 3, 4, 5] [] rfl (by kernel_rfl) ?_
      refine RefR.nilC 5 (by kernel_rfl) ?_
      refine Ref.conv (Conv.slot 3 (.c (E45.tree [])) (DLe.c (El.tree_nil E45)) (by kernel_rfl)) ?_
      refine Ref.conv (Conv.keep (st' := ⟨[(2, .c (.str ([] : Bytes))), (3, .c (E45.tree [])), (4, .c (.val (.int .i64 23))), (5, .c (.val (.int .i64 r3.2.2)))], [], [], 0⟩) [2, 3, 4, 5] [] (by kernel_rfl)) ?_
      exact Ref.retC (t := (([] : Bytes), [], 23, r3.2.2)) (by kernel_rfl) (by kernel_rfl)
    ·
      refine Ref.skipC (by kernel_rfl) ?_
      refine Ref.seqC (cd (bd Tryd.f13) [1, 1, 1, 1, 0]) (cd (bd Tryd.f13) [1, 1, 1, 1, 1]) (by kernel_rfl) ?_
      refine Ref.regionC 6 (by kernel_rfl) ?_
      refine RefR.ev0 (st' := ⟨[(2, .c (.str r3.1)), (3, .c (E45.tree r3.2.1)), (4, .c (.val (.int .i64 0))), (5, .c (.val (.int .i64 0)))], [], [], 0⟩) 0 6 6 [2, 3, 4, 5] [] rfl (by kernel_rfl) ?_
      refine RefR.nilC 6 (by kernel_rfl) ?_
      exact Ref.retC (t := (r3.1, r3.2.1, 0, 0)) (by kernel_rfl) (by kernel_rfl)

end Go.Proofs.YtmllhpnlceaneaaDoor
