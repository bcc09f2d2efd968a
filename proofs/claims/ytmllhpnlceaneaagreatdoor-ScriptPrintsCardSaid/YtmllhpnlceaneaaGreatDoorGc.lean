/- Plain functions, and that the Go functions do what these do: printed by gen2.py. No conditions. -/
import Derived.Test.YtmllhpnlceaneaaGreatDoorGb
import Derived.Test.YtmllhpnlceaneaaGreatDoorProg
set_option linter.unusedVariables false
set_option linter.unusedSimpArgs false
set_option linter.unusedSectionVars false
namespace Go.Proofs.YtmllhpnlceaneaaGreatDoor
open Go Go.Proofs Go.Dl
set_option maxRecDepth 100000

/-- governor/script.Parse -/
def F9 (K : Nat) (a0 : Bytes) : Option ((Bytes × (List S35) × Err) ⊕ (Bytes × (List S35) × Err)) :=
 (letV (decide (((Int.ofNat a0.length) : Int) > 65536)) (fun (x1 : Bool) => (if x1 = true then ((fnS (F16 K 24 0)).bind (fun r2 => (some (.inl (([] : Bytes), [], r2))))) else (bindS (blockS ((iter K (fun (u140 : Bytes × Bool × (List UInt8) × (List S35) × Int) => (if (!(u140.1 == ([] : Bytes))) = true then (bindS (blockS ((fnS (F22 K u140.1 ([10] : Bytes))).bind (fun r192 => ((fnS (F23 K r192.1 ([32] : Bytes))).bind (fun r193 => (bindS (blockS (chk [inb 0 r193.length] (letV (((r193.getD (0 : Int).toNat default) == ([115, 114, 99] : Bytes)) && (((Int.ofNat r193.length) : Int) == 2)) (fun (x201 : Bool) => (if x201 = true then (chk [inb 1 r193.length] ((fnS (F24 K (r193.getD (1 : Int).toNat default))).bind (fun r202 => ((fnS (F13 K (⟨u140.2.1, u140.2.2.1⟩ : S46) r202.1)).bind (fun r203 => (some (.inr (r203.2.2.faddr, r203.2.2.fbuf, u140.2.2.2.1, r202.2)))))))) else (chk [inb 0 r193.length] (letV ((r193.getD (0 : Int).toNat default) == ([115, 99, 97, 110] : Bytes)) (fun (x204 : Bool) => (if x204 = true then (chk [bndOk r193.length 1 (Int.ofNat r193.length)] (letV ((r193.drop (1 : Int).toNat).take (((Int.ofNat r193.length) : Int).toNat - (1 : Int).toNat)) (fun (x205 : (List Bytes)) => ((fnS (F25 K x205)).bind (fun r206 => (chk [room ((u140.2.2.2.1.length + ([r206.1].length)) * 32)] (some (.inr (u140.2.1, u140.2.2.1, (u140.2.2.2.1 ++ [r206.1]), r206.2))))))))) else (some (.inr (u140.2.1, u140.2.2.1, u140.2.2.2.1, false)))))))))))) (fun (u200 : Bool × (List UInt8) × (List S35) × Bool) => (if (!u200.2.2.2) = true then ((fnS (F16 K 23 u140.2.2.2.2)).bind (fun r207 => (some (.inl (Sum.inr (Sum.inr (([] : Bytes), [], r207))))))) else (some (.inr (r192.2.1, u200.1, u200.2.1, u200.2.2.1))))))))))) (fun (u191 : Bytes × Bool × (List UInt8) × (List S35)) => (some (.inr (u191.1, u191.2.1, u191.2.2.1, u191.2.2.2, (IntKind.i64.wrap (u140.2.2.2.2 + 1))))))) else (some (.inl (Sum.inl (u140.2.1, u140.2.2.1, u140.2.2.2.1)))))) (a0, false, [], [], 1)).map .inl)) (fun (u105 : Bool × (List UInt8) × (List S35)) => ((fnS (F18 K (⟨u105.1, u105.2.1⟩ : S46))).bind (fun r208 => (some (.inl (r208, u105.2.2, none))))))))))

theorem F9_ok (K : Nat) (a0 : Bytes) : DFun Tryz.prog 9 [.c (.str a0)] [] (fnS (F9 K a0)) (fun r => .tup [.c (.str r.1), .c (E35.tree r.2.1), .c (errC r.2.2)]) (fun r => []) := by
 refine DFun.intro (fn := Tryz.f9) (c := cd (bd Tryz.f9) []) (rs := fun r => ⟨[sS 2 r.1, (3, .c (E35.tree r.2.1)), (4, .c (errC r.2.2))], [], [], 0⟩) (by kernel_rfl) (by kernel_rfl) (by kernel_rfl) ?_ (fun r => by kernel_rfl) (fun r => by kernel_rfl) (fun r => by kernel_rfl) (fun r => by kernel_rfl)
 unfold F9
 refine Ref.sq ?_
 refine Ref.rn 0 ?_
 refine RefR.e0 (st' := ⟨[sS 0 a0], [], [], 0⟩) 0 3 3 [0] [] ?_
 refine RefR.nl 3 ?_
 refine Ref.sq ?_
 refine Ref.sq ?_
 refine Ref.rn 1 ?_
 refine RefR.e0 (st' := ⟨[sS 0 a0, sB 17 (decide (((Int.ofNat a0.length) : Int) > 65536))], [], [], 0⟩) 0 3 3 [0, 17] [] ?_
 refine RefR.letC (stf := fun x1 => ⟨[sS 0 a0, sB 17 x1], [], [], 0⟩) (by kernel_rfl) (fun x1 => ?_)
 refine RefR.nl 3 ?_
 refine Ref.cn (.tmp 17) x1 (fun hc => ?_) (fun hc => ?_)
 ·
  refine Ref.sq ?_
  refine Ref.rn 2 ?_
  refine RefR.callC (t := 18) 0 1 [] rfl (by kernel_rfl) (F16_ok K 24 0) (fun r2 => ?_)
  refine RefR.e0 (st' := ⟨[sS 2 ([] : Bytes), (3, .c (.nil)), (4, .c (errC r2))], [], [], 0⟩) 1 3 4 [2, 3, 4] [] ?_
  refine RefR.nl 4 ?_
  refine Ref.conv (Conv.slot 3 (.c (E35.tree [])) (DLe.c (El.tree_nil E35)) (by kernel_rfl)) ?_
  refine Ref.conv (Conv.keep (st' := ⟨[sS 2 ([] : Bytes), (3, .c (E35.tree [])), (4, .c (errC r2))], [], [], 0⟩) [2, 3, 4] [] (by kernel_rfl)) ?_
  exact Ref.rt (t := (([] : Bytes), [], r2))
 ·
  refine Ref.sk ?_
  refine Ref.sq ?_
  refine Ref.rn 3 ?_
  refine RefR.allocSelf (d := 5) (t := 46) (cl := [.nil]) 0 1 (by kernel_rfl) (by kernel_rfl) ?_
  refine RefR.nl 1 ?_
  refine Ref.sq ?_
  refine Ref.rn 4 ?_
  refine RefR.e0 (st' := ⟨[sS 0 a0, sP 5 0 0 0, (6, .c (.nil))], [.cells [.self 46 false 0, .nil]], [], 0⟩) 0 1 1 [0, 5, 6] [0] ?_
  refine RefR.nl 1 ?_
  refine Ref.sq ?_
  refine Ref.sq ?_
  refine Ref.rn 5 ?_
  refine RefR.e0 (st' := ⟨[sS 0 a0, sP 5 0 0 0, (6, .c (.nil)), sI 7 1], [.cells [.self 46 false 0, .nil]], [], 0⟩) 0 1 1 [0, 5, 6, 7] [0] ?_
  refine RefR.nl 1 ?_
  refine Ref.codeEq (c' := .block 0 (cd (bd Tryz.f9) [1, 1, 1, 1, 0, 1, 0])) (by kernel_rfl) ?_
  refine Ref.block (go1 := fun u105 => ⟨[sP 5 0 0 0, (6, .c (.own 2 u105.2.2.length))], [.cells [.self 46 u105.1 0, .own 1 u105.2.1.length], E5.row u105.2.1, E35.row u105.2.2], [], 0⟩) ?_ (fun _ h => by cases h) (fun u105 => ?_)
  ·
   refine Ref.codeEq (c' := .loop (cd (bd Tryz.f9) [1, 1, 1, 1, 0, 1, 0, 0])) (by kernel_rfl) ?_
   refine Ref.conv (Conv.adopt 6 E35.ty E35.w (E35.at []) (by kernel_rfl) (by kernel_rfl) (by kernel_rfl)) ?_
   refine Ref.conv (Conv.adoptCell (st' := ⟨[(6, .c (.own 1 0)), sS 0 a0, sP 5 0 0 0, sI 7 1], [.cells [.self 46 false 0, .own 2 0], E35.row [], E5.row []], [], 0⟩) 0 1 E5.ty E5.w (E5.at []) (by kernel_rfl)) ?_
   refine Ref.conv (Conv.keep (st' := ⟨[sS 0 a0, sP 5 0 0 0, (6, .c (.own 2 0)), sI 7 1], [.cells [.self 46 false 0, .own 1 0], E5.row [], E35.row []], [], 0⟩) [0, 5, 6, 7] [0, 2, 1] (by kernel_rfl)) ?_
   refine Ref.loop (hd := fun u140 => ⟨[sS 0 u140.1, sP 5 0 0 0, (6, .c (.own 2 u140.2.2.2.1.length)), sI 7 u140.2.2.2.2], [.cells [.self 46 u140.2.1 0, .own 1 u140.2.2.1.length], E5.row u140.2.2.1, E35.row u140.2.2.2.1], [], 0⟩) K (a0, false, [], [], 1) (by kernel_rfl) (fun u140 => ?_)
   refine Ref.sq ?_
   refine Ref.sq ?_
   refine Ref.rn 6 ?_
   refine RefR.e0 (st' := ⟨[sS 0 u140.1, sP 5 0 0 0, (6, .c (.own 2 u140.2.2.2.1.length)), sI 7 u140.2.2.2.2, sB 20 (!(u140.1 == ([] : Bytes)))], [.cells [.self 46 u140.2.1 0, .own 1 u140.2.2.1.length], E5.row u140.2.2.1, E35.row u140.2.2.2.1], [], 0⟩) 0 2 2 [0, 5, 6, 7, 20] [0, 1, 2] ?_
   refine RefR.nl 2 ?_
   refine Ref.cn (.tmp 20) (!(u140.1 == ([] : Bytes))) (fun hc => ?_) (fun hc => ?_)
   ·
    refine Ref.sk ?_
    refine Ref.sq ?_
    refine Ref.codeEq (c' := .block 1 (cd (bd Tryz.f9) [1, 1, 1, 1, 0, 1, 0, 0, 1, 0, 0])) (by kernel_rfl) ?_
    refine Ref.block (go1 := fun u191 => ⟨[sS 0 u191.1, sP 5 0 0 0, (6, .c (.own 2 u191.2.2.2.length)), sI 7 u140.2.2.2.2], [.cells [.self 46 u191.2.1 0, .own 1 u191.2.2.1.length], E5.row u191.2.2.1, E35.row u191.2.2.2], [], 0⟩) ?_ (fun a => match a with | .inl _ => (fun h => by cases h) | .inr _ => (fun h => by cases h)) (fun u191 => ?_)
    ·
     refine Ref.sq ?_
     refine Ref.rn 8 ?_
     refine RefR.e0 (st' := ⟨[sP 5 0 0 0, (6, .c (.own 2 u140.2.2.2.1.length)), sI 7 u140.2.2.2.2, sS 24 u140.1], [.cells [.self 46 u140.2.1 0, .own 1 u140.2.2.1.length], E5.row u140.2.2.1, E35.row u140.2.2.2.1], [], 0⟩) 0 1 1 [5, 6, 7, 24] [0, 1, 2] ?_
     refine RefR.callC (t := 25) 1 2 [] rfl (by kernel_rfl) (F22_ok K u140.1 ([10] : Bytes)) (fun r192 => ?_)
     refine RefR.e0 (st' := ⟨[sP 5 0 0 0, (6, .c (.own 2 u140.2.2.2.1.length)), sI 7 u140.2.2.2.2, sS 8 r192.1, sS 9 r192.2.1], [.cells [.self 46 u140.2.1 0, .own 1 u140.2.2.1.length], E5.row u140.2.2.1, E35.row u140.2.2.2.1], [], 0⟩) 2 7 9 [5, 6, 7, 8, 9] [0, 1, 2] ?_
     refine RefR.nl 9 ?_
     refine Ref.sq ?_
     refine Ref.rn 9 ?_
     refine RefR.e0 (st' := ⟨[sS 0 r192.2.1, sP 5 0 0 0, (6, .c (.own 2 u140.2.2.2.1.length)), sI 7 u140.2.2.2.2, sS 8 r192.1], [.cells [.self 46 u140.2.1 0, .own 1 u140.2.2.1.length], E5.row u140.2.2.1, E35.row u140.2.2.2.1], [], 0⟩) 0 2 2 [0, 5, 6, 7, 8] [0, 1, 2] ?_
     refine RefR.nl 2 ?_
     refine Ref.sq ?_
     refine Ref.rn 10 ?_
     refine RefR.e0 (st' := ⟨[sS 0 r192.2.1, sP 5 0 0 0, (6, .c (.own 2 u140.2.2.2.1.length)), sI 7 u140.2.2.2.2, sS 30 r192.1], [.cells [.self 46 u140.2.1 0, .own 1 u140.2.2.1.length], E5.row u140.2.2.1, E35.row u140.2.2.2.1], [], 0⟩) 0 1 1 [0, 5, 6, 7, 30] [0, 1, 2] ?_
     refine RefR.callC (t := 31) 1 2 [] rfl (by kernel_rfl) (F23_ok K r192.1 ([32] : Bytes)) (fun r193 => ?_)
     refine RefR.e0 (st' := ⟨[sS 0 r192.2.1, sP 5 0 0 0, (6, .c (.own 2 u140.2.2.2.1.length)), sI 7 u140.2.2.2.2, (11, .c (E9.tree r193))], [.cells [.self 46 u140.2.1 0, .own 1 u140.2.2.1.length], E5.row u140.2.2.1, E35.row u140.2.2.2.1], [], 0⟩) 2 1 3 [0, 5, 6, 7, 11] [0, 1, 2] ?_
     refine RefR.nl 3 ?_
     refine Ref.sq ?_
     refine Ref.rn 11 ?_
     refine RefR.e0 (st' := ⟨[sS 0 r192.2.1, sP 5 0 0 0, (6, .c (.own 2 u140.2.2.2.1.length)), sI 7 u140.2.2.2.2, (11, .c (E9.tree r193)), sB 12 false], [.cells [.self 46 u140.2.1 0, .own 1 u140.2.2.1.length], E5.row u140.2.2.1, E35.row u140.2.2.2.1], [], 0⟩) 0 1 1 [0, 5, 6, 7, 11, 12] [0, 1, 2] ?_
     refine RefR.nl 1 ?_
     refine Ref.sq ?_
     refine Ref.codeEq (c' := .block 2 (cd (bd Tryz.f9) [1, 1, 1, 1, 0, 1, 0, 0, 1, 0, 0, 1, 1, 1, 1, 0, 0])) (by kernel_rfl) ?_
     refine Ref.block (go1 := fun u200 => ⟨[sS 0 r192.2.1, sP 5 0 0 0, (6, .c (.own 2 u200.2.2.1.length)), sI 7 u140.2.2.2.2, sB 12 u200.2.2.2], [.cells [.self 46 u200.1 0, .own 1 u200.2.1.length], E5.row u200.2.1, E35.row u200.2.2.1], [], 0⟩) ?_ (fun a => match a with | .inl _ => (fun h => by cases h) | .inr (.inl _) => (fun h => by cases h) | .inr (.inr _) => (fun h => by cases h)) (fun u200 => ?_)
     ·
      refine Ref.sq ?_
      refine Ref.rn 12 ?_
      refine RefR.evC (vs := [inb 0 r193.length]) (st' := ⟨[sS 0 r192.2.1, sP 5 0 0 0, (6, .c (.own 2 u140.2.2.2.1.length)), sI 7 u140.2.2.2.2, (11, .c (E9.tree r193)), sB 12 false, sB 32 (((r193.getD (0 : Int).toNat default) == ([115, 114, 99] : Bytes)) && (((Int.ofNat r193.length) : Int) == 2))], [.cells [.self 46 u140.2.1 0, .own 1 u140.2.2.1.length], E5.row u140.2.2.1, E35.row u140.2.2.2.1], [], 0⟩) 0 10 10 [0, 5, 6, 7, 11, 12, 32] [0, 1, 2] rfl (by kernel_rfl) ?_
      refine RefR.letC (stf := fun x201 => ⟨[sS 0 r192.2.1, sP 5 0 0 0, (6, .c (.own 2 u140.2.2.2.1.length)), sI 7 u140.2.2.2.2, (11, .c (E9.tree r193)), sB 12 false, sB 32 x201], [.cells [.self 46 u140.2.1 0, .own 1 u140.2.2.1.length], E5.row u140.2.2.1, E35.row u140.2.2.2.1], [], 0⟩) (by kernel_rfl) (fun x201 => ?_)
      refine RefR.nl 10 ?_
      refine Ref.cn (.tmp 32) x201 (fun hc => ?_) (fun hc => ?_)
      ·
       refine Ref.sq ?_
       refine Ref.rn 13 ?_
       refine RefR.e0 (st' := ⟨[sS 0 r192.2.1, sP 5 0 0 0, (6, .c (.own 2 u140.2.2.2.1.length)), sI 7 u140.2.2.2.2, (11, .c (E9.tree r193))], [.cells [.self 46 u140.2.1 0, .own 1 u140.2.2.1.length], E5.row u140.2.2.1, E35.row u140.2.2.2.1], [], 0⟩) 0 1 1 [0, 5, 6, 7, 11] [0, 1, 2] ?_
       refine RefR.nl 1 ?_
       refine Ref.sq ?_
       refine Ref.rn 14 ?_
       refine RefR.evC (vs := [inb 1 r193.length]) (st' := ⟨[sS 0 r192.2.1, sP 5 0 0 0, (6, .c (.own 2 u140.2.2.2.1.length)), sI 7 u140.2.2.2.2, sS 45 (r193.getD (1 : Int).toNat default)], [.cells [.self 46 u140.2.1 0, .own 1 u140.2.2.1.length], E5.row u140.2.2.1, E35.row u140.2.2.2.1], [], 0⟩) 0 3 3 [0, 5, 6, 7, 45] [0, 1, 2] rfl (by kernel_rfl) ?_
       refine RefR.callC (t := 46) 3 4 [] rfl (by kernel_rfl) (F24_ok K (r193.getD (1 : Int).toNat default)) (fun r202 => ?_)
       refine RefR.e0 (st' := ⟨[sS 0 r192.2.1, sP 5 0 0 0, (6, .c (.own 2 u140.2.2.2.1.length)), sI 7 u140.2.2.2.2, sB 12 r202.2, sS 13 r202.1], [.cells [.self 46 u140.2.1 0, .own 1 u140.2.2.1.length], E5.row u140.2.2.1, E35.row u140.2.2.2.1], [], 0⟩) 4 5 9 [0, 5, 6, 7, 12, 13] [0, 1, 2] ?_
       refine RefR.nl 9 ?_
       refine Ref.rn 15 ?_
       refine RefR.e0 (st' := ⟨[sS 0 r192.2.1, sP 5 0 0 0, (6, .c (.own 2 u140.2.2.2.1.length)), sI 7 u140.2.2.2.2, sB 12 r202.2, sS 49 r202.1], [.cells [.self 46 u140.2.1 0, .own 1 u140.2.2.1.length], E5.row u140.2.2.1, E35.row u140.2.2.2.1], [], 0⟩) 0 1 1 [0, 5, 6, 7, 12, 49] [0, 1, 2] ?_
       refine RefR.callC (t := 50) 1 2 [0, 1] rfl (by kernel_rfl) (F13_ok K (⟨u140.2.1, u140.2.2.1⟩ : S46) r202.1) (fun r203 => ?_)
       refine RefR.nl 2 ?_
       refine Ref.conv (Conv.keep (st' := ⟨[sS 0 r192.2.1, sP 5 0 0 0, (6, .c (.own 2 u140.2.2.2.1.length)), sI 7 u140.2.2.2.2, sB 12 r202.2], [.cells [.self 46 r203.2.2.faddr 0, .own 1 r203.2.2.fbuf.length], E5.row r203.2.2.fbuf, E35.row u140.2.2.2.1], [], 0⟩) [0, 5, 6, 7, 12] [0, 3, 2] (by kernel_rfl)) ?_
       exact Ref.n0 (t := (r203.2.2.faddr, r203.2.2.fbuf, u140.2.2.2.1, r202.2))
      ·
       refine Ref.sq ?_
       refine Ref.rn 16 ?_
       refine RefR.evC (vs := [inb 0 r193.length]) (st' := ⟨[sS 0 r192.2.1, sP 5 0 0 0, (6, .c (.own 2 u140.2.2.2.1.length)), sI 7 u140.2.2.2.2, (11, .c (E9.tree r193)), sB 12 false, sB 51 ((r193.getD (0 : Int).toNat default) == ([115, 99, 97, 110] : Bytes))], [.cells [.self 46 u140.2.1 0, .own 1 u140.2.2.1.length], E5.row u140.2.2.1, E35.row u140.2.2.2.1], [], 0⟩) 0 5 5 [0, 5, 6, 7, 11, 12, 51] [0, 1, 2] rfl (by kernel_rfl) ?_
       refine RefR.letC (stf := fun x204 => ⟨[sS 0 r192.2.1, sP 5 0 0 0, (6, .c (.own 2 u140.2.2.2.1.length)), sI 7 u140.2.2.2.2, (11, .c (E9.tree r193)), sB 12 false, sB 51 x204], [.cells [.self 46 u140.2.1 0, .own 1 u140.2.2.1.length], E5.row u140.2.2.1, E35.row u140.2.2.2.1], [], 0⟩) (by kernel_rfl) (fun x204 => ?_)
       refine RefR.nl 5 ?_
       refine Ref.cn (.tmp 51) x204 (fun hc => ?_) (fun hc => ?_)
       ·
        refine Ref.sq ?_
        refine Ref.rn 17 ?_
        refine RefR.e0 (st' := ⟨[sS 0 r192.2.1, sP 5 0 0 0, (6, .c (.own 2 u140.2.2.2.1.length)), sI 7 u140.2.2.2.2, (11, .c (E9.tree r193)), sP 14 3 0 0], [.cells [.self 46 u140.2.1 0, .own 1 u140.2.2.1.length], E5.row u140.2.2.1, E35.row u140.2.2.2.1, .cells [.nil, .val (.int .i64 0)]], [], 0⟩) 0 1 1 [0, 5, 6, 7, 11, 14] [0, 1, 2, 3] ?_
        refine RefR.nl 1 ?_
        refine Ref.sq ?_
        refine Ref.rn 18 ?_
        refine RefR.evH (vs := [bndOk r193.length 1 (Int.ofNat r193.length)]) (st' := ⟨[sS 0 r192.2.1, sP 5 0 0 0, (6, .c (.own 2 u140.2.2.2.1.length)), sI 7 u140.2.2.2.2, sP 14 3 0 0, (58, .c (.tree E9.w (((Int.ofNat r193.length) : Int).toNat - (1 : Int).toNat) fun i j => E9.at r193 ((1 : Int).toNat + i) j))], [.cells [.self 46 u140.2.1 0, .own 1 u140.2.2.1.length], E5.row u140.2.2.1, E35.row u140.2.2.2.1, .cells [.nil, .val (.int .i64 0)]], [], 0⟩) 0 2 2 [0, 5, 6, 7, 14, 58] [0, 1, 2, 3] rfl (by kernel_rfl) (fun hv => ?_)
        refine RefR.conv (Conv.slot 58 (.c (E9.tree ((r193.drop (1 : Int).toNat).take (((Int.ofNat r193.length) : Int).toNat - (1 : Int).toNat)))) (DLe.c (El.tree_slice E9 _ (bndOk_le (hv _ (List.Mem.head _))))) (by kernel_rfl)) ?_
        refine RefR.letC (stf := fun x205 => ⟨[(58, .c (E9.tree x205)), sS 0 r192.2.1, sP 5 0 0 0, (6, .c (.own 2 u140.2.2.2.1.length)), sI 7 u140.2.2.2.2, sP 14 3 0 0], [.cells [.self 46 u140.2.1 0, .own 1 u140.2.2.1.length], E5.row u140.2.2.1, E35.row u140.2.2.2.1, .cells [.nil, .val (.int .i64 0)]], [], 0⟩) (by kernel_rfl) (fun x205 => ?_)
        refine RefR.callC (t := 59) 2 3 [] rfl (by kernel_rfl) (F25_ok K x205) (fun r206 => ?_)
        refine RefR.e0 (st' := ⟨[sS 0 r192.2.1, sP 5 0 0 0, (6, .c (.own 2 u140.2.2.2.1.length)), sI 7 u140.2.2.2.2, sB 12 r206.2, sP 14 3 0 0], [.cells [.self 46 u140.2.1 0, .own 1 u140.2.2.1.length], E5.row u140.2.2.1, E35.row u140.2.2.2.1, .cells (E35.cs r206.1)], [], 0⟩) 3 5 8 [0, 5, 6, 7, 12, 14] [0, 1, 2, 3] ?_
        refine RefR.nl 8 ?_
        refine Ref.rn 19 ?_
        refine RefR.e0 (st' := ⟨[sS 0 r192.2.1, sP 5 0 0 0, sI 7 u140.2.2.2.2, sB 12 r206.2, (62, .c (.own 2 u140.2.2.2.1.length)), (63, .agg (E35.cs r206.1))], [.cells [.self 46 u140.2.1 0, .own 1 u140.2.2.1.length], E5.row u140.2.2.1, E35.row u140.2.2.2.1], [], 0⟩) 0 2 2 [0, 5, 7, 12, 62, 63] [0, 1, 2] ?_
        refine RefR.e0 (st' := ⟨[sS 0 r192.2.1, sP 5 0 0 0, sI 7 u140.2.2.2.2, sB 12 r206.2, (62, .c (.own 2 u140.2.2.2.1.length)), (64, .c (.own 3 1))], [.cells [.self 46 u140.2.1 0, .own 1 u140.2.2.1.length], E5.row u140.2.2.1, E35.row u140.2.2.2.1, .row 35 2 1 (tbl [(E35.cs r206.1)])], [], 0⟩) 2 1 3 [0, 5, 7, 12, 62, 64] [0, 1, 2, 3] ?_
        refine RefR.conv (Conv.obj 3 (E35.row [r206.1]) (El.row_build E35 [r206.1] rfl (by kernel_rfl)) (by kernel_rfl)) ?_
        refine RefR.conv (Conv.slot 64 (.c (.own 3 ([r206.1].length))) (DLe.c (CLe.own (by simp <;> omega))) (by kernel_rfl)) ?_
        refine RefR.evC (vs := [room ((u140.2.2.2.1.length + ([r206.1].length)) * 32)]) (st' := ⟨[sS 0 r192.2.1, sP 5 0 0 0, sI 7 u140.2.2.2.2, sB 12 r206.2, (65, .c (.own 2 (u140.2.2.2.1.length + ([r206.1].length))))], [.cells [.self 46 u140.2.1 0, .own 1 u140.2.2.1.length], E5.row u140.2.2.1, .row 35 2 (u140.2.2.2.1.length + ([r206.1].length)) fun i j => bif Nat.blt i u140.2.2.2.1.length then E35.at u140.2.2.2.1 i j else (E35.at [r206.1]) (i - u140.2.2.2.1.length) j], [], 0⟩) 3 1 4 [0, 5, 7, 12, 65] [0, 1, 4] rfl (by kernel_rfl) ?_
        refine RefR.conv (Conv.obj 2 (E35.row (u140.2.2.2.1 ++ [r206.1])) (El.row_append E35 u140.2.2.2.1 [r206.1] rfl rfl) (by kernel_rfl)) ?_
        refine RefR.conv (Conv.slot 65 (.c (.own 2 ((u140.2.2.2.1 ++ [r206.1]).length))) (DLe.c (CLe.own (by simp <;> omega))) (by kernel_rfl)) ?_
        refine RefR.e0 (st' := ⟨[sS 0 r192.2.1, sP 5 0 0 0, (6, .c (.own 2 ((u140.2.2.2.1 ++ [r206.1]).length))), sI 7 u140.2.2.2.2, sB 12 r206.2], [.cells [.self 46 u140.2.1 0, .own 1 u140.2.2.1.length], E5.row u140.2.2.1, E35.row (u140.2.2.2.1 ++ [r206.1])], [], 0⟩) 4 1 5 [0, 5, 6, 7, 12] [0, 1, 2] ?_
        refine RefR.nl 5 ?_
        exact Ref.n0 (t := (u140.2.1, u140.2.2.1, (u140.2.2.2.1 ++ [r206.1]), r206.2))
       ·
        refine Ref.sk ?_
        refine Ref.conv (Conv.keep (st' := ⟨[sS 0 r192.2.1, sP 5 0 0 0, (6, .c (.own 2 u140.2.2.2.1.length)), sI 7 u140.2.2.2.2, sB 12 false], [.cells [.self 46 u140.2.1 0, .own 1 u140.2.2.1.length], E5.row u140.2.2.1, E35.row u140.2.2.2.1], [], 0⟩) [0, 5, 6, 7, 12] [0, 1, 2] (by kernel_rfl)) ?_
        exact Ref.n0 (t := (u140.2.1, u140.2.2.1, u140.2.2.2.1, false))
     ·
      refine Ref.sq ?_
      refine Ref.rn 20 ?_
      refine RefR.e0 (st' := ⟨[sS 0 r192.2.1, sP 5 0 0 0, (6, .c (.own 2 u200.2.2.1.length)), sI 7 u140.2.2.2.2, sB 67 (!u200.2.2.2)], [.cells [.self 46 u200.1 0, .own 1 u200.2.1.length], E5.row u200.2.1, E35.row u200.2.2.1], [], 0⟩) 0 2 2 [0, 5, 6, 7, 67] [0, 1, 2] ?_
      refine RefR.nl 2 ?_
      refine Ref.cn (.tmp 67) (!u200.2.2.2) (fun hc => ?_) (fun hc => ?_)
      ·
       refine Ref.sq ?_
       refine Ref.rn 21 ?_
       refine RefR.e0 (st' := ⟨[sI 68 u140.2.2.2.2], [], [], 0⟩) 0 1 1 [68] [] ?_
       refine RefR.callC (t := 69) 1 2 [] rfl (by kernel_rfl) (F16_ok K 23 u140.2.2.2.2) (fun r207 => ?_)
       refine RefR.e0 (st' := ⟨[sS 2 ([] : Bytes), (3, .c (.nil)), (4, .c (errC r207))], [], [], 0⟩) 2 3 5 [2, 3, 4] [] ?_
       refine RefR.nl 5 ?_
       refine Ref.conv (Conv.slot 3 (.c (E35.tree [])) (DLe.c (El.tree_nil E35)) (by kernel_rfl)) ?_
       refine Ref.conv (Conv.keep (st' := ⟨[sS 2 ([] : Bytes), (3, .c (E35.tree [])), (4, .c (errC r207))], [], [], 0⟩) [2, 3, 4] [] (by kernel_rfl)) ?_
       exact Ref.rt (t := (Sum.inr (Sum.inr (([] : Bytes), [], r207))))
      ·
       refine Ref.sk ?_
       refine Ref.conv (Conv.keep (st' := ⟨[sS 0 r192.2.1, sP 5 0 0 0, (6, .c (.own 2 u200.2.2.1.length)), sI 7 u140.2.2.2.2], [.cells [.self 46 u200.1 0, .own 1 u200.2.1.length], E5.row u200.2.1, E35.row u200.2.2.1], [], 0⟩) [0, 5, 6, 7] [0, 1, 2] (by kernel_rfl)) ?_
       exact Ref.n0 (t := (r192.2.1, u200.1, u200.2.1, u200.2.2.1))
    ·
     refine Ref.rn 7 ?_
     refine RefR.e0 (st' := ⟨[sS 0 u191.1, sP 5 0 0 0, (6, .c (.own 2 u191.2.2.2.length)), sI 7 (IntKind.i64.wrap (u140.2.2.2.2 + 1))], [.cells [.self 46 u191.2.1 0, .own 1 u191.2.2.1.length], E5.row u191.2.2.1, E35.row u191.2.2.2], [], 0⟩) 0 3 3 [0, 5, 6, 7] [0, 1, 2] ?_
     refine RefR.nl 3 ?_
     exact Ref.n0 (t := (u191.1, u191.2.1, u191.2.2.1, u191.2.2.2, (IntKind.i64.wrap (u140.2.2.2.2 + 1))))
   ·
    refine Ref.conv (Conv.keep (st' := ⟨[sP 5 0 0 0, (6, .c (.own 2 u140.2.2.2.1.length))], [.cells [.self 46 u140.2.1 0, .own 1 u140.2.2.1.length], E5.row u140.2.2.1, E35.row u140.2.2.2.1], [], 0⟩) [5, 6] [0, 1, 2] (by kernel_rfl)) ?_
    exact Ref.xt 0 (t := (Sum.inl (u140.2.1, u140.2.2.1, u140.2.2.2.1)))
  ·
   refine Ref.sq ?_
   refine Ref.rn 22 ?_
   refine RefR.callC (t := 70) 0 1 [0, 1] rfl (by kernel_rfl) (F18_ok K (⟨u105.1, u105.2.1⟩ : S46)) (fun r208 => ?_)
   refine RefR.e0 (st' := ⟨[sS 2 r208, (3, .c (.own 0 u105.2.2.length)), (4, .c (.val .nilIface))], [E35.row u105.2.2], [], 0⟩) 1 4 5 [2, 3, 4] [2] ?_
   refine RefR.nl 5 ?_
   refine Ref.conv (Conv.freeze (st' := ⟨[sS 2 r208, (3, .c (E35.tree u105.2.2)), (4, .c (.val .nilIface))], [.dead], [], 0⟩) 0 (by kernel_rfl)) ?_
   refine Ref.conv (Conv.slot 4 (.c (errC none)) (DLe.c (errC_nil)) (by kernel_rfl)) ?_
   refine Ref.conv (Conv.keep (st' := ⟨[sS 2 r208, (3, .c (E35.tree u105.2.2)), (4, .c (errC none))], [], [], 0⟩) [2, 3, 4] [] (by kernel_rfl)) ?_
   exact Ref.rt (t := (r208, u105.2.2, none))

end Go.Proofs.YtmllhpnlceaneaaGreatDoor
