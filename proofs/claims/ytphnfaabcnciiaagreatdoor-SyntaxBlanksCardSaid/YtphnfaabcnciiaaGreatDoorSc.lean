/- Plain functions, and that the Go functions do what these do: printed by gen2.py. No conditions. -/
import Derived.Test.YtphnfaabcnciiaaGreatDoorTm
import Derived.Test.YtphnfaabcnciiaaGreatDoorProg
set_option linter.unusedVariables false
set_option linter.unusedSimpArgs false
set_option linter.unusedSectionVars false
namespace Go.Proofs.YtphnfaabcnciiaaGreatDoor
open Go Go.Proofs Go.Dl
set_option maxRecDepth 100000
set_option maxHeartbeats 4000000

/-- governor/governorlaw4.SyntaxBlanks -/
noncomputable def F4 (K : Nat) (a0 : Bytes) (a1 : Bool) : Option ((Bool) ⊕ (Bool)) :=
 (letV (decide (((Int.ofNat a0.length) : Int) > 1500)) (fun (x1 : Bool) => (if x1 = true then ((fnS (F7 K)).bind (fun r2 => (some (.inl (r2))))) else ((fnS (F12 K a0)).bind (fun r3 => (if (!(!errS r3.2)) = true then ((fnS (F7 K)).bind (fun r4 => (some (.inl (r4))))) else (bindS (blockS ((iter K (fun (u18 : (List UInt8) × Int) => (letV (decide ((u18.2 : Int) < (Int.ofNat r3.1.length))) (fun (x26 : Bool) => (if x26 = true then (bindS (blockS (chk [inb u18.2 r3.1.length] (letV ((r3.1.getD (u18.2 : Int).toNat default).fText) (fun (x30 : Bytes) => (chk [room ((u18.1.length + x30.length) * 1)] (chk [room ((((u18.1 ++ x30).length) + ([32].length)) * 1)] (chk [!a1 || !(5 == 0)] (letV (a1 && ((((u18.2 : Int).tmod 5) : Int) == 0)) (fun (x31 : Bool) => (if x31 = true then (chk [room (((((u18.1 ++ x30) ++ [32]).length) + (([40, 42, 32, 59, 32, 42, 41, 10] : Bytes).length)) * 1)] (some (.inr ((((u18.1 ++ x30) ++ [32]) ++ ([40, 42, 32, 59, 32, 42, 41, 10] : Bytes)))))) else (some (.inr (((u18.1 ++ x30) ++ [32])))))))))))))) (fun (u29 : (List UInt8)) => (some (.inr (u29, (IntKind.i64.wrap (u18.2 + 1))))))) else (some (.inl (Sum.inl (u18.1)))))))) ([], 0)).map .inl)) (fun (u14 : (List UInt8)) => (letV (decide (((Int.ofNat u14.length) : Int) > 6000)) (fun (x32 : Bool) => (if x32 = true then ((fnS (F7 K)).bind (fun r33 => (some (.inl (r33))))) else ((fnS (F13 K a0)).bind (fun r34 => ((fnS (F13 K u14)).bind (fun r35 => ((fnS (F14 K r34.2.2)).bind (fun r36 => ((fnS (F14 K r35.2.2)).bind (fun r37 => ((condM ((r36 : Int) == r37) (fnS (F15e K r34.1 r35.1)) default).bind (fun r38 => (letV ((((r36 : Int) == r37) && r38) && (((Int.ofNat r34.2.1.length) : Int) == (Int.ofNat r35.2.1.length))) (fun (x39 : Bool) => ((condM x39 (fnS (F7 K)) default).bind (fun r40 => (some (.inl ((x39 && r40)))))))))))))))))))))))))))))

theorem F4_ok (K : Nat) (a0 : Bytes) (a1 : Bool) : DFun Tryz.prog 4 [.c (.str a0), .c (.val (.bool a1))] [] (fnS (F4 K a0 a1)) (fun r => .c (.val (.bool r))) (fun r => []) := by
 refine DFun.intro (fn := Tryz.f4) (c := cd (bd Tryz.f4) []) (rs := fun r => ⟨[sB 4 r], [], [], 0⟩) (by kernel_rfl) (by kernel_rfl) (by kernel_rfl) ?_ (fun r => by kernel_rfl) (fun r => by kernel_rfl) (fun r => by kernel_rfl) (fun r => by kernel_rfl)
 unfold F4
 refine Ref.sq ?_
 refine Ref.rn 0 ?_
 refine RefR.e0 (st' := ⟨[sS 0 a0, sB 1 a1], [], [], 0⟩) 0 1 1 [0, 1] [] ?_
 refine RefR.nl 1 ?_
 refine Ref.sq ?_
 refine Ref.sq ?_
 refine Ref.rn 1 ?_
 refine RefR.e0 (st' := ⟨[sS 0 a0, sB 1 a1, sB 17 (decide (((Int.ofNat a0.length) : Int) > 1500))], [], [], 0⟩) 0 3 3 [0, 1, 17] [] ?_
 refine RefR.letC (stf := fun x1 => ⟨[sS 0 a0, sB 1 a1, sB 17 x1], [], [], 0⟩) (by kernel_rfl) (fun x1 => ?_)
 refine RefR.nl 3 ?_
 refine Ref.cn (.tmp 17) x1 (fun hc => ?_) (fun hc => ?_)
 ·
  refine Ref.sq ?_
  refine Ref.rn 2 ?_
  refine RefR.callC (t := 18) 0 1 [] rfl (by kernel_rfl) (F7_ok K) (fun r2 => ?_)
  refine RefR.e0 (st' := ⟨[sB 4 r2], [], [], 0⟩) 1 1 2 [4] [] ?_
  refine RefR.nl 2 ?_
  exact Ref.rt (t := (r2))
 ·
  refine Ref.sk ?_
  refine Ref.sq ?_
  refine Ref.rn 3 ?_
  refine RefR.e1 0 1 1 [0, 1, 20] [] ?_
  refine RefR.callC (t := 21) 1 2 [] rfl (by kernel_rfl) (F12_ok K a0) (fun r3 => ?_)
  refine RefR.e0 (st' := ⟨[sS 0 a0, sB 1 a1, (5, .c (E41.tree r3.1)), (6, .c (errC r3.2))], [], [], 0⟩) 2 5 7 [0, 1, 5, 6] [] ?_
  refine RefR.nl 7 ?_
  refine Ref.sq ?_
  refine Ref.sq ?_
  refine Ref.rn 4 ?_
  refine RefR.e0 (st' := ⟨[sS 0 a0, sB 1 a1, (5, .c (E41.tree r3.1)), sB 25 (!(!errS r3.2))], [], [], 0⟩) 0 2 2 [0, 1, 5, 25] [] ?_
  refine RefR.nl 2 ?_
  refine Ref.cn (.tmp 25) (!(!errS r3.2)) (fun hc => ?_) (fun hc => ?_)
  ·
   refine Ref.sq ?_
   refine Ref.rn 5 ?_
   refine RefR.callC (t := 26) 0 1 [] rfl (by kernel_rfl) (F7_ok K) (fun r4 => ?_)
   refine RefR.e0 (st' := ⟨[sB 4 r4], [], [], 0⟩) 1 1 2 [4] [] ?_
   refine RefR.nl 2 ?_
   exact Ref.rt (t := (r4))
  ·
   refine Ref.sk ?_
   refine Ref.sq ?_
   refine Ref.rn 6 ?_
   refine RefR.e0 (st' := ⟨[sS 0 a0, sB 1 a1, (5, .c (E41.tree r3.1)), (7, .c (.nil))], [], [], 0⟩) 0 1 1 [0, 1, 5, 7] [] ?_
   refine RefR.nl 1 ?_
   refine Ref.sq ?_
   refine Ref.sq ?_
   refine Ref.rn 7 ?_
   refine RefR.e0 (st' := ⟨[sS 0 a0, sB 1 a1, (5, .c (E41.tree r3.1)), (7, .c (.nil)), sI 8 0], [], [], 0⟩) 0 1 1 [0, 1, 5, 7, 8] [] ?_
   refine RefR.nl 1 ?_
   refine Ref.codeEq (c' := .block 0 (cd (bd Tryz.f4) [1, 1, 1, 1, 1, 0, 1, 0])) (by kernel_rfl) ?_
   refine Ref.block (go1 := fun u14 => ⟨[sS 0 a0, (7, .c (.own 0 u14.length))], [E5.row u14], [], 0⟩) ?_ (fun _ h => by cases h) (fun u14 => ?_)
   ·
    refine Ref.codeEq (c' := .loop (cd (bd Tryz.f4) [1, 1, 1, 1, 1, 0, 1, 0, 0])) (by kernel_rfl) ?_
    refine Ref.conv (Conv.adopt 7 E5.ty E5.w (E5.at []) (by kernel_rfl) (by kernel_rfl) (by kernel_rfl)) ?_
    refine Ref.conv (Conv.keep (st' := ⟨[sS 0 a0, sB 1 a1, (5, .c (E41.tree r3.1)), (7, .c (.own 0 0)), sI 8 0], [E5.row []], [], 0⟩) [0, 1, 5, 7, 8] [0] (by kernel_rfl)) ?_
    refine Ref.loop (hd := fun u18 => ⟨[sS 0 a0, sB 1 a1, (5, .c (E41.tree r3.1)), (7, .c (.own 0 u18.1.length)), sI 8 u18.2], [E5.row u18.1], [], 0⟩) K ([], 0) (by kernel_rfl) (fun u18 => ?_)
    refine Ref.sq ?_
    refine Ref.sq ?_
    refine Ref.rn 8 ?_
    refine RefR.e0 (st' := ⟨[sS 0 a0, sB 1 a1, (5, .c (E41.tree r3.1)), (7, .c (.own 0 u18.1.length)), sI 8 u18.2, sB 30 (decide ((u18.2 : Int) < (Int.ofNat r3.1.length)))], [E5.row u18.1], [], 0⟩) 0 4 4 [0, 1, 5, 7, 8, 30] [0] ?_
    refine RefR.letC (stf := fun x26 => ⟨[sS 0 a0, sB 1 a1, (5, .c (E41.tree r3.1)), (7, .c (.own 0 u18.1.length)), sI 8 u18.2, sB 30 x26], [E5.row u18.1], [], 0⟩) (by kernel_rfl) (fun x26 => ?_)
    refine RefR.nl 4 ?_
    refine Ref.cn (.tmp 30) x26 (fun hc => ?_) (fun hc => ?_)
    ·
     refine Ref.sk ?_
     refine Ref.sq ?_
     refine Ref.codeEq (c' := .block 1 (cd (bd Tryz.f4) [1, 1, 1, 1, 1, 0, 1, 0, 0, 1, 0, 0])) (by kernel_rfl) ?_
     refine Ref.block (go1 := fun u29 => ⟨[sS 0 a0, sB 1 a1, (5, .c (E41.tree r3.1)), (7, .c (.own 0 u29.length)), sI 8 u18.2], [E5.row u29], [], 0⟩) ?_ (fun a => match a with | .inl _ => (fun h => by cases h) | .inr _ => (fun h => by cases h)) (fun u29 => ?_)
     ·
      refine Ref.sq ?_
      refine Ref.rn 10 ?_
      refine RefR.evC (vs := [inb u18.2 r3.1.length]) (st' := ⟨[sS 0 a0, sB 1 a1, (5, .c (E41.tree r3.1)), sI 8 u18.2, (33, .c (.own 0 u18.1.length)), sS 38 ((r3.1.getD (u18.2 : Int).toNat default).fText)], [E5.row u18.1], [], 0⟩) 0 6 6 [0, 1, 5, 8, 33, 38] [0] rfl (by kernel_rfl) ?_
      refine RefR.letC (stf := fun x30 => ⟨[sS 0 a0, sB 1 a1, (5, .c (E41.tree r3.1)), sI 8 u18.2, (33, .c (.own 0 u18.1.length)), sS 38 x30], [E5.row u18.1], [], 0⟩) (by kernel_rfl) (fun x30 => ?_)
      refine RefR.evC (vs := [room ((u18.1.length + x30.length) * 1)]) (st' := ⟨[sS 0 a0, sB 1 a1, (5, .c (E41.tree r3.1)), sI 8 u18.2, (39, .c (.own 0 (u18.1.length + x30.length)))], [.row 5 1 (u18.1.length + x30.length) fun i j => bif Nat.blt i u18.1.length then E5.at u18.1 i j else (fun i _ => .val (.int .u8 (x30.getD i 0).toNat)) (i - u18.1.length) j], [], 0⟩) 6 1 7 [0, 1, 5, 8, 39] [1] rfl (by kernel_rfl) ?_
      refine RefR.conv (Conv.obj 0 (E5.row (u18.1 ++ x30)) (El.row_append_str E5 rfl u18.1 x30 rfl) (by kernel_rfl)) ?_
      refine RefR.conv (Conv.slot 39 (.c (.own 0 ((u18.1 ++ x30).length))) (DLe.c (CLe.own (by simp <;> omega))) (by kernel_rfl)) ?_
      refine RefR.e0 (st' := ⟨[sS 0 a0, sB 1 a1, (5, .c (E41.tree r3.1)), (7, .c (.own 0 ((u18.1 ++ x30).length))), sI 8 u18.2], [E5.row (u18.1 ++ x30)], [], 0⟩) 7 1 8 [0, 1, 5, 7, 8] [0] ?_
      refine RefR.nl 8 ?_
      refine Ref.sq ?_
      refine Ref.rn 11 ?_
      refine RefR.e0 (st' := ⟨[sS 0 a0, sB 1 a1, (5, .c (E41.tree r3.1)), sI 8 u18.2, (40, .c (.own 0 ((u18.1 ++ x30).length)))], [E5.row (u18.1 ++ x30)], [], 0⟩) 0 1 1 [0, 1, 5, 8, 40] [0] ?_
      refine RefR.e0 (st' := ⟨[sS 0 a0, sB 1 a1, (5, .c (E41.tree r3.1)), sI 8 u18.2, (40, .c (.own 0 ((u18.1 ++ x30).length))), (41, .c (.own 1 1))], [E5.row (u18.1 ++ x30), .row 5 1 1 (tbl [[.val (.int .u8 (Int.ofNat (32 : UInt8).toNat))]])], [], 0⟩) 1 1 2 [0, 1, 5, 8, 40, 41] [0, 1] ?_
      refine RefR.conv (Conv.obj 1 (E5.row [32]) (El.row_build E5 [32] rfl (by kernel_rfl)) (by kernel_rfl)) ?_
      refine RefR.conv (Conv.slot 41 (.c (.own 1 ([32].length))) (DLe.c (CLe.own (by simp <;> omega))) (by kernel_rfl)) ?_
      refine RefR.evC (vs := [room ((((u18.1 ++ x30).length) + ([32].length)) * 1)]) (st' := ⟨[sS 0 a0, sB 1 a1, (5, .c (E41.tree r3.1)), sI 8 u18.2, (42, .c (.own 0 (((u18.1 ++ x30).length) + ([32].length))))], [.row 5 1 (((u18.1 ++ x30).length) + ([32].length)) fun i j => bif Nat.blt i ((u18.1 ++ x30).length) then E5.at (u18.1 ++ x30) i j else (E5.at [32]) (i - ((u18.1 ++ x30).length)) j], [], 0⟩) 2 1 3 [0, 1, 5, 8, 42] [2] rfl (by kernel_rfl) ?_
      refine RefR.conv (Conv.obj 0 (E5.row ((u18.1 ++ x30) ++ [32])) (El.row_append E5 (u18.1 ++ x30) [32] rfl rfl) (by kernel_rfl)) ?_
      refine RefR.conv (Conv.slot 42 (.c (.own 0 (((u18.1 ++ x30) ++ [32]).length))) (DLe.c (CLe.own (by simp <;> omega))) (by kernel_rfl)) ?_
      refine RefR.e0 (st' := ⟨[sS 0 a0, sB 1 a1, (5, .c (E41.tree r3.1)), (7, .c (.own 0 (((u18.1 ++ x30) ++ [32]).length))), sI 8 u18.2], [E5.row ((u18.1 ++ x30) ++ [32])], [], 0⟩) 3 1 4 [0, 1, 5, 7, 8] [0] ?_
      refine RefR.nl 4 ?_
      refine Ref.sq ?_
      refine Ref.rn 12 ?_
      refine RefR.evC (vs := [!a1 || !(5 == 0)]) (st' := ⟨[sS 0 a0, sB 1 a1, (5, .c (E41.tree r3.1)), (7, .c (.own 0 (((u18.1 ++ x30) ++ [32]).length))), sI 8 u18.2, sB 48 (a1 && ((((u18.2 : Int).tmod 5) : Int) == 0))], [E5.row ((u18.1 ++ x30) ++ [32])], [], 0⟩) 0 6 6 [0, 1, 5, 7, 8, 48] [0] rfl (by kernel_rfl) ?_
      refine RefR.letC (stf := fun x31 => ⟨[sS 0 a0, sB 1 a1, (5, .c (E41.tree r3.1)), (7, .c (.own 0 (((u18.1 ++ x30) ++ [32]).length))), sI 8 u18.2, sB 48 x31], [E5.row ((u18.1 ++ x30) ++ [32])], [], 0⟩) (by kernel_rfl) (fun x31 => ?_)
      refine RefR.nl 6 ?_
      refine Ref.cn (.tmp 48) x31 (fun hc => ?_) (fun hc => ?_)
      ·
       refine Ref.rn 13 ?_
       refine RefR.e0 (st' := ⟨[sS 0 a0, sB 1 a1, (5, .c (E41.tree r3.1)), sI 8 u18.2, (49, .c (.own 0 (((u18.1 ++ x30) ++ [32]).length)))], [E5.row ((u18.1 ++ x30) ++ [32])], [], 0⟩) 0 1 1 [0, 1, 5, 8, 49] [0] ?_
       refine RefR.evC (vs := [room (((((u18.1 ++ x30) ++ [32]).length) + (w_40_42_32_59_32_42_41_10.length)) * 1)]) (st' := ⟨[sS 0 a0, sB 1 a1, (5, .c (E41.tree r3.1)), sI 8 u18.2, (50, .c (.own 0 ((((u18.1 ++ x30) ++ [32]).length) + (w_40_42_32_59_32_42_41_10.length))))], [.row 5 1 ((((u18.1 ++ x30) ++ [32]).length) + (w_40_42_32_59_32_42_41_10.length)) fun i j => bif Nat.blt i (((u18.1 ++ x30) ++ [32]).length) then E5.at ((u18.1 ++ x30) ++ [32]) i j else (fun i _ => .val (.int .u8 (w_40_42_32_59_32_42_41_10.getD i 0).toNat)) (i - (((u18.1 ++ x30) ++ [32]).length)) j], [], 0⟩) 1 1 2 [0, 1, 5, 8, 50] [1] rfl (by kernel_rfl) ?_
       refine RefR.conv (Conv.obj 0 (E5.row (((u18.1 ++ x30) ++ [32]) ++ w_40_42_32_59_32_42_41_10)) (El.row_append_str E5 rfl ((u18.1 ++ x30) ++ [32]) w_40_42_32_59_32_42_41_10 rfl) (by kernel_rfl)) ?_
       refine RefR.conv (Conv.slot 50 (.c (.own 0 ((((u18.1 ++ x30) ++ [32]) ++ w_40_42_32_59_32_42_41_10).length))) (DLe.c (CLe.own (by simp <;> omega))) (by kernel_rfl)) ?_
       refine RefR.e0 (st' := ⟨[sS 0 a0, sB 1 a1, (5, .c (E41.tree r3.1)), (7, .c (.own 0 ((((u18.1 ++ x30) ++ [32]) ++ w_40_42_32_59_32_42_41_10).length))), sI 8 u18.2], [E5.row (((u18.1 ++ x30) ++ [32]) ++ w_40_42_32_59_32_42_41_10)], [], 0⟩) 2 1 3 [0, 1, 5, 7, 8] [0] ?_
       refine RefR.nl 3 ?_
       exact Ref.n0 (t := ((((u18.1 ++ x30) ++ [32]) ++ w_40_42_32_59_32_42_41_10)))
      ·
       refine Ref.sk ?_
       refine Ref.conv (Conv.keep (st' := ⟨[sS 0 a0, sB 1 a1, (5, .c (E41.tree r3.1)), (7, .c (.own 0 (((u18.1 ++ x30) ++ [32]).length))), sI 8 u18.2], [E5.row ((u18.1 ++ x30) ++ [32])], [], 0⟩) [0, 1, 5, 7, 8] [0] (by kernel_rfl)) ?_
       exact Ref.n0 (t := (((u18.1 ++ x30) ++ [32])))
     ·
      refine Ref.rn 9 ?_
      refine RefR.e0 (st' := ⟨[sS 0 a0, sB 1 a1, (5, .c (E41.tree r3.1)), (7, .c (.own 0 u29.length)), sI 8 (IntKind.i64.wrap (u18.2 + 1))], [E5.row u29], [], 0⟩) 0 3 3 [0, 1, 5, 7, 8] [0] ?_
      refine RefR.nl 3 ?_
      exact Ref.n0 (t := (u29, (IntKind.i64.wrap (u18.2 + 1))))
    ·
     refine Ref.conv (Conv.keep (st' := ⟨[sS 0 a0, (7, .c (.own 0 u18.1.length))], [E5.row u18.1], [], 0⟩) [0, 7] [0] (by kernel_rfl)) ?_
     exact Ref.xt 0 (t := (Sum.inl (u18.1)))
   ·
    refine Ref.sq ?_
    refine Ref.sq ?_
    refine Ref.rn 14 ?_
    refine RefR.e0 (st' := ⟨[sS 0 a0, (7, .c (.own 0 u14.length)), sB 53 (decide (((Int.ofNat u14.length) : Int) > 6000))], [E5.row u14], [], 0⟩) 0 3 3 [0, 7, 53] [0] ?_
    refine RefR.letC (stf := fun x32 => ⟨[sS 0 a0, (7, .c (.own 0 u14.length)), sB 53 x32], [E5.row u14], [], 0⟩) (by kernel_rfl) (fun x32 => ?_)
    refine RefR.nl 3 ?_
    refine Ref.cn (.tmp 53) x32 (fun hc => ?_) (fun hc => ?_)
    ·
     refine Ref.sq ?_
     refine Ref.rn 15 ?_
     refine RefR.callC (t := 54) 0 1 [] rfl (by kernel_rfl) (F7_ok K) (fun r33 => ?_)
     refine RefR.e0 (st' := ⟨[sB 4 r33], [], [], 0⟩) 1 1 2 [4] [] ?_
     refine RefR.nl 2 ?_
     exact Ref.rt (t := (r33))
    ·
     refine Ref.sk ?_
     refine Ref.sq ?_
     refine Ref.rn 16 ?_
     refine RefR.e1 0 1 1 [7, 56] [0] ?_
     refine RefR.callC (t := 57) 1 2 [] rfl (by kernel_rfl) (F13_ok K a0) (fun r34 => ?_)
     refine RefR.e0 (st' := ⟨[(7, .c (.own 0 u14.length)), sP 9 1 0 0, (10, .c (E3.tree r34.2.1)), (11, .c (errC r34.2.2))], [E5.row u14, .cells (E44.cs r34.1)], [], 0⟩) 2 8 10 [7, 9, 10, 11] [0, 2] ?_
     refine RefR.nl 10 ?_
     refine Ref.sq ?_
     refine Ref.rn 17 ?_
     refine RefR.e0 (st' := ⟨[sP 9 1 0 0, (10, .c (E3.tree r34.2.1)), (11, .c (errC r34.2.2)), (62, .c (.own 0 u14.length))], [E5.row u14, .cells (E44.cs r34.1)], [], 0⟩) 0 1 1 [9, 10, 11, 62] [0, 1] ?_
     refine RefR.bytesStr (t := 63) (d := .c (.own 0 u14.length)) 1 2 u14 (by kernel_rfl) (by kernel_rfl) (isBytes.own 0 5 (by kernel_rfl) (by kernel_rfl)) ?_
     refine RefR.callC (t := 64) 2 3 [] rfl (by kernel_rfl) (F13_ok K u14) (fun r35 => ?_)
     refine RefR.e0 (st' := ⟨[sP 9 0 0 0, (10, .c (E3.tree r34.2.1)), (11, .c (errC r34.2.2)), sP 12 1 0 0, (13, .c (E3.tree r35.2.1)), (14, .c (errC r35.2.2))], [.cells (E44.cs r34.1), .cells (E44.cs r35.1)], [], 0⟩) 3 8 11 [9, 10, 11, 12, 13, 14] [1, 3] ?_
     refine RefR.nl 11 ?_
     refine Ref.sq ?_
     refine Ref.rn 18 ?_
     refine RefR.e1 0 1 1 [9, 10, 12, 13, 14, 68] [0, 1] ?_
     refine RefR.callC (t := 69) 1 2 [] rfl (by kernel_rfl) (F14_ok K r34.2.2) (fun r36 => ?_)
     refine RefR.e1 2 1 3 [9, 10, 12, 13, 69, 70] [0, 1] ?_
     refine RefR.callC (t := 71) 3 4 [] rfl (by kernel_rfl) (F14_ok K r35.2.2) (fun r37 => ?_)
     refine RefR.e1 4 4 8 [10, 13, 73, 74, 75] [] ?_
     refine RefR.lookC (t := 76) (g := [(73, true)]) (b := ((r36 : Int) == r37)) 8 9 [] (default : Bool) rfl (by kernel_rfl) (F15e_ok K r34.1 r35.1) (fun _ => rfl) (fun r38 => ?_)
     refine RefR.e0 (st' := ⟨[sB 85 ((((r36 : Int) == r37) && r38) && (((Int.ofNat r34.2.1.length) : Int) == (Int.ofNat r35.2.1.length)))], [], [], 0⟩) 9 9 18 [85] [] ?_
     refine RefR.letC (stf := fun x39 => ⟨[sB 85 x39], [], [], 0⟩) (by kernel_rfl) (fun x39 => ?_)
     refine RefR.lookC (t := 86) (g := [(85, true)]) (b := x39) 18 19 [] (default : Bool) rfl (by kernel_rfl) (F7_ok K) (fun _ => rfl) (fun r40 => ?_)
     refine RefR.e0 (st' := ⟨[sB 4 (x39 && r40)], [], [], 0⟩) 19 2 21 [4] [] ?_
     refine RefR.nl 21 ?_
     exact Ref.rt (t := ((x39 && r40)))

end Go.Proofs.YtphnfaabcnciiaaGreatDoor
