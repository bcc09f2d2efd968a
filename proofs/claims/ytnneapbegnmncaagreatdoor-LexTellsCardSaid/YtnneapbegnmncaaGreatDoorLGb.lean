/- Plain functions, and that the Go functions do what these do: printed by gen2.py. No conditions. -/
import Derived.Test.YtnneapbegnmncaaGreatDoorLGa
import Derived.Test.YtnneapbegnmncaaGreatDoorProg
set_option linter.unusedVariables false
set_option linter.unusedSimpArgs false
set_option linter.unusedSectionVars false
namespace Go.Proofs.YtnneapbegnmncaaGreatDoor
open Go Go.Proofs Go.Dl

/-- governor/governorlaw0.Code -/
def F12 (K : Nat) (a0 : Err) : Option ((Int) ⊕ (Int)) :=
  ((fnS (F7 K a0)).bind (fun r1 => (some (.inl (r1.1)))))

theorem F12_ok (K : Nat) (a0 : Err) : DFun Tryz.prog 12 [.c (errC a0)] [] (fnS (F12 K a0)) (fun r => .c (.val (.int .i64 r))) (fun r => []) := by
  refine DFun.intro (fn := Tryz.f12) (c := cd (bd Tryz.f12) []) (rs := fun r => ⟨[(2, .c (.val (.int .i64 r)))], [], [], 0⟩) (by kernel_rfl) (by kernel_rfl) (by kernel_rfl) ?_ (fun r => by kernel_rfl) (fun r => by kernel_rfl) (fun r => by kernel_rfl) (fun r => by kernel_rfl)
  unfold F12
  refine Ref.seqC (cd (bd Tryz.f12) [0]) (cd (bd Tryz.f12) [1]) (by kernel_rfl) ?_
  refine Ref.regionC 0 (by kernel_rfl) ?_
  refine RefR.ev0 (st' := ⟨[(0, .c (errC a0))], [], [], 0⟩) 0 1 1 [0] [] rfl (by kernel_rfl) ?_
  refine RefR.nilC 1 (by kernel_rfl) ?_
  refine Ref.seqC (cd (bd Tryz.f12) [1, 0]) (cd (bd Tryz.f12) [1, 1]) (by kernel_rfl) ?_
  refine Ref.regionC 1 (by kernel_rfl) ?_
  refine RefR.ev0 (st' := ⟨[(6, .c (errC a0))], [], [], 0⟩) 0 1 1 [6] [] rfl (by kernel_rfl) ?_
  refine RefR.callC (t := 7) 1 2 [] rfl (by kernel_rfl) (F7_ok K a0) (fun r1 => ?_)
  refine RefR.ev0 (st' := ⟨[(3, .c (.val (.int .i64 r1.1)))], [], [], 0⟩) 2 5 7 [3] [] rfl (by kernel_rfl) ?_
  refine RefR.nilC 7 (by kernel_rfl) ?_
  refine Ref.seqC (cd (bd Tryz.f12) [1, 1, 0]) (cd (bd Tryz.f12) [1, 1, 1]) (by kernel_rfl) ?_
  refine Ref.regionC 2 (by kernel_rfl) ?_
  refine RefR.ev0 (st' := ⟨[(2, .c (.val (.int .i64 r1.1)))], [], [], 0⟩) 0 2 2 [2] [] rfl (by kernel_rfl) ?_
  refine RefR.nilC 2 (by kernel_rfl) ?_
  exact Ref.retC (t := (r1.1)) (by kernel_rfl) (by kernel_rfl)

/-- governor/governorlaw0.SameTokens -/
def F8 (K : Nat) (a0 : (List S37)) (a1 : (List S37)) : Option ((Bool) ⊕ (Bool)) :=
  (letV (((Int.ofNat a0.length) : Int) != (Int.ofNat a1.length)) (fun (x1 : Bool) => (if x1 = true then (some (.inl (false))) else (bindS (blockS ((iter K (fun (u21 : Int) => (letV (decide ((u21 : Int) < (Int.ofNat a0.length))) (fun (x27 : Bool) => (if x27 = true then (bindS (blockS (chk [inb u21 a0.length, inb u21 a1.length] (letV (!((((a0.getD (u21 : Int).toNat default).fKind : Int) == ((a1.getD (u21 : Int).toNat default).fKind)) && ((((a0.getD (u21 : Int).toNat default).fText) == ((a1.getD (u21 : Int).toNat default).fText)) && ((((a0.getD (u21 : Int).toNat default).fN : Int) == ((a1.getD (u21 : Int).toNat default).fN)) && ((((a0.getD (u21 : Int).toNat default).fAt : Int) == ((a1.getD (u21 : Int).toNat default).fAt)) && true))))) (fun (x30 : Bool) => (if x30 = true then (some (.inl (Sum.inr (Sum.inr (false))))) else (some (.inr ()))))))) (fun (u29 : Unit) => (some (.inr ((IntKind.i64.wrap (u21 + 1))))))) else (some (.inl (Sum.inl ()))))))) (0)).map .inl)) (fun (u16 : Unit) => (some (.inl (true))))))))

theorem F8_ok (K : Nat) (a0 : (List S37)) (a1 : (List S37)) : DFun Tryz.prog 8 [.c (E37.tree a0), .c (E37.tree a1)] [] (fnS (F8 K a0 a1)) (fun r => .c (.val (.bool r))) (fun r => []) := by
  refine DFun.intro (fn := Tryz.f8) (c := cd (bd Tryz.f8) []) (rs := fun r => ⟨[(4, .c (.val (.bool r)))], [], [], 0⟩) (by kernel_rfl) (by kernel_rfl) (by kernel_rfl) ?_ (fun r => by kernel_rfl) (fun r => by kernel_rfl) (fun r => by kernel_rfl) (fun r => by kernel_rfl)
  unfold F8
  refine Ref.seqC (cd (bd Tryz.f8) [0]) (cd (bd Tryz.f8) [1]) (by kernel_rfl) ?_
  refine Ref.regionC 0 (by kernel_rfl) ?_
  refine RefR.ev0 (st' := ⟨[(0, .c (E37.tree a0)), (1, .c (E37.tree a1))], [], [], 0⟩) 0 1 1 [0, 1] [] rfl (by kernel_rfl) ?_
  refine RefR.nilC 1 (by kernel_rfl) ?_
  refine Ref.seqC (cd (bd Tryz.f8) [1, 0]) (cd (bd Tryz.f8) [1, 1]) (by kernel_rfl) ?_
  refine Ref.seqC (cd (bd Tryz.f8) [1, 0, 0]) (cd (bd Tryz.f8) [1, 0, 1]) (by kernel_rfl) ?_
  refine Ref.regionC 1 (by kernel_rfl) ?_
  refine RefR.ev0 (st' := ⟨[(0, .c (E37.tree a0)), (1, .c (E37.tree a1)), (10, .c (.val (.bool (((Int.ofNat a0.length) : Int) != (Int.ofNat a1.length)))))], [], [], 0⟩) 0 5 5 [0, 1, 10] [] rfl (by kernel_rfl) ?_
  refine RefR.letC (stf := fun x1 => ⟨[(0, .c (E37.tree a0)), (1, .c (E37.tree a1)), (10, .c (.val (.bool x1)))], [], [], 0⟩) (by kernel_rfl) (fun x1 => ?_)
  refine RefR.nilC 5 (by kernel_rfl) ?_
  refine Ref.condC (.tmp 10) x1 (by kernel_rfl) rfl (by kernel_rfl) (fun hc => ?_) (fun hc => ?_)
  ·
    refine Ref.seqC (cd (bd Tryz.f8) [1, 0, 1, 0, 0]) (cd (bd Tryz.f8) [1, 0, 1, 0, 1]) (by kernel_rfl) ?_
    refine Ref.regionC 2 (by kernel_rfl) ?_
    refine RefR.ev0 (st' := ⟨[(4, .c (.val (.bool false)))], [], [], 0⟩) 0 1 1 [4] [] rfl (by kernel_rfl) ?_
    refine RefR.nilC 1 (by kernel_rfl) ?_
    exact Ref.retC (t := (false)) (by kernel_rfl) (by kernel_rfl)
  ·
    refine Ref.skipC (by kernel_rfl) ?_
    refine Ref.seqC (cd (bd Tryz.f8) [1, 1, 0]) (cd (bd Tryz.f8) [1, 1, 1]) (by kernel_rfl) ?_
    refine Ref.seqC (cd (bd Tryz.f8) [1, 1, 0, 0]) (cd (bd Tryz.f8) [1, 1, 0, 1]) (by kernel_rfl) ?_
    refine Ref.regionC 3 (by kernel_rfl) ?_
    refine RefR.ev0 (st' := ⟨[(0, .c (E37.tree a0)), (1, .c (E37.tree a1)), (5, .c (.val (.int .i64 0)))], [], [], 0⟩) 0 1 1 [0, 1, 5] [] rfl (by kernel_rfl) ?_
    refine RefR.nilC 1 (by kernel_rfl) ?_
    refine Ref.codeEq (c' := .block 0 (cd (bd Tryz.f8) [1, 1, 0, 1, 0])) (by kernel_rfl) ?_
    refine Ref.block (go1 := fun u16 => ⟨[], [], [], 0⟩) ?_ (fun _ h => by cases h) (fun u16 => ?_)
    ·
      refine Ref.codeEq (c' := .loop (cd (bd Tryz.f8) [1, 1, 0, 1, 0, 0])) (by kernel_rfl) ?_
      refine Ref.loop (hd := fun u21 => ⟨[(0, .c (E37.tree a0)), (1, .c (E37.tree a1)), (5, .c (.val (.int .i64 u21)))], [], [], 0⟩) K (0) (by kernel_rfl) (fun u21 => ?_)
      refine Ref.seqC (cd (bd Tryz.f8) [1, 1, 0, 1, 0, 0, 0]) (cd (bd Tryz.f8) [1, 1, 0, 1, 0, 0, 1]) (by kernel_rfl) ?_
      refine Ref.seqC (cd (bd Tryz.f8) [1, 1, 0, 1, 0, 0, 0, 0]) (cd (bd Tryz.f8) [1, 1, 0, 1, 0, 0, 0, 1]) (by kernel_rfl) ?_
      refine Ref.regionC 4 (by kernel_rfl) ?_
      refine RefR.ev0 (st' := ⟨[(0, .c (E37.tree a0)), (1, .c (E37.tree a1)), (5, .c (.val (.int .i64 u21))), (14, .c (.val (.bool (decide ((u21 : Int) < (Int.ofNat a0.length))))))], [], [], 0⟩) 0 4 4 [0, 1, 5, 14] [] rfl (by kernel_rfl) ?_
      refine RefR.letC (stf := fun x27 => ⟨[(0, .c (E37.tree a0)), (1, .c (E37.tree a1)), (5, .c (.val (.int .i64 u21))), (14, .c (.val (.bool x27)))], [], [], 0⟩) (by kernel_rfl) (fun x27 => ?_)
      refine RefR.nilC 4 (by kernel_rfl) ?_
      refine Ref.condC (.tmp 14) x27 (by kernel_rfl) rfl (by kernel_rfl) (fun hc => ?_) (fun hc => ?_)
      ·
        refine Ref.skipC (by kernel_rfl) ?_
        refine Ref.seqC (cd (bd Tryz.f8) [1, 1, 0, 1, 0, 0, 1, 0]) (cd (bd Tryz.f8) [1, 1, 0, 1, 0, 0, 1, 1]) (by kernel_rfl) ?_
        refine Ref.codeEq (c' := .block 1 (cd (bd Tryz.f8) [1, 1, 0, 1, 0, 0, 1, 0, 0])) (by kernel_rfl) ?_
        refine Ref.block (go1 := fun u29 => ⟨[(0, .c (E37.tree a0)), (1, .c (E37.tree a1)), (5, .c (.val (.int .i64 u21)))], [], [], 0⟩) ?_ (fun a => match a with | .inl _ => (fun h => by cases h) | .inr _ => (fun h => by cases h)) (fun u29 => ?_)
        ·
          refine Ref.seqC (cd (bd Tryz.f8) [1, 1, 0, 1, 0, 0, 1, 0, 0, 0]) (cd (bd Tryz.f8) [1, 1, 0, 1, 0, 0, 1, 0, 0, 1]) (by kernel_rfl) ?_
          refine Ref.drawnY 6 (by kernel_rfl) (by kernel_rfl) ?_
          refine RefY.evC (vs := [inb u21 a0.length, inb u21 a1.length]) (st' := ⟨[(0, .c (E37.tree a0)), (1, .c (E37.tree a1)), (5, .c (.val (.int .i64 u21))), (19, .c (E37.ep (a0.getD (u21 : Int).toNat default) 0)), (23, .c (E37.ep (a1.getD (u21 : Int).toNat default) 0))], [], [], 0⟩) (fuel' := 3) [0, 1, 2, 4, 5, 6] [0, 1, 5, 19, 23] [] rfl (by kernel_rfl) (by kernel_rfl) ?_
          refine RefY.toX [] ?_
          refine RefX.evC0 (st' := ⟨[(0, .c (E37.tree a0)), (1, .c (E37.tree a1)), (5, .c (.val (.int .i64 u21))), (25, .c (.val (.bool (!((((a0.getD (u21 : Int).toNat default).fKind : Int) == ((a1.getD (u21 : Int).toNat default).fKind)) && ((((a0.getD (u21 : Int).toNat default).fText) == ((a1.getD (u21 : Int).toNat default).fText)) && ((((a0.getD (u21 : Int).toNat default).fN : Int) == ((a1.getD (u21 : Int).toNat default).fN)) && ((((a0.getD (u21 : Int).toNat default).fAt : Int) == ((a1.getD (u21 : Int).toNat default).fAt)) && true))))))))], [], [], 0⟩) (fuel' := 0) [3, 7, 8] [0, 1, 5, 25] [] rfl (by kernel_rfl) (by kernel_rfl) ?_
          refine RefX.letC (stf := fun x30 => ⟨[(0, .c (E37.tree a0)), (1, .c (E37.tree a1)), (5, .c (.val (.int .i64 u21))), (25, .c (.val (.bool x30)))], [], [], 0⟩) (by kernel_rfl) (fun x30 => ?_)
          refine RefX.done (by kernel_rfl) ?_
          refine Ref.condC (.tmp 25) x30 (by kernel_rfl) rfl (by kernel_rfl) (fun hc => ?_) (fun hc => ?_)
          ·
            refine Ref.seqC (cd (bd Tryz.f8) [1, 1, 0, 1, 0, 0, 1, 0, 0, 1, 0, 0]) (cd (bd Tryz.f8) [1, 1, 0, 1, 0, 0, 1, 0, 0, 1, 0, 1]) (by kernel_rfl) ?_
            refine Ref.regionC 7 (by kernel_rfl) ?_
            refine RefR.ev0 (st' := ⟨[(4, .c (.val (.bool false)))], [], [], 0⟩) 0 1 1 [4] [] rfl (by kernel_rfl) ?_
            refine RefR.nilC 1 (by kernel_rfl) ?_
            exact Ref.retC (t := (Sum.inr (Sum.inr (false)))) (by kernel_rfl) (by kernel_rfl)
          ·
            refine Ref.skipC (by kernel_rfl) ?_
            refine Ref.conv (Conv.keep (st' := ⟨[(0, .c (E37.tree a0)), (1, .c (E37.tree a1)), (5, .c (.val (.int .i64 u21)))], [], [], 0⟩) [0, 1, 5] [] (by kernel_rfl)) ?_
            exact Ref.nil (t := ()) (by kernel_rfl)
        ·
          refine Ref.regionC 5 (by kernel_rfl) ?_
          refine RefR.ev0 (st' := ⟨[(0, .c (E37.tree a0)), (1, .c (E37.tree a1)), (5, .c (.val (.int .i64 (IntKind.i64.wrap (u21 + 1)))))], [], [], 0⟩) 0 3 3 [0, 1, 5] [] rfl (by kernel_rfl) ?_
          refine RefR.nilC 3 (by kernel_rfl) ?_
          exact Ref.nil (t := ((IntKind.i64.wrap (u21 + 1)))) (by kernel_rfl)
      ·
        refine Ref.conv (Conv.keep (st' := ⟨[], [], [], 0⟩) [] [] (by kernel_rfl)) ?_
        exact Ref.exitC 0 (t := (Sum.inl ())) (by kernel_rfl) (by kernel_rfl)
    ·
      refine Ref.seqC (cd (bd Tryz.f8) [1, 1, 1, 0]) (cd (bd Tryz.f8) [1, 1, 1, 1]) (by kernel_rfl) ?_
      refine Ref.regionC 8 (by kernel_rfl) ?_
      refine RefR.ev0 (st' := ⟨[(4, .c (.val (.bool true)))], [], [], 0⟩) 0 1 1 [4] [] rfl (by kernel_rfl) ?_
      refine RefR.nilC 1 (by kernel_rfl) ?_
      exact Ref.retC (t := (true)) (by kernel_rfl) (by kernel_rfl)

/-- governor/governorlaw3.awake -/
def F4 (K : Nat) : Option ((Bool) ⊕ (Bool)) :=
  ((fnS (F5 K ([120, 58, 61, 49, 40, 42, 99, 42, 41, 59] : Bytes))).bind (fun r1 => ((fnS (F5 K ([82, 69, 65, 76] : Bytes))).bind (fun r2 => (chk [!((!r1.2.isSome) && (((Int.ofNat r1.1.length) : Int) == 4)) || inb 1 r1.1.length, !(((!r1.2.isSome) && (((Int.ofNat r1.1.length) : Int) == 4)) && ((((r1.1.getD (1 : Int).toNat default).fKind : Int) == 4) && ((((r1.1.getD (1 : Int).toNat default).fText) == ([58, 61] : Bytes)) && ((((r1.1.getD (1 : Int).toNat default).fN : Int) == 0) && ((((r1.1.getD (1 : Int).toNat default).fAt : Int) == 1) && true))))) || inb 3 r1.1.length] (letV ((((!r1.2.isSome) && (((Int.ofNat r1.1.length) : Int) == 4)) && ((((r1.1.getD (1 : Int).toNat default).fKind : Int) == 4) && ((((r1.1.getD (1 : Int).toNat default).fText) == ([58, 61] : Bytes)) && ((((r1.1.getD (1 : Int).toNat default).fN : Int) == 0) && ((((r1.1.getD (1 : Int).toNat default).fAt : Int) == 1) && true))))) && ((((r1.1.getD (3 : Int).toNat default).fAt) : Int) == 9)) (fun (x3 : Bool) => ((condM x3 (fnS (F12 K r2.2)) default).bind (fun r4 => ((condM (x3 && ((r4 : Int) == 2)) (fnS (F9 K ([69, 78, 68, 95, 73, 70] : Bytes))) default).bind (fun r5 => ((condM ((x3 && ((r4 : Int) == 2)) && r5) (fnS (F9 K ([69, 78, 68] : Bytes))) default).bind (fun r6 => (some (.inl ((((x3 && ((r4 : Int) == 2)) && r5) && (!r6))))))))))))))))))

theorem F4_ok (K : Nat) : DFun Tryz.prog 4 [] [] (fnS (F4 K)) (fun r => .c (.val (.bool r))) (fun r => []) := by
  refine DFun.intro (fn := Tryz.f4) (c := cd (bd Tryz.f4) []) (rs := fun r => ⟨[(0, .c (.val (.bool r)))], [], [], 0⟩) (by kernel_rfl) (by kernel_rfl) (by kernel_rfl) ?_ (fun r => by kernel_rfl) (fun r => by kernel_rfl) (fun r => by kernel_rfl) (fun r => by kernel_rfl)
  unfold F4
  refine Ref.seqC (cd (bd Tryz.f4) [0]) (cd (bd Tryz.f4) [1]) (by kernel_rfl) ?_
  refine Ref.regionC 0 (by kernel_rfl) ?_
  refine RefR.ev0 (st' := ⟨[], [], [], 0⟩) 0 1 1 [] [] rfl (by kernel_rfl) ?_
  refine RefR.nilC 1 (by kernel_rfl) ?_
  refine Ref.seqC (cd (bd Tryz.f4) [1, 0]) (cd (bd Tryz.f4) [1, 1]) (by kernel_rfl) ?_
  refine Ref.regionC 1 (by kernel_rfl) ?_
  refine RefR.callC (t := 6) 0 1 [] rfl (by kernel_rfl) (F5_ok K ([120, 58, 61, 49, 40, 42, 99, 42, 41, 59] : Bytes)) (fun r1 => ?_)
  refine RefR.ev0 (st' := ⟨[(1, .c (E37.tree r1.1)), (2, .c (errC r1.2))], [], [], 0⟩) 1 5 6 [1, 2] [] rfl (by kernel_rfl) ?_
  refine RefR.nilC 6 (by kernel_rfl) ?_
  refine Ref.seqC (cd (bd Tryz.f4) [1, 1, 0]) (cd (bd Tryz.f4) [1, 1, 1]) (by kernel_rfl) ?_
  refine Ref.regionC 2 (by kernel_rfl) ?_
  refine RefR.callC (t := 10) 0 1 [] rfl (by kernel_rfl) (F5_ok K ([82, 69, 65, 76] : Bytes)) (fun r2 => ?_)
  refine RefR.ev0 (st' := ⟨[(1, .c (E37.tree r1.1)), (2, .c (errC r1.2)), (4, .c (errC r2.2))], [], [], 0⟩) 1 5 6 [1, 2, 4] [] rfl (by kernel_rfl) ?_
  refine RefR.nilC 6 (by kernel_rfl) ?_
  refine Ref.seqC (cd (bd Tryz.f4) [1, 1, 1, 0]) (cd (bd Tryz.f4) [1, 1, 1, 1]) (by kernel_rfl) ?_
  refine Ref.regionC 3 (by kernel_rfl) ?_
  refine RefR.evC (vs := [!((!r1.2.isSome) && (((Int.ofNat r1.1.length) : Int) == 4)) || inb 1 r1.1.length, !(((!r1.2.isSome) && (((Int.ofNat r1.1.length) : Int) == 4)) && ((((r1.1.getD (1 : Int).toNat default).fKind : Int) == 4) && ((((r1.1.getD (1 : Int).toNat default).fText) == ([58, 61] : Bytes)) && ((((r1.1.getD (1 : Int).toNat default).fN : Int) == 0) && ((((r1.1.getD (1 : Int).toNat default).fAt : Int) == 1) && true))))) || inb 3 r1.1.length]) (st' := ⟨[(34, .c (.val (.bool ((((!r1.2.isSome) && (((Int.ofNat r1.1.length) : Int) == 4)) && ((((r1.1.getD (1 : Int).toNat default).fKind : Int) == 4) && ((((r1.1.getD (1 : Int).toNat default).fText) == ([58, 61] : Bytes)) && ((((r1.1.getD (1 : Int).toNat default).fN : Int) == 0) && ((((r1.1.getD (1 : Int).toNat default).fAt : Int) == 1) && true))))) && ((((r1.1.getD (3 : Int).toNat default).fAt) : Int) == 9))))), (35, .c (errC r2.2))], [], [(35, [(34, true)])], 0⟩) 0 23 23 [34, 35] [] rfl (by kernel_rfl) ?_
  refine RefR.letC (stf := fun x3 => ⟨[(34, .c (.val (.bool x3))), (35, .c (errC r2.2))], [], [(35, [(34, true)])], 0⟩) (by kernel_rfl) (fun x3 => ?_)
  refine RefR.lookC (t := 36) (g := [(34, true)]) (b := x3) 23 24 [] (default : Int) rfl (by kernel_rfl) (F12_ok K r2.2) (fun _ => rfl) (fun r4 => ?_)
  refine RefR.ev0 (st' := ⟨[(39, .c (.val (.bool (x3 && ((r4 : Int) == 2)))))], [], [], 0⟩) 24 3 27 [39] [] rfl (by kernel_rfl) ?_
  refine RefR.lookC (t := 40) (g := [(39, true)]) (b := (x3 && ((r4 : Int) == 2))) 27 28 [] (default : Bool) rfl (by kernel_rfl) (F9_ok K ([69, 78, 68, 95, 73, 70] : Bytes)) (fun _ => rfl) (fun r5 => ?_)
  refine RefR.ev0 (st' := ⟨[(42, .c (.val (.bool ((x3 && ((r4 : Int) == 2)) && r5))))], [], [], 0⟩) 28 2 30 [42] [] rfl (by kernel_rfl) ?_
  refine RefR.lookC (t := 43) (g := [(42, true)]) (b := ((x3 && ((r4 : Int) == 2)) && r5)) 30 31 [] (default : Bool) rfl (by kernel_rfl) (F9_ok K ([69, 78, 68] : Bytes)) (fun _ => rfl) (fun r6 => ?_)
  refine RefR.ev0 (st' := ⟨[(0, .c (.val (.bool (((x3 && ((r4 : Int) == 2)) && r5) && (!r6)))))], [], [], 0⟩) 31 3 34 [0] [] rfl (by kernel_rfl) ?_
  refine RefR.nilC 34 (by kernel_rfl) ?_
  exact Ref.retC (t := ((((x3 && ((r4 : Int) == 2)) && r5) && (!r6)))) (by kernel_rfl) (by kernel_rfl)

/-- governor/governorlaw0.OverTokens -/
def F11 (K : Nat) (a0 : (List S37)) : Option ((Unit) ⊕ (Unit)) :=
  (bindS (blockS ((iter K (fun (u12 : (List S37) × Int) => (letV (decide ((u12.2 : Int) < (Int.ofNat u12.1.length))) (fun (x16 : Bool) => (if x16 = true then (bindS (blockS (chk [inb u12.2 u12.1.length] (some (.inr ((u12.1.set ((u12.2 : Int).toNat) (⟨0, ([111, 118, 101, 114] : Bytes), 0, 0⟩ : S37))))))) (fun (u17 : (List S37)) => (some (.inr (u17, (IntKind.i64.wrap (u12.2 + 1))))))) else (some (.inl (Sum.inl (u12.1)))))))) (a0, 0)).map .inl)) (fun (u9 : (List S37)) => (chk [room ((u9.length + ([(⟨0, ([111, 118, 101, 114] : Bytes), 0, 0⟩ : S37)].length)) * 40)] (some (.inr ())))))

theorem F11_ok (K : Nat) (a0 : (List S37)) : DFun Tryz.prog 11 [.c (.own 0 a0.length)] [E37.row a0] (fnS (F11 K a0)) (fun r => .tup []) (fun r => [.dead]) := by
  refine DFun.intro (fn := Tryz.f11) (c := cd (bd Tryz.f11) []) (rs := fun r => ⟨[], [.dead], [], 1⟩) (by kernel_rfl) (by kernel_rfl) (by kernel_rfl) ?_ (fun r => by kernel_rfl) (fun r => by kernel_rfl) (fun r => by kernel_rfl) (fun r => by kernel_rfl)
  unfold F11
  refine Ref.seqC (cd (bd Tryz.f11) [0]) (cd (bd Tryz.f11) [1]) (by kernel_rfl) ?_
  refine Ref.seqC (cd (bd Tryz.f11) [0, 0]) (cd (bd Tryz.f11) [0, 1]) (by kernel_rfl) ?_
  refine Ref.regionC 0 (by kernel_rfl) ?_
  refine RefR.ev0 (st' := ⟨[(0, .c (.own 0 a0.length)), (2, .c (.val (.int .i64 0)))], [E37.row a0], [], 1⟩) 0 1 1 [0, 2] [0] rfl (by kernel_rfl) ?_
  refine RefR.nilC 1 (by kernel_rfl) ?_
  refine Ref.codeEq (c' := .block 0 (cd (bd Tryz.f11) [0, 1, 0])) (by kernel_rfl) ?_
  refine Ref.block (go1 := fun u9 => ⟨[(0, .c (.own 0 u9.length))], [E37.row u9], [], 1⟩) ?_ (fun _ h => by cases h) (fun u9 => ?_)
  ·
    refine Ref.codeEq (c' := .loop (cd (bd Tryz.f11) [0, 1, 0, 0])) (by kernel_rfl) ?_
    refine Ref.loop (hd := fun u12 => ⟨[(0, .c (.own 0 u12.1.length)), (2, .c (.val (.int .i64 u12.2)))], [E37.row u12.1], [], 1⟩) K (a0, 0) (by kernel_rfl) (fun u12 => ?_)
    refine Ref.seqC (cd (bd Tryz.f11) [0, 1, 0, 0, 0]) (cd (bd Tryz.f11) [0, 1, 0, 0, 1]) (by kernel_rfl) ?_
    refine Ref.seqC (cd (bd Tryz.f11) [0, 1, 0, 0, 0, 0]) (cd (bd Tryz.f11) [0, 1, 0, 0, 0, 1]) (by kernel_rfl) ?_
    refine Ref.regionC 1 (by kernel_rfl) ?_
    refine RefR.ev0 (st' := ⟨[(0, .c (.own 0 u12.1.length)), (2, .c (.val (.int .i64 u12.2))), (6, .c (.val (.bool (decide ((u12.2 : Int) < (Int.ofNat u12.1.length))))))], [E37.row u12.1], [], 1⟩) 0 4 4 [0, 2, 6] [0] rfl (by kernel_rfl) ?_
    refine RefR.letC (stf := fun x16 => ⟨[(0, .c (.own 0 u12.1.length)), (2, .c (.val (.int .i64 u12.2))), (6, .c (.val (.bool x16)))], [E37.row u12.1], [], 1⟩) (by kernel_rfl) (fun x16 => ?_)
    refine RefR.nilC 4 (by kernel_rfl) ?_
    refine Ref.condC (.tmp 6) x16 (by kernel_rfl) rfl (by kernel_rfl) (fun hc => ?_) (fun hc => ?_)
    ·
      refine Ref.skipC (by kernel_rfl) ?_
      refine Ref.seqC (cd (bd Tryz.f11) [0, 1, 0, 0, 1, 0]) (cd (bd Tryz.f11) [0, 1, 0, 0, 1, 1]) (by kernel_rfl) ?_
      refine Ref.codeEq (c' := .block 1 (cd (bd Tryz.f11) [0, 1, 0, 0, 1, 0, 0])) (by kernel_rfl) ?_
      refine Ref.block (go1 := fun u17 => ⟨[(0, .c (.own 0 u17.length)), (2, .c (.val (.int .i64 u12.2)))], [E37.row u17], [], 1⟩) ?_ (fun a => match a with | .inl _ => (fun h => by cases h) | .inr _ => (fun h => by cases h)) (fun u17 => ?_)
      ·
        refine Ref.regionC 3 (by kernel_rfl) ?_
        refine RefR.evH (vs := [inb u12.2 u12.1.length]) (st' := ⟨[(0, .c (.own 0 u12.1.length)), (2, .c (.val (.int .i64 u12.2)))], [.row 37 4 u12.1.length (setRow (E37.at u12.1) ((u12.2 : Int).toNat) 0 [.val (.int .i64 0), .str ([111, 118, 101, 114] : Bytes), .val (.int .i64 0), .val (.int .i64 0)])], [], 1⟩) 0 5 5 [0, 2] [0] rfl (by kernel_rfl) (fun hv => ?_)
        refine RefR.conv (Conv.obj 0 (E37.row (u12.1.set ((u12.2 : Int).toNat) (⟨0, ([111, 118, 101, 114] : Bytes), 0, 0⟩ : S37))) (El.row_set E37 u12.1 (⟨0, ([111, 118, 101, 114] : Bytes), 0, 0⟩ : S37) (j := 0) (cl := [.val (.int .i64 0), .str ([111, 118, 101, 114] : Bytes), .val (.int .i64 0), .val (.int .i64 0)]) (inb_lt (hv _ (List.Mem.head _))) (fun _ => rfl) (by decide) rfl) (by kernel_rfl)) ?_
        refine RefR.conv (Conv.slot 0 (.c (.own 0 ((u12.1.set ((u12.2 : Int).toNat) (⟨0, ([111, 118, 101, 114] : Bytes), 0, 0⟩ : S37)).length))) (DLe.c (CLe.own (by simp <;> omega))) (by kernel_rfl)) ?_
        refine RefR.nilC 5 (by kernel_rfl) ?_
        exact Ref.nil (t := ((u12.1.set ((u12.2 : Int).toNat) (⟨0, ([111, 118, 101, 114] : Bytes), 0, 0⟩ : S37)))) (by kernel_rfl)
      ·
        refine Ref.regionC 2 (by kernel_rfl) ?_
        refine RefR.ev0 (st' := ⟨[(0, .c (.own 0 u17.length)), (2, .c (.val (.int .i64 (IntKind.i64.wrap (u12.2 + 1)))))], [E37.row u17], [], 1⟩) 0 3 3 [0, 2] [0] rfl (by kernel_rfl) ?_
        refine RefR.nilC 3 (by kernel_rfl) ?_
        exact Ref.nil (t := (u17, (IntKind.i64.wrap (u12.2 + 1)))) (by kernel_rfl)
    ·
      refine Ref.conv (Conv.keep (st' := ⟨[(0, .c (.own 0 u12.1.length))], [E37.row u12.1], [], 1⟩) [0] [0] (by kernel_rfl)) ?_
      exact Ref.exitC 0 (t := (Sum.inl (u12.1))) (by kernel_rfl) (by kernel_rfl)
  ·
    refine Ref.regionC 4 (by kernel_rfl) ?_
    refine RefR.ev0 (st' := ⟨[(13, .c (.own 0 u9.length)), (14, .agg [.val (.int .i64 0), .str ([111, 118, 101, 114] : Bytes), .val (.int .i64 0), .val (.int .i64 0)])], [E37.row u9], [], 1⟩) 0 2 2 [13, 14] [0] rfl (by kernel_rfl) ?_
    refine RefR.ev0 (st' := ⟨[(13, .c (.own 0 u9.length)), (15, .c (.own 1 1))], [E37.row u9, .row 37 4 1 (tbl [[.val (.int .i64 0), .str ([111, 118, 101, 114] : Bytes), .val (.int .i64 0), .val (.int .i64 0)]])], [], 1⟩) 2 1 3 [13, 15] [0, 1] rfl (by kernel_rfl) ?_
    refine RefR.conv (Conv.obj 1 (E37.row [(⟨0, ([111, 118, 101, 114] : Bytes), 0, 0⟩ : S37)]) (El.row_build E37 [(⟨0, ([111, 118, 101, 114] : Bytes), 0, 0⟩ : S37)] rfl (by kernel_rfl)) (by kernel_rfl)) ?_
    refine RefR.conv (Conv.slot 15 (.c (.own 1 ([(⟨0, ([111, 118, 101, 114] : Bytes), 0, 0⟩ : S37)].length))) (DLe.c (CLe.own (by simp <;> omega))) (by kernel_rfl)) ?_
    refine RefR.evC (vs := [room ((u9.length + ([(⟨0, ([111, 118, 101, 114] : Bytes), 0, 0⟩ : S37)].length)) * 40)]) (st' := ⟨[], [.dead], [], 1⟩) 3 1 4 [] [0] rfl (by kernel_rfl) ?_
    refine RefR.nilC 4 (by kernel_rfl) ?_
    exact Ref.nil (t := ()) (by kernel_rfl)

end Go.Proofs.YtnneapbegnmncaaGreatDoor
