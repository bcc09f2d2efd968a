/- Plain functions, and that the Go functions do what these do: printed by gen2.py. No conditions. -/
import Derived.Test.YtnneapbegnmncaaDoorLGa
import Derived.Test.YtnneapbegnmncaaDoorProg
set_option linter.unusedVariables false
set_option linter.unusedSimpArgs false
set_option linter.unusedSectionVars false
namespace Go.Proofs.YtnneapbegnmncaaDoor
open Go Go.Proofs Go.Dl

/-- governor/governorlaw0.Code -/
def F12 (K : Nat) (a0 : Err) : Option ((Int) ⊕ (Int)) :=
  ((fnS (F8 K a0)).bind (fun r1 => (some (.inl (r1.1)))))

theorem F12_ok (K : Nat) (a0 : Err) : DFun Tryd.prog 12 [.c (errC a0)] [] (fnS (F12 K a0)) (fun r => .c (.val (.int .i64 r))) (fun r => []) := by
  refine DFun.intro (fn := Tryd.f12) (c := cd (bd Tryd.f12) []) (rs := fun r => ⟨[(2, .c (.val (.int .i64 r)))], [], [], 0⟩) (by kernel_rfl) (by kernel_rfl) (by kernel_rfl) ?_ (fun r => by kernel_rfl) (fun r => by kernel_rfl) (fun r => by kernel_rfl) (fun r => by kernel_rfl)
  unfold F12
  refine Ref.seqC (cd (bd Tryd.f12) [0]) (cd (bd Tryd.f12) [1]) (by kernel_rfl) ?_
  refine Ref.regionC 0 (by kernel_rfl) ?_
  refine RefR.ev0 (st' := ⟨[(0, .c (errC a0))], [], [], 0⟩) 0 1 1 [0] [] rfl (by kernel_rfl) ?_
  refine RefR.nilC 1 (by kernel_rfl) ?_
  refine Ref.seqC (cd (bd Tryd.f12) [1, 0]) (cd (bd Tryd.f12) [1, 1]) (by kernel_rfl) ?_
  refine Ref.regionC 1 (by kernel_rfl) ?_
  refine RefR.ev0 (st' := ⟨[(6, .c (errC a0))], [], [], 0⟩) 0 1 1 [6] [] rfl (by kernel_rfl) ?_
  refine RefR.callC (t := 7) 1 2 [] rfl (by kernel_rfl) (F8_ok K a0) (fun r1 => ?_)
  refine RefR.ev0 (st' := ⟨[(3, .c (.val (.int .i64 r1.1)))], [], [], 0⟩) 2 5 7 [3] [] rfl (by kernel_rfl) ?_
  refine RefR.nilC 7 (by kernel_rfl) ?_
  refine Ref.seqC (cd (bd Tryd.f12) [1, 1, 0]) (cd (bd Tryd.f12) [1, 1, 1]) (by kernel_rfl) ?_
  refine Ref.regionC 2 (by kernel_rfl) ?_
  refine RefR.ev0 (st' := ⟨[(2, .c (.val (.int .i64 r1.1)))], [], [], 0⟩) 0 2 2 [2] [] rfl (by kernel_rfl) ?_
  refine RefR.nilC 2 (by kernel_rfl) ?_
  exact Ref.retC (t := (r1.1)) (by kernel_rfl) (by kernel_rfl)

/-- governor/governorlaw0.Low -/
def F10 (K : Nat) (a0 : Int) (a1 : Int) : Option ((Int) ⊕ (Int)) :=
  (chk [!((IntKind.u64.wrap a1) == 0)] (letV (IntKind.i64.wrap (((IntKind.u64.wrap a0) : Int).tmod (IntKind.u64.wrap a1))) (fun (x1 : Int) => (some (.inl (x1))))))

theorem F10_ok (K : Nat) (a0 : Int) (a1 : Int) : DFun Tryd.prog 10 [.c (.val (.int .i64 a0)), .c (.val (.int .i64 a1))] [] (fnS (F10 K a0 a1)) (fun r => .c (.val (.int .i64 r))) (fun r => []) := by
  refine DFun.intro (fn := Tryd.f10) (c := cd (bd Tryd.f10) []) (rs := fun r => ⟨[(4, .c (.val (.int .i64 r)))], [], [], 0⟩) (by kernel_rfl) (by kernel_rfl) (by kernel_rfl) ?_ (fun r => by kernel_rfl) (fun r => by kernel_rfl) (fun r => by kernel_rfl) (fun r => by kernel_rfl)
  unfold F10
  refine Ref.seqC (cd (bd Tryd.f10) [0]) (cd (bd Tryd.f10) [1]) (by kernel_rfl) ?_
  refine Ref.regionC 0 (by kernel_rfl) ?_
  refine RefR.ev0 (st' := ⟨[(0, .c (.val (.int .i64 a0))), (1, .c (.val (.int .i64 a1)))], [], [], 0⟩) 0 1 1 [0, 1] [] rfl (by kernel_rfl) ?_
  refine RefR.nilC 1 (by kernel_rfl) ?_
  refine Ref.seqC (cd (bd Tryd.f10) [1, 0]) (cd (bd Tryd.f10) [1, 1]) (by kernel_rfl) ?_
  refine Ref.regionC 1 (by kernel_rfl) ?_
  refine RefR.evC (vs := [!((IntKind.u64.wrap a1) == 0)]) (st' := ⟨[(4, .c (.val (.int .i64 (IntKind.i64.wrap (((IntKind.u64.wrap a0) : Int).tmod (IntKind.u64.wrap a1))))))], [], [], 0⟩) 0 7 7 [4] [] rfl (by kernel_rfl) ?_
  refine RefR.letC (stf := fun x1 => ⟨[(4, .c (.val (.int .i64 x1)))], [], [], 0⟩) (by kernel_rfl) (fun x1 => ?_)
  refine RefR.nilC 7 (by kernel_rfl) ?_
  exact Ref.retC (t := (x1)) (by kernel_rfl) (by kernel_rfl)

/-- governor/governorlaw0.SameTokens -/
def F11 (K : Nat) (a0 : (List S31)) (a1 : (List S31)) : Option ((Bool) ⊕ (Bool)) :=
  (letV (((Int.ofNat a0.length) : Int) != (Int.ofNat a1.length)) (fun (x1 : Bool) => (if x1 = true then (some (.inl (false))) else (bindS (blockS ((iter K (fun (u21 : Int) => (letV (decide ((u21 : Int) < (Int.ofNat a0.length))) (fun (x27 : Bool) => (if x27 = true then (bindS (blockS (chk [inb u21 a0.length, inb u21 a1.length] (letV (!((((a0.getD (u21 : Int).toNat default).fKind : Int) == ((a1.getD (u21 : Int).toNat default).fKind)) && ((((a0.getD (u21 : Int).toNat default).fText) == ((a1.getD (u21 : Int).toNat default).fText)) && ((((a0.getD (u21 : Int).toNat default).fN : Int) == ((a1.getD (u21 : Int).toNat default).fN)) && ((((a0.getD (u21 : Int).toNat default).fAt : Int) == ((a1.getD (u21 : Int).toNat default).fAt)) && true))))) (fun (x30 : Bool) => (if x30 = true then (some (.inl (Sum.inr (Sum.inr (false))))) else (some (.inr ()))))))) (fun (u29 : Unit) => (some (.inr ((IntKind.i64.wrap (u21 + 1))))))) else (some (.inl (Sum.inl ()))))))) (0)).map .inl)) (fun (u16 : Unit) => (some (.inl (true))))))))

theorem F11_ok (K : Nat) (a0 : (List S31)) (a1 : (List S31)) : DFun Tryd.prog 11 [.c (E31.tree a0), .c (E31.tree a1)] [] (fnS (F11 K a0 a1)) (fun r => .c (.val (.bool r))) (fun r => []) := by
  refine DFun.intro (fn := Tryd.f11) (c := cd (bd Tryd.f11) []) (rs := fun r => ⟨[(4, .c (.val (.bool r)))], [], [], 0⟩) (by kernel_rfl) (by kernel_rfl) (by kernel_rfl) ?_ (fun r => by kernel_rfl) (fun r => by kernel_rfl) (fun r => by kernel_rfl) (fun r => by kernel_rfl)
  unfold F11
  refine Ref.seqC (cd (bd Tryd.f11) [0]) (cd (bd Tryd.f11) [1]) (by kernel_rfl) ?_
  refine Ref.regionC 0 (by kernel_rfl) ?_
  refine RefR.ev0 (st' := ⟨[(0, .c (E31.tree a0)), (1, .c (E31.tree a1))], [], [], 0⟩) 0 1 1 [0, 1] [] rfl (by kernel_rfl) ?_
  refine RefR.nilC 1 (by kernel_rfl) ?_
  refine Ref.seqC (cd (bd Tryd.f11) [1, 0]) (cd (bd Tryd.f11) [1, 1]) (by kernel_rfl) ?_
  refine Ref.seqC (cd (bd Tryd.f11) [1, 0, 0]) (cd (bd Tryd.f11) [1, 0, 1]) (by kernel_rfl) ?_
  refine Ref.regionC 1 (by kernel_rfl) ?_
  refine RefR.ev0 (st' := ⟨[(0, .c (E31.tree a0)), (1, .c (E31.tree a1)), (10, .c (.val (.bool (((Int.ofNat a0.length) : Int) != (Int.ofNat a1.length)))))], [], [], 0⟩) 0 5 5 [0, 1, 10] [] rfl (by kernel_rfl) ?_
  refine RefR.letC (stf := fun x1 => ⟨[(0, .c (E31.tree a0)), (1, .c (E31.tree a1)), (10, .c (.val (.bool x1)))], [], [], 0⟩) (by kernel_rfl) (fun x1 => ?_)
  refine RefR.nilC 5 (by kernel_rfl) ?_
  refine Ref.condC (.tmp 10) x1 (by kernel_rfl) rfl (by kernel_rfl) (fun hc => ?_) (fun hc => ?_)
  ·
    refine Ref.seqC (cd (bd Tryd.f11) [1, 0, 1, 0, 0]) (cd (bd Tryd.f11) [1, 0, 1, 0, 1]) (by kernel_rfl) ?_
    refine Ref.regionC 2 (by kernel_rfl) ?_
    refine RefR.ev0 (st' := ⟨[(4, .c (.val (.bool false)))], [], [], 0⟩) 0 1 1 [4] [] rfl (by kernel_rfl) ?_
    refine RefR.nilC 1 (by kernel_rfl) ?_
    exact Ref.retC (t := (false)) (by kernel_rfl) (by kernel_rfl)
  ·
    refine Ref.skipC (by kernel_rfl) ?_
    refine Ref.seqC (cd (bd Tryd.f11) [1, 1, 0]) (cd (bd Tryd.f11) [1, 1, 1]) (by kernel_rfl) ?_
    refine Ref.seqC (cd (bd Tryd.f11) [1, 1, 0, 0]) (cd (bd Tryd.f11) [1, 1, 0, 1]) (by kernel_rfl) ?_
    refine Ref.regionC 3 (by kernel_rfl) ?_
    refine RefR.ev0 (st' := ⟨[(0, .c (E31.tree a0)), (1, .c (E31.tree a1)), (5, .c (.val (.int .i64 0)))], [], [], 0⟩) 0 1 1 [0, 1, 5] [] rfl (by kernel_rfl) ?_
    refine RefR.nilC 1 (by kernel_rfl) ?_
    refine Ref.codeEq (c' := .block 0 (cd (bd Tryd.f11) [1, 1, 0, 1, 0])) (by kernel_rfl) ?_
    refine Ref.block (go1 := fun u16 => ⟨[], [], [], 0⟩) ?_ (fun _ h => by cases h) (fun u16 => ?_)
    ·
      refine Ref.codeEq (c' := .loop (cd (bd Tryd.f11) [1, 1, 0, 1, 0, 0])) (by kernel_rfl) ?_
      refine Ref.loop (hd := fun u21 => ⟨[(0, .c (E31.tree a0)), (1, .c (E31.tree a1)), (5, .c (.val (.int .i64 u21)))], [], [], 0⟩) K (0) (by kernel_rfl) (fun u21 => ?_)
      refine Ref.seqC (cd (bd Tryd.f11) [1, 1, 0, 1, 0, 0, 0]) (cd (bd Tryd.f11) [1, 1, 0, 1, 0, 0, 1]) (by kernel_rfl) ?_
      refine Ref.seqC (cd (bd Tryd.f11) [1, 1, 0, 1, 0, 0, 0, 0]) (cd (bd Tryd.f11) [1, 1, 0, 1, 0, 0, 0, 1]) (by kernel_rfl) ?_
      refine Ref.regionC 4 (by kernel_rfl) ?_
      refine RefR.ev0 (st' := ⟨[(0, .c (E31.tree a0)), (1, .c (E31.tree a1)), (5, .c (.val (.int .i64 u21))), (14, .c (.val (.bool (decide ((u21 : Int) < (Int.ofNat a0.length))))))], [], [], 0⟩) 0 4 4 [0, 1, 5, 14] [] rfl (by kernel_rfl) ?_
      refine RefR.letC (stf := fun x27 => ⟨[(0, .c (E31.tree a0)), (1, .c (E31.tree a1)), (5, .c (.val (.int .i64 u21))), (14, .c (.val (.bool x27)))], [], [], 0⟩) (by kernel_rfl) (fun x27 => ?_)
      refine RefR.nilC 4 (by kernel_rfl) ?_
      refine Ref.condC (.tmp 14) x27 (by kernel_rfl) rfl (by kernel_rfl) (fun hc => ?_) (fun hc => ?_)
      ·
        refine Ref.skipC (by kernel_rfl) ?_
        refine Ref.seqC (cd (bd Tryd.f11) [1, 1, 0, 1, 0, 0, 1, 0]) (cd (bd Tryd.f11) [1, 1, 0, 1, 0, 0, 1, 1]) (by kernel_rfl) ?_
        refine Ref.codeEq (c' := .block 1 (cd (bd Tryd.f11) [1, 1, 0, 1, 0, 0, 1, 0, 0])) (by kernel_rfl) ?_
        refine Ref.block (go1 := fun u29 => ⟨[(0, .c (E31.tree a0)), (1, .c (E31.tree a1)), (5, .c (.val (.int .i64 u21)))], [], [], 0⟩) ?_ (fun a => match a with | .inl _ => (fun h => by cases h) | .inr _ => (fun h => by cases h)) (fun u29 => ?_)
        ·
          refine Ref.seqC (cd (bd Tryd.f11) [1, 1, 0, 1, 0, 0, 1, 0, 0, 0]) (cd (bd Tryd.f11) [1, 1, 0, 1, 0, 0, 1, 0, 0, 1]) (by kernel_rfl) ?_
          refine Ref.drawnY 6 (by kernel_rfl) (by kernel_rfl) ?_
          refine RefY.evC (vs := [inb u21 a0.length, inb u21 a1.length]) (st' := ⟨[(0, .c (E31.tree a0)), (1, .c (E31.tree a1)), (5, .c (.val (.int .i64 u21))), (19, .c (E31.ep (a0.getD (u21 : Int).toNat default) 0)), (23, .c (E31.ep (a1.getD (u21 : Int).toNat default) 0))], [], [], 0⟩) (fuel' := 3) [0, 1, 2, 4, 5, 6] [0, 1, 5, 19, 23] [] rfl (by kernel_rfl) (by kernel_rfl) ?_
          refine RefY.toX [] ?_
          refine RefX.evC0 (st' := ⟨[(0, .c (E31.tree a0)), (1, .c (E31.tree a1)), (5, .c (.val (.int .i64 u21))), (25, .c (.val (.bool (!((((a0.getD (u21 : Int).toNat default).fKind : Int) == ((a1.getD (u21 : Int).toNat default).fKind)) && ((((a0.getD (u21 : Int).toNat default).fText) == ((a1.getD (u21 : Int).toNat default).fText)) && ((((a0.getD (u21 : Int).toNat default).fN : Int) == ((a1.getD (u21 : Int).toNat default).fN)) && ((((a0.getD (u21 : Int).toNat default).fAt : Int) == ((a1.getD (u21 : Int).toNat default).fAt)) && true))))))))], [], [], 0⟩) (fuel' := 0) [3, 7, 8] [0, 1, 5, 25] [] rfl (by kernel_rfl) (by kernel_rfl) ?_
          refine RefX.letC (stf := fun x30 => ⟨[(0, .c (E31.tree a0)), (1, .c (E31.tree a1)), (5, .c (.val (.int .i64 u21))), (25, .c (.val (.bool x30)))], [], [], 0⟩) (by kernel_rfl) (fun x30 => ?_)
          refine RefX.done (by kernel_rfl) ?_
          refine Ref.condC (.tmp 25) x30 (by kernel_rfl) rfl (by kernel_rfl) (fun hc => ?_) (fun hc => ?_)
          ·
            refine Ref.seqC (cd (bd Tryd.f11) [1, 1, 0, 1, 0, 0, 1, 0, 0, 1, 0, 0]) (cd (bd Tryd.f11) [1, 1, 0, 1, 0, 0, 1, 0, 0, 1, 0, 1]) (by kernel_rfl) ?_
            refine Ref.regionC 7 (by kernel_rfl) ?_
            refine RefR.ev0 (st' := ⟨[(4, .c (.val (.bool false)))], [], [], 0⟩) 0 1 1 [4] [] rfl (by kernel_rfl) ?_
            refine RefR.nilC 1 (by kernel_rfl) ?_
            exact Ref.retC (t := (Sum.inr (Sum.inr (false)))) (by kernel_rfl) (by kernel_rfl)
          ·
            refine Ref.skipC (by kernel_rfl) ?_
            refine Ref.conv (Conv.keep (st' := ⟨[(0, .c (E31.tree a0)), (1, .c (E31.tree a1)), (5, .c (.val (.int .i64 u21)))], [], [], 0⟩) [0, 1, 5] [] (by kernel_rfl)) ?_
            exact Ref.nil (t := ()) (by kernel_rfl)
        ·
          refine Ref.regionC 5 (by kernel_rfl) ?_
          refine RefR.ev0 (st' := ⟨[(0, .c (E31.tree a0)), (1, .c (E31.tree a1)), (5, .c (.val (.int .i64 (IntKind.i64.wrap (u21 + 1)))))], [], [], 0⟩) 0 3 3 [0, 1, 5] [] rfl (by kernel_rfl) ?_
          refine RefR.nilC 3 (by kernel_rfl) ?_
          exact Ref.nil (t := ((IntKind.i64.wrap (u21 + 1)))) (by kernel_rfl)
      ·
        refine Ref.conv (Conv.keep (st' := ⟨[], [], [], 0⟩) [] [] (by kernel_rfl)) ?_
        exact Ref.exitC 0 (t := (Sum.inl ())) (by kernel_rfl) (by kernel_rfl)
    ·
      refine Ref.seqC (cd (bd Tryd.f11) [1, 1, 1, 0]) (cd (bd Tryd.f11) [1, 1, 1, 1]) (by kernel_rfl) ?_
      refine Ref.regionC 8 (by kernel_rfl) ?_
      refine RefR.ev0 (st' := ⟨[(4, .c (.val (.bool true)))], [], [], 0⟩) 0 1 1 [4] [] rfl (by kernel_rfl) ?_
      refine RefR.nilC 1 (by kernel_rfl) ?_
      exact Ref.retC (t := (true)) (by kernel_rfl) (by kernel_rfl)

/-- governor/governorlaw3.awake -/
def F6 (K : Nat) : Option ((Bool) ⊕ (Bool)) :=
  ((fnS (F7 K ([120, 58, 61, 49, 40, 42, 99, 42, 41, 59] : Bytes))).bind (fun r1 => ((fnS (F7 K ([82, 69, 65, 76] : Bytes))).bind (fun r2 => (chk [!((!r1.2.isSome) && (((Int.ofNat r1.1.length) : Int) == 4)) || inb 1 r1.1.length, !(((!r1.2.isSome) && (((Int.ofNat r1.1.length) : Int) == 4)) && ((((r1.1.getD (1 : Int).toNat default).fKind : Int) == 4) && ((((r1.1.getD (1 : Int).toNat default).fText) == ([58, 61] : Bytes)) && ((((r1.1.getD (1 : Int).toNat default).fN : Int) == 0) && ((((r1.1.getD (1 : Int).toNat default).fAt : Int) == 1) && true))))) || inb 3 r1.1.length] (letV ((((!r1.2.isSome) && (((Int.ofNat r1.1.length) : Int) == 4)) && ((((r1.1.getD (1 : Int).toNat default).fKind : Int) == 4) && ((((r1.1.getD (1 : Int).toNat default).fText) == ([58, 61] : Bytes)) && ((((r1.1.getD (1 : Int).toNat default).fN : Int) == 0) && ((((r1.1.getD (1 : Int).toNat default).fAt : Int) == 1) && true))))) && ((((r1.1.getD (3 : Int).toNat default).fAt) : Int) == 9)) (fun (x3 : Bool) => ((condM x3 (fnS (F12 K r2.2)) default).bind (fun r4 => ((condM (x3 && ((r4 : Int) == 2)) (fnS (F9 K ([69, 78, 68, 95, 73, 70] : Bytes))) default).bind (fun r5 => ((condM ((x3 && ((r4 : Int) == 2)) && r5) (fnS (F9 K ([69, 78, 68] : Bytes))) default).bind (fun r6 => (some (.inl ((((x3 && ((r4 : Int) == 2)) && r5) && (!r6))))))))))))))))))

theorem F6_ok (K : Nat) : DFun Tryd.prog 6 [] [] (fnS (F6 K)) (fun r => .c (.val (.bool r))) (fun r => []) := by
  refine DFun.intro (fn := Tryd.f6) (c := cd (bd Tryd.f6) []) (rs := fun r => ⟨[(0, .c (.val (.bool r)))], [], [], 0⟩) (by kernel_rfl) (by kernel_rfl) (by kernel_rfl) ?_ (fun r => by kernel_rfl) (fun r => by kernel_rfl) (fun r => by kernel_rfl) (fun r => by kernel_rfl)
  unfold F6
  refine Ref.seqC (cd (bd Tryd.f6) [0]) (cd (bd Tryd.f6) [1]) (by kernel_rfl) ?_
  refine Ref.regionC 0 (by kernel_rfl) ?_
  refine RefR.ev0 (st' := ⟨[], [], [], 0⟩) 0 1 1 [] [] rfl (by kernel_rfl) ?_
  refine RefR.nilC 1 (by kernel_rfl) ?_
  refine Ref.seqC (cd (bd Tryd.f6) [1, 0]) (cd (bd Tryd.f6) [1, 1]) (by kernel_rfl) ?_
  refine Ref.regionC 1 (by kernel_rfl) ?_
  refine RefR.callC (t := 6) 0 1 [] rfl (by kernel_rfl) (F7_ok K ([120, 58, 61, 49, 40, 42, 99, 42, 41, 59] : Bytes)) (fun r1 => ?_)
  refine RefR.ev0 (st' := ⟨[(1, .c (E31.tree r1.1)), (2, .c (errC r1.2))], [], [], 0⟩) 1 5 6 [1, 2] [] rfl (by kernel_rfl) ?_
  refine RefR.nilC 6 (by kernel_rfl) ?_
  refine Ref.seqC (cd (bd Tryd.f6) [1, 1, 0]) (cd (bd Tryd.f6) [1, 1, 1]) (by kernel_rfl) ?_
  refine Ref.regionC 2 (by kernel_rfl) ?_
  refine RefR.callC (t := 10) 0 1 [] rfl (by kernel_rfl) (F7_ok K ([82, 69, 65, 76] : Bytes)) (fun r2 => ?_)
  refine RefR.ev0 (st' := ⟨[(1, .c (E31.tree r1.1)), (2, .c (errC r1.2)), (4, .c (errC r2.2))], [], [], 0⟩) 1 5 6 [1, 2, 4] [] rfl (by kernel_rfl) ?_
  refine RefR.nilC 6 (by kernel_rfl) ?_
  refine Ref.seqC (cd (bd Tryd.f6) [1, 1, 1, 0]) (cd (bd Tryd.f6) [1, 1, 1, 1]) (by kernel_rfl) ?_
  refine Ref.regionC 3 (by kernel_rfl) ?_
  refine RefR.evC (vs := [!((!r1.2.isSome) && (((Int.ofNat r1.1.length) : Int) == 4)) || inb 1 r1.1.length, !(((!r1.2.isSome) && (((Int.ofNat r1.1.length) : Int) == 4)) && ((((r1.1.getD (1 : Int).toNat default).fKind : Int) == 4) && ((((r1.1.getD (1 : Int).toNat default).fText) == ([58, 61] : Bytes)) && ((((r1.1.getD (1 : Int).toNat default).fN : Int) == 0) && ((((r1.1.getD (1 : Int).toNat default).fAt : Int) == 1) && true))))) || inb 3 r1.1.length]) (st' := ⟨[(34, .c (.val (.bool ((((!r1.2.isSome) && (((Int.ofNat r1.1.length) : Int) == 4)) && ((((r1.1.getD (1 : Int).toNat default).fKind : Int) == 4) && ((((r1.1.getD (1 : Int).toNat default).fText) == ([58, 61] : Bytes)) && ((((r1.1.getD (1 : Int).toNat default).fN : Int) == 0) && ((((r1.1.getD (1 : Int).toNat default).fAt : Int) == 1) && true))))) && ((((r1.1.getD (3 : Int).toNat default).fAt) : Int) == 9))))), (35, .c (errC r2.2))], [], [(35, [(34, true)])], 0⟩) 0 23 23 [34, 35] [] rfl (by kernel_rfl) ?_
  refine RefR.letC (stf := fun x3 => ⟨[(34, .c (.val (.bool x3))), (35, .c (errC r2.2))], [], [(35, [(34, true)])], 0⟩) (by kernel_rfl) (fun x3 => ?_)
  refine RefR.lookC (t := 36) (g := [(34, true)]) (b := x3) 23 24 [] (default : Int) rfl (by kernel_rfl) (F12_ok K r2.2) (fun _ => rfl) (fun r4 => ?_)
  refine RefR.ev0 (st' := ⟨[(39, .c (.val (.bool (x3 && ((r4 : Int) == 2)))))], [], [], 0⟩) 24 3 27 [39] [] rfl (by kernel_rfl) ?_
  refine RefR.lookC (t := 40) (g := [(39, true)]) (b := (x3 && ((r4 : Int) == 2))) 27 28 [] (default : Bool) rfl (by kernel_rfl) (F9_ok K ([69, 78, 68, 95, 73, 70] : Bytes)) (fun _ => rfl) (fun r5 => ?_)
  refine RefR.ev0 (st' := ⟨[(42, .c (.val (.bool ((x3 && ((r4 : Int) == 2)) && r5))))], [], [], 0⟩) 28 2 30 [42] [] rfl (by kernel_rfl) ?_
  refine RefR.lookC (t := 43) (g := [(42, true)]) (b := ((x3 && ((r4 : Int) == 2)) && r5)) 30 31 [] (default : Bool) rfl (by kernel_rfl) (F9_ok K ([69, 78, 68] : Bytes)) (fun _ => rfl) (fun r6 => ?_)
  refine RefR.ev0 (st' := ⟨[(0, .c (.val (.bool (((x3 && ((r4 : Int) == 2)) && r5) && (!r6)))))], [], [], 0⟩) 31 3 34 [0] [] rfl (by kernel_rfl) ?_
  refine RefR.nilC 34 (by kernel_rfl) ?_
  exact Ref.retC (t := ((((x3 && ((r4 : Int) == 2)) && r5) && (!r6)))) (by kernel_rfl) (by kernel_rfl)

/-- governor/governorlaw3.LexPlaces -/
def F3 (K : Nat) (a0 : Bytes) : Option ((Bool) ⊕ (Bool)) :=
  (letV (decide (((Int.ofNat a0.length) : Int) > 3000)) (fun (x1 : Bool) => (if x1 = true then ((fnS (F6 K)).bind (fun r2 => (some (.inl (r2))))) else ((fnS (F7 K a0)).bind (fun r3 => (if (!(!r3.2.isSome)) = true then ((fnS (F8 K r3.2)).bind (fun r4 => (letV ((((((Int.ofNat r3.1.length) : Int) == 0) && ((((r4.1 : Int) == 1) || ((r4.1 : Int) == 2)) || ((r4.1 : Int) == 5))) && (decide ((r4.2 : Int) ≥ 0))) && (decide ((r4.2 : Int) < (Int.ofNat a0.length)))) (fun (x5 : Bool) => ((condM x5 (fnS (F6 K)) default).bind (fun r6 => (some (.inl ((x5 && r6)))))))))) else (bindS (blockS ((iter K (fun (u52 : Int × Int) => (letV (decide ((u52.2 : Int) < (Int.ofNat r3.1.length))) (fun (x64 : Bool) => (if x64 = true then (bindS (blockS (chk [inb u52.2 r3.1.length] (chk [!(!(((decide ((((r3.1.getD (u52.2 : Int).toNat default).fAt) : Int) < u52.1)) || (((r3.1.getD (u52.2 : Int).toNat default).fText) == ([] : Bytes))) || (decide ((((r3.1.getD (u52.2 : Int).toNat default).fAt) : Int) > (IntKind.i64.wrap ((Int.ofNat a0.length) - (Int.ofNat ((r3.1.getD (u52.2 : Int).toNat default).fText).length))))))) || bndOk a0.length ((r3.1.getD (u52.2 : Int).toNat default).fAt) (IntKind.i64.wrap (((r3.1.getD (u52.2 : Int).toNat default).fAt) + (Int.ofNat ((r3.1.getD (u52.2 : Int).toNat default).fText).length)))] (letV ((((((decide ((((r3.1.getD (u52.2 : Int).toNat default).fAt) : Int) < u52.1)) || (((r3.1.getD (u52.2 : Int).toNat default).fText) == ([] : Bytes))) || (decide ((((r3.1.getD (u52.2 : Int).toNat default).fAt) : Int) > (IntKind.i64.wrap ((Int.ofNat a0.length) - (Int.ofNat ((r3.1.getD (u52.2 : Int).toNat default).fText).length)))))) || (!(((a0.drop (((r3.1.getD (u52.2 : Int).toNat default).fAt) : Int).toNat).take (((IntKind.i64.wrap (((r3.1.getD (u52.2 : Int).toNat default).fAt) + (Int.ofNat ((r3.1.getD (u52.2 : Int).toNat default).fText).length))) : Int).toNat - (((r3.1.getD (u52.2 : Int).toNat default).fAt) : Int).toNat)) == ((r3.1.getD (u52.2 : Int).toNat default).fText)))) || (decide ((((r3.1.getD (u52.2 : Int).toNat default).fKind) : Int) < 1))) || (decide ((((r3.1.getD (u52.2 : Int).toNat default).fKind) : Int) > 4))) (fun (x70 : Bool) => ((condM (!x70) (fnS (F9 K ((r3.1.getD (u52.2 : Int).toNat default).fText))) default).bind (fun r71 => (letV (x70 || (!(((((r3.1.getD (u52.2 : Int).toNat default).fKind) : Int) == 2) == r71))) (fun (x72 : Bool) => (if x72 = true then (some (.inl (Sum.inr (Sum.inr (false))))) else (letV (IntKind.i64.wrap (((r3.1.getD (u52.2 : Int).toNat default).fAt) + (Int.ofNat ((r3.1.getD (u52.2 : Int).toNat default).fText).length))) (fun (x73 : Int) => (some (.inr (x73))))))))))))))) (fun (u69 : Int) => (some (.inr (u69, (IntKind.i64.wrap (u52.2 + 1))))))) else (some (.inl (Sum.inl ()))))))) (0, 0)).map .inl)) (fun (u40 : Unit) => (letV (decide (((Int.ofNat r3.1.length) : Int) ≤ 1500)) (fun (x74 : Bool) => ((condM x74 (fnS (F6 K)) default).bind (fun r75 => (some (.inl ((x74 && r75))))))))))))))))

theorem F3_ok (K : Nat) (a0 : Bytes) : DFun Tryd.prog 3 [.c (.str a0)] [] (fnS (F3 K a0)) (fun r => .c (.val (.bool r))) (fun r => []) := by
  refine DFun.intro (fn := Tryd.f3) (c := cd (bd Tryd.f3) []) (rs := fun r => ⟨[(2, .c (.val (.bool r)))], [], [], 0⟩) (by kernel_rfl) (by kernel_rfl) (by kernel_rfl) ?_ (fun r => by kernel_rfl) (fun r => by kernel_rfl) (fun r => by kernel_rfl) (fun r => by kernel_rfl)
  unfold F3
  refine Ref.seqC (cd (bd Tryd.f3) [0]) (cd (bd Tryd.f3) [1]) (by kernel_rfl) ?_
  refine Ref.regionC 0 (by kernel_rfl) ?_
  refine RefR.ev0 (st' := ⟨[(0, .c (.str a0))], [], [], 0⟩) 0 1 1 [0] [] rfl (by kernel_rfl) ?_
  refine RefR.nilC 1 (by kernel_rfl) ?_
  refine Ref.seqC (cd (bd Tryd.f3) [1, 0]) (cd (bd Tryd.f3) [1, 1]) (by kernel_rfl) ?_
  refine Ref.seqC (cd (bd Tryd.f3) [1, 0, 0]) (cd (bd Tryd.f3) [1, 0, 1]) (by kernel_rfl) ?_
  refine Ref.regionC 1 (by kernel_rfl) ?_
  refine RefR.ev0 (st' := ⟨[(0, .c (.str a0)), (12, .c (.val (.bool (decide (((Int.ofNat a0.length) : Int) > 3000)))))], [], [], 0⟩) 0 3 3 [0, 12] [] rfl (by kernel_rfl) ?_
  refine RefR.letC (stf := fun x1 => ⟨[(0, .c (.str a0)), (12, .c (.val (.bool x1)))], [], [], 0⟩) (by kernel_rfl) (fun x1 => ?_)
  refine RefR.nilC 3 (by kernel_rfl) ?_
  refine Ref.condC (.tmp 12) x1 (by kernel_rfl) rfl (by kernel_rfl) (fun hc => ?_) (fun hc => ?_)
  ·
    refine Ref.seqC (cd (bd Tryd.f3) [1, 0, 1, 0, 0]) (cd (bd Tryd.f3) [1, 0, 1, 0, 1]) (by kernel_rfl) ?_
    refine Ref.regionC 2 (by kernel_rfl) ?_
    refine RefR.callC (t := 13) 0 1 [] rfl (by kernel_rfl) (F6_ok K) (fun r2 => ?_)
    refine RefR.ev0 (st' := ⟨[(2, .c (.val (.bool r2)))], [], [], 0⟩) 1 1 2 [2] [] rfl (by kernel_rfl) ?_
    refine RefR.nilC 2 (by kernel_rfl) ?_
    exact Ref.retC (t := (r2)) (by kernel_rfl) (by kernel_rfl)
  ·
    refine Ref.skipC (by kernel_rfl) ?_
    refine Ref.seqC (cd (bd Tryd.f3) [1, 1, 0]) (cd (bd Tryd.f3) [1, 1, 1]) (by kernel_rfl) ?_
    refine Ref.regionC 3 (by kernel_rfl) ?_
    refine RefR.ev0 (st' := ⟨[(0, .c (.str a0)), (15, .c (.str a0))], [], [], 0⟩) 0 1 1 [0, 15] [] rfl (by kernel_rfl) ?_
    refine RefR.callC (t := 16) 1 2 [] rfl (by kernel_rfl) (F7_ok K a0) (fun r3 => ?_)
    refine RefR.ev0 (st' := ⟨[(0, .c (.str a0)), (3, .c (E31.tree r3.1)), (4, .c (errC r3.2))], [], [], 0⟩) 2 5 7 [0, 3, 4] [] rfl (by kernel_rfl) ?_
    refine RefR.nilC 7 (by kernel_rfl) ?_
    refine Ref.seqC (cd (bd Tryd.f3) [1, 1, 1, 0]) (cd (bd Tryd.f3) [1, 1, 1, 1]) (by kernel_rfl) ?_
    refine Ref.seqC (cd (bd Tryd.f3) [1, 1, 1, 0, 0]) (cd (bd Tryd.f3) [1, 1, 1, 0, 1]) (by kernel_rfl) ?_
    refine Ref.regionC 4 (by kernel_rfl) ?_
    refine RefR.ev0 (st' := ⟨[(0, .c (.str a0)), (3, .c (E31.tree r3.1)), (4, .c (errC r3.2)), (20, .c (.val (.bool (!(!r3.2.isSome)))))], [], [], 0⟩) 0 2 2 [0, 3, 4, 20] [] rfl (by kernel_rfl) ?_
    refine RefR.nilC 2 (by kernel_rfl) ?_
    refine Ref.condC (.tmp 20) (!(!r3.2.isSome)) (by kernel_rfl) rfl (by kernel_rfl) (fun hc => ?_) (fun hc => ?_)
    ·
      refine Ref.seqC (cd (bd Tryd.f3) [1, 1, 1, 0, 1, 0, 0]) (cd (bd Tryd.f3) [1, 1, 1, 0, 1, 0, 1]) (by kernel_rfl) ?_
      refine Ref.regionC 5 (by kernel_rfl) ?_
      refine RefR.ev0 (st' := ⟨[(0, .c (.str a0)), (3, .c (E31.tree r3.1)), (22, .c (errC r3.2))], [], [], 0⟩) 0 1 1 [0, 3, 22] [] rfl (by kernel_rfl) ?_
      refine RefR.callC (t := 23) 1 2 [] rfl (by kernel_rfl) (F8_ok K r3.2) (fun r4 => ?_)
      refine RefR.ev0 (st' := ⟨[(0, .c (.str a0)), (3, .c (E31.tree r3.1)), (5, .c (.val (.int .i64 r4.1))), (6, .c (.val (.int .i64 r4.2)))], [], [], 0⟩) 2 5 7 [0, 3, 5, 6] [] rfl (by kernel_rfl) ?_
      refine RefR.nilC 7 (by kernel_rfl) ?_
      refine Ref.seqC (cd (bd Tryd.f3) [1, 1, 1, 0, 1, 0, 1, 0]) (cd (bd Tryd.f3) [1, 1, 1, 0, 1, 0, 1, 1]) (by kernel_rfl) ?_
      refine Ref.regionC 6 (by kernel_rfl) ?_
      refine RefR.ev0 (st' := ⟨[(51, .c (.val (.bool ((((((Int.ofNat r3.1.length) : Int) == 0) && ((((r4.1 : Int) == 1) || ((r4.1 : Int) == 2)) || ((r4.1 : Int) == 5))) && (decide ((r4.2 : Int) ≥ 0))) && (decide ((r4.2 : Int) < (Int.ofNat a0.length)))))))], [], [], 0⟩) 0 26 26 [51] [] rfl (by kernel_rfl) ?_
      refine RefR.letC (stf := fun x5 => ⟨[(51, .c (.val (.bool x5)))], [], [], 0⟩) (by kernel_rfl) (fun x5 => ?_)
      refine RefR.lookC (t := 52) (g := [(51, true)]) (b := x5) 26 27 [] (default : Bool) rfl (by kernel_rfl) (F6_ok K) (fun _ => rfl) (fun r6 => ?_)
      refine RefR.ev0 (st' := ⟨[(2, .c (.val (.bool (x5 && r6))))], [], [], 0⟩) 27 2 29 [2] [] rfl (by kernel_rfl) ?_
      refine RefR.nilC 29 (by kernel_rfl) ?_
      exact Ref.retC (t := ((x5 && r6))) (by kernel_rfl) (by kernel_rfl)
    ·
      refine Ref.skipC (by kernel_rfl) ?_
      refine Ref.seqC (cd (bd Tryd.f3) [1, 1, 1, 1, 0]) (cd (bd Tryd.f3) [1, 1, 1, 1, 1]) (by kernel_rfl) ?_
      refine Ref.regionC 7 (by kernel_rfl) ?_
      refine RefR.ev0 (st' := ⟨[(0, .c (.str a0)), (3, .c (E31.tree r3.1)), (7, .c (.val (.int .i64 0)))], [], [], 0⟩) 0 1 1 [0, 3, 7] [] rfl (by kernel_rfl) ?_
      refine RefR.nilC 1 (by kernel_rfl) ?_
      refine Ref.seqC (cd (bd Tryd.f3) [1, 1, 1, 1, 1, 0]) (cd (bd Tryd.f3) [1, 1, 1, 1, 1, 1]) (by kernel_rfl) ?_
      refine Ref.seqC (cd (bd Tryd.f3) [1, 1, 1, 1, 1, 0, 0]) (cd (bd Tryd.f3) [1, 1, 1, 1, 1, 0, 1]) (by kernel_rfl) ?_
      refine Ref.regionC 8 (by kernel_rfl) ?_
      refine RefR.ev0 (st' := ⟨[(0, .c (.str a0)), (3, .c (E31.tree r3.1)), (7, .c (.val (.int .i64 0))), (8, .c (.val (.int .i64 0)))], [], [], 0⟩) 0 1 1 [0, 3, 7, 8] [] rfl (by kernel_rfl) ?_
      refine RefR.nilC 1 (by kernel_rfl) ?_
      refine Ref.codeEq (c' := .block 0 (cd (bd Tryd.f3) [1, 1, 1, 1, 1, 0, 1, 0])) (by kernel_rfl) ?_
      refine Ref.block (go1 := fun u40 => ⟨[(3, .c (E31.tree r3.1))], [], [], 0⟩) ?_ (fun _ h => by cases h) (fun u40 => ?_)
      ·
        refine Ref.codeEq (c' := .loop (cd (bd Tryd.f3) [1, 1, 1, 1, 1, 0, 1, 0, 0])) (by kernel_rfl) ?_
        refine Ref.loop (hd := fun u52 => ⟨[(0, .c (.str a0)), (3, .c (E31.tree r3.1)), (7, .c (.val (.int .i64 u52.1))), (8, .c (.val (.int .i64 u52.2)))], [], [], 0⟩) K (0, 0) (by kernel_rfl) (fun u52 => ?_)
        refine Ref.seqC (cd (bd Tryd.f3) [1, 1, 1, 1, 1, 0, 1, 0, 0, 0]) (cd (bd Tryd.f3) [1, 1, 1, 1, 1, 0, 1, 0, 0, 1]) (by kernel_rfl) ?_
        refine Ref.seqC (cd (bd Tryd.f3) [1, 1, 1, 1, 1, 0, 1, 0, 0, 0, 0]) (cd (bd Tryd.f3) [1, 1, 1, 1, 1, 0, 1, 0, 0, 0, 1]) (by kernel_rfl) ?_
        refine Ref.regionC 9 (by kernel_rfl) ?_
        refine RefR.ev0 (st' := ⟨[(0, .c (.str a0)), (3, .c (E31.tree r3.1)), (7, .c (.val (.int .i64 u52.1))), (8, .c (.val (.int .i64 u52.2))), (57, .c (.val (.bool (decide ((u52.2 : Int) < (Int.ofNat r3.1.length))))))], [], [], 0⟩) 0 4 4 [0, 3, 7, 8, 57] [] rfl (by kernel_rfl) ?_
        refine RefR.letC (stf := fun x64 => ⟨[(0, .c (.str a0)), (3, .c (E31.tree r3.1)), (7, .c (.val (.int .i64 u52.1))), (8, .c (.val (.int .i64 u52.2))), (57, .c (.val (.bool x64)))], [], [], 0⟩) (by kernel_rfl) (fun x64 => ?_)
        refine RefR.nilC 4 (by kernel_rfl) ?_
        refine Ref.condC (.tmp 57) x64 (by kernel_rfl) rfl (by kernel_rfl) (fun hc => ?_) (fun hc => ?_)
        ·
          refine Ref.skipC (by kernel_rfl) ?_
          refine Ref.seqC (cd (bd Tryd.f3) [1, 1, 1, 1, 1, 0, 1, 0, 0, 1, 0]) (cd (bd Tryd.f3) [1, 1, 1, 1, 1, 0, 1, 0, 0, 1, 1]) (by kernel_rfl) ?_
          refine Ref.codeEq (c' := .block 1 (cd (bd Tryd.f3) [1, 1, 1, 1, 1, 0, 1, 0, 0, 1, 0, 0])) (by kernel_rfl) ?_
          refine Ref.block (go1 := fun u69 => ⟨[(0, .c (.str a0)), (3, .c (E31.tree r3.1)), (7, .c (.val (.int .i64 u69))), (8, .c (.val (.int .i64 u52.2)))], [], [], 0⟩) ?_ (fun a => match a with | .inl _ => (fun h => by cases h) | .inr _ => (fun h => by cases h)) (fun u69 => ?_)
          ·
            refine Ref.seqC (cd (bd Tryd.f3) [1, 1, 1, 1, 1, 0, 1, 0, 0, 1, 0, 0, 0]) (cd (bd Tryd.f3) [1, 1, 1, 1, 1, 0, 1, 0, 0, 1, 0, 0, 1]) (by kernel_rfl) ?_
            refine Ref.regionC 11 (by kernel_rfl) ?_
            refine RefR.evC (vs := [inb u52.2 r3.1.length]) (st' := ⟨[(0, .c (.str a0)), (3, .c (E31.tree r3.1)), (7, .c (.val (.int .i64 u52.1))), (8, .c (.val (.int .i64 u52.2))), (9, .c (.ptr 0 0 0))], [.cells (E31.cs (r3.1.getD (u52.2 : Int).toNat default))], [], 0⟩) 0 6 6 [0, 3, 7, 8, 9] [0] rfl (by kernel_rfl) ?_
            refine RefR.nilC 6 (by kernel_rfl) ?_
            refine Ref.seqC (cd (bd Tryd.f3) [1, 1, 1, 1, 1, 0, 1, 0, 0, 1, 0, 0, 1, 0]) (cd (bd Tryd.f3) [1, 1, 1, 1, 1, 0, 1, 0, 0, 1, 0, 0, 1, 1]) (by kernel_rfl) ?_
            refine Ref.seqC (cd (bd Tryd.f3) [1, 1, 1, 1, 1, 0, 1, 0, 0, 1, 0, 0, 1, 0, 0]) (cd (bd Tryd.f3) [1, 1, 1, 1, 1, 0, 1, 0, 0, 1, 0, 0, 1, 0, 1]) (by kernel_rfl) ?_
            refine Ref.drawnY 12 (by kernel_rfl) (by kernel_rfl) ?_
            refine RefY.evC0 (st' := ⟨[(0, .c (.str a0)), (3, .c (E31.tree r3.1)), (8, .c (.val (.int .i64 u52.2))), (9, .c (.ptr 0 0 0)), (64, .c (.ptr 0 0 3)), (66, .c (.val (.int .i64 u52.1)))], [.cells (E31.cs (r3.1.getD (u52.2 : Int).toNat default))], [], 0⟩) (fuel' := 52) [0, 2] [0, 3, 8, 9, 64, 66] [0] rfl (by kernel_rfl) (by kernel_rfl) ?_
            refine RefY.toX [] ?_
            refine RefX.evC (vs := [!(!(((decide ((((r3.1.getD (u52.2 : Int).toNat default).fAt) : Int) < u52.1)) || (((r3.1.getD (u52.2 : Int).toNat default).fText) == ([] : Bytes))) || (decide ((((r3.1.getD (u52.2 : Int).toNat default).fAt) : Int) > (IntKind.i64.wrap ((Int.ofNat a0.length) - (Int.ofNat ((r3.1.getD (u52.2 : Int).toNat default).fText).length))))))) || bndOk a0.length ((r3.1.getD (u52.2 : Int).toNat default).fAt) (IntKind.i64.wrap (((r3.1.getD (u52.2 : Int).toNat default).fAt) + (Int.ofNat ((r3.1.getD (u52.2 : Int).toNat default).fText).length)))]) (st' := ⟨[(0, .c (.str a0)), (3, .c (E31.tree r3.1)), (8, .c (.val (.int .i64 u52.2))), (9, .c (.ptr 0 0 0)), (109, .c (.val (.bool ((((((decide ((((r3.1.getD (u52.2 : Int).toNat default).fAt) : Int) < u52.1)) || (((r3.1.getD (u52.2 : Int).toNat default).fText) == ([] : Bytes))) || (decide ((((r3.1.getD (u52.2 : Int).toNat default).fAt) : Int) > (IntKind.i64.wrap ((Int.ofNat a0.length) - (Int.ofNat ((r3.1.getD (u52.2 : Int).toNat default).fText).length)))))) || (!(((a0.drop (((r3.1.getD (u52.2 : Int).toNat default).fAt) : Int).toNat).take (((IntKind.i64.wrap (((r3.1.getD (u52.2 : Int).toNat default).fAt) + (Int.ofNat ((r3.1.getD (u52.2 : Int).toNat default).fText).length))) : Int).toNat - (((r3.1.getD (u52.2 : Int).toNat default).fAt) : Int).toNat)) == ((r3.1.getD (u52.2 : Int).toNat default).fText)))) || (decide ((((r3.1.getD (u52.2 : Int).toNat default).fKind) : Int) < 1))) || (decide ((((r3.1.getD (u52.2 : Int).toNat default).fKind) : Int) > 4)))))), (112, .c (.val (.bool ((((r3.1.getD (u52.2 : Int).toNat default).fKind) : Int) == 2)))), (114, .c (.str ((r3.1.getD (u52.2 : Int).toNat default).fText)))], [.cells (E31.cs (r3.1.getD (u52.2 : Int).toNat default))], [(114, [(109, false)]), (112, [(109, false)])], 0⟩) (fuel' := 3) [1, 3, 4, 5, 6, 7, 8, 9, 10, 11, 12, 13, 14, 15, 16, 17, 18, 19, 20, 21, 22, 23, 24, 25, 26, 27, 28, 29, 30, 31, 32, 33, 34, 35, 36, 37, 38, 39, 40, 41, 42, 43, 44, 45, 46, 47, 48, 49, 50] [0, 3, 8, 9, 109, 112, 114] [0] rfl (by kernel_rfl) (by kernel_rfl) ?_
            refine RefX.letC (stf := fun x70 => ⟨[(0, .c (.str a0)), (3, .c (E31.tree r3.1)), (8, .c (.val (.int .i64 u52.2))), (9, .c (.ptr 0 0 0)), (109, .c (.val (.bool x70))), (112, .c (.val (.bool ((((r3.1.getD (u52.2 : Int).toNat default).fKind) : Int) == 2)))), (114, .c (.str ((r3.1.getD (u52.2 : Int).toNat default).fText)))], [.cells (E31.cs (r3.1.getD (u52.2 : Int).toNat default))], [(114, [(109, false)]), (112, [(109, false)])], 0⟩) (by kernel_rfl) (fun x70 => ?_)
            refine RefX.lookC (t := 115) (g := [(109, false)]) (b := (!x70)) (fuel' := 2) 51 [] (default : Bool) rfl (by kernel_rfl) (by kernel_rfl) (F9_ok K ((r3.1.getD (u52.2 : Int).toNat default).fText)) (fun _ => rfl) (fun r71 => ?_)
            refine RefX.evC0 (st' := ⟨[(0, .c (.str a0)), (3, .c (E31.tree r3.1)), (8, .c (.val (.int .i64 u52.2))), (9, .c (.ptr 0 0 0)), (117, .c (.val (.bool (x70 || (!(((((r3.1.getD (u52.2 : Int).toNat default).fKind) : Int) == 2) == r71))))))], [.cells (E31.cs (r3.1.getD (u52.2 : Int).toNat default))], [], 0⟩) (fuel' := 0) [52, 53] [0, 3, 8, 9, 117] [0] rfl (by kernel_rfl) (by kernel_rfl) ?_
            refine RefX.letC (stf := fun x72 => ⟨[(0, .c (.str a0)), (3, .c (E31.tree r3.1)), (8, .c (.val (.int .i64 u52.2))), (9, .c (.ptr 0 0 0)), (117, .c (.val (.bool x72)))], [.cells (E31.cs (r3.1.getD (u52.2 : Int).toNat default))], [], 0⟩) (by kernel_rfl) (fun x72 => ?_)
            refine RefX.done (by kernel_rfl) ?_
            refine Ref.condC (.tmp 117) x72 (by kernel_rfl) rfl (by kernel_rfl) (fun hc => ?_) (fun hc => ?_)
            ·
              refine Ref.seqC (cd (bd Tryd.f3) [1, 1, 1, 1, 1, 0, 1, 0, 0, 1, 0, 0, 1, 0, 1, 0, 0]) (cd (bd Tryd.f3) [1, 1, 1, 1, 1, 0, 1, 0, 0, 1, 0, 0, 1, 0, 1, 0, 1]) (by kernel_rfl) ?_
              refine Ref.regionC 13 (by kernel_rfl) ?_
              refine RefR.ev0 (st' := ⟨[(2, .c (.val (.bool false)))], [], [], 0⟩) 0 1 1 [2] [] rfl (by kernel_rfl) ?_
              refine RefR.nilC 1 (by kernel_rfl) ?_
              exact Ref.retC (t := (Sum.inr (Sum.inr (false)))) (by kernel_rfl) (by kernel_rfl)
            ·
              refine Ref.skipC (by kernel_rfl) ?_
              refine Ref.regionC 14 (by kernel_rfl) ?_
              refine RefR.ev0 (st' := ⟨[(0, .c (.str a0)), (3, .c (E31.tree r3.1)), (7, .c (.val (.int .i64 (IntKind.i64.wrap (((r3.1.getD (u52.2 : Int).toNat default).fAt) + (Int.ofNat ((r3.1.getD (u52.2 : Int).toNat default).fText).length)))))), (8, .c (.val (.int .i64 u52.2)))], [], [], 0⟩) 0 7 7 [0, 3, 7, 8] [] rfl (by kernel_rfl) ?_
              refine RefR.letC (stf := fun x73 => ⟨[(0, .c (.str a0)), (3, .c (E31.tree r3.1)), (7, .c (.val (.int .i64 x73))), (8, .c (.val (.int .i64 u52.2)))], [], [], 0⟩) (by kernel_rfl) (fun x73 => ?_)
              refine RefR.nilC 7 (by kernel_rfl) ?_
              exact Ref.nil (t := (x73)) (by kernel_rfl)
          ·
            refine Ref.regionC 10 (by kernel_rfl) ?_
            refine RefR.ev0 (st' := ⟨[(0, .c (.str a0)), (3, .c (E31.tree r3.1)), (7, .c (.val (.int .i64 u69))), (8, .c (.val (.int .i64 (IntKind.i64.wrap (u52.2 + 1)))))], [], [], 0⟩) 0 3 3 [0, 3, 7, 8] [] rfl (by kernel_rfl) ?_
            refine RefR.nilC 3 (by kernel_rfl) ?_
            exact Ref.nil (t := (u69, (IntKind.i64.wrap (u52.2 + 1)))) (by kernel_rfl)
        ·
          refine Ref.conv (Conv.keep (st' := ⟨[(3, .c (E31.tree r3.1))], [], [], 0⟩) [3] [] (by kernel_rfl)) ?_
          exact Ref.exitC 0 (t := (Sum.inl ())) (by kernel_rfl) (by kernel_rfl)
      ·
        refine Ref.seqC (cd (bd Tryd.f3) [1, 1, 1, 1, 1, 1, 0]) (cd (bd Tryd.f3) [1, 1, 1, 1, 1, 1, 1]) (by kernel_rfl) ?_
        refine Ref.regionC 15 (by kernel_rfl) ?_
        refine RefR.ev0 (st' := ⟨[(127, .c (.val (.bool (decide (((Int.ofNat r3.1.length) : Int) ≤ 1500)))))], [], [], 0⟩) 0 4 4 [127] [] rfl (by kernel_rfl) ?_
        refine RefR.letC (stf := fun x74 => ⟨[(127, .c (.val (.bool x74)))], [], [], 0⟩) (by kernel_rfl) (fun x74 => ?_)
        refine RefR.lookC (t := 128) (g := [(127, true)]) (b := x74) 4 5 [] (default : Bool) rfl (by kernel_rfl) (F6_ok K) (fun _ => rfl) (fun r75 => ?_)
        refine RefR.ev0 (st' := ⟨[(2, .c (.val (.bool (x74 && r75))))], [], [], 0⟩) 5 2 7 [2] [] rfl (by kernel_rfl) ?_
        refine RefR.nilC 7 (by kernel_rfl) ?_
        exact Ref.retC (t := ((x74 && r75))) (by kernel_rfl) (by kernel_rfl)

/-- governor/governorlaw3.LexBlanks -/
def F4 (K : Nat) (a0 : Bytes) (a1 : (List Int)) : Option ((Bool) ⊕ (Bool)) :=
  (letV ((decide (((Int.ofNat a0.length) : Int) > 1500)) || (decide (((Int.ofNat a1.length) : Int) > 20))) (fun (x1 : Bool) => (if x1 = true then ((fnS (F6 K)).bind (fun r2 => (some (.inl (r2))))) else ((fnS (F7 K a0)).bind (fun r3 => (if (!(!r3.2.isSome)) = true then ((fnS (F6 K)).bind (fun r4 => (some (.inl (r4))))) else (bindS (blockS ((iter K (fun (u86 : (List UInt8) × Int) => (letV (decide ((u86.2 : Int) < (Int.ofNat r3.1.length))) (fun (x108 : Bool) => (if x108 = true then (bindS (blockS (chk [inb u86.2 r3.1.length] (letV ((r3.1.getD (u86.2 : Int).toNat default).fText) (fun (x119 : Bytes) => (chk [room ((u86.1.length + x119.length) * 1)] (bindS (if (decide (((Int.ofNat a1.length) : Int) > 0)) = true then (chk [!((Int.ofNat a1.length) == 0), inb ((u86.2 : Int).tmod (Int.ofNat a1.length)) a1.length] (letV (a1.getD (((u86.2 : Int).tmod (Int.ofNat a1.length)) : Int).toNat default) (fun (x124 : Int) => (letV (Int.ofNat ([([32] : Bytes), ([9] : Bytes), ([10] : Bytes), ([13] : Bytes), ([32, 40, 42, 32, 120, 32, 42, 41] : Bytes), ([40, 42, 42, 41, 32] : Bytes), ([32, 32] : Bytes), ([32, 40, 42, 32, 40, 32, 42, 41] : Bytes)].length)) (fun (x125 : Int) => ((fnS (F10 K x124 x125)).bind (fun r126 => (some (.inr (r126)))))))))) else (some (.inr (0)))) (fun (u123 : Int) => (chk [inb u123 ([([32] : Bytes), ([9] : Bytes), ([10] : Bytes), ([13] : Bytes), ([32, 40, 42, 32, 120, 32, 42, 41] : Bytes), ([40, 42, 42, 41, 32] : Bytes), ([32, 32] : Bytes), ([32, 40, 42, 32, 40, 32, 42, 41] : Bytes)].length)] (letV ([([32] : Bytes), ([9] : Bytes), ([10] : Bytes), ([13] : Bytes), ([32, 40, 42, 32, 120, 32, 42, 41] : Bytes), ([40, 42, 42, 41, 32] : Bytes), ([32, 32] : Bytes), ([32, 40, 42, 32, 40, 32, 42, 41] : Bytes)].getD ((u123 : Int).toNat) default) (fun (x127 : Bytes) => (chk [room ((((u86.1 ++ x119).length) + x127.length) * 1)] (some (.inr (((u86.1 ++ x119) ++ x127))))))))))))))) (fun (u118 : (List UInt8)) => (some (.inr (u118, (IntKind.i64.wrap (u86.2 + 1))))))) else (some (.inl (Sum.inl (u86.1)))))))) ([], 0)).map .inl)) (fun (u66 : (List UInt8)) => (letV (decide (((Int.ofNat u66.length) : Int) > 6000)) (fun (x128 : Bool) => (if x128 = true then ((fnS (F6 K)).bind (fun r129 => (some (.inl (r129))))) else ((fnS (F7 K u66)).bind (fun r130 => (letV ((!(!r130.2.isSome)) || (((Int.ofNat r130.1.length) : Int) != (Int.ofNat r3.1.length))) (fun (x131 : Bool) => (if x131 = true then (some (.inl (false))) else (bindS (blockS ((iter K (fun (u153 : Int) => (letV (decide ((u153 : Int) < (Int.ofNat r3.1.length))) (fun (x159 : Bool) => (if x159 = true then (bindS (blockS (chk [inb u153 r130.1.length, inb u153 r3.1.length] (chk [!(!((((r130.1.getD (u153 : Int).toNat default).fKind) : Int) != ((r3.1.getD (u153 : Int).toNat default).fKind))) || inb u153 r130.1.length, !(!((((r130.1.getD (u153 : Int).toNat default).fKind) : Int) != ((r3.1.getD (u153 : Int).toNat default).fKind))) || inb u153 r3.1.length, !(!(((((r130.1.getD (u153 : Int).toNat default).fKind) : Int) != ((r3.1.getD (u153 : Int).toNat default).fKind)) || (!(((r130.1.getD (u153 : Int).toNat default).fText) == ((r3.1.getD (u153 : Int).toNat default).fText))))) || inb u153 r130.1.length, !(!(((((r130.1.getD (u153 : Int).toNat default).fKind) : Int) != ((r3.1.getD (u153 : Int).toNat default).fKind)) || (!(((r130.1.getD (u153 : Int).toNat default).fText) == ((r3.1.getD (u153 : Int).toNat default).fText))))) || inb u153 r3.1.length] (letV ((((((r130.1.getD (u153 : Int).toNat default).fKind) : Int) != ((r3.1.getD (u153 : Int).toNat default).fKind)) || (!(((r130.1.getD (u153 : Int).toNat default).fText) == ((r3.1.getD (u153 : Int).toNat default).fText)))) || ((((r130.1.getD (u153 : Int).toNat default).fN) : Int) != ((r3.1.getD (u153 : Int).toNat default).fN))) (fun (x162 : Bool) => (if x162 = true then (some (.inl (Sum.inr (Sum.inr (false))))) else (some (.inr ())))))))) (fun (u161 : Unit) => (some (.inr ((IntKind.i64.wrap (u153 + 1))))))) else (some (.inl (Sum.inl ()))))))) (0)).map .inl)) (fun (u147 : Unit) => ((fnS (F6 K)).bind (fun r163 => (some (.inl (r163)))))))))))))))))))))))

theorem F4_ok (K : Nat) (a0 : Bytes) (a1 : (List Int)) : DFun Tryd.prog 4 [.c (.str a0), .c (E3.tree a1)] [] (fnS (F4 K a0 a1)) (fun r => .c (.val (.bool r))) (fun r => []) := by
  refine DFun.intro (fn := Tryd.f4) (c := cd (bd Tryd.f4) []) (rs := fun r => ⟨[(4, .c (.val (.bool r)))], [], [], 0⟩) (by kernel_rfl) (by kernel_rfl) (by kernel_rfl) ?_ (fun r => by kernel_rfl) (fun r => by kernel_rfl) (fun r => by kernel_rfl) (fun r => by kernel_rfl)
  unfold F4
  refine Ref.seqC (cd (bd Tryd.f4) [0]) (cd (bd Tryd.f4) [1]) (by kernel_rfl) ?_
  refine Ref.regionC 0 (by kernel_rfl) ?_
  refine RefR.ev0 (st' := ⟨[(0, .c (.str a0)), (1, .c (E3.tree a1))], [], [], 0⟩) 0 1 1 [0, 1] [] rfl (by kernel_rfl) ?_
  refine RefR.nilC 1 (by kernel_rfl) ?_
  refine Ref.seqC (cd (bd Tryd.f4) [1, 0]) (cd (bd Tryd.f4) [1, 1]) (by kernel_rfl) ?_
  refine Ref.seqC (cd (bd Tryd.f4) [1, 0, 0]) (cd (bd Tryd.f4) [1, 0, 1]) (by kernel_rfl) ?_
  refine Ref.regionC 1 (by kernel_rfl) ?_
  refine RefR.ev0 (st' := ⟨[(0, .c (.str a0)), (1, .c (E3.tree a1)), (21, .c (.val (.bool ((decide (((Int.ofNat a0.length) : Int) > 1500)) || (decide (((Int.ofNat a1.length) : Int) > 20))))))], [], [], 0⟩) 0 8 8 [0, 1, 21] [] rfl (by kernel_rfl) ?_
  refine RefR.letC (stf := fun x1 => ⟨[(0, .c (.str a0)), (1, .c (E3.tree a1)), (21, .c (.val (.bool x1)))], [], [], 0⟩) (by kernel_rfl) (fun x1 => ?_)
  refine RefR.nilC 8 (by kernel_rfl) ?_
  refine Ref.condC (.tmp 21) x1 (by kernel_rfl) rfl (by kernel_rfl) (fun hc => ?_) (fun hc => ?_)
  ·
    refine Ref.seqC (cd (bd Tryd.f4) [1, 0, 1, 0, 0]) (cd (bd Tryd.f4) [1, 0, 1, 0, 1]) (by kernel_rfl) ?_
    refine Ref.regionC 2 (by kernel_rfl) ?_
    refine RefR.callC (t := 22) 0 1 [] rfl (by kernel_rfl) (F6_ok K) (fun r2 => ?_)
    refine RefR.ev0 (st' := ⟨[(4, .c (.val (.bool r2)))], [], [], 0⟩) 1 1 2 [4] [] rfl (by kernel_rfl) ?_
    refine RefR.nilC 2 (by kernel_rfl) ?_
    exact Ref.retC (t := (r2)) (by kernel_rfl) (by kernel_rfl)
  ·
    refine Ref.skipC (by kernel_rfl) ?_
    refine Ref.seqC (cd (bd Tryd.f4) [1, 1, 0]) (cd (bd Tryd.f4) [1, 1, 1]) (by kernel_rfl) ?_
    refine Ref.regionC 3 (by kernel_rfl) ?_
    refine RefR.ev0 (st' := ⟨[(1, .c (E3.tree a1)), (24, .c (.str a0))], [], [], 0⟩) 0 1 1 [1, 24] [] rfl (by kernel_rfl) ?_
    refine RefR.callC (t := 25) 1 2 [] rfl (by kernel_rfl) (F7_ok K a0) (fun r3 => ?_)
    refine RefR.ev0 (st' := ⟨[(1, .c (E3.tree a1)), (5, .c (E31.tree r3.1)), (6, .c (errC r3.2))], [], [], 0⟩) 2 5 7 [1, 5, 6] [] rfl (by kernel_rfl) ?_
    refine RefR.nilC 7 (by kernel_rfl) ?_
    refine Ref.seqC (cd (bd Tryd.f4) [1, 1, 1, 0]) (cd (bd Tryd.f4) [1, 1, 1, 1]) (by kernel_rfl) ?_
    refine Ref.seqC (cd (bd Tryd.f4) [1, 1, 1, 0, 0]) (cd (bd Tryd.f4) [1, 1, 1, 0, 1]) (by kernel_rfl) ?_
    refine Ref.regionC 4 (by kernel_rfl) ?_
    refine RefR.ev0 (st' := ⟨[(1, .c (E3.tree a1)), (5, .c (E31.tree r3.1)), (29, .c (.val (.bool (!(!r3.2.isSome)))))], [], [], 0⟩) 0 2 2 [1, 5, 29] [] rfl (by kernel_rfl) ?_
    refine RefR.nilC 2 (by kernel_rfl) ?_
    refine Ref.condC (.tmp 29) (!(!r3.2.isSome)) (by kernel_rfl) rfl (by kernel_rfl) (fun hc => ?_) (fun hc => ?_)
    ·
      refine Ref.seqC (cd (bd Tryd.f4) [1, 1, 1, 0, 1, 0, 0]) (cd (bd Tryd.f4) [1, 1, 1, 0, 1, 0, 1]) (by kernel_rfl) ?_
      refine Ref.regionC 5 (by kernel_rfl) ?_
      refine RefR.callC (t := 30) 0 1 [] rfl (by kernel_rfl) (F6_ok K) (fun r4 => ?_)
      refine RefR.ev0 (st' := ⟨[(4, .c (.val (.bool r4)))], [], [], 0⟩) 1 1 2 [4] [] rfl (by kernel_rfl) ?_
      refine RefR.nilC 2 (by kernel_rfl) ?_
      exact Ref.retC (t := (r4)) (by kernel_rfl) (by kernel_rfl)
    ·
      refine Ref.skipC (by kernel_rfl) ?_
      refine Ref.seqC (cd (bd Tryd.f4) [1, 1, 1, 1, 0]) (cd (bd Tryd.f4) [1, 1, 1, 1, 1]) (by kernel_rfl) ?_
      refine Ref.regionC 6 (by kernel_rfl) ?_
      refine RefR.ev0 (st' := ⟨[(1, .c (E3.tree a1)), (5, .c (E31.tree r3.1)), (7, .c (.nil))], [], [], 0⟩) 0 1 1 [1, 5, 7] [] rfl (by kernel_rfl) ?_
      refine RefR.nilC 1 (by kernel_rfl) ?_
      refine Ref.seqC (cd (bd Tryd.f4) [1, 1, 1, 1, 1, 0]) (cd (bd Tryd.f4) [1, 1, 1, 1, 1, 1]) (by kernel_rfl) ?_
      refine Ref.regionC 7 (by kernel_rfl) ?_
      refine RefR.ev0 (st' := ⟨[(1, .c (E3.tree a1)), (5, .c (E31.tree r3.1)), (7, .c (.nil)), (31, .c (.own 0 8))], [.row 9 1 8 (tbl [[.str ([32] : Bytes)], [.str ([9] : Bytes)], [.str ([10] : Bytes)], [.str ([13] : Bytes)], [.str ([32, 40, 42, 32, 120, 32, 42, 41] : Bytes)], [.str ([40, 42, 42, 41, 32] : Bytes)], [.str ([32, 32] : Bytes)], [.str ([32, 40, 42, 32, 40, 32, 42, 41] : Bytes)]])], [], 0⟩) 0 1 1 [1, 5, 7, 31] [0] rfl (by kernel_rfl) ?_
      refine RefR.conv (Conv.obj 0 (E9.row [([32] : Bytes), ([9] : Bytes), ([10] : Bytes), ([13] : Bytes), ([32, 40, 42, 32, 120, 32, 42, 41] : Bytes), ([40, 42, 42, 41, 32] : Bytes), ([32, 32] : Bytes), ([32, 40, 42, 32, 40, 32, 42, 41] : Bytes)]) (El.row_build E9 [([32] : Bytes), ([9] : Bytes), ([10] : Bytes), ([13] : Bytes), ([32, 40, 42, 32, 120, 32, 42, 41] : Bytes), ([40, 42, 42, 41, 32] : Bytes), ([32, 32] : Bytes), ([32, 40, 42, 32, 40, 32, 42, 41] : Bytes)] rfl (by kernel_rfl)) (by kernel_rfl)) ?_
      refine RefR.conv (Conv.slot 31 (.c (.own 0 ([([32] : Bytes), ([9] : Bytes), ([10] : Bytes), ([13] : Bytes), ([32, 40, 42, 32, 120, 32, 42, 41] : Bytes), ([40, 42, 42, 41, 32] : Bytes), ([32, 32] : Bytes), ([32, 40, 42, 32, 40, 32, 42, 41] : Bytes)].length))) (DLe.c (CLe.own (by simp <;> omega))) (by kernel_rfl)) ?_
      refine RefR.ev0 (st' := ⟨[(1, .c (E3.tree a1)), (5, .c (E31.tree r3.1)), (7, .c (.nil)), (8, .c (.own 0 ([([32] : Bytes), ([9] : Bytes), ([10] : Bytes), ([13] : Bytes), ([32, 40, 42, 32, 120, 32, 42, 41] : Bytes), ([40, 42, 42, 41, 32] : Bytes), ([32, 32] : Bytes), ([32, 40, 42, 32, 40, 32, 42, 41] : Bytes)].length)))], [E9.row [([32] : Bytes), ([9] : Bytes), ([10] : Bytes), ([13] : Bytes), ([32, 40, 42, 32, 120, 32, 42, 41] : Bytes), ([40, 42, 42, 41, 32] : Bytes), ([32, 32] : Bytes), ([32, 40, 42, 32, 40, 32, 42, 41] : Bytes)]], [], 0⟩) 1 1 2 [1, 5, 7, 8] [0] rfl (by kernel_rfl) ?_
      refine RefR.nilC 2 (by kernel_rfl) ?_
      refine Ref.seqC (cd (bd Tryd.f4) [1, 1, 1, 1, 1, 1, 0]) (cd (bd Tryd.f4) [1, 1, 1, 1, 1, 1, 1]) (by kernel_rfl) ?_
      refine Ref.seqC (cd (bd Tryd.f4) [1, 1, 1, 1, 1, 1, 0, 0]) (cd (bd Tryd.f4) [1, 1, 1, 1, 1, 1, 0, 1]) (by kernel_rfl) ?_
      refine Ref.regionC 8 (by kernel_rfl) ?_
      refine RefR.ev0 (st' := ⟨[(1, .c (E3.tree a1)), (5, .c (E31.tree r3.1)), (7, .c (.nil)), (8, .c (.own 0 ([([32] : Bytes), ([9] : Bytes), ([10] : Bytes), ([13] : Bytes), ([32, 40, 42, 32, 120, 32, 42, 41] : Bytes), ([40, 42, 42, 41, 32] : Bytes), ([32, 32] : Bytes), ([32, 40, 42, 32, 40, 32, 42, 41] : Bytes)].length))), (9, .c (.val (.int .i64 0)))], [E9.row [([32] : Bytes), ([9] : Bytes), ([10] : Bytes), ([13] : Bytes), ([32, 40, 42, 32, 120, 32, 42, 41] : Bytes), ([40, 42, 42, 41, 32] : Bytes), ([32, 32] : Bytes), ([32, 40, 42, 32, 40, 32, 42, 41] : Bytes)]], [], 0⟩) 0 1 1 [1, 5, 7, 8, 9] [0] rfl (by kernel_rfl) ?_
      refine RefR.nilC 1 (by kernel_rfl) ?_
      refine Ref.codeEq (c' := .block 0 (cd (bd Tryd.f4) [1, 1, 1, 1, 1, 1, 0, 1, 0])) (by kernel_rfl) ?_
      refine Ref.block (go1 := fun u66 => ⟨[(5, .c (E31.tree r3.1)), (7, .c (.own 0 u66.length))], [E5.row u66], [], 0⟩) ?_ (fun _ h => by cases h) (fun u66 => ?_)
      ·
        refine Ref.codeEq (c' := .loop (cd (bd Tryd.f4) [1, 1, 1, 1, 1, 1, 0, 1, 0, 0])) (by kernel_rfl) ?_
        refine Ref.conv (Conv.adopt 7 E5.ty E5.w (E5.at []) (by kernel_rfl) (by kernel_rfl) (by kernel_rfl)) ?_
        refine Ref.conv (Conv.keep (st' := ⟨[(1, .c (E3.tree a1)), (5, .c (E31.tree r3.1)), (7, .c (.own 0 0)), (8, .c (.own 1 ([([32] : Bytes), ([9] : Bytes), ([10] : Bytes), ([13] : Bytes), ([32, 40, 42, 32, 120, 32, 42, 41] : Bytes), ([40, 42, 42, 41, 32] : Bytes), ([32, 32] : Bytes), ([32, 40, 42, 32, 40, 32, 42, 41] : Bytes)].length))), (9, .c (.val (.int .i64 0)))], [E5.row [], E9.row [([32] : Bytes), ([9] : Bytes), ([10] : Bytes), ([13] : Bytes), ([32, 40, 42, 32, 120, 32, 42, 41] : Bytes), ([40, 42, 42, 41, 32] : Bytes), ([32, 32] : Bytes), ([32, 40, 42, 32, 40, 32, 42, 41] : Bytes)]], [], 0⟩) [1, 5, 7, 8, 9] [1, 0] (by kernel_rfl)) ?_
        refine Ref.loop (hd := fun u86 => ⟨[(1, .c (E3.tree a1)), (5, .c (E31.tree r3.1)), (7, .c (.own 0 u86.1.length)), (8, .c (.own 1 ([([32] : Bytes), ([9] : Bytes), ([10] : Bytes), ([13] : Bytes), ([32, 40, 42, 32, 120, 32, 42, 41] : Bytes), ([40, 42, 42, 41, 32] : Bytes), ([32, 32] : Bytes), ([32, 40, 42, 32, 40, 32, 42, 41] : Bytes)].length))), (9, .c (.val (.int .i64 u86.2)))], [E5.row u86.1, E9.row [([32] : Bytes), ([9] : Bytes), ([10] : Bytes), ([13] : Bytes), ([32, 40, 42, 32, 120, 32, 42, 41] : Bytes), ([40, 42, 42, 41, 32] : Bytes), ([32, 32] : Bytes), ([32, 40, 42, 32, 40, 32, 42, 41] : Bytes)]], [], 0⟩) K ([], 0) (by kernel_rfl) (fun u86 => ?_)
        refine Ref.seqC (cd (bd Tryd.f4) [1, 1, 1, 1, 1, 1, 0, 1, 0, 0, 0]) (cd (bd Tryd.f4) [1, 1, 1, 1, 1, 1, 0, 1, 0, 0, 1]) (by kernel_rfl) ?_
        refine Ref.seqC (cd (bd Tryd.f4) [1, 1, 1, 1, 1, 1, 0, 1, 0, 0, 0, 0]) (cd (bd Tryd.f4) [1, 1, 1, 1, 1, 1, 0, 1, 0, 0, 0, 1]) (by kernel_rfl) ?_
        refine Ref.regionC 9 (by kernel_rfl) ?_
        refine RefR.ev0 (st' := ⟨[(1, .c (E3.tree a1)), (5, .c (E31.tree r3.1)), (7, .c (.own 0 u86.1.length)), (8, .c (.own 1 ([([32] : Bytes), ([9] : Bytes), ([10] : Bytes), ([13] : Bytes), ([32, 40, 42, 32, 120, 32, 42, 41] : Bytes), ([40, 42, 42, 41, 32] : Bytes), ([32, 32] : Bytes), ([32, 40, 42, 32, 40, 32, 42, 41] : Bytes)].length))), (9, .c (.val (.int .i64 u86.2))), (35, .c (.val (.bool (decide ((u86.2 : Int) < (Int.ofNat r3.1.length))))))], [E5.row u86.1, E9.row [([32] : Bytes), ([9] : Bytes), ([10] : Bytes), ([13] : Bytes), ([32, 40, 42, 32, 120, 32, 42, 41] : Bytes), ([40, 42, 42, 41, 32] : Bytes), ([32, 32] : Bytes), ([32, 40, 42, 32, 40, 32, 42, 41] : Bytes)]], [], 0⟩) 0 4 4 [1, 5, 7, 8, 9, 35] [0, 1] rfl (by kernel_rfl) ?_
        refine RefR.letC (stf := fun x108 => ⟨[(1, .c (E3.tree a1)), (5, .c (E31.tree r3.1)), (7, .c (.own 0 u86.1.length)), (8, .c (.own 1 ([([32] : Bytes), ([9] : Bytes), ([10] : Bytes), ([13] : Bytes), ([32, 40, 42, 32, 120, 32, 42, 41] : Bytes), ([40, 42, 42, 41, 32] : Bytes), ([32, 32] : Bytes), ([32, 40, 42, 32, 40, 32, 42, 41] : Bytes)].length))), (9, .c (.val (.int .i64 u86.2))), (35, .c (.val (.bool x108)))], [E5.row u86.1, E9.row [([32] : Bytes), ([9] : Bytes), ([10] : Bytes), ([13] : Bytes), ([32, 40, 42, 32, 120, 32, 42, 41] : Bytes), ([40, 42, 42, 41, 32] : Bytes), ([32, 32] : Bytes), ([32, 40, 42, 32, 40, 32, 42, 41] : Bytes)]], [], 0⟩) (by kernel_rfl) (fun x108 => ?_)
        refine RefR.nilC 4 (by kernel_rfl) ?_
        refine Ref.condC (.tmp 35) x108 (by kernel_rfl) rfl (by kernel_rfl) (fun hc => ?_) (fun hc => ?_)
        ·
          refine Ref.skipC (by kernel_rfl) ?_
          refine Ref.seqC (cd (bd Tryd.f4) [1, 1, 1, 1, 1, 1, 0, 1, 0, 0, 1, 0]) (cd (bd Tryd.f4) [1, 1, 1, 1, 1, 1, 0, 1, 0, 0, 1, 1]) (by kernel_rfl) ?_
          refine Ref.codeEq (c' := .block 1 (cd (bd Tryd.f4) [1, 1, 1, 1, 1, 1, 0, 1, 0, 0, 1, 0, 0])) (by kernel_rfl) ?_
          refine Ref.block (go1 := fun u118 => ⟨[(1, .c (E3.tree a1)), (5, .c (E31.tree r3.1)), (7, .c (.own 0 u118.length)), (8, .c (.own 1 ([([32] : Bytes), ([9] : Bytes), ([10] : Bytes), ([13] : Bytes), ([32, 40, 42, 32, 120, 32, 42, 41] : Bytes), ([40, 42, 42, 41, 32] : Bytes), ([32, 32] : Bytes), ([32, 40, 42, 32, 40, 32, 42, 41] : Bytes)].length))), (9, .c (.val (.int .i64 u86.2)))], [E5.row u118, E9.row [([32] : Bytes), ([9] : Bytes), ([10] : Bytes), ([13] : Bytes), ([32, 40, 42, 32, 120, 32, 42, 41] : Bytes), ([40, 42, 42, 41, 32] : Bytes), ([32, 32] : Bytes), ([32, 40, 42, 32, 40, 32, 42, 41] : Bytes)]], [], 0⟩) ?_ (fun a => match a with | .inl _ => (fun h => by cases h) | .inr _ => (fun h => by cases h)) (fun u118 => ?_)
          ·
            refine Ref.seqC (cd (bd Tryd.f4) [1, 1, 1, 1, 1, 1, 0, 1, 0, 0, 1, 0, 0, 0]) (cd (bd Tryd.f4) [1, 1, 1, 1, 1, 1, 0, 1, 0, 0, 1, 0, 0, 1]) (by kernel_rfl) ?_
            refine Ref.regionC 11 (by kernel_rfl) ?_
            refine RefR.evC (vs := [inb u86.2 r3.1.length]) (st' := ⟨[(1, .c (E3.tree a1)), (5, .c (E31.tree r3.1)), (8, .c (.own 1 ([([32] : Bytes), ([9] : Bytes), ([10] : Bytes), ([13] : Bytes), ([32, 40, 42, 32, 120, 32, 42, 41] : Bytes), ([40, 42, 42, 41, 32] : Bytes), ([32, 32] : Bytes), ([32, 40, 42, 32, 40, 32, 42, 41] : Bytes)].length))), (9, .c (.val (.int .i64 u86.2))), (38, .c (.own 0 u86.1.length)), (43, .c (.str ((r3.1.getD (u86.2 : Int).toNat default).fText)))], [E5.row u86.1, E9.row [([32] : Bytes), ([9] : Bytes), ([10] : Bytes), ([13] : Bytes), ([32, 40, 42, 32, 120, 32, 42, 41] : Bytes), ([40, 42, 42, 41, 32] : Bytes), ([32, 32] : Bytes), ([32, 40, 42, 32, 40, 32, 42, 41] : Bytes)]], [], 0⟩) 0 6 6 [1, 5, 8, 9, 38, 43] [0, 1] rfl (by kernel_rfl) ?_
            refine RefR.letC (stf := fun x119 => ⟨[(1, .c (E3.tree a1)), (5, .c (E31.tree r3.1)), (8, .c (.own 1 ([([32] : Bytes), ([9] : Bytes), ([10] : Bytes), ([13] : Bytes), ([32, 40, 42, 32, 120, 32, 42, 41] : Bytes), ([40, 42, 42, 41, 32] : Bytes), ([32, 32] : Bytes), ([32, 40, 42, 32, 40, 32, 42, 41] : Bytes)].length))), (9, .c (.val (.int .i64 u86.2))), (38, .c (.own 0 u86.1.length)), (43, .c (.str x119))], [E5.row u86.1, E9.row [([32] : Bytes), ([9] : Bytes), ([10] : Bytes), ([13] : Bytes), ([32, 40, 42, 32, 120, 32, 42, 41] : Bytes), ([40, 42, 42, 41, 32] : Bytes), ([32, 32] : Bytes), ([32, 40, 42, 32, 40, 32, 42, 41] : Bytes)]], [], 0⟩) (by kernel_rfl) (fun x119 => ?_)
            refine RefR.evC (vs := [room ((u86.1.length + x119.length) * 1)]) (st' := ⟨[(1, .c (E3.tree a1)), (5, .c (E31.tree r3.1)), (8, .c (.own 0 ([([32] : Bytes), ([9] : Bytes), ([10] : Bytes), ([13] : Bytes), ([32, 40, 42, 32, 120, 32, 42, 41] : Bytes), ([40, 42, 42, 41, 32] : Bytes), ([32, 32] : Bytes), ([32, 40, 42, 32, 40, 32, 42, 41] : Bytes)].length))), (9, .c (.val (.int .i64 u86.2))), (44, .c (.own 1 (u86.1.length + x119.length)))], [E9.row [([32] : Bytes), ([9] : Bytes), ([10] : Bytes), ([13] : Bytes), ([32, 40, 42, 32, 120, 32, 42, 41] : Bytes), ([40, 42, 42, 41, 32] : Bytes), ([32, 32] : Bytes), ([32, 40, 42, 32, 40, 32, 42, 41] : Bytes)], .row 5 1 (u86.1.length + x119.length) fun i j => bif Nat.blt i u86.1.length then E5.at u86.1 i j else (fun i _ => .val (.int .u8 (x119.getD i 0).toNat)) (i - u86.1.length) j], [], 0⟩) 6 1 7 [1, 5, 8, 9, 44] [1, 2] rfl (by kernel_rfl) ?_
            refine RefR.conv (Conv.obj 1 (E5.row (u86.1 ++ x119)) (El.row_append_str E5 rfl u86.1 x119 rfl) (by kernel_rfl)) ?_
            refine RefR.conv (Conv.slot 44 (.c (.own 1 ((u86.1 ++ x119).length))) (DLe.c (CLe.own (by simp <;> omega))) (by kernel_rfl)) ?_
            refine RefR.ev0 (st' := ⟨[(1, .c (E3.tree a1)), (5, .c (E31.tree r3.1)), (7, .c (.own 1 ((u86.1 ++ x119).length))), (8, .c (.own 0 ([([32] : Bytes), ([9] : Bytes), ([10] : Bytes), ([13] : Bytes), ([32, 40, 42, 32, 120, 32, 42, 41] : Bytes), ([40, 42, 42, 41, 32] : Bytes), ([32, 32] : Bytes), ([32, 40, 42, 32, 40, 32, 42, 41] : Bytes)].length))), (9, .c (.val (.int .i64 u86.2)))], [E9.row [([32] : Bytes), ([9] : Bytes), ([10] : Bytes), ([13] : Bytes), ([32, 40, 42, 32, 120, 32, 42, 41] : Bytes), ([40, 42, 42, 41, 32] : Bytes), ([32, 32] : Bytes), ([32, 40, 42, 32, 40, 32, 42, 41] : Bytes)], E5.row (u86.1 ++ x119)], [], 0⟩) 7 1 8 [1, 5, 7, 8, 9] [0, 1] rfl (by kernel_rfl) ?_
            refine RefR.nilC 8 (by kernel_rfl) ?_
            refine Ref.seqC (cd (bd Tryd.f4) [1, 1, 1, 1, 1, 1, 0, 1, 0, 0, 1, 0, 0, 1, 0]) (cd (bd Tryd.f4) [1, 1, 1, 1, 1, 1, 0, 1, 0, 0, 1, 0, 0, 1, 1]) (by kernel_rfl) ?_
            refine Ref.regionC 12 (by kernel_rfl) ?_
            refine RefR.ev0 (st' := ⟨[(1, .c (E3.tree a1)), (5, .c (E31.tree r3.1)), (7, .c (.own 1 ((u86.1 ++ x119).length))), (8, .c (.own 0 ([([32] : Bytes), ([9] : Bytes), ([10] : Bytes), ([13] : Bytes), ([32, 40, 42, 32, 120, 32, 42, 41] : Bytes), ([40, 42, 42, 41, 32] : Bytes), ([32, 32] : Bytes), ([32, 40, 42, 32, 40, 32, 42, 41] : Bytes)].length))), (9, .c (.val (.int .i64 u86.2))), (10, .c (.val (.int .i64 0)))], [E9.row [([32] : Bytes), ([9] : Bytes), ([10] : Bytes), ([13] : Bytes), ([32, 40, 42, 32, 120, 32, 42, 41] : Bytes), ([40, 42, 42, 41, 32] : Bytes), ([32, 32] : Bytes), ([32, 40, 42, 32, 40, 32, 42, 41] : Bytes)], E5.row (u86.1 ++ x119)], [], 0⟩) 0 1 1 [1, 5, 7, 8, 9, 10] [0, 1] rfl (by kernel_rfl) ?_
            refine RefR.nilC 1 (by kernel_rfl) ?_
            refine Ref.seqC (cd (bd Tryd.f4) [1, 1, 1, 1, 1, 1, 0, 1, 0, 0, 1, 0, 0, 1, 1, 0]) (cd (bd Tryd.f4) [1, 1, 1, 1, 1, 1, 0, 1, 0, 0, 1, 0, 0, 1, 1, 1]) (by kernel_rfl) ?_
            refine Ref.seqC (cd (bd Tryd.f4) [1, 1, 1, 1, 1, 1, 0, 1, 0, 0, 1, 0, 0, 1, 1, 0, 0]) (cd (bd Tryd.f4) [1, 1, 1, 1, 1, 1, 0, 1, 0, 0, 1, 0, 0, 1, 1, 0, 1]) (by kernel_rfl) ?_
            refine Ref.regionC 13 (by kernel_rfl) ?_
            refine RefR.ev0 (st' := ⟨[(1, .c (E3.tree a1)), (5, .c (E31.tree r3.1)), (7, .c (.own 1 ((u86.1 ++ x119).length))), (8, .c (.own 0 ([([32] : Bytes), ([9] : Bytes), ([10] : Bytes), ([13] : Bytes), ([32, 40, 42, 32, 120, 32, 42, 41] : Bytes), ([40, 42, 42, 41, 32] : Bytes), ([32, 32] : Bytes), ([32, 40, 42, 32, 40, 32, 42, 41] : Bytes)].length))), (9, .c (.val (.int .i64 u86.2))), (10, .c (.val (.int .i64 0))), (47, .c (.val (.bool (decide (((Int.ofNat a1.length) : Int) > 0)))))], [E9.row [([32] : Bytes), ([9] : Bytes), ([10] : Bytes), ([13] : Bytes), ([32, 40, 42, 32, 120, 32, 42, 41] : Bytes), ([40, 42, 42, 41, 32] : Bytes), ([32, 32] : Bytes), ([32, 40, 42, 32, 40, 32, 42, 41] : Bytes)], E5.row (u86.1 ++ x119)], [], 0⟩) 0 3 3 [1, 5, 7, 8, 9, 10, 47] [0, 1] rfl (by kernel_rfl) ?_
            refine RefR.nilC 3 (by kernel_rfl) ?_
            refine Ref.bind (go1 := fun u123 => ⟨[(1, .c (E3.tree a1)), (5, .c (E31.tree r3.1)), (7, .c (.own 0 ((u86.1 ++ x119).length))), (8, .c (.own 1 ([([32] : Bytes), ([9] : Bytes), ([10] : Bytes), ([13] : Bytes), ([32, 40, 42, 32, 120, 32, 42, 41] : Bytes), ([40, 42, 42, 41, 32] : Bytes), ([32, 32] : Bytes), ([32, 40, 42, 32, 40, 32, 42, 41] : Bytes)].length))), (9, .c (.val (.int .i64 u86.2))), (10, .c (.val (.int .i64 u123)))], [E5.row (u86.1 ++ x119), E9.row [([32] : Bytes), ([9] : Bytes), ([10] : Bytes), ([13] : Bytes), ([32, 40, 42, 32, 120, 32, 42, 41] : Bytes), ([40, 42, 42, 41, 32] : Bytes), ([32, 32] : Bytes), ([32, 40, 42, 32, 40, 32, 42, 41] : Bytes)]], [], 0⟩) ?_ (fun u123 => ?_)
            ·
              refine Ref.condC (.tmp 47) (decide (((Int.ofNat a1.length) : Int) > 0)) (by kernel_rfl) rfl (by kernel_rfl) (fun hc => ?_) (fun hc => ?_)
              ·
                refine Ref.regionC 14 (by kernel_rfl) ?_
                refine RefR.evC (vs := [!((Int.ofNat a1.length) == 0), inb ((u86.2 : Int).tmod (Int.ofNat a1.length)) a1.length]) (st' := ⟨[(1, .c (E3.tree a1)), (5, .c (E31.tree r3.1)), (7, .c (.own 1 ((u86.1 ++ x119).length))), (8, .c (.own 0 ([([32] : Bytes), ([9] : Bytes), ([10] : Bytes), ([13] : Bytes), ([32, 40, 42, 32, 120, 32, 42, 41] : Bytes), ([40, 42, 42, 41, 32] : Bytes), ([32, 32] : Bytes), ([32, 40, 42, 32, 40, 32, 42, 41] : Bytes)].length))), (9, .c (.val (.int .i64 u86.2))), (54, .c (.val (.int .i64 (a1.getD (((u86.2 : Int).tmod (Int.ofNat a1.length)) : Int).toNat default)))), (56, .c (.val (.int .i64 (Int.ofNat ([([32] : Bytes), ([9] : Bytes), ([10] : Bytes), ([13] : Bytes), ([32, 40, 42, 32, 120, 32, 42, 41] : Bytes), ([40, 42, 42, 41, 32] : Bytes), ([32, 32] : Bytes), ([32, 40, 42, 32, 40, 32, 42, 41] : Bytes)].length)))))], [E9.row [([32] : Bytes), ([9] : Bytes), ([10] : Bytes), ([13] : Bytes), ([32, 40, 42, 32, 120, 32, 42, 41] : Bytes), ([40, 42, 42, 41, 32] : Bytes), ([32, 32] : Bytes), ([32, 40, 42, 32, 40, 32, 42, 41] : Bytes)], E5.row (u86.1 ++ x119)], [], 0⟩) 0 9 9 [1, 5, 7, 8, 9, 54, 56] [0, 1] rfl (by kernel_rfl) ?_
                refine RefR.letC (stf := fun x124 => ⟨[(1, .c (E3.tree a1)), (5, .c (E31.tree r3.1)), (7, .c (.own 1 ((u86.1 ++ x119).length))), (8, .c (.own 0 ([([32] : Bytes), ([9] : Bytes), ([10] : Bytes), ([13] : Bytes), ([32, 40, 42, 32, 120, 32, 42, 41] : Bytes), ([40, 42, 42, 41, 32] : Bytes), ([32, 32] : Bytes), ([32, 40, 42, 32, 40, 32, 42, 41] : Bytes)].length))), (9, .c (.val (.int .i64 u86.2))), (54, .c (.val (.int .i64 x124))), (56, .c (.val (.int .i64 (Int.ofNat ([([32] : Bytes), ([9] : Bytes), ([10] : Bytes), ([13] : Bytes), ([32, 40, 42, 32, 120, 32, 42, 41] : Bytes), ([40, 42, 42, 41, 32] : Bytes), ([32, 32] : Bytes), ([32, 40, 42, 32, 40, 32, 42, 41] : Bytes)].length)))))], [E9.row [([32] : Bytes), ([9] : Bytes), ([10] : Bytes), ([13] : Bytes), ([32, 40, 42, 32, 120, 32, 42, 41] : Bytes), ([40, 42, 42, 41, 32] : Bytes), ([32, 32] : Bytes), ([32, 40, 42, 32, 40, 32, 42, 41] : Bytes)], E5.row (u86.1 ++ x119)], [], 0⟩) (by kernel_rfl) (fun x124 => ?_)
                refine RefR.letC (stf := fun x125 => ⟨[(1, .c (E3.tree a1)), (5, .c (E31.tree r3.1)), (7, .c (.own 1 ((u86.1 ++ x119).length))), (8, .c (.own 0 ([([32] : Bytes), ([9] : Bytes), ([10] : Bytes), ([13] : Bytes), ([32, 40, 42, 32, 120, 32, 42, 41] : Bytes), ([40, 42, 42, 41, 32] : Bytes), ([32, 32] : Bytes), ([32, 40, 42, 32, 40, 32, 42, 41] : Bytes)].length))), (9, .c (.val (.int .i64 u86.2))), (54, .c (.val (.int .i64 x124))), (56, .c (.val (.int .i64 x125)))], [E9.row [([32] : Bytes), ([9] : Bytes), ([10] : Bytes), ([13] : Bytes), ([32, 40, 42, 32, 120, 32, 42, 41] : Bytes), ([40, 42, 42, 41, 32] : Bytes), ([32, 32] : Bytes), ([32, 40, 42, 32, 40, 32, 42, 41] : Bytes)], E5.row (u86.1 ++ x119)], [], 0⟩) (by kernel_rfl) (fun x125 => ?_)
                refine RefR.callC (t := 57) 9 10 [] rfl (by kernel_rfl) (F10_ok K x124 x125) (fun r126 => ?_)
                refine RefR.ev0 (st' := ⟨[(1, .c (E3.tree a1)), (5, .c (E31.tree r3.1)), (7, .c (.own 1 ((u86.1 ++ x119).length))), (8, .c (.own 0 ([([32] : Bytes), ([9] : Bytes), ([10] : Bytes), ([13] : Bytes), ([32, 40, 42, 32, 120, 32, 42, 41] : Bytes), ([40, 42, 42, 41, 32] : Bytes), ([32, 32] : Bytes), ([32, 40, 42, 32, 40, 32, 42, 41] : Bytes)].length))), (9, .c (.val (.int .i64 u86.2))), (10, .c (.val (.int .i64 r126)))], [E9.row [([32] : Bytes), ([9] : Bytes), ([10] : Bytes), ([13] : Bytes), ([32, 40, 42, 32, 120, 32, 42, 41] : Bytes), ([40, 42, 42, 41, 32] : Bytes), ([32, 32] : Bytes), ([32, 40, 42, 32, 40, 32, 42, 41] : Bytes)], E5.row (u86.1 ++ x119)], [], 0⟩) 10 1 11 [1, 5, 7, 8, 9, 10] [0, 1] rfl (by kernel_rfl) ?_
                refine RefR.nilC 11 (by kernel_rfl) ?_
                refine Ref.conv (Conv.keep (st' := ⟨[(1, .c (E3.tree a1)), (5, .c (E31.tree r3.1)), (7, .c (.own 0 ((u86.1 ++ x119).length))), (8, .c (.own 1 ([([32] : Bytes), ([9] : Bytes), ([10] : Bytes), ([13] : Bytes), ([32, 40, 42, 32, 120, 32, 42, 41] : Bytes), ([40, 42, 42, 41, 32] : Bytes), ([32, 32] : Bytes), ([32, 40, 42, 32, 40, 32, 42, 41] : Bytes)].length))), (9, .c (.val (.int .i64 u86.2))), (10, .c (.val (.int .i64 r126)))], [E5.row (u86.1 ++ x119), E9.row [([32] : Bytes), ([9] : Bytes), ([10] : Bytes), ([13] : Bytes), ([32, 40, 42, 32, 120, 32, 42, 41] : Bytes), ([40, 42, 42, 41, 32] : Bytes), ([32, 32] : Bytes), ([32, 40, 42, 32, 40, 32, 42, 41] : Bytes)]], [], 0⟩) [1, 5, 7, 8, 9, 10] [1, 0] (by kernel_rfl)) ?_
                exact Ref.nil (t := (r126)) (by kernel_rfl)
              ·
                refine Ref.skipC (by kernel_rfl) ?_
                refine Ref.conv (Conv.keep (st' := ⟨[(1, .c (E3.tree a1)), (5, .c (E31.tree r3.1)), (7, .c (.own 0 ((u86.1 ++ x119).length))), (8, .c (.own 1 ([([32] : Bytes), ([9] : Bytes), ([10] : Bytes), ([13] : Bytes), ([32, 40, 42, 32, 120, 32, 42, 41] : Bytes), ([40, 42, 42, 41, 32] : Bytes), ([32, 32] : Bytes), ([32, 40, 42, 32, 40, 32, 42, 41] : Bytes)].length))), (9, .c (.val (.int .i64 u86.2))), (10, .c (.val (.int .i64 0)))], [E5.row (u86.1 ++ x119), E9.row [([32] : Bytes), ([9] : Bytes), ([10] : Bytes), ([13] : Bytes), ([32, 40, 42, 32, 120, 32, 42, 41] : Bytes), ([40, 42, 42, 41, 32] : Bytes), ([32, 32] : Bytes), ([32, 40, 42, 32, 40, 32, 42, 41] : Bytes)]], [], 0⟩) [1, 5, 7, 8, 9, 10] [1, 0] (by kernel_rfl)) ?_
                exact Ref.nil (t := (0)) (by kernel_rfl)
            ·
              refine Ref.regionC 15 (by kernel_rfl) ?_
              refine RefR.evC (vs := [inb u123 ([([32] : Bytes), ([9] : Bytes), ([10] : Bytes), ([13] : Bytes), ([32, 40, 42, 32, 120, 32, 42, 41] : Bytes), ([40, 42, 42, 41, 32] : Bytes), ([32, 32] : Bytes), ([32, 40, 42, 32, 40, 32, 42, 41] : Bytes)].length)]) (st' := ⟨[(1, .c (E3.tree a1)), (5, .c (E31.tree r3.1)), (8, .c (.own 1 ([([32] : Bytes), ([9] : Bytes), ([10] : Bytes), ([13] : Bytes), ([32, 40, 42, 32, 120, 32, 42, 41] : Bytes), ([40, 42, 42, 41, 32] : Bytes), ([32, 32] : Bytes), ([32, 40, 42, 32, 40, 32, 42, 41] : Bytes)].length))), (9, .c (.val (.int .i64 u86.2))), (58, .c (.own 0 ((u86.1 ++ x119).length))), (62, .c (.str ([([32] : Bytes), ([9] : Bytes), ([10] : Bytes), ([13] : Bytes), ([32, 40, 42, 32, 120, 32, 42, 41] : Bytes), ([40, 42, 42, 41, 32] : Bytes), ([32, 32] : Bytes), ([32, 40, 42, 32, 40, 32, 42, 41] : Bytes)].getD ((u123 : Int).toNat) default)))], [E5.row (u86.1 ++ x119), E9.row [([32] : Bytes), ([9] : Bytes), ([10] : Bytes), ([13] : Bytes), ([32, 40, 42, 32, 120, 32, 42, 41] : Bytes), ([40, 42, 42, 41, 32] : Bytes), ([32, 32] : Bytes), ([32, 40, 42, 32, 40, 32, 42, 41] : Bytes)]], [], 0⟩) 0 5 5 [1, 5, 8, 9, 58, 62] [0, 1] rfl (by kernel_rfl) ?_
              refine RefR.letC (stf := fun x127 => ⟨[(1, .c (E3.tree a1)), (5, .c (E31.tree r3.1)), (8, .c (.own 1 ([([32] : Bytes), ([9] : Bytes), ([10] : Bytes), ([13] : Bytes), ([32, 40, 42, 32, 120, 32, 42, 41] : Bytes), ([40, 42, 42, 41, 32] : Bytes), ([32, 32] : Bytes), ([32, 40, 42, 32, 40, 32, 42, 41] : Bytes)].length))), (9, .c (.val (.int .i64 u86.2))), (58, .c (.own 0 ((u86.1 ++ x119).length))), (62, .c (.str x127))], [E5.row (u86.1 ++ x119), E9.row [([32] : Bytes), ([9] : Bytes), ([10] : Bytes), ([13] : Bytes), ([32, 40, 42, 32, 120, 32, 42, 41] : Bytes), ([40, 42, 42, 41, 32] : Bytes), ([32, 32] : Bytes), ([32, 40, 42, 32, 40, 32, 42, 41] : Bytes)]], [], 0⟩) (by kernel_rfl) (fun x127 => ?_)
              refine RefR.evC (vs := [room ((((u86.1 ++ x119).length) + x127.length) * 1)]) (st' := ⟨[(1, .c (E3.tree a1)), (5, .c (E31.tree r3.1)), (8, .c (.own 0 ([([32] : Bytes), ([9] : Bytes), ([10] : Bytes), ([13] : Bytes), ([32, 40, 42, 32, 120, 32, 42, 41] : Bytes), ([40, 42, 42, 41, 32] : Bytes), ([32, 32] : Bytes), ([32, 40, 42, 32, 40, 32, 42, 41] : Bytes)].length))), (9, .c (.val (.int .i64 u86.2))), (63, .c (.own 1 (((u86.1 ++ x119).length) + x127.length)))], [E9.row [([32] : Bytes), ([9] : Bytes), ([10] : Bytes), ([13] : Bytes), ([32, 40, 42, 32, 120, 32, 42, 41] : Bytes), ([40, 42, 42, 41, 32] : Bytes), ([32, 32] : Bytes), ([32, 40, 42, 32, 40, 32, 42, 41] : Bytes)], .row 5 1 (((u86.1 ++ x119).length) + x127.length) fun i j => bif Nat.blt i ((u86.1 ++ x119).length) then E5.at (u86.1 ++ x119) i j else (fun i _ => .val (.int .u8 (x127.getD i 0).toNat)) (i - ((u86.1 ++ x119).length)) j], [], 0⟩) 5 1 6 [1, 5, 8, 9, 63] [1, 2] rfl (by kernel_rfl) ?_
              refine RefR.conv (Conv.obj 1 (E5.row ((u86.1 ++ x119) ++ x127)) (El.row_append_str E5 rfl (u86.1 ++ x119) x127 rfl) (by kernel_rfl)) ?_
              refine RefR.conv (Conv.slot 63 (.c (.own 1 (((u86.1 ++ x119) ++ x127).length))) (DLe.c (CLe.own (by simp <;> omega))) (by kernel_rfl)) ?_
              refine RefR.ev0 (st' := ⟨[(1, .c (E3.tree a1)), (5, .c (E31.tree r3.1)), (7, .c (.own 1 (((u86.1 ++ x119) ++ x127).length))), (8, .c (.own 0 ([([32] : Bytes), ([9] : Bytes), ([10] : Bytes), ([13] : Bytes), ([32, 40, 42, 32, 120, 32, 42, 41] : Bytes), ([40, 42, 42, 41, 32] : Bytes), ([32, 32] : Bytes), ([32, 40, 42, 32, 40, 32, 42, 41] : Bytes)].length))), (9, .c (.val (.int .i64 u86.2)))], [E9.row [([32] : Bytes), ([9] : Bytes), ([10] : Bytes), ([13] : Bytes), ([32, 40, 42, 32, 120, 32, 42, 41] : Bytes), ([40, 42, 42, 41, 32] : Bytes), ([32, 32] : Bytes), ([32, 40, 42, 32, 40, 32, 42, 41] : Bytes)], E5.row ((u86.1 ++ x119) ++ x127)], [], 0⟩) 6 1 7 [1, 5, 7, 8, 9] [0, 1] rfl (by kernel_rfl) ?_
              refine RefR.nilC 7 (by kernel_rfl) ?_
              refine Ref.conv (Conv.keep (st' := ⟨[(1, .c (E3.tree a1)), (5, .c (E31.tree r3.1)), (7, .c (.own 0 (((u86.1 ++ x119) ++ x127).length))), (8, .c (.own 1 ([([32] : Bytes), ([9] : Bytes), ([10] : Bytes), ([13] : Bytes), ([32, 40, 42, 32, 120, 32, 42, 41] : Bytes), ([40, 42, 42, 41, 32] : Bytes), ([32, 32] : Bytes), ([32, 40, 42, 32, 40, 32, 42, 41] : Bytes)].length))), (9, .c (.val (.int .i64 u86.2)))], [E5.row ((u86.1 ++ x119) ++ x127), E9.row [([32] : Bytes), ([9] : Bytes), ([10] : Bytes), ([13] : Bytes), ([32, 40, 42, 32, 120, 32, 42, 41] : Bytes), ([40, 42, 42, 41, 32] : Bytes), ([32, 32] : Bytes), ([32, 40, 42, 32, 40, 32, 42, 41] : Bytes)]], [], 0⟩) [1, 5, 7, 8, 9] [1, 0] (by kernel_rfl)) ?_
              exact Ref.nil (t := (((u86.1 ++ x119) ++ x127))) (by kernel_rfl)
          ·
            refine Ref.regionC 10 (by kernel_rfl) ?_
            refine RefR.ev0 (st' := ⟨[(1, .c (E3.tree a1)), (5, .c (E31.tree r3.1)), (7, .c (.own 0 u118.length)), (8, .c (.own 1 ([([32] : Bytes), ([9] : Bytes), ([10] : Bytes), ([13] : Bytes), ([32, 40, 42, 32, 120, 32, 42, 41] : Bytes), ([40, 42, 42, 41, 32] : Bytes), ([32, 32] : Bytes), ([32, 40, 42, 32, 40, 32, 42, 41] : Bytes)].length))), (9, .c (.val (.int .i64 (IntKind.i64.wrap (u86.2 + 1)))))], [E5.row u118, E9.row [([32] : Bytes), ([9] : Bytes), ([10] : Bytes), ([13] : Bytes), ([32, 40, 42, 32, 120, 32, 42, 41] : Bytes), ([40, 42, 42, 41, 32] : Bytes), ([32, 32] : Bytes), ([32, 40, 42, 32, 40, 32, 42, 41] : Bytes)]], [], 0⟩) 0 3 3 [1, 5, 7, 8, 9] [0, 1] rfl (by kernel_rfl) ?_
            refine RefR.nilC 3 (by kernel_rfl) ?_
            exact Ref.nil (t := (u118, (IntKind.i64.wrap (u86.2 + 1)))) (by kernel_rfl)
        ·
          refine Ref.conv (Conv.keep (st' := ⟨[(5, .c (E31.tree r3.1)), (7, .c (.own 0 u86.1.length))], [E5.row u86.1], [], 0⟩) [5, 7] [0] (by kernel_rfl)) ?_
          exact Ref.exitC 0 (t := (Sum.inl (u86.1))) (by kernel_rfl) (by kernel_rfl)
      ·
        refine Ref.seqC (cd (bd Tryd.f4) [1, 1, 1, 1, 1, 1, 1, 0]) (cd (bd Tryd.f4) [1, 1, 1, 1, 1, 1, 1, 1]) (by kernel_rfl) ?_
        refine Ref.seqC (cd (bd Tryd.f4) [1, 1, 1, 1, 1, 1, 1, 0, 0]) (cd (bd Tryd.f4) [1, 1, 1, 1, 1, 1, 1, 0, 1]) (by kernel_rfl) ?_
        refine Ref.regionC 16 (by kernel_rfl) ?_
        refine RefR.ev0 (st' := ⟨[(5, .c (E31.tree r3.1)), (7, .c (.own 0 u66.length)), (66, .c (.val (.bool (decide (((Int.ofNat u66.length) : Int) > 6000)))))], [E5.row u66], [], 0⟩) 0 3 3 [5, 7, 66] [0] rfl (by kernel_rfl) ?_
        refine RefR.letC (stf := fun x128 => ⟨[(5, .c (E31.tree r3.1)), (7, .c (.own 0 u66.length)), (66, .c (.val (.bool x128)))], [E5.row u66], [], 0⟩) (by kernel_rfl) (fun x128 => ?_)
        refine RefR.nilC 3 (by kernel_rfl) ?_
        refine Ref.condC (.tmp 66) x128 (by kernel_rfl) rfl (by kernel_rfl) (fun hc => ?_) (fun hc => ?_)
        ·
          refine Ref.seqC (cd (bd Tryd.f4) [1, 1, 1, 1, 1, 1, 1, 0, 1, 0, 0]) (cd (bd Tryd.f4) [1, 1, 1, 1, 1, 1, 1, 0, 1, 0, 1]) (by kernel_rfl) ?_
          refine Ref.regionC 17 (by kernel_rfl) ?_
          refine RefR.callC (t := 67) 0 1 [] rfl (by kernel_rfl) (F6_ok K) (fun r129 => ?_)
          refine RefR.ev0 (st' := ⟨[(4, .c (.val (.bool r129)))], [], [], 0⟩) 1 1 2 [4] [] rfl (by kernel_rfl) ?_
          refine RefR.nilC 2 (by kernel_rfl) ?_
          exact Ref.retC (t := (r129)) (by kernel_rfl) (by kernel_rfl)
        ·
          refine Ref.skipC (by kernel_rfl) ?_
          refine Ref.seqC (cd (bd Tryd.f4) [1, 1, 1, 1, 1, 1, 1, 1, 0]) (cd (bd Tryd.f4) [1, 1, 1, 1, 1, 1, 1, 1, 1]) (by kernel_rfl) ?_
          refine Ref.regionC 18 (by kernel_rfl) ?_
          refine RefR.ev0 (st' := ⟨[(5, .c (E31.tree r3.1)), (69, .c (.own 0 u66.length))], [E5.row u66], [], 0⟩) 0 1 1 [5, 69] [0] rfl (by kernel_rfl) ?_
          refine RefR.bytesStr (t := 70) (d := .c (.own 0 u66.length)) 1 2 u66 (by kernel_rfl) (by kernel_rfl) (isBytes.own 0 5 (by kernel_rfl) (by kernel_rfl)) ?_
          refine RefR.callC (t := 71) 2 3 [] rfl (by kernel_rfl) (F7_ok K u66) (fun r130 => ?_)
          refine RefR.ev0 (st' := ⟨[(5, .c (E31.tree r3.1)), (11, .c (E31.tree r130.1)), (12, .c (errC r130.2))], [], [], 0⟩) 3 5 8 [5, 11, 12] [] rfl (by kernel_rfl) ?_
          refine RefR.nilC 8 (by kernel_rfl) ?_
          refine Ref.seqC (cd (bd Tryd.f4) [1, 1, 1, 1, 1, 1, 1, 1, 1, 0]) (cd (bd Tryd.f4) [1, 1, 1, 1, 1, 1, 1, 1, 1, 1]) (by kernel_rfl) ?_
          refine Ref.seqC (cd (bd Tryd.f4) [1, 1, 1, 1, 1, 1, 1, 1, 1, 0, 0]) (cd (bd Tryd.f4) [1, 1, 1, 1, 1, 1, 1, 1, 1, 0, 1]) (by kernel_rfl) ?_
          refine Ref.regionC 19 (by kernel_rfl) ?_
          refine RefR.ev0 (st' := ⟨[(5, .c (E31.tree r3.1)), (11, .c (E31.tree r130.1)), (82, .c (.val (.bool ((!(!r130.2.isSome)) || (((Int.ofNat r130.1.length) : Int) != (Int.ofNat r3.1.length))))))], [], [], 0⟩) 0 9 9 [5, 11, 82] [] rfl (by kernel_rfl) ?_
          refine RefR.letC (stf := fun x131 => ⟨[(5, .c (E31.tree r3.1)), (11, .c (E31.tree r130.1)), (82, .c (.val (.bool x131)))], [], [], 0⟩) (by kernel_rfl) (fun x131 => ?_)
          refine RefR.nilC 9 (by kernel_rfl) ?_
          refine Ref.condC (.tmp 82) x131 (by kernel_rfl) rfl (by kernel_rfl) (fun hc => ?_) (fun hc => ?_)
          ·
            refine Ref.seqC (cd (bd Tryd.f4) [1, 1, 1, 1, 1, 1, 1, 1, 1, 0, 1, 0, 0]) (cd (bd Tryd.f4) [1, 1, 1, 1, 1, 1, 1, 1, 1, 0, 1, 0, 1]) (by kernel_rfl) ?_
            refine Ref.regionC 20 (by kernel_rfl) ?_
            refine RefR.ev0 (st' := ⟨[(4, .c (.val (.bool false)))], [], [], 0⟩) 0 1 1 [4] [] rfl (by kernel_rfl) ?_
            refine RefR.nilC 1 (by kernel_rfl) ?_
            exact Ref.retC (t := (false)) (by kernel_rfl) (by kernel_rfl)
          ·
            refine Ref.skipC (by kernel_rfl) ?_
            refine Ref.seqC (cd (bd Tryd.f4) [1, 1, 1, 1, 1, 1, 1, 1, 1, 1, 0]) (cd (bd Tryd.f4) [1, 1, 1, 1, 1, 1, 1, 1, 1, 1, 1]) (by kernel_rfl) ?_
            refine Ref.seqC (cd (bd Tryd.f4) [1, 1, 1, 1, 1, 1, 1, 1, 1, 1, 0, 0]) (cd (bd Tryd.f4) [1, 1, 1, 1, 1, 1, 1, 1, 1, 1, 0, 1]) (by kernel_rfl) ?_
            refine Ref.regionC 21 (by kernel_rfl) ?_
            refine RefR.ev0 (st' := ⟨[(5, .c (E31.tree r3.1)), (11, .c (E31.tree r130.1)), (13, .c (.val (.int .i64 0)))], [], [], 0⟩) 0 1 1 [5, 11, 13] [] rfl (by kernel_rfl) ?_
            refine RefR.nilC 1 (by kernel_rfl) ?_
            refine Ref.codeEq (c' := .block 2 (cd (bd Tryd.f4) [1, 1, 1, 1, 1, 1, 1, 1, 1, 1, 0, 1, 0])) (by kernel_rfl) ?_
            refine Ref.block (go1 := fun u147 => ⟨[], [], [], 0⟩) ?_ (fun _ h => by cases h) (fun u147 => ?_)
            ·
              refine Ref.codeEq (c' := .loop (cd (bd Tryd.f4) [1, 1, 1, 1, 1, 1, 1, 1, 1, 1, 0, 1, 0, 0])) (by kernel_rfl) ?_
              refine Ref.loop (hd := fun u153 => ⟨[(5, .c (E31.tree r3.1)), (11, .c (E31.tree r130.1)), (13, .c (.val (.int .i64 u153)))], [], [], 0⟩) K (0) (by kernel_rfl) (fun u153 => ?_)
              refine Ref.seqC (cd (bd Tryd.f4) [1, 1, 1, 1, 1, 1, 1, 1, 1, 1, 0, 1, 0, 0, 0]) (cd (bd Tryd.f4) [1, 1, 1, 1, 1, 1, 1, 1, 1, 1, 0, 1, 0, 0, 1]) (by kernel_rfl) ?_
              refine Ref.seqC (cd (bd Tryd.f4) [1, 1, 1, 1, 1, 1, 1, 1, 1, 1, 0, 1, 0, 0, 0, 0]) (cd (bd Tryd.f4) [1, 1, 1, 1, 1, 1, 1, 1, 1, 1, 0, 1, 0, 0, 0, 1]) (by kernel_rfl) ?_
              refine Ref.regionC 22 (by kernel_rfl) ?_
              refine RefR.ev0 (st' := ⟨[(5, .c (E31.tree r3.1)), (11, .c (E31.tree r130.1)), (13, .c (.val (.int .i64 u153))), (86, .c (.val (.bool (decide ((u153 : Int) < (Int.ofNat r3.1.length))))))], [], [], 0⟩) 0 4 4 [5, 11, 13, 86] [] rfl (by kernel_rfl) ?_
              refine RefR.letC (stf := fun x159 => ⟨[(5, .c (E31.tree r3.1)), (11, .c (E31.tree r130.1)), (13, .c (.val (.int .i64 u153))), (86, .c (.val (.bool x159)))], [], [], 0⟩) (by kernel_rfl) (fun x159 => ?_)
              refine RefR.nilC 4 (by kernel_rfl) ?_
              refine Ref.condC (.tmp 86) x159 (by kernel_rfl) rfl (by kernel_rfl) (fun hc => ?_) (fun hc => ?_)
              ·
                refine Ref.skipC (by kernel_rfl) ?_
                refine Ref.seqC (cd (bd Tryd.f4) [1, 1, 1, 1, 1, 1, 1, 1, 1, 1, 0, 1, 0, 0, 1, 0]) (cd (bd Tryd.f4) [1, 1, 1, 1, 1, 1, 1, 1, 1, 1, 0, 1, 0, 0, 1, 1]) (by kernel_rfl) ?_
                refine Ref.codeEq (c' := .block 3 (cd (bd Tryd.f4) [1, 1, 1, 1, 1, 1, 1, 1, 1, 1, 0, 1, 0, 0, 1, 0, 0])) (by kernel_rfl) ?_
                refine Ref.block (go1 := fun u161 => ⟨[(5, .c (E31.tree r3.1)), (11, .c (E31.tree r130.1)), (13, .c (.val (.int .i64 u153)))], [], [], 0⟩) ?_ (fun a => match a with | .inl _ => (fun h => by cases h) | .inr _ => (fun h => by cases h)) (fun u161 => ?_)
                ·
                  refine Ref.seqC (cd (bd Tryd.f4) [1, 1, 1, 1, 1, 1, 1, 1, 1, 1, 0, 1, 0, 0, 1, 0, 0, 0]) (cd (bd Tryd.f4) [1, 1, 1, 1, 1, 1, 1, 1, 1, 1, 0, 1, 0, 0, 1, 0, 0, 1]) (by kernel_rfl) ?_
                  refine Ref.drawnY 24 (by kernel_rfl) (by kernel_rfl) ?_
                  refine RefY.evC (vs := [inb u153 r130.1.length, inb u153 r3.1.length]) (st' := ⟨[(5, .c (E31.tree r3.1)), (11, .c (E31.tree r130.1)), (13, .c (.val (.int .i64 u153))), (92, .c (E31.ep (r130.1.getD (u153 : Int).toNat default) 0)), (97, .c (E31.ep (r3.1.getD (u153 : Int).toNat default) 0))], [], [], 0⟩) (fuel' := 29) [0, 1, 2, 3, 5, 6, 7, 8] [5, 11, 13, 92, 97] [] rfl (by kernel_rfl) (by kernel_rfl) ?_
                  refine RefY.toX [] ?_
                  refine RefX.evC (vs := [!(!((((r130.1.getD (u153 : Int).toNat default).fKind) : Int) != ((r3.1.getD (u153 : Int).toNat default).fKind))) || inb u153 r130.1.length, !(!((((r130.1.getD (u153 : Int).toNat default).fKind) : Int) != ((r3.1.getD (u153 : Int).toNat default).fKind))) || inb u153 r3.1.length, !(!(((((r130.1.getD (u153 : Int).toNat default).fKind) : Int) != ((r3.1.getD (u153 : Int).toNat default).fKind)) || (!(((r130.1.getD (u153 : Int).toNat default).fText) == ((r3.1.getD (u153 : Int).toNat default).fText))))) || inb u153 r130.1.length, !(!(((((r130.1.getD (u153 : Int).toNat default).fKind) : Int) != ((r3.1.getD (u153 : Int).toNat default).fKind)) || (!(((r130.1.getD (u153 : Int).toNat default).fText) == ((r3.1.getD (u153 : Int).toNat default).fText))))) || inb u153 r3.1.length]) (st' := ⟨[(5, .c (E31.tree r3.1)), (11, .c (E31.tree r130.1)), (13, .c (.val (.int .i64 u153))), (125, .c (.val (.bool ((((((r130.1.getD (u153 : Int).toNat default).fKind) : Int) != ((r3.1.getD (u153 : Int).toNat default).fKind)) || (!(((r130.1.getD (u153 : Int).toNat default).fText) == ((r3.1.getD (u153 : Int).toNat default).fText)))) || ((((r130.1.getD (u153 : Int).toNat default).fN) : Int) != ((r3.1.getD (u153 : Int).toNat default).fN))))))], [], [], 0⟩) (fuel' := 0) [4, 9, 10, 11, 12, 13, 14, 15, 16, 17, 18, 19, 20, 21, 22, 23, 24, 25, 26, 27, 28, 29, 30, 31, 32, 33, 34, 35, 36] [5, 11, 13, 125] [] rfl (by kernel_rfl) (by kernel_rfl) ?_
                  refine RefX.letC (stf := fun x162 => ⟨[(5, .c (E31.tree r3.1)), (11, .c (E31.tree r130.1)), (13, .c (.val (.int .i64 u153))), (125, .c (.val (.bool x162)))], [], [], 0⟩) (by kernel_rfl) (fun x162 => ?_)
                  refine RefX.done (by kernel_rfl) ?_
                  refine Ref.condC (.tmp 125) x162 (by kernel_rfl) rfl (by kernel_rfl) (fun hc => ?_) (fun hc => ?_)
                  ·
                    refine Ref.seqC (cd (bd Tryd.f4) [1, 1, 1, 1, 1, 1, 1, 1, 1, 1, 0, 1, 0, 0, 1, 0, 0, 1, 0, 0]) (cd (bd Tryd.f4) [1, 1, 1, 1, 1, 1, 1, 1, 1, 1, 0, 1, 0, 0, 1, 0, 0, 1, 0, 1]) (by kernel_rfl) ?_
                    refine Ref.regionC 25 (by kernel_rfl) ?_
                    refine RefR.ev0 (st' := ⟨[(4, .c (.val (.bool false)))], [], [], 0⟩) 0 1 1 [4] [] rfl (by kernel_rfl) ?_
                    refine RefR.nilC 1 (by kernel_rfl) ?_
                    exact Ref.retC (t := (Sum.inr (Sum.inr (false)))) (by kernel_rfl) (by kernel_rfl)
                  ·
                    refine Ref.skipC (by kernel_rfl) ?_
                    refine Ref.conv (Conv.keep (st' := ⟨[(5, .c (E31.tree r3.1)), (11, .c (E31.tree r130.1)), (13, .c (.val (.int .i64 u153)))], [], [], 0⟩) [5, 11, 13] [] (by kernel_rfl)) ?_
                    exact Ref.nil (t := ()) (by kernel_rfl)
                ·
                  refine Ref.regionC 23 (by kernel_rfl) ?_
                  refine RefR.ev0 (st' := ⟨[(5, .c (E31.tree r3.1)), (11, .c (E31.tree r130.1)), (13, .c (.val (.int .i64 (IntKind.i64.wrap (u153 + 1)))))], [], [], 0⟩) 0 3 3 [5, 11, 13] [] rfl (by kernel_rfl) ?_
                  refine RefR.nilC 3 (by kernel_rfl) ?_
                  exact Ref.nil (t := ((IntKind.i64.wrap (u153 + 1)))) (by kernel_rfl)
              ·
                refine Ref.conv (Conv.keep (st' := ⟨[], [], [], 0⟩) [] [] (by kernel_rfl)) ?_
                exact Ref.exitC 2 (t := (Sum.inl ())) (by kernel_rfl) (by kernel_rfl)
            ·
              refine Ref.seqC (cd (bd Tryd.f4) [1, 1, 1, 1, 1, 1, 1, 1, 1, 1, 1, 0]) (cd (bd Tryd.f4) [1, 1, 1, 1, 1, 1, 1, 1, 1, 1, 1, 1]) (by kernel_rfl) ?_
              refine Ref.regionC 26 (by kernel_rfl) ?_
              refine RefR.callC (t := 126) 0 1 [] rfl (by kernel_rfl) (F6_ok K) (fun r163 => ?_)
              refine RefR.ev0 (st' := ⟨[(4, .c (.val (.bool r163)))], [], [], 0⟩) 1 1 2 [4] [] rfl (by kernel_rfl) ?_
              refine RefR.nilC 2 (by kernel_rfl) ?_
              exact Ref.retC (t := (r163)) (by kernel_rfl) (by kernel_rfl)

/-- governor/governorlaw3.LexJoins -/
def F5 (K : Nat) (a0 : Bytes) (a1 : Bytes) : Option ((Bool) ⊕ (Bool)) :=
  (letV ((decide (((Int.ofNat a0.length) : Int) > 1500)) || (decide (((Int.ofNat a1.length) : Int) > 1500))) (fun (x1 : Bool) => (if x1 = true then ((fnS (F6 K)).bind (fun r2 => (some (.inl (r2))))) else ((fnS (F7 K a0)).bind (fun r3 => ((fnS (F7 K a1)).bind (fun r4 => (chk [room (a0.length + ([32] : Bytes).length), room ((a0 ++ ([32] : Bytes)).length + a1.length)] ((fnS (F7 K ((a0 ++ ([32] : Bytes)) ++ a1))).bind (fun r5 => (letV ((!(!r3.2.isSome)) || (decide (((IntKind.i64.wrap ((Int.ofNat r3.1.length) + (Int.ofNat r4.1.length))) : Int) > 1500))) (fun (x6 : Bool) => (if x6 = true then ((fnS (F6 K)).bind (fun r7 => (some (.inl (r7))))) else (if (!(!r4.2.isSome)) = true then ((fnS (F8 K r4.2)).bind (fun r8 => ((fnS (F8 K r5.2)).bind (fun r9 => (letV (((((r8.1 : Int) == r9.1) && ((r9.2 : Int) == (IntKind.i64.wrap ((IntKind.i64.wrap (r8.2 + (Int.ofNat a0.length))) + 1)))) || ((r9.1 : Int) == 5)) && (((Int.ofNat r5.1.length) : Int) == 0)) (fun (x10 : Bool) => ((condM x10 (fnS (F6 K)) default).bind (fun r11 => (some (.inl ((x10 && r11)))))))))))) else (letV ((!(!r5.2.isSome)) || (((Int.ofNat r5.1.length) : Int) != (IntKind.i64.wrap ((Int.ofNat r3.1.length) + (Int.ofNat r4.1.length))))) (fun (x12 : Bool) => (if x12 = true then (some (.inl (false))) else (bindS (blockS ((iter K (fun (u34 : Int) => (letV (decide ((u34 : Int) < (Int.ofNat r4.1.length))) (fun (x40 : Bool) => (if x40 = true then (bindS (blockS (chk [inb u34 r4.1.length] (chk [inb (IntKind.i64.wrap ((Int.ofNat r3.1.length) + u34)) r5.1.length] (letV (!((((r5.1.getD ((IntKind.i64.wrap ((Int.ofNat r3.1.length) + u34)) : Int).toNat default).fKind : Int) == ((r4.1.getD (u34 : Int).toNat default).fKind)) && ((((r5.1.getD ((IntKind.i64.wrap ((Int.ofNat r3.1.length) + u34)) : Int).toNat default).fText) == ((r4.1.getD (u34 : Int).toNat default).fText)) && ((((r5.1.getD ((IntKind.i64.wrap ((Int.ofNat r3.1.length) + u34)) : Int).toNat default).fN : Int) == ((r4.1.getD (u34 : Int).toNat default).fN)) && ((((r5.1.getD ((IntKind.i64.wrap ((Int.ofNat r3.1.length) + u34)) : Int).toNat default).fAt : Int) == (IntKind.i64.wrap ((IntKind.i64.wrap (((r4.1.getD (u34 : Int).toNat default).fAt) + (Int.ofNat a0.length))) + 1))) && true))))) (fun (x43 : Bool) => (if x43 = true then (some (.inl (Sum.inr (Sum.inr (false))))) else (some (.inr ())))))))) (fun (u42 : Unit) => (some (.inr ((IntKind.i64.wrap (u34 + 1))))))) else (some (.inl (Sum.inl ()))))))) (0)).map .inl)) (fun (u28 : Unit) => (chk [bndOk r5.1.length 0 (Int.ofNat r3.1.length)] (letV ((r5.1.drop (0 : Int).toNat).take (((Int.ofNat r3.1.length) : Int).toNat - (0 : Int).toNat)) (fun (x44 : (List S31)) => ((fnS (F11 K x44 r3.1)).bind (fun r45 => ((condM r45 (fnS (F6 K)) default).bind (fun r46 => (some (.inl ((r45 && r46))))))))))))))))))))))))))))))

theorem F5_ok (K : Nat) (a0 : Bytes) (a1 : Bytes) : DFun Tryd.prog 5 [.c (.str a0), .c (.str a1)] [] (fnS (F5 K a0 a1)) (fun r => .c (.val (.bool r))) (fun r => []) := by
  refine DFun.intro (fn := Tryd.f5) (c := cd (bd Tryd.f5) []) (rs := fun r => ⟨[(4, .c (.val (.bool r)))], [], [], 0⟩) (by kernel_rfl) (by kernel_rfl) (by kernel_rfl) ?_ (fun r => by kernel_rfl) (fun r => by kernel_rfl) (fun r => by kernel_rfl) (fun r => by kernel_rfl)
  unfold F5
  refine Ref.seqC (cd (bd Tryd.f5) [0]) (cd (bd Tryd.f5) [1]) (by kernel_rfl) ?_
  refine Ref.regionC 0 (by kernel_rfl) ?_
  refine RefR.ev0 (st' := ⟨[(0, .c (.str a0)), (1, .c (.str a1))], [], [], 0⟩) 0 1 1 [0, 1] [] rfl (by kernel_rfl) ?_
  refine RefR.nilC 1 (by kernel_rfl) ?_
  refine Ref.seqC (cd (bd Tryd.f5) [1, 0]) (cd (bd Tryd.f5) [1, 1]) (by kernel_rfl) ?_
  refine Ref.seqC (cd (bd Tryd.f5) [1, 0, 0]) (cd (bd Tryd.f5) [1, 0, 1]) (by kernel_rfl) ?_
  refine Ref.regionC 1 (by kernel_rfl) ?_
  refine RefR.ev0 (st' := ⟨[(0, .c (.str a0)), (1, .c (.str a1)), (24, .c (.val (.bool ((decide (((Int.ofNat a0.length) : Int) > 1500)) || (decide (((Int.ofNat a1.length) : Int) > 1500))))))], [], [], 0⟩) 0 8 8 [0, 1, 24] [] rfl (by kernel_rfl) ?_
  refine RefR.letC (stf := fun x1 => ⟨[(0, .c (.str a0)), (1, .c (.str a1)), (24, .c (.val (.bool x1)))], [], [], 0⟩) (by kernel_rfl) (fun x1 => ?_)
  refine RefR.nilC 8 (by kernel_rfl) ?_
  refine Ref.condC (.tmp 24) x1 (by kernel_rfl) rfl (by kernel_rfl) (fun hc => ?_) (fun hc => ?_)
  ·
    refine Ref.seqC (cd (bd Tryd.f5) [1, 0, 1, 0, 0]) (cd (bd Tryd.f5) [1, 0, 1, 0, 1]) (by kernel_rfl) ?_
    refine Ref.regionC 2 (by kernel_rfl) ?_
    refine RefR.callC (t := 25) 0 1 [] rfl (by kernel_rfl) (F6_ok K) (fun r2 => ?_)
    refine RefR.ev0 (st' := ⟨[(4, .c (.val (.bool r2)))], [], [], 0⟩) 1 1 2 [4] [] rfl (by kernel_rfl) ?_
    refine RefR.nilC 2 (by kernel_rfl) ?_
    exact Ref.retC (t := (r2)) (by kernel_rfl) (by kernel_rfl)
  ·
    refine Ref.skipC (by kernel_rfl) ?_
    refine Ref.seqC (cd (bd Tryd.f5) [1, 1, 0]) (cd (bd Tryd.f5) [1, 1, 1]) (by kernel_rfl) ?_
    refine Ref.regionC 3 (by kernel_rfl) ?_
    refine RefR.ev0 (st' := ⟨[(0, .c (.str a0)), (1, .c (.str a1)), (27, .c (.str a0))], [], [], 0⟩) 0 1 1 [0, 1, 27] [] rfl (by kernel_rfl) ?_
    refine RefR.callC (t := 28) 1 2 [] rfl (by kernel_rfl) (F7_ok K a0) (fun r3 => ?_)
    refine RefR.ev0 (st' := ⟨[(0, .c (.str a0)), (1, .c (.str a1)), (5, .c (E31.tree r3.1)), (6, .c (errC r3.2))], [], [], 0⟩) 2 5 7 [0, 1, 5, 6] [] rfl (by kernel_rfl) ?_
    refine RefR.nilC 7 (by kernel_rfl) ?_
    refine Ref.seqC (cd (bd Tryd.f5) [1, 1, 1, 0]) (cd (bd Tryd.f5) [1, 1, 1, 1]) (by kernel_rfl) ?_
    refine Ref.regionC 4 (by kernel_rfl) ?_
    refine RefR.ev0 (st' := ⟨[(0, .c (.str a0)), (1, .c (.str a1)), (5, .c (E31.tree r3.1)), (6, .c (errC r3.2)), (32, .c (.str a1))], [], [], 0⟩) 0 1 1 [0, 1, 5, 6, 32] [] rfl (by kernel_rfl) ?_
    refine RefR.callC (t := 33) 1 2 [] rfl (by kernel_rfl) (F7_ok K a1) (fun r4 => ?_)
    refine RefR.ev0 (st' := ⟨[(0, .c (.str a0)), (1, .c (.str a1)), (5, .c (E31.tree r3.1)), (6, .c (errC r3.2)), (7, .c (E31.tree r4.1)), (8, .c (errC r4.2))], [], [], 0⟩) 2 5 7 [0, 1, 5, 6, 7, 8] [] rfl (by kernel_rfl) ?_
    refine RefR.nilC 7 (by kernel_rfl) ?_
    refine Ref.seqC (cd (bd Tryd.f5) [1, 1, 1, 1, 0]) (cd (bd Tryd.f5) [1, 1, 1, 1, 1]) (by kernel_rfl) ?_
    refine Ref.regionC 5 (by kernel_rfl) ?_
    refine RefR.evC (vs := [room (a0.length + ([32] : Bytes).length), room ((a0 ++ ([32] : Bytes)).length + a1.length)]) (st' := ⟨[(0, .c (.str a0)), (5, .c (E31.tree r3.1)), (6, .c (errC r3.2)), (7, .c (E31.tree r4.1)), (8, .c (errC r4.2)), (40, .c (.str ((a0 ++ ([32] : Bytes)) ++ a1)))], [], [], 0⟩) 0 4 4 [0, 5, 6, 7, 8, 40] [] rfl (by kernel_rfl) ?_
    refine RefR.callC (t := 41) 4 5 [] rfl (by kernel_rfl) (F7_ok K ((a0 ++ ([32] : Bytes)) ++ a1)) (fun r5 => ?_)
    refine RefR.ev0 (st' := ⟨[(0, .c (.str a0)), (5, .c (E31.tree r3.1)), (6, .c (errC r3.2)), (7, .c (E31.tree r4.1)), (8, .c (errC r4.2)), (9, .c (E31.tree r5.1)), (10, .c (errC r5.2))], [], [], 0⟩) 5 5 10 [0, 5, 6, 7, 8, 9, 10] [] rfl (by kernel_rfl) ?_
    refine RefR.nilC 10 (by kernel_rfl) ?_
    refine Ref.seqC (cd (bd Tryd.f5) [1, 1, 1, 1, 1, 0]) (cd (bd Tryd.f5) [1, 1, 1, 1, 1, 1]) (by kernel_rfl) ?_
    refine Ref.seqC (cd (bd Tryd.f5) [1, 1, 1, 1, 1, 0, 0]) (cd (bd Tryd.f5) [1, 1, 1, 1, 1, 0, 1]) (by kernel_rfl) ?_
    refine Ref.regionC 6 (by kernel_rfl) ?_
    refine RefR.ev0 (st' := ⟨[(0, .c (.str a0)), (5, .c (E31.tree r3.1)), (7, .c (E31.tree r4.1)), (8, .c (errC r4.2)), (9, .c (E31.tree r5.1)), (10, .c (errC r5.2)), (53, .c (.val (.bool ((!(!r3.2.isSome)) || (decide (((IntKind.i64.wrap ((Int.ofNat r3.1.length) + (Int.ofNat r4.1.length))) : Int) > 1500))))))], [], [], 0⟩) 0 10 10 [0, 5, 7, 8, 9, 10, 53] [] rfl (by kernel_rfl) ?_
    refine RefR.letC (stf := fun x6 => ⟨[(0, .c (.str a0)), (5, .c (E31.tree r3.1)), (7, .c (E31.tree r4.1)), (8, .c (errC r4.2)), (9, .c (E31.tree r5.1)), (10, .c (errC r5.2)), (53, .c (.val (.bool x6)))], [], [], 0⟩) (by kernel_rfl) (fun x6 => ?_)
    refine RefR.nilC 10 (by kernel_rfl) ?_
    refine Ref.condC (.tmp 53) x6 (by kernel_rfl) rfl (by kernel_rfl) (fun hc => ?_) (fun hc => ?_)
    ·
      refine Ref.seqC (cd (bd Tryd.f5) [1, 1, 1, 1, 1, 0, 1, 0, 0]) (cd (bd Tryd.f5) [1, 1, 1, 1, 1, 0, 1, 0, 1]) (by kernel_rfl) ?_
      refine Ref.regionC 7 (by kernel_rfl) ?_
      refine RefR.callC (t := 54) 0 1 [] rfl (by kernel_rfl) (F6_ok K) (fun r7 => ?_)
      refine RefR.ev0 (st' := ⟨[(4, .c (.val (.bool r7)))], [], [], 0⟩) 1 1 2 [4] [] rfl (by kernel_rfl) ?_
      refine RefR.nilC 2 (by kernel_rfl) ?_
      exact Ref.retC (t := (r7)) (by kernel_rfl) (by kernel_rfl)
    ·
      refine Ref.skipC (by kernel_rfl) ?_
      refine Ref.seqC (cd (bd Tryd.f5) [1, 1, 1, 1, 1, 1, 0]) (cd (bd Tryd.f5) [1, 1, 1, 1, 1, 1, 1]) (by kernel_rfl) ?_
      refine Ref.seqC (cd (bd Tryd.f5) [1, 1, 1, 1, 1, 1, 0, 0]) (cd (bd Tryd.f5) [1, 1, 1, 1, 1, 1, 0, 1]) (by kernel_rfl) ?_
      refine Ref.regionC 8 (by kernel_rfl) ?_
      refine RefR.ev0 (st' := ⟨[(0, .c (.str a0)), (5, .c (E31.tree r3.1)), (7, .c (E31.tree r4.1)), (8, .c (errC r4.2)), (9, .c (E31.tree r5.1)), (10, .c (errC r5.2)), (56, .c (.val (.bool (!(!r4.2.isSome)))))], [], [], 0⟩) 0 2 2 [0, 5, 7, 8, 9, 10, 56] [] rfl (by kernel_rfl) ?_
      refine RefR.nilC 2 (by kernel_rfl) ?_
      refine Ref.condC (.tmp 56) (!(!r4.2.isSome)) (by kernel_rfl) rfl (by kernel_rfl) (fun hc => ?_) (fun hc => ?_)
      ·
        refine Ref.seqC (cd (bd Tryd.f5) [1, 1, 1, 1, 1, 1, 0, 1, 0, 0]) (cd (bd Tryd.f5) [1, 1, 1, 1, 1, 1, 0, 1, 0, 1]) (by kernel_rfl) ?_
        refine Ref.regionC 9 (by kernel_rfl) ?_
        refine RefR.ev0 (st' := ⟨[(0, .c (.str a0)), (9, .c (E31.tree r5.1)), (10, .c (errC r5.2)), (58, .c (errC r4.2))], [], [], 0⟩) 0 1 1 [0, 9, 10, 58] [] rfl (by kernel_rfl) ?_
        refine RefR.callC (t := 59) 1 2 [] rfl (by kernel_rfl) (F8_ok K r4.2) (fun r8 => ?_)
        refine RefR.ev0 (st' := ⟨[(0, .c (.str a0)), (9, .c (E31.tree r5.1)), (10, .c (errC r5.2)), (11, .c (.val (.int .i64 r8.1))), (12, .c (.val (.int .i64 r8.2)))], [], [], 0⟩) 2 5 7 [0, 9, 10, 11, 12] [] rfl (by kernel_rfl) ?_
        refine RefR.nilC 7 (by kernel_rfl) ?_
        refine Ref.seqC (cd (bd Tryd.f5) [1, 1, 1, 1, 1, 1, 0, 1, 0, 1, 0]) (cd (bd Tryd.f5) [1, 1, 1, 1, 1, 1, 0, 1, 0, 1, 1]) (by kernel_rfl) ?_
        refine Ref.regionC 10 (by kernel_rfl) ?_
        refine RefR.ev0 (st' := ⟨[(0, .c (.str a0)), (9, .c (E31.tree r5.1)), (11, .c (.val (.int .i64 r8.1))), (12, .c (.val (.int .i64 r8.2))), (63, .c (errC r5.2))], [], [], 0⟩) 0 1 1 [0, 9, 11, 12, 63] [] rfl (by kernel_rfl) ?_
        refine RefR.callC (t := 64) 1 2 [] rfl (by kernel_rfl) (F8_ok K r5.2) (fun r9 => ?_)
        refine RefR.ev0 (st' := ⟨[(0, .c (.str a0)), (9, .c (E31.tree r5.1)), (11, .c (.val (.int .i64 r8.1))), (12, .c (.val (.int .i64 r8.2))), (13, .c (.val (.int .i64 r9.1))), (14, .c (.val (.int .i64 r9.2)))], [], [], 0⟩) 2 5 7 [0, 9, 11, 12, 13, 14] [] rfl (by kernel_rfl) ?_
        refine RefR.nilC 7 (by kernel_rfl) ?_
        refine Ref.seqC (cd (bd Tryd.f5) [1, 1, 1, 1, 1, 1, 0, 1, 0, 1, 1, 0]) (cd (bd Tryd.f5) [1, 1, 1, 1, 1, 1, 0, 1, 0, 1, 1, 1]) (by kernel_rfl) ?_
        refine Ref.regionC 11 (by kernel_rfl) ?_
        refine RefR.ev0 (st' := ⟨[(88, .c (.val (.bool (((((r8.1 : Int) == r9.1) && ((r9.2 : Int) == (IntKind.i64.wrap ((IntKind.i64.wrap (r8.2 + (Int.ofNat a0.length))) + 1)))) || ((r9.1 : Int) == 5)) && (((Int.ofNat r5.1.length) : Int) == 0)))))], [], [], 0⟩) 0 22 22 [88] [] rfl (by kernel_rfl) ?_
        refine RefR.letC (stf := fun x10 => ⟨[(88, .c (.val (.bool x10)))], [], [], 0⟩) (by kernel_rfl) (fun x10 => ?_)
        refine RefR.lookC (t := 89) (g := [(88, true)]) (b := x10) 22 23 [] (default : Bool) rfl (by kernel_rfl) (F6_ok K) (fun _ => rfl) (fun r11 => ?_)
        refine RefR.ev0 (st' := ⟨[(4, .c (.val (.bool (x10 && r11))))], [], [], 0⟩) 23 2 25 [4] [] rfl (by kernel_rfl) ?_
        refine RefR.nilC 25 (by kernel_rfl) ?_
        exact Ref.retC (t := ((x10 && r11))) (by kernel_rfl) (by kernel_rfl)
      ·
        refine Ref.skipC (by kernel_rfl) ?_
        refine Ref.seqC (cd (bd Tryd.f5) [1, 1, 1, 1, 1, 1, 1, 0]) (cd (bd Tryd.f5) [1, 1, 1, 1, 1, 1, 1, 1]) (by kernel_rfl) ?_
        refine Ref.seqC (cd (bd Tryd.f5) [1, 1, 1, 1, 1, 1, 1, 0, 0]) (cd (bd Tryd.f5) [1, 1, 1, 1, 1, 1, 1, 0, 1]) (by kernel_rfl) ?_
        refine Ref.regionC 12 (by kernel_rfl) ?_
        refine RefR.ev0 (st' := ⟨[(0, .c (.str a0)), (5, .c (E31.tree r3.1)), (7, .c (E31.tree r4.1)), (9, .c (E31.tree r5.1)), (102, .c (.val (.bool ((!(!r5.2.isSome)) || (((Int.ofNat r5.1.length) : Int) != (IntKind.i64.wrap ((Int.ofNat r3.1.length) + (Int.ofNat r4.1.length))))))))], [], [], 0⟩) 0 12 12 [0, 5, 7, 9, 102] [] rfl (by kernel_rfl) ?_
        refine RefR.letC (stf := fun x12 => ⟨[(0, .c (.str a0)), (5, .c (E31.tree r3.1)), (7, .c (E31.tree r4.1)), (9, .c (E31.tree r5.1)), (102, .c (.val (.bool x12)))], [], [], 0⟩) (by kernel_rfl) (fun x12 => ?_)
        refine RefR.nilC 12 (by kernel_rfl) ?_
        refine Ref.condC (.tmp 102) x12 (by kernel_rfl) rfl (by kernel_rfl) (fun hc => ?_) (fun hc => ?_)
        ·
          refine Ref.seqC (cd (bd Tryd.f5) [1, 1, 1, 1, 1, 1, 1, 0, 1, 0, 0]) (cd (bd Tryd.f5) [1, 1, 1, 1, 1, 1, 1, 0, 1, 0, 1]) (by kernel_rfl) ?_
          refine Ref.regionC 13 (by kernel_rfl) ?_
          refine RefR.ev0 (st' := ⟨[(4, .c (.val (.bool false)))], [], [], 0⟩) 0 1 1 [4] [] rfl (by kernel_rfl) ?_
          refine RefR.nilC 1 (by kernel_rfl) ?_
          exact Ref.retC (t := (false)) (by kernel_rfl) (by kernel_rfl)
        ·
          refine Ref.skipC (by kernel_rfl) ?_
          refine Ref.seqC (cd (bd Tryd.f5) [1, 1, 1, 1, 1, 1, 1, 1, 0]) (cd (bd Tryd.f5) [1, 1, 1, 1, 1, 1, 1, 1, 1]) (by kernel_rfl) ?_
          refine Ref.seqC (cd (bd Tryd.f5) [1, 1, 1, 1, 1, 1, 1, 1, 0, 0]) (cd (bd Tryd.f5) [1, 1, 1, 1, 1, 1, 1, 1, 0, 1]) (by kernel_rfl) ?_
          refine Ref.regionC 14 (by kernel_rfl) ?_
          refine RefR.ev0 (st' := ⟨[(0, .c (.str a0)), (5, .c (E31.tree r3.1)), (7, .c (E31.tree r4.1)), (9, .c (E31.tree r5.1)), (15, .c (.val (.int .i64 0)))], [], [], 0⟩) 0 1 1 [0, 5, 7, 9, 15] [] rfl (by kernel_rfl) ?_
          refine RefR.nilC 1 (by kernel_rfl) ?_
          refine Ref.codeEq (c' := .block 0 (cd (bd Tryd.f5) [1, 1, 1, 1, 1, 1, 1, 1, 0, 1, 0])) (by kernel_rfl) ?_
          refine Ref.block (go1 := fun u28 => ⟨[(5, .c (E31.tree r3.1)), (9, .c (E31.tree r5.1))], [], [], 0⟩) ?_ (fun _ h => by cases h) (fun u28 => ?_)
          ·
            refine Ref.codeEq (c' := .loop (cd (bd Tryd.f5) [1, 1, 1, 1, 1, 1, 1, 1, 0, 1, 0, 0])) (by kernel_rfl) ?_
            refine Ref.loop (hd := fun u34 => ⟨[(0, .c (.str a0)), (5, .c (E31.tree r3.1)), (7, .c (E31.tree r4.1)), (9, .c (E31.tree r5.1)), (15, .c (.val (.int .i64 u34)))], [], [], 0⟩) K (0) (by kernel_rfl) (fun u34 => ?_)
            refine Ref.seqC (cd (bd Tryd.f5) [1, 1, 1, 1, 1, 1, 1, 1, 0, 1, 0, 0, 0]) (cd (bd Tryd.f5) [1, 1, 1, 1, 1, 1, 1, 1, 0, 1, 0, 0, 1]) (by kernel_rfl) ?_
            refine Ref.seqC (cd (bd Tryd.f5) [1, 1, 1, 1, 1, 1, 1, 1, 0, 1, 0, 0, 0, 0]) (cd (bd Tryd.f5) [1, 1, 1, 1, 1, 1, 1, 1, 0, 1, 0, 0, 0, 1]) (by kernel_rfl) ?_
            refine Ref.regionC 15 (by kernel_rfl) ?_
            refine RefR.ev0 (st' := ⟨[(0, .c (.str a0)), (5, .c (E31.tree r3.1)), (7, .c (E31.tree r4.1)), (9, .c (E31.tree r5.1)), (15, .c (.val (.int .i64 u34))), (106, .c (.val (.bool (decide ((u34 : Int) < (Int.ofNat r4.1.length))))))], [], [], 0⟩) 0 4 4 [0, 5, 7, 9, 15, 106] [] rfl (by kernel_rfl) ?_
            refine RefR.letC (stf := fun x40 => ⟨[(0, .c (.str a0)), (5, .c (E31.tree r3.1)), (7, .c (E31.tree r4.1)), (9, .c (E31.tree r5.1)), (15, .c (.val (.int .i64 u34))), (106, .c (.val (.bool x40)))], [], [], 0⟩) (by kernel_rfl) (fun x40 => ?_)
            refine RefR.nilC 4 (by kernel_rfl) ?_
            refine Ref.condC (.tmp 106) x40 (by kernel_rfl) rfl (by kernel_rfl) (fun hc => ?_) (fun hc => ?_)
            ·
              refine Ref.skipC (by kernel_rfl) ?_
              refine Ref.seqC (cd (bd Tryd.f5) [1, 1, 1, 1, 1, 1, 1, 1, 0, 1, 0, 0, 1, 0]) (cd (bd Tryd.f5) [1, 1, 1, 1, 1, 1, 1, 1, 0, 1, 0, 0, 1, 1]) (by kernel_rfl) ?_
              refine Ref.codeEq (c' := .block 1 (cd (bd Tryd.f5) [1, 1, 1, 1, 1, 1, 1, 1, 0, 1, 0, 0, 1, 0, 0])) (by kernel_rfl) ?_
              refine Ref.block (go1 := fun u42 => ⟨[(0, .c (.str a0)), (5, .c (E31.tree r3.1)), (7, .c (E31.tree r4.1)), (9, .c (E31.tree r5.1)), (15, .c (.val (.int .i64 u34)))], [], [], 0⟩) ?_ (fun a => match a with | .inl _ => (fun h => by cases h) | .inr _ => (fun h => by cases h)) (fun u42 => ?_)
              ·
                refine Ref.seqC (cd (bd Tryd.f5) [1, 1, 1, 1, 1, 1, 1, 1, 0, 1, 0, 0, 1, 0, 0, 0]) (cd (bd Tryd.f5) [1, 1, 1, 1, 1, 1, 1, 1, 0, 1, 0, 0, 1, 0, 0, 1]) (by kernel_rfl) ?_
                refine Ref.regionC 17 (by kernel_rfl) ?_
                refine RefR.evC (vs := [inb u34 r4.1.length]) (st' := ⟨[(0, .c (.str a0)), (5, .c (E31.tree r3.1)), (7, .c (E31.tree r4.1)), (9, .c (E31.tree r5.1)), (15, .c (.val (.int .i64 u34))), (16, .c (.ptr 0 0 0))], [.cells (E31.cs (r4.1.getD (u34 : Int).toNat default))], [], 0⟩) 0 6 6 [0, 5, 7, 9, 15, 16] [0] rfl (by kernel_rfl) ?_
                refine RefR.nilC 6 (by kernel_rfl) ?_
                refine Ref.seqC (cd (bd Tryd.f5) [1, 1, 1, 1, 1, 1, 1, 1, 0, 1, 0, 0, 1, 0, 0, 1, 0]) (cd (bd Tryd.f5) [1, 1, 1, 1, 1, 1, 1, 1, 0, 1, 0, 0, 1, 0, 0, 1, 1]) (by kernel_rfl) ?_
                refine Ref.regionC 18 (by kernel_rfl) ?_
                refine RefR.ev0 (st' := ⟨[(0, .c (.str a0)), (5, .c (E31.tree r3.1)), (7, .c (E31.tree r4.1)), (9, .c (E31.tree r5.1)), (15, .c (.val (.int .i64 u34))), (16, .c (.ptr 0 0 0))], [.cells [.val (.int .i64 ((r4.1.getD (u34 : Int).toNat default).fKind)), .str ((r4.1.getD (u34 : Int).toNat default).fText), .val (.int .i64 ((r4.1.getD (u34 : Int).toNat default).fN)), .val (.int .i64 (IntKind.i64.wrap ((IntKind.i64.wrap (((r4.1.getD (u34 : Int).toNat default).fAt) + (Int.ofNat a0.length))) + 1)))]], [], 0⟩) 0 8 8 [0, 5, 7, 9, 15, 16] [0] rfl (by kernel_rfl) ?_
                refine RefR.nilC 8 (by kernel_rfl) ?_
                refine Ref.seqC (cd (bd Tryd.f5) [1, 1, 1, 1, 1, 1, 1, 1, 0, 1, 0, 0, 1, 0, 0, 1, 1, 0]) (cd (bd Tryd.f5) [1, 1, 1, 1, 1, 1, 1, 1, 0, 1, 0, 0, 1, 0, 0, 1, 1, 1]) (by kernel_rfl) ?_
                refine Ref.drawnY 19 (by kernel_rfl) (by kernel_rfl) ?_
                refine RefY.evC (vs := [inb (IntKind.i64.wrap ((Int.ofNat r3.1.length) + u34)) r5.1.length]) (st' := ⟨[(0, .c (.str a0)), (5, .c (E31.tree r3.1)), (7, .c (E31.tree r4.1)), (9, .c (E31.tree r5.1)), (15, .c (.val (.int .i64 u34))), (16, .c (.ptr 0 0 0)), (125, .c (E31.ep (r5.1.getD ((IntKind.i64.wrap ((Int.ofNat r3.1.length) + u34)) : Int).toNat default) 0))], [.cells [.val (.int .i64 ((r4.1.getD (u34 : Int).toNat default).fKind)), .str ((r4.1.getD (u34 : Int).toNat default).fText), .val (.int .i64 ((r4.1.getD (u34 : Int).toNat default).fN)), .val (.int .i64 (IntKind.i64.wrap ((IntKind.i64.wrap (((r4.1.getD (u34 : Int).toNat default).fAt) + (Int.ofNat a0.length))) + 1)))]], [], 0⟩) (fuel' := 3) [0, 1, 2, 3, 4, 5] [0, 5, 7, 9, 15, 16, 125] [0] rfl (by kernel_rfl) (by kernel_rfl) ?_
                refine RefY.toX [] ?_
                refine RefX.evC0 (st' := ⟨[(0, .c (.str a0)), (5, .c (E31.tree r3.1)), (7, .c (E31.tree r4.1)), (9, .c (E31.tree r5.1)), (15, .c (.val (.int .i64 u34))), (128, .c (.val (.bool (!((((r5.1.getD ((IntKind.i64.wrap ((Int.ofNat r3.1.length) + u34)) : Int).toNat default).fKind : Int) == ((r4.1.getD (u34 : Int).toNat default).fKind)) && ((((r5.1.getD ((IntKind.i64.wrap ((Int.ofNat r3.1.length) + u34)) : Int).toNat default).fText) == ((r4.1.getD (u34 : Int).toNat default).fText)) && ((((r5.1.getD ((IntKind.i64.wrap ((Int.ofNat r3.1.length) + u34)) : Int).toNat default).fN : Int) == ((r4.1.getD (u34 : Int).toNat default).fN)) && ((((r5.1.getD ((IntKind.i64.wrap ((Int.ofNat r3.1.length) + u34)) : Int).toNat default).fAt : Int) == (IntKind.i64.wrap ((IntKind.i64.wrap (((r4.1.getD (u34 : Int).toNat default).fAt) + (Int.ofNat a0.length))) + 1))) && true))))))))], [], [], 0⟩) (fuel' := 0) [6, 7, 8] [0, 5, 7, 9, 15, 128] [] rfl (by kernel_rfl) (by kernel_rfl) ?_
                refine RefX.letC (stf := fun x43 => ⟨[(0, .c (.str a0)), (5, .c (E31.tree r3.1)), (7, .c (E31.tree r4.1)), (9, .c (E31.tree r5.1)), (15, .c (.val (.int .i64 u34))), (128, .c (.val (.bool x43)))], [], [], 0⟩) (by kernel_rfl) (fun x43 => ?_)
                refine RefX.done (by kernel_rfl) ?_
                refine Ref.condC (.tmp 128) x43 (by kernel_rfl) rfl (by kernel_rfl) (fun hc => ?_) (fun hc => ?_)
                ·
                  refine Ref.seqC (cd (bd Tryd.f5) [1, 1, 1, 1, 1, 1, 1, 1, 0, 1, 0, 0, 1, 0, 0, 1, 1, 1, 0, 0]) (cd (bd Tryd.f5) [1, 1, 1, 1, 1, 1, 1, 1, 0, 1, 0, 0, 1, 0, 0, 1, 1, 1, 0, 1]) (by kernel_rfl) ?_
                  refine Ref.regionC 20 (by kernel_rfl) ?_
                  refine RefR.ev0 (st' := ⟨[(4, .c (.val (.bool false)))], [], [], 0⟩) 0 1 1 [4] [] rfl (by kernel_rfl) ?_
                  refine RefR.nilC 1 (by kernel_rfl) ?_
                  exact Ref.retC (t := (Sum.inr (Sum.inr (false)))) (by kernel_rfl) (by kernel_rfl)
                ·
                  refine Ref.skipC (by kernel_rfl) ?_
                  refine Ref.conv (Conv.keep (st' := ⟨[(0, .c (.str a0)), (5, .c (E31.tree r3.1)), (7, .c (E31.tree r4.1)), (9, .c (E31.tree r5.1)), (15, .c (.val (.int .i64 u34)))], [], [], 0⟩) [0, 5, 7, 9, 15] [] (by kernel_rfl)) ?_
                  exact Ref.nil (t := ()) (by kernel_rfl)
              ·
                refine Ref.regionC 16 (by kernel_rfl) ?_
                refine RefR.ev0 (st' := ⟨[(0, .c (.str a0)), (5, .c (E31.tree r3.1)), (7, .c (E31.tree r4.1)), (9, .c (E31.tree r5.1)), (15, .c (.val (.int .i64 (IntKind.i64.wrap (u34 + 1)))))], [], [], 0⟩) 0 3 3 [0, 5, 7, 9, 15] [] rfl (by kernel_rfl) ?_
                refine RefR.nilC 3 (by kernel_rfl) ?_
                exact Ref.nil (t := ((IntKind.i64.wrap (u34 + 1)))) (by kernel_rfl)
            ·
              refine Ref.conv (Conv.keep (st' := ⟨[(5, .c (E31.tree r3.1)), (9, .c (E31.tree r5.1))], [], [], 0⟩) [5, 9] [] (by kernel_rfl)) ?_
              exact Ref.exitC 0 (t := (Sum.inl ())) (by kernel_rfl) (by kernel_rfl)
          ·
            refine Ref.seqC (cd (bd Tryd.f5) [1, 1, 1, 1, 1, 1, 1, 1, 1, 0]) (cd (bd Tryd.f5) [1, 1, 1, 1, 1, 1, 1, 1, 1, 1]) (by kernel_rfl) ?_
            refine Ref.regionC 21 (by kernel_rfl) ?_
            refine RefR.evH (vs := [bndOk r5.1.length 0 (Int.ofNat r3.1.length)]) (st' := ⟨[(5, .c (E31.tree r3.1)), (132, .c (.tree E31.w (((Int.ofNat r3.1.length) : Int).toNat - (0 : Int).toNat) fun i j => E31.at r5.1 ((0 : Int).toNat + i) j))], [], [], 0⟩) 0 4 4 [5, 132] [] rfl (by kernel_rfl) (fun hv => ?_)
            refine RefR.conv (Conv.slot 132 (.c (E31.tree ((r5.1.drop (0 : Int).toNat).take (((Int.ofNat r3.1.length) : Int).toNat - (0 : Int).toNat)))) (DLe.c (El.tree_slice E31 _ (bndOk_le (hv _ (List.Mem.head _))))) (by kernel_rfl)) ?_
            refine RefR.letC (stf := fun x44 => ⟨[(132, .c (E31.tree x44)), (5, .c (E31.tree r3.1))], [], [], 0⟩) (by kernel_rfl) (fun x44 => ?_)
            refine RefR.ev0 (st' := ⟨[(132, .c (E31.tree x44)), (133, .c (E31.tree r3.1))], [], [], 0⟩) 4 1 5 [132, 133] [] rfl (by kernel_rfl) ?_
            refine RefR.callC (t := 134) 5 6 [] rfl (by kernel_rfl) (F11_ok K x44 r3.1) (fun r45 => ?_)
            refine RefR.ev0 (st' := ⟨[(135, .c (.val (.bool r45)))], [], [], 0⟩) 6 1 7 [135] [] rfl (by kernel_rfl) ?_
            refine RefR.lookC (t := 136) (g := [(135, true)]) (b := r45) 7 8 [] (default : Bool) rfl (by kernel_rfl) (F6_ok K) (fun _ => rfl) (fun r46 => ?_)
            refine RefR.ev0 (st' := ⟨[(4, .c (.val (.bool (r45 && r46))))], [], [], 0⟩) 8 2 10 [4] [] rfl (by kernel_rfl) ?_
            refine RefR.nilC 10 (by kernel_rfl) ?_
            exact Ref.retC (t := ((r45 && r46))) (by kernel_rfl) (by kernel_rfl)

end Go.Proofs.YtnneapbegnmncaaDoor
