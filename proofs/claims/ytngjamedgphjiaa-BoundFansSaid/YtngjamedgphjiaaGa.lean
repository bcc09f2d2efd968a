/- Plain functions, and that the Go functions do what these do: printed by gen2.py. No conditions. -/
import Derived.Test.YtngjamedgphjiaaTy
import Derived.Test.YtngjamedgphjiaaProg
set_option linter.unusedVariables false
set_option linter.unusedSimpArgs false
set_option linter.unusedSectionVars false
namespace Go.Proofs.Ytngjamedgphjiaa
open Go Go.Proofs Go.Dl
variable [WInv]
set_option maxRecDepth 100000
set_option maxHeartbeats 4000000
def F15 (K : Nat) (a0 : S38) : Option ((Int) ⊕ (Int)) :=
  (letV (IntKind.i64.wrap ((IntKind.i64.wrap ((Int.ofNat a0.fParams.length) + (Int.ofNat a0.fLocals.length))) + a0.fStack)) (fun (x1 : Int) => (some (.inl (x1)))))
theorem F15_ok (K : Nat) (a0 : S38) : DFun Try.prog 15 [.agg (E38.cs a0)] [] (fnS (F15 K a0)) (fun r => .c (.val (.int .i64 r))) (fun r => []) := by
  refine DFun.intro (fn := Try.f15) (c := cd (bd Try.f15) []) (rs := fun r => ⟨[(2, .c (.val (.int .i64 r)))], [], [], 0⟩) (by kernel_rfl) (by kernel_rfl) (by kernel_rfl) ?_ (fun r => by kernel_rfl) (fun r => by kernel_rfl) (fun r => by kernel_rfl) (fun r => by kernel_rfl)
  unfold F15
  refine Ref.seqC (cd (bd Try.f15) [0]) (cd (bd Try.f15) [1]) (by kernel_rfl) ?_
  refine Ref.regionC 0 (by kernel_rfl) ?_
  refine RefR.ev0 (st' := ⟨[(1, .c (.ptr 0 0 0))], [.cells (E38.cs a0)], [], 0⟩) 0 2 2 [1] [0] rfl (by kernel_rfl) ?_
  refine RefR.nilC 2 (by kernel_rfl) ?_
  refine Ref.seqC (cd (bd Try.f15) [1, 0]) (cd (bd Try.f15) [1, 1]) (by kernel_rfl) ?_
  refine Ref.regionC 1 (by kernel_rfl) ?_
  refine RefR.ev0 (st' := ⟨[(2, .c (.val (.int .i64 (IntKind.i64.wrap ((IntKind.i64.wrap ((Int.ofNat a0.fParams.length) + (Int.ofNat a0.fLocals.length))) + a0.fStack)))))], [], [], 0⟩) 0 11 11 [2] [] rfl (by kernel_rfl) ?_
  refine RefR.letC (stf := fun x1 => ⟨[(2, .c (.val (.int .i64 x1)))], [], [], 0⟩) (by kernel_rfl) (fun x1 => ?_)
  refine RefR.nilC 11 (by kernel_rfl) ?_
  exact Ref.retC (t := (x1)) (by kernel_rfl) (by kernel_rfl)
def F17 (K : Nat) (a0 : (List Int)) (a1 : Int) : Option (((List Int)) ⊕ ((List Int))) :=
  (letV ((decide ((a1 : Int) < 0)) || (decide ((a1 : Int) ≥ (Int.ofNat a0.length)))) (fun (x1 : Bool) => (if x1 = true then (some (.inl ([]))) else (chk [bndOk a0.length a1 (IntKind.i64.wrap (a1 + 1))] (letV ((a0.drop (a1 : Int).toNat).take (((IntKind.i64.wrap (a1 + 1)) : Int).toNat - (a1 : Int).toNat)) (fun (x2 : (List Int)) => (some (.inl (x2)))))))))
theorem F17_ok (K : Nat) (a0 : (List Int)) (a1 : Int) : DFun Try.prog 17 [.c (E3.tree a0), .c (.val (.int .i64 a1))] [] (fnS (F17 K a0 a1)) (fun r => .c (E3.tree r)) (fun r => []) := by
  refine DFun.intro (fn := Try.f17) (c := cd (bd Try.f17) []) (rs := fun r => ⟨[(4, .c (E3.tree r))], [], [], 0⟩) (by kernel_rfl) (by kernel_rfl) (by kernel_rfl) ?_ (fun r => by kernel_rfl) (fun r => by kernel_rfl) (fun r => by kernel_rfl) (fun r => by kernel_rfl)
  unfold F17
  refine Ref.seqC (cd (bd Try.f17) [0]) (cd (bd Try.f17) [1]) (by kernel_rfl) ?_
  refine Ref.regionC 0 (by kernel_rfl) ?_
  refine RefR.ev0 (st' := ⟨[(0, .c (E3.tree a0)), (1, .c (.val (.int .i64 a1)))], [], [], 0⟩) 0 1 1 [0, 1] [] rfl (by kernel_rfl) ?_
  refine RefR.nilC 1 (by kernel_rfl) ?_
  refine Ref.seqC (cd (bd Try.f17) [1, 0]) (cd (bd Try.f17) [1, 1]) (by kernel_rfl) ?_
  refine Ref.seqC (cd (bd Try.f17) [1, 0, 0]) (cd (bd Try.f17) [1, 0, 1]) (by kernel_rfl) ?_
  refine Ref.regionC 1 (by kernel_rfl) ?_
  refine RefR.ev0 (st' := ⟨[(0, .c (E3.tree a0)), (1, .c (.val (.int .i64 a1))), (12, .c (.val (.bool ((decide ((a1 : Int) < 0)) || (decide ((a1 : Int) ≥ (Int.ofNat a0.length)))))))], [], [], 0⟩) 0 8 8 [0, 1, 12] [] rfl (by kernel_rfl) ?_
  refine RefR.letC (stf := fun x1 => ⟨[(0, .c (E3.tree a0)), (1, .c (.val (.int .i64 a1))), (12, .c (.val (.bool x1)))], [], [], 0⟩) (by kernel_rfl) (fun x1 => ?_)
  refine RefR.nilC 8 (by kernel_rfl) ?_
  refine Ref.condC (.tmp 12) x1 (by kernel_rfl) rfl (by kernel_rfl) (fun hc => ?_) (fun hc => ?_)
  ·
    refine Ref.seqC (cd (bd Try.f17) [1, 0, 1, 0, 0]) (cd (bd Try.f17) [1, 0, 1, 0, 1]) (by kernel_rfl) ?_
    refine Ref.regionC 2 (by kernel_rfl) ?_
    refine RefR.ev0 (st' := ⟨[(4, .c (.nil))], [], [], 0⟩) 0 1 1 [4] [] rfl (by kernel_rfl) ?_
    refine RefR.nilC 1 (by kernel_rfl) ?_
    refine Ref.conv (Conv.slot 4 (.c (E3.tree [])) (DLe.c (El.tree_nil E3)) (by kernel_rfl)) ?_
    exact Ref.retC (t := ([])) (by kernel_rfl) (by kernel_rfl)
  ·
    refine Ref.skipC (by kernel_rfl) ?_
    refine Ref.seqC (cd (bd Try.f17) [1, 1, 0]) (cd (bd Try.f17) [1, 1, 1]) (by kernel_rfl) ?_
    refine Ref.regionC 3 (by kernel_rfl) ?_
    refine RefR.evH (vs := [bndOk a0.length a1 (IntKind.i64.wrap (a1 + 1))]) (st' := ⟨[(17, .c (.tree E3.w (((IntKind.i64.wrap (a1 + 1)) : Int).toNat - (a1 : Int).toNat) fun i j => E3.at a0 ((a1 : Int).toNat + i) j))], [], [], 0⟩) 0 5 5 [17] [] rfl (by kernel_rfl) (fun hv => ?_)
    refine RefR.conv (Conv.slot 17 (.c (E3.tree ((a0.drop (a1 : Int).toNat).take (((IntKind.i64.wrap (a1 + 1)) : Int).toNat - (a1 : Int).toNat)))) (DLe.c (El.tree_slice E3 _ (bndOk_le (hv _ (List.Mem.head _))))) (by kernel_rfl)) ?_
    refine RefR.letC (stf := fun x2 => ⟨[(17, .c (E3.tree x2))], [], [], 0⟩) (by kernel_rfl) (fun x2 => ?_)
    refine RefR.ev0 (st' := ⟨[(4, .c (E3.tree x2))], [], [], 0⟩) 5 1 6 [4] [] rfl (by kernel_rfl) ?_
    refine RefR.nilC 6 (by kernel_rfl) ?_
    exact Ref.retC (t := (x2)) (by kernel_rfl) (by kernel_rfl)
def F12 (K : Nat) (a0 : Int) (a1 : S35) : Option ((Bool) ⊕ (Bool)) :=
  (letV ((decide ((a0 : Int) < 0)) || (decide ((a0 : Int) ≥ (Int.ofNat a1.fCodes.length)))) (fun (x1 : Bool) => (some (.inl (x1)))))
theorem F12_ok (K : Nat) (a0 : Int) (a1 : S35) : DFun Try.prog 12 [.c (.val (.int .i64 a0)), .c (E35.ep a1 0)] [] (fnS (F12 K a0 a1)) (fun r => .c (.val (.bool r))) (fun r => []) := by
  refine DFun.intro (fn := Try.f12) (c := cd (bd Try.f12) []) (rs := fun r => ⟨[(3, .c (.val (.bool r)))], [], [], 0⟩) (by kernel_rfl) (by kernel_rfl) (by kernel_rfl) ?_ (fun r => by kernel_rfl) (fun r => by kernel_rfl) (fun r => by kernel_rfl) (fun r => by kernel_rfl)
  unfold F12
  refine Ref.seqC (cd (bd Try.f12) [0]) (cd (bd Try.f12) [1]) (by kernel_rfl) ?_
  refine Ref.regionC 0 (by kernel_rfl) ?_
  refine RefR.ev0 (st' := ⟨[(0, .c (.val (.int .i64 a0))), (1, .c (E35.ep a1 0))], [], [], 0⟩) 0 1 1 [0, 1] [] rfl (by kernel_rfl) ?_
  refine RefR.nilC 1 (by kernel_rfl) ?_
  refine Ref.seqC (cd (bd Try.f12) [1, 0]) (cd (bd Try.f12) [1, 1]) (by kernel_rfl) ?_
  refine Ref.regionC 1 (by kernel_rfl) ?_
  refine RefR.ev0 (st' := ⟨[(3, .c (.val (.bool ((decide ((a0 : Int) < 0)) || (decide ((a0 : Int) ≥ (Int.ofNat a1.fCodes.length)))))))], [], [], 0⟩) 0 10 10 [3] [] rfl (by kernel_rfl) ?_
  refine RefR.letC (stf := fun x1 => ⟨[(3, .c (.val (.bool x1)))], [], [], 0⟩) (by kernel_rfl) (fun x1 => ?_)
  refine RefR.nilC 10 (by kernel_rfl) ?_
  exact Ref.retC (t := (x1)) (by kernel_rfl) (by kernel_rfl)
def F18f12 (K : Nat) (a0 : (List Int)) (a1c0 : S35) : Option ((Int) ⊕ (Int)) :=
  (bindS (blockS ((iter K (fun (u20 : Int) => (letV (decide ((u20 : Int) < (Int.ofNat a0.length))) (fun (x26 : Bool) => (if x26 = true then (bindS (blockS (chk [inb u20 a0.length] ((fnS (F12 K (a0.getD (u20 : Int).toNat default) a1c0)).bind (fun r29 => (if r29 = true then (some (.inl (Sum.inr (Sum.inr (u20))))) else (some (.inr ()))))))) (fun (u28 : Unit) => (some (.inr ((IntKind.i64.wrap (u20 + 1))))))) else (some (.inl (Sum.inl ()))))))) (0)).map .inl)) (fun (u15 : Unit) => (some (.inl ((-1))))))
theorem F18f12_ok (K : Nat) (a0 : (List Int)) (a1c0 : S35) : DFun Try.prog 18 [.c (E3.tree a0), .c (.func (.func 12) 1 (fun i => ([E35.ep a1c0 0] : List C).getD i .bot))] [] (fnS (F18f12 K a0 a1c0)) (fun r => .c (.val (.int .i64 r))) (fun r => []) := by
  refine DFun.intro (fn := Try.f18) (c := cd (bd Try.f18) []) (rs := fun r => ⟨[(4, .c (.val (.int .i64 r)))], [], [], 0⟩) (by kernel_rfl) (by kernel_rfl) (by kernel_rfl) ?_ (fun r => by kernel_rfl) (fun r => by kernel_rfl) (fun r => by kernel_rfl) (fun r => by kernel_rfl)
  unfold F18f12
  refine Ref.seqC (cd (bd Try.f18) [0]) (cd (bd Try.f18) [1]) (by kernel_rfl) ?_
  refine Ref.regionC 0 (by kernel_rfl) ?_
  refine RefR.ev0 (st' := ⟨[(0, .c (E3.tree a0)), (1, .c (.func (.func 12) 1 (fun i => ([E35.ep a1c0 0] : List C).getD i .bot)))], [], [], 0⟩) 0 1 1 [0, 1] [] rfl (by kernel_rfl) ?_
  refine RefR.nilC 1 (by kernel_rfl) ?_
  refine Ref.seqC (cd (bd Try.f18) [1, 0]) (cd (bd Try.f18) [1, 1]) (by kernel_rfl) ?_
  refine Ref.seqC (cd (bd Try.f18) [1, 0, 0]) (cd (bd Try.f18) [1, 0, 1]) (by kernel_rfl) ?_
  refine Ref.regionC 1 (by kernel_rfl) ?_
  refine RefR.ev0 (st' := ⟨[(0, .c (E3.tree a0)), (1, .c (.func (.func 12) 1 (fun i => ([E35.ep a1c0 0] : List C).getD i .bot))), (7, .c (.val (.int .i64 (Int.ofNat a0.length)))), (8, .c (.val (.int .i64 0)))], [], [], 0⟩) 0 3 3 [0, 1, 7, 8] [] rfl (by kernel_rfl) ?_
  refine RefR.nilC 3 (by kernel_rfl) ?_
  refine Ref.codeEq (c' := .block 0 (cd (bd Try.f18) [1, 0, 1, 0])) (by kernel_rfl) ?_
  refine Ref.block (go1 := fun u15 => ⟨[], [], [], 0⟩) ?_ (fun _ h => by cases h) (fun u15 => ?_)
  ·
    refine Ref.codeEq (c' := .loop (cd (bd Try.f18) [1, 0, 1, 0, 0])) (by kernel_rfl) ?_
    refine Ref.loop (hd := fun u20 => ⟨[(0, .c (E3.tree a0)), (1, .c (.func (.func 12) 1 (fun i => ([E35.ep a1c0 0] : List C).getD i .bot))), (7, .c (.val (.int .i64 (Int.ofNat a0.length)))), (8, .c (.val (.int .i64 u20)))], [], [], 0⟩) K (0) (by kernel_rfl) (fun u20 => ?_)
    refine Ref.seqC (cd (bd Try.f18) [1, 0, 1, 0, 0, 0]) (cd (bd Try.f18) [1, 0, 1, 0, 0, 1]) (by kernel_rfl) ?_
    refine Ref.regionC 2 (by kernel_rfl) ?_
    refine RefR.ev0 (st' := ⟨[(0, .c (E3.tree a0)), (1, .c (.func (.func 12) 1 (fun i => ([E35.ep a1c0 0] : List C).getD i .bot))), (7, .c (.val (.int .i64 (Int.ofNat a0.length)))), (8, .c (.val (.int .i64 u20))), (9, .c (.val (.bool (decide ((u20 : Int) < (Int.ofNat a0.length))))))], [], [], 0⟩) 0 1 1 [0, 1, 7, 8, 9] [] rfl (by kernel_rfl) ?_
    refine RefR.letC (stf := fun x26 => ⟨[(0, .c (E3.tree a0)), (1, .c (.func (.func 12) 1 (fun i => ([E35.ep a1c0 0] : List C).getD i .bot))), (7, .c (.val (.int .i64 (Int.ofNat a0.length)))), (8, .c (.val (.int .i64 u20))), (9, .c (.val (.bool x26)))], [], [], 0⟩) (by kernel_rfl) (fun x26 => ?_)
    refine RefR.nilC 1 (by kernel_rfl) ?_
    refine Ref.seqC (cd (bd Try.f18) [1, 0, 1, 0, 0, 1, 0]) (cd (bd Try.f18) [1, 0, 1, 0, 0, 1, 1]) (by kernel_rfl) ?_
    refine Ref.condC (.tmp 9) x26 (by kernel_rfl) rfl (by kernel_rfl) (fun hc => ?_) (fun hc => ?_)
    ·
      refine Ref.skipC (by kernel_rfl) ?_
      refine Ref.seqC (cd (bd Try.f18) [1, 0, 1, 0, 0, 1, 1, 0]) (cd (bd Try.f18) [1, 0, 1, 0, 0, 1, 1, 1]) (by kernel_rfl) ?_
      refine Ref.codeEq (c' := .block 1 (cd (bd Try.f18) [1, 0, 1, 0, 0, 1, 1, 0, 0])) (by kernel_rfl) ?_
      refine Ref.block (go1 := fun u28 => ⟨[(0, .c (E3.tree a0)), (1, .c (.func (.func 12) 1 (fun i => ([E35.ep a1c0 0] : List C).getD i .bot))), (7, .c (.val (.int .i64 (Int.ofNat a0.length)))), (8, .c (.val (.int .i64 u20)))], [], [], 0⟩) ?_ (fun a => match a with | .inl _ => (fun h => by cases h) | .inr _ => (fun h => by cases h)) (fun u28 => ?_)
      ·
        refine Ref.seqC (cd (bd Try.f18) [1, 0, 1, 0, 0, 1, 1, 0, 0, 0]) (cd (bd Try.f18) [1, 0, 1, 0, 0, 1, 1, 0, 0, 1]) (by kernel_rfl) ?_
        refine Ref.regionC 3 (by kernel_rfl) ?_
        refine RefR.ev0 (st' := ⟨[(0, .c (E3.tree a0)), (1, .c (.func (.func 12) 1 (fun i => ([E35.ep a1c0 0] : List C).getD i .bot))), (5, .c (.val (.int .i64 u20))), (7, .c (.val (.int .i64 (Int.ofNat a0.length)))), (8, .c (.val (.int .i64 u20)))], [], [], 0⟩) 0 2 2 [0, 1, 5, 7, 8] [] rfl (by kernel_rfl) ?_
        refine RefR.nilC 2 (by kernel_rfl) ?_
        refine Ref.seqC (cd (bd Try.f18) [1, 0, 1, 0, 0, 1, 1, 0, 0, 1, 0]) (cd (bd Try.f18) [1, 0, 1, 0, 0, 1, 1, 0, 0, 1, 1]) (by kernel_rfl) ?_
        refine Ref.regionC 4 (by kernel_rfl) ?_
        refine RefR.evC (vs := [inb u20 a0.length]) (st' := ⟨[(0, .c (E3.tree a0)), (1, .c (.func (.func 12) 1 (fun i => ([E35.ep a1c0 0] : List C).getD i .bot))), (5, .c (.val (.int .i64 u20))), (7, .c (.val (.int .i64 (Int.ofNat a0.length)))), (8, .c (.val (.int .i64 u20))), (11, .c (.func (.func 12) 1 (fun i => ([E35.ep a1c0 0] : List C).getD i .bot))), (15, .c (.val (.int .i64 (a0.getD (u20 : Int).toNat default))))], [], [], 0⟩) 0 5 5 [0, 1, 5, 7, 8, 11, 15] [] rfl (by kernel_rfl) ?_
        refine RefR.callC (t := 16) 5 6 [] rfl (by kernel_rfl) (F12_ok K (a0.getD (u20 : Int).toNat default) a1c0) (fun r29 => ?_)
        refine RefR.nilC 6 (by kernel_rfl) ?_
        refine Ref.condC (.tmp 16) r29 (by kernel_rfl) rfl (by kernel_rfl) (fun hc => ?_) (fun hc => ?_)
        ·
          refine Ref.seqC (cd (bd Try.f18) [1, 0, 1, 0, 0, 1, 1, 0, 0, 1, 1, 0, 0]) (cd (bd Try.f18) [1, 0, 1, 0, 0, 1, 1, 0, 0, 1, 1, 0, 1]) (by kernel_rfl) ?_
          refine Ref.regionC 5 (by kernel_rfl) ?_
          refine RefR.ev0 (st' := ⟨[(4, .c (.val (.int .i64 u20)))], [], [], 0⟩) 0 2 2 [4] [] rfl (by kernel_rfl) ?_
          refine RefR.nilC 2 (by kernel_rfl) ?_
          exact Ref.retC (t := (Sum.inr (Sum.inr (u20)))) (by kernel_rfl) (by kernel_rfl)
        ·
          refine Ref.skipC (by kernel_rfl) ?_
          refine Ref.conv (Conv.keep (st' := ⟨[(0, .c (E3.tree a0)), (1, .c (.func (.func 12) 1 (fun i => ([E35.ep a1c0 0] : List C).getD i .bot))), (7, .c (.val (.int .i64 (Int.ofNat a0.length)))), (8, .c (.val (.int .i64 u20)))], [], [], 0⟩) [0, 1, 7, 8] [] (by kernel_rfl)) ?_
          exact Ref.nil (t := ()) (by kernel_rfl)
      ·
        refine Ref.regionC 6 (by kernel_rfl) ?_
        refine RefR.ev0 (st' := ⟨[(0, .c (E3.tree a0)), (1, .c (.func (.func 12) 1 (fun i => ([E35.ep a1c0 0] : List C).getD i .bot))), (7, .c (.val (.int .i64 (Int.ofNat a0.length)))), (8, .c (.val (.int .i64 (IntKind.i64.wrap (u20 + 1)))))], [], [], 0⟩) 0 2 2 [0, 1, 7, 8] [] rfl (by kernel_rfl) ?_
        refine RefR.nilC 2 (by kernel_rfl) ?_
        exact Ref.nil (t := ((IntKind.i64.wrap (u20 + 1)))) (by kernel_rfl)
    ·
      refine Ref.conv (Conv.keep (st' := ⟨[], [], [], 0⟩) [] [] (by kernel_rfl)) ?_
      exact Ref.exitC 0 (t := (Sum.inl ())) (by kernel_rfl) (by kernel_rfl)
  ·
    refine Ref.seqC (cd (bd Try.f18) [1, 1, 0]) (cd (bd Try.f18) [1, 1, 1]) (by kernel_rfl) ?_
    refine Ref.regionC 7 (by kernel_rfl) ?_
    refine RefR.ev0 (st' := ⟨[(4, .c (.val (.int .i64 (-1))))], [], [], 0⟩) 0 1 1 [4] [] rfl (by kernel_rfl) ?_
    refine RefR.nilC 1 (by kernel_rfl) ?_
    exact Ref.retC (t := ((-1))) (by kernel_rfl) (by kernel_rfl)
def F11f12w (K : Nat) (a0 : (List Int)) (a1c0 : S35) : Option (((List Int)) ⊕ ((List Int))) :=
  ((condM true (fnS (F18f12 K a0 a1c0)) default).bind (fun r1 => (if ((r1 : Int) == (-1)) = true then (some (.inl (a0))) else (bindS (blockS ((iter K (fun (u29 : (List Int) × Int × Int) => (letV (decide ((u29.2.2 : Int) < (Int.ofNat u29.1.length))) (fun (x35 : Bool) => (if x35 = true then (bindS (blockS (chk [inb u29.2.2 u29.1.length] ((fnS (F12 K (u29.1.getD ((u29.2.2 : Int).toNat) default) a1c0)).bind (fun r38 => (if (!r38) = true then (chk [inb u29.2.1 u29.1.length] (some (.inr ((u29.1.set ((u29.2.1 : Int).toNat) (u29.1.getD ((u29.2.2 : Int).toNat) default)), (IntKind.i64.wrap (u29.2.1 + 1)))))) else (some (.inr (u29.1, u29.2.1)))))))) (fun (u37 : (List Int) × Int) => (some (.inr (u37.1, u37.2, (IntKind.i64.wrap (u29.2.2 + 1))))))) else (some (.inl (Sum.inl (u29.1, u29.2.1)))))))) (a0, r1, (IntKind.i64.wrap (r1 + 1)))).map .inl)) (fun (u20 : (List Int) × Int) => (chk [bndOk u20.1.length u20.2 (Int.ofNat u20.1.length)] (chk [bndOk ((clearL u20.1 ((u20.2 : Int).toNat) (((Int.ofNat u20.1.length) : Int).toNat - (u20.2 : Int).toNat) E3.d).length) 0 u20.2] (some (.inl (((clearL u20.1 ((u20.2 : Int).toNat) (((Int.ofNat u20.1.length) : Int).toNat - (u20.2 : Int).toNat) E3.d).take ((u20.2 : Int).toNat))))))))))))
theorem F11f12w_ok (K : Nat) (a0 : (List Int)) (a1c0 : S35) : DFun Try.prog 11 [.c (.own 0 a0.length), .c (.func (.func 12) 1 (fun i => ([E35.ep a1c0 0] : List C).getD i .bot))] [E3.row a0] (fnS (F11f12w K a0 a1c0)) (fun r => .c (.own 1 r.length)) (fun r => [.dead, E3.row r]) := by
  refine DFun.intro (fn := Try.f11) (c := cd (bd Try.f11) []) (rs := fun r => ⟨[(4, .c (.own 1 r.length))], [.dead, E3.row r], [], 1⟩) (by kernel_rfl) (by kernel_rfl) (by kernel_rfl) ?_ (fun r => by kernel_rfl) (fun r => by kernel_rfl) (fun r => by kernel_rfl) (fun r => by kernel_rfl)
  unfold F11f12w
  refine Ref.seqC (cd (bd Try.f11) [0]) (cd (bd Try.f11) [1]) (by kernel_rfl) ?_
  refine Ref.regionC 0 (by kernel_rfl) ?_
  refine RefR.ev0 (st' := ⟨[(0, .c (.own 0 a0.length)), (1, .c (.func (.func 12) 1 (fun i => ([E35.ep a1c0 0] : List C).getD i .bot)))], [E3.row a0], [], 1⟩) 0 1 1 [0, 1] [0] rfl (by kernel_rfl) ?_
  refine RefR.nilC 1 (by kernel_rfl) ?_
  refine Ref.seqC (cd (bd Try.f11) [1, 0]) (cd (bd Try.f11) [1, 1]) (by kernel_rfl) ?_
  refine Ref.regionC 1 (by kernel_rfl) ?_
  refine RefR.ev0 (st' := ⟨[(0, .c (.own 0 a0.length)), (1, .c (.func (.func 12) 1 (fun i => ([E35.ep a1c0 0] : List C).getD i .bot))), (8, .c (.own 0 a0.length)), (9, .c (.func (.func 12) 1 (fun i => ([E35.ep a1c0 0] : List C).getD i .bot)))], [E3.row a0], [], 1⟩) 0 2 2 [0, 1, 8, 9] [0] rfl (by kernel_rfl) ?_
  refine RefR.lookC (t := 10) (g := []) (b := true) 2 3 [0] (default : Int) rfl (by kernel_rfl) (F18f12_ok K a0 a1c0) (fun _ => rfl) (fun r1 => ?_)
  refine RefR.ev0 (st' := ⟨[(0, .c (.own 0 a0.length)), (1, .c (.func (.func 12) 1 (fun i => ([E35.ep a1c0 0] : List C).getD i .bot))), (5, .c (.val (.int .i64 r1)))], [E3.row a0], [], 1⟩) 3 1 4 [0, 1, 5] [0] rfl (by kernel_rfl) ?_
  refine RefR.nilC 4 (by kernel_rfl) ?_
  refine Ref.seqC (cd (bd Try.f11) [1, 1, 0]) (cd (bd Try.f11) [1, 1, 1]) (by kernel_rfl) ?_
  refine Ref.seqC (cd (bd Try.f11) [1, 1, 0, 0]) (cd (bd Try.f11) [1, 1, 0, 1]) (by kernel_rfl) ?_
  refine Ref.regionC 2 (by kernel_rfl) ?_
  refine RefR.ev0 (st' := ⟨[(0, .c (.own 0 a0.length)), (1, .c (.func (.func 12) 1 (fun i => ([E35.ep a1c0 0] : List C).getD i .bot))), (5, .c (.val (.int .i64 r1))), (12, .c (.val (.bool ((r1 : Int) == (-1)))))], [E3.row a0], [], 1⟩) 0 2 2 [0, 1, 5, 12] [0] rfl (by kernel_rfl) ?_
  refine RefR.nilC 2 (by kernel_rfl) ?_
  refine Ref.condC (.tmp 12) ((r1 : Int) == (-1)) (by kernel_rfl) rfl (by kernel_rfl) (fun hc => ?_) (fun hc => ?_)
  ·
    refine Ref.seqC (cd (bd Try.f11) [1, 1, 0, 1, 0, 0]) (cd (bd Try.f11) [1, 1, 0, 1, 0, 1]) (by kernel_rfl) ?_
    refine Ref.regionC 3 (by kernel_rfl) ?_
    refine RefR.ev0 (st' := ⟨[(4, .c (.own 0 a0.length))], [E3.row a0], [], 1⟩) 0 2 2 [4] [0] rfl (by kernel_rfl) ?_
    refine RefR.nilC 2 (by kernel_rfl) ?_
    refine Ref.conv (Conv.move (st' := ⟨[(4, .c (.own 1 a0.length))], [.dead, E3.row a0], [], 1⟩) 0 (by kernel_rfl) (by kernel_rfl)) ?_
    exact Ref.retC (t := (a0)) (by kernel_rfl) (by kernel_rfl)
  ·
    refine Ref.skipC (by kernel_rfl) ?_
    refine Ref.seqC (cd (bd Try.f11) [1, 1, 1, 0]) (cd (bd Try.f11) [1, 1, 1, 1]) (by kernel_rfl) ?_
    refine Ref.seqC (cd (bd Try.f11) [1, 1, 1, 0, 0]) (cd (bd Try.f11) [1, 1, 1, 0, 1]) (by kernel_rfl) ?_
    refine Ref.regionC 4 (by kernel_rfl) ?_
    refine RefR.ev0 (st' := ⟨[(0, .c (.own 0 a0.length)), (1, .c (.func (.func 12) 1 (fun i => ([E35.ep a1c0 0] : List C).getD i .bot))), (5, .c (.val (.int .i64 r1))), (6, .c (.val (.int .i64 (IntKind.i64.wrap (r1 + 1)))))], [E3.row a0], [], 1⟩) 0 3 3 [0, 1, 5, 6] [0] rfl (by kernel_rfl) ?_
    refine RefR.nilC 3 (by kernel_rfl) ?_
    refine Ref.codeEq (c' := .block 0 (cd (bd Try.f11) [1, 1, 1, 0, 1, 0])) (by kernel_rfl) ?_
    refine Ref.block (go1 := fun u20 => ⟨[(0, .c (.own 0 u20.1.length)), (5, .c (.val (.int .i64 u20.2)))], [E3.row u20.1], [], 1⟩) ?_ (fun _ h => by cases h) (fun u20 => ?_)
    ·
      refine Ref.codeEq (c' := .loop (cd (bd Try.f11) [1, 1, 1, 0, 1, 0, 0])) (by kernel_rfl) ?_
      refine Ref.loop (hd := fun u29 => ⟨[(0, .c (.own 0 u29.1.length)), (1, .c (.func (.func 12) 1 (fun i => ([E35.ep a1c0 0] : List C).getD i .bot))), (5, .c (.val (.int .i64 u29.2.1))), (6, .c (.val (.int .i64 u29.2.2)))], [E3.row u29.1], [], 1⟩) K (a0, r1, (IntKind.i64.wrap (r1 + 1))) (by kernel_rfl) (fun u29 => ?_)
      refine Ref.seqC (cd (bd Try.f11) [1, 1, 1, 0, 1, 0, 0, 0]) (cd (bd Try.f11) [1, 1, 1, 0, 1, 0, 0, 1]) (by kernel_rfl) ?_
      refine Ref.seqC (cd (bd Try.f11) [1, 1, 1, 0, 1, 0, 0, 0, 0]) (cd (bd Try.f11) [1, 1, 1, 0, 1, 0, 0, 0, 1]) (by kernel_rfl) ?_
      refine Ref.regionC 5 (by kernel_rfl) ?_
      refine RefR.ev0 (st' := ⟨[(0, .c (.own 0 u29.1.length)), (1, .c (.func (.func 12) 1 (fun i => ([E35.ep a1c0 0] : List C).getD i .bot))), (5, .c (.val (.int .i64 u29.2.1))), (6, .c (.val (.int .i64 u29.2.2))), (19, .c (.val (.bool (decide ((u29.2.2 : Int) < (Int.ofNat u29.1.length))))))], [E3.row u29.1], [], 1⟩) 0 4 4 [0, 1, 5, 6, 19] [0] rfl (by kernel_rfl) ?_
      refine RefR.letC (stf := fun x35 => ⟨[(0, .c (.own 0 u29.1.length)), (1, .c (.func (.func 12) 1 (fun i => ([E35.ep a1c0 0] : List C).getD i .bot))), (5, .c (.val (.int .i64 u29.2.1))), (6, .c (.val (.int .i64 u29.2.2))), (19, .c (.val (.bool x35)))], [E3.row u29.1], [], 1⟩) (by kernel_rfl) (fun x35 => ?_)
      refine RefR.nilC 4 (by kernel_rfl) ?_
      refine Ref.condC (.tmp 19) x35 (by kernel_rfl) rfl (by kernel_rfl) (fun hc => ?_) (fun hc => ?_)
      ·
        refine Ref.skipC (by kernel_rfl) ?_
        refine Ref.seqC (cd (bd Try.f11) [1, 1, 1, 0, 1, 0, 0, 1, 0]) (cd (bd Try.f11) [1, 1, 1, 0, 1, 0, 0, 1, 1]) (by kernel_rfl) ?_
        refine Ref.codeEq (c' := .block 1 (cd (bd Try.f11) [1, 1, 1, 0, 1, 0, 0, 1, 0, 0])) (by kernel_rfl) ?_
        refine Ref.block (go1 := fun u37 => ⟨[(0, .c (.own 0 u37.1.length)), (1, .c (.func (.func 12) 1 (fun i => ([E35.ep a1c0 0] : List C).getD i .bot))), (5, .c (.val (.int .i64 u37.2))), (6, .c (.val (.int .i64 u29.2.2)))], [E3.row u37.1], [], 1⟩) ?_ (fun a => match a with | .inl _ => (fun h => by cases h) | .inr _ => (fun h => by cases h)) (fun u37 => ?_)
        ·
          refine Ref.seqC (cd (bd Try.f11) [1, 1, 1, 0, 1, 0, 0, 1, 0, 0, 0]) (cd (bd Try.f11) [1, 1, 1, 0, 1, 0, 0, 1, 0, 0, 1]) (by kernel_rfl) ?_
          refine Ref.regionC 7 (by kernel_rfl) ?_
          refine RefR.evC (vs := [inb u29.2.2 u29.1.length]) (st' := ⟨[(0, .c (.own 0 u29.1.length)), (1, .c (.func (.func 12) 1 (fun i => ([E35.ep a1c0 0] : List C).getD i .bot))), (5, .c (.val (.int .i64 u29.2.1))), (6, .c (.val (.int .i64 u29.2.2))), (7, .c (.val (.int .i64 (u29.1.getD ((u29.2.2 : Int).toNat) default))))], [E3.row u29.1], [], 1⟩) 0 5 5 [0, 1, 5, 6, 7] [0] rfl (by kernel_rfl) ?_
          refine RefR.nilC 5 (by kernel_rfl) ?_
          refine Ref.seqC (cd (bd Try.f11) [1, 1, 1, 0, 1, 0, 0, 1, 0, 0, 1, 0]) (cd (bd Try.f11) [1, 1, 1, 0, 1, 0, 0, 1, 0, 0, 1, 1]) (by kernel_rfl) ?_
          refine Ref.regionC 8 (by kernel_rfl) ?_
          refine RefR.ev0 (st' := ⟨[(0, .c (.own 0 u29.1.length)), (1, .c (.func (.func 12) 1 (fun i => ([E35.ep a1c0 0] : List C).getD i .bot))), (5, .c (.val (.int .i64 u29.2.1))), (6, .c (.val (.int .i64 u29.2.2))), (7, .c (.val (.int .i64 (u29.1.getD ((u29.2.2 : Int).toNat) default)))), (26, .c (.func (.func 12) 1 (fun i => ([E35.ep a1c0 0] : List C).getD i .bot))), (27, .c (.val (.int .i64 (u29.1.getD ((u29.2.2 : Int).toNat) default))))], [E3.row u29.1], [], 1⟩) 0 2 2 [0, 1, 5, 6, 7, 26, 27] [0] rfl (by kernel_rfl) ?_
          refine RefR.callC (t := 28) 2 3 [] rfl (by kernel_rfl) (F12_ok K (u29.1.getD ((u29.2.2 : Int).toNat) default) a1c0) (fun r38 => ?_)
          refine RefR.ev0 (st' := ⟨[(0, .c (.own 0 u29.1.length)), (1, .c (.func (.func 12) 1 (fun i => ([E35.ep a1c0 0] : List C).getD i .bot))), (5, .c (.val (.int .i64 u29.2.1))), (6, .c (.val (.int .i64 u29.2.2))), (7, .c (.val (.int .i64 (u29.1.getD ((u29.2.2 : Int).toNat) default)))), (29, .c (.val (.bool (!r38))))], [E3.row u29.1], [], 1⟩) 3 1 4 [0, 1, 5, 6, 7, 29] [0] rfl (by kernel_rfl) ?_
          refine RefR.nilC 4 (by kernel_rfl) ?_
          refine Ref.condC (.tmp 29) (!r38) (by kernel_rfl) rfl (by kernel_rfl) (fun hc => ?_) (fun hc => ?_)
          ·
            refine Ref.seqC (cd (bd Try.f11) [1, 1, 1, 0, 1, 0, 0, 1, 0, 0, 1, 1, 0, 0]) (cd (bd Try.f11) [1, 1, 1, 0, 1, 0, 0, 1, 0, 0, 1, 1, 0, 1]) (by kernel_rfl) ?_
            refine Ref.regionC 9 (by kernel_rfl) ?_
            refine RefR.evH (vs := [inb u29.2.1 u29.1.length]) (st' := ⟨[(0, .c (.own 0 u29.1.length)), (1, .c (.func (.func 12) 1 (fun i => ([E35.ep a1c0 0] : List C).getD i .bot))), (5, .c (.val (.int .i64 u29.2.1))), (6, .c (.val (.int .i64 u29.2.2)))], [.row 3 1 u29.1.length (setRow (E3.at u29.1) ((u29.2.1 : Int).toNat) 0 [.val (.int .i64 (u29.1.getD ((u29.2.2 : Int).toNat) default))])], [], 1⟩) 0 5 5 [0, 1, 5, 6] [0] rfl (by kernel_rfl) (fun hv => ?_)
            refine RefR.conv (Conv.obj 0 (E3.row (u29.1.set ((u29.2.1 : Int).toNat) (u29.1.getD ((u29.2.2 : Int).toNat) default))) (El.row_set E3 u29.1 (u29.1.getD ((u29.2.2 : Int).toNat) default) (j := 0) (cl := [.val (.int .i64 (u29.1.getD ((u29.2.2 : Int).toNat) default))]) (inb_lt (hv _ (List.Mem.head _))) (fun _ => rfl) (Nat.le_of_ble_eq_true rfl) rfl) (by kernel_rfl)) ?_
            refine RefR.conv (Conv.slot 0 (.c (.own 0 ((u29.1.set ((u29.2.1 : Int).toNat) (u29.1.getD ((u29.2.2 : Int).toNat) default)).length))) (DLe.c (CLe.own (by first | (simp; done) | (simp; omega) | omega))) (by kernel_rfl)) ?_
            refine RefR.nilC 5 (by kernel_rfl) ?_
            refine Ref.regionC 10 (by kernel_rfl) ?_
            refine RefR.ev0 (st' := ⟨[(0, .c (.own 0 ((u29.1.set ((u29.2.1 : Int).toNat) (u29.1.getD ((u29.2.2 : Int).toNat) default)).length))), (1, .c (.func (.func 12) 1 (fun i => ([E35.ep a1c0 0] : List C).getD i .bot))), (5, .c (.val (.int .i64 (IntKind.i64.wrap (u29.2.1 + 1))))), (6, .c (.val (.int .i64 u29.2.2)))], [E3.row (u29.1.set ((u29.2.1 : Int).toNat) (u29.1.getD ((u29.2.2 : Int).toNat) default))], [], 1⟩) 0 3 3 [0, 1, 5, 6] [0] rfl (by kernel_rfl) ?_
            refine RefR.nilC 3 (by kernel_rfl) ?_
            exact Ref.nil (t := ((u29.1.set ((u29.2.1 : Int).toNat) (u29.1.getD ((u29.2.2 : Int).toNat) default)), (IntKind.i64.wrap (u29.2.1 + 1)))) (by kernel_rfl)
          ·
            refine Ref.skipC (by kernel_rfl) ?_
            refine Ref.conv (Conv.keep (st' := ⟨[(0, .c (.own 0 u29.1.length)), (1, .c (.func (.func 12) 1 (fun i => ([E35.ep a1c0 0] : List C).getD i .bot))), (5, .c (.val (.int .i64 u29.2.1))), (6, .c (.val (.int .i64 u29.2.2)))], [E3.row u29.1], [], 1⟩) [0, 1, 5, 6] [0] (by kernel_rfl)) ?_
            exact Ref.nil (t := (u29.1, u29.2.1)) (by kernel_rfl)
        ·
          refine Ref.regionC 6 (by kernel_rfl) ?_
          refine RefR.ev0 (st' := ⟨[(0, .c (.own 0 u37.1.length)), (1, .c (.func (.func 12) 1 (fun i => ([E35.ep a1c0 0] : List C).getD i .bot))), (5, .c (.val (.int .i64 u37.2))), (6, .c (.val (.int .i64 (IntKind.i64.wrap (u29.2.2 + 1)))))], [E3.row u37.1], [], 1⟩) 0 3 3 [0, 1, 5, 6] [0] rfl (by kernel_rfl) ?_
          refine RefR.nilC 3 (by kernel_rfl) ?_
          exact Ref.nil (t := (u37.1, u37.2, (IntKind.i64.wrap (u29.2.2 + 1)))) (by kernel_rfl)
      ·
        refine Ref.conv (Conv.keep (st' := ⟨[(0, .c (.own 0 u29.1.length)), (5, .c (.val (.int .i64 u29.2.1)))], [E3.row u29.1], [], 1⟩) [0, 5] [0] (by kernel_rfl)) ?_
        exact Ref.exitC 0 (t := (Sum.inl (u29.1, u29.2.1))) (by kernel_rfl) (by kernel_rfl)
    ·
      refine Ref.seqC (cd (bd Try.f11) [1, 1, 1, 1, 0]) (cd (bd Try.f11) [1, 1, 1, 1, 1]) (by kernel_rfl) ?_
      refine Ref.regionC 11 (by kernel_rfl) ?_
      refine RefR.evC (vs := [bndOk u20.1.length u20.2 (Int.ofNat u20.1.length)]) (st' := ⟨[(0, .c (.own 0 u20.1.length)), (5, .c (.val (.int .i64 u20.2))), (38, .c (.tail 0 ((u20.2 : Int).toNat) (((Int.ofNat u20.1.length) : Int).toNat - (u20.2 : Int).toNat)))], [E3.row u20.1], [], 1⟩) 0 3 3 [0, 5, 38] [0] rfl (by kernel_rfl) ?_
      refine RefR.ev0 (st' := ⟨[(0, .c (.own 0 u20.1.length)), (5, .c (.val (.int .i64 u20.2)))], [.row 3 1 u20.1.length fun i j => bif Nat.ble ((u20.2 : Int).toNat) i && Nat.blt i (((u20.2 : Int).toNat) + (((Int.ofNat u20.1.length) : Int).toNat - (u20.2 : Int).toNat)) then ([.val (.int .i64 0)] : List C).getD j .bot else E3.at u20.1 i j], [], 1⟩) 3 1 4 [0, 5] [0] rfl (by kernel_rfl) ?_
      refine RefR.conv (Conv.obj 0 (E3.row (clearL u20.1 ((u20.2 : Int).toNat) (((Int.ofNat u20.1.length) : Int).toNat - (u20.2 : Int).toNat) E3.d)) (El.row_clear E3 u20.1 rfl) (by kernel_rfl)) ?_
      refine RefR.conv (Conv.slot 0 (.c (.own 0 ((clearL u20.1 ((u20.2 : Int).toNat) (((Int.ofNat u20.1.length) : Int).toNat - (u20.2 : Int).toNat) E3.d).length))) (DLe.c (CLe.own (by first | (simp; done) | (simp; omega) | omega))) (by kernel_rfl)) ?_
      refine RefR.nilC 4 (by kernel_rfl) ?_
      refine Ref.seqC (cd (bd Try.f11) [1, 1, 1, 1, 1, 0]) (cd (bd Try.f11) [1, 1, 1, 1, 1, 1]) (by kernel_rfl) ?_
      refine Ref.regionC 12 (by kernel_rfl) ?_
      refine RefR.evH (vs := [bndOk ((clearL u20.1 ((u20.2 : Int).toNat) (((Int.ofNat u20.1.length) : Int).toNat - (u20.2 : Int).toNat) E3.d).length) 0 u20.2]) (st' := ⟨[(41, .c (.own 0 ((u20.2 : Int).toNat)))], [E3.row (clearL u20.1 ((u20.2 : Int).toNat) (((Int.ofNat u20.1.length) : Int).toNat - (u20.2 : Int).toNat) E3.d)], [], 1⟩) 0 3 3 [41] [0] rfl (by kernel_rfl) (fun hv => ?_)
      refine RefR.conv (Conv.cut (st' := ⟨[(41, .c (.own 1 ((u20.2 : Int).toNat)))], [.dead, .row 3 1 ((u20.2 : Int).toNat) (E3.at (clearL u20.1 ((u20.2 : Int).toNat) (((Int.ofNat u20.1.length) : Int).toNat - (u20.2 : Int).toNat) E3.d))], [], 1⟩) 41 (by kernel_rfl)) ?_
      refine RefR.conv (Conv.obj 1 (E3.row ((clearL u20.1 ((u20.2 : Int).toNat) (((Int.ofNat u20.1.length) : Int).toNat - (u20.2 : Int).toNat) E3.d).take ((u20.2 : Int).toNat))) (El.row_take E3 (clearL u20.1 ((u20.2 : Int).toNat) (((Int.ofNat u20.1.length) : Int).toNat - (u20.2 : Int).toNat) E3.d) (by have hq := bndOk_le (hv _ (List.Mem.head _)); try simp only [List.length_set, clearL_length] at hq ⊢; omega)) (by kernel_rfl)) ?_
      refine RefR.conv (Conv.slot 41 (.c (.own 1 (((clearL u20.1 ((u20.2 : Int).toNat) (((Int.ofNat u20.1.length) : Int).toNat - (u20.2 : Int).toNat) E3.d).take ((u20.2 : Int).toNat)).length))) (DLe.c (CLe.own (take_len (by have hq := bndOk_le (hv _ (List.Mem.head _)); try simp only [List.length_set, clearL_length] at hq ⊢; omega)))) (by kernel_rfl)) ?_
      refine RefR.ev0 (st' := ⟨[(4, .c (.own 1 (((clearL u20.1 ((u20.2 : Int).toNat) (((Int.ofNat u20.1.length) : Int).toNat - (u20.2 : Int).toNat) E3.d).take ((u20.2 : Int).toNat)).length)))], [.dead, E3.row ((clearL u20.1 ((u20.2 : Int).toNat) (((Int.ofNat u20.1.length) : Int).toNat - (u20.2 : Int).toNat) E3.d).take ((u20.2 : Int).toNat))], [], 1⟩) 3 1 4 [4] [0, 1] rfl (by kernel_rfl) ?_
      refine RefR.nilC 4 (by kernel_rfl) ?_
      exact Ref.retC (t := (((clearL u20.1 ((u20.2 : Int).toNat) (((Int.ofNat u20.1.length) : Int).toNat - (u20.2 : Int).toNat) E3.d).take ((u20.2 : Int).toNat)))) (by kernel_rfl) (by kernel_rfl)
def F14w (K : Nat) (a0 : (List Int)) : Option (((List Int)) ⊕ ((List Int))) :=
  (if (decide (((Int.ofNat a0.length) : Int) < 2)) = true then (some (.inl (a0))) else (bindS (blockS ((iter K (fun (u268 : Int) => (letV (decide ((u268 : Int) < (Int.ofNat a0.length))) (fun (x336 : Bool) => (if x336 = true then (bindS (blockS (chk [inb u268 a0.length, inb (IntKind.i64.wrap (u268 - 1)) a0.length] (letV (((a0.getD ((u268 : Int).toNat) default) : Int) == (a0.getD (((IntKind.i64.wrap (u268 - 1)) : Int).toNat) default)) (fun (x370 : Bool) => (if x370 = true then (chk [bndOk a0.length u268 (Int.ofNat a0.length)] (bindS (blockS ((iter K (fun (u392 : (List Int) × Int × Int) => (letV (decide ((u392.2.2 : Int) < (Int.ofNat (((Int.ofNat a0.length) : Int).toNat - (u268 : Int).toNat)))) (fun (x398 : Bool) => (if x398 = true then (bindS (blockS (chk [inb u392.2.2 (((Int.ofNat a0.length) : Int).toNat - (u268 : Int).toNat), inb (IntKind.i64.wrap (u392.2.2 - 1)) (((Int.ofNat a0.length) : Int).toNat - (u268 : Int).toNat)] (letV (((u392.1.getD ((u268 : Int).toNat + (u392.2.2 : Int).toNat) default) : Int) != (u392.1.getD ((u268 : Int).toNat + ((IntKind.i64.wrap (u392.2.2 - 1)) : Int).toNat) default)) (fun (x401 : Bool) => (if x401 = true then (chk [inb u392.2.2 (((Int.ofNat a0.length) : Int).toNat - (u268 : Int).toNat), inb u392.2.1 u392.1.length] (some (.inr ((u392.1.set ((u392.2.1 : Int).toNat) (u392.1.getD ((u268 : Int).toNat + (u392.2.2 : Int).toNat) default)), (IntKind.i64.wrap (u392.2.1 + 1)))))) else (some (.inr (u392.1, u392.2.1)))))))) (fun (u400 : (List Int) × Int) => (some (.inr (u400.1, u400.2, (IntKind.i64.wrap (u392.2.2 + 1))))))) else (some (.inl (Sum.inl (u392.1, u392.2.1)))))))) (a0, u268, 1)).map .inl)) (fun (u386 : (List Int) × Int) => (chk [bndOk u386.1.length u386.2 (Int.ofNat u386.1.length)] (chk [bndOk ((clearL u386.1 ((u386.2 : Int).toNat) (((Int.ofNat u386.1.length) : Int).toNat - (u386.2 : Int).toNat) E3.d).length) 0 u386.2] (some (.inl (Sum.inr (Sum.inr (((clearL u386.1 ((u386.2 : Int).toNat) (((Int.ofNat u386.1.length) : Int).toNat - (u386.2 : Int).toNat) E3.d).take ((u386.2 : Int).toNat)))))))))))) else (some (.inr ()))))))) (fun (u369 : Unit) => (some (.inr ((IntKind.i64.wrap (u268 + 1))))))) else (some (.inl (Sum.inl ()))))))) (1)).map .inl)) (fun (u201 : Unit) => (some (.inl (a0))))))
theorem F14w_ok (K : Nat) (a0 : (List Int)) : DFun Try.prog 14 [.c (.own 0 a0.length)] [E3.row a0] (fnS (F14w K a0)) (fun r => .c (.own 1 r.length)) (fun r => [.dead, E3.row r]) := by
  refine DFun.intro (fn := Try.f14) (c := cd (bd Try.f14) []) (rs := fun r => ⟨[(2, .c (.own 1 r.length))], [.dead, E3.row r], [], 1⟩) (by kernel_rfl) (by kernel_rfl) (by kernel_rfl) ?_ (fun r => by kernel_rfl) (fun r => by kernel_rfl) (fun r => by kernel_rfl) (fun r => by kernel_rfl)
  unfold F14w
  refine Ref.seqC (cd (bd Try.f14) [0]) (cd (bd Try.f14) [1]) (by kernel_rfl) ?_
  refine Ref.regionC 0 (by kernel_rfl) ?_
  refine RefR.ev0 (st' := ⟨[(0, .c (.own 0 a0.length))], [E3.row a0], [], 1⟩) 0 1 1 [0] [0] rfl (by kernel_rfl) ?_
  refine RefR.nilC 1 (by kernel_rfl) ?_
  refine Ref.seqC (cd (bd Try.f14) [1, 0]) (cd (bd Try.f14) [1, 1]) (by kernel_rfl) ?_
  refine Ref.seqC (cd (bd Try.f14) [1, 0, 0]) (cd (bd Try.f14) [1, 0, 1]) (by kernel_rfl) ?_
  refine Ref.regionC 1 (by kernel_rfl) ?_
  refine RefR.ev0 (st' := ⟨[(0, .c (.own 0 a0.length)), (8, .c (.val (.bool (decide (((Int.ofNat a0.length) : Int) < 2)))))], [E3.row a0], [], 1⟩) 0 3 3 [0, 8] [0] rfl (by kernel_rfl) ?_
  refine RefR.nilC 3 (by kernel_rfl) ?_
  refine Ref.condC (.tmp 8) (decide (((Int.ofNat a0.length) : Int) < 2)) (by kernel_rfl) rfl (by kernel_rfl) (fun hc => ?_) (fun hc => ?_)
  ·
    refine Ref.seqC (cd (bd Try.f14) [1, 0, 1, 0, 0]) (cd (bd Try.f14) [1, 0, 1, 0, 1]) (by kernel_rfl) ?_
    refine Ref.regionC 2 (by kernel_rfl) ?_
    refine RefR.ev0 (st' := ⟨[(2, .c (.own 0 a0.length))], [E3.row a0], [], 1⟩) 0 2 2 [2] [0] rfl (by kernel_rfl) ?_
    refine RefR.nilC 2 (by kernel_rfl) ?_
    refine Ref.conv (Conv.move (st' := ⟨[(2, .c (.own 1 a0.length))], [.dead, E3.row a0], [], 1⟩) 0 (by kernel_rfl) (by kernel_rfl)) ?_
    exact Ref.retC (t := (a0)) (by kernel_rfl) (by kernel_rfl)
  ·
    refine Ref.skipC (by kernel_rfl) ?_
    refine Ref.seqC (cd (bd Try.f14) [1, 1, 0]) (cd (bd Try.f14) [1, 1, 1]) (by kernel_rfl) ?_
    refine Ref.seqC (cd (bd Try.f14) [1, 1, 0, 0]) (cd (bd Try.f14) [1, 1, 0, 1]) (by kernel_rfl) ?_
    refine Ref.regionC 3 (by kernel_rfl) ?_
    refine RefR.ev0 (st' := ⟨[(0, .c (.own 0 a0.length)), (3, .c (.val (.int .i64 1)))], [E3.row a0], [], 1⟩) 0 1 1 [0, 3] [0] rfl (by kernel_rfl) ?_
    refine RefR.nilC 1 (by kernel_rfl) ?_
    refine Ref.codeEq (c' := .block 0 (cd (bd Try.f14) [1, 1, 0, 1, 0])) (by kernel_rfl) ?_
    refine Ref.block (go1 := fun u201 => ⟨[(0, .c (.own 0 a0.length))], [E3.row a0], [], 1⟩) ?_ (fun _ h => by cases h) (fun u201 => ?_)
    ·
      refine Ref.codeEq (c' := .loop (cd (bd Try.f14) [1, 1, 0, 1, 0, 0])) (by kernel_rfl) ?_
      refine Ref.loop (hd := fun u268 => ⟨[(0, .c (.own 0 a0.length)), (3, .c (.val (.int .i64 u268)))], [E3.row a0], [], 1⟩) K (1) (by kernel_rfl) (fun u268 => ?_)
      refine Ref.seqC (cd (bd Try.f14) [1, 1, 0, 1, 0, 0, 0]) (cd (bd Try.f14) [1, 1, 0, 1, 0, 0, 1]) (by kernel_rfl) ?_
      refine Ref.seqC (cd (bd Try.f14) [1, 1, 0, 1, 0, 0, 0, 0]) (cd (bd Try.f14) [1, 1, 0, 1, 0, 0, 0, 1]) (by kernel_rfl) ?_
      refine Ref.regionC 4 (by kernel_rfl) ?_
      refine RefR.ev0 (st' := ⟨[(0, .c (.own 0 a0.length)), (3, .c (.val (.int .i64 u268))), (13, .c (.val (.bool (decide ((u268 : Int) < (Int.ofNat a0.length))))))], [E3.row a0], [], 1⟩) 0 4 4 [0, 3, 13] [0] rfl (by kernel_rfl) ?_
      refine RefR.letC (stf := fun x336 => ⟨[(0, .c (.own 0 a0.length)), (3, .c (.val (.int .i64 u268))), (13, .c (.val (.bool x336)))], [E3.row a0], [], 1⟩) (by kernel_rfl) (fun x336 => ?_)
      refine RefR.nilC 4 (by kernel_rfl) ?_
      refine Ref.condC (.tmp 13) x336 (by kernel_rfl) rfl (by kernel_rfl) (fun hc => ?_) (fun hc => ?_)
      ·
        refine Ref.skipC (by kernel_rfl) ?_
        refine Ref.seqC (cd (bd Try.f14) [1, 1, 0, 1, 0, 0, 1, 0]) (cd (bd Try.f14) [1, 1, 0, 1, 0, 0, 1, 1]) (by kernel_rfl) ?_
        refine Ref.codeEq (c' := .block 1 (cd (bd Try.f14) [1, 1, 0, 1, 0, 0, 1, 0, 0])) (by kernel_rfl) ?_
        refine Ref.block (go1 := fun u369 => ⟨[(0, .c (.own 0 a0.length)), (3, .c (.val (.int .i64 u268)))], [E3.row a0], [], 1⟩) ?_ (fun a => match a with | .inl _ => (fun h => by cases h) | .inr _ => (fun h => by cases h)) (fun u369 => ?_)
        ·
          refine Ref.seqC (cd (bd Try.f14) [1, 1, 0, 1, 0, 0, 1, 0, 0, 0]) (cd (bd Try.f14) [1, 1, 0, 1, 0, 0, 1, 0, 0, 1]) (by kernel_rfl) ?_
          refine Ref.drawnY 6 (by kernel_rfl) (by kernel_rfl) ?_
          refine RefY.evC (vs := [inb u268 a0.length, inb (IntKind.i64.wrap (u268 - 1)) a0.length]) (st' := ⟨[(0, .c (.own 0 a0.length)), (3, .c (.val (.int .i64 u268))), (18, .c (.ptr 0 ((u268 : Int).toNat) 0)), (23, .c (.ptr 0 (((IntKind.i64.wrap (u268 - 1)) : Int).toNat) 0))], [E3.row a0], [], 1⟩) (fuel' := 3) [0, 1, 2, 4, 5, 6, 7] [0, 3, 18, 23] [0] rfl (by kernel_rfl) (by kernel_rfl) ?_
          refine RefY.toX [] ?_
          refine RefX.evC0 (st' := ⟨[(0, .c (.own 0 a0.length)), (3, .c (.val (.int .i64 u268))), (25, .c (.val (.bool (((a0.getD ((u268 : Int).toNat) default) : Int) == (a0.getD (((IntKind.i64.wrap (u268 - 1)) : Int).toNat) default)))))], [E3.row a0], [], 1⟩) (fuel' := 0) [3, 8, 9] [0, 3, 25] [0] rfl (by kernel_rfl) (by kernel_rfl) ?_
          refine RefX.letC (stf := fun x370 => ⟨[(0, .c (.own 0 a0.length)), (3, .c (.val (.int .i64 u268))), (25, .c (.val (.bool x370)))], [E3.row a0], [], 1⟩) (by kernel_rfl) (fun x370 => ?_)
          refine RefX.done (by kernel_rfl) ?_
          refine Ref.condC (.tmp 25) x370 (by kernel_rfl) rfl (by kernel_rfl) (fun hc => ?_) (fun hc => ?_)
          ·
            refine Ref.seqC (cd (bd Try.f14) [1, 1, 0, 1, 0, 0, 1, 0, 0, 1, 0, 0]) (cd (bd Try.f14) [1, 1, 0, 1, 0, 0, 1, 0, 0, 1, 0, 1]) (by kernel_rfl) ?_
            refine Ref.regionC 7 (by kernel_rfl) ?_
            refine RefR.evC (vs := [bndOk a0.length u268 (Int.ofNat a0.length)]) (st' := ⟨[(0, .c (.own 0 a0.length)), (3, .c (.val (.int .i64 u268))), (28, .c (.tail 0 ((u268 : Int).toNat) (((Int.ofNat a0.length) : Int).toNat - (u268 : Int).toNat)))], [E3.row a0], [], 1⟩) 0 3 3 [0, 3, 28] [0] rfl (by kernel_rfl) ?_
            refine RefR.ev0 (st' := ⟨[(0, .c (.own 0 a0.length)), (3, .c (.val (.int .i64 u268))), (4, .c (.tail 0 ((u268 : Int).toNat) (((Int.ofNat a0.length) : Int).toNat - (u268 : Int).toNat)))], [E3.row a0], [], 1⟩) 3 1 4 [0, 3, 4] [0] rfl (by kernel_rfl) ?_
            refine RefR.nilC 4 (by kernel_rfl) ?_
            refine Ref.seqC (cd (bd Try.f14) [1, 1, 0, 1, 0, 0, 1, 0, 0, 1, 0, 1, 0]) (cd (bd Try.f14) [1, 1, 0, 1, 0, 0, 1, 0, 0, 1, 0, 1, 1]) (by kernel_rfl) ?_
            refine Ref.seqC (cd (bd Try.f14) [1, 1, 0, 1, 0, 0, 1, 0, 0, 1, 0, 1, 0, 0]) (cd (bd Try.f14) [1, 1, 0, 1, 0, 0, 1, 0, 0, 1, 0, 1, 0, 1]) (by kernel_rfl) ?_
            refine Ref.regionC 8 (by kernel_rfl) ?_
            refine RefR.ev0 (st' := ⟨[(0, .c (.own 0 a0.length)), (3, .c (.val (.int .i64 u268))), (4, .c (.tail 0 ((u268 : Int).toNat) (((Int.ofNat a0.length) : Int).toNat - (u268 : Int).toNat))), (5, .c (.val (.int .i64 1)))], [E3.row a0], [], 1⟩) 0 1 1 [0, 3, 4, 5] [0] rfl (by kernel_rfl) ?_
            refine RefR.nilC 1 (by kernel_rfl) ?_
            refine Ref.codeEq (c' := .block 2 (cd (bd Try.f14) [1, 1, 0, 1, 0, 0, 1, 0, 0, 1, 0, 1, 0, 1, 0])) (by kernel_rfl) ?_
            refine Ref.block (go1 := fun u386 => ⟨[(0, .c (.own 0 u386.1.length)), (3, .c (.val (.int .i64 u386.2)))], [E3.row u386.1], [], 1⟩) ?_ (fun a => match a with | .inl _ => (fun h => by cases h) | .inr (.inl _) => (fun h => by cases h) | .inr (.inr _) => (fun h => by cases h)) (fun u386 => ?_)
            ·
              refine Ref.codeEq (c' := .loop (cd (bd Try.f14) [1, 1, 0, 1, 0, 0, 1, 0, 0, 1, 0, 1, 0, 1, 0, 0])) (by kernel_rfl) ?_
              refine Ref.loop (hd := fun u392 => ⟨[(0, .c (.own 0 u392.1.length)), (3, .c (.val (.int .i64 u392.2.1))), (4, .c (.tail 0 ((u268 : Int).toNat) (((Int.ofNat a0.length) : Int).toNat - (u268 : Int).toNat))), (5, .c (.val (.int .i64 u392.2.2)))], [E3.row u392.1], [], 1⟩) K (a0, u268, 1) (by kernel_rfl) (fun u392 => ?_)
              refine Ref.seqC (cd (bd Try.f14) [1, 1, 0, 1, 0, 0, 1, 0, 0, 1, 0, 1, 0, 1, 0, 0, 0]) (cd (bd Try.f14) [1, 1, 0, 1, 0, 0, 1, 0, 0, 1, 0, 1, 0, 1, 0, 0, 1]) (by kernel_rfl) ?_
              refine Ref.seqC (cd (bd Try.f14) [1, 1, 0, 1, 0, 0, 1, 0, 0, 1, 0, 1, 0, 1, 0, 0, 0, 0]) (cd (bd Try.f14) [1, 1, 0, 1, 0, 0, 1, 0, 0, 1, 0, 1, 0, 1, 0, 0, 0, 1]) (by kernel_rfl) ?_
              refine Ref.regionC 9 (by kernel_rfl) ?_
              refine RefR.ev0 (st' := ⟨[(0, .c (.own 0 u392.1.length)), (3, .c (.val (.int .i64 u392.2.1))), (4, .c (.tail 0 ((u268 : Int).toNat) (((Int.ofNat a0.length) : Int).toNat - (u268 : Int).toNat))), (5, .c (.val (.int .i64 u392.2.2))), (32, .c (.val (.bool (decide ((u392.2.2 : Int) < (Int.ofNat (((Int.ofNat a0.length) : Int).toNat - (u268 : Int).toNat)))))))], [E3.row u392.1], [], 1⟩) 0 4 4 [0, 3, 4, 5, 32] [0] rfl (by kernel_rfl) ?_
              refine RefR.letC (stf := fun x398 => ⟨[(0, .c (.own 0 u392.1.length)), (3, .c (.val (.int .i64 u392.2.1))), (4, .c (.tail 0 ((u268 : Int).toNat) (((Int.ofNat a0.length) : Int).toNat - (u268 : Int).toNat))), (5, .c (.val (.int .i64 u392.2.2))), (32, .c (.val (.bool x398)))], [E3.row u392.1], [], 1⟩) (by kernel_rfl) (fun x398 => ?_)
              refine RefR.nilC 4 (by kernel_rfl) ?_
              refine Ref.condC (.tmp 32) x398 (by kernel_rfl) rfl (by kernel_rfl) (fun hc => ?_) (fun hc => ?_)
              ·
                refine Ref.skipC (by kernel_rfl) ?_
                refine Ref.seqC (cd (bd Try.f14) [1, 1, 0, 1, 0, 0, 1, 0, 0, 1, 0, 1, 0, 1, 0, 0, 1, 0]) (cd (bd Try.f14) [1, 1, 0, 1, 0, 0, 1, 0, 0, 1, 0, 1, 0, 1, 0, 0, 1, 1]) (by kernel_rfl) ?_
                refine Ref.codeEq (c' := .block 3 (cd (bd Try.f14) [1, 1, 0, 1, 0, 0, 1, 0, 0, 1, 0, 1, 0, 1, 0, 0, 1, 0, 0])) (by kernel_rfl) ?_
                refine Ref.block (go1 := fun u400 => ⟨[(0, .c (.own 0 u400.1.length)), (3, .c (.val (.int .i64 u400.2))), (4, .c (.tail 0 ((u268 : Int).toNat) (((Int.ofNat a0.length) : Int).toNat - (u268 : Int).toNat))), (5, .c (.val (.int .i64 u392.2.2)))], [E3.row u400.1], [], 1⟩) ?_ (fun a => match a with | .inl _ => (fun h => by cases h) | .inr (.inl _) => (fun h => by cases h) | .inr (.inr (.inl _)) => (fun h => by cases h) | .inr (.inr (.inr _)) => (fun h => by cases h)) (fun u400 => ?_)
                ·
                  refine Ref.seqC (cd (bd Try.f14) [1, 1, 0, 1, 0, 0, 1, 0, 0, 1, 0, 1, 0, 1, 0, 0, 1, 0, 0, 0]) (cd (bd Try.f14) [1, 1, 0, 1, 0, 0, 1, 0, 0, 1, 0, 1, 0, 1, 0, 0, 1, 0, 0, 1]) (by kernel_rfl) ?_
                  refine Ref.drawnY 11 (by kernel_rfl) (by kernel_rfl) ?_
                  refine RefY.evC (vs := [inb u392.2.2 (((Int.ofNat a0.length) : Int).toNat - (u268 : Int).toNat), inb (IntKind.i64.wrap (u392.2.2 - 1)) (((Int.ofNat a0.length) : Int).toNat - (u268 : Int).toNat)]) (st' := ⟨[(0, .c (.own 0 u392.1.length)), (3, .c (.val (.int .i64 u392.2.1))), (4, .c (.tail 0 ((u268 : Int).toNat) (((Int.ofNat a0.length) : Int).toNat - (u268 : Int).toNat))), (5, .c (.val (.int .i64 u392.2.2))), (37, .c (.ptr 0 ((u268 : Int).toNat + (u392.2.2 : Int).toNat) 0)), (42, .c (.ptr 0 ((u268 : Int).toNat + ((IntKind.i64.wrap (u392.2.2 - 1)) : Int).toNat) 0))], [E3.row u392.1], [], 1⟩) (fuel' := 3) [0, 1, 2, 4, 5, 6, 7] [0, 3, 4, 5, 37, 42] [0] rfl (by kernel_rfl) (by kernel_rfl) ?_
                  refine RefY.toX [] ?_
                  refine RefX.evC0 (st' := ⟨[(0, .c (.own 0 u392.1.length)), (3, .c (.val (.int .i64 u392.2.1))), (4, .c (.tail 0 ((u268 : Int).toNat) (((Int.ofNat a0.length) : Int).toNat - (u268 : Int).toNat))), (5, .c (.val (.int .i64 u392.2.2))), (44, .c (.val (.bool (((u392.1.getD ((u268 : Int).toNat + (u392.2.2 : Int).toNat) default) : Int) != (u392.1.getD ((u268 : Int).toNat + ((IntKind.i64.wrap (u392.2.2 - 1)) : Int).toNat) default)))))], [E3.row u392.1], [], 1⟩) (fuel' := 0) [3, 8, 9] [0, 3, 4, 5, 44] [0] rfl (by kernel_rfl) (by kernel_rfl) ?_
                  refine RefX.letC (stf := fun x401 => ⟨[(0, .c (.own 0 u392.1.length)), (3, .c (.val (.int .i64 u392.2.1))), (4, .c (.tail 0 ((u268 : Int).toNat) (((Int.ofNat a0.length) : Int).toNat - (u268 : Int).toNat))), (5, .c (.val (.int .i64 u392.2.2))), (44, .c (.val (.bool x401)))], [E3.row u392.1], [], 1⟩) (by kernel_rfl) (fun x401 => ?_)
                  refine RefX.done (by kernel_rfl) ?_
                  refine Ref.condC (.tmp 44) x401 (by kernel_rfl) rfl (by kernel_rfl) (fun hc => ?_) (fun hc => ?_)
                  ·
                    refine Ref.seqC (cd (bd Try.f14) [1, 1, 0, 1, 0, 0, 1, 0, 0, 1, 0, 1, 0, 1, 0, 0, 1, 0, 0, 1, 0, 0]) (cd (bd Try.f14) [1, 1, 0, 1, 0, 0, 1, 0, 0, 1, 0, 1, 0, 1, 0, 0, 1, 0, 0, 1, 0, 1]) (by kernel_rfl) ?_
                    refine Ref.regionC 12 (by kernel_rfl) ?_
                    refine RefR.evH (vs := [inb u392.2.2 (((Int.ofNat a0.length) : Int).toNat - (u268 : Int).toNat), inb u392.2.1 u392.1.length]) (st' := ⟨[(0, .c (.own 0 u392.1.length)), (3, .c (.val (.int .i64 u392.2.1))), (4, .c (.tail 0 ((u268 : Int).toNat) (((Int.ofNat a0.length) : Int).toNat - (u268 : Int).toNat))), (5, .c (.val (.int .i64 u392.2.2)))], [.row 3 1 u392.1.length (setRow (E3.at u392.1) ((u392.2.1 : Int).toNat) 0 [.val (.int .i64 (u392.1.getD ((u268 : Int).toNat + (u392.2.2 : Int).toNat) default))])], [], 1⟩) 0 8 8 [0, 3, 4, 5] [0] rfl (by kernel_rfl) (fun hv => ?_)
                    refine RefR.conv (Conv.obj 0 (E3.row (u392.1.set ((u392.2.1 : Int).toNat) (u392.1.getD ((u268 : Int).toNat + (u392.2.2 : Int).toNat) default))) (El.row_set E3 u392.1 (u392.1.getD ((u268 : Int).toNat + (u392.2.2 : Int).toNat) default) (j := 0) (cl := [.val (.int .i64 (u392.1.getD ((u268 : Int).toNat + (u392.2.2 : Int).toNat) default))]) (inb_lt (hv _ (List.Mem.tail _ (List.Mem.head _)))) (fun _ => rfl) (Nat.le_of_ble_eq_true rfl) rfl) (by kernel_rfl)) ?_
                    refine RefR.conv (Conv.slot 0 (.c (.own 0 ((u392.1.set ((u392.2.1 : Int).toNat) (u392.1.getD ((u268 : Int).toNat + (u392.2.2 : Int).toNat) default)).length))) (DLe.c (CLe.own (by first | (simp; done) | (simp; omega) | omega))) (by kernel_rfl)) ?_
                    refine RefR.nilC 8 (by kernel_rfl) ?_
                    refine Ref.regionC 13 (by kernel_rfl) ?_
                    refine RefR.ev0 (st' := ⟨[(0, .c (.own 0 ((u392.1.set ((u392.2.1 : Int).toNat) (u392.1.getD ((u268 : Int).toNat + (u392.2.2 : Int).toNat) default)).length))), (3, .c (.val (.int .i64 (IntKind.i64.wrap (u392.2.1 + 1))))), (4, .c (.tail 0 ((u268 : Int).toNat) (((Int.ofNat a0.length) : Int).toNat - (u268 : Int).toNat))), (5, .c (.val (.int .i64 u392.2.2)))], [E3.row (u392.1.set ((u392.2.1 : Int).toNat) (u392.1.getD ((u268 : Int).toNat + (u392.2.2 : Int).toNat) default))], [], 1⟩) 0 3 3 [0, 3, 4, 5] [0] rfl (by kernel_rfl) ?_
                    refine RefR.nilC 3 (by kernel_rfl) ?_
                    exact Ref.nil (t := ((u392.1.set ((u392.2.1 : Int).toNat) (u392.1.getD ((u268 : Int).toNat + (u392.2.2 : Int).toNat) default)), (IntKind.i64.wrap (u392.2.1 + 1)))) (by kernel_rfl)
                  ·
                    refine Ref.skipC (by kernel_rfl) ?_
                    refine Ref.conv (Conv.keep (st' := ⟨[(0, .c (.own 0 u392.1.length)), (3, .c (.val (.int .i64 u392.2.1))), (4, .c (.tail 0 ((u268 : Int).toNat) (((Int.ofNat a0.length) : Int).toNat - (u268 : Int).toNat))), (5, .c (.val (.int .i64 u392.2.2)))], [E3.row u392.1], [], 1⟩) [0, 3, 4, 5] [0] (by kernel_rfl)) ?_
                    exact Ref.nil (t := (u392.1, u392.2.1)) (by kernel_rfl)
                ·
                  refine Ref.regionC 10 (by kernel_rfl) ?_
                  refine RefR.ev0 (st' := ⟨[(0, .c (.own 0 u400.1.length)), (3, .c (.val (.int .i64 u400.2))), (4, .c (.tail 0 ((u268 : Int).toNat) (((Int.ofNat a0.length) : Int).toNat - (u268 : Int).toNat))), (5, .c (.val (.int .i64 (IntKind.i64.wrap (u392.2.2 + 1)))))], [E3.row u400.1], [], 1⟩) 0 3 3 [0, 3, 4, 5] [0] rfl (by kernel_rfl) ?_
                  refine RefR.nilC 3 (by kernel_rfl) ?_
                  exact Ref.nil (t := (u400.1, u400.2, (IntKind.i64.wrap (u392.2.2 + 1)))) (by kernel_rfl)
              ·
                refine Ref.conv (Conv.keep (st' := ⟨[(0, .c (.own 0 u392.1.length)), (3, .c (.val (.int .i64 u392.2.1)))], [E3.row u392.1], [], 1⟩) [0, 3] [0] (by kernel_rfl)) ?_
                exact Ref.exitC 2 (t := (Sum.inl (u392.1, u392.2.1))) (by kernel_rfl) (by kernel_rfl)
            ·
              refine Ref.seqC (cd (bd Try.f14) [1, 1, 0, 1, 0, 0, 1, 0, 0, 1, 0, 1, 1, 0]) (cd (bd Try.f14) [1, 1, 0, 1, 0, 0, 1, 0, 0, 1, 0, 1, 1, 1]) (by kernel_rfl) ?_
              refine Ref.regionC 14 (by kernel_rfl) ?_
              refine RefR.evC (vs := [bndOk u386.1.length u386.2 (Int.ofNat u386.1.length)]) (st' := ⟨[(0, .c (.own 0 u386.1.length)), (3, .c (.val (.int .i64 u386.2))), (56, .c (.tail 0 ((u386.2 : Int).toNat) (((Int.ofNat u386.1.length) : Int).toNat - (u386.2 : Int).toNat)))], [E3.row u386.1], [], 1⟩) 0 3 3 [0, 3, 56] [0] rfl (by kernel_rfl) ?_
              refine RefR.ev0 (st' := ⟨[(0, .c (.own 0 u386.1.length)), (3, .c (.val (.int .i64 u386.2)))], [.row 3 1 u386.1.length fun i j => bif Nat.ble ((u386.2 : Int).toNat) i && Nat.blt i (((u386.2 : Int).toNat) + (((Int.ofNat u386.1.length) : Int).toNat - (u386.2 : Int).toNat)) then ([.val (.int .i64 0)] : List C).getD j .bot else E3.at u386.1 i j], [], 1⟩) 3 1 4 [0, 3] [0] rfl (by kernel_rfl) ?_
              refine RefR.conv (Conv.obj 0 (E3.row (clearL u386.1 ((u386.2 : Int).toNat) (((Int.ofNat u386.1.length) : Int).toNat - (u386.2 : Int).toNat) E3.d)) (El.row_clear E3 u386.1 rfl) (by kernel_rfl)) ?_
              refine RefR.conv (Conv.slot 0 (.c (.own 0 ((clearL u386.1 ((u386.2 : Int).toNat) (((Int.ofNat u386.1.length) : Int).toNat - (u386.2 : Int).toNat) E3.d).length))) (DLe.c (CLe.own (by first | (simp; done) | (simp; omega) | omega))) (by kernel_rfl)) ?_
              refine RefR.nilC 4 (by kernel_rfl) ?_
              refine Ref.seqC (cd (bd Try.f14) [1, 1, 0, 1, 0, 0, 1, 0, 0, 1, 0, 1, 1, 1, 0]) (cd (bd Try.f14) [1, 1, 0, 1, 0, 0, 1, 0, 0, 1, 0, 1, 1, 1, 1]) (by kernel_rfl) ?_
              refine Ref.regionC 15 (by kernel_rfl) ?_
              refine RefR.evH (vs := [bndOk ((clearL u386.1 ((u386.2 : Int).toNat) (((Int.ofNat u386.1.length) : Int).toNat - (u386.2 : Int).toNat) E3.d).length) 0 u386.2]) (st' := ⟨[(59, .c (.own 0 ((u386.2 : Int).toNat)))], [E3.row (clearL u386.1 ((u386.2 : Int).toNat) (((Int.ofNat u386.1.length) : Int).toNat - (u386.2 : Int).toNat) E3.d)], [], 1⟩) 0 3 3 [59] [0] rfl (by kernel_rfl) (fun hv => ?_)
              refine RefR.conv (Conv.cut (st' := ⟨[(59, .c (.own 1 ((u386.2 : Int).toNat)))], [.dead, .row 3 1 ((u386.2 : Int).toNat) (E3.at (clearL u386.1 ((u386.2 : Int).toNat) (((Int.ofNat u386.1.length) : Int).toNat - (u386.2 : Int).toNat) E3.d))], [], 1⟩) 59 (by kernel_rfl)) ?_
              refine RefR.conv (Conv.obj 1 (E3.row ((clearL u386.1 ((u386.2 : Int).toNat) (((Int.ofNat u386.1.length) : Int).toNat - (u386.2 : Int).toNat) E3.d).take ((u386.2 : Int).toNat))) (El.row_take E3 (clearL u386.1 ((u386.2 : Int).toNat) (((Int.ofNat u386.1.length) : Int).toNat - (u386.2 : Int).toNat) E3.d) (by have hq := bndOk_le (hv _ (List.Mem.head _)); try simp only [List.length_set, clearL_length] at hq ⊢; omega)) (by kernel_rfl)) ?_
              refine RefR.conv (Conv.slot 59 (.c (.own 1 (((clearL u386.1 ((u386.2 : Int).toNat) (((Int.ofNat u386.1.length) : Int).toNat - (u386.2 : Int).toNat) E3.d).take ((u386.2 : Int).toNat)).length))) (DLe.c (CLe.own (take_len (by have hq := bndOk_le (hv _ (List.Mem.head _)); try simp only [List.length_set, clearL_length] at hq ⊢; omega)))) (by kernel_rfl)) ?_
              refine RefR.ev0 (st' := ⟨[(2, .c (.own 1 (((clearL u386.1 ((u386.2 : Int).toNat) (((Int.ofNat u386.1.length) : Int).toNat - (u386.2 : Int).toNat) E3.d).take ((u386.2 : Int).toNat)).length)))], [.dead, E3.row ((clearL u386.1 ((u386.2 : Int).toNat) (((Int.ofNat u386.1.length) : Int).toNat - (u386.2 : Int).toNat) E3.d).take ((u386.2 : Int).toNat))], [], 1⟩) 3 1 4 [2] [0, 1] rfl (by kernel_rfl) ?_
              refine RefR.nilC 4 (by kernel_rfl) ?_
              exact Ref.retC (t := (Sum.inr (Sum.inr (((clearL u386.1 ((u386.2 : Int).toNat) (((Int.ofNat u386.1.length) : Int).toNat - (u386.2 : Int).toNat) E3.d).take ((u386.2 : Int).toNat)))))) (by kernel_rfl) (by kernel_rfl)
          ·
            refine Ref.skipC (by kernel_rfl) ?_
            refine Ref.conv (Conv.keep (st' := ⟨[(0, .c (.own 0 a0.length)), (3, .c (.val (.int .i64 u268)))], [E3.row a0], [], 1⟩) [0, 3] [0] (by kernel_rfl)) ?_
            exact Ref.nil (t := ()) (by kernel_rfl)
        ·
          refine Ref.regionC 5 (by kernel_rfl) ?_
          refine RefR.ev0 (st' := ⟨[(0, .c (.own 0 a0.length)), (3, .c (.val (.int .i64 (IntKind.i64.wrap (u268 + 1)))))], [E3.row a0], [], 1⟩) 0 3 3 [0, 3] [0] rfl (by kernel_rfl) ?_
          refine RefR.nilC 3 (by kernel_rfl) ?_
          exact Ref.nil (t := ((IntKind.i64.wrap (u268 + 1)))) (by kernel_rfl)
      ·
        refine Ref.conv (Conv.keep (st' := ⟨[(0, .c (.own 0 a0.length))], [E3.row a0], [], 1⟩) [0] [0] (by kernel_rfl)) ?_
        exact Ref.exitC 0 (t := (Sum.inl ())) (by kernel_rfl) (by kernel_rfl)
    ·
      refine Ref.seqC (cd (bd Try.f14) [1, 1, 1, 0]) (cd (bd Try.f14) [1, 1, 1, 1]) (by kernel_rfl) ?_
      refine Ref.regionC 16 (by kernel_rfl) ?_
      refine RefR.ev0 (st' := ⟨[(2, .c (.own 0 a0.length))], [E3.row a0], [], 1⟩) 0 2 2 [2] [0] rfl (by kernel_rfl) ?_
      refine RefR.nilC 2 (by kernel_rfl) ?_
      refine Ref.conv (Conv.move (st' := ⟨[(2, .c (.own 1 a0.length))], [.dead, E3.row a0], [], 1⟩) 0 (by kernel_rfl) (by kernel_rfl)) ?_
      exact Ref.retC (t := (a0)) (by kernel_rfl) (by kernel_rfl)
end Go.Proofs.Ytngjamedgphjiaa
