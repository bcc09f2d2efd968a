/- Plain functions, and that the Go functions do what these do: printed by gen2.py. No conditions. -/
import Derived.Test.YtaoklnkjcobokaaDoorPGb
import Derived.Test.YtaoklnkjcobokaaDoorProg
set_option linter.unusedVariables false
set_option linter.unusedSimpArgs false
set_option linter.unusedSectionVars false
namespace Go.Proofs.YtaoklnkjcobokaaDoor
open Go Go.Proofs Go.Dl

/-- governor/governorref5.digits -/
def F48 : (K : Nat) → (Int) → Option ((Bytes) ⊕ (Bytes))
 | 0, _ => none
 | K + 1, a0 =>
 (if (decide ((a0 : Int) < 10)) = true then (chk [bndOk ([48, 49, 50, 51, 52, 53, 54, 55, 56, 57] : Bytes).length a0 (IntKind.u64.wrap (a0 + 1))] (letV ((([48, 49, 50, 51, 52, 53, 54, 55, 56, 57] : Bytes).drop (a0 : Int).toNat).take (((IntKind.u64.wrap (a0 + 1)) : Int).toNat - (a0 : Int).toNat)) (fun (x1 : Bytes) => (some (.inl (x1)))))) else (chk [!(10 == 0), !(10 == 0), !(10 == 0), bndOk ([48, 49, 50, 51, 52, 53, 54, 55, 56, 57] : Bytes).length ((a0 : Int).tmod 10) (IntKind.u64.wrap (((a0 : Int).tmod 10) + 1))] (letV ((([48, 49, 50, 51, 52, 53, 54, 55, 56, 57] : Bytes).drop (((a0 : Int).tmod 10) : Int).toNat).take (((IntKind.u64.wrap (((a0 : Int).tmod 10) + 1)) : Int).toNat - (((a0 : Int).tmod 10) : Int).toNat)) (fun (x2 : Bytes) => ((fnS (F48 K (IntKind.u64.wrap ((a0 : Int).tdiv 10)))).bind (fun r3 => (chk [room (r3.length + x2.length)] (some (.inl ((r3 ++ x2)))))))))))

theorem G48_ok : ∀ K : Nat, (∀ (a0 : Int), DFun Tryd.prog 48 [.c (.val (.int .u64 a0))] [] (fnS (F48 K a0)) (fun r => .c (.str r)) (fun r => [])) := by
 intro K
 induction K with
 | zero => exact fun a0 => DFun.none (by rw [F48]; rfl)
 | succ K ih =>
  have ih48 := ih
  refine ?_

  ·
   intro a0
   refine DFun.intro (fn := Tryd.f48) (c := cd (bd Tryd.f48) []) (rs := fun r => ⟨[sS 2 r], [], [], 0⟩) (by kernel_rfl) (by kernel_rfl) (by kernel_rfl) ?_ (fun r => by kernel_rfl) (fun r => by kernel_rfl) (fun r => by kernel_rfl) (fun r => by kernel_rfl)
   rw [F48]
   refine Ref.sq ?_
   refine Ref.rn 0 ?_
   refine RefR.e0 (st' := ⟨[(0, .c (.val (.int .u64 a0)))], [], [], 0⟩) 0 1 1 [0] [] ?_
   refine RefR.nl 1 ?_
   refine Ref.sq ?_
   refine Ref.sq ?_
   refine Ref.rn 1 ?_
   refine RefR.e0 (st' := ⟨[(0, .c (.val (.int .u64 a0))), sB 4 (decide ((a0 : Int) < 10))], [], [], 0⟩) 0 2 2 [0, 4] [] ?_
   refine RefR.nl 2 ?_
   refine Ref.cn (.tmp 4) (decide ((a0 : Int) < 10)) (fun hc => ?_) (fun hc => ?_)
   ·
    refine Ref.sq ?_
    refine Ref.rn 2 ?_
    refine RefR.evC (vs := [bndOk ([48, 49, 50, 51, 52, 53, 54, 55, 56, 57] : Bytes).length a0 (IntKind.u64.wrap (a0 + 1))]) (st' := ⟨[sS 2 ((([48, 49, 50, 51, 52, 53, 54, 55, 56, 57] : Bytes).drop (a0 : Int).toNat).take (((IntKind.u64.wrap (a0 + 1)) : Int).toNat - (a0 : Int).toNat))], [], [], 0⟩) 0 5 5 [2] [] rfl (by kernel_rfl) ?_
    refine RefR.letC (stf := fun x1 => ⟨[sS 2 x1], [], [], 0⟩) (by kernel_rfl) (fun x1 => ?_)
    refine RefR.nl 5 ?_
    exact Ref.rt (t := (x1))
   ·
    refine Ref.sk ?_
    refine Ref.sq ?_
    refine Ref.drawnY 3 (by kernel_rfl) (by kernel_rfl) ?_
    refine RefY.evC (vs := [!(10 == 0), !(10 == 0), !(10 == 0), bndOk ([48, 49, 50, 51, 52, 53, 54, 55, 56, 57] : Bytes).length ((a0 : Int).tmod 10) (IntKind.u64.wrap (((a0 : Int).tmod 10) + 1))]) (st' := ⟨[(10, .c (.val (.int .u64 (IntKind.u64.wrap ((a0 : Int).tdiv 10))))), sS 17 ((([48, 49, 50, 51, 52, 53, 54, 55, 56, 57] : Bytes).drop (((a0 : Int).tmod 10) : Int).toNat).take (((IntKind.u64.wrap (((a0 : Int).tmod 10) + 1)) : Int).toNat - (((a0 : Int).tmod 10) : Int).toNat))], [], [], 0⟩) (fuel' := 3) [0, 1, 3, 4, 5, 6, 7, 8] [10, 17] [] rfl (by kernel_rfl) (by kernel_rfl) ?_
    refine RefY.letC (stf := fun x2 => ⟨[(10, .c (.val (.int .u64 (IntKind.u64.wrap ((a0 : Int).tdiv 10))))), sS 17 x2], [], [], 0⟩) (by kernel_rfl) (fun x2 => ?_)
    refine RefY.tail [2, 9, 10] rfl (by kernel_rfl) ?_
    refine RefR.callC (t := 11) 0 1 [] rfl (by kernel_rfl) (ih48 (IntKind.u64.wrap ((a0 : Int).tdiv 10))) (fun r3 => ?_)
    refine RefR.evC (vs := [room (r3.length + x2.length)]) (st' := ⟨[sS 2 (r3 ++ x2)], [], [], 0⟩) 1 2 3 [2] [] rfl (by kernel_rfl) ?_
    refine RefR.nl 3 ?_
    exact Ref.rt (t := ((r3 ++ x2)))

theorem F48_ok (K : Nat) (a0 : Int) : DFun Tryd.prog 48 [.c (.val (.int .u64 a0))] [] (fnS (F48 K a0)) (fun r => .c (.str r)) (fun r => []) := (G48_ok K) a0

/-- governor/governorref5.decimal -/
def F24 (K : Nat) (a0 : Int) : Option ((Bytes) ⊕ (Bytes)) :=
 (if (decide ((a0 : Int) < 0)) = true then (letV (IntKind.u64.wrap (IntKind.i64.wrap (0 - a0))) (fun (x1 : Int) => ((fnS (F48 K x1)).bind (fun r2 => (chk [room (([45, 32] : Bytes).length + r2.length)] (some (.inl ((([45, 32] : Bytes) ++ r2))))))))) else ((fnS (F48 K (IntKind.u64.wrap a0))).bind (fun r3 => (some (.inl (r3))))))

theorem F24_ok (K : Nat) (a0 : Int) : DFun Tryd.prog 24 [.c (.val (.int .i64 a0))] [] (fnS (F24 K a0)) (fun r => .c (.str r)) (fun r => []) := by
 refine DFun.intro (fn := Tryd.f24) (c := cd (bd Tryd.f24) []) (rs := fun r => ⟨[sS 2 r], [], [], 0⟩) (by kernel_rfl) (by kernel_rfl) (by kernel_rfl) ?_ (fun r => by kernel_rfl) (fun r => by kernel_rfl) (fun r => by kernel_rfl) (fun r => by kernel_rfl)
 unfold F24
 refine Ref.sq ?_
 refine Ref.rn 0 ?_
 refine RefR.e0 (st' := ⟨[sI 0 a0], [], [], 0⟩) 0 1 1 [0] [] ?_
 refine RefR.nl 1 ?_
 refine Ref.sq ?_
 refine Ref.sq ?_
 refine Ref.rn 1 ?_
 refine RefR.e0 (st' := ⟨[sI 0 a0, sB 4 (decide ((a0 : Int) < 0))], [], [], 0⟩) 0 2 2 [0, 4] [] ?_
 refine RefR.nl 2 ?_
 refine Ref.cn (.tmp 4) (decide ((a0 : Int) < 0)) (fun hc => ?_) (fun hc => ?_)
 ·
  refine Ref.sq ?_
  refine Ref.rn 2 ?_
  refine RefR.e0 (st' := ⟨[(7, .c (.val (.int .u64 (IntKind.u64.wrap (IntKind.i64.wrap (0 - a0))))))], [], [], 0⟩) 0 3 3 [7] [] ?_
  refine RefR.letC (stf := fun x1 => ⟨[(7, .c (.val (.int .u64 x1)))], [], [], 0⟩) (by kernel_rfl) (fun x1 => ?_)
  refine RefR.callC (t := 8) 3 4 [] rfl (by kernel_rfl) (F48_ok K x1) (fun r2 => ?_)
  refine RefR.evC (vs := [room (([45, 32] : Bytes).length + r2.length)]) (st' := ⟨[sS 2 (([45, 32] : Bytes) ++ r2)], [], [], 0⟩) 4 2 6 [2] [] rfl (by kernel_rfl) ?_
  refine RefR.nl 6 ?_
  exact Ref.rt (t := ((([45, 32] : Bytes) ++ r2)))
 ·
  refine Ref.sk ?_
  refine Ref.sq ?_
  refine Ref.rn 3 ?_
  refine RefR.e0 (st' := ⟨[(11, .c (.val (.int .u64 (IntKind.u64.wrap a0))))], [], [], 0⟩) 0 2 2 [11] [] ?_
  refine RefR.callC (t := 12) 2 3 [] rfl (by kernel_rfl) (F48_ok K (IntKind.u64.wrap a0)) (fun r3 => ?_)
  refine RefR.e0 (st' := ⟨[sS 2 r3], [], [], 0⟩) 3 1 4 [2] [] ?_
  refine RefR.nl 4 ?_
  exact Ref.rt (t := (r3))

/-- governor/governorref5.name -/
def F30 (K : Nat) (a0 : (List Bytes)) (a1 : Int) : Option ((Bytes) ⊕ (Bytes)) :=
 (letV ((decide ((a1 : Int) < 1)) || (decide ((a1 : Int) ≥ (Int.ofNat a0.length)))) (fun (x1 : Bool) => (if x1 = true then (some (.inl (([63] : Bytes)))) else (chk [inb a1 a0.length] (some (.inl ((a0.getD (a1 : Int).toNat default))))))))

theorem F30_ok (K : Nat) (a0 : (List Bytes)) (a1 : Int) : DFun Tryd.prog 30 [.c (E9.tree a0), .c (.val (.int .i64 a1))] [] (fnS (F30 K a0 a1)) (fun r => .c (.str r)) (fun r => []) := by
 refine DFun.intro (fn := Tryd.f30) (c := cd (bd Tryd.f30) []) (rs := fun r => ⟨[sS 4 r], [], [], 0⟩) (by kernel_rfl) (by kernel_rfl) (by kernel_rfl) ?_ (fun r => by kernel_rfl) (fun r => by kernel_rfl) (fun r => by kernel_rfl) (fun r => by kernel_rfl)
 unfold F30
 refine Ref.sq ?_
 refine Ref.rn 0 ?_
 refine RefR.e0 (st' := ⟨[(0, .c (E9.tree a0)), sI 1 a1], [], [], 0⟩) 0 1 1 [0, 1] [] ?_
 refine RefR.nl 1 ?_
 refine Ref.sq ?_
 refine Ref.sq ?_
 refine Ref.rn 1 ?_
 refine RefR.e0 (st' := ⟨[(0, .c (E9.tree a0)), sI 1 a1, sB 12 ((decide ((a1 : Int) < 1)) || (decide ((a1 : Int) ≥ (Int.ofNat a0.length))))], [], [], 0⟩) 0 8 8 [0, 1, 12] [] ?_
 refine RefR.letC (stf := fun x1 => ⟨[(0, .c (E9.tree a0)), sI 1 a1, sB 12 x1], [], [], 0⟩) (by kernel_rfl) (fun x1 => ?_)
 refine RefR.nl 8 ?_
 refine Ref.cn (.tmp 12) x1 (fun hc => ?_) (fun hc => ?_)
 ·
  refine Ref.sq ?_
  refine Ref.rn 2 ?_
  refine RefR.e0 (st' := ⟨[sS 4 ([63] : Bytes)], [], [], 0⟩) 0 1 1 [4] [] ?_
  refine RefR.nl 1 ?_
  exact Ref.rt (t := (([63] : Bytes)))
 ·
  refine Ref.sk ?_
  refine Ref.sq ?_
  refine Ref.rn 3 ?_
  refine RefR.evC (vs := [inb a1 a0.length]) (st' := ⟨[sS 4 (a0.getD (a1 : Int).toNat default)], [], [], 0⟩) 0 5 5 [4] [] rfl (by kernel_rfl) ?_
  refine RefR.nl 5 ?_
  exact Ref.rt (t := ((a0.getD (a1 : Int).toNat default)))

/-- governor/governorref5.op -/
def F27 (K : Nat) (a0 : Int) : Option ((Bytes) ⊕ (Bytes)) :=
 ((condM true (fnS (F30 K [([] : Bytes), ([43] : Bytes), ([45] : Bytes), ([42] : Bytes), ([47] : Bytes), ([77, 79, 68] : Bytes), ([61] : Bytes), ([60, 62] : Bytes), ([60] : Bytes), ([60, 61] : Bytes), ([62] : Bytes), ([62, 61] : Bytes), ([65, 78, 68] : Bytes), ([79, 82] : Bytes), ([88, 79, 82] : Bytes)] a0)) default).bind (fun r1 => (some (.inl (r1)))))

theorem F27_ok (K : Nat) (a0 : Int) : DFun Tryd.prog 27 [.c (.val (.int .i64 a0))] [] (fnS (F27 K a0)) (fun r => .c (.str r)) (fun r => []) := by
 refine DFun.intro (fn := Tryd.f27) (c := cd (bd Tryd.f27) []) (rs := fun r => ⟨[sS 2 r], [], [], 0⟩) (by kernel_rfl) (by kernel_rfl) (by kernel_rfl) ?_ (fun r => by kernel_rfl) (fun r => by kernel_rfl) (fun r => by kernel_rfl) (fun r => by kernel_rfl)
 unfold F27
 refine Ref.sq ?_
 refine Ref.rn 0 ?_
 refine RefR.e0 (st' := ⟨[sI 0 a0], [], [], 0⟩) 0 1 1 [0] [] ?_
 refine RefR.nl 1 ?_
 refine Ref.sq ?_
 refine Ref.rn 1 ?_
 refine RefR.e0 (st' := ⟨[sI 0 a0, (3, .c (.own 0 15))], [.row 9 1 15 (tbl [[.str ([] : Bytes)], [.str ([43] : Bytes)], [.str ([45] : Bytes)], [.str ([42] : Bytes)], [.str ([47] : Bytes)], [.str ([77, 79, 68] : Bytes)], [.str ([61] : Bytes)], [.str ([60, 62] : Bytes)], [.str ([60] : Bytes)], [.str ([60, 61] : Bytes)], [.str ([62] : Bytes)], [.str ([62, 61] : Bytes)], [.str ([65, 78, 68] : Bytes)], [.str ([79, 82] : Bytes)], [.str ([88, 79, 82] : Bytes)]])], [], 0⟩) 0 1 1 [0, 3] [0] ?_
 refine RefR.conv (Conv.obj 0 (E9.row [([] : Bytes), ([43] : Bytes), ([45] : Bytes), ([42] : Bytes), ([47] : Bytes), ([77, 79, 68] : Bytes), ([61] : Bytes), ([60, 62] : Bytes), ([60] : Bytes), ([60, 61] : Bytes), ([62] : Bytes), ([62, 61] : Bytes), ([65, 78, 68] : Bytes), ([79, 82] : Bytes), ([88, 79, 82] : Bytes)]) (El.row_build E9 [([] : Bytes), ([43] : Bytes), ([45] : Bytes), ([42] : Bytes), ([47] : Bytes), ([77, 79, 68] : Bytes), ([61] : Bytes), ([60, 62] : Bytes), ([60] : Bytes), ([60, 61] : Bytes), ([62] : Bytes), ([62, 61] : Bytes), ([65, 78, 68] : Bytes), ([79, 82] : Bytes), ([88, 79, 82] : Bytes)] rfl (by kernel_rfl)) (by kernel_rfl)) ?_
 refine RefR.conv (Conv.slot 3 (.c (.own 0 ([([] : Bytes), ([43] : Bytes), ([45] : Bytes), ([42] : Bytes), ([47] : Bytes), ([77, 79, 68] : Bytes), ([61] : Bytes), ([60, 62] : Bytes), ([60] : Bytes), ([60, 61] : Bytes), ([62] : Bytes), ([62, 61] : Bytes), ([65, 78, 68] : Bytes), ([79, 82] : Bytes), ([88, 79, 82] : Bytes)].length))) (DLe.c (CLe.own (by simp <;> omega))) (by kernel_rfl)) ?_
 refine RefR.e0 (st' := ⟨[(3, .c (.own 0 ([([] : Bytes), ([43] : Bytes), ([45] : Bytes), ([42] : Bytes), ([47] : Bytes), ([77, 79, 68] : Bytes), ([61] : Bytes), ([60, 62] : Bytes), ([60] : Bytes), ([60, 61] : Bytes), ([62] : Bytes), ([62, 61] : Bytes), ([65, 78, 68] : Bytes), ([79, 82] : Bytes), ([88, 79, 82] : Bytes)].length))), sI 4 a0], [E9.row [([] : Bytes), ([43] : Bytes), ([45] : Bytes), ([42] : Bytes), ([47] : Bytes), ([77, 79, 68] : Bytes), ([61] : Bytes), ([60, 62] : Bytes), ([60] : Bytes), ([60, 61] : Bytes), ([62] : Bytes), ([62, 61] : Bytes), ([65, 78, 68] : Bytes), ([79, 82] : Bytes), ([88, 79, 82] : Bytes)]], [], 0⟩) 1 1 2 [3, 4] [0] ?_
 refine RefR.lookC (t := 5) (g := []) (b := true) 2 3 [0] (default : Bytes) rfl (by kernel_rfl) (F30_ok K [([] : Bytes), ([43] : Bytes), ([45] : Bytes), ([42] : Bytes), ([47] : Bytes), ([77, 79, 68] : Bytes), ([61] : Bytes), ([60, 62] : Bytes), ([60] : Bytes), ([60, 61] : Bytes), ([62] : Bytes), ([62, 61] : Bytes), ([65, 78, 68] : Bytes), ([79, 82] : Bytes), ([88, 79, 82] : Bytes)] a0) (fun _ => rfl) (fun r1 => ?_)
 refine RefR.e0 (st' := ⟨[sS 2 r1], [], [], 0⟩) 3 1 4 [2] [] ?_
 refine RefR.nl 4 ?_
 exact Ref.rt (t := (r1))

mutual

/-- governor/governorref5.Expr -/
def F11 : (K : Nat) → (S27) → Option ((Bytes) ⊕ (Bytes))
 | 0, _ => none
 | K + 1, a0 =>
 (bindS (blockS (if ((a0.fKind : Int) == 1) = true then ((fnS (F24 K a0.fN)).bind (fun r19 => (some (.inl (Sum.inr (r19)))))) else (if ((a0.fKind : Int) == 2) = true then (some (.inl (Sum.inr (([84, 82, 85, 69] : Bytes))))) else (if ((a0.fKind : Int) == 3) = true then (some (.inl (Sum.inr (([70, 65, 76, 83, 69] : Bytes))))) else (if ((a0.fKind : Int) == 4) = true then (some (.inl (Sum.inr (([78, 85, 76, 76] : Bytes))))) else (if ((a0.fKind : Int) == 5) = true then (some (.inl (Sum.inr (a0.fName)))) else (if ((a0.fKind : Int) == 6) = true then (chk [room (a0.fName.length + ([32, 91, 32] : Bytes).length)] ((condM true (fnS (F25 K a0.fArgs 0)) default).bind (fun r20 => (chk [room ((a0.fName ++ ([32, 91, 32] : Bytes)).length + r20.length), room (((a0.fName ++ ([32, 91, 32] : Bytes)) ++ r20).length + ([32, 93] : Bytes).length)] (letV (((a0.fName ++ ([32, 91, 32] : Bytes)) ++ r20) ++ ([32, 93] : Bytes)) (fun (x21 : Bytes) => (some (.inl (Sum.inr (x21)))))))))) else (if ((a0.fKind : Int) == 7) = true then ((fnS (F26 K a0.fArgs 0)).bind (fun r22 => (chk [room (([45, 32] : Bytes).length + r22.length)] (some (.inl (Sum.inr ((([45, 32] : Bytes) ++ r22)))))))) else (if ((a0.fKind : Int) == 8) = true then ((fnS (F26 K a0.fArgs 0)).bind (fun r23 => (chk [room (([78, 79, 84, 32] : Bytes).length + r23.length)] (some (.inl (Sum.inr ((([78, 79, 84, 32] : Bytes) ++ r23)))))))) else (if ((a0.fKind : Int) == 9) = true then ((condM true (fnS (F26 K a0.fArgs 0)) default).bind (fun r24 => (chk [room (r24.length + ([32] : Bytes).length)] ((condM true (fnS (F27 K a0.fN)) default).bind (fun r25 => (chk [room ((r24 ++ ([32] : Bytes)).length + r25.length), room (((r24 ++ ([32] : Bytes)) ++ r25).length + ([32] : Bytes).length)] (letV (((r24 ++ ([32] : Bytes)) ++ r25) ++ ([32] : Bytes)) (fun (x26 : Bytes) => ((condM true (fnS (F26 K a0.fArgs 1)) default).bind (fun r27 => (chk [room (x26.length + r27.length)] (some (.inl (Sum.inr ((x26 ++ r27)))))))))))))))) else (if ((a0.fKind : Int) == 10) = true then (chk [room (([82, 69, 70, 32, 40, 32] : Bytes).length + a0.fName.length), room ((([82, 69, 70, 32, 40, 32] : Bytes) ++ a0.fName).length + ([32, 41] : Bytes).length)] (letV ((([82, 69, 70, 32, 40, 32] : Bytes) ++ a0.fName) ++ ([32, 41] : Bytes)) (fun (x28 : Bytes) => (some (.inl (Sum.inr (x28))))))) else (if ((a0.fKind : Int) == 11) = true then (chk [room (([68, 79, 78, 69, 32, 40, 32] : Bytes).length + a0.fName.length), room ((([68, 79, 78, 69, 32, 40, 32] : Bytes) ++ a0.fName).length + ([32, 41] : Bytes).length)] (letV ((([68, 79, 78, 69, 32, 40, 32] : Bytes) ++ a0.fName) ++ ([32, 41] : Bytes)) (fun (x29 : Bytes) => (some (.inl (Sum.inr (x29))))))) else (if ((a0.fKind : Int) == 12) = true then (chk [room (([67, 79, 85, 78, 84, 32, 40, 32] : Bytes).length + a0.fName.length), room ((([67, 79, 85, 78, 84, 32, 40, 32] : Bytes) ++ a0.fName).length + ([32, 41] : Bytes).length)] (letV ((([67, 79, 85, 78, 84, 32, 40, 32] : Bytes) ++ a0.fName) ++ ([32, 41] : Bytes)) (fun (x30 : Bytes) => (some (.inl (Sum.inr (x30))))))) else (if ((a0.fKind : Int) == 14) = true then (chk [room (([65, 83, 32] : Bytes).length + a0.fName.length), room ((([65, 83, 32] : Bytes) ++ a0.fName).length + ([32, 40, 32] : Bytes).length)] (letV ((([65, 83, 32] : Bytes) ++ a0.fName) ++ ([32, 40, 32] : Bytes)) (fun (x31 : Bytes) => ((condM true (fnS (F25 K a0.fArgs 0)) default).bind (fun r32 => (chk [room (x31.length + r32.length), room ((x31 ++ r32).length + ([32, 41] : Bytes).length)] (some (.inl (Sum.inr (((x31 ++ r32) ++ ([32, 41] : Bytes)))))))))))) else (if ((a0.fKind : Int) == 13) = true then (bindS (blockS (if ((a0.fN : Int) == 0) = true then (some (.inr (a0.fName))) else (if ((a0.fN : Int) == 1) = true then (some (.inr (([84, 72, 73, 83] : Bytes)))) else (if ((a0.fN : Int) == 2) = true then (some (.inr (([83, 85, 80, 69, 82] : Bytes)))) else (some (.inr (([63] : Bytes)))))))) (fun (u33 : Bytes) => (chk [room (u33.length + ([32, 46, 32] : Bytes).length)] (chk [room ((u33 ++ ([32, 46, 32] : Bytes)).length + a0.fWhat.length), room (((u33 ++ ([32, 46, 32] : Bytes)) ++ a0.fWhat).length + ([32, 40, 32] : Bytes).length)] (letV (((u33 ++ ([32, 46, 32] : Bytes)) ++ a0.fWhat) ++ ([32, 40, 32] : Bytes)) (fun (x34 : Bytes) => ((condM true (fnS (F28 K a0.fArgs)) default).bind (fun r35 => (chk [room (x34.length + r35.length), room ((x34 ++ r35).length + ([41] : Bytes).length)] (some (.inl (Sum.inr (((x34 ++ r35) ++ ([41] : Bytes))))))))))))))) else (some (.inr ()))))))))))))))))) (fun (u18 : Unit) => (some (.inl (([63] : Bytes))))))

/-- governor/governorref5.at -/
def F25 : (K : Nat) → ((List S27)) → (Int) → Option ((Bytes) ⊕ (Bytes))
 | 0, _, _ => none
 | K + 1, a0, a1 =>
 (letV (decide ((a1 : Int) ≥ (Int.ofNat a0.length))) (fun (x1 : Bool) => (if x1 = true then (some (.inl (([63] : Bytes)))) else (chk [inb a1 a0.length] ((fnS (F11 K (a0.getD (a1 : Int).toNat default))).bind (fun r2 => (some (.inl (r2)))))))))

/-- governor/governorref5.operand -/
def F26 : (K : Nat) → ((List S27)) → (Int) → Option ((Bytes) ⊕ (Bytes))
 | 0, _, _ => none
 | K + 1, a0, a1 =>
 ((fnS (F25 K a0 a1)).bind (fun r1 => (letV (decide ((a1 : Int) < (Int.ofNat a0.length))) (fun (x2 : Bool) => (chk [!x2 || inb a1 a0.length] (chk [!((!((((a0.getD (a1 : Int).toNat default).fKind) : Int) == 7)) && x2) || inb a1 a0.length] (chk [!((!(((((a0.getD (a1 : Int).toNat default).fKind) : Int) == 7) || ((((a0.getD (a1 : Int).toNat default).fKind) : Int) == 8))) && x2) || inb a1 a0.length] (letV (x2 && ((((((a0.getD (a1 : Int).toNat default).fKind) : Int) == 7) || ((((a0.getD (a1 : Int).toNat default).fKind) : Int) == 8)) || ((((a0.getD (a1 : Int).toNat default).fKind) : Int) == 9))) (fun (x3 : Bool) => (if x3 = true then (chk [room (([40, 32] : Bytes).length + r1.length), room ((([40, 32] : Bytes) ++ r1).length + ([32, 41] : Bytes).length)] (letV ((([40, 32] : Bytes) ++ r1) ++ ([32, 41] : Bytes)) (fun (x4 : Bytes) => (some (.inl (x4)))))) else (some (.inl (r1)))))))))))))

/-- governor/governorref5.args -/
def F28 : (K : Nat) → ((List S27)) → Option ((Bytes) ⊕ (Bytes))
 | 0, _ => none
 | K + 1, a0 =>
 (bindS (blockS ((iter K (fun (u28 : Bytes × Int) => (letV (decide ((u28.2 : Int) < (Int.ofNat a0.length))) (fun (x36 : Bool) => (if x36 = true then (bindS (blockS (bindS (if (decide ((u28.2 : Int) > 0)) = true then (chk [room (u28.1.length + ([44, 32] : Bytes).length)] (some (.inr ((u28.1 ++ ([44, 32] : Bytes)))))) else (some (.inr (u28.1)))) (fun (u40 : Bytes) => (chk [inb u28.2 a0.length] ((fnS (F11 K (a0.getD (u28.2 : Int).toNat default))).bind (fun r41 => (chk [room (u40.length + r41.length), room ((u40 ++ r41).length + ([32] : Bytes).length)] (some (.inr (((u40 ++ r41) ++ ([32] : Bytes)))))))))))) (fun (u39 : Bytes) => (some (.inr (u39, (IntKind.i64.wrap (u28.2 + 1))))))) else (some (.inl (Sum.inl (u28.1)))))))) (([] : Bytes), 0)).map .inl)) (fun (u21 : Bytes) => (some (.inl (u21)))))

end

theorem G11_ok : ∀ K : Nat, (∀ (a0 : S27), DFun Tryd.prog 11 [.agg (E27.cs a0)] [] (fnS (F11 K a0)) (fun r => .c (.str r)) (fun r => [])) ∧ (∀ (a0 : (List S27)), ∀ (a1 : Int), DFun Tryd.prog 25 [.c (E27.tree a0), .c (.val (.int .i64 a1))] [] (fnS (F25 K a0 a1)) (fun r => .c (.str r)) (fun r => [])) ∧ (∀ (a0 : (List S27)), ∀ (a1 : Int), DFun Tryd.prog 26 [.c (E27.tree a0), .c (.val (.int .i64 a1))] [] (fnS (F26 K a0 a1)) (fun r => .c (.str r)) (fun r => [])) ∧ (∀ (a0 : (List S27)), DFun Tryd.prog 28 [.c (E27.tree a0)] [] (fnS (F28 K a0)) (fun r => .c (.str r)) (fun r => [])) := by
 intro K
 induction K with
 | zero => exact ⟨fun a0 => DFun.none (by rw [F11]; rfl), fun a0 a1 => DFun.none (by rw [F25]; rfl), fun a0 a1 => DFun.none (by rw [F26]; rfl), fun a0 => DFun.none (by rw [F28]; rfl)⟩
 | succ K ih =>
  obtain ⟨ih11, ih25, ih26, ih28⟩ := ih
  refine ⟨?_, ?_, ?_, ?_⟩

  ·
   intro a0
   refine DFun.intro (fn := Tryd.f11) (c := cd (bd Tryd.f11) []) (rs := fun r => ⟨[sS 2 r], [], [], 0⟩) (by kernel_rfl) (by kernel_rfl) (by kernel_rfl) ?_ (fun r => by kernel_rfl) (fun r => by kernel_rfl) (fun r => by kernel_rfl) (fun r => by kernel_rfl)
   rw [F11]
   refine Ref.sq ?_
   refine Ref.rn 0 ?_
   refine RefR.e0 (st' := ⟨[sP 1 0 0 0], [.cells (E27.cs a0)], [], 0⟩) 0 2 2 [1] [0] ?_
   refine RefR.nl 2 ?_
   refine Ref.sq ?_
   refine Ref.sq ?_
   refine Ref.rn 1 ?_
   refine RefR.e0 (st' := ⟨[sP 1 0 0 0, sI 5 a0.fKind], [.cells (E27.cs a0)], [], 0⟩) 0 2 2 [1, 5] [0] ?_
   refine RefR.nl 2 ?_
   refine Ref.codeEq (c' := .block 0 (cd (bd Tryd.f11) [1, 0, 1, 0])) (by kernel_rfl) ?_
   refine Ref.block (go1 := fun u18 => ⟨[], [], [], 0⟩) ?_ (fun _ h => by cases h) (fun u18 => ?_)
   ·
    refine Ref.sq ?_
    refine Ref.rn 2 ?_
    refine RefR.e0 (st' := ⟨[sP 1 0 0 0, sI 5 a0.fKind, sB 6 ((a0.fKind : Int) == 1)], [.cells (E27.cs a0)], [], 0⟩) 0 2 2 [1, 5, 6] [0] ?_
    refine RefR.nl 2 ?_
    refine Ref.cn (.tmp 6) ((a0.fKind : Int) == 1) (fun hc => ?_) (fun hc => ?_)
    ·
     refine Ref.sq ?_
     refine Ref.rn 3 ?_
     refine RefR.e0 (st' := ⟨[sI 9 a0.fN], [], [], 0⟩) 0 2 2 [9] [] ?_
     refine RefR.callC (t := 10) 2 3 [] rfl (by kernel_rfl) (F24_ok K a0.fN) (fun r19 => ?_)
     refine RefR.e0 (st' := ⟨[sS 2 r19], [], [], 0⟩) 3 1 4 [2] [] ?_
     refine RefR.nl 4 ?_
     exact Ref.rt (t := (Sum.inr (r19)))
    ·
     refine Ref.sq ?_
     refine Ref.rn 4 ?_
     refine RefR.e0 (st' := ⟨[sP 1 0 0 0, sI 5 a0.fKind, sB 11 ((a0.fKind : Int) == 2)], [.cells (E27.cs a0)], [], 0⟩) 0 2 2 [1, 5, 11] [0] ?_
     refine RefR.nl 2 ?_
     refine Ref.cn (.tmp 11) ((a0.fKind : Int) == 2) (fun hc => ?_) (fun hc => ?_)
     ·
      refine Ref.sq ?_
      refine Ref.rn 5 ?_
      refine RefR.e0 (st' := ⟨[sS 2 ([84, 82, 85, 69] : Bytes)], [], [], 0⟩) 0 1 1 [2] [] ?_
      refine RefR.nl 1 ?_
      exact Ref.rt (t := (Sum.inr (([84, 82, 85, 69] : Bytes))))
     ·
      refine Ref.sq ?_
      refine Ref.rn 6 ?_
      refine RefR.e0 (st' := ⟨[sP 1 0 0 0, sI 5 a0.fKind, sB 13 ((a0.fKind : Int) == 3)], [.cells (E27.cs a0)], [], 0⟩) 0 2 2 [1, 5, 13] [0] ?_
      refine RefR.nl 2 ?_
      refine Ref.cn (.tmp 13) ((a0.fKind : Int) == 3) (fun hc => ?_) (fun hc => ?_)
      ·
       refine Ref.sq ?_
       refine Ref.rn 7 ?_
       refine RefR.e0 (st' := ⟨[sS 2 ([70, 65, 76, 83, 69] : Bytes)], [], [], 0⟩) 0 1 1 [2] [] ?_
       refine RefR.nl 1 ?_
       exact Ref.rt (t := (Sum.inr (([70, 65, 76, 83, 69] : Bytes))))
      ·
       refine Ref.sq ?_
       refine Ref.rn 8 ?_
       refine RefR.e0 (st' := ⟨[sP 1 0 0 0, sI 5 a0.fKind, sB 15 ((a0.fKind : Int) == 4)], [.cells (E27.cs a0)], [], 0⟩) 0 2 2 [1, 5, 15] [0] ?_
       refine RefR.nl 2 ?_
       refine Ref.cn (.tmp 15) ((a0.fKind : Int) == 4) (fun hc => ?_) (fun hc => ?_)
       ·
        refine Ref.sq ?_
        refine Ref.rn 9 ?_
        refine RefR.e0 (st' := ⟨[sS 2 ([78, 85, 76, 76] : Bytes)], [], [], 0⟩) 0 1 1 [2] [] ?_
        refine RefR.nl 1 ?_
        exact Ref.rt (t := (Sum.inr (([78, 85, 76, 76] : Bytes))))
       ·
        refine Ref.sq ?_
        refine Ref.rn 10 ?_
        refine RefR.e0 (st' := ⟨[sP 1 0 0 0, sI 5 a0.fKind, sB 17 ((a0.fKind : Int) == 5)], [.cells (E27.cs a0)], [], 0⟩) 0 2 2 [1, 5, 17] [0] ?_
        refine RefR.nl 2 ?_
        refine Ref.cn (.tmp 17) ((a0.fKind : Int) == 5) (fun hc => ?_) (fun hc => ?_)
        ·
         refine Ref.sq ?_
         refine Ref.rn 11 ?_
         refine RefR.e0 (st' := ⟨[sS 2 a0.fName], [], [], 0⟩) 0 3 3 [2] [] ?_
         refine RefR.nl 3 ?_
         exact Ref.rt (t := (Sum.inr (a0.fName)))
        ·
         refine Ref.sq ?_
         refine Ref.rn 12 ?_
         refine RefR.e0 (st' := ⟨[sP 1 0 0 0, sI 5 a0.fKind, sB 21 ((a0.fKind : Int) == 6)], [.cells (E27.cs a0)], [], 0⟩) 0 2 2 [1, 5, 21] [0] ?_
         refine RefR.nl 2 ?_
         refine Ref.cn (.tmp 21) ((a0.fKind : Int) == 6) (fun hc => ?_) (fun hc => ?_)
         ·
          refine Ref.sq ?_
          refine Ref.drawnY 13 (by kernel_rfl) (by kernel_rfl) ?_
          refine RefY.evC0 (st' := ⟨[sP 23 0 0 2, sP 26 0 0 4], [.cells (E27.cs a0)], [], 0⟩) (fuel' := 7) [0, 3] [23, 26] [0] rfl (by kernel_rfl) (by kernel_rfl) ?_
          refine RefY.toX [] ?_
          refine RefX.evC (vs := [room (a0.fName.length + ([32, 91, 32] : Bytes).length)]) (st' := ⟨[sS 25 (a0.fName ++ ([32, 91, 32] : Bytes)), (27, .c (NT27 a0.fArgs))], [], [], 0⟩) (fuel' := 4) [1, 2, 4] [25, 27] [] rfl (by kernel_rfl) (by kernel_rfl) ?_
          refine RefX.conv (Conv.slot 27 (.c (E27.tree a0.fArgs)) (DLe.c (NT27_le _)) (by kernel_rfl)) ?_
          refine RefX.lookC (t := 28) (g := []) (b := true) (fuel' := 3) 5 [] (default : Bytes) rfl (by kernel_rfl) (by kernel_rfl) (ih25 a0.fArgs 0) (fun _ => rfl) (fun r20 => ?_)
          refine RefX.evC (vs := [room ((a0.fName ++ ([32, 91, 32] : Bytes)).length + r20.length), room (((a0.fName ++ ([32, 91, 32] : Bytes)) ++ r20).length + ([32, 93] : Bytes).length)]) (st' := ⟨[sS 2 (((a0.fName ++ ([32, 91, 32] : Bytes)) ++ r20) ++ ([32, 93] : Bytes))], [], [], 0⟩) (fuel' := 0) [6, 7, 8] [2] [] rfl (by kernel_rfl) (by kernel_rfl) ?_
          refine RefX.letC (stf := fun x21 => ⟨[sS 2 x21], [], [], 0⟩) (by kernel_rfl) (fun x21 => ?_)
          refine RefX.done (by kernel_rfl) ?_
          exact Ref.rt (t := (Sum.inr (x21)))
         ·
          refine Ref.sq ?_
          refine Ref.rn 14 ?_
          refine RefR.e0 (st' := ⟨[sP 1 0 0 0, sI 5 a0.fKind, sB 31 ((a0.fKind : Int) == 7)], [.cells (E27.cs a0)], [], 0⟩) 0 2 2 [1, 5, 31] [0] ?_
          refine RefR.nl 2 ?_
          refine Ref.cn (.tmp 31) ((a0.fKind : Int) == 7) (fun hc => ?_) (fun hc => ?_)
          ·
           refine Ref.sq ?_
           refine Ref.rn 15 ?_
           refine RefR.e0 (st' := ⟨[(34, .c (NT27 a0.fArgs))], [], [], 0⟩) 0 2 2 [34] [] ?_
           refine RefR.conv (Conv.slot 34 (.c (E27.tree a0.fArgs)) (DLe.c (NT27_le _)) (by kernel_rfl)) ?_
           refine RefR.callC (t := 35) 2 3 [] rfl (by kernel_rfl) (ih26 a0.fArgs 0) (fun r22 => ?_)
           refine RefR.evC (vs := [room (([45, 32] : Bytes).length + r22.length)]) (st' := ⟨[sS 2 (([45, 32] : Bytes) ++ r22)], [], [], 0⟩) 3 2 5 [2] [] rfl (by kernel_rfl) ?_
           refine RefR.nl 5 ?_
           exact Ref.rt (t := (Sum.inr ((([45, 32] : Bytes) ++ r22))))
          ·
           refine Ref.sq ?_
           refine Ref.rn 16 ?_
           refine RefR.e0 (st' := ⟨[sP 1 0 0 0, sI 5 a0.fKind, sB 37 ((a0.fKind : Int) == 8)], [.cells (E27.cs a0)], [], 0⟩) 0 2 2 [1, 5, 37] [0] ?_
           refine RefR.nl 2 ?_
           refine Ref.cn (.tmp 37) ((a0.fKind : Int) == 8) (fun hc => ?_) (fun hc => ?_)
           ·
            refine Ref.sq ?_
            refine Ref.rn 17 ?_
            refine RefR.e0 (st' := ⟨[(40, .c (NT27 a0.fArgs))], [], [], 0⟩) 0 2 2 [40] [] ?_
            refine RefR.conv (Conv.slot 40 (.c (E27.tree a0.fArgs)) (DLe.c (NT27_le _)) (by kernel_rfl)) ?_
            refine RefR.callC (t := 41) 2 3 [] rfl (by kernel_rfl) (ih26 a0.fArgs 0) (fun r23 => ?_)
            refine RefR.evC (vs := [room (([78, 79, 84, 32] : Bytes).length + r23.length)]) (st' := ⟨[sS 2 (([78, 79, 84, 32] : Bytes) ++ r23)], [], [], 0⟩) 3 2 5 [2] [] rfl (by kernel_rfl) ?_
            refine RefR.nl 5 ?_
            exact Ref.rt (t := (Sum.inr ((([78, 79, 84, 32] : Bytes) ++ r23))))
           ·
            refine Ref.sq ?_
            refine Ref.rn 18 ?_
            refine RefR.e0 (st' := ⟨[sP 1 0 0 0, sI 5 a0.fKind, sB 43 ((a0.fKind : Int) == 9)], [.cells (E27.cs a0)], [], 0⟩) 0 2 2 [1, 5, 43] [0] ?_
            refine RefR.nl 2 ?_
            refine Ref.cn (.tmp 43) ((a0.fKind : Int) == 9) (fun hc => ?_) (fun hc => ?_)
            ·
             refine Ref.sq ?_
             refine Ref.drawnY 19 (by kernel_rfl) (by kernel_rfl) ?_
             refine RefY.evC0 (st' := ⟨[sP 45 0 0 4, sP 49 0 0 1, sP 54 0 0 4], [.cells (E27.cs a0)], [], 0⟩) (fuel' := 11) [0, 4, 9] [45, 49, 54] [0] rfl (by kernel_rfl) (by kernel_rfl) ?_
             refine RefY.toX [] ?_
             refine RefX.evC0 (st' := ⟨[(46, .c (NT27 a0.fArgs)), sI 50 a0.fN, (55, .c (NT27 a0.fArgs))], [], [], 0⟩) (fuel' := 8) [1, 5, 10] [46, 50, 55] [] rfl (by kernel_rfl) (by kernel_rfl) ?_
             refine RefX.conv (Conv.slot 46 (.c (E27.tree a0.fArgs)) (DLe.c (NT27_le _)) (by kernel_rfl)) ?_
             refine RefX.conv (Conv.slot 55 (.c (E27.tree a0.fArgs)) (DLe.c (NT27_le _)) (by kernel_rfl)) ?_
             refine RefX.lookC (t := 47) (g := []) (b := true) (fuel' := 7) 2 [] (default : Bytes) rfl (by kernel_rfl) (by kernel_rfl) (ih26 a0.fArgs 0) (fun _ => rfl) (fun r24 => ?_)
             refine RefX.evC (vs := [room (r24.length + ([32] : Bytes).length)]) (st' := ⟨[sS 48 (r24 ++ ([32] : Bytes)), sI 50 a0.fN, (55, .c (E27.tree a0.fArgs))], [], [], 0⟩) (fuel' := 6) [3] [48, 50, 55] [] rfl (by kernel_rfl) (by kernel_rfl) ?_
             refine RefX.lookC (t := 51) (g := []) (b := true) (fuel' := 5) 6 [] (default : Bytes) rfl (by kernel_rfl) (by kernel_rfl) (F27_ok K a0.fN) (fun _ => rfl) (fun r25 => ?_)
             refine RefX.evC (vs := [room ((r24 ++ ([32] : Bytes)).length + r25.length), room (((r24 ++ ([32] : Bytes)) ++ r25).length + ([32] : Bytes).length)]) (st' := ⟨[sS 53 (((r24 ++ ([32] : Bytes)) ++ r25) ++ ([32] : Bytes)), (55, .c (E27.tree a0.fArgs))], [], [], 0⟩) (fuel' := 3) [7, 8] [53, 55] [] rfl (by kernel_rfl) (by kernel_rfl) ?_
             refine RefX.letC (stf := fun x26 => ⟨[sS 53 x26, (55, .c (E27.tree a0.fArgs))], [], [], 0⟩) (by kernel_rfl) (fun x26 => ?_)
             refine RefX.lookC (t := 56) (g := []) (b := true) (fuel' := 2) 11 [] (default : Bytes) rfl (by kernel_rfl) (by kernel_rfl) (ih26 a0.fArgs 1) (fun _ => rfl) (fun r27 => ?_)
             refine RefX.evC (vs := [room (x26.length + r27.length)]) (st' := ⟨[sS 2 (x26 ++ r27)], [], [], 0⟩) (fuel' := 0) [12, 13] [2] [] rfl (by kernel_rfl) (by kernel_rfl) ?_
             refine RefX.done (by kernel_rfl) ?_
             exact Ref.rt (t := (Sum.inr ((x26 ++ r27))))
            ·
             refine Ref.sq ?_
             refine Ref.rn 20 ?_
             refine RefR.e0 (st' := ⟨[sP 1 0 0 0, sI 5 a0.fKind, sB 58 ((a0.fKind : Int) == 10)], [.cells (E27.cs a0)], [], 0⟩) 0 2 2 [1, 5, 58] [0] ?_
             refine RefR.nl 2 ?_
             refine Ref.cn (.tmp 58) ((a0.fKind : Int) == 10) (fun hc => ?_) (fun hc => ?_)
             ·
              refine Ref.sq ?_
              refine Ref.rn 21 ?_
              refine RefR.evC (vs := [room (([82, 69, 70, 32, 40, 32] : Bytes).length + a0.fName.length), room ((([82, 69, 70, 32, 40, 32] : Bytes) ++ a0.fName).length + ([32, 41] : Bytes).length)]) (st' := ⟨[sS 2 ((([82, 69, 70, 32, 40, 32] : Bytes) ++ a0.fName) ++ ([32, 41] : Bytes))], [], [], 0⟩) 0 5 5 [2] [] rfl (by kernel_rfl) ?_
              refine RefR.letC (stf := fun x28 => ⟨[sS 2 x28], [], [], 0⟩) (by kernel_rfl) (fun x28 => ?_)
              refine RefR.nl 5 ?_
              exact Ref.rt (t := (Sum.inr (x28)))
             ·
              refine Ref.sq ?_
              refine Ref.rn 22 ?_
              refine RefR.e0 (st' := ⟨[sP 1 0 0 0, sI 5 a0.fKind, sB 64 ((a0.fKind : Int) == 11)], [.cells (E27.cs a0)], [], 0⟩) 0 2 2 [1, 5, 64] [0] ?_
              refine RefR.nl 2 ?_
              refine Ref.cn (.tmp 64) ((a0.fKind : Int) == 11) (fun hc => ?_) (fun hc => ?_)
              ·
               refine Ref.sq ?_
               refine Ref.rn 23 ?_
               refine RefR.evC (vs := [room (([68, 79, 78, 69, 32, 40, 32] : Bytes).length + a0.fName.length), room ((([68, 79, 78, 69, 32, 40, 32] : Bytes) ++ a0.fName).length + ([32, 41] : Bytes).length)]) (st' := ⟨[sS 2 ((([68, 79, 78, 69, 32, 40, 32] : Bytes) ++ a0.fName) ++ ([32, 41] : Bytes))], [], [], 0⟩) 0 5 5 [2] [] rfl (by kernel_rfl) ?_
               refine RefR.letC (stf := fun x29 => ⟨[sS 2 x29], [], [], 0⟩) (by kernel_rfl) (fun x29 => ?_)
               refine RefR.nl 5 ?_
               exact Ref.rt (t := (Sum.inr (x29)))
              ·
               refine Ref.sq ?_
               refine Ref.rn 24 ?_
               refine RefR.e0 (st' := ⟨[sP 1 0 0 0, sI 5 a0.fKind, sB 70 ((a0.fKind : Int) == 12)], [.cells (E27.cs a0)], [], 0⟩) 0 2 2 [1, 5, 70] [0] ?_
               refine RefR.nl 2 ?_
               refine Ref.cn (.tmp 70) ((a0.fKind : Int) == 12) (fun hc => ?_) (fun hc => ?_)
               ·
                refine Ref.sq ?_
                refine Ref.rn 25 ?_
                refine RefR.evC (vs := [room (([67, 79, 85, 78, 84, 32, 40, 32] : Bytes).length + a0.fName.length), room ((([67, 79, 85, 78, 84, 32, 40, 32] : Bytes) ++ a0.fName).length + ([32, 41] : Bytes).length)]) (st' := ⟨[sS 2 ((([67, 79, 85, 78, 84, 32, 40, 32] : Bytes) ++ a0.fName) ++ ([32, 41] : Bytes))], [], [], 0⟩) 0 5 5 [2] [] rfl (by kernel_rfl) ?_
                refine RefR.letC (stf := fun x30 => ⟨[sS 2 x30], [], [], 0⟩) (by kernel_rfl) (fun x30 => ?_)
                refine RefR.nl 5 ?_
                exact Ref.rt (t := (Sum.inr (x30)))
               ·
                refine Ref.sq ?_
                refine Ref.rn 26 ?_
                refine RefR.e0 (st' := ⟨[sP 1 0 0 0, sI 5 a0.fKind, sB 76 ((a0.fKind : Int) == 14)], [.cells (E27.cs a0)], [], 0⟩) 0 2 2 [1, 5, 76] [0] ?_
                refine RefR.nl 2 ?_
                refine Ref.cn (.tmp 76) ((a0.fKind : Int) == 14) (fun hc => ?_) (fun hc => ?_)
                ·
                 refine Ref.sq ?_
                 refine Ref.drawnY 27 (by kernel_rfl) (by kernel_rfl) ?_
                 refine RefY.evC0 (st' := ⟨[sP 78 0 0 2, sP 82 0 0 4], [.cells (E27.cs a0)], [], 0⟩) (fuel' := 8) [0, 4] [78, 82] [0] rfl (by kernel_rfl) (by kernel_rfl) ?_
                 refine RefY.toX [] ?_
                 refine RefX.evC (vs := [room (([65, 83, 32] : Bytes).length + a0.fName.length), room ((([65, 83, 32] : Bytes) ++ a0.fName).length + ([32, 40, 32] : Bytes).length)]) (st' := ⟨[sS 81 ((([65, 83, 32] : Bytes) ++ a0.fName) ++ ([32, 40, 32] : Bytes)), (83, .c (NT27 a0.fArgs))], [], [], 0⟩) (fuel' := 4) [1, 2, 3, 5] [81, 83] [] rfl (by kernel_rfl) (by kernel_rfl) ?_
                 refine RefX.conv (Conv.slot 83 (.c (E27.tree a0.fArgs)) (DLe.c (NT27_le _)) (by kernel_rfl)) ?_
                 refine RefX.letC (stf := fun x31 => ⟨[(83, .c (E27.tree a0.fArgs)), sS 81 x31], [], [], 0⟩) (by kernel_rfl) (fun x31 => ?_)
                 refine RefX.lookC (t := 84) (g := []) (b := true) (fuel' := 3) 6 [] (default : Bytes) rfl (by kernel_rfl) (by kernel_rfl) (ih25 a0.fArgs 0) (fun _ => rfl) (fun r32 => ?_)
                 refine RefX.evC (vs := [room (x31.length + r32.length), room ((x31 ++ r32).length + ([32, 41] : Bytes).length)]) (st' := ⟨[sS 2 ((x31 ++ r32) ++ ([32, 41] : Bytes))], [], [], 0⟩) (fuel' := 0) [7, 8, 9] [2] [] rfl (by kernel_rfl) (by kernel_rfl) ?_
                 refine RefX.done (by kernel_rfl) ?_
                 exact Ref.rt (t := (Sum.inr (((x31 ++ r32) ++ ([32, 41] : Bytes)))))
                ·
                 refine Ref.sq ?_
                 refine Ref.rn 28 ?_
                 refine RefR.e0 (st' := ⟨[sP 1 0 0 0, sB 87 ((a0.fKind : Int) == 13)], [.cells (E27.cs a0)], [], 0⟩) 0 2 2 [1, 87] [0] ?_
                 refine RefR.nl 2 ?_
                 refine Ref.cn (.tmp 87) ((a0.fKind : Int) == 13) (fun hc => ?_) (fun hc => ?_)
                 ·
                  refine Ref.sq ?_
                  refine Ref.rn 29 ?_
                  refine RefR.e0 (st' := ⟨[sP 1 0 0 0, sS 3 ([63] : Bytes)], [.cells (E27.cs a0)], [], 0⟩) 0 1 1 [1, 3] [0] ?_
                  refine RefR.nl 1 ?_
                  refine Ref.sq ?_
                  refine Ref.sq ?_
                  refine Ref.rn 30 ?_
                  refine RefR.e0 (st' := ⟨[sP 1 0 0 0, sS 3 ([63] : Bytes), sI 90 a0.fN], [.cells (E27.cs a0)], [], 0⟩) 0 2 2 [1, 3, 90] [0] ?_
                  refine RefR.nl 2 ?_
                  refine Ref.codeEq (c' := .block 1 (cd (bd Tryd.f11) [1, 0, 1, 0, 1, 1, 1, 1, 1, 1, 1, 1, 1, 1, 1, 1, 1, 1, 1, 1, 1, 1, 1, 1, 1, 1, 1, 1, 1, 1, 1, 0, 1, 0, 1, 0])) (by kernel_rfl) ?_
                  refine Ref.block (go1 := fun u33 => ⟨[sP 1 0 0 0, sS 3 u33], [.cells (E27.cs a0)], [], 0⟩) ?_ (fun a => match a with | .inl _ => (fun h => by cases h) | .inr _ => (fun h => by cases h)) (fun u33 => ?_)
                  ·
                   refine Ref.sq ?_
                   refine Ref.rn 31 ?_
                   refine RefR.e0 (st' := ⟨[sP 1 0 0 0, sS 3 ([63] : Bytes), sI 90 a0.fN, sB 91 ((a0.fN : Int) == 0)], [.cells (E27.cs a0)], [], 0⟩) 0 2 2 [1, 3, 90, 91] [0] ?_
                   refine RefR.nl 2 ?_
                   refine Ref.cn (.tmp 91) ((a0.fN : Int) == 0) (fun hc => ?_) (fun hc => ?_)
                   ·
                    refine Ref.rn 32 ?_
                    refine RefR.e0 (st' := ⟨[sP 1 0 0 0, sS 3 a0.fName], [.cells (E27.cs a0)], [], 0⟩) 0 3 3 [1, 3] [0] ?_
                    refine RefR.nl 3 ?_
                    exact Ref.n0 (t := (a0.fName))
                   ·
                    refine Ref.sq ?_
                    refine Ref.rn 33 ?_
                    refine RefR.e0 (st' := ⟨[sP 1 0 0 0, sS 3 ([63] : Bytes), sI 90 a0.fN, sB 95 ((a0.fN : Int) == 1)], [.cells (E27.cs a0)], [], 0⟩) 0 2 2 [1, 3, 90, 95] [0] ?_
                    refine RefR.nl 2 ?_
                    refine Ref.cn (.tmp 95) ((a0.fN : Int) == 1) (fun hc => ?_) (fun hc => ?_)
                    ·
                     refine Ref.rn 34 ?_
                     refine RefR.e0 (st' := ⟨[sP 1 0 0 0, sS 3 ([84, 72, 73, 83] : Bytes)], [.cells (E27.cs a0)], [], 0⟩) 0 1 1 [1, 3] [0] ?_
                     refine RefR.nl 1 ?_
                     exact Ref.n0 (t := (([84, 72, 73, 83] : Bytes)))
                    ·
                     refine Ref.sq ?_
                     refine Ref.rn 35 ?_
                     refine RefR.e0 (st' := ⟨[sP 1 0 0 0, sS 3 ([63] : Bytes), sB 97 ((a0.fN : Int) == 2)], [.cells (E27.cs a0)], [], 0⟩) 0 2 2 [1, 3, 97] [0] ?_
                     refine RefR.nl 2 ?_
                     refine Ref.cn (.tmp 97) ((a0.fN : Int) == 2) (fun hc => ?_) (fun hc => ?_)
                     ·
                      refine Ref.rn 36 ?_
                      refine RefR.e0 (st' := ⟨[sP 1 0 0 0, sS 3 ([83, 85, 80, 69, 82] : Bytes)], [.cells (E27.cs a0)], [], 0⟩) 0 1 1 [1, 3] [0] ?_
                      refine RefR.nl 1 ?_
                      exact Ref.n0 (t := (([83, 85, 80, 69, 82] : Bytes)))
                     ·
                      refine Ref.sk ?_
                      refine Ref.conv (Conv.keep (st' := ⟨[sP 1 0 0 0, sS 3 ([63] : Bytes)], [.cells (E27.cs a0)], [], 0⟩) [1, 3] [0] (by kernel_rfl)) ?_
                      exact Ref.n0 (t := (([63] : Bytes)))
                  ·
                   refine Ref.sq ?_
                   refine Ref.drawnY 37 (by kernel_rfl) (by kernel_rfl) ?_
                   refine RefY.evC (vs := [room (u33.length + ([32, 46, 32] : Bytes).length)]) (st' := ⟨[sS 100 (u33 ++ ([32, 46, 32] : Bytes)), sP 101 0 0 3, sP 105 0 0 4], [.cells (E27.cs a0)], [], 0⟩) (fuel' := 8) [0, 1, 2, 6] [100, 101, 105] [0] rfl (by kernel_rfl) (by kernel_rfl) ?_
                   refine RefY.toX [] ?_
                   refine RefX.evC (vs := [room ((u33 ++ ([32, 46, 32] : Bytes)).length + a0.fWhat.length), room (((u33 ++ ([32, 46, 32] : Bytes)) ++ a0.fWhat).length + ([32, 40, 32] : Bytes).length)]) (st' := ⟨[sS 104 (((u33 ++ ([32, 46, 32] : Bytes)) ++ a0.fWhat) ++ ([32, 40, 32] : Bytes)), (106, .c (NT27 a0.fArgs))], [], [], 0⟩) (fuel' := 4) [3, 4, 5, 7] [104, 106] [] rfl (by kernel_rfl) (by kernel_rfl) ?_
                   refine RefX.conv (Conv.slot 106 (.c (E27.tree a0.fArgs)) (DLe.c (NT27_le _)) (by kernel_rfl)) ?_
                   refine RefX.letC (stf := fun x34 => ⟨[(106, .c (E27.tree a0.fArgs)), sS 104 x34], [], [], 0⟩) (by kernel_rfl) (fun x34 => ?_)
                   refine RefX.lookC (t := 107) (g := []) (b := true) (fuel' := 3) 8 [] (default : Bytes) rfl (by kernel_rfl) (by kernel_rfl) (ih28 a0.fArgs) (fun _ => rfl) (fun r35 => ?_)
                   refine RefX.evC (vs := [room (x34.length + r35.length), room ((x34 ++ r35).length + ([41] : Bytes).length)]) (st' := ⟨[sS 2 ((x34 ++ r35) ++ ([41] : Bytes))], [], [], 0⟩) (fuel' := 0) [9, 10, 11] [2] [] rfl (by kernel_rfl) (by kernel_rfl) ?_
                   refine RefX.done (by kernel_rfl) ?_
                   exact Ref.rt (t := (Sum.inr (((x34 ++ r35) ++ ([41] : Bytes)))))
                 ·
                  refine Ref.sk ?_
                  refine Ref.conv (Conv.keep (st' := ⟨[], [], [], 0⟩) [] [] (by kernel_rfl)) ?_
                  exact Ref.n0 (t := ())
   ·
    refine Ref.sq ?_
    refine Ref.rn 38 ?_
    refine RefR.e0 (st' := ⟨[sS 2 ([63] : Bytes)], [], [], 0⟩) 0 1 1 [2] [] ?_
    refine RefR.nl 1 ?_
    exact Ref.rt (t := (([63] : Bytes)))

  ·
   intro a0 a1
   refine DFun.intro (fn := Tryd.f25) (c := cd (bd Tryd.f25) []) (rs := fun r => ⟨[sS 4 r], [], [], 0⟩) (by kernel_rfl) (by kernel_rfl) (by kernel_rfl) ?_ (fun r => by kernel_rfl) (fun r => by kernel_rfl) (fun r => by kernel_rfl) (fun r => by kernel_rfl)
   rw [F25]
   refine Ref.sq ?_
   refine Ref.rn 0 ?_
   refine RefR.e0 (st' := ⟨[(0, .c (E27.tree a0)), sI 1 a1], [], [], 0⟩) 0 1 1 [0, 1] [] ?_
   refine RefR.nl 1 ?_
   refine Ref.sq ?_
   refine Ref.sq ?_
   refine Ref.rn 1 ?_
   refine RefR.e0 (st' := ⟨[(0, .c (E27.tree a0)), sI 1 a1, sB 8 (decide ((a1 : Int) ≥ (Int.ofNat a0.length)))], [], [], 0⟩) 0 4 4 [0, 1, 8] [] ?_
   refine RefR.letC (stf := fun x1 => ⟨[(0, .c (E27.tree a0)), sI 1 a1, sB 8 x1], [], [], 0⟩) (by kernel_rfl) (fun x1 => ?_)
   refine RefR.nl 4 ?_
   refine Ref.cn (.tmp 8) x1 (fun hc => ?_) (fun hc => ?_)
   ·
    refine Ref.sq ?_
    refine Ref.rn 2 ?_
    refine RefR.e0 (st' := ⟨[sS 4 ([63] : Bytes)], [], [], 0⟩) 0 1 1 [4] [] ?_
    refine RefR.nl 1 ?_
    exact Ref.rt (t := (([63] : Bytes)))
   ·
    refine Ref.sk ?_
    refine Ref.sq ?_
    refine Ref.rn 3 ?_
    refine RefR.e0 (st' := ⟨[(9, .c (E27.tree a0)), sI 10 a1], [], [], 0⟩) 0 2 2 [9, 10] [] ?_
    refine RefR.evC (vs := [inb a1 a0.length]) (st' := ⟨[(12, .agg (E27.cs (a0.getD (a1 : Int).toNat default)))], [], [], 0⟩) 2 2 4 [12] [] rfl (by kernel_rfl) ?_
    refine RefR.callC (t := 13) 4 5 [] rfl (by kernel_rfl) (ih11 (a0.getD (a1 : Int).toNat default)) (fun r2 => ?_)
    refine RefR.e0 (st' := ⟨[sS 4 r2], [], [], 0⟩) 5 1 6 [4] [] ?_
    refine RefR.nl 6 ?_
    exact Ref.rt (t := (r2))

  ·
   intro a0 a1
   refine DFun.intro (fn := Tryd.f26) (c := cd (bd Tryd.f26) []) (rs := fun r => ⟨[sS 4 r], [], [], 0⟩) (by kernel_rfl) (by kernel_rfl) (by kernel_rfl) ?_ (fun r => by kernel_rfl) (fun r => by kernel_rfl) (fun r => by kernel_rfl) (fun r => by kernel_rfl)
   rw [F26]
   refine Ref.sq ?_
   refine Ref.rn 0 ?_
   refine RefR.e0 (st' := ⟨[(0, .c (E27.tree a0)), sI 1 a1], [], [], 0⟩) 0 1 1 [0, 1] [] ?_
   refine RefR.nl 1 ?_
   refine Ref.sq ?_
   refine Ref.rn 1 ?_
   refine RefR.e0 (st' := ⟨[(0, .c (E27.tree a0)), sI 1 a1, (6, .c (E27.tree a0)), sI 7 a1], [], [], 0⟩) 0 2 2 [0, 1, 6, 7] [] ?_
   refine RefR.callC (t := 8) 2 3 [] rfl (by kernel_rfl) (ih25 a0 a1) (fun r1 => ?_)
   refine RefR.e0 (st' := ⟨[(0, .c (E27.tree a0)), sI 1 a1, sS 5 r1], [], [], 0⟩) 3 1 4 [0, 1, 5] [] ?_
   refine RefR.nl 4 ?_
   refine Ref.sq ?_
   refine Ref.sq ?_
   refine Ref.rn 2 ?_
   refine RefR.e0 (st' := ⟨[(0, .c (E27.tree a0)), sI 1 a1, sS 5 r1, sB 13 (decide ((a1 : Int) < (Int.ofNat a0.length))), (14, .c (E27.tree a0)), sI 15 a1], [], [(15, [(13, true)]), (14, [(13, true)])], 0⟩) 0 7 7 [0, 1, 5, 13, 14, 15] [] ?_
   refine RefR.letC (stf := fun x2 => ⟨[(0, .c (E27.tree a0)), sI 1 a1, sS 5 r1, sB 13 x2, (14, .c (E27.tree a0)), sI 15 a1], [], [(15, [(13, true)]), (14, [(13, true)])], 0⟩) (by kernel_rfl) (fun x2 => ?_)
   refine RefR.evC (vs := [!x2 || inb a1 a0.length]) (st' := ⟨[(0, .c (E27.tree a0)), sI 1 a1, sS 5 r1, sB 13 x2, sB 20 ((((a0.getD (a1 : Int).toNat default).fKind) : Int) == 7), (21, .c (E27.tree a0)), sI 22 a1], [], [(22, [(20, false), (13, true)]), (21, [(20, false), (13, true)]), (20, [(13, true)])], 0⟩) 7 7 14 [0, 1, 5, 13, 20, 21, 22] [] rfl (by kernel_rfl) ?_
   refine RefR.evC (vs := [!((!((((a0.getD (a1 : Int).toNat default).fKind) : Int) == 7)) && x2) || inb a1 a0.length]) (st' := ⟨[sS 5 r1, sB 13 x2, sB 28 (((((a0.getD (a1 : Int).toNat default).fKind) : Int) == 7) || ((((a0.getD (a1 : Int).toNat default).fKind) : Int) == 8)), (29, .c (E27.tree a0)), sI 30 a1], [], [(30, [(28, false), (13, true)]), (29, [(28, false), (13, true)]), (28, [(13, true)])], 0⟩) 14 8 22 [5, 13, 28, 29, 30] [] rfl (by kernel_rfl) ?_
   refine RefR.evC (vs := [!((!(((((a0.getD (a1 : Int).toNat default).fKind) : Int) == 7) || ((((a0.getD (a1 : Int).toNat default).fKind) : Int) == 8))) && x2) || inb a1 a0.length]) (st' := ⟨[sS 5 r1, sB 36 (x2 && ((((((a0.getD (a1 : Int).toNat default).fKind) : Int) == 7) || ((((a0.getD (a1 : Int).toNat default).fKind) : Int) == 8)) || ((((a0.getD (a1 : Int).toNat default).fKind) : Int) == 9)))], [], [], 0⟩) 22 6 28 [5, 36] [] rfl (by kernel_rfl) ?_
   refine RefR.letC (stf := fun x3 => ⟨[sS 5 r1, sB 36 x3], [], [], 0⟩) (by kernel_rfl) (fun x3 => ?_)
   refine RefR.nl 28 ?_
   refine Ref.cn (.tmp 36) x3 (fun hc => ?_) (fun hc => ?_)
   ·
    refine Ref.sq ?_
    refine Ref.rn 3 ?_
    refine RefR.evC (vs := [room (([40, 32] : Bytes).length + r1.length), room ((([40, 32] : Bytes) ++ r1).length + ([32, 41] : Bytes).length)]) (st' := ⟨[sS 4 ((([40, 32] : Bytes) ++ r1) ++ ([32, 41] : Bytes))], [], [], 0⟩) 0 4 4 [4] [] rfl (by kernel_rfl) ?_
    refine RefR.letC (stf := fun x4 => ⟨[sS 4 x4], [], [], 0⟩) (by kernel_rfl) (fun x4 => ?_)
    refine RefR.nl 4 ?_
    exact Ref.rt (t := (x4))
   ·
    refine Ref.sk ?_
    refine Ref.sq ?_
    refine Ref.rn 4 ?_
    refine RefR.e0 (st' := ⟨[sS 4 r1], [], [], 0⟩) 0 2 2 [4] [] ?_
    refine RefR.nl 2 ?_
    exact Ref.rt (t := (r1))

  ·
   intro a0
   refine DFun.intro (fn := Tryd.f28) (c := cd (bd Tryd.f28) []) (rs := fun r => ⟨[sS 2 r], [], [], 0⟩) (by kernel_rfl) (by kernel_rfl) (by kernel_rfl) ?_ (fun r => by kernel_rfl) (fun r => by kernel_rfl) (fun r => by kernel_rfl) (fun r => by kernel_rfl)
   rw [F28]
   refine Ref.sq ?_
   refine Ref.rn 0 ?_
   refine RefR.e0 (st' := ⟨[(0, .c (E27.tree a0))], [], [], 0⟩) 0 1 1 [0] [] ?_
   refine RefR.nl 1 ?_
   refine Ref.sq ?_
   refine Ref.rn 1 ?_
   refine RefR.e0 (st' := ⟨[(0, .c (E27.tree a0)), sS 3 ([] : Bytes)], [], [], 0⟩) 0 1 1 [0, 3] [] ?_
   refine RefR.nl 1 ?_
   refine Ref.sq ?_
   refine Ref.sq ?_
   refine Ref.rn 2 ?_
   refine RefR.e0 (st' := ⟨[(0, .c (E27.tree a0)), sS 3 ([] : Bytes), sI 4 0], [], [], 0⟩) 0 1 1 [0, 3, 4] [] ?_
   refine RefR.nl 1 ?_
   refine Ref.codeEq (c' := .block 0 (cd (bd Tryd.f28) [1, 1, 0, 1, 0])) (by kernel_rfl) ?_
   refine Ref.block (go1 := fun u21 => ⟨[sS 3 u21], [], [], 0⟩) ?_ (fun _ h => by cases h) (fun u21 => ?_)
   ·
    refine Ref.codeEq (c' := .loop (cd (bd Tryd.f28) [1, 1, 0, 1, 0, 0])) (by kernel_rfl) ?_
    refine Ref.loop (hd := fun u28 => ⟨[(0, .c (E27.tree a0)), sS 3 u28.1, sI 4 u28.2], [], [], 0⟩) K (([] : Bytes), 0) (by kernel_rfl) (fun u28 => ?_)
    refine Ref.sq ?_
    refine Ref.sq ?_
    refine Ref.rn 3 ?_
    refine RefR.e0 (st' := ⟨[(0, .c (E27.tree a0)), sS 3 u28.1, sI 4 u28.2, sB 8 (decide ((u28.2 : Int) < (Int.ofNat a0.length)))], [], [], 0⟩) 0 4 4 [0, 3, 4, 8] [] ?_
    refine RefR.letC (stf := fun x36 => ⟨[(0, .c (E27.tree a0)), sS 3 u28.1, sI 4 u28.2, sB 8 x36], [], [], 0⟩) (by kernel_rfl) (fun x36 => ?_)
    refine RefR.nl 4 ?_
    refine Ref.cn (.tmp 8) x36 (fun hc => ?_) (fun hc => ?_)
    ·
     refine Ref.sk ?_
     refine Ref.sq ?_
     refine Ref.codeEq (c' := .block 1 (cd (bd Tryd.f28) [1, 1, 0, 1, 0, 0, 1, 0, 0])) (by kernel_rfl) ?_
     refine Ref.block (go1 := fun u39 => ⟨[(0, .c (E27.tree a0)), sS 3 u39, sI 4 u28.2], [], [], 0⟩) ?_ (fun a => match a with | .inl _ => (fun h => by cases h) | .inr _ => (fun h => by cases h)) (fun u39 => ?_)
     ·
      refine Ref.sq ?_
      refine Ref.sq ?_
      refine Ref.rn 5 ?_
      refine RefR.e0 (st' := ⟨[(0, .c (E27.tree a0)), sS 3 u28.1, sI 4 u28.2, sB 12 (decide ((u28.2 : Int) > 0))], [], [], 0⟩) 0 2 2 [0, 3, 4, 12] [] ?_
      refine RefR.nl 2 ?_
      refine Ref.bind (go1 := fun u40 => ⟨[(0, .c (E27.tree a0)), sS 3 u40, sI 4 u28.2], [], [], 0⟩) ?_ (fun u40 => ?_)
      ·
       refine Ref.cn (.tmp 12) (decide ((u28.2 : Int) > 0)) (fun hc => ?_) (fun hc => ?_)
       ·
        refine Ref.rn 6 ?_
        refine RefR.evC (vs := [room (u28.1.length + ([44, 32] : Bytes).length)]) (st' := ⟨[(0, .c (E27.tree a0)), sS 3 (u28.1 ++ ([44, 32] : Bytes)), sI 4 u28.2], [], [], 0⟩) 0 3 3 [0, 3, 4] [] rfl (by kernel_rfl) ?_
        refine RefR.nl 3 ?_
        exact Ref.n0 (t := ((u28.1 ++ ([44, 32] : Bytes))))
       ·
        refine Ref.sk ?_
        refine Ref.conv (Conv.keep (st' := ⟨[(0, .c (E27.tree a0)), sS 3 u28.1, sI 4 u28.2], [], [], 0⟩) [0, 3, 4] [] (by kernel_rfl)) ?_
        exact Ref.n0 (t := (u28.1))
      ·
       refine Ref.rn 7 ?_
       refine RefR.e0 (st' := ⟨[(0, .c (E27.tree a0)), sI 4 u28.2, sS 15 u40, (16, .c (E27.tree a0)), sI 17 u28.2], [], [], 0⟩) 0 3 3 [0, 4, 15, 16, 17] [] ?_
       refine RefR.evC (vs := [inb u28.2 a0.length]) (st' := ⟨[(0, .c (E27.tree a0)), sI 4 u28.2, sS 15 u40, (19, .agg (E27.cs (a0.getD (u28.2 : Int).toNat default)))], [], [], 0⟩) 3 2 5 [0, 4, 15, 19] [] rfl (by kernel_rfl) ?_
       refine RefR.callC (t := 20) 5 6 [] rfl (by kernel_rfl) (ih11 (a0.getD (u28.2 : Int).toNat default)) (fun r41 => ?_)
       refine RefR.evC (vs := [room (u40.length + r41.length), room ((u40 ++ r41).length + ([32] : Bytes).length)]) (st' := ⟨[(0, .c (E27.tree a0)), sS 3 ((u40 ++ r41) ++ ([32] : Bytes)), sI 4 u28.2], [], [], 0⟩) 6 3 9 [0, 3, 4] [] rfl (by kernel_rfl) ?_
       refine RefR.nl 9 ?_
       exact Ref.n0 (t := (((u40 ++ r41) ++ ([32] : Bytes))))
     ·
      refine Ref.rn 4 ?_
      refine RefR.e0 (st' := ⟨[(0, .c (E27.tree a0)), sS 3 u39, sI 4 (IntKind.i64.wrap (u28.2 + 1))], [], [], 0⟩) 0 3 3 [0, 3, 4] [] ?_
      refine RefR.nl 3 ?_
      exact Ref.n0 (t := (u39, (IntKind.i64.wrap (u28.2 + 1))))
    ·
     refine Ref.conv (Conv.keep (st' := ⟨[sS 3 u28.1], [], [], 0⟩) [3] [] (by kernel_rfl)) ?_
     exact Ref.xt 0 (t := (Sum.inl (u28.1)))
   ·
    refine Ref.sq ?_
    refine Ref.rn 8 ?_
    refine RefR.e0 (st' := ⟨[sS 2 u21], [], [], 0⟩) 0 2 2 [2] [] ?_
    refine RefR.nl 2 ?_
    exact Ref.rt (t := (u21))

theorem F11_ok (K : Nat) (a0 : S27) : DFun Tryd.prog 11 [.agg (E27.cs a0)] [] (fnS (F11 K a0)) (fun r => .c (.str r)) (fun r => []) := (G11_ok K).1 a0

theorem F25_ok (K : Nat) (a0 : (List S27)) (a1 : Int) : DFun Tryd.prog 25 [.c (E27.tree a0), .c (.val (.int .i64 a1))] [] (fnS (F25 K a0 a1)) (fun r => .c (.str r)) (fun r => []) := (G11_ok K).2.1 a0 a1

theorem F26_ok (K : Nat) (a0 : (List S27)) (a1 : Int) : DFun Tryd.prog 26 [.c (E27.tree a0), .c (.val (.int .i64 a1))] [] (fnS (F26 K a0 a1)) (fun r => .c (.str r)) (fun r => []) := (G11_ok K).2.2.1 a0 a1

theorem F28_ok (K : Nat) (a0 : (List S27)) : DFun Tryd.prog 28 [.c (E27.tree a0)] [] (fnS (F28 K a0)) (fun r => .c (.str r)) (fun r => []) := (G11_ok K).2.2.2 a0

/-- governor/governorref5.Type -/
def F13 (K : Nat) (a0 : S29) : Option ((Bytes) ⊕ (Bytes)) :=
 (bindS (blockS (if ((a0.fKind : Int) == 1) = true then (some (.inl (Sum.inr (([73, 78, 84] : Bytes))))) else (if ((a0.fKind : Int) == 2) = true then (some (.inl (Sum.inr (([66, 79, 79, 76] : Bytes))))) else (if ((a0.fKind : Int) == 3) = true then ((condM true (fnS (F24 K a0.fLo)) default).bind (fun r9 => (chk [room (([73, 78, 84, 32, 40, 32] : Bytes).length + r9.length), room ((([73, 78, 84, 32, 40, 32] : Bytes) ++ r9).length + ([32, 46, 46, 32] : Bytes).length)] (letV ((([73, 78, 84, 32, 40, 32] : Bytes) ++ r9) ++ ([32, 46, 46, 32] : Bytes)) (fun (x10 : Bytes) => ((condM true (fnS (F24 K a0.fHi)) default).bind (fun r11 => (chk [room (x10.length + r11.length), room ((x10 ++ r11).length + ([32, 41] : Bytes).length)] (some (.inl (Sum.inr (((x10 ++ r11) ++ ([32, 41] : Bytes)))))))))))))) else (if ((a0.fKind : Int) == 4) = true then ((fnS (F24 K a0.fHi)).bind (fun r12 => (chk [room (([65, 82, 82, 65, 89, 32, 91, 32] : Bytes).length + r12.length), room ((([65, 82, 82, 65, 89, 32, 91, 32] : Bytes) ++ r12).length + ([32, 93, 32, 79, 70, 32, 73, 78, 84] : Bytes).length)] (letV ((([65, 82, 82, 65, 89, 32, 91, 32] : Bytes) ++ r12) ++ ([32, 93, 32, 79, 70, 32, 73, 78, 84] : Bytes)) (fun (x13 : Bytes) => (some (.inl (Sum.inr (x13))))))))) else (if ((a0.fKind : Int) == 5) = true then (chk [room (([82, 69, 70, 95, 84, 79, 32] : Bytes).length + a0.fName.length)] (letV (([82, 69, 70, 95, 84, 79, 32] : Bytes) ++ a0.fName) (fun (x14 : Bytes) => (some (.inl (Sum.inr (x14))))))) else (if ((a0.fKind : Int) == 6) = true then (some (.inl (Sum.inr (a0.fName)))) else (if ((a0.fKind : Int) == 7) = true then ((condM true (fnS (F30 K [([] : Bytes), ([84, 79, 78] : Bytes), ([84, 79, 70] : Bytes), ([84, 80] : Bytes), ([67, 84, 85] : Bytes), ([67, 84, 68] : Bytes), ([82, 95, 84, 82, 73, 71] : Bytes), ([70, 95, 84, 82, 73, 71] : Bytes)] a0.fLo)) default).bind (fun r15 => (some (.inl (Sum.inr (r15)))))) else (some (.inr ())))))))))) (fun (u8 : Unit) => (some (.inl (([63] : Bytes))))))

theorem F13_ok (K : Nat) (a0 : S29) : DFun Tryd.prog 13 [.agg (E29.cs a0)] [] (fnS (F13 K a0)) (fun r => .c (.str r)) (fun r => []) := by
 refine DFun.intro (fn := Tryd.f13) (c := cd (bd Tryd.f13) []) (rs := fun r => ⟨[sS 2 r], [], [], 0⟩) (by kernel_rfl) (by kernel_rfl) (by kernel_rfl) ?_ (fun r => by kernel_rfl) (fun r => by kernel_rfl) (fun r => by kernel_rfl) (fun r => by kernel_rfl)
 unfold F13
 refine Ref.sq ?_
 refine Ref.rn 0 ?_
 refine RefR.e0 (st' := ⟨[sP 1 0 0 0], [.cells (E29.cs a0)], [], 0⟩) 0 2 2 [1] [0] ?_
 refine RefR.nl 2 ?_
 refine Ref.sq ?_
 refine Ref.sq ?_
 refine Ref.rn 1 ?_
 refine RefR.e0 (st' := ⟨[sP 1 0 0 0, sI 4 a0.fKind], [.cells (E29.cs a0)], [], 0⟩) 0 2 2 [1, 4] [0] ?_
 refine RefR.nl 2 ?_
 refine Ref.codeEq (c' := .block 0 (cd (bd Tryd.f13) [1, 0, 1, 0])) (by kernel_rfl) ?_
 refine Ref.block (go1 := fun u8 => ⟨[], [], [], 0⟩) ?_ (fun _ h => by cases h) (fun u8 => ?_)
 ·
  refine Ref.sq ?_
  refine Ref.rn 2 ?_
  refine RefR.e0 (st' := ⟨[sP 1 0 0 0, sI 4 a0.fKind, sB 5 ((a0.fKind : Int) == 1)], [.cells (E29.cs a0)], [], 0⟩) 0 2 2 [1, 4, 5] [0] ?_
  refine RefR.nl 2 ?_
  refine Ref.cn (.tmp 5) ((a0.fKind : Int) == 1) (fun hc => ?_) (fun hc => ?_)
  ·
   refine Ref.sq ?_
   refine Ref.rn 3 ?_
   refine RefR.e0 (st' := ⟨[sS 2 ([73, 78, 84] : Bytes)], [], [], 0⟩) 0 1 1 [2] [] ?_
   refine RefR.nl 1 ?_
   exact Ref.rt (t := (Sum.inr (([73, 78, 84] : Bytes))))
  ·
   refine Ref.sq ?_
   refine Ref.rn 4 ?_
   refine RefR.e0 (st' := ⟨[sP 1 0 0 0, sI 4 a0.fKind, sB 7 ((a0.fKind : Int) == 2)], [.cells (E29.cs a0)], [], 0⟩) 0 2 2 [1, 4, 7] [0] ?_
   refine RefR.nl 2 ?_
   refine Ref.cn (.tmp 7) ((a0.fKind : Int) == 2) (fun hc => ?_) (fun hc => ?_)
   ·
    refine Ref.sq ?_
    refine Ref.rn 5 ?_
    refine RefR.e0 (st' := ⟨[sS 2 ([66, 79, 79, 76] : Bytes)], [], [], 0⟩) 0 1 1 [2] [] ?_
    refine RefR.nl 1 ?_
    exact Ref.rt (t := (Sum.inr (([66, 79, 79, 76] : Bytes))))
   ·
    refine Ref.sq ?_
    refine Ref.rn 6 ?_
    refine RefR.e0 (st' := ⟨[sP 1 0 0 0, sI 4 a0.fKind, sB 9 ((a0.fKind : Int) == 3)], [.cells (E29.cs a0)], [], 0⟩) 0 2 2 [1, 4, 9] [0] ?_
    refine RefR.nl 2 ?_
    refine Ref.cn (.tmp 9) ((a0.fKind : Int) == 3) (fun hc => ?_) (fun hc => ?_)
    ·
     refine Ref.sq ?_
     refine Ref.drawnY 7 (by kernel_rfl) (by kernel_rfl) ?_
     refine RefY.evC0 (st' := ⟨[sP 11 0 0 1, sP 16 0 0 2], [.cells (E29.cs a0)], [], 0⟩) (fuel' := 9) [0, 5] [11, 16] [0] rfl (by kernel_rfl) (by kernel_rfl) ?_
     refine RefY.toX [] ?_
     refine RefX.evC0 (st' := ⟨[sI 12 a0.fLo, sI 17 a0.fHi], [], [], 0⟩) (fuel' := 7) [1, 6] [12, 17] [] rfl (by kernel_rfl) (by kernel_rfl) ?_
     refine RefX.lookC (t := 13) (g := []) (b := true) (fuel' := 6) 2 [] (default : Bytes) rfl (by kernel_rfl) (by kernel_rfl) (F24_ok K a0.fLo) (fun _ => rfl) (fun r9 => ?_)
     refine RefX.evC (vs := [room (([73, 78, 84, 32, 40, 32] : Bytes).length + r9.length), room ((([73, 78, 84, 32, 40, 32] : Bytes) ++ r9).length + ([32, 46, 46, 32] : Bytes).length)]) (st' := ⟨[sS 15 ((([73, 78, 84, 32, 40, 32] : Bytes) ++ r9) ++ ([32, 46, 46, 32] : Bytes)), sI 17 a0.fHi], [], [], 0⟩) (fuel' := 4) [3, 4] [15, 17] [] rfl (by kernel_rfl) (by kernel_rfl) ?_
     refine RefX.letC (stf := fun x10 => ⟨[sS 15 x10, sI 17 a0.fHi], [], [], 0⟩) (by kernel_rfl) (fun x10 => ?_)
     refine RefX.lookC (t := 18) (g := []) (b := true) (fuel' := 3) 7 [] (default : Bytes) rfl (by kernel_rfl) (by kernel_rfl) (F24_ok K a0.fHi) (fun _ => rfl) (fun r11 => ?_)
     refine RefX.evC (vs := [room (x10.length + r11.length), room ((x10 ++ r11).length + ([32, 41] : Bytes).length)]) (st' := ⟨[sS 2 ((x10 ++ r11) ++ ([32, 41] : Bytes))], [], [], 0⟩) (fuel' := 0) [8, 9, 10] [2] [] rfl (by kernel_rfl) (by kernel_rfl) ?_
     refine RefX.done (by kernel_rfl) ?_
     exact Ref.rt (t := (Sum.inr (((x10 ++ r11) ++ ([32, 41] : Bytes)))))
    ·
     refine Ref.sq ?_
     refine Ref.rn 8 ?_
     refine RefR.e0 (st' := ⟨[sP 1 0 0 0, sI 4 a0.fKind, sB 21 ((a0.fKind : Int) == 4)], [.cells (E29.cs a0)], [], 0⟩) 0 2 2 [1, 4, 21] [0] ?_
     refine RefR.nl 2 ?_
     refine Ref.cn (.tmp 21) ((a0.fKind : Int) == 4) (fun hc => ?_) (fun hc => ?_)
     ·
      refine Ref.sq ?_
      refine Ref.rn 9 ?_
      refine RefR.e0 (st' := ⟨[sI 24 a0.fHi], [], [], 0⟩) 0 2 2 [24] [] ?_
      refine RefR.callC (t := 25) 2 3 [] rfl (by kernel_rfl) (F24_ok K a0.fHi) (fun r12 => ?_)
      refine RefR.evC (vs := [room (([65, 82, 82, 65, 89, 32, 91, 32] : Bytes).length + r12.length), room ((([65, 82, 82, 65, 89, 32, 91, 32] : Bytes) ++ r12).length + ([32, 93, 32, 79, 70, 32, 73, 78, 84] : Bytes).length)]) (st' := ⟨[sS 2 ((([65, 82, 82, 65, 89, 32, 91, 32] : Bytes) ++ r12) ++ ([32, 93, 32, 79, 70, 32, 73, 78, 84] : Bytes))], [], [], 0⟩) 3 3 6 [2] [] rfl (by kernel_rfl) ?_
      refine RefR.letC (stf := fun x13 => ⟨[sS 2 x13], [], [], 0⟩) (by kernel_rfl) (fun x13 => ?_)
      refine RefR.nl 6 ?_
      exact Ref.rt (t := (Sum.inr (x13)))
     ·
      refine Ref.sq ?_
      refine Ref.rn 10 ?_
      refine RefR.e0 (st' := ⟨[sP 1 0 0 0, sI 4 a0.fKind, sB 28 ((a0.fKind : Int) == 5)], [.cells (E29.cs a0)], [], 0⟩) 0 2 2 [1, 4, 28] [0] ?_
      refine RefR.nl 2 ?_
      refine Ref.cn (.tmp 28) ((a0.fKind : Int) == 5) (fun hc => ?_) (fun hc => ?_)
      ·
       refine Ref.sq ?_
       refine Ref.rn 11 ?_
       refine RefR.evC (vs := [room (([82, 69, 70, 95, 84, 79, 32] : Bytes).length + a0.fName.length)]) (st' := ⟨[sS 2 (([82, 69, 70, 95, 84, 79, 32] : Bytes) ++ a0.fName)], [], [], 0⟩) 0 4 4 [2] [] rfl (by kernel_rfl) ?_
       refine RefR.letC (stf := fun x14 => ⟨[sS 2 x14], [], [], 0⟩) (by kernel_rfl) (fun x14 => ?_)
       refine RefR.nl 4 ?_
       exact Ref.rt (t := (Sum.inr (x14)))
      ·
       refine Ref.sq ?_
       refine Ref.rn 12 ?_
       refine RefR.e0 (st' := ⟨[sP 1 0 0 0, sI 4 a0.fKind, sB 33 ((a0.fKind : Int) == 6)], [.cells (E29.cs a0)], [], 0⟩) 0 2 2 [1, 4, 33] [0] ?_
       refine RefR.nl 2 ?_
       refine Ref.cn (.tmp 33) ((a0.fKind : Int) == 6) (fun hc => ?_) (fun hc => ?_)
       ·
        refine Ref.sq ?_
        refine Ref.rn 13 ?_
        refine RefR.e0 (st' := ⟨[sS 2 a0.fName], [], [], 0⟩) 0 3 3 [2] [] ?_
        refine RefR.nl 3 ?_
        exact Ref.rt (t := (Sum.inr (a0.fName)))
       ·
        refine Ref.sq ?_
        refine Ref.rn 14 ?_
        refine RefR.e0 (st' := ⟨[sP 1 0 0 0, sB 37 ((a0.fKind : Int) == 7)], [.cells (E29.cs a0)], [], 0⟩) 0 2 2 [1, 37] [0] ?_
        refine RefR.nl 2 ?_
        refine Ref.cn (.tmp 37) ((a0.fKind : Int) == 7) (fun hc => ?_) (fun hc => ?_)
        ·
         refine Ref.sq ?_
         refine Ref.rn 15 ?_
         refine RefR.e0 (st' := ⟨[sP 1 0 0 0, (39, .c (.own 1 8))], [.cells (E29.cs a0), .row 9 1 8 (tbl [[.str ([] : Bytes)], [.str ([84, 79, 78] : Bytes)], [.str ([84, 79, 70] : Bytes)], [.str ([84, 80] : Bytes)], [.str ([67, 84, 85] : Bytes)], [.str ([67, 84, 68] : Bytes)], [.str ([82, 95, 84, 82, 73, 71] : Bytes)], [.str ([70, 95, 84, 82, 73, 71] : Bytes)]])], [], 0⟩) 0 1 1 [1, 39] [0, 1] ?_
         refine RefR.conv (Conv.obj 1 (E9.row [([] : Bytes), ([84, 79, 78] : Bytes), ([84, 79, 70] : Bytes), ([84, 80] : Bytes), ([67, 84, 85] : Bytes), ([67, 84, 68] : Bytes), ([82, 95, 84, 82, 73, 71] : Bytes), ([70, 95, 84, 82, 73, 71] : Bytes)]) (El.row_build E9 [([] : Bytes), ([84, 79, 78] : Bytes), ([84, 79, 70] : Bytes), ([84, 80] : Bytes), ([67, 84, 85] : Bytes), ([67, 84, 68] : Bytes), ([82, 95, 84, 82, 73, 71] : Bytes), ([70, 95, 84, 82, 73, 71] : Bytes)] rfl (by kernel_rfl)) (by kernel_rfl)) ?_
         refine RefR.conv (Conv.slot 39 (.c (.own 1 ([([] : Bytes), ([84, 79, 78] : Bytes), ([84, 79, 70] : Bytes), ([84, 80] : Bytes), ([67, 84, 85] : Bytes), ([67, 84, 68] : Bytes), ([82, 95, 84, 82, 73, 71] : Bytes), ([70, 95, 84, 82, 73, 71] : Bytes)].length))) (DLe.c (CLe.own (by simp <;> omega))) (by kernel_rfl)) ?_
         refine RefR.e0 (st' := ⟨[(39, .c (.own 0 ([([] : Bytes), ([84, 79, 78] : Bytes), ([84, 79, 70] : Bytes), ([84, 80] : Bytes), ([67, 84, 85] : Bytes), ([67, 84, 68] : Bytes), ([82, 95, 84, 82, 73, 71] : Bytes), ([70, 95, 84, 82, 73, 71] : Bytes)].length))), sI 41 a0.fLo], [E9.row [([] : Bytes), ([84, 79, 78] : Bytes), ([84, 79, 70] : Bytes), ([84, 80] : Bytes), ([67, 84, 85] : Bytes), ([67, 84, 68] : Bytes), ([82, 95, 84, 82, 73, 71] : Bytes), ([70, 95, 84, 82, 73, 71] : Bytes)]], [], 0⟩) 1 2 3 [39, 41] [1] ?_
         refine RefR.lookC (t := 42) (g := []) (b := true) 3 4 [0] (default : Bytes) rfl (by kernel_rfl) (F30_ok K [([] : Bytes), ([84, 79, 78] : Bytes), ([84, 79, 70] : Bytes), ([84, 80] : Bytes), ([67, 84, 85] : Bytes), ([67, 84, 68] : Bytes), ([82, 95, 84, 82, 73, 71] : Bytes), ([70, 95, 84, 82, 73, 71] : Bytes)] a0.fLo) (fun _ => rfl) (fun r15 => ?_)
         refine RefR.e0 (st' := ⟨[sS 2 r15], [], [], 0⟩) 4 1 5 [2] [] ?_
         refine RefR.nl 5 ?_
         exact Ref.rt (t := (Sum.inr (r15)))
        ·
         refine Ref.sk ?_
         refine Ref.conv (Conv.keep (st' := ⟨[], [], [], 0⟩) [] [] (by kernel_rfl)) ?_
         exact Ref.n0 (t := ())
 ·
  refine Ref.sq ?_
  refine Ref.rn 16 ?_
  refine RefR.e0 (st' := ⟨[sS 2 ([63] : Bytes)], [], [], 0⟩) 0 1 1 [2] [] ?_
  refine RefR.nl 1 ?_
  exact Ref.rt (t := (([63] : Bytes)))

/-- governor/governorref5.params -/
def F39 (K : Nat) (a0 : (List S38)) : Option ((Bytes) ⊕ (Bytes)) :=
 (bindS (blockS ((iter K (fun (u36 : Bytes × Int) => (letV (decide ((u36.2 : Int) < (Int.ofNat a0.length))) (fun (x46 : Bool) => (if x46 = true then (bindS (blockS (bindS (if (decide ((u36.2 : Int) > 0)) = true then (chk [room (u36.1.length + ([44, 32] : Bytes).length)] (some (.inr ((u36.1 ++ ([44, 32] : Bytes)))))) else (some (.inr (u36.1)))) (fun (u51 : Bytes) => (chk [inb u36.2 a0.length, inb u36.2 a0.length] (chk [room (u51.length + ((a0.getD (u36.2 : Int).toNat default).fName).length), room ((u51 ++ ((a0.getD (u36.2 : Int).toNat default).fName)).length + ([32, 58, 32] : Bytes).length)] (letV ((u51 ++ ((a0.getD (u36.2 : Int).toNat default).fName)) ++ ([32, 58, 32] : Bytes)) (fun (x52 : Bytes) => ((condM true (fnS (F13 K ((a0.getD (u36.2 : Int).toNat default).fType))) default).bind (fun r53 => (chk [room (x52.length + r53.length), room ((x52 ++ r53).length + ([32] : Bytes).length)] (some (.inr (((x52 ++ r53) ++ ([32] : Bytes))))))))))))))) (fun (u50 : Bytes) => (some (.inr (u50, (IntKind.i64.wrap (u36.2 + 1))))))) else (some (.inl (Sum.inl (u36.1)))))))) (([40, 32] : Bytes), 0)).map .inl)) (fun (u27 : Bytes) => (chk [room (u27.length + ([41] : Bytes).length)] (some (.inl ((u27 ++ ([41] : Bytes))))))))

theorem F39_ok (K : Nat) (a0 : (List S38)) : DFun Tryd.prog 39 [.c (E38.tree a0)] [] (fnS (F39 K a0)) (fun r => .c (.str r)) (fun r => []) := by
 refine DFun.intro (fn := Tryd.f39) (c := cd (bd Tryd.f39) []) (rs := fun r => ⟨[sS 2 r], [], [], 0⟩) (by kernel_rfl) (by kernel_rfl) (by kernel_rfl) ?_ (fun r => by kernel_rfl) (fun r => by kernel_rfl) (fun r => by kernel_rfl) (fun r => by kernel_rfl)
 unfold F39
 refine Ref.sq ?_
 refine Ref.rn 0 ?_
 refine RefR.e0 (st' := ⟨[(0, .c (E38.tree a0))], [], [], 0⟩) 0 1 1 [0] [] ?_
 refine RefR.nl 1 ?_
 refine Ref.sq ?_
 refine Ref.rn 1 ?_
 refine RefR.e0 (st' := ⟨[(0, .c (E38.tree a0)), sS 3 ([40, 32] : Bytes)], [], [], 0⟩) 0 1 1 [0, 3] [] ?_
 refine RefR.nl 1 ?_
 refine Ref.sq ?_
 refine Ref.sq ?_
 refine Ref.rn 2 ?_
 refine RefR.e0 (st' := ⟨[(0, .c (E38.tree a0)), sS 3 ([40, 32] : Bytes), sI 4 0], [], [], 0⟩) 0 1 1 [0, 3, 4] [] ?_
 refine RefR.nl 1 ?_
 refine Ref.codeEq (c' := .block 0 (cd (bd Tryd.f39) [1, 1, 0, 1, 0])) (by kernel_rfl) ?_
 refine Ref.block (go1 := fun u27 => ⟨[sS 3 u27], [], [], 0⟩) ?_ (fun _ h => by cases h) (fun u27 => ?_)
 ·
  refine Ref.codeEq (c' := .loop (cd (bd Tryd.f39) [1, 1, 0, 1, 0, 0])) (by kernel_rfl) ?_
  refine Ref.loop (hd := fun u36 => ⟨[(0, .c (E38.tree a0)), sS 3 u36.1, sI 4 u36.2], [], [], 0⟩) K (([40, 32] : Bytes), 0) (by kernel_rfl) (fun u36 => ?_)
  refine Ref.sq ?_
  refine Ref.sq ?_
  refine Ref.rn 3 ?_
  refine RefR.e0 (st' := ⟨[(0, .c (E38.tree a0)), sS 3 u36.1, sI 4 u36.2, sB 8 (decide ((u36.2 : Int) < (Int.ofNat a0.length)))], [], [], 0⟩) 0 4 4 [0, 3, 4, 8] [] ?_
  refine RefR.letC (stf := fun x46 => ⟨[(0, .c (E38.tree a0)), sS 3 u36.1, sI 4 u36.2, sB 8 x46], [], [], 0⟩) (by kernel_rfl) (fun x46 => ?_)
  refine RefR.nl 4 ?_
  refine Ref.cn (.tmp 8) x46 (fun hc => ?_) (fun hc => ?_)
  ·
   refine Ref.sk ?_
   refine Ref.sq ?_
   refine Ref.codeEq (c' := .block 1 (cd (bd Tryd.f39) [1, 1, 0, 1, 0, 0, 1, 0, 0])) (by kernel_rfl) ?_
   refine Ref.block (go1 := fun u50 => ⟨[(0, .c (E38.tree a0)), sS 3 u50, sI 4 u36.2], [], [], 0⟩) ?_ (fun a => match a with | .inl _ => (fun h => by cases h) | .inr _ => (fun h => by cases h)) (fun u50 => ?_)
   ·
    refine Ref.sq ?_
    refine Ref.sq ?_
    refine Ref.rn 5 ?_
    refine RefR.e0 (st' := ⟨[(0, .c (E38.tree a0)), sS 3 u36.1, sI 4 u36.2, sB 12 (decide ((u36.2 : Int) > 0))], [], [], 0⟩) 0 2 2 [0, 3, 4, 12] [] ?_
    refine RefR.nl 2 ?_
    refine Ref.bind (go1 := fun u51 => ⟨[(0, .c (E38.tree a0)), sS 3 u51, sI 4 u36.2], [], [], 0⟩) ?_ (fun u51 => ?_)
    ·
     refine Ref.cn (.tmp 12) (decide ((u36.2 : Int) > 0)) (fun hc => ?_) (fun hc => ?_)
     ·
      refine Ref.rn 6 ?_
      refine RefR.evC (vs := [room (u36.1.length + ([44, 32] : Bytes).length)]) (st' := ⟨[(0, .c (E38.tree a0)), sS 3 (u36.1 ++ ([44, 32] : Bytes)), sI 4 u36.2], [], [], 0⟩) 0 3 3 [0, 3, 4] [] rfl (by kernel_rfl) ?_
      refine RefR.nl 3 ?_
      exact Ref.n0 (t := ((u36.1 ++ ([44, 32] : Bytes))))
     ·
      refine Ref.sk ?_
      refine Ref.conv (Conv.keep (st' := ⟨[(0, .c (E38.tree a0)), sS 3 u36.1, sI 4 u36.2], [], [], 0⟩) [0, 3, 4] [] (by kernel_rfl)) ?_
      exact Ref.n0 (t := (u36.1))
    ·
     refine Ref.drawnY 7 (by kernel_rfl) (by kernel_rfl) ?_
     refine RefY.evC (vs := [inb u36.2 a0.length, inb u36.2 a0.length]) (st' := ⟨[(0, .c (E38.tree a0)), sI 4 u36.2, sS 15 u51, (19, .c (E38.ep (a0.getD (u36.2 : Int).toNat default) 0)), (26, .c (E38.ep (a0.getD (u36.2 : Int).toNat default) 1))], [], [], 0⟩) (fuel' := 8) [0, 1, 2, 3, 4, 8, 9, 10, 11] [0, 4, 15, 19, 26] [] rfl (by kernel_rfl) (by kernel_rfl) ?_
     refine RefY.toX [] ?_
     refine RefX.evC (vs := [room (u51.length + ((a0.getD (u36.2 : Int).toNat default).fName).length), room ((u51 ++ ((a0.getD (u36.2 : Int).toNat default).fName)).length + ([32, 58, 32] : Bytes).length)]) (st' := ⟨[(0, .c (E38.tree a0)), sI 4 u36.2, sS 22 ((u51 ++ ((a0.getD (u36.2 : Int).toNat default).fName)) ++ ([32, 58, 32] : Bytes)), (27, .agg (E29.cs ((a0.getD (u36.2 : Int).toNat default).fType)))], [], [], 0⟩) (fuel' := 4) [5, 6, 7, 12] [0, 4, 22, 27] [] rfl (by kernel_rfl) (by kernel_rfl) ?_
     refine RefX.letC (stf := fun x52 => ⟨[(0, .c (E38.tree a0)), sI 4 u36.2, sS 22 x52, (27, .agg (E29.cs ((a0.getD (u36.2 : Int).toNat default).fType)))], [], [], 0⟩) (by kernel_rfl) (fun x52 => ?_)
     refine RefX.lookC (t := 28) (g := []) (b := true) (fuel' := 3) 13 [] (default : Bytes) rfl (by kernel_rfl) (by kernel_rfl) (F13_ok K ((a0.getD (u36.2 : Int).toNat default).fType)) (fun _ => rfl) (fun r53 => ?_)
     refine RefX.evC (vs := [room (x52.length + r53.length), room ((x52 ++ r53).length + ([32] : Bytes).length)]) (st' := ⟨[(0, .c (E38.tree a0)), sS 3 ((x52 ++ r53) ++ ([32] : Bytes)), sI 4 u36.2], [], [], 0⟩) (fuel' := 0) [14, 15, 16] [0, 3, 4] [] rfl (by kernel_rfl) (by kernel_rfl) ?_
     refine RefX.done (by kernel_rfl) ?_
     exact Ref.n0 (t := (((x52 ++ r53) ++ ([32] : Bytes))))
   ·
    refine Ref.rn 4 ?_
    refine RefR.e0 (st' := ⟨[(0, .c (E38.tree a0)), sS 3 u50, sI 4 (IntKind.i64.wrap (u36.2 + 1))], [], [], 0⟩) 0 3 3 [0, 3, 4] [] ?_
    refine RefR.nl 3 ?_
    exact Ref.n0 (t := (u50, (IntKind.i64.wrap (u36.2 + 1))))
  ·
   refine Ref.conv (Conv.keep (st' := ⟨[sS 3 u36.1], [], [], 0⟩) [3] [] (by kernel_rfl)) ?_
   exact Ref.xt 0 (t := (Sum.inl (u36.1)))
 ·
  refine Ref.sq ?_
  refine Ref.rn 8 ?_
  refine RefR.evC (vs := [room (u27.length + ([41] : Bytes).length)]) (st' := ⟨[sS 2 (u27 ++ ([41] : Bytes))], [], [], 0⟩) 0 3 3 [2] [] rfl (by kernel_rfl) ?_
  refine RefR.nl 3 ?_
  exact Ref.rt (t := ((u27 ++ ([41] : Bytes))))

/-- governor/governorref5.result -/
def F40 (K : Nat) (a0 : S29) : Option ((Bytes) ⊕ (Bytes)) :=
 (if ((a0.fKind : Int) == 0) = true then (some (.inl (([] : Bytes)))) else ((fnS (F13 K a0)).bind (fun r1 => (chk [room (([32, 58, 32] : Bytes).length + r1.length)] (some (.inl ((([32, 58, 32] : Bytes) ++ r1))))))))

theorem F40_ok (K : Nat) (a0 : S29) : DFun Tryd.prog 40 [.agg (E29.cs a0)] [] (fnS (F40 K a0)) (fun r => .c (.str r)) (fun r => []) := by
 refine DFun.intro (fn := Tryd.f40) (c := cd (bd Tryd.f40) []) (rs := fun r => ⟨[sS 2 r], [], [], 0⟩) (by kernel_rfl) (by kernel_rfl) (by kernel_rfl) ?_ (fun r => by kernel_rfl) (fun r => by kernel_rfl) (fun r => by kernel_rfl) (fun r => by kernel_rfl)
 unfold F40
 refine Ref.sq ?_
 refine Ref.rn 0 ?_
 refine RefR.e0 (st' := ⟨[sP 1 0 0 0], [.cells (E29.cs a0)], [], 0⟩) 0 2 2 [1] [0] ?_
 refine RefR.nl 2 ?_
 refine Ref.sq ?_
 refine Ref.sq ?_
 refine Ref.rn 1 ?_
 refine RefR.e0 (st' := ⟨[sP 1 0 0 0, sB 5 ((a0.fKind : Int) == 0)], [.cells (E29.cs a0)], [], 0⟩) 0 3 3 [1, 5] [0] ?_
 refine RefR.nl 3 ?_
 refine Ref.cn (.tmp 5) ((a0.fKind : Int) == 0) (fun hc => ?_) (fun hc => ?_)
 ·
  refine Ref.sq ?_
  refine Ref.rn 2 ?_
  refine RefR.e0 (st' := ⟨[sS 2 ([] : Bytes)], [], [], 0⟩) 0 1 1 [2] [] ?_
  refine RefR.nl 1 ?_
  exact Ref.rt (t := (([] : Bytes)))
 ·
  refine Ref.sk ?_
  refine Ref.sq ?_
  refine Ref.rn 3 ?_
  refine RefR.e0 (st' := ⟨[(6, .agg (E29.cs a0))], [], [], 0⟩) 0 1 1 [6] [] ?_
  refine RefR.callC (t := 7) 1 2 [] rfl (by kernel_rfl) (F13_ok K a0) (fun r1 => ?_)
  refine RefR.evC (vs := [room (([32, 58, 32] : Bytes).length + r1.length)]) (st' := ⟨[sS 2 (([32, 58, 32] : Bytes) ++ r1)], [], [], 0⟩) 2 2 4 [2] [] rfl (by kernel_rfl) ?_
  refine RefR.nl 4 ?_
  exact Ref.rt (t := ((([32, 58, 32] : Bytes) ++ r1)))

/-- governor/governorref5.word -/
def F41 (K : Nat) (a0 : Bool) (a1 : Bytes) : Option ((Bytes) ⊕ (Bytes)) :=
 (if a0 = true then (chk [room (a1.length + ([32] : Bytes).length)] (some (.inl ((a1 ++ ([32] : Bytes)))))) else (some (.inl (([] : Bytes)))))

theorem F41_ok (K : Nat) (a0 : Bool) (a1 : Bytes) : DFun Tryd.prog 41 [.c (.val (.bool a0)), .c (.str a1)] [] (fnS (F41 K a0 a1)) (fun r => .c (.str r)) (fun r => []) := by
 refine DFun.intro (fn := Tryd.f41) (c := cd (bd Tryd.f41) []) (rs := fun r => ⟨[sS 4 r], [], [], 0⟩) (by kernel_rfl) (by kernel_rfl) (by kernel_rfl) ?_ (fun r => by kernel_rfl) (fun r => by kernel_rfl) (fun r => by kernel_rfl) (fun r => by kernel_rfl)
 unfold F41
 refine Ref.sq ?_
 refine Ref.rn 0 ?_
 refine RefR.e0 (st' := ⟨[sB 0 a0, sS 1 a1], [], [], 0⟩) 0 1 1 [0, 1] [] ?_
 refine RefR.nl 1 ?_
 refine Ref.sq ?_
 refine Ref.sq ?_
 refine Ref.rn 1 ?_
 refine RefR.e0 (st' := ⟨[sS 1 a1, sB 5 a0], [], [], 0⟩) 0 1 1 [1, 5] [] ?_
 refine RefR.nl 1 ?_
 refine Ref.cn (.tmp 5) a0 (fun hc => ?_) (fun hc => ?_)
 ·
  refine Ref.sq ?_
  refine Ref.rn 2 ?_
  refine RefR.evC (vs := [room (a1.length + ([32] : Bytes).length)]) (st' := ⟨[sS 4 (a1 ++ ([32] : Bytes))], [], [], 0⟩) 0 3 3 [4] [] rfl (by kernel_rfl) ?_
  refine RefR.nl 3 ?_
  exact Ref.rt (t := ((a1 ++ ([32] : Bytes))))
 ·
  refine Ref.sk ?_
  refine Ref.sq ?_
  refine Ref.rn 3 ?_
  refine RefR.e0 (st' := ⟨[sS 4 ([] : Bytes)], [], [], 0⟩) 0 1 1 [4] [] ?_
  refine RefR.nl 1 ?_
  exact Ref.rt (t := (([] : Bytes)))

/-- governor/governorref5.vars -/
def F42 (K : Nat) (a0 : (List S38)) : Option ((Bytes) ⊕ (Bytes)) :=
 (bindS (blockS ((iter K (fun (u172 : Bytes × Int) => (letV (decide ((u172.2 : Int) < (Int.ofNat a0.length))) (fun (x216 : Bool) => (if x216 = true then (bindS (blockS (chk [inb u172.2 a0.length] (chk [room (u172.1.length + ([86, 65, 82, 32] : Bytes).length)] (chk [room ((u172.1 ++ ([86, 65, 82, 32] : Bytes)).length + ((a0.getD (u172.2 : Int).toNat default).fName).length), room (((u172.1 ++ ([86, 65, 82, 32] : Bytes)) ++ ((a0.getD (u172.2 : Int).toNat default).fName)).length + ([32, 58, 32] : Bytes).length)] (letV (((u172.1 ++ ([86, 65, 82, 32] : Bytes)) ++ ((a0.getD (u172.2 : Int).toNat default).fName)) ++ ([32, 58, 32] : Bytes)) (fun (x238 : Bytes) => ((condM true (fnS (F13 K ((a0.getD (u172.2 : Int).toNat default).fType))) default).bind (fun r239 => (chk [room (x238.length + r239.length), room ((x238 ++ r239).length + ([32] : Bytes).length)] (letV ((((a0.getD (u172.2 : Int).toNat default).fInit) : Int) != 0) (fun (x240 : Bool) => (bindS (if x240 = true then (chk [room (((x238 ++ r239) ++ ([32] : Bytes)).length + ([58, 61, 32] : Bytes).length)] (letV (((x238 ++ r239) ++ ([32] : Bytes)) ++ ([58, 61, 32] : Bytes)) (fun (x244 : Bytes) => ((fnS (F24 K ((a0.getD (u172.2 : Int).toNat default).fInit))).bind (fun r245 => (chk [room (x244.length + r245.length), room ((x244 ++ r245).length + ([32] : Bytes).length)] (some (.inr (((x244 ++ r245) ++ ([32] : Bytes))))))))))) else (some (.inr (((x238 ++ r239) ++ ([32] : Bytes)))))) (fun (u243 : Bytes) => (letV ((((a0.getD (u172.2 : Int).toNat default).fDir) : Int) == 1) (fun (x246 : Bool) => (bindS (if x246 = true then (chk [room (u243.length + ([65, 84, 32, 73, 78, 32] : Bytes).length)] ((fnS (F24 K ((a0.getD (u172.2 : Int).toNat default).fSlot))).bind (fun r250 => (chk [room ((u243 ++ ([65, 84, 32, 73, 78, 32] : Bytes)).length + r250.length), room (((u243 ++ ([65, 84, 32, 73, 78, 32] : Bytes)) ++ r250).length + ([32] : Bytes).length)] (letV (((u243 ++ ([65, 84, 32, 73, 78, 32] : Bytes)) ++ r250) ++ ([32] : Bytes)) (fun (x251 : Bytes) => (some (.inr (x251))))))))) else (some (.inr (u243)))) (fun (u249 : Bytes) => (letV ((((a0.getD (u172.2 : Int).toNat default).fDir) : Int) == 2) (fun (x252 : Bool) => (bindS (if x252 = true then (chk [room (u249.length + ([65, 84, 32, 79, 85, 84, 32] : Bytes).length)] (letV (u249 ++ ([65, 84, 32, 79, 85, 84, 32] : Bytes)) (fun (x256 : Bytes) => ((fnS (F24 K ((a0.getD (u172.2 : Int).toNat default).fSlot))).bind (fun r257 => (chk [room (x256.length + r257.length), room ((x256 ++ r257).length + ([32] : Bytes).length)] (some (.inr (((x256 ++ r257) ++ ([32] : Bytes))))))))))) else (some (.inr (u249)))) (fun (u255 : Bytes) => (chk [room (u255.length + ([59, 32] : Bytes).length)] (some (.inr ((u255 ++ ([59, 32] : Bytes))))))))))))))))))))))))))) (fun (u237 : Bytes) => (some (.inr (u237, (IntKind.i64.wrap (u172.2 + 1))))))) else (some (.inl (Sum.inl (u172.1)))))))) (([] : Bytes), 0)).map .inl)) (fun (u129 : Bytes) => (some (.inl (u129)))))

theorem F42_ok (K : Nat) (a0 : (List S38)) : DFun Tryd.prog 42 [.c (E38.tree a0)] [] (fnS (F42 K a0)) (fun r => .c (.str r)) (fun r => []) := by
 refine DFun.intro (fn := Tryd.f42) (c := cd (bd Tryd.f42) []) (rs := fun r => ⟨[sS 2 r], [], [], 0⟩) (by kernel_rfl) (by kernel_rfl) (by kernel_rfl) ?_ (fun r => by kernel_rfl) (fun r => by kernel_rfl) (fun r => by kernel_rfl) (fun r => by kernel_rfl)
 unfold F42
 refine Ref.sq ?_
 refine Ref.rn 0 ?_
 refine RefR.e0 (st' := ⟨[(0, .c (E38.tree a0))], [], [], 0⟩) 0 1 1 [0] [] ?_
 refine RefR.nl 1 ?_
 refine Ref.sq ?_
 refine Ref.rn 1 ?_
 refine RefR.e0 (st' := ⟨[(0, .c (E38.tree a0)), sS 3 ([] : Bytes)], [], [], 0⟩) 0 1 1 [0, 3] [] ?_
 refine RefR.nl 1 ?_
 refine Ref.sq ?_
 refine Ref.sq ?_
 refine Ref.rn 2 ?_
 refine RefR.e0 (st' := ⟨[(0, .c (E38.tree a0)), sS 3 ([] : Bytes), sI 4 0], [], [], 0⟩) 0 1 1 [0, 3, 4] [] ?_
 refine RefR.nl 1 ?_
 refine Ref.codeEq (c' := .block 0 (cd (bd Tryd.f42) [1, 1, 0, 1, 0])) (by kernel_rfl) ?_
 refine Ref.block (go1 := fun u129 => ⟨[sS 3 u129], [], [], 0⟩) ?_ (fun _ h => by cases h) (fun u129 => ?_)
 ·
  refine Ref.codeEq (c' := .loop (cd (bd Tryd.f42) [1, 1, 0, 1, 0, 0])) (by kernel_rfl) ?_
  refine Ref.loop (hd := fun u172 => ⟨[(0, .c (E38.tree a0)), sS 3 u172.1, sI 4 u172.2], [], [], 0⟩) K (([] : Bytes), 0) (by kernel_rfl) (fun u172 => ?_)
  refine Ref.sq ?_
  refine Ref.sq ?_
  refine Ref.rn 3 ?_
  refine RefR.e0 (st' := ⟨[(0, .c (E38.tree a0)), sS 3 u172.1, sI 4 u172.2, sB 9 (decide ((u172.2 : Int) < (Int.ofNat a0.length)))], [], [], 0⟩) 0 4 4 [0, 3, 4, 9] [] ?_
  refine RefR.letC (stf := fun x216 => ⟨[(0, .c (E38.tree a0)), sS 3 u172.1, sI 4 u172.2, sB 9 x216], [], [], 0⟩) (by kernel_rfl) (fun x216 => ?_)
  refine RefR.nl 4 ?_
  refine Ref.cn (.tmp 9) x216 (fun hc => ?_) (fun hc => ?_)
  ·
   refine Ref.sk ?_
   refine Ref.sq ?_
   refine Ref.codeEq (c' := .block 1 (cd (bd Tryd.f42) [1, 1, 0, 1, 0, 0, 1, 0, 0])) (by kernel_rfl) ?_
   refine Ref.block (go1 := fun u237 => ⟨[(0, .c (E38.tree a0)), sS 3 u237, sI 4 u172.2], [], [], 0⟩) ?_ (fun a => match a with | .inl _ => (fun h => by cases h) | .inr _ => (fun h => by cases h)) (fun u237 => ?_)
   ·
    refine Ref.sq ?_
    refine Ref.rn 5 ?_
    refine RefR.evC (vs := [inb u172.2 a0.length]) (st' := ⟨[(0, .c (E38.tree a0)), sS 3 u172.1, sI 4 u172.2, sP 5 0 0 0], [.cells (E38.cs (a0.getD (u172.2 : Int).toNat default))], [], 0⟩) 0 6 6 [0, 3, 4, 5] [0] rfl (by kernel_rfl) ?_
    refine RefR.nl 6 ?_
    refine Ref.sq ?_
    refine Ref.drawnY 6 (by kernel_rfl) (by kernel_rfl) ?_
    refine RefY.evC (vs := [room (u172.1.length + ([86, 65, 82, 32] : Bytes).length)]) (st' := ⟨[(0, .c (E38.tree a0)), sI 4 u172.2, sP 5 0 0 0, sS 17 (u172.1 ++ ([86, 65, 82, 32] : Bytes)), sP 18 0 0 0, sP 22 0 0 1], [.cells (E38.cs (a0.getD (u172.2 : Int).toNat default))], [], 0⟩) (fuel' := 8) [0, 1, 2, 6] [0, 4, 5, 17, 18, 22] [0] rfl (by kernel_rfl) (by kernel_rfl) ?_
    refine RefY.toX [] ?_
    refine RefX.evC (vs := [room ((u172.1 ++ ([86, 65, 82, 32] : Bytes)).length + ((a0.getD (u172.2 : Int).toNat default).fName).length), room (((u172.1 ++ ([86, 65, 82, 32] : Bytes)) ++ ((a0.getD (u172.2 : Int).toNat default).fName)).length + ([32, 58, 32] : Bytes).length)]) (st' := ⟨[(0, .c (E38.tree a0)), sI 4 u172.2, sP 5 0 0 0, sS 21 (((u172.1 ++ ([86, 65, 82, 32] : Bytes)) ++ ((a0.getD (u172.2 : Int).toNat default).fName)) ++ ([32, 58, 32] : Bytes)), (23, .agg (E29.cs ((a0.getD (u172.2 : Int).toNat default).fType)))], [.cells (E38.cs (a0.getD (u172.2 : Int).toNat default))], [], 0⟩) (fuel' := 4) [3, 4, 5, 7] [0, 4, 5, 21, 23] [0] rfl (by kernel_rfl) (by kernel_rfl) ?_
    refine RefX.letC (stf := fun x238 => ⟨[(0, .c (E38.tree a0)), sI 4 u172.2, sP 5 0 0 0, sS 21 x238, (23, .agg (E29.cs ((a0.getD (u172.2 : Int).toNat default).fType)))], [.cells (E38.cs (a0.getD (u172.2 : Int).toNat default))], [], 0⟩) (by kernel_rfl) (fun x238 => ?_)
    refine RefX.lookC (t := 24) (g := []) (b := true) (fuel' := 3) 8 [] (default : Bytes) rfl (by kernel_rfl) (by kernel_rfl) (F13_ok K ((a0.getD (u172.2 : Int).toNat default).fType)) (fun _ => rfl) (fun r239 => ?_)
    refine RefX.evC (vs := [room (x238.length + r239.length), room ((x238 ++ r239).length + ([32] : Bytes).length)]) (st' := ⟨[(0, .c (E38.tree a0)), sS 3 ((x238 ++ r239) ++ ([32] : Bytes)), sI 4 u172.2, sP 5 0 0 0], [.cells (E38.cs (a0.getD (u172.2 : Int).toNat default))], [], 0⟩) (fuel' := 0) [9, 10, 11] [0, 3, 4, 5] [0] rfl (by kernel_rfl) (by kernel_rfl) ?_
    refine RefX.done (by kernel_rfl) ?_
    refine Ref.sq ?_
    refine Ref.sq ?_
    refine Ref.rn 7 ?_
    refine RefR.e0 (st' := ⟨[(0, .c (E38.tree a0)), sS 3 ((x238 ++ r239) ++ ([32] : Bytes)), sI 4 u172.2, sP 5 0 0 0, sB 29 ((((a0.getD (u172.2 : Int).toNat default).fInit) : Int) != 0)], [.cells (E38.cs (a0.getD (u172.2 : Int).toNat default))], [], 0⟩) 0 3 3 [0, 3, 4, 5, 29] [0] ?_
    refine RefR.letC (stf := fun x240 => ⟨[(0, .c (E38.tree a0)), sS 3 ((x238 ++ r239) ++ ([32] : Bytes)), sI 4 u172.2, sP 5 0 0 0, sB 29 x240], [.cells (E38.cs (a0.getD (u172.2 : Int).toNat default))], [], 0⟩) (by kernel_rfl) (fun x240 => ?_)
    refine RefR.nl 3 ?_
    refine Ref.bind (go1 := fun u243 => ⟨[(0, .c (E38.tree a0)), sS 3 u243, sI 4 u172.2, sP 5 0 0 0], [.cells (E38.cs (a0.getD (u172.2 : Int).toNat default))], [], 0⟩) ?_ (fun u243 => ?_)
    ·
     refine Ref.cn (.tmp 29) x240 (fun hc => ?_) (fun hc => ?_)
     ·
      refine Ref.rn 8 ?_
      refine RefR.evC (vs := [room (((x238 ++ r239) ++ ([32] : Bytes)).length + ([58, 61, 32] : Bytes).length)]) (st' := ⟨[(0, .c (E38.tree a0)), sI 4 u172.2, sP 5 0 0 0, sS 31 (((x238 ++ r239) ++ ([32] : Bytes)) ++ ([58, 61, 32] : Bytes)), sI 33 ((a0.getD (u172.2 : Int).toNat default).fInit)], [.cells (E38.cs (a0.getD (u172.2 : Int).toNat default))], [], 0⟩) 0 4 4 [0, 4, 5, 31, 33] [0] rfl (by kernel_rfl) ?_
      refine RefR.letC (stf := fun x244 => ⟨[(0, .c (E38.tree a0)), sI 4 u172.2, sP 5 0 0 0, sS 31 x244, sI 33 ((a0.getD (u172.2 : Int).toNat default).fInit)], [.cells (E38.cs (a0.getD (u172.2 : Int).toNat default))], [], 0⟩) (by kernel_rfl) (fun x244 => ?_)
      refine RefR.callC (t := 34) 4 5 [] rfl (by kernel_rfl) (F24_ok K ((a0.getD (u172.2 : Int).toNat default).fInit)) (fun r245 => ?_)
      refine RefR.evC (vs := [room (x244.length + r245.length), room ((x244 ++ r245).length + ([32] : Bytes).length)]) (st' := ⟨[(0, .c (E38.tree a0)), sS 3 ((x244 ++ r245) ++ ([32] : Bytes)), sI 4 u172.2, sP 5 0 0 0], [.cells (E38.cs (a0.getD (u172.2 : Int).toNat default))], [], 0⟩) 5 3 8 [0, 3, 4, 5] [0] rfl (by kernel_rfl) ?_
      refine RefR.nl 8 ?_
      exact Ref.n0 (t := (((x244 ++ r245) ++ ([32] : Bytes))))
     ·
      refine Ref.sk ?_
      refine Ref.conv (Conv.keep (st' := ⟨[(0, .c (E38.tree a0)), sS 3 ((x238 ++ r239) ++ ([32] : Bytes)), sI 4 u172.2, sP 5 0 0 0], [.cells (E38.cs (a0.getD (u172.2 : Int).toNat default))], [], 0⟩) [0, 3, 4, 5] [0] (by kernel_rfl)) ?_
      exact Ref.n0 (t := (((x238 ++ r239) ++ ([32] : Bytes))))
    ·
     refine Ref.sq ?_
     refine Ref.sq ?_
     refine Ref.rn 9 ?_
     refine RefR.e0 (st' := ⟨[(0, .c (E38.tree a0)), sS 3 u243, sI 4 u172.2, sP 5 0 0 0, sB 39 ((((a0.getD (u172.2 : Int).toNat default).fDir) : Int) == 1)], [.cells (E38.cs (a0.getD (u172.2 : Int).toNat default))], [], 0⟩) 0 3 3 [0, 3, 4, 5, 39] [0] ?_
     refine RefR.letC (stf := fun x246 => ⟨[(0, .c (E38.tree a0)), sS 3 u243, sI 4 u172.2, sP 5 0 0 0, sB 39 x246], [.cells (E38.cs (a0.getD (u172.2 : Int).toNat default))], [], 0⟩) (by kernel_rfl) (fun x246 => ?_)
     refine RefR.nl 3 ?_
     refine Ref.bind (go1 := fun u249 => ⟨[(0, .c (E38.tree a0)), sS 3 u249, sI 4 u172.2, sP 5 0 0 0], [.cells (E38.cs (a0.getD (u172.2 : Int).toNat default))], [], 0⟩) ?_ (fun u249 => ?_)
     ·
      refine Ref.cn (.tmp 39) x246 (fun hc => ?_) (fun hc => ?_)
      ·
       refine Ref.rn 10 ?_
       refine RefR.evC (vs := [room (u243.length + ([65, 84, 32, 73, 78, 32] : Bytes).length)]) (st' := ⟨[(0, .c (E38.tree a0)), sI 4 u172.2, sP 5 0 0 0, sS 41 (u243 ++ ([65, 84, 32, 73, 78, 32] : Bytes)), sI 43 ((a0.getD (u172.2 : Int).toNat default).fSlot)], [.cells (E38.cs (a0.getD (u172.2 : Int).toNat default))], [], 0⟩) 0 4 4 [0, 4, 5, 41, 43] [0] rfl (by kernel_rfl) ?_
       refine RefR.callC (t := 44) 4 5 [] rfl (by kernel_rfl) (F24_ok K ((a0.getD (u172.2 : Int).toNat default).fSlot)) (fun r250 => ?_)
       refine RefR.evC (vs := [room ((u243 ++ ([65, 84, 32, 73, 78, 32] : Bytes)).length + r250.length), room (((u243 ++ ([65, 84, 32, 73, 78, 32] : Bytes)) ++ r250).length + ([32] : Bytes).length)]) (st' := ⟨[(0, .c (E38.tree a0)), sS 3 (((u243 ++ ([65, 84, 32, 73, 78, 32] : Bytes)) ++ r250) ++ ([32] : Bytes)), sI 4 u172.2, sP 5 0 0 0], [.cells (E38.cs (a0.getD (u172.2 : Int).toNat default))], [], 0⟩) 5 3 8 [0, 3, 4, 5] [0] rfl (by kernel_rfl) ?_
       refine RefR.letC (stf := fun x251 => ⟨[(0, .c (E38.tree a0)), sS 3 x251, sI 4 u172.2, sP 5 0 0 0], [.cells (E38.cs (a0.getD (u172.2 : Int).toNat default))], [], 0⟩) (by kernel_rfl) (fun x251 => ?_)
       refine RefR.nl 8 ?_
       exact Ref.n0 (t := (x251))
      ·
       refine Ref.sk ?_
       refine Ref.conv (Conv.keep (st' := ⟨[(0, .c (E38.tree a0)), sS 3 u243, sI 4 u172.2, sP 5 0 0 0], [.cells (E38.cs (a0.getD (u172.2 : Int).toNat default))], [], 0⟩) [0, 3, 4, 5] [0] (by kernel_rfl)) ?_
       exact Ref.n0 (t := (u243))
     ·
      refine Ref.sq ?_
      refine Ref.sq ?_
      refine Ref.rn 11 ?_
      refine RefR.e0 (st' := ⟨[(0, .c (E38.tree a0)), sS 3 u249, sI 4 u172.2, sP 5 0 0 0, sB 49 ((((a0.getD (u172.2 : Int).toNat default).fDir) : Int) == 2)], [.cells (E38.cs (a0.getD (u172.2 : Int).toNat default))], [], 0⟩) 0 3 3 [0, 3, 4, 5, 49] [0] ?_
      refine RefR.letC (stf := fun x252 => ⟨[(0, .c (E38.tree a0)), sS 3 u249, sI 4 u172.2, sP 5 0 0 0, sB 49 x252], [.cells (E38.cs (a0.getD (u172.2 : Int).toNat default))], [], 0⟩) (by kernel_rfl) (fun x252 => ?_)
      refine RefR.nl 3 ?_
      refine Ref.bind (go1 := fun u255 => ⟨[(0, .c (E38.tree a0)), sS 3 u255, sI 4 u172.2], [], [], 0⟩) ?_ (fun u255 => ?_)
      ·
       refine Ref.cn (.tmp 49) x252 (fun hc => ?_) (fun hc => ?_)
       ·
        refine Ref.rn 12 ?_
        refine RefR.evC (vs := [room (u249.length + ([65, 84, 32, 79, 85, 84, 32] : Bytes).length)]) (st' := ⟨[(0, .c (E38.tree a0)), sI 4 u172.2, sS 51 (u249 ++ ([65, 84, 32, 79, 85, 84, 32] : Bytes)), sI 53 ((a0.getD (u172.2 : Int).toNat default).fSlot)], [], [], 0⟩) 0 4 4 [0, 4, 51, 53] [] rfl (by kernel_rfl) ?_
        refine RefR.letC (stf := fun x256 => ⟨[(0, .c (E38.tree a0)), sI 4 u172.2, sS 51 x256, sI 53 ((a0.getD (u172.2 : Int).toNat default).fSlot)], [], [], 0⟩) (by kernel_rfl) (fun x256 => ?_)
        refine RefR.callC (t := 54) 4 5 [] rfl (by kernel_rfl) (F24_ok K ((a0.getD (u172.2 : Int).toNat default).fSlot)) (fun r257 => ?_)
        refine RefR.evC (vs := [room (x256.length + r257.length), room ((x256 ++ r257).length + ([32] : Bytes).length)]) (st' := ⟨[(0, .c (E38.tree a0)), sS 3 ((x256 ++ r257) ++ ([32] : Bytes)), sI 4 u172.2], [], [], 0⟩) 5 3 8 [0, 3, 4] [] rfl (by kernel_rfl) ?_
        refine RefR.nl 8 ?_
        exact Ref.n0 (t := (((x256 ++ r257) ++ ([32] : Bytes))))
       ·
        refine Ref.sk ?_
        refine Ref.conv (Conv.keep (st' := ⟨[(0, .c (E38.tree a0)), sS 3 u249, sI 4 u172.2], [], [], 0⟩) [0, 3, 4] [] (by kernel_rfl)) ?_
        exact Ref.n0 (t := (u249))
      ·
       refine Ref.rn 13 ?_
       refine RefR.evC (vs := [room (u255.length + ([59, 32] : Bytes).length)]) (st' := ⟨[(0, .c (E38.tree a0)), sS 3 (u255 ++ ([59, 32] : Bytes)), sI 4 u172.2], [], [], 0⟩) 0 3 3 [0, 3, 4] [] rfl (by kernel_rfl) ?_
       refine RefR.nl 3 ?_
       exact Ref.n0 (t := ((u255 ++ ([59, 32] : Bytes))))
   ·
    refine Ref.rn 4 ?_
    refine RefR.e0 (st' := ⟨[(0, .c (E38.tree a0)), sS 3 u237, sI 4 (IntKind.i64.wrap (u172.2 + 1))], [], [], 0⟩) 0 3 3 [0, 3, 4] [] ?_
    refine RefR.nl 3 ?_
    exact Ref.n0 (t := (u237, (IntKind.i64.wrap (u172.2 + 1))))
  ·
   refine Ref.conv (Conv.keep (st' := ⟨[sS 3 u172.1], [], [], 0⟩) [3] [] (by kernel_rfl)) ?_
   exact Ref.xt 0 (t := (Sum.inl (u172.1)))
 ·
  refine Ref.sq ?_
  refine Ref.rn 14 ?_
  refine RefR.e0 (st' := ⟨[sS 2 u129], [], [], 0⟩) 0 2 2 [2] [] ?_
  refine RefR.nl 2 ?_
  exact Ref.rt (t := (u129))

/-- governor/governorref5.labels -/
def F63 (K : Nat) (a0 : (List (List Int))) (a1 : Int) : Option ((Bytes) ⊕ (Bytes)) :=
 (bindS (blockS ((iter K (fun (u38 : Bytes × Int) => (chk [!(decide ((a1 : Int) < (Int.ofNat a0.length))) || inb a1 a0.length] (letV ((decide ((a1 : Int) < (Int.ofNat a0.length))) && (decide ((u38.2 : Int) < (Int.ofNat (a0.getD (a1 : Int).toNat default).length)))) (fun (x48 : Bool) => (if x48 = true then (bindS (blockS (bindS (if (decide ((u38.2 : Int) > 0)) = true then (chk [room (u38.1.length + ([44, 32] : Bytes).length)] (some (.inr ((u38.1 ++ ([44, 32] : Bytes)))))) else (some (.inr (u38.1)))) (fun (u53 : Bytes) => (chk [inb a1 a0.length, inb u38.2 (a0.getD (a1 : Int).toNat default).length] (letV ((a0.getD (a1 : Int).toNat default).getD (u38.2 : Int).toNat default) (fun (x54 : Int) => ((fnS (F24 K x54)).bind (fun r55 => (chk [room (u53.length + r55.length), room ((u53 ++ r55).length + ([32] : Bytes).length)] (some (.inr (((u53 ++ r55) ++ ([32] : Bytes)))))))))))))) (fun (u52 : Bytes) => (some (.inr (u52, (IntKind.i64.wrap (u38.2 + 1))))))) else (some (.inl (Sum.inl (u38.1))))))))) (([] : Bytes), 0)).map .inl)) (fun (u28 : Bytes) => (some (.inl (u28)))))

theorem F63_ok (K : Nat) (a0 : (List (List Int))) (a1 : Int) : DFun Tryd.prog 63 [.c (E76.tree a0), .c (.val (.int .i64 a1))] [] (fnS (F63 K a0 a1)) (fun r => .c (.str r)) (fun r => []) := by
 refine DFun.intro (fn := Tryd.f63) (c := cd (bd Tryd.f63) []) (rs := fun r => ⟨[sS 4 r], [], [], 0⟩) (by kernel_rfl) (by kernel_rfl) (by kernel_rfl) ?_ (fun r => by kernel_rfl) (fun r => by kernel_rfl) (fun r => by kernel_rfl) (fun r => by kernel_rfl)
 unfold F63
 refine Ref.sq ?_
 refine Ref.rn 0 ?_
 refine RefR.e0 (st' := ⟨[(0, .c (E76.tree a0)), sI 1 a1], [], [], 0⟩) 0 1 1 [0, 1] [] ?_
 refine RefR.nl 1 ?_
 refine Ref.sq ?_
 refine Ref.rn 1 ?_
 refine RefR.e0 (st' := ⟨[(0, .c (E76.tree a0)), sI 1 a1, sS 5 ([] : Bytes)], [], [], 0⟩) 0 1 1 [0, 1, 5] [] ?_
 refine RefR.nl 1 ?_
 refine Ref.sq ?_
 refine Ref.sq ?_
 refine Ref.rn 2 ?_
 refine RefR.e0 (st' := ⟨[(0, .c (E76.tree a0)), sI 1 a1, sS 5 ([] : Bytes), sI 6 0], [], [], 0⟩) 0 1 1 [0, 1, 5, 6] [] ?_
 refine RefR.nl 1 ?_
 refine Ref.codeEq (c' := .block 0 (cd (bd Tryd.f63) [1, 1, 0, 1, 0])) (by kernel_rfl) ?_
 refine Ref.block (go1 := fun u28 => ⟨[sS 5 u28], [], [], 0⟩) ?_ (fun _ h => by cases h) (fun u28 => ?_)
 ·
  refine Ref.codeEq (c' := .loop (cd (bd Tryd.f63) [1, 1, 0, 1, 0, 0])) (by kernel_rfl) ?_
  refine Ref.loop (hd := fun u38 => ⟨[(0, .c (E76.tree a0)), sI 1 a1, sS 5 u38.1, sI 6 u38.2], [], [], 0⟩) K (([] : Bytes), 0) (by kernel_rfl) (fun u38 => ?_)
  refine Ref.sq ?_
  refine Ref.sq ?_
  refine Ref.rn 3 ?_
  refine RefR.evC (vs := [!(decide ((a1 : Int) < (Int.ofNat a0.length))) || inb a1 a0.length]) (st' := ⟨[(0, .c (E76.tree a0)), sI 1 a1, sS 5 u38.1, sI 6 u38.2, sB 19 ((decide ((a1 : Int) < (Int.ofNat a0.length))) && (decide ((u38.2 : Int) < (Int.ofNat (a0.getD (a1 : Int).toNat default).length))))], [], [], 0⟩) 0 13 13 [0, 1, 5, 6, 19] [] rfl (by kernel_rfl) ?_
  refine RefR.letC (stf := fun x48 => ⟨[(0, .c (E76.tree a0)), sI 1 a1, sS 5 u38.1, sI 6 u38.2, sB 19 x48], [], [], 0⟩) (by kernel_rfl) (fun x48 => ?_)
  refine RefR.nl 13 ?_
  refine Ref.cn (.tmp 19) x48 (fun hc => ?_) (fun hc => ?_)
  ·
   refine Ref.sk ?_
   refine Ref.sq ?_
   refine Ref.codeEq (c' := .block 1 (cd (bd Tryd.f63) [1, 1, 0, 1, 0, 0, 1, 0, 0])) (by kernel_rfl) ?_
   refine Ref.block (go1 := fun u52 => ⟨[(0, .c (E76.tree a0)), sI 1 a1, sS 5 u52, sI 6 u38.2], [], [], 0⟩) ?_ (fun a => match a with | .inl _ => (fun h => by cases h) | .inr _ => (fun h => by cases h)) (fun u52 => ?_)
   ·
    refine Ref.sq ?_
    refine Ref.sq ?_
    refine Ref.rn 5 ?_
    refine RefR.e0 (st' := ⟨[(0, .c (E76.tree a0)), sI 1 a1, sS 5 u38.1, sI 6 u38.2, sB 23 (decide ((u38.2 : Int) > 0))], [], [], 0⟩) 0 2 2 [0, 1, 5, 6, 23] [] ?_
    refine RefR.nl 2 ?_
    refine Ref.bind (go1 := fun u53 => ⟨[(0, .c (E76.tree a0)), sI 1 a1, sS 5 u53, sI 6 u38.2], [], [], 0⟩) ?_ (fun u53 => ?_)
    ·
     refine Ref.cn (.tmp 23) (decide ((u38.2 : Int) > 0)) (fun hc => ?_) (fun hc => ?_)
     ·
      refine Ref.rn 6 ?_
      refine RefR.evC (vs := [room (u38.1.length + ([44, 32] : Bytes).length)]) (st' := ⟨[(0, .c (E76.tree a0)), sI 1 a1, sS 5 (u38.1 ++ ([44, 32] : Bytes)), sI 6 u38.2], [], [], 0⟩) 0 3 3 [0, 1, 5, 6] [] rfl (by kernel_rfl) ?_
      refine RefR.nl 3 ?_
      exact Ref.n0 (t := ((u38.1 ++ ([44, 32] : Bytes))))
     ·
      refine Ref.sk ?_
      refine Ref.conv (Conv.keep (st' := ⟨[(0, .c (E76.tree a0)), sI 1 a1, sS 5 u38.1, sI 6 u38.2], [], [], 0⟩) [0, 1, 5, 6] [] (by kernel_rfl)) ?_
      exact Ref.n0 (t := (u38.1))
    ·
     refine Ref.rn 7 ?_
     refine RefR.evC (vs := [inb a1 a0.length, inb u38.2 (a0.getD (a1 : Int).toNat default).length]) (st' := ⟨[(0, .c (E76.tree a0)), sI 1 a1, sI 6 u38.2, sS 26 u53, sI 33 ((a0.getD (a1 : Int).toNat default).getD (u38.2 : Int).toNat default)], [], [], 0⟩) 0 8 8 [0, 1, 6, 26, 33] [] rfl (by kernel_rfl) ?_
     refine RefR.letC (stf := fun x54 => ⟨[(0, .c (E76.tree a0)), sI 1 a1, sI 6 u38.2, sS 26 u53, sI 33 x54], [], [], 0⟩) (by kernel_rfl) (fun x54 => ?_)
     refine RefR.callC (t := 34) 8 9 [] rfl (by kernel_rfl) (F24_ok K x54) (fun r55 => ?_)
     refine RefR.evC (vs := [room (u53.length + r55.length), room ((u53 ++ r55).length + ([32] : Bytes).length)]) (st' := ⟨[(0, .c (E76.tree a0)), sI 1 a1, sS 5 ((u53 ++ r55) ++ ([32] : Bytes)), sI 6 u38.2], [], [], 0⟩) 9 3 12 [0, 1, 5, 6] [] rfl (by kernel_rfl) ?_
     refine RefR.nl 12 ?_
     exact Ref.n0 (t := (((u53 ++ r55) ++ ([32] : Bytes))))
   ·
    refine Ref.rn 4 ?_
    refine RefR.e0 (st' := ⟨[(0, .c (E76.tree a0)), sI 1 a1, sS 5 u52, sI 6 (IntKind.i64.wrap (u38.2 + 1))], [], [], 0⟩) 0 3 3 [0, 1, 5, 6] [] ?_
    refine RefR.nl 3 ?_
    exact Ref.n0 (t := (u52, (IntKind.i64.wrap (u38.2 + 1))))
  ·
   refine Ref.conv (Conv.keep (st' := ⟨[sS 5 u38.1], [], [], 0⟩) [5] [] (by kernel_rfl)) ?_
   exact Ref.xt 0 (t := (Sum.inl (u38.1)))
 ·
  refine Ref.sq ?_
  refine Ref.rn 8 ?_
  refine RefR.e0 (st' := ⟨[sS 4 u28], [], [], 0⟩) 0 2 2 [4] [] ?_
  refine RefR.nl 2 ?_
  exact Ref.rt (t := (u28))

mutual

/-- governor/governorref5.list -/
def F43 : (K : Nat) → ((List S43)) → Option ((Bytes) ⊕ (Bytes))
 | 0, _ => none
 | K + 1, a0 =>
 (bindS (blockS ((iter K (fun (u20 : Bytes × Int) => (letV (decide ((u20.2 : Int) < (Int.ofNat a0.length))) (fun (x26 : Bool) => (if x26 = true then (bindS (blockS (chk [inb u20.2 a0.length] ((fnS (F55 K (a0.getD (u20.2 : Int).toNat default))).bind (fun r29 => (chk [room (u20.1.length + r29.length), room ((u20.1 ++ r29).length + ([32] : Bytes).length)] (some (.inr (((u20.1 ++ r29) ++ ([32] : Bytes)))))))))) (fun (u28 : Bytes) => (some (.inr (u28, (IntKind.i64.wrap (u20.2 + 1))))))) else (some (.inl (Sum.inl (u20.1)))))))) (([] : Bytes), 0)).map .inl)) (fun (u15 : Bytes) => (some (.inl (u15)))))

/-- governor/governorref5.stmt -/
def F55 : (K : Nat) → (S43) → Option ((Bytes) ⊕ (Bytes))
 | 0, _ => none
 | K + 1, a0 =>
 (bindS (blockS (if ((a0.fKind : Int) == 1) = true then (chk [room (a0.fName.length + ([32, 58, 61, 32] : Bytes).length)] ((condM true (fnS (F25 K a0.fExprs 0)) default).bind (fun r162 => (chk [room ((a0.fName ++ ([32, 58, 61, 32] : Bytes)).length + r162.length), room (((a0.fName ++ ([32, 58, 61, 32] : Bytes)) ++ r162).length + ([32, 59] : Bytes).length)] (letV (((a0.fName ++ ([32, 58, 61, 32] : Bytes)) ++ r162) ++ ([32, 59] : Bytes)) (fun (x163 : Bytes) => (some (.inl (Sum.inr (x163)))))))))) else (if ((a0.fKind : Int) == 2) = true then (chk [room (a0.fName.length + ([32, 91, 32] : Bytes).length)] ((condM true (fnS (F25 K a0.fExprs 0)) default).bind (fun r164 => (chk [room ((a0.fName ++ ([32, 91, 32] : Bytes)).length + r164.length), room (((a0.fName ++ ([32, 91, 32] : Bytes)) ++ r164).length + ([32, 93, 32, 58, 61, 32] : Bytes).length)] (letV (((a0.fName ++ ([32, 91, 32] : Bytes)) ++ r164) ++ ([32, 93, 32, 58, 61, 32] : Bytes)) (fun (x165 : Bytes) => ((condM true (fnS (F25 K a0.fExprs 1)) default).bind (fun r166 => (chk [room (x165.length + r166.length), room ((x165 ++ r166).length + ([32, 59] : Bytes).length)] (some (.inl (Sum.inr (((x165 ++ r166) ++ ([32, 59] : Bytes))))))))))))))) else (if ((a0.fKind : Int) == 3) = true then (chk [room (a0.fName.length + ([32, 63, 61, 32] : Bytes).length)] ((condM true (fnS (F25 K a0.fExprs 0)) default).bind (fun r167 => (chk [room ((a0.fName ++ ([32, 63, 61, 32] : Bytes)).length + r167.length), room (((a0.fName ++ ([32, 63, 61, 32] : Bytes)) ++ r167).length + ([32, 59] : Bytes).length)] (letV (((a0.fName ++ ([32, 63, 61, 32] : Bytes)) ++ r167) ++ ([32, 59] : Bytes)) (fun (x168 : Bytes) => (some (.inl (Sum.inr (x168)))))))))) else (if ((a0.fKind : Int) == 4) = true then ((fnS (F25 K a0.fExprs 0)).bind (fun r169 => (chk [room (r169.length + ([32, 59] : Bytes).length)] (some (.inl (Sum.inr ((r169 ++ ([32, 59] : Bytes))))))))) else (if ((a0.fKind : Int) == 5) = true then ((condM true (fnS (F25 K a0.fExprs 0)) default).bind (fun r170 => (chk [room (([73, 70, 32] : Bytes).length + r170.length), room ((([73, 70, 32] : Bytes) ++ r170).length + ([32, 84, 72, 69, 78, 32] : Bytes).length)] (letV ((([73, 70, 32] : Bytes) ++ r170) ++ ([32, 84, 72, 69, 78, 32] : Bytes)) (fun (x171 : Bytes) => ((condM true (fnS (F61 K a0.fBlocks 0)) default).bind (fun r172 => (chk [room (x171.length + r172.length)] (bindS (blockS ((iter K (fun (u218 : Bytes × Int) => (letV (decide ((u218.2 : Int) < (Int.ofNat a0.fExprs.length))) (fun (x230 : Bool) => (if x230 = true then (bindS (blockS (chk [room (u218.1.length + ([69, 76, 83, 73, 70, 32] : Bytes).length)] (letV (u218.1 ++ ([69, 76, 83, 73, 70, 32] : Bytes)) (fun (x236 : Bytes) => ((condM true (fnS (F25 K a0.fExprs u218.2)) default).bind (fun r237 => (chk [room (x236.length + r237.length), room ((x236 ++ r237).length + ([32, 84, 72, 69, 78, 32] : Bytes).length)] (letV ((x236 ++ r237) ++ ([32, 84, 72, 69, 78, 32] : Bytes)) (fun (x238 : Bytes) => ((condM true (fnS (F61 K a0.fBlocks u218.2)) default).bind (fun r239 => (chk [room (x238.length + r239.length)] (some (.inr ((x238 ++ r239)))))))))))))))) (fun (u235 : Bytes) => (some (.inr (u235, (IntKind.i64.wrap (u218.2 + 1))))))) else (some (.inl (Sum.inl (u218.1)))))))) ((x171 ++ r172), 1)).map .inl)) (fun (u206 : Bytes) => (letV (if 1 > (Int.ofNat a0.fExprs.length) then 1 else (Int.ofNat a0.fExprs.length)) (fun (x240 : Int) => ((fnS (F62 K a0.fBlocks x240)).bind (fun r241 => (chk [room (u206.length + r241.length), room ((u206 ++ r241).length + ([69, 78, 68, 95, 73, 70, 32, 59] : Bytes).length)] (letV ((u206 ++ r241) ++ ([69, 78, 68, 95, 73, 70, 32, 59] : Bytes)) (fun (x242 : Bytes) => (some (.inl (Sum.inr (x242))))))))))))))))))))) else (if ((a0.fKind : Int) == 6) = true then ((fnS (F25 K a0.fExprs 0)).bind (fun r243 => (chk [room (([67, 65, 83, 69, 32] : Bytes).length + r243.length), room ((([67, 65, 83, 69, 32] : Bytes) ++ r243).length + ([32, 79, 70, 32] : Bytes).length)] (letV ((([67, 65, 83, 69, 32] : Bytes) ++ r243) ++ ([32, 79, 70, 32] : Bytes)) (fun (x244 : Bytes) => (bindS (blockS ((iter K (fun (u282 : Bytes × Int) => (letV (decide ((u282.2 : Int) < (Int.ofNat a0.fLabels.length))) (fun (x292 : Bool) => (if x292 = true then (bindS (blockS ((condM true (fnS (F63 K a0.fLabels u282.2)) default).bind (fun r297 => (chk [room (u282.1.length + r297.length), room ((u282.1 ++ r297).length + ([58, 32] : Bytes).length)] ((condM true (fnS (F61 K a0.fBlocks u282.2)) default).bind (fun r298 => (chk [room (((u282.1 ++ r297) ++ ([58, 32] : Bytes)).length + r298.length)] (letV (((u282.1 ++ r297) ++ ([58, 32] : Bytes)) ++ r298) (fun (x299 : Bytes) => (some (.inr (x299)))))))))))) (fun (u296 : Bytes) => (some (.inr (u296, (IntKind.i64.wrap (u282.2 + 1))))))) else (some (.inl (Sum.inl (u282.1)))))))) (x244, 0)).map .inl)) (fun (u272 : Bytes) => ((fnS (F62 K a0.fBlocks (Int.ofNat a0.fLabels.length))).bind (fun r300 => (chk [room (u272.length + r300.length), room ((u272 ++ r300).length + ([69, 78, 68, 95, 67, 65, 83, 69, 32, 59] : Bytes).length)] (letV ((u272 ++ r300) ++ ([69, 78, 68, 95, 67, 65, 83, 69, 32, 59] : Bytes)) (fun (x301 : Bytes) => (some (.inl (Sum.inr (x301)))))))))))))))) else (if ((a0.fKind : Int) == 7) = true then ((condM true (fnS (F25 K a0.fExprs 0)) default).bind (fun r302 => (chk [room (([87, 72, 73, 76, 69, 32] : Bytes).length + r302.length), room ((([87, 72, 73, 76, 69, 32] : Bytes) ++ r302).length + ([32, 68, 79, 32] : Bytes).length)] (letV ((([87, 72, 73, 76, 69, 32] : Bytes) ++ r302) ++ ([32, 68, 79, 32] : Bytes)) (fun (x303 : Bytes) => ((condM true (fnS (F61 K a0.fBlocks 0)) default).bind (fun r304 => (chk [room (x303.length + r304.length), room ((x303 ++ r304).length + ([69, 78, 68, 95, 87, 72, 73, 76, 69, 32, 59] : Bytes).length)] (letV ((x303 ++ r304) ++ ([69, 78, 68, 95, 87, 72, 73, 76, 69, 32, 59] : Bytes)) (fun (x305 : Bytes) => (some (.inl (Sum.inr (x305)))))))))))))) else (if ((a0.fKind : Int) == 8) = true then (chk [room (([70, 79, 82, 32] : Bytes).length + a0.fName.length), room ((([70, 79, 82, 32] : Bytes) ++ a0.fName).length + ([32, 58, 61, 32] : Bytes).length)] (letV ((([70, 79, 82, 32] : Bytes) ++ a0.fName) ++ ([32, 58, 61, 32] : Bytes)) (fun (x306 : Bytes) => ((condM true (fnS (F25 K a0.fExprs 0)) default).bind (fun r307 => (chk [room (x306.length + r307.length), room ((x306 ++ r307).length + ([32, 84, 79, 32] : Bytes).length)] (letV ((x306 ++ r307) ++ ([32, 84, 79, 32] : Bytes)) (fun (x308 : Bytes) => ((condM true (fnS (F25 K a0.fExprs 1)) default).bind (fun r309 => (chk [room (x308.length + r309.length), room ((x308 ++ r309).length + ([32, 66, 89, 32] : Bytes).length)] (letV ((x308 ++ r309) ++ ([32, 66, 89, 32] : Bytes)) (fun (x310 : Bytes) => ((condM true (fnS (F24 K a0.fN)) default).bind (fun r311 => (chk [room (x310.length + r311.length), room ((x310 ++ r311).length + ([32, 68, 79, 32] : Bytes).length)] (letV ((x310 ++ r311) ++ ([32, 68, 79, 32] : Bytes)) (fun (x312 : Bytes) => ((condM true (fnS (F61 K a0.fBlocks 0)) default).bind (fun r313 => (chk [room (x312.length + r313.length), room ((x312 ++ r313).length + ([69, 78, 68, 95, 70, 79, 82, 32, 59] : Bytes).length)] (letV ((x312 ++ r313) ++ ([69, 78, 68, 95, 70, 79, 82, 32, 59] : Bytes)) (fun (x314 : Bytes) => (some (.inl (Sum.inr (x314))))))))))))))))))))))))))) else (if ((a0.fKind : Int) == 9) = true then (letV (decide (((Int.ofNat a0.fExprs.length) : Int) > 0)) (fun (x315 : Bool) => (if x315 = true then (chk [inb 0 a0.fExprs.length] ((fnS (F11 K (a0.fExprs.getD (0 : Int).toNat default))).bind (fun r316 => (chk [room (([82, 69, 84, 85, 82, 78, 32] : Bytes).length + r316.length), room ((([82, 69, 84, 85, 82, 78, 32] : Bytes) ++ r316).length + ([32, 59] : Bytes).length)] (letV ((([82, 69, 84, 85, 82, 78, 32] : Bytes) ++ r316) ++ ([32, 59] : Bytes)) (fun (x317 : Bytes) => (some (.inl (Sum.inr (x317)))))))))) else (some (.inl (Sum.inr (([82, 69, 84, 85, 82, 78, 32, 59] : Bytes)))))))) else (if ((a0.fKind : Int) == 10) = true then (some (.inl (Sum.inr (([69, 88, 73, 84, 32, 59] : Bytes))))) else (if ((a0.fKind : Int) == 11) = true then (chk [room (([83, 84, 69, 80, 32] : Bytes).length + a0.fName.length), room ((([83, 84, 69, 80, 32] : Bytes) ++ a0.fName).length + ([32, 40, 32] : Bytes).length)] (letV ((([83, 84, 69, 80, 32] : Bytes) ++ a0.fName) ++ ([32, 40, 32] : Bytes)) (fun (x318 : Bytes) => ((condM true (fnS (F25 K a0.fExprs 0)) default).bind (fun r319 => (chk [room (x318.length + r319.length), room ((x318 ++ r319).length + ([32, 44, 32] : Bytes).length)] ((condM true (fnS (F25 K a0.fExprs 1)) default).bind (fun r320 => (chk [room (((x318 ++ r319) ++ ([32, 44, 32] : Bytes)).length + r320.length), room ((((x318 ++ r319) ++ ([32, 44, 32] : Bytes)) ++ r320).length + ([32, 41, 32, 59] : Bytes).length)] (letV ((((x318 ++ r319) ++ ([32, 44, 32] : Bytes)) ++ r320) ++ ([32, 41, 32, 59] : Bytes)) (fun (x321 : Bytes) => (some (.inl (Sum.inr (x321))))))))))))))) else (some (.inr ())))))))))))))) (fun (u161 : Unit) => (some (.inl (([63, 32, 59] : Bytes))))))

/-- governor/governorref5.block -/
def F61 : (K : Nat) → ((List (List S43))) → (Int) → Option ((Bytes) ⊕ (Bytes))
 | 0, _, _ => none
 | K + 1, a0, a1 =>
 (letV (decide ((a1 : Int) ≥ (Int.ofNat a0.length))) (fun (x1 : Bool) => (if x1 = true then (some (.inl (([] : Bytes)))) else (chk [inb a1 a0.length] ((fnS (F43 K (a0.getD (a1 : Int).toNat default))).bind (fun r2 => (some (.inl (r2)))))))))

/-- governor/governorref5.other -/
def F62 : (K : Nat) → ((List (List S43))) → (Int) → Option ((Bytes) ⊕ (Bytes))
 | 0, _, _ => none
 | K + 1, a0, a1 =>
 (letV (decide ((a1 : Int) ≥ (Int.ofNat a0.length))) (fun (x1 : Bool) => (chk [!(!x1) || inb a1 a0.length] (letV (x1 || (((Int.ofNat (a0.getD (a1 : Int).toNat default).length) : Int) == 0)) (fun (x2 : Bool) => (if x2 = true then (some (.inl (([] : Bytes)))) else (chk [inb a1 a0.length] ((fnS (F43 K (a0.getD (a1 : Int).toNat default))).bind (fun r3 => (chk [room (([69, 76, 83, 69, 32] : Bytes).length + r3.length)] (some (.inl ((([69, 76, 83, 69, 32] : Bytes) ++ r3))))))))))))))

end

theorem G43_ok : ∀ K : Nat, (∀ (a0 : (List S43)), DFun Tryd.prog 43 [.c (E43.tree a0)] [] (fnS (F43 K a0)) (fun r => .c (.str r)) (fun r => [])) ∧ (∀ (a0 : S43), DFun Tryd.prog 55 [.agg (E43.cs a0)] [] (fnS (F55 K a0)) (fun r => .c (.str r)) (fun r => [])) ∧ (∀ (a0 : (List (List S43))), ∀ (a1 : Int), DFun Tryd.prog 61 [.c (E44.tree a0), .c (.val (.int .i64 a1))] [] (fnS (F61 K a0 a1)) (fun r => .c (.str r)) (fun r => [])) ∧ (∀ (a0 : (List (List S43))), ∀ (a1 : Int), DFun Tryd.prog 62 [.c (E44.tree a0), .c (.val (.int .i64 a1))] [] (fnS (F62 K a0 a1)) (fun r => .c (.str r)) (fun r => [])) := by
 intro K
 induction K with
 | zero => exact ⟨fun a0 => DFun.none (by rw [F43]; rfl), fun a0 => DFun.none (by rw [F55]; rfl), fun a0 a1 => DFun.none (by rw [F61]; rfl), fun a0 a1 => DFun.none (by rw [F62]; rfl)⟩
 | succ K ih =>
  obtain ⟨ih43, ih55, ih61, ih62⟩ := ih
  refine ⟨?_, ?_, ?_, ?_⟩

  ·
   intro a0
   refine DFun.intro (fn := Tryd.f43) (c := cd (bd Tryd.f43) []) (rs := fun r => ⟨[sS 2 r], [], [], 0⟩) (by kernel_rfl) (by kernel_rfl) (by kernel_rfl) ?_ (fun r => by kernel_rfl) (fun r => by kernel_rfl) (fun r => by kernel_rfl) (fun r => by kernel_rfl)
   rw [F43]
   refine Ref.sq ?_
   refine Ref.rn 0 ?_
   refine RefR.e0 (st' := ⟨[(0, .c (E43.tree a0))], [], [], 0⟩) 0 1 1 [0] [] ?_
   refine RefR.nl 1 ?_
   refine Ref.sq ?_
   refine Ref.rn 1 ?_
   refine RefR.e0 (st' := ⟨[(0, .c (E43.tree a0)), sS 3 ([] : Bytes)], [], [], 0⟩) 0 1 1 [0, 3] [] ?_
   refine RefR.nl 1 ?_
   refine Ref.sq ?_
   refine Ref.sq ?_
   refine Ref.rn 2 ?_
   refine RefR.e0 (st' := ⟨[(0, .c (E43.tree a0)), sS 3 ([] : Bytes), sI 4 0], [], [], 0⟩) 0 1 1 [0, 3, 4] [] ?_
   refine RefR.nl 1 ?_
   refine Ref.codeEq (c' := .block 0 (cd (bd Tryd.f43) [1, 1, 0, 1, 0])) (by kernel_rfl) ?_
   refine Ref.block (go1 := fun u15 => ⟨[sS 3 u15], [], [], 0⟩) ?_ (fun _ h => by cases h) (fun u15 => ?_)
   ·
    refine Ref.codeEq (c' := .loop (cd (bd Tryd.f43) [1, 1, 0, 1, 0, 0])) (by kernel_rfl) ?_
    refine Ref.loop (hd := fun u20 => ⟨[(0, .c (E43.tree a0)), sS 3 u20.1, sI 4 u20.2], [], [], 0⟩) K (([] : Bytes), 0) (by kernel_rfl) (fun u20 => ?_)
    refine Ref.sq ?_
    refine Ref.sq ?_
    refine Ref.rn 3 ?_
    refine RefR.e0 (st' := ⟨[(0, .c (E43.tree a0)), sS 3 u20.1, sI 4 u20.2, sB 8 (decide ((u20.2 : Int) < (Int.ofNat a0.length)))], [], [], 0⟩) 0 4 4 [0, 3, 4, 8] [] ?_
    refine RefR.letC (stf := fun x26 => ⟨[(0, .c (E43.tree a0)), sS 3 u20.1, sI 4 u20.2, sB 8 x26], [], [], 0⟩) (by kernel_rfl) (fun x26 => ?_)
    refine RefR.nl 4 ?_
    refine Ref.cn (.tmp 8) x26 (fun hc => ?_) (fun hc => ?_)
    ·
     refine Ref.sk ?_
     refine Ref.sq ?_
     refine Ref.codeEq (c' := .block 1 (cd (bd Tryd.f43) [1, 1, 0, 1, 0, 0, 1, 0, 0])) (by kernel_rfl) ?_
     refine Ref.block (go1 := fun u28 => ⟨[(0, .c (E43.tree a0)), sS 3 u28, sI 4 u20.2], [], [], 0⟩) ?_ (fun a => match a with | .inl _ => (fun h => by cases h) | .inr _ => (fun h => by cases h)) (fun u28 => ?_)
     ·
      refine Ref.rn 5 ?_
      refine RefR.e0 (st' := ⟨[(0, .c (E43.tree a0)), sI 4 u20.2, sS 11 u20.1, (12, .c (E43.tree a0)), sI 13 u20.2], [], [], 0⟩) 0 3 3 [0, 4, 11, 12, 13] [] ?_
      refine RefR.evC (vs := [inb u20.2 a0.length]) (st' := ⟨[(0, .c (E43.tree a0)), sI 4 u20.2, sS 11 u20.1, (15, .agg (E43.cs (a0.getD (u20.2 : Int).toNat default)))], [], [], 0⟩) 3 2 5 [0, 4, 11, 15] [] rfl (by kernel_rfl) ?_
      refine RefR.callC (t := 16) 5 6 [] rfl (by kernel_rfl) (ih55 (a0.getD (u20.2 : Int).toNat default)) (fun r29 => ?_)
      refine RefR.evC (vs := [room (u20.1.length + r29.length), room ((u20.1 ++ r29).length + ([32] : Bytes).length)]) (st' := ⟨[(0, .c (E43.tree a0)), sS 3 ((u20.1 ++ r29) ++ ([32] : Bytes)), sI 4 u20.2], [], [], 0⟩) 6 3 9 [0, 3, 4] [] rfl (by kernel_rfl) ?_
      refine RefR.nl 9 ?_
      exact Ref.n0 (t := (((u20.1 ++ r29) ++ ([32] : Bytes))))
     ·
      refine Ref.rn 4 ?_
      refine RefR.e0 (st' := ⟨[(0, .c (E43.tree a0)), sS 3 u28, sI 4 (IntKind.i64.wrap (u20.2 + 1))], [], [], 0⟩) 0 3 3 [0, 3, 4] [] ?_
      refine RefR.nl 3 ?_
      exact Ref.n0 (t := (u28, (IntKind.i64.wrap (u20.2 + 1))))
    ·
     refine Ref.conv (Conv.keep (st' := ⟨[sS 3 u20.1], [], [], 0⟩) [3] [] (by kernel_rfl)) ?_
     exact Ref.xt 0 (t := (Sum.inl (u20.1)))
   ·
    refine Ref.sq ?_
    refine Ref.rn 6 ?_
    refine RefR.e0 (st' := ⟨[sS 2 u15], [], [], 0⟩) 0 2 2 [2] [] ?_
    refine RefR.nl 2 ?_
    exact Ref.rt (t := (u15))

  ·
   intro a0
   refine DFun.intro (fn := Tryd.f55) (c := cd (bd Tryd.f55) []) (rs := fun r => ⟨[sS 2 r], [], [], 0⟩) (by kernel_rfl) (by kernel_rfl) (by kernel_rfl) ?_ (fun r => by kernel_rfl) (fun r => by kernel_rfl) (fun r => by kernel_rfl) (fun r => by kernel_rfl)
   rw [F55]
   refine Ref.sq ?_
   refine Ref.rn 0 ?_
   refine RefR.e0 (st' := ⟨[sP 1 0 0 0], [.cells (E43.cs a0)], [], 0⟩) 0 2 2 [1] [0] ?_
   refine RefR.nl 2 ?_
   refine Ref.sq ?_
   refine Ref.sq ?_
   refine Ref.rn 1 ?_
   refine RefR.e0 (st' := ⟨[sP 1 0 0 0, sI 8 a0.fKind], [.cells (E43.cs a0)], [], 0⟩) 0 2 2 [1, 8] [0] ?_
   refine RefR.nl 2 ?_
   refine Ref.codeEq (c' := .block 0 (cd (bd Tryd.f55) [1, 0, 1, 0])) (by kernel_rfl) ?_
   refine Ref.block (go1 := fun u161 => ⟨[], [], [], 0⟩) ?_ (fun _ h => by cases h) (fun u161 => ?_)
   ·
    refine Ref.sq ?_
    refine Ref.rn 2 ?_
    refine RefR.e0 (st' := ⟨[sP 1 0 0 0, sI 8 a0.fKind, sB 9 ((a0.fKind : Int) == 1)], [.cells (E43.cs a0)], [], 0⟩) 0 2 2 [1, 8, 9] [0] ?_
    refine RefR.nl 2 ?_
    refine Ref.cn (.tmp 9) ((a0.fKind : Int) == 1) (fun hc => ?_) (fun hc => ?_)
    ·
     refine Ref.sq ?_
     refine Ref.drawnY 3 (by kernel_rfl) (by kernel_rfl) ?_
     refine RefY.evC0 (st' := ⟨[sP 11 0 0 2, sP 14 0 0 3], [.cells (E43.cs a0)], [], 0⟩) (fuel' := 7) [0, 3] [11, 14] [0] rfl (by kernel_rfl) (by kernel_rfl) ?_
     refine RefY.toX [] ?_
     refine RefX.evC (vs := [room (a0.fName.length + ([32, 58, 61, 32] : Bytes).length)]) (st' := ⟨[sS 13 (a0.fName ++ ([32, 58, 61, 32] : Bytes)), (15, .c (E27.tree a0.fExprs))], [], [], 0⟩) (fuel' := 4) [1, 2, 4] [13, 15] [] rfl (by kernel_rfl) (by kernel_rfl) ?_
     refine RefX.lookC (t := 16) (g := []) (b := true) (fuel' := 3) 5 [] (default : Bytes) rfl (by kernel_rfl) (by kernel_rfl) (F25_ok K a0.fExprs 0) (fun _ => rfl) (fun r162 => ?_)
     refine RefX.evC (vs := [room ((a0.fName ++ ([32, 58, 61, 32] : Bytes)).length + r162.length), room (((a0.fName ++ ([32, 58, 61, 32] : Bytes)) ++ r162).length + ([32, 59] : Bytes).length)]) (st' := ⟨[sS 2 (((a0.fName ++ ([32, 58, 61, 32] : Bytes)) ++ r162) ++ ([32, 59] : Bytes))], [], [], 0⟩) (fuel' := 0) [6, 7, 8] [2] [] rfl (by kernel_rfl) (by kernel_rfl) ?_
     refine RefX.letC (stf := fun x163 => ⟨[sS 2 x163], [], [], 0⟩) (by kernel_rfl) (fun x163 => ?_)
     refine RefX.done (by kernel_rfl) ?_
     exact Ref.rt (t := (Sum.inr (x163)))
    ·
     refine Ref.sq ?_
     refine Ref.rn 4 ?_
     refine RefR.e0 (st' := ⟨[sP 1 0 0 0, sI 8 a0.fKind, sB 19 ((a0.fKind : Int) == 2)], [.cells (E43.cs a0)], [], 0⟩) 0 2 2 [1, 8, 19] [0] ?_
     refine RefR.nl 2 ?_
     refine Ref.cn (.tmp 19) ((a0.fKind : Int) == 2) (fun hc => ?_) (fun hc => ?_)
     ·
      refine Ref.sq ?_
      refine Ref.drawnY 5 (by kernel_rfl) (by kernel_rfl) ?_
      refine RefY.evC0 (st' := ⟨[sP 21 0 0 2, sP 24 0 0 3, sP 29 0 0 3], [.cells (E43.cs a0)], [], 0⟩) (fuel' := 11) [0, 3, 8] [21, 24, 29] [0] rfl (by kernel_rfl) (by kernel_rfl) ?_
      refine RefY.toX [] ?_
      refine RefX.evC (vs := [room (a0.fName.length + ([32, 91, 32] : Bytes).length)]) (st' := ⟨[sS 23 (a0.fName ++ ([32, 91, 32] : Bytes)), (25, .c (E27.tree a0.fExprs)), (30, .c (E27.tree a0.fExprs))], [], [], 0⟩) (fuel' := 7) [1, 2, 4, 9] [23, 25, 30] [] rfl (by kernel_rfl) (by kernel_rfl) ?_
      refine RefX.lookC (t := 26) (g := []) (b := true) (fuel' := 6) 5 [] (default : Bytes) rfl (by kernel_rfl) (by kernel_rfl) (F25_ok K a0.fExprs 0) (fun _ => rfl) (fun r164 => ?_)
      refine RefX.evC (vs := [room ((a0.fName ++ ([32, 91, 32] : Bytes)).length + r164.length), room (((a0.fName ++ ([32, 91, 32] : Bytes)) ++ r164).length + ([32, 93, 32, 58, 61, 32] : Bytes).length)]) (st' := ⟨[sS 28 (((a0.fName ++ ([32, 91, 32] : Bytes)) ++ r164) ++ ([32, 93, 32, 58, 61, 32] : Bytes)), (30, .c (E27.tree a0.fExprs))], [], [], 0⟩) (fuel' := 4) [6, 7] [28, 30] [] rfl (by kernel_rfl) (by kernel_rfl) ?_
      refine RefX.letC (stf := fun x165 => ⟨[sS 28 x165, (30, .c (E27.tree a0.fExprs))], [], [], 0⟩) (by kernel_rfl) (fun x165 => ?_)
      refine RefX.lookC (t := 31) (g := []) (b := true) (fuel' := 3) 10 [] (default : Bytes) rfl (by kernel_rfl) (by kernel_rfl) (F25_ok K a0.fExprs 1) (fun _ => rfl) (fun r166 => ?_)
      refine RefX.evC (vs := [room (x165.length + r166.length), room ((x165 ++ r166).length + ([32, 59] : Bytes).length)]) (st' := ⟨[sS 2 ((x165 ++ r166) ++ ([32, 59] : Bytes))], [], [], 0⟩) (fuel' := 0) [11, 12, 13] [2] [] rfl (by kernel_rfl) (by kernel_rfl) ?_
      refine RefX.done (by kernel_rfl) ?_
      exact Ref.rt (t := (Sum.inr (((x165 ++ r166) ++ ([32, 59] : Bytes)))))
     ·
      refine Ref.sq ?_
      refine Ref.rn 6 ?_
      refine RefR.e0 (st' := ⟨[sP 1 0 0 0, sI 8 a0.fKind, sB 34 ((a0.fKind : Int) == 3)], [.cells (E43.cs a0)], [], 0⟩) 0 2 2 [1, 8, 34] [0] ?_
      refine RefR.nl 2 ?_
      refine Ref.cn (.tmp 34) ((a0.fKind : Int) == 3) (fun hc => ?_) (fun hc => ?_)
      ·
       refine Ref.sq ?_
       refine Ref.drawnY 7 (by kernel_rfl) (by kernel_rfl) ?_
       refine RefY.evC0 (st' := ⟨[sP 36 0 0 2, sP 39 0 0 3], [.cells (E43.cs a0)], [], 0⟩) (fuel' := 7) [0, 3] [36, 39] [0] rfl (by kernel_rfl) (by kernel_rfl) ?_
       refine RefY.toX [] ?_
       refine RefX.evC (vs := [room (a0.fName.length + ([32, 63, 61, 32] : Bytes).length)]) (st' := ⟨[sS 38 (a0.fName ++ ([32, 63, 61, 32] : Bytes)), (40, .c (E27.tree a0.fExprs))], [], [], 0⟩) (fuel' := 4) [1, 2, 4] [38, 40] [] rfl (by kernel_rfl) (by kernel_rfl) ?_
       refine RefX.lookC (t := 41) (g := []) (b := true) (fuel' := 3) 5 [] (default : Bytes) rfl (by kernel_rfl) (by kernel_rfl) (F25_ok K a0.fExprs 0) (fun _ => rfl) (fun r167 => ?_)
       refine RefX.evC (vs := [room ((a0.fName ++ ([32, 63, 61, 32] : Bytes)).length + r167.length), room (((a0.fName ++ ([32, 63, 61, 32] : Bytes)) ++ r167).length + ([32, 59] : Bytes).length)]) (st' := ⟨[sS 2 (((a0.fName ++ ([32, 63, 61, 32] : Bytes)) ++ r167) ++ ([32, 59] : Bytes))], [], [], 0⟩) (fuel' := 0) [6, 7, 8] [2] [] rfl (by kernel_rfl) (by kernel_rfl) ?_
       refine RefX.letC (stf := fun x168 => ⟨[sS 2 x168], [], [], 0⟩) (by kernel_rfl) (fun x168 => ?_)
       refine RefX.done (by kernel_rfl) ?_
       exact Ref.rt (t := (Sum.inr (x168)))
      ·
       refine Ref.sq ?_
       refine Ref.rn 8 ?_
       refine RefR.e0 (st' := ⟨[sP 1 0 0 0, sI 8 a0.fKind, sB 44 ((a0.fKind : Int) == 4)], [.cells (E43.cs a0)], [], 0⟩) 0 2 2 [1, 8, 44] [0] ?_
       refine RefR.nl 2 ?_
       refine Ref.cn (.tmp 44) ((a0.fKind : Int) == 4) (fun hc => ?_) (fun hc => ?_)
       ·
        refine Ref.sq ?_
        refine Ref.rn 9 ?_
        refine RefR.e0 (st' := ⟨[(47, .c (E27.tree a0.fExprs))], [], [], 0⟩) 0 2 2 [47] [] ?_
        refine RefR.callC (t := 48) 2 3 [] rfl (by kernel_rfl) (F25_ok K a0.fExprs 0) (fun r169 => ?_)
        refine RefR.evC (vs := [room (r169.length + ([32, 59] : Bytes).length)]) (st' := ⟨[sS 2 (r169 ++ ([32, 59] : Bytes))], [], [], 0⟩) 3 2 5 [2] [] rfl (by kernel_rfl) ?_
        refine RefR.nl 5 ?_
        exact Ref.rt (t := (Sum.inr ((r169 ++ ([32, 59] : Bytes)))))
       ·
        refine Ref.sq ?_
        refine Ref.rn 10 ?_
        refine RefR.e0 (st' := ⟨[sP 1 0 0 0, sI 8 a0.fKind, sB 50 ((a0.fKind : Int) == 5)], [.cells (E43.cs a0)], [], 0⟩) 0 2 2 [1, 8, 50] [0] ?_
        refine RefR.nl 2 ?_
        refine Ref.cn (.tmp 50) ((a0.fKind : Int) == 5) (fun hc => ?_) (fun hc => ?_)
        ·
         refine Ref.sq ?_
         refine Ref.drawnY 11 (by kernel_rfl) (by kernel_rfl) ?_
         refine RefY.evC0 (st' := ⟨[sP 1 0 0 0, sP 52 0 0 3, sP 57 0 0 5], [.cells (E43.cs a0)], [], 0⟩) (fuel' := 8) [0, 5] [1, 52, 57] [0] rfl (by kernel_rfl) (by kernel_rfl) ?_
         refine RefY.toX [] ?_
         refine RefX.evC0 (st' := ⟨[sP 1 0 0 0, (53, .c (E27.tree a0.fExprs)), (58, .c (NTT43 a0.fBlocks))], [.cells (E43.cs a0)], [], 0⟩) (fuel' := 6) [1, 6] [1, 53, 58] [0] rfl (by kernel_rfl) (by kernel_rfl) ?_
         refine RefX.conv (Conv.slot 58 (.c (E44.tree a0.fBlocks)) (DLe.c (NTT43_le _)) (by kernel_rfl)) ?_
         refine RefX.lookC (t := 54) (g := []) (b := true) (fuel' := 5) 2 [] (default : Bytes) rfl (by kernel_rfl) (by kernel_rfl) (F25_ok K a0.fExprs 0) (fun _ => rfl) (fun r170 => ?_)
         refine RefX.evC (vs := [room (([73, 70, 32] : Bytes).length + r170.length), room ((([73, 70, 32] : Bytes) ++ r170).length + ([32, 84, 72, 69, 78, 32] : Bytes).length)]) (st' := ⟨[sP 1 0 0 0, sS 56 ((([73, 70, 32] : Bytes) ++ r170) ++ ([32, 84, 72, 69, 78, 32] : Bytes)), (58, .c (E44.tree a0.fBlocks))], [.cells (E43.cs a0)], [], 0⟩) (fuel' := 3) [3, 4] [1, 56, 58] [0] rfl (by kernel_rfl) (by kernel_rfl) ?_
         refine RefX.letC (stf := fun x171 => ⟨[sP 1 0 0 0, sS 56 x171, (58, .c (E44.tree a0.fBlocks))], [.cells (E43.cs a0)], [], 0⟩) (by kernel_rfl) (fun x171 => ?_)
         refine RefX.lookC (t := 59) (g := []) (b := true) (fuel' := 2) 7 [] (default : Bytes) rfl (by kernel_rfl) (by kernel_rfl) (ih61 a0.fBlocks 0) (fun _ => rfl) (fun r172 => ?_)
         refine RefX.evC (vs := [room (x171.length + r172.length)]) (st' := ⟨[sP 1 0 0 0, sS 3 (x171 ++ r172)], [.cells (E43.cs a0)], [], 0⟩) (fuel' := 0) [8, 9] [1, 3] [0] rfl (by kernel_rfl) (by kernel_rfl) ?_
         refine RefX.done (by kernel_rfl) ?_
         refine Ref.sq ?_
         refine Ref.sq ?_
         refine Ref.rn 12 ?_
         refine RefR.e0 (st' := ⟨[sP 1 0 0 0, sS 3 (x171 ++ r172), sI 4 1], [.cells (E43.cs a0)], [], 0⟩) 0 1 1 [1, 3, 4] [0] ?_
         refine RefR.nl 1 ?_
         refine Ref.codeEq (c' := .block 1 (cd (bd Tryd.f55) [1, 0, 1, 0, 1, 1, 1, 1, 1, 1, 1, 1, 1, 0, 1, 0, 1, 0])) (by kernel_rfl) ?_
         refine Ref.block (go1 := fun u206 => ⟨[sP 1 0 0 0, sS 3 u206], [.cells (E43.cs a0)], [], 0⟩) ?_ (fun a => match a with | .inl _ => (fun h => by cases h) | .inr _ => (fun h => by cases h)) (fun u206 => ?_)
         ·
          refine Ref.codeEq (c' := .loop (cd (bd Tryd.f55) [1, 0, 1, 0, 1, 1, 1, 1, 1, 1, 1, 1, 1, 0, 1, 0, 1, 0, 0])) (by kernel_rfl) ?_
          refine Ref.loop (hd := fun u218 => ⟨[sP 1 0 0 0, sS 3 u218.1, sI 4 u218.2], [.cells (E43.cs a0)], [], 0⟩) K ((x171 ++ r172), 1) (by kernel_rfl) (fun u218 => ?_)
          refine Ref.sq ?_
          refine Ref.sq ?_
          refine Ref.rn 13 ?_
          refine RefR.e0 (st' := ⟨[sP 1 0 0 0, sS 3 u218.1, sI 4 u218.2, sB 65 (decide ((u218.2 : Int) < (Int.ofNat a0.fExprs.length)))], [.cells (E43.cs a0)], [], 0⟩) 0 5 5 [1, 3, 4, 65] [0] ?_
          refine RefR.letC (stf := fun x230 => ⟨[sP 1 0 0 0, sS 3 u218.1, sI 4 u218.2, sB 65 x230], [.cells (E43.cs a0)], [], 0⟩) (by kernel_rfl) (fun x230 => ?_)
          refine RefR.nl 5 ?_
          refine Ref.cn (.tmp 65) x230 (fun hc => ?_) (fun hc => ?_)
          ·
           refine Ref.sk ?_
           refine Ref.sq ?_
           refine Ref.codeEq (c' := .block 2 (cd (bd Tryd.f55) [1, 0, 1, 0, 1, 1, 1, 1, 1, 1, 1, 1, 1, 0, 1, 0, 1, 0, 0, 1, 0, 0])) (by kernel_rfl) ?_
           refine Ref.block (go1 := fun u235 => ⟨[sP 1 0 0 0, sS 3 u235, sI 4 u218.2], [.cells (E43.cs a0)], [], 0⟩) ?_ (fun a => match a with | .inl _ => (fun h => by cases h) | .inr (.inl _) => (fun h => by cases h) | .inr (.inr _) => (fun h => by cases h)) (fun u235 => ?_)
           ·
            refine Ref.drawnY 15 (by kernel_rfl) (by kernel_rfl) ?_
            refine RefY.evC (vs := [room (u218.1.length + ([69, 76, 83, 73, 70, 32] : Bytes).length)]) (st' := ⟨[sP 1 0 0 0, sI 4 u218.2, sS 69 (u218.1 ++ ([69, 76, 83, 73, 70, 32] : Bytes)), sP 70 0 0 3, sI 72 u218.2, sP 76 0 0 5, sI 78 u218.2], [.cells (E43.cs a0)], [], 0⟩) (fuel' := 8) [0, 1, 2, 4, 8, 10] [1, 4, 69, 70, 72, 76, 78] [0] rfl (by kernel_rfl) (by kernel_rfl) ?_
            refine RefY.letC (stf := fun x236 => ⟨[sP 1 0 0 0, sI 4 u218.2, sS 69 x236, sP 70 0 0 3, sI 72 u218.2, sP 76 0 0 5, sI 78 u218.2], [.cells (E43.cs a0)], [], 0⟩) (by kernel_rfl) (fun x236 => ?_)
            refine RefY.toX [] ?_
            refine RefX.evC0 (st' := ⟨[sP 1 0 0 0, sI 4 u218.2, sS 69 x236, (71, .c (E27.tree a0.fExprs)), sI 72 u218.2, (77, .c (NTT43 a0.fBlocks)), sI 78 u218.2], [.cells (E43.cs a0)], [], 0⟩) (fuel' := 6) [3, 9] [1, 4, 69, 71, 72, 77, 78] [0] rfl (by kernel_rfl) (by kernel_rfl) ?_
            refine RefX.conv (Conv.slot 77 (.c (E44.tree a0.fBlocks)) (DLe.c (NTT43_le _)) (by kernel_rfl)) ?_
            refine RefX.lookC (t := 73) (g := []) (b := true) (fuel' := 5) 5 [] (default : Bytes) rfl (by kernel_rfl) (by kernel_rfl) (F25_ok K a0.fExprs u218.2) (fun _ => rfl) (fun r237 => ?_)
            refine RefX.evC (vs := [room (x236.length + r237.length), room ((x236 ++ r237).length + ([32, 84, 72, 69, 78, 32] : Bytes).length)]) (st' := ⟨[sP 1 0 0 0, sI 4 u218.2, sS 75 ((x236 ++ r237) ++ ([32, 84, 72, 69, 78, 32] : Bytes)), (77, .c (E44.tree a0.fBlocks)), sI 78 u218.2], [.cells (E43.cs a0)], [], 0⟩) (fuel' := 3) [6, 7] [1, 4, 75, 77, 78] [0] rfl (by kernel_rfl) (by kernel_rfl) ?_
            refine RefX.letC (stf := fun x238 => ⟨[sP 1 0 0 0, sI 4 u218.2, sS 75 x238, (77, .c (E44.tree a0.fBlocks)), sI 78 u218.2], [.cells (E43.cs a0)], [], 0⟩) (by kernel_rfl) (fun x238 => ?_)
            refine RefX.lookC (t := 79) (g := []) (b := true) (fuel' := 2) 11 [] (default : Bytes) rfl (by kernel_rfl) (by kernel_rfl) (ih61 a0.fBlocks u218.2) (fun _ => rfl) (fun r239 => ?_)
            refine RefX.evC (vs := [room (x238.length + r239.length)]) (st' := ⟨[sP 1 0 0 0, sS 3 (x238 ++ r239), sI 4 u218.2], [.cells (E43.cs a0)], [], 0⟩) (fuel' := 0) [12, 13] [1, 3, 4] [0] rfl (by kernel_rfl) (by kernel_rfl) ?_
            refine RefX.done (by kernel_rfl) ?_
            exact Ref.n0 (t := ((x238 ++ r239)))
           ·
            refine Ref.rn 14 ?_
            refine RefR.e0 (st' := ⟨[sP 1 0 0 0, sS 3 u235, sI 4 (IntKind.i64.wrap (u218.2 + 1))], [.cells (E43.cs a0)], [], 0⟩) 0 3 3 [1, 3, 4] [0] ?_
            refine RefR.nl 3 ?_
            exact Ref.n0 (t := (u235, (IntKind.i64.wrap (u218.2 + 1))))
          ·
           refine Ref.conv (Conv.keep (st' := ⟨[sP 1 0 0 0, sS 3 u218.1], [.cells (E43.cs a0)], [], 0⟩) [1, 3] [0] (by kernel_rfl)) ?_
           exact Ref.xt 1 (t := (Sum.inl (u218.1)))
         ·
          refine Ref.sq ?_
          refine Ref.rn 16 ?_
          refine RefR.e0 (st' := ⟨[sS 81 u206, (83, .c (NTT43 a0.fBlocks)), sI 87 (if 1 > (Int.ofNat a0.fExprs.length) then 1 else (Int.ofNat a0.fExprs.length))], [], [], 0⟩) 0 7 7 [81, 83, 87] [] ?_
          refine RefR.conv (Conv.slot 83 (.c (E44.tree a0.fBlocks)) (DLe.c (NTT43_le _)) (by kernel_rfl)) ?_
          refine RefR.letC (stf := fun x240 => ⟨[(83, .c (E44.tree a0.fBlocks)), sS 81 u206, sI 87 x240], [], [], 0⟩) (by kernel_rfl) (fun x240 => ?_)
          refine RefR.callC (t := 88) 7 8 [] rfl (by kernel_rfl) (ih62 a0.fBlocks x240) (fun r241 => ?_)
          refine RefR.evC (vs := [room (u206.length + r241.length), room ((u206 ++ r241).length + ([69, 78, 68, 95, 73, 70, 32, 59] : Bytes).length)]) (st' := ⟨[sS 2 ((u206 ++ r241) ++ ([69, 78, 68, 95, 73, 70, 32, 59] : Bytes))], [], [], 0⟩) 8 3 11 [2] [] rfl (by kernel_rfl) ?_
          refine RefR.letC (stf := fun x242 => ⟨[sS 2 x242], [], [], 0⟩) (by kernel_rfl) (fun x242 => ?_)
          refine RefR.nl 11 ?_
          exact Ref.rt (t := (Sum.inr (x242)))
        ·
         refine Ref.sq ?_
         refine Ref.rn 17 ?_
         refine RefR.e0 (st' := ⟨[sP 1 0 0 0, sI 8 a0.fKind, sB 91 ((a0.fKind : Int) == 6)], [.cells (E43.cs a0)], [], 0⟩) 0 2 2 [1, 8, 91] [0] ?_
         refine RefR.nl 2 ?_
         refine Ref.cn (.tmp 91) ((a0.fKind : Int) == 6) (fun hc => ?_) (fun hc => ?_)
         ·
          refine Ref.sq ?_
          refine Ref.rn 18 ?_
          refine RefR.e0 (st' := ⟨[sP 1 0 0 0, (94, .c (E27.tree a0.fExprs))], [.cells (E43.cs a0)], [], 0⟩) 0 2 2 [1, 94] [0] ?_
          refine RefR.callC (t := 95) 2 3 [] rfl (by kernel_rfl) (F25_ok K a0.fExprs 0) (fun r243 => ?_)
          refine RefR.evC (vs := [room (([67, 65, 83, 69, 32] : Bytes).length + r243.length), room ((([67, 65, 83, 69, 32] : Bytes) ++ r243).length + ([32, 79, 70, 32] : Bytes).length)]) (st' := ⟨[sP 1 0 0 0, sS 5 ((([67, 65, 83, 69, 32] : Bytes) ++ r243) ++ ([32, 79, 70, 32] : Bytes))], [.cells (E43.cs a0)], [], 0⟩) 3 3 6 [1, 5] [0] rfl (by kernel_rfl) ?_
          refine RefR.letC (stf := fun x244 => ⟨[sP 1 0 0 0, sS 5 x244], [.cells (E43.cs a0)], [], 0⟩) (by kernel_rfl) (fun x244 => ?_)
          refine RefR.nl 6 ?_
          refine Ref.sq ?_
          refine Ref.sq ?_
          refine Ref.rn 19 ?_
          refine RefR.e0 (st' := ⟨[sP 1 0 0 0, sS 5 x244, sI 6 0], [.cells (E43.cs a0)], [], 0⟩) 0 1 1 [1, 5, 6] [0] ?_
          refine RefR.nl 1 ?_
          refine Ref.codeEq (c' := .block 3 (cd (bd Tryd.f55) [1, 0, 1, 0, 1, 1, 1, 1, 1, 1, 1, 1, 1, 1, 1, 0, 1, 0, 1, 0])) (by kernel_rfl) ?_
          refine Ref.block (go1 := fun u272 => ⟨[sP 1 0 0 0, sS 5 u272], [.cells (E43.cs a0)], [], 0⟩) ?_ (fun a => match a with | .inl _ => (fun h => by cases h) | .inr _ => (fun h => by cases h)) (fun u272 => ?_)
          ·
           refine Ref.codeEq (c' := .loop (cd (bd Tryd.f55) [1, 0, 1, 0, 1, 1, 1, 1, 1, 1, 1, 1, 1, 1, 1, 0, 1, 0, 1, 0, 0])) (by kernel_rfl) ?_
           refine Ref.loop (hd := fun u282 => ⟨[sP 1 0 0 0, sS 5 u282.1, sI 6 u282.2], [.cells (E43.cs a0)], [], 0⟩) K (x244, 0) (by kernel_rfl) (fun u282 => ?_)
           refine Ref.sq ?_
           refine Ref.sq ?_
           refine Ref.rn 20 ?_
           refine RefR.e0 (st' := ⟨[sP 1 0 0 0, sS 5 u282.1, sI 6 u282.2, sB 102 (decide ((u282.2 : Int) < (Int.ofNat a0.fLabels.length)))], [.cells (E43.cs a0)], [], 0⟩) 0 5 5 [1, 5, 6, 102] [0] ?_
           refine RefR.letC (stf := fun x292 => ⟨[sP 1 0 0 0, sS 5 u282.1, sI 6 u282.2, sB 102 x292], [.cells (E43.cs a0)], [], 0⟩) (by kernel_rfl) (fun x292 => ?_)
           refine RefR.nl 5 ?_
           refine Ref.cn (.tmp 102) x292 (fun hc => ?_) (fun hc => ?_)
           ·
            refine Ref.sk ?_
            refine Ref.sq ?_
            refine Ref.codeEq (c' := .block 4 (cd (bd Tryd.f55) [1, 0, 1, 0, 1, 1, 1, 1, 1, 1, 1, 1, 1, 1, 1, 0, 1, 0, 1, 0, 0, 1, 0, 0])) (by kernel_rfl) ?_
            refine Ref.block (go1 := fun u296 => ⟨[sP 1 0 0 0, sS 5 u296, sI 6 u282.2], [.cells (E43.cs a0)], [], 0⟩) ?_ (fun a => match a with | .inl _ => (fun h => by cases h) | .inr (.inl _) => (fun h => by cases h) | .inr (.inr _) => (fun h => by cases h)) (fun u296 => ?_)
            ·
             refine Ref.drawnY 22 (by kernel_rfl) (by kernel_rfl) ?_
             refine RefY.evC0 (st' := ⟨[sP 1 0 0 0, sI 6 u282.2, sS 105 u282.1, sP 106 0 0 4, sI 108 u282.2, sP 112 0 0 5, sI 114 u282.2], [.cells (E43.cs a0)], [], 0⟩) (fuel' := 8) [0, 1, 3, 7, 9] [1, 6, 105, 106, 108, 112, 114] [0] rfl (by kernel_rfl) (by kernel_rfl) ?_
             refine RefY.toX [] ?_
             refine RefX.evC0 (st' := ⟨[sP 1 0 0 0, sI 6 u282.2, sS 105 u282.1, (107, .c (E76.tree a0.fLabels)), sI 108 u282.2, (113, .c (NTT43 a0.fBlocks)), sI 114 u282.2], [.cells (E43.cs a0)], [], 0⟩) (fuel' := 6) [2, 8] [1, 6, 105, 107, 108, 113, 114] [0] rfl (by kernel_rfl) (by kernel_rfl) ?_
             refine RefX.conv (Conv.slot 113 (.c (E44.tree a0.fBlocks)) (DLe.c (NTT43_le _)) (by kernel_rfl)) ?_
             refine RefX.lookC (t := 109) (g := []) (b := true) (fuel' := 5) 4 [] (default : Bytes) rfl (by kernel_rfl) (by kernel_rfl) (F63_ok K a0.fLabels u282.2) (fun _ => rfl) (fun r297 => ?_)
             refine RefX.evC (vs := [room (u282.1.length + r297.length), room ((u282.1 ++ r297).length + ([58, 32] : Bytes).length)]) (st' := ⟨[sP 1 0 0 0, sI 6 u282.2, sS 111 ((u282.1 ++ r297) ++ ([58, 32] : Bytes)), (113, .c (E44.tree a0.fBlocks)), sI 114 u282.2], [.cells (E43.cs a0)], [], 0⟩) (fuel' := 3) [5, 6] [1, 6, 111, 113, 114] [0] rfl (by kernel_rfl) (by kernel_rfl) ?_
             refine RefX.lookC (t := 115) (g := []) (b := true) (fuel' := 2) 10 [] (default : Bytes) rfl (by kernel_rfl) (by kernel_rfl) (ih61 a0.fBlocks u282.2) (fun _ => rfl) (fun r298 => ?_)
             refine RefX.evC (vs := [room (((u282.1 ++ r297) ++ ([58, 32] : Bytes)).length + r298.length)]) (st' := ⟨[sP 1 0 0 0, sS 5 (((u282.1 ++ r297) ++ ([58, 32] : Bytes)) ++ r298), sI 6 u282.2], [.cells (E43.cs a0)], [], 0⟩) (fuel' := 0) [11, 12] [1, 5, 6] [0] rfl (by kernel_rfl) (by kernel_rfl) ?_
             refine RefX.letC (stf := fun x299 => ⟨[sP 1 0 0 0, sS 5 x299, sI 6 u282.2], [.cells (E43.cs a0)], [], 0⟩) (by kernel_rfl) (fun x299 => ?_)
             refine RefX.done (by kernel_rfl) ?_
             exact Ref.n0 (t := (x299))
            ·
             refine Ref.rn 21 ?_
             refine RefR.e0 (st' := ⟨[sP 1 0 0 0, sS 5 u296, sI 6 (IntKind.i64.wrap (u282.2 + 1))], [.cells (E43.cs a0)], [], 0⟩) 0 3 3 [1, 5, 6] [0] ?_
             refine RefR.nl 3 ?_
             exact Ref.n0 (t := (u296, (IntKind.i64.wrap (u282.2 + 1))))
           ·
            refine Ref.conv (Conv.keep (st' := ⟨[sP 1 0 0 0, sS 5 u282.1], [.cells (E43.cs a0)], [], 0⟩) [1, 5] [0] (by kernel_rfl)) ?_
            exact Ref.xt 3 (t := (Sum.inl (u282.1)))
          ·
           refine Ref.sq ?_
           refine Ref.rn 23 ?_
           refine RefR.e0 (st' := ⟨[sS 117 u272, (119, .c (NTT43 a0.fBlocks)), sI 122 (Int.ofNat a0.fLabels.length)], [], [], 0⟩) 0 6 6 [117, 119, 122] [] ?_
           refine RefR.conv (Conv.slot 119 (.c (E44.tree a0.fBlocks)) (DLe.c (NTT43_le _)) (by kernel_rfl)) ?_
           refine RefR.callC (t := 123) 6 7 [] rfl (by kernel_rfl) (ih62 a0.fBlocks (Int.ofNat a0.fLabels.length)) (fun r300 => ?_)
           refine RefR.evC (vs := [room (u272.length + r300.length), room ((u272 ++ r300).length + ([69, 78, 68, 95, 67, 65, 83, 69, 32, 59] : Bytes).length)]) (st' := ⟨[sS 2 ((u272 ++ r300) ++ ([69, 78, 68, 95, 67, 65, 83, 69, 32, 59] : Bytes))], [], [], 0⟩) 7 3 10 [2] [] rfl (by kernel_rfl) ?_
           refine RefR.letC (stf := fun x301 => ⟨[sS 2 x301], [], [], 0⟩) (by kernel_rfl) (fun x301 => ?_)
           refine RefR.nl 10 ?_
           exact Ref.rt (t := (Sum.inr (x301)))
         ·
          refine Ref.sq ?_
          refine Ref.rn 24 ?_
          refine RefR.e0 (st' := ⟨[sP 1 0 0 0, sI 8 a0.fKind, sB 126 ((a0.fKind : Int) == 7)], [.cells (E43.cs a0)], [], 0⟩) 0 2 2 [1, 8, 126] [0] ?_
          refine RefR.nl 2 ?_
          refine Ref.cn (.tmp 126) ((a0.fKind : Int) == 7) (fun hc => ?_) (fun hc => ?_)
          ·
           refine Ref.sq ?_
           refine Ref.drawnY 25 (by kernel_rfl) (by kernel_rfl) ?_
           refine RefY.evC0 (st' := ⟨[sP 128 0 0 3, sP 133 0 0 5], [.cells (E43.cs a0)], [], 0⟩) (fuel' := 9) [0, 5] [128, 133] [0] rfl (by kernel_rfl) (by kernel_rfl) ?_
           refine RefY.toX [] ?_
           refine RefX.evC0 (st' := ⟨[(129, .c (E27.tree a0.fExprs)), (134, .c (NTT43 a0.fBlocks))], [], [], 0⟩) (fuel' := 7) [1, 6] [129, 134] [] rfl (by kernel_rfl) (by kernel_rfl) ?_
           refine RefX.conv (Conv.slot 134 (.c (E44.tree a0.fBlocks)) (DLe.c (NTT43_le _)) (by kernel_rfl)) ?_
           refine RefX.lookC (t := 130) (g := []) (b := true) (fuel' := 6) 2 [] (default : Bytes) rfl (by kernel_rfl) (by kernel_rfl) (F25_ok K a0.fExprs 0) (fun _ => rfl) (fun r302 => ?_)
           refine RefX.evC (vs := [room (([87, 72, 73, 76, 69, 32] : Bytes).length + r302.length), room ((([87, 72, 73, 76, 69, 32] : Bytes) ++ r302).length + ([32, 68, 79, 32] : Bytes).length)]) (st' := ⟨[sS 132 ((([87, 72, 73, 76, 69, 32] : Bytes) ++ r302) ++ ([32, 68, 79, 32] : Bytes)), (134, .c (E44.tree a0.fBlocks))], [], [], 0⟩) (fuel' := 4) [3, 4] [132, 134] [] rfl (by kernel_rfl) (by kernel_rfl) ?_
           refine RefX.letC (stf := fun x303 => ⟨[sS 132 x303, (134, .c (E44.tree a0.fBlocks))], [], [], 0⟩) (by kernel_rfl) (fun x303 => ?_)
           refine RefX.lookC (t := 135) (g := []) (b := true) (fuel' := 3) 7 [] (default : Bytes) rfl (by kernel_rfl) (by kernel_rfl) (ih61 a0.fBlocks 0) (fun _ => rfl) (fun r304 => ?_)
           refine RefX.evC (vs := [room (x303.length + r304.length), room ((x303 ++ r304).length + ([69, 78, 68, 95, 87, 72, 73, 76, 69, 32, 59] : Bytes).length)]) (st' := ⟨[sS 2 ((x303 ++ r304) ++ ([69, 78, 68, 95, 87, 72, 73, 76, 69, 32, 59] : Bytes))], [], [], 0⟩) (fuel' := 0) [8, 9, 10] [2] [] rfl (by kernel_rfl) (by kernel_rfl) ?_
           refine RefX.letC (stf := fun x305 => ⟨[sS 2 x305], [], [], 0⟩) (by kernel_rfl) (fun x305 => ?_)
           refine RefX.done (by kernel_rfl) ?_
           exact Ref.rt (t := (Sum.inr (x305)))
          ·
           refine Ref.sq ?_
           refine Ref.rn 26 ?_
           refine RefR.e0 (st' := ⟨[sP 1 0 0 0, sI 8 a0.fKind, sB 138 ((a0.fKind : Int) == 8)], [.cells (E43.cs a0)], [], 0⟩) 0 2 2 [1, 8, 138] [0] ?_
           refine RefR.nl 2 ?_
           refine Ref.cn (.tmp 138) ((a0.fKind : Int) == 8) (fun hc => ?_) (fun hc => ?_)
           ·
            refine Ref.sq ?_
            refine Ref.drawnY 27 (by kernel_rfl) (by kernel_rfl) ?_
            refine RefY.evC0 (st' := ⟨[sP 140 0 0 2, sP 144 0 0 3, sP 149 0 0 3, sP 154 0 0 1, sP 159 0 0 5], [.cells (E43.cs a0)], [], 0⟩) (fuel' := 20) [0, 4, 9, 14, 19] [140, 144, 149, 154, 159] [0] rfl (by kernel_rfl) (by kernel_rfl) ?_
            refine RefY.toX [] ?_
            refine RefX.evC (vs := [room (([70, 79, 82, 32] : Bytes).length + a0.fName.length), room ((([70, 79, 82, 32] : Bytes) ++ a0.fName).length + ([32, 58, 61, 32] : Bytes).length)]) (st' := ⟨[sS 143 ((([70, 79, 82, 32] : Bytes) ++ a0.fName) ++ ([32, 58, 61, 32] : Bytes)), (145, .c (E27.tree a0.fExprs)), (150, .c (E27.tree a0.fExprs)), sI 155 a0.fN, (160, .c (NTT43 a0.fBlocks))], [], [], 0⟩) (fuel' := 13) [1, 2, 3, 5, 10, 15, 20] [143, 145, 150, 155, 160] [] rfl (by kernel_rfl) (by kernel_rfl) ?_
            refine RefX.conv (Conv.slot 160 (.c (E44.tree a0.fBlocks)) (DLe.c (NTT43_le _)) (by kernel_rfl)) ?_
            refine RefX.letC (stf := fun x306 => ⟨[(160, .c (E44.tree a0.fBlocks)), sS 143 x306, (145, .c (E27.tree a0.fExprs)), (150, .c (E27.tree a0.fExprs)), sI 155 a0.fN], [], [], 0⟩) (by kernel_rfl) (fun x306 => ?_)
            refine RefX.lookC (t := 146) (g := []) (b := true) (fuel' := 12) 6 [] (default : Bytes) rfl (by kernel_rfl) (by kernel_rfl) (F25_ok K a0.fExprs 0) (fun _ => rfl) (fun r307 => ?_)
            refine RefX.evC (vs := [room (x306.length + r307.length), room ((x306 ++ r307).length + ([32, 84, 79, 32] : Bytes).length)]) (st' := ⟨[sS 148 ((x306 ++ r307) ++ ([32, 84, 79, 32] : Bytes)), (150, .c (E27.tree a0.fExprs)), sI 155 a0.fN, (160, .c (E44.tree a0.fBlocks))], [], [], 0⟩) (fuel' := 10) [7, 8] [148, 150, 155, 160] [] rfl (by kernel_rfl) (by kernel_rfl) ?_
            refine RefX.letC (stf := fun x308 => ⟨[sS 148 x308, (150, .c (E27.tree a0.fExprs)), sI 155 a0.fN, (160, .c (E44.tree a0.fBlocks))], [], [], 0⟩) (by kernel_rfl) (fun x308 => ?_)
            refine RefX.lookC (t := 151) (g := []) (b := true) (fuel' := 9) 11 [] (default : Bytes) rfl (by kernel_rfl) (by kernel_rfl) (F25_ok K a0.fExprs 1) (fun _ => rfl) (fun r309 => ?_)
            refine RefX.evC (vs := [room (x308.length + r309.length), room ((x308 ++ r309).length + ([32, 66, 89, 32] : Bytes).length)]) (st' := ⟨[sS 153 ((x308 ++ r309) ++ ([32, 66, 89, 32] : Bytes)), sI 155 a0.fN, (160, .c (E44.tree a0.fBlocks))], [], [], 0⟩) (fuel' := 7) [12, 13] [153, 155, 160] [] rfl (by kernel_rfl) (by kernel_rfl) ?_
            refine RefX.letC (stf := fun x310 => ⟨[sS 153 x310, sI 155 a0.fN, (160, .c (E44.tree a0.fBlocks))], [], [], 0⟩) (by kernel_rfl) (fun x310 => ?_)
            refine RefX.lookC (t := 156) (g := []) (b := true) (fuel' := 6) 16 [] (default : Bytes) rfl (by kernel_rfl) (by kernel_rfl) (F24_ok K a0.fN) (fun _ => rfl) (fun r311 => ?_)
            refine RefX.evC (vs := [room (x310.length + r311.length), room ((x310 ++ r311).length + ([32, 68, 79, 32] : Bytes).length)]) (st' := ⟨[sS 158 ((x310 ++ r311) ++ ([32, 68, 79, 32] : Bytes)), (160, .c (E44.tree a0.fBlocks))], [], [], 0⟩) (fuel' := 4) [17, 18] [158, 160] [] rfl (by kernel_rfl) (by kernel_rfl) ?_
            refine RefX.letC (stf := fun x312 => ⟨[sS 158 x312, (160, .c (E44.tree a0.fBlocks))], [], [], 0⟩) (by kernel_rfl) (fun x312 => ?_)
            refine RefX.lookC (t := 161) (g := []) (b := true) (fuel' := 3) 21 [] (default : Bytes) rfl (by kernel_rfl) (by kernel_rfl) (ih61 a0.fBlocks 0) (fun _ => rfl) (fun r313 => ?_)
            refine RefX.evC (vs := [room (x312.length + r313.length), room ((x312 ++ r313).length + ([69, 78, 68, 95, 70, 79, 82, 32, 59] : Bytes).length)]) (st' := ⟨[sS 2 ((x312 ++ r313) ++ ([69, 78, 68, 95, 70, 79, 82, 32, 59] : Bytes))], [], [], 0⟩) (fuel' := 0) [22, 23, 24] [2] [] rfl (by kernel_rfl) (by kernel_rfl) ?_
            refine RefX.letC (stf := fun x314 => ⟨[sS 2 x314], [], [], 0⟩) (by kernel_rfl) (fun x314 => ?_)
            refine RefX.done (by kernel_rfl) ?_
            exact Ref.rt (t := (Sum.inr (x314)))
           ·
            refine Ref.sq ?_
            refine Ref.rn 28 ?_
            refine RefR.e0 (st' := ⟨[sP 1 0 0 0, sI 8 a0.fKind, sB 164 ((a0.fKind : Int) == 9)], [.cells (E43.cs a0)], [], 0⟩) 0 2 2 [1, 8, 164] [0] ?_
            refine RefR.nl 2 ?_
            refine Ref.cn (.tmp 164) ((a0.fKind : Int) == 9) (fun hc => ?_) (fun hc => ?_)
            ·
             refine Ref.sq ?_
             refine Ref.sq ?_
             refine Ref.rn 29 ?_
             refine RefR.e0 (st' := ⟨[sP 1 0 0 0, sB 169 (decide (((Int.ofNat a0.fExprs.length) : Int) > 0))], [.cells (E43.cs a0)], [], 0⟩) 0 4 4 [1, 169] [0] ?_
             refine RefR.letC (stf := fun x315 => ⟨[sP 1 0 0 0, sB 169 x315], [.cells (E43.cs a0)], [], 0⟩) (by kernel_rfl) (fun x315 => ?_)
             refine RefR.nl 4 ?_
             refine Ref.cn (.tmp 169) x315 (fun hc => ?_) (fun hc => ?_)
             ·
              refine Ref.sq ?_
              refine Ref.rn 30 ?_
              refine RefR.e0 (st' := ⟨[(171, .c (E27.tree a0.fExprs))], [], [], 0⟩) 0 2 2 [171] [] ?_
              refine RefR.evC (vs := [inb 0 a0.fExprs.length]) (st' := ⟨[(173, .agg (E27.cs (a0.fExprs.getD (0 : Int).toNat default)))], [], [], 0⟩) 2 2 4 [173] [] rfl (by kernel_rfl) ?_
              refine RefR.callC (t := 174) 4 5 [] rfl (by kernel_rfl) (F11_ok K (a0.fExprs.getD (0 : Int).toNat default)) (fun r316 => ?_)
              refine RefR.evC (vs := [room (([82, 69, 84, 85, 82, 78, 32] : Bytes).length + r316.length), room ((([82, 69, 84, 85, 82, 78, 32] : Bytes) ++ r316).length + ([32, 59] : Bytes).length)]) (st' := ⟨[sS 2 ((([82, 69, 84, 85, 82, 78, 32] : Bytes) ++ r316) ++ ([32, 59] : Bytes))], [], [], 0⟩) 5 3 8 [2] [] rfl (by kernel_rfl) ?_
              refine RefR.letC (stf := fun x317 => ⟨[sS 2 x317], [], [], 0⟩) (by kernel_rfl) (fun x317 => ?_)
              refine RefR.nl 8 ?_
              exact Ref.rt (t := (Sum.inr (x317)))
             ·
              refine Ref.sk ?_
              refine Ref.sq ?_
              refine Ref.rn 31 ?_
              refine RefR.e0 (st' := ⟨[sS 2 ([82, 69, 84, 85, 82, 78, 32, 59] : Bytes)], [], [], 0⟩) 0 1 1 [2] [] ?_
              refine RefR.nl 1 ?_
              exact Ref.rt (t := (Sum.inr (([82, 69, 84, 85, 82, 78, 32, 59] : Bytes))))
            ·
             refine Ref.sq ?_
             refine Ref.rn 32 ?_
             refine RefR.e0 (st' := ⟨[sP 1 0 0 0, sI 8 a0.fKind, sB 177 ((a0.fKind : Int) == 10)], [.cells (E43.cs a0)], [], 0⟩) 0 2 2 [1, 8, 177] [0] ?_
             refine RefR.nl 2 ?_
             refine Ref.cn (.tmp 177) ((a0.fKind : Int) == 10) (fun hc => ?_) (fun hc => ?_)
             ·
              refine Ref.sq ?_
              refine Ref.rn 33 ?_
              refine RefR.e0 (st' := ⟨[sS 2 ([69, 88, 73, 84, 32, 59] : Bytes)], [], [], 0⟩) 0 1 1 [2] [] ?_
              refine RefR.nl 1 ?_
              exact Ref.rt (t := (Sum.inr (([69, 88, 73, 84, 32, 59] : Bytes))))
             ·
              refine Ref.sq ?_
              refine Ref.rn 34 ?_
              refine RefR.e0 (st' := ⟨[sP 1 0 0 0, sB 179 ((a0.fKind : Int) == 11)], [.cells (E43.cs a0)], [], 0⟩) 0 2 2 [1, 179] [0] ?_
              refine RefR.nl 2 ?_
              refine Ref.cn (.tmp 179) ((a0.fKind : Int) == 11) (fun hc => ?_) (fun hc => ?_)
              ·
               refine Ref.sq ?_
               refine Ref.drawnY 35 (by kernel_rfl) (by kernel_rfl) ?_
               refine RefY.evC0 (st' := ⟨[sP 181 0 0 2, sP 185 0 0 3, sP 190 0 0 3], [.cells (E43.cs a0)], [], 0⟩) (fuel' := 12) [0, 4, 9] [181, 185, 190] [0] rfl (by kernel_rfl) (by kernel_rfl) ?_
               refine RefY.toX [] ?_
               refine RefX.evC (vs := [room (([83, 84, 69, 80, 32] : Bytes).length + a0.fName.length), room ((([83, 84, 69, 80, 32] : Bytes) ++ a0.fName).length + ([32, 40, 32] : Bytes).length)]) (st' := ⟨[sS 184 ((([83, 84, 69, 80, 32] : Bytes) ++ a0.fName) ++ ([32, 40, 32] : Bytes)), (186, .c (E27.tree a0.fExprs)), (191, .c (E27.tree a0.fExprs))], [], [], 0⟩) (fuel' := 7) [1, 2, 3, 5, 10] [184, 186, 191] [] rfl (by kernel_rfl) (by kernel_rfl) ?_
               refine RefX.letC (stf := fun x318 => ⟨[sS 184 x318, (186, .c (E27.tree a0.fExprs)), (191, .c (E27.tree a0.fExprs))], [], [], 0⟩) (by kernel_rfl) (fun x318 => ?_)
               refine RefX.lookC (t := 187) (g := []) (b := true) (fuel' := 6) 6 [] (default : Bytes) rfl (by kernel_rfl) (by kernel_rfl) (F25_ok K a0.fExprs 0) (fun _ => rfl) (fun r319 => ?_)
               refine RefX.evC (vs := [room (x318.length + r319.length), room ((x318 ++ r319).length + ([32, 44, 32] : Bytes).length)]) (st' := ⟨[sS 189 ((x318 ++ r319) ++ ([32, 44, 32] : Bytes)), (191, .c (E27.tree a0.fExprs))], [], [], 0⟩) (fuel' := 4) [7, 8] [189, 191] [] rfl (by kernel_rfl) (by kernel_rfl) ?_
               refine RefX.lookC (t := 192) (g := []) (b := true) (fuel' := 3) 11 [] (default : Bytes) rfl (by kernel_rfl) (by kernel_rfl) (F25_ok K a0.fExprs 1) (fun _ => rfl) (fun r320 => ?_)
               refine RefX.evC (vs := [room (((x318 ++ r319) ++ ([32, 44, 32] : Bytes)).length + r320.length), room ((((x318 ++ r319) ++ ([32, 44, 32] : Bytes)) ++ r320).length + ([32, 41, 32, 59] : Bytes).length)]) (st' := ⟨[sS 2 ((((x318 ++ r319) ++ ([32, 44, 32] : Bytes)) ++ r320) ++ ([32, 41, 32, 59] : Bytes))], [], [], 0⟩) (fuel' := 0) [12, 13, 14] [2] [] rfl (by kernel_rfl) (by kernel_rfl) ?_
               refine RefX.letC (stf := fun x321 => ⟨[sS 2 x321], [], [], 0⟩) (by kernel_rfl) (fun x321 => ?_)
               refine RefX.done (by kernel_rfl) ?_
               exact Ref.rt (t := (Sum.inr (x321)))
              ·
               refine Ref.sk ?_
               refine Ref.conv (Conv.keep (st' := ⟨[], [], [], 0⟩) [] [] (by kernel_rfl)) ?_
               exact Ref.n0 (t := ())
   ·
    refine Ref.sq ?_
    refine Ref.rn 36 ?_
    refine RefR.e0 (st' := ⟨[sS 2 ([63, 32, 59] : Bytes)], [], [], 0⟩) 0 1 1 [2] [] ?_
    refine RefR.nl 1 ?_
    exact Ref.rt (t := (([63, 32, 59] : Bytes)))

  ·
   intro a0 a1
   refine DFun.intro (fn := Tryd.f61) (c := cd (bd Tryd.f61) []) (rs := fun r => ⟨[sS 4 r], [], [], 0⟩) (by kernel_rfl) (by kernel_rfl) (by kernel_rfl) ?_ (fun r => by kernel_rfl) (fun r => by kernel_rfl) (fun r => by kernel_rfl) (fun r => by kernel_rfl)
   rw [F61]
   refine Ref.sq ?_
   refine Ref.rn 0 ?_
   refine RefR.e0 (st' := ⟨[(0, .c (E44.tree a0)), sI 1 a1], [], [], 0⟩) 0 1 1 [0, 1] [] ?_
   refine RefR.nl 1 ?_
   refine Ref.sq ?_
   refine Ref.sq ?_
   refine Ref.rn 1 ?_
   refine RefR.e0 (st' := ⟨[(0, .c (E44.tree a0)), sI 1 a1, sB 8 (decide ((a1 : Int) ≥ (Int.ofNat a0.length)))], [], [], 0⟩) 0 4 4 [0, 1, 8] [] ?_
   refine RefR.letC (stf := fun x1 => ⟨[(0, .c (E44.tree a0)), sI 1 a1, sB 8 x1], [], [], 0⟩) (by kernel_rfl) (fun x1 => ?_)
   refine RefR.nl 4 ?_
   refine Ref.cn (.tmp 8) x1 (fun hc => ?_) (fun hc => ?_)
   ·
    refine Ref.sq ?_
    refine Ref.rn 2 ?_
    refine RefR.e0 (st' := ⟨[sS 4 ([] : Bytes)], [], [], 0⟩) 0 1 1 [4] [] ?_
    refine RefR.nl 1 ?_
    exact Ref.rt (t := (([] : Bytes)))
   ·
    refine Ref.sk ?_
    refine Ref.sq ?_
    refine Ref.rn 3 ?_
    refine RefR.e0 (st' := ⟨[(9, .c (E44.tree a0)), sI 10 a1], [], [], 0⟩) 0 2 2 [9, 10] [] ?_
    refine RefR.evC (vs := [inb a1 a0.length]) (st' := ⟨[(12, .c (E43.tree (a0.getD (a1 : Int).toNat default)))], [], [], 0⟩) 2 2 4 [12] [] rfl (by kernel_rfl) ?_
    refine RefR.callC (t := 13) 4 5 [] rfl (by kernel_rfl) (ih43 (a0.getD (a1 : Int).toNat default)) (fun r2 => ?_)
    refine RefR.e0 (st' := ⟨[sS 4 r2], [], [], 0⟩) 5 1 6 [4] [] ?_
    refine RefR.nl 6 ?_
    exact Ref.rt (t := (r2))

  ·
   intro a0 a1
   refine DFun.intro (fn := Tryd.f62) (c := cd (bd Tryd.f62) []) (rs := fun r => ⟨[sS 4 r], [], [], 0⟩) (by kernel_rfl) (by kernel_rfl) (by kernel_rfl) ?_ (fun r => by kernel_rfl) (fun r => by kernel_rfl) (fun r => by kernel_rfl) (fun r => by kernel_rfl)
   rw [F62]
   refine Ref.sq ?_
   refine Ref.rn 0 ?_
   refine RefR.e0 (st' := ⟨[(0, .c (E44.tree a0)), sI 1 a1], [], [], 0⟩) 0 1 1 [0, 1] [] ?_
   refine RefR.nl 1 ?_
   refine Ref.sq ?_
   refine Ref.sq ?_
   refine Ref.rn 1 ?_
   refine RefR.e0 (st' := ⟨[(0, .c (E44.tree a0)), sI 1 a1, sB 9 (decide ((a1 : Int) ≥ (Int.ofNat a0.length))), (10, .c (E44.tree a0)), sI 11 a1], [], [(11, [(9, false)]), (10, [(9, false)])], 0⟩) 0 7 7 [0, 1, 9, 10, 11] [] ?_
   refine RefR.letC (stf := fun x1 => ⟨[(0, .c (E44.tree a0)), sI 1 a1, sB 9 x1, (10, .c (E44.tree a0)), sI 11 a1], [], [(11, [(9, false)]), (10, [(9, false)])], 0⟩) (by kernel_rfl) (fun x1 => ?_)
   refine RefR.evC (vs := [!(!x1) || inb a1 a0.length]) (st' := ⟨[(0, .c (E44.tree a0)), sI 1 a1, sB 16 (x1 || (((Int.ofNat (a0.getD (a1 : Int).toNat default).length) : Int) == 0))], [], [], 0⟩) 7 5 12 [0, 1, 16] [] rfl (by kernel_rfl) ?_
   refine RefR.letC (stf := fun x2 => ⟨[(0, .c (E44.tree a0)), sI 1 a1, sB 16 x2], [], [], 0⟩) (by kernel_rfl) (fun x2 => ?_)
   refine RefR.nl 12 ?_
   refine Ref.cn (.tmp 16) x2 (fun hc => ?_) (fun hc => ?_)
   ·
    refine Ref.sq ?_
    refine Ref.rn 2 ?_
    refine RefR.e0 (st' := ⟨[sS 4 ([] : Bytes)], [], [], 0⟩) 0 1 1 [4] [] ?_
    refine RefR.nl 1 ?_
    exact Ref.rt (t := (([] : Bytes)))
   ·
    refine Ref.sk ?_
    refine Ref.sq ?_
    refine Ref.rn 3 ?_
    refine RefR.e0 (st' := ⟨[(17, .c (E44.tree a0)), sI 18 a1], [], [], 0⟩) 0 2 2 [17, 18] [] ?_
    refine RefR.evC (vs := [inb a1 a0.length]) (st' := ⟨[(20, .c (E43.tree (a0.getD (a1 : Int).toNat default)))], [], [], 0⟩) 2 2 4 [20] [] rfl (by kernel_rfl) ?_
    refine RefR.callC (t := 21) 4 5 [] rfl (by kernel_rfl) (ih43 (a0.getD (a1 : Int).toNat default)) (fun r3 => ?_)
    refine RefR.evC (vs := [room (([69, 76, 83, 69, 32] : Bytes).length + r3.length)]) (st' := ⟨[sS 4 (([69, 76, 83, 69, 32] : Bytes) ++ r3)], [], [], 0⟩) 5 2 7 [4] [] rfl (by kernel_rfl) ?_
    refine RefR.nl 7 ?_
    exact Ref.rt (t := ((([69, 76, 83, 69, 32] : Bytes) ++ r3)))

theorem F43_ok (K : Nat) (a0 : (List S43)) : DFun Tryd.prog 43 [.c (E43.tree a0)] [] (fnS (F43 K a0)) (fun r => .c (.str r)) (fun r => []) := (G43_ok K).1 a0

theorem F55_ok (K : Nat) (a0 : S43) : DFun Tryd.prog 55 [.agg (E43.cs a0)] [] (fnS (F55 K a0)) (fun r => .c (.str r)) (fun r => []) := (G43_ok K).2.1 a0

theorem F61_ok (K : Nat) (a0 : (List (List S43))) (a1 : Int) : DFun Tryd.prog 61 [.c (E44.tree a0), .c (.val (.int .i64 a1))] [] (fnS (F61 K a0 a1)) (fun r => .c (.str r)) (fun r => []) := (G43_ok K).2.2.1 a0 a1

theorem F62_ok (K : Nat) (a0 : (List (List S43))) (a1 : Int) : DFun Tryd.prog 62 [.c (E44.tree a0), .c (.val (.int .i64 a1))] [] (fnS (F62 K a0 a1)) (fun r => .c (.str r)) (fun r => []) := (G43_ok K).2.2.2 a0 a1

/-- governor/governorref5.decl -/
def F22 (K : Nat) (a0 : S48) : Option ((Bytes) ⊕ (Bytes)) :=
 (bindS (blockS (if ((a0.fKind : Int) == 1) = true then (chk [room (([73, 78, 84, 69, 82, 70, 65, 67, 69, 32] : Bytes).length + a0.fName.length), room ((([73, 78, 84, 69, 82, 70, 65, 67, 69, 32] : Bytes) ++ a0.fName).length + ([32, 59, 32] : Bytes).length)] (letV ((([73, 78, 84, 69, 82, 70, 65, 67, 69, 32] : Bytes) ++ a0.fName) ++ ([32, 59, 32] : Bytes)) (fun (x414 : Bytes) => (bindS (blockS ((iter K (fun (u476 : Bytes × Int) => (letV (decide ((u476.2 : Int) < (Int.ofNat a0.fMethods.length))) (fun (x492 : Bool) => (if x492 = true then (bindS (blockS (chk [inb u476.2 a0.fMethods.length] (chk [room (u476.1.length + ([77, 69, 84, 72, 79, 68, 32] : Bytes).length)] (letV (u476.1 ++ ([77, 69, 84, 72, 79, 68, 32] : Bytes)) (fun (x500 : Bytes) => (chk [room (x500.length + ((a0.fMethods.getD (u476.2 : Int).toNat default).fName).length), room ((x500 ++ ((a0.fMethods.getD (u476.2 : Int).toNat default).fName)).length + ([32] : Bytes).length)] (letV ((x500 ++ ((a0.fMethods.getD (u476.2 : Int).toNat default).fName)) ++ ([32] : Bytes)) (fun (x501 : Bytes) => (letV ((a0.fMethods.getD (u476.2 : Int).toNat default).fParams) (fun (x502 : (List S38)) => ((condM true (fnS (F39 K x502)) default).bind (fun r503 => (chk [room (x501.length + r503.length)] ((condM true (fnS (F40 K ((a0.fMethods.getD (u476.2 : Int).toNat default).fResult))) default).bind (fun r504 => (chk [room ((x501 ++ r503).length + r504.length), room (((x501 ++ r503) ++ r504).length + ([32, 59, 32] : Bytes).length)] (letV (((x501 ++ r503) ++ r504) ++ ([32, 59, 32] : Bytes)) (fun (x505 : Bytes) => (some (.inr (x505))))))))))))))))))))) (fun (u499 : Bytes) => (some (.inr (u499, (IntKind.i64.wrap (u476.2 + 1))))))) else (some (.inl (Sum.inl (u476.1)))))))) (x414, 0)).map .inl)) (fun (u460 : Bytes) => (chk [room (u460.length + ([69, 78, 68, 95, 73, 78, 84, 69, 82, 70, 65, 67, 69] : Bytes).length)] (letV (u460 ++ ([69, 78, 68, 95, 73, 78, 84, 69, 82, 70, 65, 67, 69] : Bytes)) (fun (x506 : Bytes) => (some (.inl (Sum.inr (x506)))))))))))) else (if ((a0.fKind : Int) == 2) = true then ((condM true (fnS (F41 K a0.fAbstract ([65, 66, 83, 84, 82, 65, 67, 84] : Bytes))) default).bind (fun r507 => (chk [room (([67, 76, 65, 83, 83, 32] : Bytes).length + r507.length)] ((condM true (fnS (F41 K a0.fFinal ([70, 73, 78, 65, 76] : Bytes))) default).bind (fun r508 => (chk [room ((([67, 76, 65, 83, 83, 32] : Bytes) ++ r507).length + r508.length), room (((([67, 76, 65, 83, 83, 32] : Bytes) ++ r507) ++ r508).length + a0.fName.length), room ((((([67, 76, 65, 83, 83, 32] : Bytes) ++ r507) ++ r508) ++ a0.fName).length + ([32] : Bytes).length)] (letV ((((([67, 76, 65, 83, 83, 32] : Bytes) ++ r507) ++ r508) ++ a0.fName) ++ ([32] : Bytes)) (fun (x509 : Bytes) => (bindS (if (!(a0.fBase == ([] : Bytes))) = true then (chk [room (x509.length + ([69, 88, 84, 69, 78, 68, 83, 32] : Bytes).length), room ((x509 ++ ([69, 88, 84, 69, 78, 68, 83, 32] : Bytes)).length + a0.fBase.length), room (((x509 ++ ([69, 88, 84, 69, 78, 68, 83, 32] : Bytes)) ++ a0.fBase).length + ([32] : Bytes).length)] (letV (((x509 ++ ([69, 88, 84, 69, 78, 68, 83, 32] : Bytes)) ++ a0.fBase) ++ ([32] : Bytes)) (fun (x512 : Bytes) => (some (.inr (x512)))))) else (some (.inr (x509)))) (fun (u511 : Bytes) => (bindS (blockS ((iter K (fun (u558 : Bytes × Int) => (letV (decide ((u558.2 : Int) < (Int.ofNat a0.fFaces.length))) (fun (x570 : Bool) => (if x570 = true then (bindS (blockS (bindS (if ((u558.2 : Int) == 0) = true then (chk [room (u558.1.length + ([73, 77, 80, 76, 69, 77, 69, 78, 84, 83, 32] : Bytes).length)] (letV (u558.1 ++ ([73, 77, 80, 76, 69, 77, 69, 78, 84, 83, 32] : Bytes)) (fun (x578 : Bytes) => (some (.inr (x578)))))) else (chk [room (u558.1.length + ([44, 32] : Bytes).length)] (some (.inr ((u558.1 ++ ([44, 32] : Bytes))))))) (fun (u577 : Bytes) => (chk [inb u558.2 a0.fFaces.length, room (u577.length + (a0.fFaces.getD (u558.2 : Int).toNat default).length), room ((u577 ++ (a0.fFaces.getD (u558.2 : Int).toNat default)).length + ([32] : Bytes).length)] (letV ((u577 ++ (a0.fFaces.getD (u558.2 : Int).toNat default)) ++ ([32] : Bytes)) (fun (x579 : Bytes) => (some (.inr (x579))))))))) (fun (u575 : Bytes) => (some (.inr (u575, (IntKind.i64.wrap (u558.2 + 1))))))) else (some (.inl (Sum.inl (u558.1)))))))) (u511, 0)).map .inl)) (fun (u546 : Bytes) => (chk [room (u546.length + ([59, 32] : Bytes).length)] ((fnS (F42 K a0.fVars)).bind (fun r580 => (chk [room ((u546 ++ ([59, 32] : Bytes)).length + r580.length)] (bindS (blockS ((iter K (fun (u738 : Bytes × Int) => (letV (decide ((u738.2 : Int) < (Int.ofNat a0.fMethods.length))) (fun (x778 : Bool) => (if x778 = true then (bindS (blockS (chk [inb u738.2 a0.fMethods.length] (chk [room (u738.1.length + ([77, 69, 84, 72, 79, 68, 32] : Bytes).length)] (letV (u738.1 ++ ([77, 69, 84, 72, 79, 68, 32] : Bytes)) (fun (x798 : Bytes) => (letV ((a0.fMethods.getD (u738.2 : Int).toNat default).fOver) (fun (x799 : Bool) => (letV ((a0.fMethods.getD (u738.2 : Int).toNat default).fAbstract) (fun (x800 : Bool) => (letV ((a0.fMethods.getD (u738.2 : Int).toNat default).fFinal) (fun (x801 : Bool) => (letV ((a0.fMethods.getD (u738.2 : Int).toNat default).fName) (fun (x802 : Bytes) => (letV ((a0.fMethods.getD (u738.2 : Int).toNat default).fParams) (fun (x803 : (List S38)) => (letV ((a0.fMethods.getD (u738.2 : Int).toNat default).fVars) (fun (x804 : (List S38)) => (letV ((a0.fMethods.getD (u738.2 : Int).toNat default).fBody) (fun (x805 : (List S43)) => ((condM true (fnS (F41 K x799 ([79, 86, 69, 82, 82, 73, 68, 69] : Bytes))) default).bind (fun r806 => (chk [room (x798.length + r806.length)] ((condM true (fnS (F41 K x800 ([65, 66, 83, 84, 82, 65, 67, 84] : Bytes))) default).bind (fun r807 => (chk [room ((x798 ++ r806).length + r807.length)] ((condM true (fnS (F41 K x801 ([70, 73, 78, 65, 76] : Bytes))) default).bind (fun r808 => (chk [room (((x798 ++ r806) ++ r807).length + r808.length), room ((((x798 ++ r806) ++ r807) ++ r808).length + x802.length), room (((((x798 ++ r806) ++ r807) ++ r808) ++ x802).length + ([32] : Bytes).length)] (letV (((((x798 ++ r806) ++ r807) ++ r808) ++ x802) ++ ([32] : Bytes)) (fun (x809 : Bytes) => ((condM true (fnS (F39 K x803)) default).bind (fun r810 => (chk [room (x809.length + r810.length)] ((condM true (fnS (F40 K ((a0.fMethods.getD (u738.2 : Int).toNat default).fResult))) default).bind (fun r811 => (chk [room ((x809 ++ r810).length + r811.length), room (((x809 ++ r810) ++ r811).length + ([32, 59, 32] : Bytes).length)] (letV (((x809 ++ r810) ++ r811) ++ ([32, 59, 32] : Bytes)) (fun (x812 : Bytes) => ((condM true (fnS (F42 K x804)) default).bind (fun r813 => (chk [room (x812.length + r813.length)] ((condM true (fnS (F43 K x805)) default).bind (fun r814 => (chk [room ((x812 ++ r813).length + r814.length), room (((x812 ++ r813) ++ r814).length + ([69, 78, 68, 95, 77, 69, 84, 72, 79, 68, 32] : Bytes).length)] (letV (((x812 ++ r813) ++ r814) ++ ([69, 78, 68, 95, 77, 69, 84, 72, 79, 68, 32] : Bytes)) (fun (x815 : Bytes) => (some (.inr (x815))))))))))))))))))))))))))))))))))))))))))))))))) (fun (u797 : Bytes) => (some (.inr (u797, (IntKind.i64.wrap (u738.2 + 1))))))) else (some (.inl (Sum.inl (u738.1)))))))) (((u546 ++ ([59, 32] : Bytes)) ++ r580), 0)).map .inl)) (fun (u698 : Bytes) => (chk [room (u698.length + ([69, 78, 68, 95, 67, 76, 65, 83, 83] : Bytes).length)] (letV (u698 ++ ([69, 78, 68, 95, 67, 76, 65, 83, 83] : Bytes)) (fun (x816 : Bytes) => (some (.inl (Sum.inr (x816))))))))))))))))))))))))) else (if ((a0.fKind : Int) == 3) = true then (chk [room (([80, 82, 79, 71, 82, 65, 77, 32] : Bytes).length + a0.fName.length), room ((([80, 82, 79, 71, 82, 65, 77, 32] : Bytes) ++ a0.fName).length + ([32, 59, 32] : Bytes).length)] (letV ((([80, 82, 79, 71, 82, 65, 77, 32] : Bytes) ++ a0.fName) ++ ([32, 59, 32] : Bytes)) (fun (x817 : Bytes) => ((condM true (fnS (F42 K a0.fVars)) default).bind (fun r818 => (chk [room (x817.length + r818.length)] ((condM true (fnS (F43 K a0.fBody)) default).bind (fun r819 => (chk [room ((x817 ++ r818).length + r819.length), room (((x817 ++ r818) ++ r819).length + ([69, 78, 68, 95, 80, 82, 79, 71, 82, 65, 77] : Bytes).length)] (letV (((x817 ++ r818) ++ r819) ++ ([69, 78, 68, 95, 80, 82, 79, 71, 82, 65, 77] : Bytes)) (fun (x820 : Bytes) => (some (.inl (Sum.inr (x820))))))))))))))) else (if ((a0.fKind : Int) == 4) = true then (chk [room (([84, 65, 83, 75, 32] : Bytes).length + a0.fName.length), room ((([84, 65, 83, 75, 32] : Bytes) ++ a0.fName).length + ([32, 40, 32, 73, 78, 84, 69, 82, 86, 65, 76, 32] : Bytes).length)] (letV ((([84, 65, 83, 75, 32] : Bytes) ++ a0.fName) ++ ([32, 40, 32, 73, 78, 84, 69, 82, 86, 65, 76, 32] : Bytes)) (fun (x821 : Bytes) => ((condM true (fnS (F24 K a0.fEvery)) default).bind (fun r822 => (chk [room (x821.length + r822.length), room ((x821 ++ r822).length + ([32, 44, 32, 80, 82, 73, 79, 82, 73, 84, 89, 32] : Bytes).length)] (letV ((x821 ++ r822) ++ ([32, 44, 32, 80, 82, 73, 79, 82, 73, 84, 89, 32] : Bytes)) (fun (x823 : Bytes) => ((condM true (fnS (F24 K a0.fFirst)) default).bind (fun r824 => (chk [room (x823.length + r824.length), room ((x823 ++ r824).length + ([32, 41, 32, 58, 32] : Bytes).length), room (((x823 ++ r824) ++ ([32, 41, 32, 58, 32] : Bytes)).length + a0.fBase.length), room ((((x823 ++ r824) ++ ([32, 41, 32, 58, 32] : Bytes)) ++ a0.fBase).length + ([32, 59] : Bytes).length)] (letV ((((x823 ++ r824) ++ ([32, 41, 32, 58, 32] : Bytes)) ++ a0.fBase) ++ ([32, 59] : Bytes)) (fun (x825 : Bytes) => (some (.inl (Sum.inr (x825))))))))))))))))) else (some (.inr ()))))))) (fun (u413 : Unit) => (some (.inl (([63] : Bytes))))))

theorem F22_ok (K : Nat) (a0 : S48) : DFun Tryd.prog 22 [.agg (E48.cs a0)] [] (fnS (F22 K a0)) (fun r => .c (.str r)) (fun r => []) := by
 refine DFun.intro (fn := Tryd.f22) (c := cd (bd Tryd.f22) []) (rs := fun r => ⟨[sS 2 r], [], [], 0⟩) (by kernel_rfl) (by kernel_rfl) (by kernel_rfl) ?_ (fun r => by kernel_rfl) (fun r => by kernel_rfl) (fun r => by kernel_rfl) (fun r => by kernel_rfl)
 unfold F22
 refine Ref.sq ?_
 refine Ref.rn 0 ?_
 refine RefR.e0 (st' := ⟨[sP 1 0 0 0], [.cells (E48.cs a0)], [], 0⟩) 0 2 2 [1] [0] ?_
 refine RefR.nl 2 ?_
 refine Ref.sq ?_
 refine Ref.sq ?_
 refine Ref.rn 1 ?_
 refine RefR.e0 (st' := ⟨[sP 1 0 0 0, sI 11 a0.fKind], [.cells (E48.cs a0)], [], 0⟩) 0 2 2 [1, 11] [0] ?_
 refine RefR.nl 2 ?_
 refine Ref.codeEq (c' := .block 0 (cd (bd Tryd.f22) [1, 0, 1, 0])) (by kernel_rfl) ?_
 refine Ref.block (go1 := fun u413 => ⟨[], [], [], 0⟩) ?_ (fun _ h => by cases h) (fun u413 => ?_)
 ·
  refine Ref.sq ?_
  refine Ref.rn 2 ?_
  refine RefR.e0 (st' := ⟨[sP 1 0 0 0, sI 11 a0.fKind, sB 12 ((a0.fKind : Int) == 1)], [.cells (E48.cs a0)], [], 0⟩) 0 2 2 [1, 11, 12] [0] ?_
  refine RefR.nl 2 ?_
  refine Ref.cn (.tmp 12) ((a0.fKind : Int) == 1) (fun hc => ?_) (fun hc => ?_)
  ·
   refine Ref.sq ?_
   refine Ref.rn 3 ?_
   refine RefR.evC (vs := [room (([73, 78, 84, 69, 82, 70, 65, 67, 69, 32] : Bytes).length + a0.fName.length), room ((([73, 78, 84, 69, 82, 70, 65, 67, 69, 32] : Bytes) ++ a0.fName).length + ([32, 59, 32] : Bytes).length)]) (st' := ⟨[sP 1 0 0 0, sS 3 ((([73, 78, 84, 69, 82, 70, 65, 67, 69, 32] : Bytes) ++ a0.fName) ++ ([32, 59, 32] : Bytes))], [.cells (E48.cs a0)], [], 0⟩) 0 5 5 [1, 3] [0] rfl (by kernel_rfl) ?_
   refine RefR.letC (stf := fun x414 => ⟨[sP 1 0 0 0, sS 3 x414], [.cells (E48.cs a0)], [], 0⟩) (by kernel_rfl) (fun x414 => ?_)
   refine RefR.nl 5 ?_
   refine Ref.sq ?_
   refine Ref.sq ?_
   refine Ref.rn 4 ?_
   refine RefR.e0 (st' := ⟨[sP 1 0 0 0, sS 3 x414, sI 4 0], [.cells (E48.cs a0)], [], 0⟩) 0 1 1 [1, 3, 4] [0] ?_
   refine RefR.nl 1 ?_
   refine Ref.codeEq (c' := .block 1 (cd (bd Tryd.f22) [1, 0, 1, 0, 1, 0, 1, 0, 1, 0])) (by kernel_rfl) ?_
   refine Ref.block (go1 := fun u460 => ⟨[sS 3 u460], [], [], 0⟩) ?_ (fun a => match a with | .inl _ => (fun h => by cases h) | .inr _ => (fun h => by cases h)) (fun u460 => ?_)
   ·
    refine Ref.codeEq (c' := .loop (cd (bd Tryd.f22) [1, 0, 1, 0, 1, 0, 1, 0, 1, 0, 0])) (by kernel_rfl) ?_
    refine Ref.loop (hd := fun u476 => ⟨[sP 1 0 0 0, sS 3 u476.1, sI 4 u476.2], [.cells (E48.cs a0)], [], 0⟩) K (x414, 0) (by kernel_rfl) (fun u476 => ?_)
    refine Ref.sq ?_
    refine Ref.sq ?_
    refine Ref.rn 5 ?_
    refine RefR.e0 (st' := ⟨[sP 1 0 0 0, sS 3 u476.1, sI 4 u476.2, sB 22 (decide ((u476.2 : Int) < (Int.ofNat a0.fMethods.length)))], [.cells (E48.cs a0)], [], 0⟩) 0 5 5 [1, 3, 4, 22] [0] ?_
    refine RefR.letC (stf := fun x492 => ⟨[sP 1 0 0 0, sS 3 u476.1, sI 4 u476.2, sB 22 x492], [.cells (E48.cs a0)], [], 0⟩) (by kernel_rfl) (fun x492 => ?_)
    refine RefR.nl 5 ?_
    refine Ref.cn (.tmp 22) x492 (fun hc => ?_) (fun hc => ?_)
    ·
     refine Ref.sk ?_
     refine Ref.sq ?_
     refine Ref.codeEq (c' := .block 2 (cd (bd Tryd.f22) [1, 0, 1, 0, 1, 0, 1, 0, 1, 0, 0, 1, 0, 0])) (by kernel_rfl) ?_
     refine Ref.block (go1 := fun u499 => ⟨[sP 1 0 0 0, sS 3 u499, sI 4 u476.2], [.cells (E48.cs a0)], [], 0⟩) ?_ (fun a => match a with | .inl _ => (fun h => by cases h) | .inr (.inl _) => (fun h => by cases h) | .inr (.inr _) => (fun h => by cases h)) (fun u499 => ?_)
     ·
      refine Ref.sq ?_
      refine Ref.rn 7 ?_
      refine RefR.evC (vs := [inb u476.2 a0.fMethods.length]) (st' := ⟨[sP 1 0 0 0, sS 3 u476.1, sI 4 u476.2, sP 5 1 0 0], [.cells (E48.cs a0), .cells (E54.cs (a0.fMethods.getD (u476.2 : Int).toNat default))], [], 0⟩) 0 7 7 [1, 3, 4, 5] [0, 1] rfl (by kernel_rfl) ?_
      refine RefR.nl 7 ?_
      refine Ref.drawnY 8 (by kernel_rfl) (by kernel_rfl) ?_
      refine RefY.evC (vs := [room (u476.1.length + ([77, 69, 84, 72, 79, 68, 32] : Bytes).length)]) (st' := ⟨[sP 1 0 0 0, sI 4 u476.2, sS 31 (u476.1 ++ ([77, 69, 84, 72, 79, 68, 32] : Bytes)), sP 32 1 0 0, sP 36 1 0 4, sP 40 1 0 5], [.cells (E48.cs a0), .cells (E54.cs (a0.fMethods.getD (u476.2 : Int).toNat default))], [], 0⟩) (fuel' := 11) [0, 1, 2, 6, 10] [1, 4, 31, 32, 36, 40] [0, 1] rfl (by kernel_rfl) (by kernel_rfl) ?_
      refine RefY.letC (stf := fun x500 => ⟨[sP 1 0 0 0, sI 4 u476.2, sS 31 x500, sP 32 1 0 0, sP 36 1 0 4, sP 40 1 0 5], [.cells (E48.cs a0), .cells (E54.cs (a0.fMethods.getD (u476.2 : Int).toNat default))], [], 0⟩) (by kernel_rfl) (fun x500 => ?_)
      refine RefY.toX [] ?_
      refine RefX.evC (vs := [room (x500.length + ((a0.fMethods.getD (u476.2 : Int).toNat default).fName).length), room ((x500 ++ ((a0.fMethods.getD (u476.2 : Int).toNat default).fName)).length + ([32] : Bytes).length)]) (st' := ⟨[sP 1 0 0 0, sI 4 u476.2, sS 35 ((x500 ++ ((a0.fMethods.getD (u476.2 : Int).toNat default).fName)) ++ ([32] : Bytes)), (37, .c (E38.tree ((a0.fMethods.getD (u476.2 : Int).toNat default).fParams))), (41, .agg (E29.cs ((a0.fMethods.getD (u476.2 : Int).toNat default).fResult)))], [.cells (E48.cs a0)], [], 0⟩) (fuel' := 6) [3, 4, 5, 7, 11] [1, 4, 35, 37, 41] [0] rfl (by kernel_rfl) (by kernel_rfl) ?_
      refine RefX.letC (stf := fun x501 => ⟨[sP 1 0 0 0, sI 4 u476.2, sS 35 x501, (37, .c (E38.tree ((a0.fMethods.getD (u476.2 : Int).toNat default).fParams))), (41, .agg (E29.cs ((a0.fMethods.getD (u476.2 : Int).toNat default).fResult)))], [.cells (E48.cs a0)], [], 0⟩) (by kernel_rfl) (fun x501 => ?_)
      refine RefX.letC (stf := fun x502 => ⟨[sP 1 0 0 0, sI 4 u476.2, sS 35 x501, (37, .c (E38.tree x502)), (41, .agg (E29.cs ((a0.fMethods.getD (u476.2 : Int).toNat default).fResult)))], [.cells (E48.cs a0)], [], 0⟩) (by kernel_rfl) (fun x502 => ?_)
      refine RefX.lookC (t := 38) (g := []) (b := true) (fuel' := 5) 8 [] (default : Bytes) rfl (by kernel_rfl) (by kernel_rfl) (F39_ok K x502) (fun _ => rfl) (fun r503 => ?_)
      refine RefX.evC (vs := [room (x501.length + r503.length)]) (st' := ⟨[sP 1 0 0 0, sI 4 u476.2, sS 39 (x501 ++ r503), (41, .agg (E29.cs ((a0.fMethods.getD (u476.2 : Int).toNat default).fResult)))], [.cells (E48.cs a0)], [], 0⟩) (fuel' := 4) [9] [1, 4, 39, 41] [0] rfl (by kernel_rfl) (by kernel_rfl) ?_
      refine RefX.lookC (t := 42) (g := []) (b := true) (fuel' := 3) 12 [] (default : Bytes) rfl (by kernel_rfl) (by kernel_rfl) (F40_ok K ((a0.fMethods.getD (u476.2 : Int).toNat default).fResult)) (fun _ => rfl) (fun r504 => ?_)
      refine RefX.evC (vs := [room ((x501 ++ r503).length + r504.length), room (((x501 ++ r503) ++ r504).length + ([32, 59, 32] : Bytes).length)]) (st' := ⟨[sP 1 0 0 0, sS 3 (((x501 ++ r503) ++ r504) ++ ([32, 59, 32] : Bytes)), sI 4 u476.2], [.cells (E48.cs a0)], [], 0⟩) (fuel' := 0) [13, 14, 15] [1, 3, 4] [0] rfl (by kernel_rfl) (by kernel_rfl) ?_
      refine RefX.letC (stf := fun x505 => ⟨[sP 1 0 0 0, sS 3 x505, sI 4 u476.2], [.cells (E48.cs a0)], [], 0⟩) (by kernel_rfl) (fun x505 => ?_)
      refine RefX.done (by kernel_rfl) ?_
      exact Ref.n0 (t := (x505))
     ·
      refine Ref.rn 6 ?_
      refine RefR.e0 (st' := ⟨[sP 1 0 0 0, sS 3 u499, sI 4 (IntKind.i64.wrap (u476.2 + 1))], [.cells (E48.cs a0)], [], 0⟩) 0 3 3 [1, 3, 4] [0] ?_
      refine RefR.nl 3 ?_
      exact Ref.n0 (t := (u499, (IntKind.i64.wrap (u476.2 + 1))))
    ·
     refine Ref.conv (Conv.keep (st' := ⟨[sS 3 u476.1], [], [], 0⟩) [3] [] (by kernel_rfl)) ?_
     exact Ref.xt 1 (t := (Sum.inl (u476.1)))
   ·
    refine Ref.sq ?_
    refine Ref.rn 9 ?_
    refine RefR.evC (vs := [room (u460.length + ([69, 78, 68, 95, 73, 78, 84, 69, 82, 70, 65, 67, 69] : Bytes).length)]) (st' := ⟨[sS 2 (u460 ++ ([69, 78, 68, 95, 73, 78, 84, 69, 82, 70, 65, 67, 69] : Bytes))], [], [], 0⟩) 0 3 3 [2] [] rfl (by kernel_rfl) ?_
    refine RefR.letC (stf := fun x506 => ⟨[sS 2 x506], [], [], 0⟩) (by kernel_rfl) (fun x506 => ?_)
    refine RefR.nl 3 ?_
    exact Ref.rt (t := (Sum.inr (x506)))
  ·
   refine Ref.sq ?_
   refine Ref.rn 10 ?_
   refine RefR.e0 (st' := ⟨[sP 1 0 0 0, sI 11 a0.fKind, sB 47 ((a0.fKind : Int) == 2)], [.cells (E48.cs a0)], [], 0⟩) 0 2 2 [1, 11, 47] [0] ?_
   refine RefR.nl 2 ?_
   refine Ref.cn (.tmp 47) ((a0.fKind : Int) == 2) (fun hc => ?_) (fun hc => ?_)
   ·
    refine Ref.sq ?_
    refine Ref.drawnY 11 (by kernel_rfl) (by kernel_rfl) ?_
    refine RefY.evC0 (st' := ⟨[sP 1 0 0 0, sP 49 0 0 4, sP 53 0 0 5, sP 57 0 0 1], [.cells (E48.cs a0)], [], 0⟩) (fuel' := 10) [0, 4, 8] [1, 49, 53, 57] [0] rfl (by kernel_rfl) (by kernel_rfl) ?_
    refine RefY.toX [] ?_
    refine RefX.evC0 (st' := ⟨[sP 1 0 0 0, sB 50 a0.fAbstract, sB 54 a0.fFinal, sS 58 a0.fName], [.cells (E48.cs a0)], [], 0⟩) (fuel' := 7) [1, 5, 9] [1, 50, 54, 58] [0] rfl (by kernel_rfl) (by kernel_rfl) ?_
    refine RefX.lookC (t := 51) (g := []) (b := true) (fuel' := 6) 2 [] (default : Bytes) rfl (by kernel_rfl) (by kernel_rfl) (F41_ok K a0.fAbstract ([65, 66, 83, 84, 82, 65, 67, 84] : Bytes)) (fun _ => rfl) (fun r507 => ?_)
    refine RefX.evC (vs := [room (([67, 76, 65, 83, 83, 32] : Bytes).length + r507.length)]) (st' := ⟨[sP 1 0 0 0, sS 52 (([67, 76, 65, 83, 83, 32] : Bytes) ++ r507), sB 54 a0.fFinal, sS 58 a0.fName], [.cells (E48.cs a0)], [], 0⟩) (fuel' := 5) [3] [1, 52, 54, 58] [0] rfl (by kernel_rfl) (by kernel_rfl) ?_
    refine RefX.lookC (t := 55) (g := []) (b := true) (fuel' := 4) 6 [] (default : Bytes) rfl (by kernel_rfl) (by kernel_rfl) (F41_ok K a0.fFinal ([70, 73, 78, 65, 76] : Bytes)) (fun _ => rfl) (fun r508 => ?_)
    refine RefX.evC (vs := [room ((([67, 76, 65, 83, 83, 32] : Bytes) ++ r507).length + r508.length), room (((([67, 76, 65, 83, 83, 32] : Bytes) ++ r507) ++ r508).length + a0.fName.length), room ((((([67, 76, 65, 83, 83, 32] : Bytes) ++ r507) ++ r508) ++ a0.fName).length + ([32] : Bytes).length)]) (st' := ⟨[sP 1 0 0 0, sS 6 ((((([67, 76, 65, 83, 83, 32] : Bytes) ++ r507) ++ r508) ++ a0.fName) ++ ([32] : Bytes))], [.cells (E48.cs a0)], [], 0⟩) (fuel' := 0) [7, 10, 11, 12] [1, 6] [0] rfl (by kernel_rfl) (by kernel_rfl) ?_
    refine RefX.letC (stf := fun x509 => ⟨[sP 1 0 0 0, sS 6 x509], [.cells (E48.cs a0)], [], 0⟩) (by kernel_rfl) (fun x509 => ?_)
    refine RefX.done (by kernel_rfl) ?_
    refine Ref.sq ?_
    refine Ref.sq ?_
    refine Ref.rn 12 ?_
    refine RefR.e0 (st' := ⟨[sP 1 0 0 0, sS 6 x509, sB 63 (!(a0.fBase == ([] : Bytes)))], [.cells (E48.cs a0)], [], 0⟩) 0 3 3 [1, 6, 63] [0] ?_
    refine RefR.nl 3 ?_
    refine Ref.bind (go1 := fun u511 => ⟨[sP 1 0 0 0, sS 6 u511], [.cells (E48.cs a0)], [], 0⟩) ?_ (fun u511 => ?_)
    ·
     refine Ref.cn (.tmp 63) (!(a0.fBase == ([] : Bytes))) (fun hc => ?_) (fun hc => ?_)
     ·
      refine Ref.rn 13 ?_
      refine RefR.evC (vs := [room (x509.length + ([69, 88, 84, 69, 78, 68, 83, 32] : Bytes).length), room ((x509 ++ ([69, 88, 84, 69, 78, 68, 83, 32] : Bytes)).length + a0.fBase.length), room (((x509 ++ ([69, 88, 84, 69, 78, 68, 83, 32] : Bytes)) ++ a0.fBase).length + ([32] : Bytes).length)]) (st' := ⟨[sP 1 0 0 0, sS 6 (((x509 ++ ([69, 88, 84, 69, 78, 68, 83, 32] : Bytes)) ++ a0.fBase) ++ ([32] : Bytes))], [.cells (E48.cs a0)], [], 0⟩) 0 7 7 [1, 6] [0] rfl (by kernel_rfl) ?_
      refine RefR.letC (stf := fun x512 => ⟨[sP 1 0 0 0, sS 6 x512], [.cells (E48.cs a0)], [], 0⟩) (by kernel_rfl) (fun x512 => ?_)
      refine RefR.nl 7 ?_
      exact Ref.n0 (t := (x512))
     ·
      refine Ref.sk ?_
      refine Ref.conv (Conv.keep (st' := ⟨[sP 1 0 0 0, sS 6 x509], [.cells (E48.cs a0)], [], 0⟩) [1, 6] [0] (by kernel_rfl)) ?_
      exact Ref.n0 (t := (x509))
    ·
     refine Ref.sq ?_
     refine Ref.sq ?_
     refine Ref.rn 14 ?_
     refine RefR.e0 (st' := ⟨[sP 1 0 0 0, sS 6 u511, sI 7 0], [.cells (E48.cs a0)], [], 0⟩) 0 1 1 [1, 6, 7] [0] ?_
     refine RefR.nl 1 ?_
     refine Ref.codeEq (c' := .block 3 (cd (bd Tryd.f22) [1, 0, 1, 0, 1, 1, 1, 0, 1, 1, 0, 1, 0])) (by kernel_rfl) ?_
     refine Ref.block (go1 := fun u546 => ⟨[sP 1 0 0 0, sS 6 u546], [.cells (E48.cs a0)], [], 0⟩) ?_ (fun a => match a with | .inl _ => (fun h => by cases h) | .inr _ => (fun h => by cases h)) (fun u546 => ?_)
     ·
      refine Ref.codeEq (c' := .loop (cd (bd Tryd.f22) [1, 0, 1, 0, 1, 1, 1, 0, 1, 1, 0, 1, 0, 0])) (by kernel_rfl) ?_
      refine Ref.loop (hd := fun u558 => ⟨[sP 1 0 0 0, sS 6 u558.1, sI 7 u558.2], [.cells (E48.cs a0)], [], 0⟩) K (u511, 0) (by kernel_rfl) (fun u558 => ?_)
      refine Ref.sq ?_
      refine Ref.sq ?_
      refine Ref.rn 15 ?_
      refine RefR.e0 (st' := ⟨[sP 1 0 0 0, sS 6 u558.1, sI 7 u558.2, sB 74 (decide ((u558.2 : Int) < (Int.ofNat a0.fFaces.length)))], [.cells (E48.cs a0)], [], 0⟩) 0 5 5 [1, 6, 7, 74] [0] ?_
      refine RefR.letC (stf := fun x570 => ⟨[sP 1 0 0 0, sS 6 u558.1, sI 7 u558.2, sB 74 x570], [.cells (E48.cs a0)], [], 0⟩) (by kernel_rfl) (fun x570 => ?_)
      refine RefR.nl 5 ?_
      refine Ref.cn (.tmp 74) x570 (fun hc => ?_) (fun hc => ?_)
      ·
       refine Ref.sk ?_
       refine Ref.sq ?_
       refine Ref.codeEq (c' := .block 4 (cd (bd Tryd.f22) [1, 0, 1, 0, 1, 1, 1, 0, 1, 1, 0, 1, 0, 0, 1, 0, 0])) (by kernel_rfl) ?_
       refine Ref.block (go1 := fun u575 => ⟨[sP 1 0 0 0, sS 6 u575, sI 7 u558.2], [.cells (E48.cs a0)], [], 0⟩) ?_ (fun a => match a with | .inl _ => (fun h => by cases h) | .inr (.inl _) => (fun h => by cases h) | .inr (.inr _) => (fun h => by cases h)) (fun u575 => ?_)
       ·
        refine Ref.sq ?_
        refine Ref.sq ?_
        refine Ref.rn 17 ?_
        refine RefR.e0 (st' := ⟨[sP 1 0 0 0, sS 6 u558.1, sI 7 u558.2, sB 78 ((u558.2 : Int) == 0)], [.cells (E48.cs a0)], [], 0⟩) 0 2 2 [1, 6, 7, 78] [0] ?_
        refine RefR.nl 2 ?_
        refine Ref.bind (go1 := fun u577 => ⟨[sP 1 0 0 0, sS 6 u577, sI 7 u558.2], [.cells (E48.cs a0)], [], 0⟩) ?_ (fun u577 => ?_)
        ·
         refine Ref.cn (.tmp 78) ((u558.2 : Int) == 0) (fun hc => ?_) (fun hc => ?_)
         ·
          refine Ref.rn 18 ?_
          refine RefR.evC (vs := [room (u558.1.length + ([73, 77, 80, 76, 69, 77, 69, 78, 84, 83, 32] : Bytes).length)]) (st' := ⟨[sP 1 0 0 0, sS 6 (u558.1 ++ ([73, 77, 80, 76, 69, 77, 69, 78, 84, 83, 32] : Bytes)), sI 7 u558.2], [.cells (E48.cs a0)], [], 0⟩) 0 3 3 [1, 6, 7] [0] rfl (by kernel_rfl) ?_
          refine RefR.letC (stf := fun x578 => ⟨[sP 1 0 0 0, sS 6 x578, sI 7 u558.2], [.cells (E48.cs a0)], [], 0⟩) (by kernel_rfl) (fun x578 => ?_)
          refine RefR.nl 3 ?_
          exact Ref.n0 (t := (x578))
         ·
          refine Ref.rn 19 ?_
          refine RefR.evC (vs := [room (u558.1.length + ([44, 32] : Bytes).length)]) (st' := ⟨[sP 1 0 0 0, sS 6 (u558.1 ++ ([44, 32] : Bytes)), sI 7 u558.2], [.cells (E48.cs a0)], [], 0⟩) 0 3 3 [1, 6, 7] [0] rfl (by kernel_rfl) ?_
          refine RefR.nl 3 ?_
          exact Ref.n0 (t := ((u558.1 ++ ([44, 32] : Bytes))))
        ·
         refine Ref.rn 20 ?_
         refine RefR.evC (vs := [inb u558.2 a0.fFaces.length, room (u577.length + (a0.fFaces.getD (u558.2 : Int).toNat default).length), room ((u577 ++ (a0.fFaces.getD (u558.2 : Int).toNat default)).length + ([32] : Bytes).length)]) (st' := ⟨[sP 1 0 0 0, sS 6 ((u577 ++ (a0.fFaces.getD (u558.2 : Int).toNat default)) ++ ([32] : Bytes)), sI 7 u558.2], [.cells (E48.cs a0)], [], 0⟩) 0 9 9 [1, 6, 7] [0] rfl (by kernel_rfl) ?_
         refine RefR.letC (stf := fun x579 => ⟨[sP 1 0 0 0, sS 6 x579, sI 7 u558.2], [.cells (E48.cs a0)], [], 0⟩) (by kernel_rfl) (fun x579 => ?_)
         refine RefR.nl 9 ?_
         exact Ref.n0 (t := (x579))
       ·
        refine Ref.rn 16 ?_
        refine RefR.e0 (st' := ⟨[sP 1 0 0 0, sS 6 u575, sI 7 (IntKind.i64.wrap (u558.2 + 1))], [.cells (E48.cs a0)], [], 0⟩) 0 3 3 [1, 6, 7] [0] ?_
        refine RefR.nl 3 ?_
        exact Ref.n0 (t := (u575, (IntKind.i64.wrap (u558.2 + 1))))
      ·
       refine Ref.conv (Conv.keep (st' := ⟨[sP 1 0 0 0, sS 6 u558.1], [.cells (E48.cs a0)], [], 0⟩) [1, 6] [0] (by kernel_rfl)) ?_
       exact Ref.xt 3 (t := (Sum.inl (u558.1)))
     ·
      refine Ref.sq ?_
      refine Ref.rn 21 ?_
      refine RefR.evC (vs := [room (u546.length + ([59, 32] : Bytes).length)]) (st' := ⟨[sP 1 0 0 0, sS 92 (u546 ++ ([59, 32] : Bytes)), (94, .c (E38.tree a0.fVars))], [.cells (E48.cs a0)], [], 0⟩) 0 4 4 [1, 92, 94] [0] rfl (by kernel_rfl) ?_
      refine RefR.callC (t := 95) 4 5 [] rfl (by kernel_rfl) (F42_ok K a0.fVars) (fun r580 => ?_)
      refine RefR.evC (vs := [room ((u546 ++ ([59, 32] : Bytes)).length + r580.length)]) (st' := ⟨[sP 1 0 0 0, sS 6 ((u546 ++ ([59, 32] : Bytes)) ++ r580)], [.cells (E48.cs a0)], [], 0⟩) 5 2 7 [1, 6] [0] rfl (by kernel_rfl) ?_
      refine RefR.nl 7 ?_
      refine Ref.sq ?_
      refine Ref.sq ?_
      refine Ref.rn 22 ?_
      refine RefR.e0 (st' := ⟨[sP 1 0 0 0, sS 6 ((u546 ++ ([59, 32] : Bytes)) ++ r580), sI 8 0], [.cells (E48.cs a0)], [], 0⟩) 0 1 1 [1, 6, 8] [0] ?_
      refine RefR.nl 1 ?_
      refine Ref.codeEq (c' := .block 5 (cd (bd Tryd.f22) [1, 0, 1, 0, 1, 1, 1, 0, 1, 1, 1, 1, 0, 1, 0])) (by kernel_rfl) ?_
      refine Ref.block (go1 := fun u698 => ⟨[sS 6 u698], [], [], 0⟩) ?_ (fun a => match a with | .inl _ => (fun h => by cases h) | .inr _ => (fun h => by cases h)) (fun u698 => ?_)
      ·
       refine Ref.codeEq (c' := .loop (cd (bd Tryd.f22) [1, 0, 1, 0, 1, 1, 1, 0, 1, 1, 1, 1, 0, 1, 0, 0])) (by kernel_rfl) ?_
       refine Ref.loop (hd := fun u738 => ⟨[sP 1 0 0 0, sS 6 u738.1, sI 8 u738.2], [.cells (E48.cs a0)], [], 0⟩) K (((u546 ++ ([59, 32] : Bytes)) ++ r580), 0) (by kernel_rfl) (fun u738 => ?_)
       refine Ref.sq ?_
       refine Ref.sq ?_
       refine Ref.rn 23 ?_
       refine RefR.e0 (st' := ⟨[sP 1 0 0 0, sS 6 u738.1, sI 8 u738.2, sB 101 (decide ((u738.2 : Int) < (Int.ofNat a0.fMethods.length)))], [.cells (E48.cs a0)], [], 0⟩) 0 5 5 [1, 6, 8, 101] [0] ?_
       refine RefR.letC (stf := fun x778 => ⟨[sP 1 0 0 0, sS 6 u738.1, sI 8 u738.2, sB 101 x778], [.cells (E48.cs a0)], [], 0⟩) (by kernel_rfl) (fun x778 => ?_)
       refine RefR.nl 5 ?_
       refine Ref.cn (.tmp 101) x778 (fun hc => ?_) (fun hc => ?_)
       ·
        refine Ref.sk ?_
        refine Ref.sq ?_
        refine Ref.codeEq (c' := .block 6 (cd (bd Tryd.f22) [1, 0, 1, 0, 1, 1, 1, 0, 1, 1, 1, 1, 0, 1, 0, 0, 1, 0, 0])) (by kernel_rfl) ?_
        refine Ref.block (go1 := fun u797 => ⟨[sP 1 0 0 0, sS 6 u797, sI 8 u738.2], [.cells (E48.cs a0)], [], 0⟩) ?_ (fun a => match a with | .inl _ => (fun h => by cases h) | .inr (.inl _) => (fun h => by cases h) | .inr (.inr _) => (fun h => by cases h)) (fun u797 => ?_)
        ·
         refine Ref.sq ?_
         refine Ref.rn 25 ?_
         refine RefR.evC (vs := [inb u738.2 a0.fMethods.length]) (st' := ⟨[sP 1 0 0 0, sS 6 u738.1, sI 8 u738.2, sP 9 1 0 0], [.cells (E48.cs a0), .cells (E54.cs (a0.fMethods.getD (u738.2 : Int).toNat default))], [], 0⟩) 0 7 7 [1, 6, 8, 9] [0, 1] rfl (by kernel_rfl) ?_
         refine RefR.nl 7 ?_
         refine Ref.drawnY 26 (by kernel_rfl) (by kernel_rfl) ?_
         refine RefY.evC (vs := [room (u738.1.length + ([77, 69, 84, 72, 79, 68, 32] : Bytes).length)]) (st' := ⟨[sP 1 0 0 0, sI 8 u738.2, sS 110 (u738.1 ++ ([77, 69, 84, 72, 79, 68, 32] : Bytes)), sP 111 1 0 1, sP 115 1 0 2, sP 119 1 0 3, sP 123 1 0 0, sP 127 1 0 4, sP 131 1 0 5, sP 136 1 0 9, sP 140 1 0 10], [.cells (E48.cs a0), .cells (E54.cs (a0.fMethods.getD (u738.2 : Int).toNat default))], [], 0⟩) (fuel' := 27) [0, 1, 2, 6, 10, 14, 18, 22, 27, 31] [1, 8, 110, 111, 115, 119, 123, 127, 131, 136, 140] [0, 1] rfl (by kernel_rfl) (by kernel_rfl) ?_
         refine RefY.letC (stf := fun x798 => ⟨[sP 1 0 0 0, sI 8 u738.2, sS 110 x798, sP 111 1 0 1, sP 115 1 0 2, sP 119 1 0 3, sP 123 1 0 0, sP 127 1 0 4, sP 131 1 0 5, sP 136 1 0 9, sP 140 1 0 10], [.cells (E48.cs a0), .cells (E54.cs (a0.fMethods.getD (u738.2 : Int).toNat default))], [], 0⟩) (by kernel_rfl) (fun x798 => ?_)
         refine RefY.toX [] ?_
         refine RefX.evC0 (st' := ⟨[sP 1 0 0 0, sI 8 u738.2, sS 110 x798, sB 112 ((a0.fMethods.getD (u738.2 : Int).toNat default).fOver), sB 116 ((a0.fMethods.getD (u738.2 : Int).toNat default).fAbstract), sB 120 ((a0.fMethods.getD (u738.2 : Int).toNat default).fFinal), sS 124 ((a0.fMethods.getD (u738.2 : Int).toNat default).fName), (128, .c (E38.tree ((a0.fMethods.getD (u738.2 : Int).toNat default).fParams))), (132, .agg (E29.cs ((a0.fMethods.getD (u738.2 : Int).toNat default).fResult))), (137, .c (E38.tree ((a0.fMethods.getD (u738.2 : Int).toNat default).fVars))), (141, .c (E43.tree ((a0.fMethods.getD (u738.2 : Int).toNat default).fBody)))], [.cells (E48.cs a0)], [], 0⟩) (fuel' := 19) [3, 7, 11, 15, 19, 23, 28, 32] [1, 8, 110, 112, 116, 120, 124, 128, 132, 137, 141] [0] rfl (by kernel_rfl) (by kernel_rfl) ?_
         refine RefX.letC (stf := fun x799 => ⟨[sP 1 0 0 0, sI 8 u738.2, sS 110 x798, sB 112 x799, sB 116 ((a0.fMethods.getD (u738.2 : Int).toNat default).fAbstract), sB 120 ((a0.fMethods.getD (u738.2 : Int).toNat default).fFinal), sS 124 ((a0.fMethods.getD (u738.2 : Int).toNat default).fName), (128, .c (E38.tree ((a0.fMethods.getD (u738.2 : Int).toNat default).fParams))), (132, .agg (E29.cs ((a0.fMethods.getD (u738.2 : Int).toNat default).fResult))), (137, .c (E38.tree ((a0.fMethods.getD (u738.2 : Int).toNat default).fVars))), (141, .c (E43.tree ((a0.fMethods.getD (u738.2 : Int).toNat default).fBody)))], [.cells (E48.cs a0)], [], 0⟩) (by kernel_rfl) (fun x799 => ?_)
         refine RefX.letC (stf := fun x800 => ⟨[sP 1 0 0 0, sI 8 u738.2, sS 110 x798, sB 112 x799, sB 116 x800, sB 120 ((a0.fMethods.getD (u738.2 : Int).toNat default).fFinal), sS 124 ((a0.fMethods.getD (u738.2 : Int).toNat default).fName), (128, .c (E38.tree ((a0.fMethods.getD (u738.2 : Int).toNat default).fParams))), (132, .agg (E29.cs ((a0.fMethods.getD (u738.2 : Int).toNat default).fResult))), (137, .c (E38.tree ((a0.fMethods.getD (u738.2 : Int).toNat default).fVars))), (141, .c (E43.tree ((a0.fMethods.getD (u738.2 : Int).toNat default).fBody)))], [.cells (E48.cs a0)], [], 0⟩) (by kernel_rfl) (fun x800 => ?_)
         refine RefX.letC (stf := fun x801 => ⟨[sP 1 0 0 0, sI 8 u738.2, sS 110 x798, sB 112 x799, sB 116 x800, sB 120 x801, sS 124 ((a0.fMethods.getD (u738.2 : Int).toNat default).fName), (128, .c (E38.tree ((a0.fMethods.getD (u738.2 : Int).toNat default).fParams))), (132, .agg (E29.cs ((a0.fMethods.getD (u738.2 : Int).toNat default).fResult))), (137, .c (E38.tree ((a0.fMethods.getD (u738.2 : Int).toNat default).fVars))), (141, .c (E43.tree ((a0.fMethods.getD (u738.2 : Int).toNat default).fBody)))], [.cells (E48.cs a0)], [], 0⟩) (by kernel_rfl) (fun x801 => ?_)
         refine RefX.letC (stf := fun x802 => ⟨[sP 1 0 0 0, sI 8 u738.2, sS 110 x798, sB 112 x799, sB 116 x800, sB 120 x801, sS 124 x802, (128, .c (E38.tree ((a0.fMethods.getD (u738.2 : Int).toNat default).fParams))), (132, .agg (E29.cs ((a0.fMethods.getD (u738.2 : Int).toNat default).fResult))), (137, .c (E38.tree ((a0.fMethods.getD (u738.2 : Int).toNat default).fVars))), (141, .c (E43.tree ((a0.fMethods.getD (u738.2 : Int).toNat default).fBody)))], [.cells (E48.cs a0)], [], 0⟩) (by kernel_rfl) (fun x802 => ?_)
         refine RefX.letC (stf := fun x803 => ⟨[sP 1 0 0 0, sI 8 u738.2, sS 110 x798, sB 112 x799, sB 116 x800, sB 120 x801, sS 124 x802, (128, .c (E38.tree x803)), (132, .agg (E29.cs ((a0.fMethods.getD (u738.2 : Int).toNat default).fResult))), (137, .c (E38.tree ((a0.fMethods.getD (u738.2 : Int).toNat default).fVars))), (141, .c (E43.tree ((a0.fMethods.getD (u738.2 : Int).toNat default).fBody)))], [.cells (E48.cs a0)], [], 0⟩) (by kernel_rfl) (fun x803 => ?_)
         refine RefX.letC (stf := fun x804 => ⟨[sP 1 0 0 0, sI 8 u738.2, sS 110 x798, sB 112 x799, sB 116 x800, sB 120 x801, sS 124 x802, (128, .c (E38.tree x803)), (132, .agg (E29.cs ((a0.fMethods.getD (u738.2 : Int).toNat default).fResult))), (137, .c (E38.tree x804)), (141, .c (E43.tree ((a0.fMethods.getD (u738.2 : Int).toNat default).fBody)))], [.cells (E48.cs a0)], [], 0⟩) (by kernel_rfl) (fun x804 => ?_)
         refine RefX.letC (stf := fun x805 => ⟨[sP 1 0 0 0, sI 8 u738.2, sS 110 x798, sB 112 x799, sB 116 x800, sB 120 x801, sS 124 x802, (128, .c (E38.tree x803)), (132, .agg (E29.cs ((a0.fMethods.getD (u738.2 : Int).toNat default).fResult))), (137, .c (E38.tree x804)), (141, .c (E43.tree x805))], [.cells (E48.cs a0)], [], 0⟩) (by kernel_rfl) (fun x805 => ?_)
         refine RefX.lookC (t := 113) (g := []) (b := true) (fuel' := 18) 4 [] (default : Bytes) rfl (by kernel_rfl) (by kernel_rfl) (F41_ok K x799 ([79, 86, 69, 82, 82, 73, 68, 69] : Bytes)) (fun _ => rfl) (fun r806 => ?_)
         refine RefX.evC (vs := [room (x798.length + r806.length)]) (st' := ⟨[sP 1 0 0 0, sI 8 u738.2, sS 114 (x798 ++ r806), sB 116 x800, sB 120 x801, sS 124 x802, (128, .c (E38.tree x803)), (132, .agg (E29.cs ((a0.fMethods.getD (u738.2 : Int).toNat default).fResult))), (137, .c (E38.tree x804)), (141, .c (E43.tree x805))], [.cells (E48.cs a0)], [], 0⟩) (fuel' := 17) [5] [1, 8, 114, 116, 120, 124, 128, 132, 137, 141] [0] rfl (by kernel_rfl) (by kernel_rfl) ?_
         refine RefX.lookC (t := 117) (g := []) (b := true) (fuel' := 16) 8 [] (default : Bytes) rfl (by kernel_rfl) (by kernel_rfl) (F41_ok K x800 ([65, 66, 83, 84, 82, 65, 67, 84] : Bytes)) (fun _ => rfl) (fun r807 => ?_)
         refine RefX.evC (vs := [room ((x798 ++ r806).length + r807.length)]) (st' := ⟨[sP 1 0 0 0, sI 8 u738.2, sS 118 ((x798 ++ r806) ++ r807), sB 120 x801, sS 124 x802, (128, .c (E38.tree x803)), (132, .agg (E29.cs ((a0.fMethods.getD (u738.2 : Int).toNat default).fResult))), (137, .c (E38.tree x804)), (141, .c (E43.tree x805))], [.cells (E48.cs a0)], [], 0⟩) (fuel' := 15) [9] [1, 8, 118, 120, 124, 128, 132, 137, 141] [0] rfl (by kernel_rfl) (by kernel_rfl) ?_
         refine RefX.lookC (t := 121) (g := []) (b := true) (fuel' := 14) 12 [] (default : Bytes) rfl (by kernel_rfl) (by kernel_rfl) (F41_ok K x801 ([70, 73, 78, 65, 76] : Bytes)) (fun _ => rfl) (fun r808 => ?_)
         refine RefX.evC (vs := [room (((x798 ++ r806) ++ r807).length + r808.length), room ((((x798 ++ r806) ++ r807) ++ r808).length + x802.length), room (((((x798 ++ r806) ++ r807) ++ r808) ++ x802).length + ([32] : Bytes).length)]) (st' := ⟨[sP 1 0 0 0, sI 8 u738.2, sS 126 (((((x798 ++ r806) ++ r807) ++ r808) ++ x802) ++ ([32] : Bytes)), (128, .c (E38.tree x803)), (132, .agg (E29.cs ((a0.fMethods.getD (u738.2 : Int).toNat default).fResult))), (137, .c (E38.tree x804)), (141, .c (E43.tree x805))], [.cells (E48.cs a0)], [], 0⟩) (fuel' := 11) [13, 16, 17] [1, 8, 126, 128, 132, 137, 141] [0] rfl (by kernel_rfl) (by kernel_rfl) ?_
         refine RefX.letC (stf := fun x809 => ⟨[sP 1 0 0 0, sI 8 u738.2, sS 126 x809, (128, .c (E38.tree x803)), (132, .agg (E29.cs ((a0.fMethods.getD (u738.2 : Int).toNat default).fResult))), (137, .c (E38.tree x804)), (141, .c (E43.tree x805))], [.cells (E48.cs a0)], [], 0⟩) (by kernel_rfl) (fun x809 => ?_)
         refine RefX.lookC (t := 129) (g := []) (b := true) (fuel' := 10) 20 [] (default : Bytes) rfl (by kernel_rfl) (by kernel_rfl) (F39_ok K x803) (fun _ => rfl) (fun r810 => ?_)
         refine RefX.evC (vs := [room (x809.length + r810.length)]) (st' := ⟨[sP 1 0 0 0, sI 8 u738.2, sS 130 (x809 ++ r810), (132, .agg (E29.cs ((a0.fMethods.getD (u738.2 : Int).toNat default).fResult))), (137, .c (E38.tree x804)), (141, .c (E43.tree x805))], [.cells (E48.cs a0)], [], 0⟩) (fuel' := 9) [21] [1, 8, 130, 132, 137, 141] [0] rfl (by kernel_rfl) (by kernel_rfl) ?_
         refine RefX.lookC (t := 133) (g := []) (b := true) (fuel' := 8) 24 [] (default : Bytes) rfl (by kernel_rfl) (by kernel_rfl) (F40_ok K ((a0.fMethods.getD (u738.2 : Int).toNat default).fResult)) (fun _ => rfl) (fun r811 => ?_)
         refine RefX.evC (vs := [room ((x809 ++ r810).length + r811.length), room (((x809 ++ r810) ++ r811).length + ([32, 59, 32] : Bytes).length)]) (st' := ⟨[sP 1 0 0 0, sI 8 u738.2, sS 135 (((x809 ++ r810) ++ r811) ++ ([32, 59, 32] : Bytes)), (137, .c (E38.tree x804)), (141, .c (E43.tree x805))], [.cells (E48.cs a0)], [], 0⟩) (fuel' := 6) [25, 26] [1, 8, 135, 137, 141] [0] rfl (by kernel_rfl) (by kernel_rfl) ?_
         refine RefX.letC (stf := fun x812 => ⟨[sP 1 0 0 0, sI 8 u738.2, sS 135 x812, (137, .c (E38.tree x804)), (141, .c (E43.tree x805))], [.cells (E48.cs a0)], [], 0⟩) (by kernel_rfl) (fun x812 => ?_)
         refine RefX.lookC (t := 138) (g := []) (b := true) (fuel' := 5) 29 [] (default : Bytes) rfl (by kernel_rfl) (by kernel_rfl) (F42_ok K x804) (fun _ => rfl) (fun r813 => ?_)
         refine RefX.evC (vs := [room (x812.length + r813.length)]) (st' := ⟨[sP 1 0 0 0, sI 8 u738.2, sS 139 (x812 ++ r813), (141, .c (E43.tree x805))], [.cells (E48.cs a0)], [], 0⟩) (fuel' := 4) [30] [1, 8, 139, 141] [0] rfl (by kernel_rfl) (by kernel_rfl) ?_
         refine RefX.lookC (t := 142) (g := []) (b := true) (fuel' := 3) 33 [] (default : Bytes) rfl (by kernel_rfl) (by kernel_rfl) (F43_ok K x805) (fun _ => rfl) (fun r814 => ?_)
         refine RefX.evC (vs := [room ((x812 ++ r813).length + r814.length), room (((x812 ++ r813) ++ r814).length + ([69, 78, 68, 95, 77, 69, 84, 72, 79, 68, 32] : Bytes).length)]) (st' := ⟨[sP 1 0 0 0, sS 6 (((x812 ++ r813) ++ r814) ++ ([69, 78, 68, 95, 77, 69, 84, 72, 79, 68, 32] : Bytes)), sI 8 u738.2], [.cells (E48.cs a0)], [], 0⟩) (fuel' := 0) [34, 35, 36] [1, 6, 8] [0] rfl (by kernel_rfl) (by kernel_rfl) ?_
         refine RefX.letC (stf := fun x815 => ⟨[sP 1 0 0 0, sS 6 x815, sI 8 u738.2], [.cells (E48.cs a0)], [], 0⟩) (by kernel_rfl) (fun x815 => ?_)
         refine RefX.done (by kernel_rfl) ?_
         exact Ref.n0 (t := (x815))
        ·
         refine Ref.rn 24 ?_
         refine RefR.e0 (st' := ⟨[sP 1 0 0 0, sS 6 u797, sI 8 (IntKind.i64.wrap (u738.2 + 1))], [.cells (E48.cs a0)], [], 0⟩) 0 3 3 [1, 6, 8] [0] ?_
         refine RefR.nl 3 ?_
         exact Ref.n0 (t := (u797, (IntKind.i64.wrap (u738.2 + 1))))
       ·
        refine Ref.conv (Conv.keep (st' := ⟨[sS 6 u738.1], [], [], 0⟩) [6] [] (by kernel_rfl)) ?_
        exact Ref.xt 5 (t := (Sum.inl (u738.1)))
      ·
       refine Ref.sq ?_
       refine Ref.rn 27 ?_
       refine RefR.evC (vs := [room (u698.length + ([69, 78, 68, 95, 67, 76, 65, 83, 83] : Bytes).length)]) (st' := ⟨[sS 2 (u698 ++ ([69, 78, 68, 95, 67, 76, 65, 83, 83] : Bytes))], [], [], 0⟩) 0 3 3 [2] [] rfl (by kernel_rfl) ?_
       refine RefR.letC (stf := fun x816 => ⟨[sS 2 x816], [], [], 0⟩) (by kernel_rfl) (fun x816 => ?_)
       refine RefR.nl 3 ?_
       exact Ref.rt (t := (Sum.inr (x816)))
   ·
    refine Ref.sq ?_
    refine Ref.rn 28 ?_
    refine RefR.e0 (st' := ⟨[sP 1 0 0 0, sI 11 a0.fKind, sB 147 ((a0.fKind : Int) == 3)], [.cells (E48.cs a0)], [], 0⟩) 0 2 2 [1, 11, 147] [0] ?_
    refine RefR.nl 2 ?_
    refine Ref.cn (.tmp 147) ((a0.fKind : Int) == 3) (fun hc => ?_) (fun hc => ?_)
    ·
     refine Ref.sq ?_
     refine Ref.drawnY 29 (by kernel_rfl) (by kernel_rfl) ?_
     refine RefY.evC0 (st' := ⟨[sP 149 0 0 1, sP 153 0 0 6, sP 157 0 0 8], [.cells (E48.cs a0)], [], 0⟩) (fuel' := 11) [0, 4, 8] [149, 153, 157] [0] rfl (by kernel_rfl) (by kernel_rfl) ?_
     refine RefY.toX [] ?_
     refine RefX.evC (vs := [room (([80, 82, 79, 71, 82, 65, 77, 32] : Bytes).length + a0.fName.length), room ((([80, 82, 79, 71, 82, 65, 77, 32] : Bytes) ++ a0.fName).length + ([32, 59, 32] : Bytes).length)]) (st' := ⟨[sS 152 ((([80, 82, 79, 71, 82, 65, 77, 32] : Bytes) ++ a0.fName) ++ ([32, 59, 32] : Bytes)), (154, .c (E38.tree a0.fVars)), (158, .c (E43.tree a0.fBody))], [], [], 0⟩) (fuel' := 6) [1, 2, 3, 5, 9] [152, 154, 158] [] rfl (by kernel_rfl) (by kernel_rfl) ?_
     refine RefX.letC (stf := fun x817 => ⟨[sS 152 x817, (154, .c (E38.tree a0.fVars)), (158, .c (E43.tree a0.fBody))], [], [], 0⟩) (by kernel_rfl) (fun x817 => ?_)
     refine RefX.lookC (t := 155) (g := []) (b := true) (fuel' := 5) 6 [] (default : Bytes) rfl (by kernel_rfl) (by kernel_rfl) (F42_ok K a0.fVars) (fun _ => rfl) (fun r818 => ?_)
     refine RefX.evC (vs := [room (x817.length + r818.length)]) (st' := ⟨[sS 156 (x817 ++ r818), (158, .c (E43.tree a0.fBody))], [], [], 0⟩) (fuel' := 4) [7] [156, 158] [] rfl (by kernel_rfl) (by kernel_rfl) ?_
     refine RefX.lookC (t := 159) (g := []) (b := true) (fuel' := 3) 10 [] (default : Bytes) rfl (by kernel_rfl) (by kernel_rfl) (F43_ok K a0.fBody) (fun _ => rfl) (fun r819 => ?_)
     refine RefX.evC (vs := [room ((x817 ++ r818).length + r819.length), room (((x817 ++ r818) ++ r819).length + ([69, 78, 68, 95, 80, 82, 79, 71, 82, 65, 77] : Bytes).length)]) (st' := ⟨[sS 2 (((x817 ++ r818) ++ r819) ++ ([69, 78, 68, 95, 80, 82, 79, 71, 82, 65, 77] : Bytes))], [], [], 0⟩) (fuel' := 0) [11, 12, 13] [2] [] rfl (by kernel_rfl) (by kernel_rfl) ?_
     refine RefX.letC (stf := fun x820 => ⟨[sS 2 x820], [], [], 0⟩) (by kernel_rfl) (fun x820 => ?_)
     refine RefX.done (by kernel_rfl) ?_
     exact Ref.rt (t := (Sum.inr (x820)))
    ·
     refine Ref.sq ?_
     refine Ref.rn 30 ?_
     refine RefR.e0 (st' := ⟨[sP 1 0 0 0, sB 162 ((a0.fKind : Int) == 4)], [.cells (E48.cs a0)], [], 0⟩) 0 2 2 [1, 162] [0] ?_
     refine RefR.nl 2 ?_
     refine Ref.cn (.tmp 162) ((a0.fKind : Int) == 4) (fun hc => ?_) (fun hc => ?_)
     ·
      refine Ref.sq ?_
      refine Ref.drawnY 31 (by kernel_rfl) (by kernel_rfl) ?_
      refine RefY.evC0 (st' := ⟨[sP 164 0 0 1, sP 168 0 0 9, sP 173 0 0 10, sP 178 0 0 2], [.cells (E48.cs a0)], [], 0⟩) (fuel' := 15) [0, 4, 9, 14] [164, 168, 173, 178] [0] rfl (by kernel_rfl) (by kernel_rfl) ?_
      refine RefY.toX [] ?_
      refine RefX.evC (vs := [room (([84, 65, 83, 75, 32] : Bytes).length + a0.fName.length), room ((([84, 65, 83, 75, 32] : Bytes) ++ a0.fName).length + ([32, 40, 32, 73, 78, 84, 69, 82, 86, 65, 76, 32] : Bytes).length)]) (st' := ⟨[sS 167 ((([84, 65, 83, 75, 32] : Bytes) ++ a0.fName) ++ ([32, 40, 32, 73, 78, 84, 69, 82, 86, 65, 76, 32] : Bytes)), sI 169 a0.fEvery, sI 174 a0.fFirst, sS 179 a0.fBase], [], [], 0⟩) (fuel' := 9) [1, 2, 3, 5, 10, 15] [167, 169, 174, 179] [] rfl (by kernel_rfl) (by kernel_rfl) ?_
      refine RefX.letC (stf := fun x821 => ⟨[sS 167 x821, sI 169 a0.fEvery, sI 174 a0.fFirst, sS 179 a0.fBase], [], [], 0⟩) (by kernel_rfl) (fun x821 => ?_)
      refine RefX.lookC (t := 170) (g := []) (b := true) (fuel' := 8) 6 [] (default : Bytes) rfl (by kernel_rfl) (by kernel_rfl) (F24_ok K a0.fEvery) (fun _ => rfl) (fun r822 => ?_)
      refine RefX.evC (vs := [room (x821.length + r822.length), room ((x821 ++ r822).length + ([32, 44, 32, 80, 82, 73, 79, 82, 73, 84, 89, 32] : Bytes).length)]) (st' := ⟨[sS 172 ((x821 ++ r822) ++ ([32, 44, 32, 80, 82, 73, 79, 82, 73, 84, 89, 32] : Bytes)), sI 174 a0.fFirst, sS 179 a0.fBase], [], [], 0⟩) (fuel' := 6) [7, 8] [172, 174, 179] [] rfl (by kernel_rfl) (by kernel_rfl) ?_
      refine RefX.letC (stf := fun x823 => ⟨[sS 172 x823, sI 174 a0.fFirst, sS 179 a0.fBase], [], [], 0⟩) (by kernel_rfl) (fun x823 => ?_)
      refine RefX.lookC (t := 175) (g := []) (b := true) (fuel' := 5) 11 [] (default : Bytes) rfl (by kernel_rfl) (by kernel_rfl) (F24_ok K a0.fFirst) (fun _ => rfl) (fun r824 => ?_)
      refine RefX.evC (vs := [room (x823.length + r824.length), room ((x823 ++ r824).length + ([32, 41, 32, 58, 32] : Bytes).length), room (((x823 ++ r824) ++ ([32, 41, 32, 58, 32] : Bytes)).length + a0.fBase.length), room ((((x823 ++ r824) ++ ([32, 41, 32, 58, 32] : Bytes)) ++ a0.fBase).length + ([32, 59] : Bytes).length)]) (st' := ⟨[sS 2 ((((x823 ++ r824) ++ ([32, 41, 32, 58, 32] : Bytes)) ++ a0.fBase) ++ ([32, 59] : Bytes))], [], [], 0⟩) (fuel' := 0) [12, 13, 16, 17, 18] [2] [] rfl (by kernel_rfl) (by kernel_rfl) ?_
      refine RefX.letC (stf := fun x825 => ⟨[sS 2 x825], [], [], 0⟩) (by kernel_rfl) (fun x825 => ?_)
      refine RefX.done (by kernel_rfl) ?_
      exact Ref.rt (t := (Sum.inr (x825)))
     ·
      refine Ref.sk ?_
      refine Ref.conv (Conv.keep (st' := ⟨[], [], [], 0⟩) [] [] (by kernel_rfl)) ?_
      exact Ref.n0 (t := ())
 ·
  refine Ref.sq ?_
  refine Ref.rn 32 ?_
  refine RefR.e0 (st' := ⟨[sS 2 ([63] : Bytes)], [], [], 0⟩) 0 1 1 [2] [] ?_
  refine RefR.nl 1 ?_
  exact Ref.rt (t := (([63] : Bytes)))

/-- governor/governorref5.Unit -/
def F9 (K : Nat) (a0 : S24) : Option ((Bytes) ⊕ (Bytes)) :=
 (bindS (blockS ((iter K (fun (u22 : (List UInt8) × Int) => (letV (decide ((u22.2 : Int) < (Int.ofNat a0.fDecls.length))) (fun (x28 : Bool) => (if x28 = true then (bindS (blockS (chk [inb u22.2 a0.fDecls.length] ((fnS (F22 K (a0.fDecls.getD (u22.2 : Int).toNat default))).bind (fun r31 => (chk [room ((u22.1.length + r31.length) * 1)] (chk [room ((((u22.1 ++ r31).length) + ([10].length)) * 1)] (some (.inr (((u22.1 ++ r31) ++ [10])))))))))) (fun (u30 : (List UInt8)) => (some (.inr (u30, (IntKind.i64.wrap (u22.2 + 1))))))) else (some (.inl (Sum.inl (u22.1)))))))) ([], 0)).map .inl)) (fun (u16 : (List UInt8)) => (some (.inl (u16)))))

theorem F9_ok (K : Nat) (a0 : S24) : DFun Tryd.prog 9 [.agg (E24.cs a0)] [] (fnS (F9 K a0)) (fun r => .c (.str r)) (fun r => []) := by
 refine DFun.intro (fn := Tryd.f9) (c := cd (bd Tryd.f9) []) (rs := fun r => ⟨[sS 2 r], [], [], 0⟩) (by kernel_rfl) (by kernel_rfl) (by kernel_rfl) ?_ (fun r => by kernel_rfl) (fun r => by kernel_rfl) (fun r => by kernel_rfl) (fun r => by kernel_rfl)
 unfold F9
 refine Ref.sq ?_
 refine Ref.rn 0 ?_
 refine RefR.e0 (st' := ⟨[sP 1 0 0 0], [.cells (E24.cs a0)], [], 0⟩) 0 2 2 [1] [0] ?_
 refine RefR.nl 2 ?_
 refine Ref.sq ?_
 refine Ref.rn 1 ?_
 refine RefR.e0 (st' := ⟨[sP 1 0 0 0, (3, .c (.nil))], [.cells (E24.cs a0)], [], 0⟩) 0 1 1 [1, 3] [0] ?_
 refine RefR.nl 1 ?_
 refine Ref.sq ?_
 refine Ref.sq ?_
 refine Ref.rn 2 ?_
 refine RefR.e0 (st' := ⟨[sP 1 0 0 0, (3, .c (.nil)), sI 4 0], [.cells (E24.cs a0)], [], 0⟩) 0 1 1 [1, 3, 4] [0] ?_
 refine RefR.nl 1 ?_
 refine Ref.codeEq (c' := .block 0 (cd (bd Tryd.f9) [1, 1, 0, 1, 0])) (by kernel_rfl) ?_
 refine Ref.block (go1 := fun u16 => ⟨[(3, .c (.own 0 u16.length))], [E5.row u16], [], 0⟩) ?_ (fun _ h => by cases h) (fun u16 => ?_)
 ·
  refine Ref.codeEq (c' := .loop (cd (bd Tryd.f9) [1, 1, 0, 1, 0, 0])) (by kernel_rfl) ?_
  refine Ref.conv (Conv.adopt 3 E5.ty E5.w (E5.at []) (by kernel_rfl) (by kernel_rfl) (by kernel_rfl)) ?_
  refine Ref.conv (Conv.keep (st' := ⟨[sP 1 0 0 0, (3, .c (.own 1 0)), sI 4 0], [.cells (E24.cs a0), E5.row []], [], 0⟩) [1, 3, 4] [0, 1] (by kernel_rfl)) ?_
  refine Ref.loop (hd := fun u22 => ⟨[sP 1 0 0 0, (3, .c (.own 1 u22.1.length)), sI 4 u22.2], [.cells (E24.cs a0), E5.row u22.1], [], 0⟩) K ([], 0) (by kernel_rfl) (fun u22 => ?_)
  refine Ref.sq ?_
  refine Ref.sq ?_
  refine Ref.rn 3 ?_
  refine RefR.e0 (st' := ⟨[sP 1 0 0 0, (3, .c (.own 1 u22.1.length)), sI 4 u22.2, sB 9 (decide ((u22.2 : Int) < (Int.ofNat a0.fDecls.length)))], [.cells (E24.cs a0), E5.row u22.1], [], 0⟩) 0 5 5 [1, 3, 4, 9] [0, 1] ?_
  refine RefR.letC (stf := fun x28 => ⟨[sP 1 0 0 0, (3, .c (.own 1 u22.1.length)), sI 4 u22.2, sB 9 x28], [.cells (E24.cs a0), E5.row u22.1], [], 0⟩) (by kernel_rfl) (fun x28 => ?_)
  refine RefR.nl 5 ?_
  refine Ref.cn (.tmp 9) x28 (fun hc => ?_) (fun hc => ?_)
  ·
   refine Ref.sk ?_
   refine Ref.sq ?_
   refine Ref.codeEq (c' := .block 1 (cd (bd Tryd.f9) [1, 1, 0, 1, 0, 0, 1, 0, 0])) (by kernel_rfl) ?_
   refine Ref.block (go1 := fun u30 => ⟨[sP 1 0 0 0, (3, .c (.own 1 u30.length)), sI 4 u22.2], [.cells (E24.cs a0), E5.row u30], [], 0⟩) ?_ (fun a => match a with | .inl _ => (fun h => by cases h) | .inr _ => (fun h => by cases h)) (fun u30 => ?_)
   ·
    refine Ref.rn 5 ?_
    refine RefR.evC (vs := [inb u22.2 a0.fDecls.length]) (st' := ⟨[sP 1 0 0 0, sI 4 u22.2, (12, .c (.own 1 u22.1.length)), (17, .agg (E48.cs (a0.fDecls.getD (u22.2 : Int).toNat default)))], [.cells (E24.cs a0), E5.row u22.1], [], 0⟩) 0 6 6 [1, 4, 12, 17] [0, 1] rfl (by kernel_rfl) ?_
    refine RefR.callC (t := 18) 6 7 [] rfl (by kernel_rfl) (F22_ok K (a0.fDecls.getD (u22.2 : Int).toNat default)) (fun r31 => ?_)
    refine RefR.evC (vs := [room ((u22.1.length + r31.length) * 1)]) (st' := ⟨[sP 1 0 0 0, sI 4 u22.2, (19, .c (.own 1 (u22.1.length + r31.length)))], [.cells (E24.cs a0), .row 5 1 (u22.1.length + r31.length) fun i j => bif Nat.blt i u22.1.length then E5.at u22.1 i j else (fun i _ => .val (.int .u8 (r31.getD i 0).toNat)) (i - u22.1.length) j], [], 0⟩) 7 1 8 [1, 4, 19] [0, 2] rfl (by kernel_rfl) ?_
    refine RefR.conv (Conv.obj 1 (E5.row (u22.1 ++ r31)) (El.row_append_str E5 rfl u22.1 r31 rfl) (by kernel_rfl)) ?_
    refine RefR.conv (Conv.slot 19 (.c (.own 1 ((u22.1 ++ r31).length))) (DLe.c (CLe.own (by simp <;> omega))) (by kernel_rfl)) ?_
    refine RefR.e0 (st' := ⟨[sP 1 0 0 0, sI 4 u22.2, (19, .c (.own 1 ((u22.1 ++ r31).length))), (20, .c (.own 2 1))], [.cells (E24.cs a0), E5.row (u22.1 ++ r31), .row 5 1 1 (tbl [[.val (.int .u8 (Int.ofNat (10 : UInt8).toNat))]])], [], 0⟩) 8 1 9 [1, 4, 19, 20] [0, 1, 2] ?_
    refine RefR.conv (Conv.obj 2 (E5.row [10]) (El.row_build E5 [10] rfl (by kernel_rfl)) (by kernel_rfl)) ?_
    refine RefR.conv (Conv.slot 20 (.c (.own 2 ([10].length))) (DLe.c (CLe.own (by simp <;> omega))) (by kernel_rfl)) ?_
    refine RefR.evC (vs := [room ((((u22.1 ++ r31).length) + ([10].length)) * 1)]) (st' := ⟨[sP 1 0 0 0, sI 4 u22.2, (21, .c (.own 1 (((u22.1 ++ r31).length) + ([10].length))))], [.cells (E24.cs a0), .row 5 1 (((u22.1 ++ r31).length) + ([10].length)) fun i j => bif Nat.blt i ((u22.1 ++ r31).length) then E5.at (u22.1 ++ r31) i j else (E5.at [10]) (i - ((u22.1 ++ r31).length)) j], [], 0⟩) 9 1 10 [1, 4, 21] [0, 3] rfl (by kernel_rfl) ?_
    refine RefR.conv (Conv.obj 1 (E5.row ((u22.1 ++ r31) ++ [10])) (El.row_append E5 (u22.1 ++ r31) [10] rfl rfl) (by kernel_rfl)) ?_
    refine RefR.conv (Conv.slot 21 (.c (.own 1 (((u22.1 ++ r31) ++ [10]).length))) (DLe.c (CLe.own (by simp <;> omega))) (by kernel_rfl)) ?_
    refine RefR.e0 (st' := ⟨[sP 1 0 0 0, (3, .c (.own 1 (((u22.1 ++ r31) ++ [10]).length))), sI 4 u22.2], [.cells (E24.cs a0), E5.row ((u22.1 ++ r31) ++ [10])], [], 0⟩) 10 1 11 [1, 3, 4] [0, 1] ?_
    refine RefR.nl 11 ?_
    exact Ref.n0 (t := (((u22.1 ++ r31) ++ [10])))
   ·
    refine Ref.rn 4 ?_
    refine RefR.e0 (st' := ⟨[sP 1 0 0 0, (3, .c (.own 1 u30.length)), sI 4 (IntKind.i64.wrap (u22.2 + 1))], [.cells (E24.cs a0), E5.row u30], [], 0⟩) 0 3 3 [1, 3, 4] [0, 1] ?_
    refine RefR.nl 3 ?_
    exact Ref.n0 (t := (u30, (IntKind.i64.wrap (u22.2 + 1))))
  ·
   refine Ref.conv (Conv.keep (st' := ⟨[(3, .c (.own 0 u22.1.length))], [E5.row u22.1], [], 0⟩) [3] [1] (by kernel_rfl)) ?_
   exact Ref.xt 0 (t := (Sum.inl (u22.1)))
 ·
  refine Ref.sq ?_
  refine Ref.rn 6 ?_
  refine RefR.e0 (st' := ⟨[(22, .c (.own 0 u16.length))], [E5.row u16], [], 0⟩) 0 1 1 [22] [0] ?_
  refine RefR.bytesStr (t := 23) (d := .c (.own 0 u16.length)) 1 2 u16 (by kernel_rfl) (by kernel_rfl) (isBytes.own 0 5 (by kernel_rfl) (by kernel_rfl)) ?_
  refine RefR.e0 (st' := ⟨[sS 2 u16], [], [], 0⟩) 2 1 3 [2] [] ?_
  refine RefR.nl 3 ?_
  exact Ref.rt (t := (u16))

end Go.Proofs.YtaoklnkjcobokaaDoor
