/- Plain functions, and that the Go functions do what these do: printed by gen2.py. No conditions. -/
import Derived.Test.YtphnfaabcnciiaaGreatDoorGc
import Derived.Test.YtphnfaabcnciiaaGreatDoorProg
set_option linter.unusedVariables false
set_option linter.unusedSimpArgs false
set_option linter.unusedSectionVars false
namespace Go.Proofs.YtphnfaabcnciiaaGreatDoor
open Go Go.Proofs Go.Dl
variable [WInv]
set_option maxRecDepth 100000
set_option maxHeartbeats 4000000
def F110 (K : Nat) (a0 : S65) : Option (((List S118) × S65) ⊕ ((List S118) × S65)) :=
 ((fnS (F93 K a0 ([[40]] : List Bytes))).bind (fun r1 => ((fnS (F39 K r1 ([41] : Bytes))).bind (fun r2 => (if r2.1 = true then (some (.inl ([], r2.2))) else (bindS (blockS ((iter K (fun (u76 : S65 × (List S118) × Bool) => ((condM u76.2.2 (fnS (F21 K u76.1)) default).bind (fun r95 => (if (u76.2.2 && r95) = true then (bindS (blockS ((condM true (fnS (F69 K u76.1 1)) default).bind (fun r104 => (bindS (if r104 = true then ((fnS (F30 K u76.1 (Int.ofNat u76.2.1.length) 3)).bind (fun r107 => (some (.inr (r107))))) else (some (.inr (u76.1)))) (fun (u106 : S65) => ((fnS (F72 K u106)).bind (fun r108 => ((fnS (F93 K r108.2 ([[58]] : List Bytes))).bind (fun r109 => ((fnS (F111 K r109)).bind (fun r110 => (chk [room ((u76.2.1.length + ([(⟨r108.1, (⟨r110.1.fKind, r110.1.fLo, r110.1.fHi, r110.1.fName⟩ : S91), 0, 0, 0⟩ : S118)].length)) * 80)] (some (.inr (r110.2, (u76.2.1 ++ [(⟨r108.1, (⟨r110.1.fKind, r110.1.fLo, r110.1.fHi, r110.1.fName⟩ : S91), 0, 0, 0⟩ : S118)])))))))))))))))) (fun (u103 : S65 × (List S118)) => ((fnS (F39 K u103.1 ([44] : Bytes))).bind (fun r111 => (some (.inr (r111.2, u103.2, r111.1))))))) else (some (.inl (Sum.inl (u76.1, u76.2.1)))))))) (r2.2, [], true)).map .inl)) (fun (u57 : S65 × (List S118)) => ((fnS (F93 K u57.1 ([[41]] : List Bytes))).bind (fun r112 => (some (.inl (u57.2, r112))))))))))))
theorem F110_ok (K : Nat) (a0 : S65) : DFun Tryz.prog 110 [.c (.ptr 0 0 0)] [E65.o a0] (fnS (F110 K a0)) (fun r => .c (E118.tree r.1)) (fun r => [E65.o r.2]) := by
 refine DFun.it Tryz.f110 (fun r => ⟨[(2, .c (E118.tree r.1))], [E65.o r.2], [], 1⟩) ?_
 unfold F110
 refine Ref.sq ?_
 refine Ref.rn 0 ?_
 refine RefR.e0 (st' := ⟨[sP 0 0 0 0], [E65.o a0], [], 1⟩) 0 1 1 [0] [0] ?_
 refine RefR.nl 1 ?_
 refine Ref.sq ?_
 refine Ref.rn 1 ?_
 refine RefR.e0 (st' := ⟨[sP 0 0 0 0, sP 6 0 0 0], [E65.o a0], [], 1⟩) 0 1 1 [0, 6] [0] ?_
 refine RefR.li 7 [] E9 ([[40]] : List Bytes) 1 2 ?_
 refine RefR.cc 8 2 3 [0] (F93_ok K a0 ([[40]] : List Bytes)) (fun r1 => ?_)
 refine RefR.nl 3 ?_
 refine Ref.sq ?_
 refine Ref.sq ?_
 refine Ref.rn 2 ?_
 refine RefR.e1 0 1 1 [0, 9] [0] ?_
 refine RefR.cc 10 1 2 [0] (F39_ok K r1 ([41] : Bytes)) (fun r2 => ?_)
 refine RefR.nl 2 ?_
 refine Ref.cn (.tmp 10) r2.1 (fun hc => ?_) (fun hc => ?_)
 ·
  refine Ref.sq ?_
  refine Ref.rn 3 ?_
  refine RefR.e0 (st' := ⟨[(2, .c (.nil))], [E65.o r2.2], [], 1⟩) 0 1 1 [2] [0] ?_
  refine RefR.nl 1 ?_
  refine Ref.conv (Conv.sl 2 (.c (E118.tree [])) (DLe.c (El.tree_nil E118))) ?_
  exact Ref.rt (t := ([], r2.2))
 ·
  refine Ref.sk ?_
  refine Ref.sq ?_
  refine Ref.rn 4 ?_
  refine RefR.e0 (st' := ⟨[sP 0 0 0 0, (3, .c (.nil))], [E65.o r2.2], [], 1⟩) 0 1 1 [0, 3] [0] ?_
  refine RefR.nl 1 ?_
  refine Ref.sq ?_
  refine Ref.sq ?_
  refine Ref.rn 5 ?_
  refine RefR.e0 (st' := ⟨[sP 0 0 0 0, (3, .c (.nil)), sB 4 true], [E65.o r2.2], [], 1⟩) 0 1 1 [0, 3, 4] [0] ?_
  refine RefR.nl 1 ?_
  refine Ref.ce (.block 0 (cd (bd Tryz.f110) [1, 1, 1, 1, 0, 1, 0])) ?_
  refine Ref.block (go1 := fun u57 => ⟨[sP 0 0 0 0, (3, .c (.own 1 u57.2.length))], [E65.o u57.1, E118.row u57.2], [], 1⟩) ?_ (fun _ h => by cases h) (fun u57 => ?_)
  ·
   refine Ref.ce (.loop (cd (bd Tryz.f110) [1, 1, 1, 1, 0, 1, 0, 0])) ?_
   refine Ref.conv (Conv.adopt 3 E118.ty E118.w (E118.at []) (by kernel_rfl) (by kernel_rfl) (by kernel_rfl)) ?_
   refine Ref.ck ⟨[sP 0 0 0 0, (3, .c (.own 1 0)), sB 4 true], [E65.o r2.2, E118.row []], [], 1⟩ [0, 3, 4] [0, 1] ?_
   refine Ref.loop (hd := fun u76 => ⟨[sP 0 0 0 0, (3, .c (.own 1 u76.2.1.length)), sB 4 u76.2.2], [E65.o u76.1, E118.row u76.2.1], [], 1⟩) K (r2.2, [], true) (by kernel_rfl) (fun u76 => ?_)
   refine Ref.sq ?_
   refine Ref.sq ?_
   refine Ref.rn 6 ?_
   refine RefR.e1 0 3 3 [0, 3, 12, 13] [0, 1] ?_
   refine RefR.lookC (t := 14) (g := [(12, true)]) (b := u76.2.2) 3 4 [0] (default : Bool) rfl (by kernel_rfl) (F21_ok K u76.1) (fun _ => rfl) (fun r95 => ?_)
   refine RefR.e0 (st' := ⟨[sP 0 0 0 0, (3, .c (.own 1 u76.2.1.length)), sB 15 (u76.2.2 && r95)], [E65.o u76.1, E118.row u76.2.1], [], 1⟩) 4 1 5 [0, 3, 15] [0, 1] ?_
   refine RefR.nl 5 ?_
   refine Ref.cn (.tmp 15) (u76.2.2 && r95) (fun hc => ?_) (fun hc => ?_)
   ·
    refine Ref.sk ?_
    refine Ref.sq ?_
    refine Ref.ce (.block 1 (cd (bd Tryz.f110) [1, 1, 1, 1, 0, 1, 0, 0, 1, 0, 0])) ?_
    refine Ref.block (go1 := fun u103 => ⟨[sP 0 0 0 0, (3, .c (.own 1 u103.2.length))], [E65.o u103.1, E118.row u103.2], [], 1⟩) ?_ (fun a => match a with | .inl _ => (fun h => by cases h) | .inr _ => (fun h => by cases h)) (fun u103 => ?_)
    ·
     refine Ref.sq ?_
     refine Ref.sq ?_
     refine Ref.rn 8 ?_
     refine RefR.e1 0 1 1 [0, 3, 18] [0, 1] ?_
     refine RefR.lookC (t := 19) (g := []) (b := true) 1 2 [0] (default : Bool) rfl (by kernel_rfl) (F69_ok K u76.1 1) (fun _ => rfl) (fun r104 => ?_)
     refine RefR.nl 2 ?_
     refine Ref.bind (go1 := fun u106 => ⟨[sP 0 0 0 0, (3, .c (.own 1 u76.2.1.length))], [E65.o u106, E118.row u76.2.1], [], 1⟩) ?_ (fun u106 => ?_)
     ·
      refine Ref.cn (.tmp 19) r104 (fun hc => ?_) (fun hc => ?_)
      ·
       refine Ref.rn 9 ?_
       refine RefR.e1 0 3 3 [0, 3, 20, 22] [0, 1] ?_
       refine RefR.cc 23 3 4 [0] (F30_ok K u76.1 (Int.ofNat u76.2.1.length) 3) (fun r107 => ?_)
       refine RefR.nl 4 ?_
       refine Ref.ck ⟨[sP 0 0 0 0, (3, .c (.own 1 u76.2.1.length))], [E65.o r107, E118.row u76.2.1], [], 1⟩ [0, 3] [0, 1] ?_
       exact Ref.n0 (t := (r107))
      ·
       refine Ref.sk ?_
       refine Ref.ck ⟨[sP 0 0 0 0, (3, .c (.own 1 u76.2.1.length))], [E65.o u76.1, E118.row u76.2.1], [], 1⟩ [0, 3] [0, 1] ?_
       exact Ref.n0 (t := (u76.1))
     ·
      refine Ref.sq ?_
      refine Ref.rn 10 ?_
      refine RefR.e1 0 1 1 [0, 3, 24] [0, 1] ?_
      refine RefR.cc 25 1 2 [0] (F72_ok K u106) (fun r108 => ?_)
      refine RefR.e0 (st' := ⟨[sP 0 0 0 0, (3, .c (.own 1 u76.2.1.length)), sP 5 2 0 0], [E65.o r108.2, E118.row u76.2.1, .cells [.str r108.1, iC 0, iC 0, iC 0, .str [], iC 0, iC 0, iC 0]], [], 1⟩) 2 3 5 [0, 3, 5] [0, 1, 2] ?_
      refine RefR.nl 5 ?_
      refine Ref.sq ?_
      refine Ref.rn 11 ?_
      refine RefR.e0 (st' := ⟨[sP 0 0 0 0, (3, .c (.own 1 u76.2.1.length)), sP 5 2 0 0, sP 27 0 0 0], [E65.o r108.2, E118.row u76.2.1, .cells [.str r108.1, iC 0, iC 0, iC 0, .str [], iC 0, iC 0, iC 0]], [], 1⟩) 0 1 1 [0, 3, 5, 27] [0, 1, 2] ?_
      refine RefR.li 28 [] E9 ([[58]] : List Bytes) 1 2 ?_
      refine RefR.cc 29 2 3 [0] (F93_ok K r108.2 ([[58]] : List Bytes)) (fun r109 => ?_)
      refine RefR.nl 3 ?_
      refine Ref.sq ?_
      refine Ref.rn 12 ?_
      refine RefR.e1 0 1 1 [0, 3, 5, 30] [0, 1, 2] ?_
      refine RefR.cc 31 1 2 [0] (F111_ok K r109) (fun r110 => ?_)
      refine RefR.e0 (st' := ⟨[sP 0 0 0 0, (3, .c (.own 1 u76.2.1.length)), sP 5 2 0 0], [E65.o r110.2, E118.row u76.2.1, .cells [.str r108.1, iC r110.1.fKind, iC r110.1.fLo, iC r110.1.fHi, .str r110.1.fName, iC 0, iC 0, iC 0]], [], 1⟩) 2 2 4 [0, 3, 5] [0, 1, 2] ?_
      refine RefR.nl 4 ?_
      refine Ref.rn 13 ?_
      refine RefR.e0 (st' := ⟨[sP 0 0 0 0, (33, .c (.own 1 u76.2.1.length)), (34, .agg [.str r108.1, iC r110.1.fKind, iC r110.1.fLo, iC r110.1.fHi, .str r110.1.fName, iC 0, iC 0, iC 0])], [E65.o r110.2, E118.row u76.2.1], [], 1⟩) 0 2 2 [0, 33, 34] [0, 1] ?_
      refine RefR.e0 (st' := ⟨[sP 0 0 0 0, (33, .c (.own 1 u76.2.1.length)), (35, .c (.own 2 1))], [E65.o r110.2, E118.row u76.2.1, .row 118 8 1 (tbl [[.str r108.1, iC r110.1.fKind, iC r110.1.fLo, iC r110.1.fHi, .str r110.1.fName, iC 0, iC 0, iC 0]])], [], 1⟩) 2 1 3 [0, 33, 35] [0, 1, 2] ?_
      refine RefR.conv (Conv.ob 2 (E118.row [(⟨r108.1, (⟨r110.1.fKind, r110.1.fLo, r110.1.fHi, r110.1.fName⟩ : S91), 0, 0, 0⟩ : S118)]) (El.row_build E118 [(⟨r108.1, (⟨r110.1.fKind, r110.1.fLo, r110.1.fHi, r110.1.fName⟩ : S91), 0, 0, 0⟩ : S118)] rfl (by kernel_rfl))) ?_
      refine RefR.conv (Conv.sl 35 (.c (.own 2 ([(⟨r108.1, (⟨r110.1.fKind, r110.1.fLo, r110.1.fHi, r110.1.fName⟩ : S91), 0, 0, 0⟩ : S118)].length))) (DLe.c (CLe.own (by simp <;> omega)))) ?_
      refine RefR.evC (vs := [room ((u76.2.1.length + ([(⟨r108.1, (⟨r110.1.fKind, r110.1.fLo, r110.1.fHi, r110.1.fName⟩ : S91), 0, 0, 0⟩ : S118)].length)) * 80)]) (st' := ⟨[sP 0 0 0 0, (36, .c (.own 1 (u76.2.1.length + ([(⟨r108.1, (⟨r110.1.fKind, r110.1.fLo, r110.1.fHi, r110.1.fName⟩ : S91), 0, 0, 0⟩ : S118)].length))))], [E65.o r110.2, .row 118 8 (u76.2.1.length + ([(⟨r108.1, (⟨r110.1.fKind, r110.1.fLo, r110.1.fHi, r110.1.fName⟩ : S91), 0, 0, 0⟩ : S118)].length)) fun i j => bif Nat.blt i u76.2.1.length then E118.at u76.2.1 i j else (E118.at [(⟨r108.1, (⟨r110.1.fKind, r110.1.fLo, r110.1.fHi, r110.1.fName⟩ : S91), 0, 0, 0⟩ : S118)]) (i - u76.2.1.length) j], [], 1⟩) 3 1 4 [0, 36] [0, 3] rfl (by kernel_rfl) ?_
      refine RefR.conv (Conv.ob 1 (E118.row (u76.2.1 ++ [(⟨r108.1, (⟨r110.1.fKind, r110.1.fLo, r110.1.fHi, r110.1.fName⟩ : S91), 0, 0, 0⟩ : S118)])) (El.row_append E118 u76.2.1 [(⟨r108.1, (⟨r110.1.fKind, r110.1.fLo, r110.1.fHi, r110.1.fName⟩ : S91), 0, 0, 0⟩ : S118)] rfl rfl)) ?_
      refine RefR.conv (Conv.sl 36 (.c (.own 1 ((u76.2.1 ++ [(⟨r108.1, (⟨r110.1.fKind, r110.1.fLo, r110.1.fHi, r110.1.fName⟩ : S91), 0, 0, 0⟩ : S118)]).length))) (DLe.c (CLe.own (by simp <;> omega)))) ?_
      refine RefR.e0 (st' := ⟨[sP 0 0 0 0, (3, .c (.own 1 ((u76.2.1 ++ [(⟨r108.1, (⟨r110.1.fKind, r110.1.fLo, r110.1.fHi, r110.1.fName⟩ : S91), 0, 0, 0⟩ : S118)]).length)))], [E65.o r110.2, E118.row (u76.2.1 ++ [(⟨r108.1, (⟨r110.1.fKind, r110.1.fLo, r110.1.fHi, r110.1.fName⟩ : S91), 0, 0, 0⟩ : S118)])], [], 1⟩) 4 1 5 [0, 3] [0, 1] ?_
      refine RefR.nl 5 ?_
      exact Ref.n0 (t := (r110.2, (u76.2.1 ++ [(⟨r108.1, (⟨r110.1.fKind, r110.1.fLo, r110.1.fHi, r110.1.fName⟩ : S91), 0, 0, 0⟩ : S118)])))
    ·
     refine Ref.rn 7 ?_
     refine RefR.e1 0 1 1 [0, 3, 16] [0, 1] ?_
     refine RefR.cc 17 1 2 [0] (F39_ok K u103.1 ([44] : Bytes)) (fun r111 => ?_)
     refine RefR.e0 (st' := ⟨[sP 0 0 0 0, (3, .c (.own 1 u103.2.length)), sB 4 r111.1], [E65.o r111.2, E118.row u103.2], [], 1⟩) 2 1 3 [0, 3, 4] [0, 1] ?_
     refine RefR.nl 3 ?_
     exact Ref.n0 (t := (r111.2, u103.2, r111.1))
   ·
    refine Ref.ck ⟨[sP 0 0 0 0, (3, .c (.own 1 u76.2.1.length))], [E65.o u76.1, E118.row u76.2.1], [], 1⟩ [0, 3] [0, 1] ?_
    exact Ref.xt 0 (t := (Sum.inl (u76.1, u76.2.1)))
  ·
   refine Ref.sq ?_
   refine Ref.rn 14 ?_
   refine RefR.e0 (st' := ⟨[(3, .c (.own 1 u57.2.length)), sP 37 0 0 0], [E65.o u57.1, E118.row u57.2], [], 1⟩) 0 1 1 [3, 37] [0, 1] ?_
   refine RefR.li 38 [] E9 ([[41]] : List Bytes) 1 2 ?_
   refine RefR.cc 39 2 3 [0] (F93_ok K u57.1 ([[41]] : List Bytes)) (fun r112 => ?_)
   refine RefR.nl 3 ?_
   refine Ref.sq ?_
   refine Ref.rn 15 ?_
   refine RefR.e0 (st' := ⟨[(2, .c (.own 1 u57.2.length))], [E65.o r112, E118.row u57.2], [], 1⟩) 0 2 2 [2] [0, 1] ?_
   refine RefR.nl 2 ?_
   refine Ref.conv (Conv.freeze (st' := ⟨[(2, .c (E118.tree u57.2))], [E65.o r112, .dead], [], 1⟩) 1 (by kernel_rfl)) ?_
   refine Ref.ck ⟨[(2, .c (E118.tree u57.2))], [E65.o r112], [], 1⟩ [2] [0] ?_
   exact Ref.rt (t := (u57.2, r112))
def F95 (K : Nat) (a0 : S65) : Option (((List S118) × S65) ⊕ ((List S118) × S65)) :=
 (bindS (blockS ((iter K (fun (u190 : S65 × (List S118)) => ((condM true (fnS (F29 K u190.1 ([[86, 65, 82]] : List Bytes))) default).bind (fun r238 => (if r238 = true then (bindS (blockS ((fnS (F30 K u190.1 (Int.ofNat u190.2.length) 8)).bind (fun r262 => ((fnS (F93 K r262 ([[86, 65, 82]] : List Bytes))).bind (fun r263 => ((fnS (F72 K r263)).bind (fun r264 => ((fnS (F93 K r264.2 ([[58]] : List Bytes))).bind (fun r265 => ((fnS (F111 K r265)).bind (fun r266 => ((fnS (F39 K r266.2 ([58, 61] : Bytes))).bind (fun r267 => (bindS (if r267.1 = true then ((fnS (F112 K r267.2)).bind (fun r270 => (some (.inr (r270.2, r270.1))))) else (some (.inr (r267.2, 0)))) (fun (u269 : S65 × Int) => ((fnS (F39 K u269.1 ([65, 84] : Bytes))).bind (fun r271 => (bindS (if r271.1 = true then ((fnS (F39 K r271.2 ([73, 78] : Bytes))).bind (fun r278 => (bindS (if (!r278.1) = true then ((fnS (F93 K r278.2 ([[79, 85, 84]] : List Bytes))).bind (fun r281 => (some (.inr (r281, 2))))) else (some (.inr (r278.2, 1)))) (fun (u280 : S65 × Int) => ((fnS (F70 K u280.1)).bind (fun r282 => (some (.inr (r282.2, u280.2, r282.1))))))))) else (some (.inr (r271.2, 0, 0)))) (fun (u277 : S65 × Int × Int) => ((fnS (F93 K u277.1 ([[59]] : List Bytes))).bind (fun r283 => (chk [room ((u190.2.length + ([(⟨r264.1, (⟨r266.1.fKind, r266.1.fLo, r266.1.fHi, r266.1.fName⟩ : S91), u269.2, u277.2.1, u277.2.2⟩ : S118)].length)) * 80)] (some (.inr (r283, (u190.2 ++ [(⟨r264.1, (⟨r266.1.fKind, r266.1.fLo, r266.1.fHi, r266.1.fName⟩ : S91), u269.2, u277.2.1, u277.2.2⟩ : S118)])))))))))))))))))))))))))) (fun (u261 : S65 × (List S118)) => (some (.inr (u261.1, u261.2))))) else (some (.inl (Sum.inl (u190.1, u190.2)))))))) (a0, [])).map .inl)) (fun (u142 : S65 × (List S118)) => (some (.inl (u142.2, u142.1)))))
theorem F95_ok (K : Nat) (a0 : S65) : DFun Tryz.prog 95 [.c (.ptr 0 0 0)] [E65.o a0] (fnS (F95 K a0)) (fun r => .c (E118.tree r.1)) (fun r => [E65.o r.2]) := by
 refine DFun.it Tryz.f95 (fun r => ⟨[(2, .c (E118.tree r.1))], [E65.o r.2], [], 1⟩) ?_
 unfold F95
 refine Ref.sq ?_
 refine Ref.rn 0 ?_
 refine RefR.e0 (st' := ⟨[sP 0 0 0 0], [E65.o a0], [], 1⟩) 0 1 1 [0] [0] ?_
 refine RefR.nl 1 ?_
 refine Ref.sq ?_
 refine Ref.rn 1 ?_
 refine RefR.e0 (st' := ⟨[sP 0 0 0 0, (3, .c (.nil))], [E65.o a0], [], 1⟩) 0 1 1 [0, 3] [0] ?_
 refine RefR.nl 1 ?_
 refine Ref.sq ?_
 refine Ref.ce (.block 0 (cd (bd Tryz.f95) [1, 1, 0, 0])) ?_
 refine Ref.block (go1 := fun u142 => ⟨[(3, .c (.own 1 u142.2.length))], [E65.o u142.1, E118.row u142.2], [], 1⟩) ?_ (fun _ h => by cases h) (fun u142 => ?_)
 ·
  refine Ref.ce (.loop (cd (bd Tryz.f95) [1, 1, 0, 0, 0])) ?_
  refine Ref.conv (Conv.adopt 3 E118.ty E118.w (E118.at []) (by kernel_rfl) (by kernel_rfl) (by kernel_rfl)) ?_
  refine Ref.ck ⟨[sP 0 0 0 0, (3, .c (.own 1 0))], [E65.o a0, E118.row []], [], 1⟩ [0, 3] [0, 1] ?_
  refine Ref.loop (hd := fun u190 => ⟨[sP 0 0 0 0, (3, .c (.own 1 u190.2.length))], [E65.o u190.1, E118.row u190.2], [], 1⟩) K (a0, []) (by kernel_rfl) (fun u190 => ?_)
  refine Ref.sq ?_
  refine Ref.sq ?_
  refine Ref.rn 2 ?_
  refine RefR.e0 (st' := ⟨[sP 0 0 0 0, (3, .c (.own 1 u190.2.length)), sP 5 0 0 0], [E65.o u190.1, E118.row u190.2], [], 1⟩) 0 1 1 [0, 3, 5] [0, 1] ?_
  refine RefR.li 6 [] E9 ([[86, 65, 82]] : List Bytes) 1 2 ?_
  refine RefR.lookC (t := 7) (g := []) (b := true) 2 3 [0] (default : Bool) rfl (by kernel_rfl) (F29_ok K u190.1 ([[86, 65, 82]] : List Bytes)) (fun _ => rfl) (fun r238 => ?_)
  refine RefR.nl 3 ?_
  refine Ref.cn (.tmp 7) r238 (fun hc => ?_) (fun hc => ?_)
  ·
   refine Ref.sk ?_
   refine Ref.ce (.block 1 (cd (bd Tryz.f95) [1, 1, 0, 0, 0, 1, 0])) ?_
   refine Ref.block (go1 := fun u261 => ⟨[sP 0 0 0 0, (3, .c (.own 1 u261.2.length))], [E65.o u261.1, E118.row u261.2], [], 1⟩) ?_ (fun a => match a with | .inl _ => (fun h => by cases h) | .inr _ => (fun h => by cases h)) (fun u261 => ?_)
   ·
    refine Ref.sq ?_
    refine Ref.rn 3 ?_
    refine RefR.e1 0 3 3 [0, 3, 8, 10] [0, 1] ?_
    refine RefR.cc 11 3 4 [0] (F30_ok K u190.1 (Int.ofNat u190.2.length) 8) (fun r262 => ?_)
    refine RefR.nl 4 ?_
    refine Ref.sq ?_
    refine Ref.rn 4 ?_
    refine RefR.e0 (st' := ⟨[sP 0 0 0 0, (3, .c (.own 1 u190.2.length)), sP 12 0 0 0], [E65.o r262, E118.row u190.2], [], 1⟩) 0 1 1 [0, 3, 12] [0, 1] ?_
    refine RefR.li 13 [] E9 ([[86, 65, 82]] : List Bytes) 1 2 ?_
    refine RefR.cc 14 2 3 [0] (F93_ok K r262 ([[86, 65, 82]] : List Bytes)) (fun r263 => ?_)
    refine RefR.nl 3 ?_
    refine Ref.sq ?_
    refine Ref.rn 5 ?_
    refine RefR.e1 0 1 1 [0, 3, 15] [0, 1] ?_
    refine RefR.cc 16 1 2 [0] (F72_ok K r263) (fun r264 => ?_)
    refine RefR.e0 (st' := ⟨[sP 0 0 0 0, (3, .c (.own 1 u190.2.length)), sP 4 2 0 0], [E65.o r264.2, E118.row u190.2, .cells [.str r264.1, iC 0, iC 0, iC 0, .str [], iC 0, iC 0, iC 0]], [], 1⟩) 2 3 5 [0, 3, 4] [0, 1, 2] ?_
    refine RefR.nl 5 ?_
    refine Ref.sq ?_
    refine Ref.rn 6 ?_
    refine RefR.e0 (st' := ⟨[sP 0 0 0 0, (3, .c (.own 1 u190.2.length)), sP 4 2 0 0, sP 18 0 0 0], [E65.o r264.2, E118.row u190.2, .cells [.str r264.1, iC 0, iC 0, iC 0, .str [], iC 0, iC 0, iC 0]], [], 1⟩) 0 1 1 [0, 3, 4, 18] [0, 1, 2] ?_
    refine RefR.li 19 [] E9 ([[58]] : List Bytes) 1 2 ?_
    refine RefR.cc 20 2 3 [0] (F93_ok K r264.2 ([[58]] : List Bytes)) (fun r265 => ?_)
    refine RefR.nl 3 ?_
    refine Ref.sq ?_
    refine Ref.rn 7 ?_
    refine RefR.e1 0 1 1 [0, 3, 4, 21] [0, 1, 2] ?_
    refine RefR.cc 22 1 2 [0] (F111_ok K r265) (fun r266 => ?_)
    refine RefR.e0 (st' := ⟨[sP 0 0 0 0, (3, .c (.own 1 u190.2.length)), sP 4 2 0 0], [E65.o r266.2, E118.row u190.2, .cells [.str r264.1, iC r266.1.fKind, iC r266.1.fLo, iC r266.1.fHi, .str r266.1.fName, iC 0, iC 0, iC 0]], [], 1⟩) 2 2 4 [0, 3, 4] [0, 1, 2] ?_
    refine RefR.nl 4 ?_
    refine Ref.sq ?_
    refine Ref.sq ?_
    refine Ref.rn 8 ?_
    refine RefR.e1 0 1 1 [0, 3, 4, 24] [0, 1, 2] ?_
    refine RefR.cc 25 1 2 [0] (F39_ok K r266.2 ([58, 61] : Bytes)) (fun r267 => ?_)
    refine RefR.nl 2 ?_
    refine Ref.bind (go1 := fun u269 => ⟨[sP 0 0 0 0, (3, .c (.own 1 u190.2.length)), sP 4 2 0 0], [E65.o u269.1, E118.row u190.2, .cells [.str r264.1, iC r266.1.fKind, iC r266.1.fLo, iC r266.1.fHi, .str r266.1.fName, iC u269.2, iC 0, iC 0]], [], 1⟩) ?_ (fun u269 => ?_)
    ·
     refine Ref.cn (.tmp 25) r267.1 (fun hc => ?_) (fun hc => ?_)
     ·
      refine Ref.rn 9 ?_
      refine RefR.e1 0 1 1 [0, 3, 4, 26] [0, 1, 2] ?_
      refine RefR.cc 27 1 2 [0] (F112_ok K r267.2) (fun r270 => ?_)
      refine RefR.e0 (st' := ⟨[sP 0 0 0 0, (3, .c (.own 1 u190.2.length)), sP 4 2 0 0], [E65.o r270.2, E118.row u190.2, .cells [.str r264.1, iC r266.1.fKind, iC r266.1.fLo, iC r266.1.fHi, .str r266.1.fName, iC r270.1, iC 0, iC 0]], [], 1⟩) 2 2 4 [0, 3, 4] [0, 1, 2] ?_
      refine RefR.nl 4 ?_
      exact Ref.n0 (t := (r270.2, r270.1))
     ·
      refine Ref.sk ?_
      refine Ref.ck ⟨[sP 0 0 0 0, (3, .c (.own 1 u190.2.length)), sP 4 2 0 0], [E65.o r267.2, E118.row u190.2, .cells [.str r264.1, iC r266.1.fKind, iC r266.1.fLo, iC r266.1.fHi, .str r266.1.fName, iC 0, iC 0, iC 0]], [], 1⟩ [0, 3, 4] [0, 1, 2] ?_
      exact Ref.n0 (t := (r267.2, 0))
    ·
     refine Ref.sq ?_
     refine Ref.sq ?_
     refine Ref.rn 10 ?_
     refine RefR.e1 0 1 1 [0, 3, 4, 29] [0, 1, 2] ?_
     refine RefR.cc 30 1 2 [0] (F39_ok K u269.1 ([65, 84] : Bytes)) (fun r271 => ?_)
     refine RefR.nl 2 ?_
     refine Ref.bind (go1 := fun u277 => ⟨[sP 0 0 0 0, (3, .c (.own 1 u190.2.length)), sP 4 2 0 0], [E65.o u277.1, E118.row u190.2, .cells [.str r264.1, iC r266.1.fKind, iC r266.1.fLo, iC r266.1.fHi, .str r266.1.fName, iC u269.2, iC u277.2.1, iC u277.2.2]], [], 1⟩) ?_ (fun u277 => ?_)
     ·
      refine Ref.cn (.tmp 30) r271.1 (fun hc => ?_) (fun hc => ?_)
      ·
       refine Ref.sq ?_
       refine Ref.rn 11 ?_
       refine RefR.e0 (st' := ⟨[sP 0 0 0 0, (3, .c (.own 1 u190.2.length)), sP 4 2 0 0], [E65.o r271.2, E118.row u190.2, .cells [.str r264.1, iC r266.1.fKind, iC r266.1.fLo, iC r266.1.fHi, .str r266.1.fName, iC u269.2, iC 1, iC 0]], [], 1⟩) 0 2 2 [0, 3, 4] [0, 1, 2] ?_
       refine RefR.nl 2 ?_
       refine Ref.sq ?_
       refine Ref.sq ?_
       refine Ref.rn 12 ?_
       refine RefR.e1 0 1 1 [0, 3, 4, 32] [0, 1, 2] ?_
       refine RefR.cc 33 1 2 [0] (F39_ok K r271.2 ([73, 78] : Bytes)) (fun r278 => ?_)
       refine RefR.e0 (st' := ⟨[sP 0 0 0 0, (3, .c (.own 1 u190.2.length)), sP 4 2 0 0, sB 34 (!r278.1)], [E65.o r278.2, E118.row u190.2, .cells [.str r264.1, iC r266.1.fKind, iC r266.1.fLo, iC r266.1.fHi, .str r266.1.fName, iC u269.2, iC 1, iC 0]], [], 1⟩) 2 1 3 [0, 3, 4, 34] [0, 1, 2] ?_
       refine RefR.nl 3 ?_
       refine Ref.bind (go1 := fun u280 => ⟨[sP 0 0 0 0, (3, .c (.own 1 u190.2.length)), sP 4 2 0 0], [E65.o u280.1, E118.row u190.2, .cells [.str r264.1, iC r266.1.fKind, iC r266.1.fLo, iC r266.1.fHi, .str r266.1.fName, iC u269.2, iC u280.2, iC 0]], [], 1⟩) ?_ (fun u280 => ?_)
       ·
        refine Ref.cn (.tmp 34) (!r278.1) (fun hc => ?_) (fun hc => ?_)
        ·
         refine Ref.sq ?_
         refine Ref.rn 13 ?_
         refine RefR.e0 (st' := ⟨[sP 0 0 0 0, (3, .c (.own 1 u190.2.length)), sP 4 2 0 0, sP 35 0 0 0], [E65.o r278.2, E118.row u190.2, .cells [.str r264.1, iC r266.1.fKind, iC r266.1.fLo, iC r266.1.fHi, .str r266.1.fName, iC u269.2, iC 1, iC 0]], [], 1⟩) 0 1 1 [0, 3, 4, 35] [0, 1, 2] ?_
         refine RefR.li 36 [] E9 ([[79, 85, 84]] : List Bytes) 1 2 ?_
         refine RefR.cc 37 2 3 [0] (F93_ok K r278.2 ([[79, 85, 84]] : List Bytes)) (fun r281 => ?_)
         refine RefR.nl 3 ?_
         refine Ref.rn 14 ?_
         refine RefR.e0 (st' := ⟨[sP 0 0 0 0, (3, .c (.own 1 u190.2.length)), sP 4 2 0 0], [E65.o r281, E118.row u190.2, .cells [.str r264.1, iC r266.1.fKind, iC r266.1.fLo, iC r266.1.fHi, .str r266.1.fName, iC u269.2, iC 2, iC 0]], [], 1⟩) 0 2 2 [0, 3, 4] [0, 1, 2] ?_
         refine RefR.nl 2 ?_
         exact Ref.n0 (t := (r281, 2))
        ·
         refine Ref.sk ?_
         refine Ref.ck ⟨[sP 0 0 0 0, (3, .c (.own 1 u190.2.length)), sP 4 2 0 0], [E65.o r278.2, E118.row u190.2, .cells [.str r264.1, iC r266.1.fKind, iC r266.1.fLo, iC r266.1.fHi, .str r266.1.fName, iC u269.2, iC 1, iC 0]], [], 1⟩ [0, 3, 4] [0, 1, 2] ?_
         exact Ref.n0 (t := (r278.2, 1))
       ·
        refine Ref.rn 15 ?_
        refine RefR.e1 0 1 1 [0, 3, 4, 39] [0, 1, 2] ?_
        refine RefR.cc 40 1 2 [0] (F70_ok K u280.1) (fun r282 => ?_)
        refine RefR.e0 (st' := ⟨[sP 0 0 0 0, (3, .c (.own 1 u190.2.length)), sP 4 2 0 0], [E65.o r282.2, E118.row u190.2, .cells [.str r264.1, iC r266.1.fKind, iC r266.1.fLo, iC r266.1.fHi, .str r266.1.fName, iC u269.2, iC u280.2, iC r282.1]], [], 1⟩) 2 2 4 [0, 3, 4] [0, 1, 2] ?_
        refine RefR.nl 4 ?_
        exact Ref.n0 (t := (r282.2, u280.2, r282.1))
      ·
       refine Ref.sk ?_
       refine Ref.ck ⟨[sP 0 0 0 0, (3, .c (.own 1 u190.2.length)), sP 4 2 0 0], [E65.o r271.2, E118.row u190.2, .cells [.str r264.1, iC r266.1.fKind, iC r266.1.fLo, iC r266.1.fHi, .str r266.1.fName, iC u269.2, iC 0, iC 0]], [], 1⟩ [0, 3, 4] [0, 1, 2] ?_
       exact Ref.n0 (t := (r271.2, 0, 0))
     ·
      refine Ref.sq ?_
      refine Ref.rn 16 ?_
      refine RefR.e0 (st' := ⟨[sP 0 0 0 0, (3, .c (.own 1 u190.2.length)), sP 4 2 0 0, sP 42 0 0 0], [E65.o u277.1, E118.row u190.2, .cells [.str r264.1, iC r266.1.fKind, iC r266.1.fLo, iC r266.1.fHi, .str r266.1.fName, iC u269.2, iC u277.2.1, iC u277.2.2]], [], 1⟩) 0 1 1 [0, 3, 4, 42] [0, 1, 2] ?_
      refine RefR.li 43 [] E9 ([[59]] : List Bytes) 1 2 ?_
      refine RefR.cc 44 2 3 [0] (F93_ok K u277.1 ([[59]] : List Bytes)) (fun r283 => ?_)
      refine RefR.nl 3 ?_
      refine Ref.rn 17 ?_
      refine RefR.e0 (st' := ⟨[sP 0 0 0 0, (45, .c (.own 1 u190.2.length)), (46, .agg [.str r264.1, iC r266.1.fKind, iC r266.1.fLo, iC r266.1.fHi, .str r266.1.fName, iC u269.2, iC u277.2.1, iC u277.2.2])], [E65.o r283, E118.row u190.2], [], 1⟩) 0 2 2 [0, 45, 46] [0, 1] ?_
      refine RefR.e0 (st' := ⟨[sP 0 0 0 0, (45, .c (.own 1 u190.2.length)), (47, .c (.own 2 1))], [E65.o r283, E118.row u190.2, .row 118 8 1 (tbl [[.str r264.1, iC r266.1.fKind, iC r266.1.fLo, iC r266.1.fHi, .str r266.1.fName, iC u269.2, iC u277.2.1, iC u277.2.2]])], [], 1⟩) 2 1 3 [0, 45, 47] [0, 1, 2] ?_
      refine RefR.conv (Conv.ob 2 (E118.row [(⟨r264.1, (⟨r266.1.fKind, r266.1.fLo, r266.1.fHi, r266.1.fName⟩ : S91), u269.2, u277.2.1, u277.2.2⟩ : S118)]) (El.row_build E118 [(⟨r264.1, (⟨r266.1.fKind, r266.1.fLo, r266.1.fHi, r266.1.fName⟩ : S91), u269.2, u277.2.1, u277.2.2⟩ : S118)] rfl (by kernel_rfl))) ?_
      refine RefR.conv (Conv.sl 47 (.c (.own 2 ([(⟨r264.1, (⟨r266.1.fKind, r266.1.fLo, r266.1.fHi, r266.1.fName⟩ : S91), u269.2, u277.2.1, u277.2.2⟩ : S118)].length))) (DLe.c (CLe.own (by simp <;> omega)))) ?_
      refine RefR.evC (vs := [room ((u190.2.length + ([(⟨r264.1, (⟨r266.1.fKind, r266.1.fLo, r266.1.fHi, r266.1.fName⟩ : S91), u269.2, u277.2.1, u277.2.2⟩ : S118)].length)) * 80)]) (st' := ⟨[sP 0 0 0 0, (48, .c (.own 1 (u190.2.length + ([(⟨r264.1, (⟨r266.1.fKind, r266.1.fLo, r266.1.fHi, r266.1.fName⟩ : S91), u269.2, u277.2.1, u277.2.2⟩ : S118)].length))))], [E65.o r283, .row 118 8 (u190.2.length + ([(⟨r264.1, (⟨r266.1.fKind, r266.1.fLo, r266.1.fHi, r266.1.fName⟩ : S91), u269.2, u277.2.1, u277.2.2⟩ : S118)].length)) fun i j => bif Nat.blt i u190.2.length then E118.at u190.2 i j else (E118.at [(⟨r264.1, (⟨r266.1.fKind, r266.1.fLo, r266.1.fHi, r266.1.fName⟩ : S91), u269.2, u277.2.1, u277.2.2⟩ : S118)]) (i - u190.2.length) j], [], 1⟩) 3 1 4 [0, 48] [0, 3] rfl (by kernel_rfl) ?_
      refine RefR.conv (Conv.ob 1 (E118.row (u190.2 ++ [(⟨r264.1, (⟨r266.1.fKind, r266.1.fLo, r266.1.fHi, r266.1.fName⟩ : S91), u269.2, u277.2.1, u277.2.2⟩ : S118)])) (El.row_append E118 u190.2 [(⟨r264.1, (⟨r266.1.fKind, r266.1.fLo, r266.1.fHi, r266.1.fName⟩ : S91), u269.2, u277.2.1, u277.2.2⟩ : S118)] rfl rfl)) ?_
      refine RefR.conv (Conv.sl 48 (.c (.own 1 ((u190.2 ++ [(⟨r264.1, (⟨r266.1.fKind, r266.1.fLo, r266.1.fHi, r266.1.fName⟩ : S91), u269.2, u277.2.1, u277.2.2⟩ : S118)]).length))) (DLe.c (CLe.own (by simp <;> omega)))) ?_
      refine RefR.e0 (st' := ⟨[sP 0 0 0 0, (3, .c (.own 1 ((u190.2 ++ [(⟨r264.1, (⟨r266.1.fKind, r266.1.fLo, r266.1.fHi, r266.1.fName⟩ : S91), u269.2, u277.2.1, u277.2.2⟩ : S118)]).length)))], [E65.o r283, E118.row (u190.2 ++ [(⟨r264.1, (⟨r266.1.fKind, r266.1.fLo, r266.1.fHi, r266.1.fName⟩ : S91), u269.2, u277.2.1, u277.2.2⟩ : S118)])], [], 1⟩) 4 1 5 [0, 3] [0, 1] ?_
      refine RefR.nl 5 ?_
      exact Ref.n0 (t := (r283, (u190.2 ++ [(⟨r264.1, (⟨r266.1.fKind, r266.1.fLo, r266.1.fHi, r266.1.fName⟩ : S91), u269.2, u277.2.1, u277.2.2⟩ : S118)])))
   ·
    exact Ref.n0 (t := (u261.1, u261.2))
  ·
   refine Ref.ck ⟨[(3, .c (.own 1 u190.2.length))], [E65.o u190.1, E118.row u190.2], [], 1⟩ [3] [0, 1] ?_
   exact Ref.xt 0 (t := (Sum.inl (u190.1, u190.2)))
 ·
  refine Ref.sq ?_
  refine Ref.rn 18 ?_
  refine RefR.e0 (st' := ⟨[(2, .c (.own 1 u142.2.length))], [E65.o u142.1, E118.row u142.2], [], 1⟩) 0 2 2 [2] [0, 1] ?_
  refine RefR.nl 2 ?_
  refine Ref.conv (Conv.freeze (st' := ⟨[(2, .c (E118.tree u142.2))], [E65.o u142.1, .dead], [], 1⟩) 1 (by kernel_rfl)) ?_
  refine Ref.ck ⟨[(2, .c (E118.tree u142.2))], [E65.o u142.1], [], 1⟩ [2] [0] ?_
  exact Ref.rt (t := (u142.2, u142.1))
def F94 (K : Nat) (a0 : S65) (a1 : S93) : Option ((S65 × S93) ⊕ (S65 × S93)) :=
 ((fnS (F72 K a0)).bind (fun r1 => ((fnS (F110 K r1.2)).bind (fun r2 => ((fnS (F39 K r2.2 ([58] : Bytes))).bind (fun r3 => (bindS (if r3.1 = true then ((fnS (F111 K r3.2)).bind (fun r6 => (some (.inr (r6.2, (⟨r1.1, a1.fOver, a1.fAbstract, a1.fFinal, r2.1, (⟨r6.1.fKind, r6.1.fLo, r6.1.fHi, r6.1.fName⟩ : S91), a1.fVars, a1.fBody⟩ : S93)))))) else (some (.inr (r3.2, (⟨r1.1, a1.fOver, a1.fAbstract, a1.fFinal, r2.1, (⟨a1.fResult.fKind, a1.fResult.fLo, a1.fResult.fHi, a1.fResult.fName⟩ : S91), a1.fVars, a1.fBody⟩ : S93))))) (fun (u5 : S65 × S93) => ((fnS (F93 K u5.1 ([[59]] : List Bytes))).bind (fun r7 => (some (.inr (r7, (⟨u5.2.fName, u5.2.fOver, u5.2.fAbstract, u5.2.fFinal, u5.2.fParams, (⟨u5.2.fResult.fKind, u5.2.fResult.fLo, u5.2.fResult.fHi, u5.2.fResult.fName⟩ : S91), u5.2.fVars, u5.2.fBody⟩ : S93))))))))))))))
theorem F94_ok (K : Nat) (a0 : S65) (a1 : S93) : DFun Tryz.prog 94 [.c (.ptr 0 0 0), .c (.ptr 1 0 0)] [E65.o a0, E93.o a1] (fnS (F94 K a0 a1)) (fun r => .tup []) (fun r => [E65.o r.1, E93.o r.2]) := by
 refine DFun.it Tryz.f94 (fun r => ⟨[], [E65.o r.1, E93.o r.2], [], 2⟩) ?_
 unfold F94
 refine Ref.sq ?_
 refine Ref.rn 0 ?_
 refine RefR.e1 0 2 2 [0, 1, 4, 5] [0, 1] ?_
 refine RefR.cc 6 2 3 [0] (F72_ok K a0) (fun r1 => ?_)
 refine RefR.e0 (st' := ⟨[sP 0 0 0 0, sP 1 1 0 0], [E65.o r1.2, .cells [.str r1.1, bC a1.fOver, bC a1.fAbstract, bC a1.fFinal, E118.tree a1.fParams, iC a1.fResult.fKind, iC a1.fResult.fLo, iC a1.fResult.fHi, .str a1.fResult.fName, E118.tree a1.fVars, E122.tree a1.fBody]], [], 2⟩) 3 3 6 [0, 1] [0, 1] ?_
 refine RefR.nl 6 ?_
 refine Ref.sq ?_
 refine Ref.rn 1 ?_
 refine RefR.e1 0 2 2 [0, 1, 9, 10] [0, 1] ?_
 refine RefR.cc 11 2 3 [0] (F110_ok K r1.2) (fun r2 => ?_)
 refine RefR.e0 (st' := ⟨[sP 0 0 0 0, sP 1 1 0 0], [E65.o r2.2, .cells [.str r1.1, bC a1.fOver, bC a1.fAbstract, bC a1.fFinal, E118.tree r2.1, iC a1.fResult.fKind, iC a1.fResult.fLo, iC a1.fResult.fHi, .str a1.fResult.fName, E118.tree a1.fVars, E122.tree a1.fBody]], [], 2⟩) 3 3 6 [0, 1] [0, 1] ?_
 refine RefR.nl 6 ?_
 refine Ref.sq ?_
 refine Ref.sq ?_
 refine Ref.rn 2 ?_
 refine RefR.e1 0 1 1 [0, 1, 14] [0, 1] ?_
 refine RefR.cc 15 1 2 [0] (F39_ok K r2.2 ([58] : Bytes)) (fun r3 => ?_)
 refine RefR.nl 2 ?_
 refine Ref.bind (go1 := fun u5 => ⟨[sP 0 0 0 0], [E65.o u5.1, E93.o u5.2], [], 2⟩) ?_ (fun u5 => ?_)
 ·
  refine Ref.cn (.tmp 15) r3.1 (fun hc => ?_) (fun hc => ?_)
  ·
   refine Ref.rn 3 ?_
   refine RefR.e1 0 2 2 [0, 16, 17] [0, 1] ?_
   refine RefR.cc 18 2 3 [0] (F111_ok K r3.2) (fun r6 => ?_)
   refine RefR.e0 (st' := ⟨[sP 0 0 0 0], [E65.o r6.2, .cells [.str r1.1, bC a1.fOver, bC a1.fAbstract, bC a1.fFinal, E118.tree r2.1, iC r6.1.fKind, iC r6.1.fLo, iC r6.1.fHi, .str r6.1.fName, E118.tree a1.fVars, E122.tree a1.fBody]], [], 2⟩) 3 3 6 [0] [0, 1] ?_
   refine RefR.nl 6 ?_
   exact Ref.n0 (t := (r6.2, (⟨r1.1, a1.fOver, a1.fAbstract, a1.fFinal, r2.1, (⟨r6.1.fKind, r6.1.fLo, r6.1.fHi, r6.1.fName⟩ : S91), a1.fVars, a1.fBody⟩ : S93)))
  ·
   refine Ref.sk ?_
   refine Ref.ck ⟨[sP 0 0 0 0], [E65.o r3.2, .cells [.str r1.1, bC a1.fOver, bC a1.fAbstract, bC a1.fFinal, E118.tree r2.1, iC a1.fResult.fKind, iC a1.fResult.fLo, iC a1.fResult.fHi, .str a1.fResult.fName, E118.tree a1.fVars, E122.tree a1.fBody]], [], 2⟩ [0] [0, 1] ?_
   exact Ref.n0 (t := (r3.2, (⟨r1.1, a1.fOver, a1.fAbstract, a1.fFinal, r2.1, (⟨a1.fResult.fKind, a1.fResult.fLo, a1.fResult.fHi, a1.fResult.fName⟩ : S91), a1.fVars, a1.fBody⟩ : S93)))
 ·
  refine Ref.rn 4 ?_
  refine RefR.e0 (st' := ⟨[sP 21 0 0 0], [E65.o u5.1, E93.o u5.2], [], 2⟩) 0 1 1 [21] [0, 1] ?_
  refine RefR.li 22 [] E9 ([[59]] : List Bytes) 1 2 ?_
  refine RefR.cc 23 2 3 [0] (F93_ok K u5.1 ([[59]] : List Bytes)) (fun r7 => ?_)
  refine RefR.nl 3 ?_
  refine Ref.ck ⟨[], [E65.o r7, E93.o u5.2], [], 2⟩ [] [0, 1] ?_
  exact Ref.n0 (t := (r7, (⟨u5.2.fName, u5.2.fOver, u5.2.fAbstract, u5.2.fFinal, u5.2.fParams, (⟨u5.2.fResult.fKind, u5.2.fResult.fLo, u5.2.fResult.fHi, u5.2.fResult.fName⟩ : S91), u5.2.fVars, u5.2.fBody⟩ : S93)))
def F96 (K : Nat) (a0 : S65) : Option ((S93 × S65) ⊕ (S93 × S65)) :=
 ((fnS (F93 K a0 ([[77, 69, 84, 72, 79, 68]] : List Bytes))).bind (fun r1 => ((fnS (F39 K r1 ([79, 86, 69, 82, 82, 73, 68, 69] : Bytes))).bind (fun r2 => ((fnS (F39 K r2.2 ([65, 66, 83, 84, 82, 65, 67, 84] : Bytes))).bind (fun r3 => ((fnS (F39 K r3.2 ([70, 73, 78, 65, 76] : Bytes))).bind (fun r4 => ((fnS (F94 K r4.2 (⟨([] : Bytes), r2.1, r3.1, r4.1, [], (⟨0, 0, 0, ([] : Bytes)⟩ : S91), [], []⟩ : S93))).bind (fun r5 => ((fnS (F95 K r5.1)).bind (fun r6 => ((fnS (F97 K r6.2 1 ([[69, 78, 68, 95, 77, 69, 84, 72, 79, 68]] : List Bytes))).bind (fun r7 => ((fnS (F93 K r7.2 ([[69, 78, 68, 95, 77, 69, 84, 72, 79, 68]] : List Bytes))).bind (fun r8 => (some (.inl ((⟨r5.2.fName, r5.2.fOver, r5.2.fAbstract, r5.2.fFinal, r5.2.fParams, (⟨r5.2.fResult.fKind, r5.2.fResult.fLo, r5.2.fResult.fHi, r5.2.fResult.fName⟩ : S91), r6.1, r7.1⟩ : S93), r8)))))))))))))))))))
theorem F96_ok (K : Nat) (a0 : S65) : DFun Tryz.prog 96 [.c (.ptr 0 0 0)] [E65.o a0] (fnS (F96 K a0)) (fun r => .agg (E93.cs r.1)) (fun r => [E65.o r.2, E93.o r.1]) := by
 refine DFun.it Tryz.f96 (fun r => ⟨[sP 2 1 0 0], [E65.o r.2, E93.o r.1], [], 1⟩) ?_
 unfold F96
 refine Ref.sq ?_
 refine Ref.rn 0 ?_
 refine RefR.e0 (st' := ⟨[sP 0 0 0 0, sP 2 1 0 0], [E65.o a0, oX3], [], 1⟩) 0 1 1 [0, 2] [0, 1] ?_
 refine RefR.nl 1 ?_
 refine Ref.sq ?_
 refine Ref.rn 1 ?_
 refine RefR.e0 (st' := ⟨[sP 0 0 0 0, sP 2 1 0 0, sP 3 2 0 0], [E65.o a0, oX3, oX3], [], 1⟩) 0 1 1 [0, 2, 3] [0, 1, 2] ?_
 refine RefR.nl 1 ?_
 refine Ref.sq ?_
 refine Ref.rn 2 ?_
 refine RefR.e0 (st' := ⟨[sP 0 0 0 0, sP 2 1 0 0, sP 3 2 0 0, sP 4 0 0 0], [E65.o a0, oX3, oX3], [], 1⟩) 0 1 1 [0, 2, 3, 4] [0, 1, 2] ?_
 refine RefR.li 5 [] E9 ([[77, 69, 84, 72, 79, 68]] : List Bytes) 1 2 ?_
 refine RefR.cc 6 2 3 [0] (F93_ok K a0 ([[77, 69, 84, 72, 79, 68]] : List Bytes)) (fun r1 => ?_)
 refine RefR.nl 3 ?_
 refine Ref.sq ?_
 refine Ref.rn 3 ?_
 refine RefR.e1 0 1 1 [0, 2, 3, 7] [0, 1, 2] ?_
 refine RefR.cc 8 1 2 [0] (F39_ok K r1 ([79, 86, 69, 82, 82, 73, 68, 69] : Bytes)) (fun r2 => ?_)
 refine RefR.e1 2 1 3 [0, 2, 3, 8, 9] [0, 1, 2] ?_
 refine RefR.cc 10 3 4 [0] (F39_ok K r2.2 ([65, 66, 83, 84, 82, 65, 67, 84] : Bytes)) (fun r3 => ?_)
 refine RefR.e1 4 1 5 [0, 2, 3, 8, 10, 11] [0, 1, 2] ?_
 refine RefR.cc 12 5 6 [0] (F39_ok K r3.2 ([70, 73, 78, 65, 76] : Bytes)) (fun r4 => ?_)
 refine RefR.e0 (st' := ⟨[sP 0 0 0 0, sP 2 1 0 0, sP 3 2 0 0], [E65.o r4.2, oX3, .cells [.str [], bC r2.1, bC r3.1, bC r4.1, .nil, iC 0, iC 0, iC 0, .str [], .nil, .nil]], [], 1⟩) 6 6 12 [0, 2, 3] [0, 1, 2] ?_
 refine RefR.nl 12 ?_
 refine Ref.sq ?_
 refine Ref.rn 4 ?_
 refine RefR.e0 (st' := ⟨[sP 0 0 0 0, sP 2 1 0 0, sP 3 2 0 0, sP 16 0 0 0], [E65.o r4.2, oX3, .cells [.str [], bC r2.1, bC r3.1, bC r4.1, .nil, iC 0, iC 0, iC 0, .str [], .nil, .nil]], [], 1⟩) 0 1 1 [0, 2, 3, 16] [0, 1, 2] ?_
 refine RefR.conv (Conv.ob 2 (.cells [.str [], bC r2.1, bC r3.1, bC r4.1, E118.tree [], iC 0, iC 0, iC 0, .str [], .nil, .nil]) (OLe.cells (All2.cons (CLe.refl _) (All2.cons (CLe.refl _) (All2.cons (CLe.refl _) (All2.cons (CLe.refl _) (All2.cons (El.tree_nil E118) (All2.cons (CLe.refl _) (All2.cons (CLe.refl _) (All2.cons (CLe.refl _) (All2.cons (CLe.refl _) (All2.cons (CLe.refl _) (All2.cons (CLe.refl _) (All2.nil)))))))))))))) ?_
 refine RefR.conv (Conv.ob 2 (.cells [.str [], bC r2.1, bC r3.1, bC r4.1, E118.tree [], iC 0, iC 0, iC 0, .str [], E118.tree [], .nil]) (OLe.cells (All2.cons (CLe.refl _) (All2.cons (CLe.refl _) (All2.cons (CLe.refl _) (All2.cons (CLe.refl _) (All2.cons (CLe.refl _) (All2.cons (CLe.refl _) (All2.cons (CLe.refl _) (All2.cons (CLe.refl _) (All2.cons (CLe.refl _) (All2.cons (El.tree_nil E118) (All2.cons (CLe.refl _) (All2.nil)))))))))))))) ?_
 refine RefR.conv (Conv.ob 2 (.cells [.str [], bC r2.1, bC r3.1, bC r4.1, E118.tree [], iC 0, iC 0, iC 0, .str [], E118.tree [], E122.tree []]) (OLe.cells (All2.cons (CLe.refl _) (All2.cons (CLe.refl _) (All2.cons (CLe.refl _) (All2.cons (CLe.refl _) (All2.cons (CLe.refl _) (All2.cons (CLe.refl _) (All2.cons (CLe.refl _) (All2.cons (CLe.refl _) (All2.cons (CLe.refl _) (All2.cons (CLe.refl _) (All2.cons (El.tree_nil E122) (All2.nil)))))))))))))) ?_
 refine RefR.cc 17 1 2 [0, 2] (F94_ok K r4.2 (⟨([] : Bytes), r2.1, r3.1, r4.1, [], (⟨0, 0, 0, ([] : Bytes)⟩ : S91), [], []⟩ : S93)) (fun r5 => ?_)
 refine RefR.nl 2 ?_
 refine Ref.sq ?_
 refine Ref.rn 5 ?_
 refine RefR.e1 0 1 1 [0, 2, 3, 18] [0, 1, 2] ?_
 refine RefR.cc 19 1 2 [0] (F95_ok K r5.1) (fun r6 => ?_)
 refine RefR.e0 (st' := ⟨[sP 0 0 0 0, sP 2 1 0 0, sP 3 2 0 0], [E65.o r6.2, oX3, .cells [.str r5.2.fName, bC r5.2.fOver, bC r5.2.fAbstract, bC r5.2.fFinal, E118.tree r5.2.fParams, iC r5.2.fResult.fKind, iC r5.2.fResult.fLo, iC r5.2.fResult.fHi, .str r5.2.fResult.fName, E118.tree r6.1, E122.tree r5.2.fBody]], [], 1⟩) 2 2 4 [0, 2, 3] [0, 1, 2] ?_
 refine RefR.nl 4 ?_
 refine Ref.sq ?_
 refine Ref.rn 6 ?_
 refine RefR.e0 (st' := ⟨[sP 0 0 0 0, sP 2 1 0 0, sP 3 2 0 0, sP 21 0 0 0], [E65.o r6.2, oX3, .cells [.str r5.2.fName, bC r5.2.fOver, bC r5.2.fAbstract, bC r5.2.fFinal, E118.tree r5.2.fParams, iC r5.2.fResult.fKind, iC r5.2.fResult.fLo, iC r5.2.fResult.fHi, .str r5.2.fResult.fName, E118.tree r6.1, E122.tree r5.2.fBody]], [], 1⟩) 0 1 1 [0, 2, 3, 21] [0, 1, 2] ?_
 refine RefR.li 22 [] E9 ([[69, 78, 68, 95, 77, 69, 84, 72, 79, 68]] : List Bytes) 1 2 ?_
 refine RefR.cc 23 2 3 [0] (F97_ok K r6.2 1 ([[69, 78, 68, 95, 77, 69, 84, 72, 79, 68]] : List Bytes)) (fun r7 => ?_)
 refine RefR.e0 (st' := ⟨[sP 0 0 0 0, sP 2 1 0 0, sP 3 2 0 0], [E65.o r7.2, oX3, .cells [.str r5.2.fName, bC r5.2.fOver, bC r5.2.fAbstract, bC r5.2.fFinal, E118.tree r5.2.fParams, iC r5.2.fResult.fKind, iC r5.2.fResult.fLo, iC r5.2.fResult.fHi, .str r5.2.fResult.fName, E118.tree r6.1, E122.tree r7.1]], [], 1⟩) 3 2 5 [0, 2, 3] [0, 1, 2] ?_
 refine RefR.nl 5 ?_
 refine Ref.sq ?_
 refine Ref.rn 7 ?_
 refine RefR.e0 (st' := ⟨[sP 2 1 0 0, sP 3 2 0 0, sP 25 0 0 0], [E65.o r7.2, oX3, .cells [.str r5.2.fName, bC r5.2.fOver, bC r5.2.fAbstract, bC r5.2.fFinal, E118.tree r5.2.fParams, iC r5.2.fResult.fKind, iC r5.2.fResult.fLo, iC r5.2.fResult.fHi, .str r5.2.fResult.fName, E118.tree r6.1, E122.tree r7.1]], [], 1⟩) 0 1 1 [2, 3, 25] [0, 1, 2] ?_
 refine RefR.li 26 [] E9 ([[69, 78, 68, 95, 77, 69, 84, 72, 79, 68]] : List Bytes) 1 2 ?_
 refine RefR.cc 27 2 3 [0] (F93_ok K r7.2 ([[69, 78, 68, 95, 77, 69, 84, 72, 79, 68]] : List Bytes)) (fun r8 => ?_)
 refine RefR.nl 3 ?_
 refine Ref.sq ?_
 refine Ref.rn 8 ?_
 refine RefR.e0 (st' := ⟨[sP 2 1 0 0], [E65.o r8, .cells [.str r5.2.fName, bC r5.2.fOver, bC r5.2.fAbstract, bC r5.2.fFinal, E118.tree r5.2.fParams, iC r5.2.fResult.fKind, iC r5.2.fResult.fLo, iC r5.2.fResult.fHi, .str r5.2.fResult.fName, E118.tree r6.1, E122.tree r7.1]], [], 1⟩) 0 2 2 [2] [0, 1] ?_
 refine RefR.nl 2 ?_
 exact Ref.rt (t := ((⟨r5.2.fName, r5.2.fOver, r5.2.fAbstract, r5.2.fFinal, r5.2.fParams, (⟨r5.2.fResult.fKind, r5.2.fResult.fLo, r5.2.fResult.fHi, r5.2.fResult.fName⟩ : S91), r6.1, r7.1⟩ : S93), r8))
def F61 (K : Nat) (a0 : S65) : Option ((S60 × S65) ⊕ (S60 × S65)) :=
 ((fnS (F93 K a0 ([[73, 78, 84, 69, 82, 70, 65, 67, 69]] : List Bytes))).bind (fun r1 => ((fnS (F72 K r1)).bind (fun r2 => ((fnS (F93 K r2.2 ([[59]] : List Bytes))).bind (fun r3 => (bindS (blockS ((iter K (fun (u41 : S65 × (List S93)) => ((condM true (fnS (F29 K u41.1 ([[77, 69, 84, 72, 79, 68]] : List Bytes))) default).bind (fun r51 => (if r51 = true then (bindS (blockS ((fnS (F30 K u41.1 (Int.ofNat u41.2.length) 6)).bind (fun r56 => ((fnS (F93 K r56 ([[77, 69, 84, 72, 79, 68]] : List Bytes))).bind (fun r57 => ((fnS (F94 K r57 (⟨([] : Bytes), false, false, false, [], (⟨0, 0, 0, ([] : Bytes)⟩ : S91), [], []⟩ : S93))).bind (fun r58 => (chk [room ((u41.2.length + ([(⟨r58.2.fName, r58.2.fOver, r58.2.fAbstract, r58.2.fFinal, r58.2.fParams, (⟨r58.2.fResult.fKind, r58.2.fResult.fLo, r58.2.fResult.fHi, r58.2.fResult.fName⟩ : S91), r58.2.fVars, r58.2.fBody⟩ : S93)].length)) * 136)] (some (.inr (r58.1, (u41.2 ++ [(⟨r58.2.fName, r58.2.fOver, r58.2.fAbstract, r58.2.fFinal, r58.2.fParams, (⟨r58.2.fResult.fKind, r58.2.fResult.fLo, r58.2.fResult.fHi, r58.2.fResult.fName⟩ : S91), r58.2.fVars, r58.2.fBody⟩ : S93)])))))))))))) (fun (u55 : S65 × (List S93)) => (some (.inr (u55.1, u55.2))))) else (some (.inl (Sum.inl (u41.1, u41.2)))))))) (r3, [])).map .inl)) (fun (u31 : S65 × (List S93)) => ((fnS (F93 K u31.1 ([[69, 78, 68, 95, 73, 78, 84, 69, 82, 70, 65, 67, 69]] : List Bytes))).bind (fun r59 => (some (.inl ((⟨1, r2.1, ([] : Bytes), [], false, false, [], u31.2, [], 0, 0⟩ : S60), r59)))))))))))))
theorem F61_ok (K : Nat) (a0 : S65) : DFun Tryz.prog 61 [.c (.ptr 0 0 0)] [E65.o a0] (fnS (F61 K a0)) (fun r => .agg (E60.cs r.1)) (fun r => [E65.o r.2, .cells (E60.cs r.1)]) := by
 refine DFun.it Tryz.f61 (fun r => ⟨[sP 2 1 0 0], [E65.o r.2, .cells (E60.cs r.1)], [], 1⟩) ?_
 unfold F61
 refine Ref.sq ?_
 refine Ref.rn 0 ?_
 refine RefR.e0 (st' := ⟨[sP 0 0 0 0, sP 2 1 0 0], [E65.o a0, oX1], [], 1⟩) 0 1 1 [0, 2] [0, 1] ?_
 refine RefR.nl 1 ?_
 refine Ref.sq ?_
 refine Ref.rn 1 ?_
 refine RefR.e0 (st' := ⟨[sP 0 0 0 0, sP 2 1 0 0, sP 3 2 0 0], [E65.o a0, oX1, .cells [iC 1, .str [], .str [], .nil, bC false, bC false, .nil, .nil, .nil, iC 0, iC 0]], [], 1⟩) 0 3 3 [0, 2, 3] [0, 1, 2] ?_
 refine RefR.nl 3 ?_
 refine Ref.sq ?_
 refine Ref.rn 2 ?_
 refine RefR.e0 (st' := ⟨[sP 0 0 0 0, sP 2 1 0 0, sP 3 2 0 0, sP 6 0 0 0], [E65.o a0, oX1, .cells [iC 1, .str [], .str [], .nil, bC false, bC false, .nil, .nil, .nil, iC 0, iC 0]], [], 1⟩) 0 1 1 [0, 2, 3, 6] [0, 1, 2] ?_
 refine RefR.li 7 [] E9 ([[73, 78, 84, 69, 82, 70, 65, 67, 69]] : List Bytes) 1 2 ?_
 refine RefR.cc 8 2 3 [0] (F93_ok K a0 ([[73, 78, 84, 69, 82, 70, 65, 67, 69]] : List Bytes)) (fun r1 => ?_)
 refine RefR.nl 3 ?_
 refine Ref.sq ?_
 refine Ref.rn 3 ?_
 refine RefR.e1 0 1 1 [0, 2, 3, 9] [0, 1, 2] ?_
 refine RefR.cc 10 1 2 [0] (F72_ok K r1) (fun r2 => ?_)
 refine RefR.e0 (st' := ⟨[sP 0 0 0 0, sP 2 1 0 0, sP 3 2 0 0], [E65.o r2.2, oX1, .cells [iC 1, .str r2.1, .str [], .nil, bC false, bC false, .nil, .nil, .nil, iC 0, iC 0]], [], 1⟩) 2 2 4 [0, 2, 3] [0, 1, 2] ?_
 refine RefR.nl 4 ?_
 refine Ref.sq ?_
 refine Ref.rn 4 ?_
 refine RefR.e0 (st' := ⟨[sP 0 0 0 0, sP 2 1 0 0, sP 3 2 0 0, sP 12 0 0 0], [E65.o r2.2, oX1, .cells [iC 1, .str r2.1, .str [], .nil, bC false, bC false, .nil, .nil, .nil, iC 0, iC 0]], [], 1⟩) 0 1 1 [0, 2, 3, 12] [0, 1, 2] ?_
 refine RefR.li 13 [] E9 ([[59]] : List Bytes) 1 2 ?_
 refine RefR.cc 14 2 3 [0] (F93_ok K r2.2 ([[59]] : List Bytes)) (fun r3 => ?_)
 refine RefR.nl 3 ?_
 refine Ref.sq ?_
 refine Ref.ce (.block 0 (cd (bd Tryz.f61) [1, 1, 1, 1, 1, 0, 0])) ?_
 refine Ref.block (go1 := fun u31 => ⟨[sP 0 0 0 0, sP 2 1 0 0, sP 3 2 0 0], [E65.o u31.1, oX1, .cells [iC 1, .str r2.1, .str [], .nil, bC false, bC false, .nil, .own 3 u31.2.length, .nil, iC 0, iC 0], E93.row u31.2], [], 1⟩) ?_ (fun _ h => by cases h) (fun u31 => ?_)
 ·
  refine Ref.ce (.loop (cd (bd Tryz.f61) [1, 1, 1, 1, 1, 0, 0, 0])) ?_
  refine Ref.conv (Conv.adoptCell (st' := ⟨[(14, .tup []), (13, .c (E9.tree ([[59]] : List Bytes))), sP 0 0 0 0, sP 2 1 0 0, sP 3 2 0 0, sP 12 0 0 0], [E65.o r3, oX1, .cells [iC 1, .str r2.1, .str [], .nil, bC false, bC false, .nil, .own 4 0, .nil, iC 0, iC 0], .dead, E93.row []], [], 1⟩) 2 7 E93.ty E93.w (E93.at []) (by kernel_rfl)) ?_
  refine Ref.ck ⟨[sP 0 0 0 0, sP 2 1 0 0, sP 3 2 0 0], [E65.o r3, oX1, .cells [iC 1, .str r2.1, .str [], .nil, bC false, bC false, .nil, .own 3 0, .nil, iC 0, iC 0], E93.row []], [], 1⟩ [0, 2, 3] [0, 1, 2, 4] ?_
  refine Ref.loop (hd := fun u41 => ⟨[sP 0 0 0 0, sP 2 1 0 0, sP 3 2 0 0], [E65.o u41.1, oX1, .cells [iC 1, .str r2.1, .str [], .nil, bC false, bC false, .nil, .own 3 u41.2.length, .nil, iC 0, iC 0], E93.row u41.2], [], 1⟩) K (r3, []) (by kernel_rfl) (fun u41 => ?_)
  refine Ref.sq ?_
  refine Ref.sq ?_
  refine Ref.rn 5 ?_
  refine RefR.e0 (st' := ⟨[sP 0 0 0 0, sP 2 1 0 0, sP 3 2 0 0, sP 15 0 0 0], [E65.o u41.1, oX1, .cells [iC 1, .str r2.1, .str [], .nil, bC false, bC false, .nil, .own 3 u41.2.length, .nil, iC 0, iC 0], E93.row u41.2], [], 1⟩) 0 1 1 [0, 2, 3, 15] [0, 1, 2, 3] ?_
  refine RefR.li 16 [] E9 ([[77, 69, 84, 72, 79, 68]] : List Bytes) 1 2 ?_
  refine RefR.lookC (t := 17) (g := []) (b := true) 2 3 [0] (default : Bool) rfl (by kernel_rfl) (F29_ok K u41.1 ([[77, 69, 84, 72, 79, 68]] : List Bytes)) (fun _ => rfl) (fun r51 => ?_)
  refine RefR.nl 3 ?_
  refine Ref.cn (.tmp 17) r51 (fun hc => ?_) (fun hc => ?_)
  ·
   refine Ref.sk ?_
   refine Ref.ce (.block 1 (cd (bd Tryz.f61) [1, 1, 1, 1, 1, 0, 0, 0, 1, 0])) ?_
   refine Ref.block (go1 := fun u55 => ⟨[sP 0 0 0 0, sP 2 1 0 0, sP 3 2 0 0], [E65.o u55.1, oX1, .cells [iC 1, .str r2.1, .str [], .nil, bC false, bC false, .nil, .own 3 u55.2.length, .nil, iC 0, iC 0], E93.row u55.2], [], 1⟩) ?_ (fun a => match a with | .inl _ => (fun h => by cases h) | .inr _ => (fun h => by cases h)) (fun u55 => ?_)
   ·
    refine Ref.sq ?_
    refine Ref.rn 6 ?_
    refine RefR.e1 0 4 4 [0, 2, 3, 18, 21] [0, 1, 2, 3] ?_
    refine RefR.cc 22 4 5 [0] (F30_ok K u41.1 (Int.ofNat u41.2.length) 6) (fun r56 => ?_)
    refine RefR.nl 5 ?_
    refine Ref.sq ?_
    refine Ref.rn 7 ?_
    refine RefR.e0 (st' := ⟨[sP 0 0 0 0, sP 2 1 0 0, sP 3 2 0 0, sP 23 0 0 0], [E65.o r56, oX1, .cells [iC 1, .str r2.1, .str [], .nil, bC false, bC false, .nil, .own 3 u41.2.length, .nil, iC 0, iC 0], E93.row u41.2], [], 1⟩) 0 1 1 [0, 2, 3, 23] [0, 1, 2, 3] ?_
    refine RefR.li 24 [] E9 ([[77, 69, 84, 72, 79, 68]] : List Bytes) 1 2 ?_
    refine RefR.cc 25 2 3 [0] (F93_ok K r56 ([[77, 69, 84, 72, 79, 68]] : List Bytes)) (fun r57 => ?_)
    refine RefR.nl 3 ?_
    refine Ref.sq ?_
    refine Ref.rn 8 ?_
    refine RefR.e0 (st' := ⟨[sP 0 0 0 0, sP 2 1 0 0, sP 3 2 0 0, sP 4 4 0 0], [E65.o r57, oX1, .cells [iC 1, .str r2.1, .str [], .nil, bC false, bC false, .nil, .own 3 u41.2.length, .nil, iC 0, iC 0], E93.row u41.2, oX3], [], 1⟩) 0 1 1 [0, 2, 3, 4] [0, 1, 2, 3, 5] ?_
    refine RefR.nl 1 ?_
    refine Ref.sq ?_
    refine Ref.rn 9 ?_
    refine RefR.e0 (st' := ⟨[sP 0 0 0 0, sP 2 1 0 0, sP 3 2 0 0, sP 4 4 0 0, sP 26 0 0 0], [E65.o r57, oX1, .cells [iC 1, .str r2.1, .str [], .nil, bC false, bC false, .nil, .own 3 u41.2.length, .nil, iC 0, iC 0], E93.row u41.2, oX3], [], 1⟩) 0 1 1 [0, 2, 3, 4, 26] [0, 1, 2, 3, 4] ?_
    refine RefR.conv (Conv.ob 4 (.cells [.str [], bC false, bC false, bC false, E118.tree [], iC 0, iC 0, iC 0, .str [], .nil, .nil]) (OLe.cells (All2.cons (CLe.refl _) (All2.cons (CLe.refl _) (All2.cons (CLe.refl _) (All2.cons (CLe.refl _) (All2.cons (El.tree_nil E118) (All2.cons (CLe.refl _) (All2.cons (CLe.refl _) (All2.cons (CLe.refl _) (All2.cons (CLe.refl _) (All2.cons (CLe.refl _) (All2.cons (CLe.refl _) (All2.nil)))))))))))))) ?_
    refine RefR.conv (Conv.ob 4 (.cells [.str [], bC false, bC false, bC false, E118.tree [], iC 0, iC 0, iC 0, .str [], E118.tree [], .nil]) (OLe.cells (All2.cons (CLe.refl _) (All2.cons (CLe.refl _) (All2.cons (CLe.refl _) (All2.cons (CLe.refl _) (All2.cons (CLe.refl _) (All2.cons (CLe.refl _) (All2.cons (CLe.refl _) (All2.cons (CLe.refl _) (All2.cons (CLe.refl _) (All2.cons (El.tree_nil E118) (All2.cons (CLe.refl _) (All2.nil)))))))))))))) ?_
    refine RefR.conv (Conv.ob 4 (.cells [.str [], bC false, bC false, bC false, E118.tree [], iC 0, iC 0, iC 0, .str [], E118.tree [], E122.tree []]) (OLe.cells (All2.cons (CLe.refl _) (All2.cons (CLe.refl _) (All2.cons (CLe.refl _) (All2.cons (CLe.refl _) (All2.cons (CLe.refl _) (All2.cons (CLe.refl _) (All2.cons (CLe.refl _) (All2.cons (CLe.refl _) (All2.cons (CLe.refl _) (All2.cons (CLe.refl _) (All2.cons (El.tree_nil E122) (All2.nil)))))))))))))) ?_
    refine RefR.cc 27 1 2 [0, 4] (F94_ok K r57 (⟨([] : Bytes), false, false, false, [], (⟨0, 0, 0, ([] : Bytes)⟩ : S91), [], []⟩ : S93)) (fun r58 => ?_)
    refine RefR.nl 2 ?_
    refine Ref.rn 10 ?_
    refine RefR.e0 (st' := ⟨[sP 0 0 0 0, sP 2 1 0 0, sP 3 2 0 0, (29, .c (.own 3 u41.2.length)), (30, .agg [.str r58.2.fName, bC r58.2.fOver, bC r58.2.fAbstract, bC r58.2.fFinal, E118.tree r58.2.fParams, iC r58.2.fResult.fKind, iC r58.2.fResult.fLo, iC r58.2.fResult.fHi, .str r58.2.fResult.fName, E118.tree r58.2.fVars, E122.tree r58.2.fBody])], [E65.o r58.1, oX1, .cells [iC 1, .str r2.1, .str [], .nil, bC false, bC false, .nil, .own 3 u41.2.length, .nil, iC 0, iC 0], E93.row u41.2], [], 1⟩) 0 3 3 [0, 2, 3, 29, 30] [0, 1, 2, 3] ?_
    refine RefR.e0 (st' := ⟨[sP 0 0 0 0, sP 2 1 0 0, sP 3 2 0 0, (29, .c (.own 3 u41.2.length)), (31, .c (.own 4 1))], [E65.o r58.1, oX1, .cells [iC 1, .str r2.1, .str [], .nil, bC false, bC false, .nil, .own 3 u41.2.length, .nil, iC 0, iC 0], E93.row u41.2, .row 93 11 1 (tbl [[.str r58.2.fName, bC r58.2.fOver, bC r58.2.fAbstract, bC r58.2.fFinal, E118.tree r58.2.fParams, iC r58.2.fResult.fKind, iC r58.2.fResult.fLo, iC r58.2.fResult.fHi, .str r58.2.fResult.fName, E118.tree r58.2.fVars, E122.tree r58.2.fBody]])], [], 1⟩) 3 1 4 [0, 2, 3, 29, 31] [0, 1, 2, 3, 4] ?_
    refine RefR.conv (Conv.ob 4 (E93.row [(⟨r58.2.fName, r58.2.fOver, r58.2.fAbstract, r58.2.fFinal, r58.2.fParams, (⟨r58.2.fResult.fKind, r58.2.fResult.fLo, r58.2.fResult.fHi, r58.2.fResult.fName⟩ : S91), r58.2.fVars, r58.2.fBody⟩ : S93)]) (El.row_build E93 [(⟨r58.2.fName, r58.2.fOver, r58.2.fAbstract, r58.2.fFinal, r58.2.fParams, (⟨r58.2.fResult.fKind, r58.2.fResult.fLo, r58.2.fResult.fHi, r58.2.fResult.fName⟩ : S91), r58.2.fVars, r58.2.fBody⟩ : S93)] rfl (by kernel_rfl))) ?_
    refine RefR.conv (Conv.sl 31 (.c (.own 4 ([(⟨r58.2.fName, r58.2.fOver, r58.2.fAbstract, r58.2.fFinal, r58.2.fParams, (⟨r58.2.fResult.fKind, r58.2.fResult.fLo, r58.2.fResult.fHi, r58.2.fResult.fName⟩ : S91), r58.2.fVars, r58.2.fBody⟩ : S93)].length))) (DLe.c (CLe.own (by simp <;> omega)))) ?_
    refine RefR.evC (vs := [room ((u41.2.length + ([(⟨r58.2.fName, r58.2.fOver, r58.2.fAbstract, r58.2.fFinal, r58.2.fParams, (⟨r58.2.fResult.fKind, r58.2.fResult.fLo, r58.2.fResult.fHi, r58.2.fResult.fName⟩ : S91), r58.2.fVars, r58.2.fBody⟩ : S93)].length)) * 136)]) (st' := ⟨[sP 0 0 0 0, sP 2 1 0 0, sP 3 2 0 0, (32, .c (.own 4 (u41.2.length + ([(⟨r58.2.fName, r58.2.fOver, r58.2.fAbstract, r58.2.fFinal, r58.2.fParams, (⟨r58.2.fResult.fKind, r58.2.fResult.fLo, r58.2.fResult.fHi, r58.2.fResult.fName⟩ : S91), r58.2.fVars, r58.2.fBody⟩ : S93)].length))))], [E65.o r58.1, oX1, .cells [iC 1, .str r2.1, .str [], .nil, bC false, bC false, .nil, .own 3 u41.2.length, .nil, iC 0, iC 0], .dead, .row 93 11 (u41.2.length + ([(⟨r58.2.fName, r58.2.fOver, r58.2.fAbstract, r58.2.fFinal, r58.2.fParams, (⟨r58.2.fResult.fKind, r58.2.fResult.fLo, r58.2.fResult.fHi, r58.2.fResult.fName⟩ : S91), r58.2.fVars, r58.2.fBody⟩ : S93)].length)) fun i j => bif Nat.blt i u41.2.length then E93.at u41.2 i j else (E93.at [(⟨r58.2.fName, r58.2.fOver, r58.2.fAbstract, r58.2.fFinal, r58.2.fParams, (⟨r58.2.fResult.fKind, r58.2.fResult.fLo, r58.2.fResult.fHi, r58.2.fResult.fName⟩ : S91), r58.2.fVars, r58.2.fBody⟩ : S93)]) (i - u41.2.length) j], [], 1⟩) 4 1 5 [0, 2, 3, 32] [0, 1, 2, 3, 5] rfl (by kernel_rfl) ?_
    refine RefR.conv (Conv.ob 4 (E93.row (u41.2 ++ [(⟨r58.2.fName, r58.2.fOver, r58.2.fAbstract, r58.2.fFinal, r58.2.fParams, (⟨r58.2.fResult.fKind, r58.2.fResult.fLo, r58.2.fResult.fHi, r58.2.fResult.fName⟩ : S91), r58.2.fVars, r58.2.fBody⟩ : S93)])) (El.row_append E93 u41.2 [(⟨r58.2.fName, r58.2.fOver, r58.2.fAbstract, r58.2.fFinal, r58.2.fParams, (⟨r58.2.fResult.fKind, r58.2.fResult.fLo, r58.2.fResult.fHi, r58.2.fResult.fName⟩ : S91), r58.2.fVars, r58.2.fBody⟩ : S93)] rfl rfl)) ?_
    refine RefR.conv (Conv.sl 32 (.c (.own 4 ((u41.2 ++ [(⟨r58.2.fName, r58.2.fOver, r58.2.fAbstract, r58.2.fFinal, r58.2.fParams, (⟨r58.2.fResult.fKind, r58.2.fResult.fLo, r58.2.fResult.fHi, r58.2.fResult.fName⟩ : S91), r58.2.fVars, r58.2.fBody⟩ : S93)]).length))) (DLe.c (CLe.own (by simp <;> omega)))) ?_
    refine RefR.e0 (st' := ⟨[sP 0 0 0 0, sP 2 1 0 0, sP 3 2 0 0], [E65.o r58.1, oX1, .cells [iC 1, .str r2.1, .str [], .nil, bC false, bC false, .nil, .own 3 ((u41.2 ++ [(⟨r58.2.fName, r58.2.fOver, r58.2.fAbstract, r58.2.fFinal, r58.2.fParams, (⟨r58.2.fResult.fKind, r58.2.fResult.fLo, r58.2.fResult.fHi, r58.2.fResult.fName⟩ : S91), r58.2.fVars, r58.2.fBody⟩ : S93)]).length), .nil, iC 0, iC 0], E93.row (u41.2 ++ [(⟨r58.2.fName, r58.2.fOver, r58.2.fAbstract, r58.2.fFinal, r58.2.fParams, (⟨r58.2.fResult.fKind, r58.2.fResult.fLo, r58.2.fResult.fHi, r58.2.fResult.fName⟩ : S91), r58.2.fVars, r58.2.fBody⟩ : S93)])], [], 1⟩) 5 2 7 [0, 2, 3] [0, 1, 2, 4] ?_
    refine RefR.nl 7 ?_
    exact Ref.n0 (t := (r58.1, (u41.2 ++ [(⟨r58.2.fName, r58.2.fOver, r58.2.fAbstract, r58.2.fFinal, r58.2.fParams, (⟨r58.2.fResult.fKind, r58.2.fResult.fLo, r58.2.fResult.fHi, r58.2.fResult.fName⟩ : S91), r58.2.fVars, r58.2.fBody⟩ : S93)])))
   ·
    exact Ref.n0 (t := (u55.1, u55.2))
  ·
   refine Ref.ck ⟨[sP 0 0 0 0, sP 2 1 0 0, sP 3 2 0 0], [E65.o u41.1, oX1, .cells [iC 1, .str r2.1, .str [], .nil, bC false, bC false, .nil, .own 3 u41.2.length, .nil, iC 0, iC 0], E93.row u41.2], [], 1⟩ [0, 2, 3] [0, 1, 2, 3] ?_
   exact Ref.xt 0 (t := (Sum.inl (u41.1, u41.2)))
 ·
  refine Ref.sq ?_
  refine Ref.rn 11 ?_
  refine RefR.e0 (st' := ⟨[sP 2 1 0 0, sP 3 2 0 0, sP 34 0 0 0], [E65.o u31.1, oX1, .cells [iC 1, .str r2.1, .str [], .nil, bC false, bC false, .nil, .own 3 u31.2.length, .nil, iC 0, iC 0], E93.row u31.2], [], 1⟩) 0 1 1 [2, 3, 34] [0, 1, 2, 3] ?_
  refine RefR.li 35 [] E9 ([[69, 78, 68, 95, 73, 78, 84, 69, 82, 70, 65, 67, 69]] : List Bytes) 1 2 ?_
  refine RefR.cc 36 2 3 [0] (F93_ok K u31.1 ([[69, 78, 68, 95, 73, 78, 84, 69, 82, 70, 65, 67, 69]] : List Bytes)) (fun r59 => ?_)
  refine RefR.nl 3 ?_
  refine Ref.sq ?_
  refine Ref.rn 12 ?_
  refine RefR.e0 (st' := ⟨[sP 2 1 0 0], [E65.o r59, .cells [iC 1, .str r2.1, .str [], .nil, bC false, bC false, .nil, .own 2 u31.2.length, .nil, iC 0, iC 0], E93.row u31.2], [], 1⟩) 0 2 2 [2] [0, 1, 3] ?_
  refine RefR.nl 2 ?_
  refine Ref.conv (Conv.ob 1 (.cells [iC 1, .str r2.1, .str [], E9.tree [], bC false, bC false, .nil, .own 2 u31.2.length, .nil, iC 0, iC 0]) (OLe.cells (All2.cons (CLe.refl _) (All2.cons (CLe.refl _) (All2.cons (CLe.refl _) (All2.cons (El.tree_nil E9) (All2.cons (CLe.refl _) (All2.cons (CLe.refl _) (All2.cons (CLe.refl _) (All2.cons (CLe.refl _) (All2.cons (CLe.refl _) (All2.cons (CLe.refl _) (All2.cons (CLe.refl _) (All2.nil)))))))))))))) ?_
  refine Ref.conv (Conv.ob 1 (.cells [iC 1, .str r2.1, .str [], E9.tree [], bC false, bC false, E118.tree [], .own 2 u31.2.length, .nil, iC 0, iC 0]) (OLe.cells (All2.cons (CLe.refl _) (All2.cons (CLe.refl _) (All2.cons (CLe.refl _) (All2.cons (CLe.refl _) (All2.cons (CLe.refl _) (All2.cons (CLe.refl _) (All2.cons (El.tree_nil E118) (All2.cons (CLe.refl _) (All2.cons (CLe.refl _) (All2.cons (CLe.refl _) (All2.cons (CLe.refl _) (All2.nil)))))))))))))) ?_
  refine Ref.conv (Conv.freeze (st' := ⟨[sP 2 1 0 0], [E65.o r59, .cells [iC 1, .str r2.1, .str [], E9.tree [], bC false, bC false, E118.tree [], E93.tree u31.2, .nil, iC 0, iC 0], .dead], [], 1⟩) 2 (by kernel_rfl)) ?_
  refine Ref.conv (Conv.ob 1 (.cells [iC 1, .str r2.1, .str [], E9.tree [], bC false, bC false, E118.tree [], E93.tree u31.2, E122.tree [], iC 0, iC 0]) (OLe.cells (All2.cons (CLe.refl _) (All2.cons (CLe.refl _) (All2.cons (CLe.refl _) (All2.cons (CLe.refl _) (All2.cons (CLe.refl _) (All2.cons (CLe.refl _) (All2.cons (CLe.refl _) (All2.cons (CLe.refl _) (All2.cons (El.tree_nil E122) (All2.cons (CLe.refl _) (All2.cons (CLe.refl _) (All2.nil)))))))))))))) ?_
  refine Ref.ck ⟨[sP 2 1 0 0], [E65.o r59, .cells [iC 1, .str r2.1, .str [], E9.tree [], bC false, bC false, E118.tree [], E93.tree u31.2, E122.tree [], iC 0, iC 0]], [], 1⟩ [2] [0, 1] ?_
  exact Ref.rt (t := ((⟨1, r2.1, ([] : Bytes), [], false, false, [], u31.2, [], 0, 0⟩ : S60), r59))
def F62 (K : Nat) (a0 : S65) : Option ((S60 × S65) ⊕ (S60 × S65)) :=
 ((fnS (F93 K a0 ([[67, 76, 65, 83, 83]] : List Bytes))).bind (fun r1 => ((fnS (F39 K r1 ([65, 66, 83, 84, 82, 65, 67, 84] : Bytes))).bind (fun r2 => ((fnS (F39 K r2.2 ([70, 73, 78, 65, 76] : Bytes))).bind (fun r3 => ((fnS (F72 K r3.2)).bind (fun r4 => ((fnS (F39 K r4.2 ([69, 88, 84, 69, 78, 68, 83] : Bytes))).bind (fun r5 => (bindS (if r5.1 = true then ((fnS (F72 K r5.2)).bind (fun r8 => (some (.inr (r8.2, r8.1))))) else (some (.inr (r5.2, ([] : Bytes))))) (fun (u7 : S65 × Bytes) => ((fnS (F39 K u7.1 ([73, 77, 80, 76, 69, 77, 69, 78, 84, 83] : Bytes))).bind (fun r9 => (bindS (if r9.1 = true then (bindS (blockS ((iter K (fun (u173 : S65 × (List Bytes) × Bool) => ((condM u173.2.2 (fnS (F21 K u173.1)) default).bind (fun r190 => (if (u173.2.2 && r190) = true then (bindS (blockS ((condM true (fnS (F69 K u173.1 1)) default).bind (fun r198 => (bindS (if r198 = true then ((fnS (F30 K u173.1 (Int.ofNat u173.2.1.length) 4)).bind (fun r201 => (some (.inr (r201))))) else (some (.inr (u173.1)))) (fun (u200 : S65) => ((fnS (F72 K u200)).bind (fun r202 => (chk [room ((u173.2.1.length + ([r202.1].length)) * 16)] (some (.inr (r202.2, (u173.2.1 ++ [r202.1])))))))))))) (fun (u197 : S65 × (List Bytes)) => ((fnS (F39 K u197.1 ([44] : Bytes))).bind (fun r204 => (some (.inr (r204.2, u197.2, r204.1))))))) else (some (.inl (Sum.inl (u173.1, u173.2.1)))))))) (r9.2, [], true)).map .inl)) (fun (u156 : S65 × (List Bytes)) => (some (.inr (u156.1, u156.2))))) else (some (.inr (r9.2, [])))) (fun (u107 : S65 × (List Bytes)) => ((fnS (F93 K u107.1 ([[59]] : List Bytes))).bind (fun r205 => ((fnS (F95 K r205)).bind (fun r206 => (bindS (blockS ((iter K (fun (u244 : S65 × (List S93)) => ((condM true (fnS (F29 K u244.1 ([[77, 69, 84, 72, 79, 68]] : List Bytes))) default).bind (fun r254 => (if r254 = true then (bindS (blockS ((fnS (F30 K u244.1 (Int.ofNat u244.2.length) 6)).bind (fun r259 => ((fnS (F96 K r259)).bind (fun r260 => (chk [room ((u244.2.length + ([r260.1].length)) * 136)] (some (.inr (r260.2, (u244.2 ++ [r260.1])))))))))) (fun (u258 : S65 × (List S93)) => (some (.inr (u258.1, u258.2))))) else (some (.inl (Sum.inl (u244.1, u244.2)))))))) (r206.2, [])).map .inl)) (fun (u234 : S65 × (List S93)) => ((fnS (F93 K u234.1 ([[69, 78, 68, 95, 67, 76, 65, 83, 83]] : List Bytes))).bind (fun r262 => (some (.inl ((⟨2, r4.1, u7.2, u107.2, r2.1, r3.1, r206.1, u234.2, [], 0, 0⟩ : S60), r262)))))))))))))))))))))))))))
theorem F62_ok (K : Nat) (a0 : S65) : DFun Tryz.prog 62 [.c (.ptr 0 0 0)] [E65.o a0] (fnS (F62 K a0)) (fun r => .agg (E60.cs r.1)) (fun r => [E65.o r.2, .cells (E60.cs r.1)]) := by
 refine DFun.it Tryz.f62 (fun r => ⟨[sP 2 1 0 0], [E65.o r.2, .cells (E60.cs r.1)], [], 1⟩) ?_
 unfold F62
 refine Ref.sq ?_
 refine Ref.rn 0 ?_
 refine RefR.e0 (st' := ⟨[sP 0 0 0 0, sP 2 1 0 0], [E65.o a0, oX1], [], 1⟩) 0 1 1 [0, 2] [0, 1] ?_
 refine RefR.nl 1 ?_
 refine Ref.sq ?_
 refine Ref.rn 1 ?_
 refine RefR.e0 (st' := ⟨[sP 0 0 0 0, sP 2 1 0 0, sP 3 2 0 0], [E65.o a0, oX1, .cells [iC 2, .str [], .str [], .nil, bC false, bC false, .nil, .nil, .nil, iC 0, iC 0]], [], 1⟩) 0 3 3 [0, 2, 3] [0, 1, 2] ?_
 refine RefR.nl 3 ?_
 refine Ref.sq ?_
 refine Ref.rn 2 ?_
 refine RefR.e0 (st' := ⟨[sP 0 0 0 0, sP 2 1 0 0, sP 3 2 0 0, sP 6 0 0 0], [E65.o a0, oX1, .cells [iC 2, .str [], .str [], .nil, bC false, bC false, .nil, .nil, .nil, iC 0, iC 0]], [], 1⟩) 0 1 1 [0, 2, 3, 6] [0, 1, 2] ?_
 refine RefR.li 7 [] E9 ([[67, 76, 65, 83, 83]] : List Bytes) 1 2 ?_
 refine RefR.cc 8 2 3 [0] (F93_ok K a0 ([[67, 76, 65, 83, 83]] : List Bytes)) (fun r1 => ?_)
 refine RefR.nl 3 ?_
 refine Ref.sq ?_
 refine Ref.rn 3 ?_
 refine RefR.e1 0 1 1 [0, 2, 3, 9] [0, 1, 2] ?_
 refine RefR.cc 10 1 2 [0] (F39_ok K r1 ([65, 66, 83, 84, 82, 65, 67, 84] : Bytes)) (fun r2 => ?_)
 refine RefR.e1 2 1 3 [0, 2, 3, 10, 11] [0, 1, 2] ?_
 refine RefR.cc 12 3 4 [0] (F39_ok K r2.2 ([70, 73, 78, 65, 76] : Bytes)) (fun r3 => ?_)
 refine RefR.e0 (st' := ⟨[sP 0 0 0 0, sP 2 1 0 0, sP 3 2 0 0], [E65.o r3.2, oX1, .cells [iC 2, .str [], .str [], .nil, bC r2.1, bC r3.1, .nil, .nil, .nil, iC 0, iC 0]], [], 1⟩) 4 4 8 [0, 2, 3] [0, 1, 2] ?_
 refine RefR.nl 8 ?_
 refine Ref.sq ?_
 refine Ref.rn 4 ?_
 refine RefR.e1 0 1 1 [0, 2, 3, 15] [0, 1, 2] ?_
 refine RefR.cc 16 1 2 [0] (F72_ok K r3.2) (fun r4 => ?_)
 refine RefR.e0 (st' := ⟨[sP 0 0 0 0, sP 2 1 0 0, sP 3 2 0 0], [E65.o r4.2, oX1, .cells [iC 2, .str r4.1, .str [], .nil, bC r2.1, bC r3.1, .nil, .nil, .nil, iC 0, iC 0]], [], 1⟩) 2 2 4 [0, 2, 3] [0, 1, 2] ?_
 refine RefR.nl 4 ?_
 refine Ref.sq ?_
 refine Ref.sq ?_
 refine Ref.rn 5 ?_
 refine RefR.e1 0 1 1 [0, 2, 3, 18] [0, 1, 2] ?_
 refine RefR.cc 19 1 2 [0] (F39_ok K r4.2 ([69, 88, 84, 69, 78, 68, 83] : Bytes)) (fun r5 => ?_)
 refine RefR.nl 2 ?_
 refine Ref.bind (go1 := fun u7 => ⟨[sP 0 0 0 0, sP 2 1 0 0, sP 3 2 0 0], [E65.o u7.1, oX1, .cells [iC 2, .str r4.1, .str u7.2, .nil, bC r2.1, bC r3.1, .nil, .nil, .nil, iC 0, iC 0]], [], 1⟩) ?_ (fun u7 => ?_)
 ·
  refine Ref.cn (.tmp 19) r5.1 (fun hc => ?_) (fun hc => ?_)
  ·
   refine Ref.rn 6 ?_
   refine RefR.e1 0 1 1 [0, 2, 3, 20] [0, 1, 2] ?_
   refine RefR.cc 21 1 2 [0] (F72_ok K r5.2) (fun r8 => ?_)
   refine RefR.e0 (st' := ⟨[sP 0 0 0 0, sP 2 1 0 0, sP 3 2 0 0], [E65.o r8.2, oX1, .cells [iC 2, .str r4.1, .str r8.1, .nil, bC r2.1, bC r3.1, .nil, .nil, .nil, iC 0, iC 0]], [], 1⟩) 2 2 4 [0, 2, 3] [0, 1, 2] ?_
   refine RefR.nl 4 ?_
   exact Ref.n0 (t := (r8.2, r8.1))
  ·
   refine Ref.sk ?_
   refine Ref.ck ⟨[sP 0 0 0 0, sP 2 1 0 0, sP 3 2 0 0], [E65.o r5.2, oX1, .cells [iC 2, .str r4.1, .str [], .nil, bC r2.1, bC r3.1, .nil, .nil, .nil, iC 0, iC 0]], [], 1⟩ [0, 2, 3] [0, 1, 2] ?_
   exact Ref.n0 (t := (r5.2, ([] : Bytes)))
 ·
  refine Ref.sq ?_
  refine Ref.sq ?_
  refine Ref.rn 7 ?_
  refine RefR.e1 0 1 1 [0, 2, 3, 23] [0, 1, 2] ?_
  refine RefR.cc 24 1 2 [0] (F39_ok K u7.1 ([73, 77, 80, 76, 69, 77, 69, 78, 84, 83] : Bytes)) (fun r9 => ?_)
  refine RefR.nl 2 ?_
  refine Ref.bind (go1 := fun u107 => ⟨[sP 0 0 0 0, sP 2 1 0 0, sP 3 2 0 0], [E65.o u107.1, oX1, .cells [iC 2, .str r4.1, .str u7.2, .own 3 u107.2.length, bC r2.1, bC r3.1, .nil, .nil, .nil, iC 0, iC 0], E9.row u107.2], [], 1⟩) ?_ (fun u107 => ?_)
  ·
   refine Ref.cn (.tmp 24) r9.1 (fun hc => ?_) (fun hc => ?_)
   ·
    refine Ref.sq ?_
    refine Ref.rn 8 ?_
    refine RefR.e0 (st' := ⟨[sP 0 0 0 0, sP 2 1 0 0, sP 3 2 0 0, sB 4 true], [E65.o r9.2, oX1, .cells [iC 2, .str r4.1, .str u7.2, .nil, bC r2.1, bC r3.1, .nil, .nil, .nil, iC 0, iC 0]], [], 1⟩) 0 1 1 [0, 2, 3, 4] [0, 1, 2] ?_
    refine RefR.nl 1 ?_
    refine Ref.ce (.block 0 (cd (bd Tryz.f62) [1, 1, 1, 1, 1, 1, 0, 1, 0, 1, 0])) ?_
    refine Ref.block (go1 := fun u156 => ⟨[sP 0 0 0 0, sP 2 1 0 0, sP 3 2 0 0], [E65.o u156.1, oX1, .cells [iC 2, .str r4.1, .str u7.2, .own 3 u156.2.length, bC r2.1, bC r3.1, .nil, .nil, .nil, iC 0, iC 0], E9.row u156.2], [], 1⟩) ?_ (fun _ h => by cases h) (fun u156 => ?_)
    ·
     refine Ref.ce (.loop (cd (bd Tryz.f62) [1, 1, 1, 1, 1, 1, 0, 1, 0, 1, 0, 0])) ?_
     refine Ref.conv (Conv.adoptCell (st' := ⟨[sP 0 0 0 0, sP 2 1 0 0, sP 3 2 0 0, sB 4 true], [E65.o r9.2, oX1, .cells [iC 2, .str r4.1, .str u7.2, .own 3 0, bC r2.1, bC r3.1, .nil, .nil, .nil, iC 0, iC 0], E9.row []], [], 1⟩) 2 3 E9.ty E9.w (E9.at []) (by kernel_rfl)) ?_
     refine Ref.loop (hd := fun u173 => ⟨[sP 0 0 0 0, sP 2 1 0 0, sP 3 2 0 0, sB 4 u173.2.2], [E65.o u173.1, oX1, .cells [iC 2, .str r4.1, .str u7.2, .own 3 u173.2.1.length, bC r2.1, bC r3.1, .nil, .nil, .nil, iC 0, iC 0], E9.row u173.2.1], [], 1⟩) K (r9.2, [], true) (by kernel_rfl) (fun u173 => ?_)
     refine Ref.sq ?_
     refine Ref.sq ?_
     refine Ref.rn 9 ?_
     refine RefR.e1 0 3 3 [0, 2, 3, 26, 27] [0, 1, 2, 3] ?_
     refine RefR.lookC (t := 28) (g := [(26, true)]) (b := u173.2.2) 3 4 [0] (default : Bool) rfl (by kernel_rfl) (F21_ok K u173.1) (fun _ => rfl) (fun r190 => ?_)
     refine RefR.e0 (st' := ⟨[sP 0 0 0 0, sP 2 1 0 0, sP 3 2 0 0, sB 29 (u173.2.2 && r190)], [E65.o u173.1, oX1, .cells [iC 2, .str r4.1, .str u7.2, .own 3 u173.2.1.length, bC r2.1, bC r3.1, .nil, .nil, .nil, iC 0, iC 0], E9.row u173.2.1], [], 1⟩) 4 1 5 [0, 2, 3, 29] [0, 1, 2, 3] ?_
     refine RefR.nl 5 ?_
     refine Ref.cn (.tmp 29) (u173.2.2 && r190) (fun hc => ?_) (fun hc => ?_)
     ·
      refine Ref.sk ?_
      refine Ref.sq ?_
      refine Ref.ce (.block 1 (cd (bd Tryz.f62) [1, 1, 1, 1, 1, 1, 0, 1, 0, 1, 0, 0, 1, 0, 0])) ?_
      refine Ref.block (go1 := fun u197 => ⟨[sP 0 0 0 0, sP 2 1 0 0, sP 3 2 0 0], [E65.o u197.1, oX1, .cells [iC 2, .str r4.1, .str u7.2, .own 3 u197.2.length, bC r2.1, bC r3.1, .nil, .nil, .nil, iC 0, iC 0], E9.row u197.2], [], 1⟩) ?_ (fun a => match a with | .inl _ => (fun h => by cases h) | .inr _ => (fun h => by cases h)) (fun u197 => ?_)
      ·
       refine Ref.sq ?_
       refine Ref.sq ?_
       refine Ref.rn 11 ?_
       refine RefR.e1 0 1 1 [0, 2, 3, 32] [0, 1, 2, 3] ?_
       refine RefR.lookC (t := 33) (g := []) (b := true) 1 2 [0] (default : Bool) rfl (by kernel_rfl) (F69_ok K u173.1 1) (fun _ => rfl) (fun r198 => ?_)
       refine RefR.nl 2 ?_
       refine Ref.bind (go1 := fun u200 => ⟨[sP 0 0 0 0, sP 2 1 0 0, sP 3 2 0 0], [E65.o u200, oX1, .cells [iC 2, .str r4.1, .str u7.2, .own 3 u173.2.1.length, bC r2.1, bC r3.1, .nil, .nil, .nil, iC 0, iC 0], E9.row u173.2.1], [], 1⟩) ?_ (fun u200 => ?_)
       ·
        refine Ref.cn (.tmp 33) r198 (fun hc => ?_) (fun hc => ?_)
        ·
         refine Ref.rn 12 ?_
         refine RefR.e1 0 4 4 [0, 2, 3, 34, 37] [0, 1, 2, 3] ?_
         refine RefR.cc 38 4 5 [0] (F30_ok K u173.1 (Int.ofNat u173.2.1.length) 4) (fun r201 => ?_)
         refine RefR.nl 5 ?_
         refine Ref.ck ⟨[sP 0 0 0 0, sP 2 1 0 0, sP 3 2 0 0], [E65.o r201, oX1, .cells [iC 2, .str r4.1, .str u7.2, .own 3 u173.2.1.length, bC r2.1, bC r3.1, .nil, .nil, .nil, iC 0, iC 0], E9.row u173.2.1], [], 1⟩ [0, 2, 3] [0, 1, 2, 3] ?_
         exact Ref.n0 (t := (r201))
        ·
         refine Ref.sk ?_
         refine Ref.ck ⟨[sP 0 0 0 0, sP 2 1 0 0, sP 3 2 0 0], [E65.o u173.1, oX1, .cells [iC 2, .str r4.1, .str u7.2, .own 3 u173.2.1.length, bC r2.1, bC r3.1, .nil, .nil, .nil, iC 0, iC 0], E9.row u173.2.1], [], 1⟩ [0, 2, 3] [0, 1, 2, 3] ?_
         exact Ref.n0 (t := (u173.1))
       ·
        refine Ref.drawnY 13 (by kernel_rfl) (by kernel_rfl) ?_
        refine RefY.evC0 (st' := ⟨[sP 0 0 0 0, sP 2 1 0 0, sP 3 2 0 0, sP 39 2 0 3, sP 41 0 0 0], [E65.o u200, oX1, .cells [iC 2, .str r4.1, .str u7.2, .own 3 u173.2.1.length, bC r2.1, bC r3.1, .nil, .nil, .nil, iC 0, iC 0], E9.row u173.2.1], [], 1⟩) (fuel' := 6) [0, 2] [0, 2, 3, 39, 41] [0, 1, 2, 3] rfl (by kernel_rfl) (by kernel_rfl) ?_
        refine RefY.toX [3, 5, 7] ?_
        refine RefX.withK1 (fun (r202 : Bytes × S65) => ⟨[sP 0 0 0 0, sP 2 1 0 0, sP 3 2 0 0], [E65.o r202.2, oX1, .cells [iC 2, .str r4.1, .str u7.2, .own 3 ((u173.2.1 ++ [r202.1]).length), bC r2.1, bC r3.1, .nil, .nil, .nil, iC 0, iC 0], E9.row (u173.2.1 ++ [r202.1])], [], 1⟩) (fun (r202 : Bytes × S65) => (some (.inr (r202.2, (u173.2.1 ++ [r202.1]))))) (fun r202 => ?_) (fun hk => ?_)
        ·
         exact Ref.n0 (t := (r202.2, (u173.2.1 ++ [r202.1])))
        ·
         refine RefX.pend0 (fuel' := 5) [[], [(1, 40)]] [(1, 40)] [0, 2, 3, 39, 41] [0, 1, 2, 3] ⟨[sP 0 0 0 0, sP 2 1 0 0, sP 3 2 0 0, sP 39 2 0 3, (40, .c (.own 3 u173.2.1.length)), sP 41 0 0 0], [E65.o u200, oX1, .cells [iC 2, .str r4.1, .str u7.2, .own 3 u173.2.1.length, bC r2.1, bC r3.1, .nil, .nil, .nil, iC 0, iC 0], E9.row u173.2.1], [], 1⟩ ?_
         refine RefXq.fork1 (fuel' := 4) 3 ?_
         refine RefXqi.callC (t := 42) 3 [0] rfl (by kernel_rfl) (F72_ok K u200) (fun r202 => ?_)
         refine RefXq.fork1 (fuel' := 3) 4 ?_
         refine RefXqi.adds0 (st' := ⟨[sP 0 0 0 0, sP 2 1 0 0, sP 3 2 0 0, sP 39 2 0 3, (40, .c (.own 3 u173.2.1.length)), (43, .c (.own 4 1))], [E65.o r202.2, oX1, .cells [iC 2, .str r4.1, .str u7.2, .own 3 u173.2.1.length, bC r2.1, bC r3.1, .nil, .nil, .nil, iC 0, iC 0], E9.row u173.2.1, .row 9 1 1 (tbl [[.str r202.1]])], [], 1⟩) 4 [0, 2, 3, 39, 40, 43] [0, 1, 2, 3, 4] (by kernel_rfl) (by kernel_rfl) ?_
         refine RefXq.conv (Conv2.obj 4 (E9.row [r202.1]) (El.row_build E9 [r202.1] rfl (by kernel_rfl)) (by kernel_rfl)) ?_
         refine RefXq.conv (Conv2.slot 43 (.c (.own 4 ([r202.1].length))) (DLe.c (CLe.own (by simp <;> omega))) (by kernel_rfl)) ?_
         refine RefXq.close ?_
         refine RefX.fork1 (fuel' := 2) 5 (by kernel_rfl) ?_
         refine RefXi.writes (vs := [room ((u173.2.1.length + ([r202.1].length)) * 16)]) (st' := ⟨[sP 0 0 0 0, sP 2 1 0 0, sP 3 2 0 0, (44, .c (.own 4 (u173.2.1.length + ([r202.1].length))))], [E65.o r202.2, oX1, .cells [iC 2, .str r4.1, .str u7.2, .own 3 u173.2.1.length, bC r2.1, bC r3.1, .nil, .nil, .nil, iC 0, iC 0], .dead, .row 9 1 (u173.2.1.length + ([r202.1].length)) fun i j => bif Nat.blt i u173.2.1.length then E9.at u173.2.1 i j else (E9.at [r202.1]) (i - u173.2.1.length) j], [], 1⟩) 5 [0, 2, 3, 44] [0, 1, 2, 3, 5] (by kernel_rfl) (by kernel_rfl) ?_
         refine RefX.conv (Conv.ob 4 (E9.row (u173.2.1 ++ [r202.1])) (El.row_append E9 u173.2.1 [r202.1] rfl rfl)) ?_
         refine RefX.conv (Conv.sl 44 (.c (.own 4 ((u173.2.1 ++ [r202.1]).length))) (DLe.c (CLe.own (by simp <;> omega)))) ?_
         refine RefX.v0 (fuel' := 1) [6] [0, 2, 3, 44, 45] [0, 1, 2, 3, 4] ?_
         refine RefX.fork1 (fuel' := 0) 7 (by kernel_rfl) ?_
         refine RefXi.w0 7 [0, 2, 3] [0, 1, 2, 4] ?_
         refine RefX.done (by kernel_rfl) ?_
         refine Ref.ck ⟨[sP 0 0 0 0, sP 2 1 0 0, sP 3 2 0 0], [E65.o r202.2, oX1, .cells [iC 2, .str r4.1, .str u7.2, .own 3 ((u173.2.1 ++ [r202.1]).length), bC r2.1, bC r3.1, .nil, .nil, .nil, iC 0, iC 0], E9.row (u173.2.1 ++ [r202.1])], [], 1⟩ [0, 2, 3] [0, 1, 2, 3] ?_
         exact hk r202
      ·
       refine Ref.rn 10 ?_
       refine RefR.e1 0 1 1 [0, 2, 3, 30] [0, 1, 2, 3] ?_
       refine RefR.cc 31 1 2 [0] (F39_ok K u197.1 ([44] : Bytes)) (fun r204 => ?_)
       refine RefR.e0 (st' := ⟨[sP 0 0 0 0, sP 2 1 0 0, sP 3 2 0 0, sB 4 r204.1], [E65.o r204.2, oX1, .cells [iC 2, .str r4.1, .str u7.2, .own 3 u197.2.length, bC r2.1, bC r3.1, .nil, .nil, .nil, iC 0, iC 0], E9.row u197.2], [], 1⟩) 2 1 3 [0, 2, 3, 4] [0, 1, 2, 3] ?_
       refine RefR.nl 3 ?_
       exact Ref.n0 (t := (r204.2, u197.2, r204.1))
     ·
      refine Ref.ck ⟨[sP 0 0 0 0, sP 2 1 0 0, sP 3 2 0 0], [E65.o u173.1, oX1, .cells [iC 2, .str r4.1, .str u7.2, .own 3 u173.2.1.length, bC r2.1, bC r3.1, .nil, .nil, .nil, iC 0, iC 0], E9.row u173.2.1], [], 1⟩ [0, 2, 3] [0, 1, 2, 3] ?_
      exact Ref.xt 0 (t := (Sum.inl (u173.1, u173.2.1)))
    ·
     exact Ref.n0 (t := (u156.1, u156.2))
   ·
    refine Ref.sk ?_
    refine Ref.conv (Conv.adoptCell (st' := ⟨[sB 24 r9.1, sP 0 0 0 0, sP 2 1 0 0, sP 3 2 0 0, sP 23 0 0 0], [E65.o r9.2, oX1, .cells [iC 2, .str r4.1, .str u7.2, .own 3 0, bC r2.1, bC r3.1, .nil, .nil, .nil, iC 0, iC 0], E9.row []], [], 1⟩) 2 3 E9.ty E9.w (E9.at []) (by kernel_rfl)) ?_
    refine Ref.ck ⟨[sP 0 0 0 0, sP 2 1 0 0, sP 3 2 0 0], [E65.o r9.2, oX1, .cells [iC 2, .str r4.1, .str u7.2, .own 3 0, bC r2.1, bC r3.1, .nil, .nil, .nil, iC 0, iC 0], E9.row []], [], 1⟩ [0, 2, 3] [0, 1, 2, 3] ?_
    exact Ref.n0 (t := (r9.2, []))
  ·
   refine Ref.sq ?_
   refine Ref.rn 14 ?_
   refine RefR.e0 (st' := ⟨[sP 0 0 0 0, sP 2 1 0 0, sP 3 2 0 0, sP 46 0 0 0], [E65.o u107.1, oX1, .cells [iC 2, .str r4.1, .str u7.2, .own 3 u107.2.length, bC r2.1, bC r3.1, .nil, .nil, .nil, iC 0, iC 0], E9.row u107.2], [], 1⟩) 0 1 1 [0, 2, 3, 46] [0, 1, 2, 3] ?_
   refine RefR.li 47 [] E9 ([[59]] : List Bytes) 1 2 ?_
   refine RefR.cc 48 2 3 [0] (F93_ok K u107.1 ([[59]] : List Bytes)) (fun r205 => ?_)
   refine RefR.nl 3 ?_
   refine Ref.sq ?_
   refine Ref.rn 15 ?_
   refine RefR.e1 0 1 1 [0, 2, 3, 49] [0, 1, 2, 3] ?_
   refine RefR.cc 50 1 2 [0] (F95_ok K r205) (fun r206 => ?_)
   refine RefR.e0 (st' := ⟨[sP 0 0 0 0, sP 2 1 0 0, sP 3 2 0 0], [E65.o r206.2, oX1, .cells [iC 2, .str r4.1, .str u7.2, .own 3 u107.2.length, bC r2.1, bC r3.1, E118.tree r206.1, .nil, .nil, iC 0, iC 0], E9.row u107.2], [], 1⟩) 2 2 4 [0, 2, 3] [0, 1, 2, 3] ?_
   refine RefR.nl 4 ?_
   refine Ref.sq ?_
   refine Ref.ce (.block 2 (cd (bd Tryz.f62) [1, 1, 1, 1, 1, 1, 1, 1, 1, 0, 0])) ?_
   refine Ref.block (go1 := fun u234 => ⟨[sP 0 0 0 0, sP 2 1 0 0, sP 3 2 0 0], [E65.o u234.1, oX1, .cells [iC 2, .str r4.1, .str u7.2, .own 3 u107.2.length, bC r2.1, bC r3.1, E118.tree r206.1, .own 4 u234.2.length, .nil, iC 0, iC 0], E9.row u107.2, E93.row u234.2], [], 1⟩) ?_ (fun _ h => by cases h) (fun u234 => ?_)
   ·
    refine Ref.ce (.loop (cd (bd Tryz.f62) [1, 1, 1, 1, 1, 1, 1, 1, 1, 0, 0, 0])) ?_
    refine Ref.conv (Conv.adoptCell (st' := ⟨[sP 0 0 0 0, sP 2 1 0 0, sP 3 2 0 0], [E65.o r206.2, oX1, .cells [iC 2, .str r4.1, .str u7.2, .own 3 u107.2.length, bC r2.1, bC r3.1, E118.tree r206.1, .own 4 0, .nil, iC 0, iC 0], E9.row u107.2, E93.row []], [], 1⟩) 2 7 E93.ty E93.w (E93.at []) (by kernel_rfl)) ?_
    refine Ref.loop (hd := fun u244 => ⟨[sP 0 0 0 0, sP 2 1 0 0, sP 3 2 0 0], [E65.o u244.1, oX1, .cells [iC 2, .str r4.1, .str u7.2, .own 3 u107.2.length, bC r2.1, bC r3.1, E118.tree r206.1, .own 4 u244.2.length, .nil, iC 0, iC 0], E9.row u107.2, E93.row u244.2], [], 1⟩) K (r206.2, []) (by kernel_rfl) (fun u244 => ?_)
    refine Ref.sq ?_
    refine Ref.sq ?_
    refine Ref.rn 16 ?_
    refine RefR.e0 (st' := ⟨[sP 0 0 0 0, sP 2 1 0 0, sP 3 2 0 0, sP 52 0 0 0], [E65.o u244.1, oX1, .cells [iC 2, .str r4.1, .str u7.2, .own 3 u107.2.length, bC r2.1, bC r3.1, E118.tree r206.1, .own 4 u244.2.length, .nil, iC 0, iC 0], E9.row u107.2, E93.row u244.2], [], 1⟩) 0 1 1 [0, 2, 3, 52] [0, 1, 2, 3, 4] ?_
    refine RefR.li 53 [] E9 ([[77, 69, 84, 72, 79, 68]] : List Bytes) 1 2 ?_
    refine RefR.lookC (t := 54) (g := []) (b := true) 2 3 [0] (default : Bool) rfl (by kernel_rfl) (F29_ok K u244.1 ([[77, 69, 84, 72, 79, 68]] : List Bytes)) (fun _ => rfl) (fun r254 => ?_)
    refine RefR.nl 3 ?_
    refine Ref.cn (.tmp 54) r254 (fun hc => ?_) (fun hc => ?_)
    ·
     refine Ref.sk ?_
     refine Ref.ce (.block 3 (cd (bd Tryz.f62) [1, 1, 1, 1, 1, 1, 1, 1, 1, 0, 0, 0, 1, 0])) ?_
     refine Ref.block (go1 := fun u258 => ⟨[sP 0 0 0 0, sP 2 1 0 0, sP 3 2 0 0], [E65.o u258.1, oX1, .cells [iC 2, .str r4.1, .str u7.2, .own 3 u107.2.length, bC r2.1, bC r3.1, E118.tree r206.1, .own 4 u258.2.length, .nil, iC 0, iC 0], E9.row u107.2, E93.row u258.2], [], 1⟩) ?_ (fun a => match a with | .inl _ => (fun h => by cases h) | .inr _ => (fun h => by cases h)) (fun u258 => ?_)
     ·
      refine Ref.sq ?_
      refine Ref.rn 17 ?_
      refine RefR.e1 0 4 4 [0, 2, 3, 55, 58] [0, 1, 2, 3, 4] ?_
      refine RefR.cc 59 4 5 [0] (F30_ok K u244.1 (Int.ofNat u244.2.length) 6) (fun r259 => ?_)
      refine RefR.nl 5 ?_
      refine Ref.drawnY 18 (by kernel_rfl) (by kernel_rfl) ?_
      refine RefY.evC0 (st' := ⟨[sP 0 0 0 0, sP 2 1 0 0, sP 3 2 0 0, sP 60 2 0 7, sP 62 0 0 0], [E65.o r259, oX1, .cells [iC 2, .str r4.1, .str u7.2, .own 3 u107.2.length, bC r2.1, bC r3.1, E118.tree r206.1, .own 4 u244.2.length, .nil, iC 0, iC 0], E9.row u107.2, E93.row u244.2], [], 1⟩) (fuel' := 6) [0, 2] [0, 2, 3, 60, 62] [0, 1, 2, 3, 4] rfl (by kernel_rfl) (by kernel_rfl) ?_
      refine RefY.toX [3, 5, 7] ?_
      refine RefX.withK1 (fun (r260 : S93 × S65) => ⟨[sP 0 0 0 0, sP 2 1 0 0, sP 3 2 0 0], [E65.o r260.2, oX1, .cells [iC 2, .str r4.1, .str u7.2, .own 3 u107.2.length, bC r2.1, bC r3.1, E118.tree r206.1, .own 4 ((u244.2 ++ [r260.1]).length), .nil, iC 0, iC 0], E9.row u107.2, E93.row (u244.2 ++ [r260.1])], [], 1⟩) (fun (r260 : S93 × S65) => (some (.inr (r260.2, (u244.2 ++ [r260.1]))))) (fun r260 => ?_) (fun hk => ?_)
      ·
       exact Ref.n0 (t := (r260.2, (u244.2 ++ [r260.1])))
      ·
       refine RefX.pend0 (fuel' := 5) [[], [(1, 61)]] [(1, 61)] [0, 2, 3, 60, 62] [0, 1, 2, 3, 4] ⟨[sP 0 0 0 0, sP 2 1 0 0, sP 3 2 0 0, sP 60 2 0 7, (61, .c (.own 4 u244.2.length)), sP 62 0 0 0], [E65.o r259, oX1, .cells [iC 2, .str r4.1, .str u7.2, .own 3 u107.2.length, bC r2.1, bC r3.1, E118.tree r206.1, .own 4 u244.2.length, .nil, iC 0, iC 0], E9.row u107.2, E93.row u244.2], [], 1⟩ ?_
       refine RefXq.fork1 (fuel' := 4) 3 ?_
       refine RefXqi.callC (t := 63) 3 [0] rfl (by kernel_rfl) (F96_ok K r259) (fun r260 => ?_)
       refine RefXq.fork1 (fuel' := 3) 4 ?_
       refine RefXqi.adds0 (st' := ⟨[sP 0 0 0 0, sP 2 1 0 0, sP 3 2 0 0, sP 60 2 0 7, (61, .c (.own 4 u244.2.length)), (64, .c (.own 5 1))], [E65.o r260.2, oX1, .cells [iC 2, .str r4.1, .str u7.2, .own 3 u107.2.length, bC r2.1, bC r3.1, E118.tree r206.1, .own 4 u244.2.length, .nil, iC 0, iC 0], E9.row u107.2, E93.row u244.2, .row 93 11 1 (tbl [(E93.cs r260.1)])], [], 1⟩) 4 [0, 2, 3, 60, 61, 64] [0, 1, 2, 3, 4, 6] (by kernel_rfl) (by kernel_rfl) ?_
       refine RefXq.conv (Conv2.obj 5 (E93.row [r260.1]) (El.row_build E93 [r260.1] rfl (by kernel_rfl)) (by kernel_rfl)) ?_
       refine RefXq.conv (Conv2.slot 64 (.c (.own 5 ([r260.1].length))) (DLe.c (CLe.own (by simp <;> omega))) (by kernel_rfl)) ?_
       refine RefXq.close ?_
       refine RefX.fork1 (fuel' := 2) 5 (by kernel_rfl) ?_
       refine RefXi.writes (vs := [room ((u244.2.length + ([r260.1].length)) * 136)]) (st' := ⟨[sP 0 0 0 0, sP 2 1 0 0, sP 3 2 0 0, (65, .c (.own 5 (u244.2.length + ([r260.1].length))))], [E65.o r260.2, oX1, .cells [iC 2, .str r4.1, .str u7.2, .own 3 u107.2.length, bC r2.1, bC r3.1, E118.tree r206.1, .own 4 u244.2.length, .nil, iC 0, iC 0], E9.row u107.2, .dead, .row 93 11 (u244.2.length + ([r260.1].length)) fun i j => bif Nat.blt i u244.2.length then E93.at u244.2 i j else (E93.at [r260.1]) (i - u244.2.length) j], [], 1⟩) 5 [0, 2, 3, 65] [0, 1, 2, 3, 4, 6] (by kernel_rfl) (by kernel_rfl) ?_
       refine RefX.conv (Conv.ob 5 (E93.row (u244.2 ++ [r260.1])) (El.row_append E93 u244.2 [r260.1] rfl rfl)) ?_
       refine RefX.conv (Conv.sl 65 (.c (.own 5 ((u244.2 ++ [r260.1]).length))) (DLe.c (CLe.own (by simp <;> omega)))) ?_
       refine RefX.v0 (fuel' := 1) [6] [0, 2, 3, 65, 66] [0, 1, 2, 3, 4, 5] ?_
       refine RefX.fork1 (fuel' := 0) 7 (by kernel_rfl) ?_
       refine RefXi.w0 7 [0, 2, 3] [0, 1, 2, 3, 5] ?_
       refine RefX.done (by kernel_rfl) ?_
       refine Ref.ck ⟨[sP 0 0 0 0, sP 2 1 0 0, sP 3 2 0 0], [E65.o r260.2, oX1, .cells [iC 2, .str r4.1, .str u7.2, .own 3 u107.2.length, bC r2.1, bC r3.1, E118.tree r206.1, .own 4 ((u244.2 ++ [r260.1]).length), .nil, iC 0, iC 0], E9.row u107.2, E93.row (u244.2 ++ [r260.1])], [], 1⟩ [0, 2, 3] [0, 1, 2, 3, 4] ?_
       exact hk r260
     ·
      exact Ref.n0 (t := (u258.1, u258.2))
    ·
     refine Ref.ck ⟨[sP 0 0 0 0, sP 2 1 0 0, sP 3 2 0 0], [E65.o u244.1, oX1, .cells [iC 2, .str r4.1, .str u7.2, .own 3 u107.2.length, bC r2.1, bC r3.1, E118.tree r206.1, .own 4 u244.2.length, .nil, iC 0, iC 0], E9.row u107.2, E93.row u244.2], [], 1⟩ [0, 2, 3] [0, 1, 2, 3, 4] ?_
     exact Ref.xt 2 (t := (Sum.inl (u244.1, u244.2)))
   ·
    refine Ref.sq ?_
    refine Ref.rn 19 ?_
    refine RefR.e0 (st' := ⟨[sP 2 1 0 0, sP 3 2 0 0, sP 67 0 0 0], [E65.o u234.1, oX1, .cells [iC 2, .str r4.1, .str u7.2, .own 3 u107.2.length, bC r2.1, bC r3.1, E118.tree r206.1, .own 4 u234.2.length, .nil, iC 0, iC 0], E9.row u107.2, E93.row u234.2], [], 1⟩) 0 1 1 [2, 3, 67] [0, 1, 2, 3, 4] ?_
    refine RefR.li 68 [] E9 ([[69, 78, 68, 95, 67, 76, 65, 83, 83]] : List Bytes) 1 2 ?_
    refine RefR.cc 69 2 3 [0] (F93_ok K u234.1 ([[69, 78, 68, 95, 67, 76, 65, 83, 83]] : List Bytes)) (fun r262 => ?_)
    refine RefR.nl 3 ?_
    refine Ref.sq ?_
    refine Ref.rn 20 ?_
    refine RefR.e0 (st' := ⟨[sP 2 1 0 0], [E65.o r262, .cells [iC 2, .str r4.1, .str u7.2, .own 2 u107.2.length, bC r2.1, bC r3.1, E118.tree r206.1, .own 3 u234.2.length, .nil, iC 0, iC 0], E9.row u107.2, E93.row u234.2], [], 1⟩) 0 2 2 [2] [0, 1, 3, 4] ?_
    refine RefR.nl 2 ?_
    refine Ref.conv (Conv.freeze (st' := ⟨[sP 2 1 0 0], [E65.o r262, .cells [iC 2, .str r4.1, .str u7.2, E9.tree u107.2, bC r2.1, bC r3.1, E118.tree r206.1, .own 3 u234.2.length, .nil, iC 0, iC 0], .dead, E93.row u234.2], [], 1⟩) 2 (by kernel_rfl)) ?_
    refine Ref.conv (Conv.freeze (st' := ⟨[sP 2 1 0 0], [E65.o r262, .cells [iC 2, .str r4.1, .str u7.2, E9.tree u107.2, bC r2.1, bC r3.1, E118.tree r206.1, E93.tree u234.2, .nil, iC 0, iC 0], .dead, .dead], [], 1⟩) 3 (by kernel_rfl)) ?_
    refine Ref.conv (Conv.ob 1 (.cells [iC 2, .str r4.1, .str u7.2, E9.tree u107.2, bC r2.1, bC r3.1, E118.tree r206.1, E93.tree u234.2, E122.tree [], iC 0, iC 0]) (OLe.cells (All2.cons (CLe.refl _) (All2.cons (CLe.refl _) (All2.cons (CLe.refl _) (All2.cons (CLe.refl _) (All2.cons (CLe.refl _) (All2.cons (CLe.refl _) (All2.cons (CLe.refl _) (All2.cons (CLe.refl _) (All2.cons (El.tree_nil E122) (All2.cons (CLe.refl _) (All2.cons (CLe.refl _) (All2.nil)))))))))))))) ?_
    refine Ref.ck ⟨[sP 2 1 0 0], [E65.o r262, .cells [iC 2, .str r4.1, .str u7.2, E9.tree u107.2, bC r2.1, bC r3.1, E118.tree r206.1, E93.tree u234.2, E122.tree [], iC 0, iC 0]], [], 1⟩ [2] [0, 1] ?_
    exact Ref.rt (t := ((⟨2, r4.1, u7.2, u107.2, r2.1, r3.1, r206.1, u234.2, [], 0, 0⟩ : S60), r262))
def F63 (K : Nat) (a0 : S65) : Option ((S60 × S65) ⊕ (S60 × S65)) :=
 ((fnS (F93 K a0 ([[80, 82, 79, 71, 82, 65, 77]] : List Bytes))).bind (fun r1 => ((fnS (F72 K r1)).bind (fun r2 => ((fnS (F93 K r2.2 ([[59]] : List Bytes))).bind (fun r3 => ((fnS (F95 K r3)).bind (fun r4 => ((fnS (F97 K r4.2 1 ([[69, 78, 68, 95, 80, 82, 79, 71, 82, 65, 77]] : List Bytes))).bind (fun r5 => ((fnS (F93 K r5.2 ([[69, 78, 68, 95, 80, 82, 79, 71, 82, 65, 77]] : List Bytes))).bind (fun r6 => (some (.inl ((⟨3, r2.1, ([] : Bytes), [], false, false, r4.1, [], r5.1, 0, 0⟩ : S60), r6)))))))))))))))
theorem F63_ok (K : Nat) (a0 : S65) : DFun Tryz.prog 63 [.c (.ptr 0 0 0)] [E65.o a0] (fnS (F63 K a0)) (fun r => .agg (E60.cs r.1)) (fun r => [E65.o r.2, .cells (E60.cs r.1)]) := by
 refine DFun.it Tryz.f63 (fun r => ⟨[sP 2 1 0 0], [E65.o r.2, .cells (E60.cs r.1)], [], 1⟩) ?_
 unfold F63
 refine Ref.sq ?_
 refine Ref.rn 0 ?_
 refine RefR.e0 (st' := ⟨[sP 0 0 0 0, sP 2 1 0 0], [E65.o a0, oX1], [], 1⟩) 0 1 1 [0, 2] [0, 1] ?_
 refine RefR.nl 1 ?_
 refine Ref.sq ?_
 refine Ref.rn 1 ?_
 refine RefR.e0 (st' := ⟨[sP 0 0 0 0, sP 2 1 0 0, sP 3 2 0 0], [E65.o a0, oX1, .cells [iC 3, .str [], .str [], .nil, bC false, bC false, .nil, .nil, .nil, iC 0, iC 0]], [], 1⟩) 0 3 3 [0, 2, 3] [0, 1, 2] ?_
 refine RefR.nl 3 ?_
 refine Ref.sq ?_
 refine Ref.rn 2 ?_
 refine RefR.e0 (st' := ⟨[sP 0 0 0 0, sP 2 1 0 0, sP 3 2 0 0, sP 5 0 0 0], [E65.o a0, oX1, .cells [iC 3, .str [], .str [], .nil, bC false, bC false, .nil, .nil, .nil, iC 0, iC 0]], [], 1⟩) 0 1 1 [0, 2, 3, 5] [0, 1, 2] ?_
 refine RefR.li 6 [] E9 ([[80, 82, 79, 71, 82, 65, 77]] : List Bytes) 1 2 ?_
 refine RefR.cc 7 2 3 [0] (F93_ok K a0 ([[80, 82, 79, 71, 82, 65, 77]] : List Bytes)) (fun r1 => ?_)
 refine RefR.nl 3 ?_
 refine Ref.sq ?_
 refine Ref.rn 3 ?_
 refine RefR.e1 0 1 1 [0, 2, 3, 8] [0, 1, 2] ?_
 refine RefR.cc 9 1 2 [0] (F72_ok K r1) (fun r2 => ?_)
 refine RefR.e0 (st' := ⟨[sP 0 0 0 0, sP 2 1 0 0, sP 3 2 0 0], [E65.o r2.2, oX1, .cells [iC 3, .str r2.1, .str [], .nil, bC false, bC false, .nil, .nil, .nil, iC 0, iC 0]], [], 1⟩) 2 2 4 [0, 2, 3] [0, 1, 2] ?_
 refine RefR.nl 4 ?_
 refine Ref.sq ?_
 refine Ref.rn 4 ?_
 refine RefR.e0 (st' := ⟨[sP 0 0 0 0, sP 2 1 0 0, sP 3 2 0 0, sP 11 0 0 0], [E65.o r2.2, oX1, .cells [iC 3, .str r2.1, .str [], .nil, bC false, bC false, .nil, .nil, .nil, iC 0, iC 0]], [], 1⟩) 0 1 1 [0, 2, 3, 11] [0, 1, 2] ?_
 refine RefR.li 12 [] E9 ([[59]] : List Bytes) 1 2 ?_
 refine RefR.cc 13 2 3 [0] (F93_ok K r2.2 ([[59]] : List Bytes)) (fun r3 => ?_)
 refine RefR.nl 3 ?_
 refine Ref.sq ?_
 refine Ref.rn 5 ?_
 refine RefR.e1 0 1 1 [0, 2, 3, 14] [0, 1, 2] ?_
 refine RefR.cc 15 1 2 [0] (F95_ok K r3) (fun r4 => ?_)
 refine RefR.e0 (st' := ⟨[sP 0 0 0 0, sP 2 1 0 0, sP 3 2 0 0], [E65.o r4.2, oX1, .cells [iC 3, .str r2.1, .str [], .nil, bC false, bC false, E118.tree r4.1, .nil, .nil, iC 0, iC 0]], [], 1⟩) 2 2 4 [0, 2, 3] [0, 1, 2] ?_
 refine RefR.nl 4 ?_
 refine Ref.sq ?_
 refine Ref.rn 6 ?_
 refine RefR.e0 (st' := ⟨[sP 0 0 0 0, sP 2 1 0 0, sP 3 2 0 0, sP 17 0 0 0], [E65.o r4.2, oX1, .cells [iC 3, .str r2.1, .str [], .nil, bC false, bC false, E118.tree r4.1, .nil, .nil, iC 0, iC 0]], [], 1⟩) 0 1 1 [0, 2, 3, 17] [0, 1, 2] ?_
 refine RefR.li 18 [] E9 ([[69, 78, 68, 95, 80, 82, 79, 71, 82, 65, 77]] : List Bytes) 1 2 ?_
 refine RefR.cc 19 2 3 [0] (F97_ok K r4.2 1 ([[69, 78, 68, 95, 80, 82, 79, 71, 82, 65, 77]] : List Bytes)) (fun r5 => ?_)
 refine RefR.e0 (st' := ⟨[sP 0 0 0 0, sP 2 1 0 0, sP 3 2 0 0], [E65.o r5.2, oX1, .cells [iC 3, .str r2.1, .str [], .nil, bC false, bC false, E118.tree r4.1, .nil, E122.tree r5.1, iC 0, iC 0]], [], 1⟩) 3 2 5 [0, 2, 3] [0, 1, 2] ?_
 refine RefR.nl 5 ?_
 refine Ref.sq ?_
 refine Ref.rn 7 ?_
 refine RefR.e0 (st' := ⟨[sP 2 1 0 0, sP 3 2 0 0, sP 21 0 0 0], [E65.o r5.2, oX1, .cells [iC 3, .str r2.1, .str [], .nil, bC false, bC false, E118.tree r4.1, .nil, E122.tree r5.1, iC 0, iC 0]], [], 1⟩) 0 1 1 [2, 3, 21] [0, 1, 2] ?_
 refine RefR.li 22 [] E9 ([[69, 78, 68, 95, 80, 82, 79, 71, 82, 65, 77]] : List Bytes) 1 2 ?_
 refine RefR.cc 23 2 3 [0] (F93_ok K r5.2 ([[69, 78, 68, 95, 80, 82, 79, 71, 82, 65, 77]] : List Bytes)) (fun r6 => ?_)
 refine RefR.nl 3 ?_
 refine Ref.sq ?_
 refine Ref.rn 8 ?_
 refine RefR.e0 (st' := ⟨[sP 2 1 0 0], [E65.o r6, .cells [iC 3, .str r2.1, .str [], .nil, bC false, bC false, E118.tree r4.1, .nil, E122.tree r5.1, iC 0, iC 0]], [], 1⟩) 0 2 2 [2] [0, 1] ?_
 refine RefR.nl 2 ?_
 refine Ref.conv (Conv.ob 1 (.cells [iC 3, .str r2.1, .str [], E9.tree [], bC false, bC false, E118.tree r4.1, .nil, E122.tree r5.1, iC 0, iC 0]) (OLe.cells (All2.cons (CLe.refl _) (All2.cons (CLe.refl _) (All2.cons (CLe.refl _) (All2.cons (El.tree_nil E9) (All2.cons (CLe.refl _) (All2.cons (CLe.refl _) (All2.cons (CLe.refl _) (All2.cons (CLe.refl _) (All2.cons (CLe.refl _) (All2.cons (CLe.refl _) (All2.cons (CLe.refl _) (All2.nil)))))))))))))) ?_
 refine Ref.conv (Conv.ob 1 (.cells [iC 3, .str r2.1, .str [], E9.tree [], bC false, bC false, E118.tree r4.1, E93.tree [], E122.tree r5.1, iC 0, iC 0]) (OLe.cells (All2.cons (CLe.refl _) (All2.cons (CLe.refl _) (All2.cons (CLe.refl _) (All2.cons (CLe.refl _) (All2.cons (CLe.refl _) (All2.cons (CLe.refl _) (All2.cons (CLe.refl _) (All2.cons (El.tree_nil E93) (All2.cons (CLe.refl _) (All2.cons (CLe.refl _) (All2.cons (CLe.refl _) (All2.nil)))))))))))))) ?_
 exact Ref.rt (t := ((⟨3, r2.1, ([] : Bytes), [], false, false, r4.1, [], r5.1, 0, 0⟩ : S60), r6))
def F64 (K : Nat) (a0 : S65) : Option ((S60 × S65) ⊕ (S60 × S65)) :=
 ((fnS (F93 K a0 ([[84, 65, 83, 75]] : List Bytes))).bind (fun r1 => ((fnS (F72 K r1)).bind (fun r2 => ((fnS (F93 K r2.2 ([[40], [73, 78, 84, 69, 82, 86, 65, 76]] : List Bytes))).bind (fun r3 => ((fnS (F70 K r3)).bind (fun r4 => ((fnS (F93 K r4.2 ([[44], [80, 82, 73, 79, 82, 73, 84, 89]] : List Bytes))).bind (fun r5 => ((fnS (F70 K r5)).bind (fun r6 => ((fnS (F93 K r6.2 ([[41], [58]] : List Bytes))).bind (fun r7 => ((fnS (F72 K r7)).bind (fun r8 => ((fnS (F93 K r8.2 ([[59]] : List Bytes))).bind (fun r9 => (some (.inl ((⟨4, r2.1, r8.1, [], false, false, [], [], [], r4.1, r6.1⟩ : S60), r9)))))))))))))))))))))
theorem F64_ok (K : Nat) (a0 : S65) : DFun Tryz.prog 64 [.c (.ptr 0 0 0)] [E65.o a0] (fnS (F64 K a0)) (fun r => .agg (E60.cs r.1)) (fun r => [E65.o r.2, .cells (E60.cs r.1)]) := by
 refine DFun.it Tryz.f64 (fun r => ⟨[sP 2 1 0 0], [E65.o r.2, .cells (E60.cs r.1)], [], 1⟩) ?_
 unfold F64
 refine Ref.sq ?_
 refine Ref.rn 0 ?_
 refine RefR.e0 (st' := ⟨[sP 0 0 0 0, sP 2 1 0 0], [E65.o a0, oX1], [], 1⟩) 0 1 1 [0, 2] [0, 1] ?_
 refine RefR.nl 1 ?_
 refine Ref.sq ?_
 refine Ref.rn 1 ?_
 refine RefR.e0 (st' := ⟨[sP 0 0 0 0, sP 2 1 0 0, sP 3 2 0 0], [E65.o a0, oX1, .cells [iC 4, .str [], .str [], .nil, bC false, bC false, .nil, .nil, .nil, iC 0, iC 0]], [], 1⟩) 0 3 3 [0, 2, 3] [0, 1, 2] ?_
 refine RefR.nl 3 ?_
 refine Ref.sq ?_
 refine Ref.rn 2 ?_
 refine RefR.e0 (st' := ⟨[sP 0 0 0 0, sP 2 1 0 0, sP 3 2 0 0, sP 5 0 0 0], [E65.o a0, oX1, .cells [iC 4, .str [], .str [], .nil, bC false, bC false, .nil, .nil, .nil, iC 0, iC 0]], [], 1⟩) 0 1 1 [0, 2, 3, 5] [0, 1, 2] ?_
 refine RefR.li 6 [] E9 ([[84, 65, 83, 75]] : List Bytes) 1 2 ?_
 refine RefR.cc 7 2 3 [0] (F93_ok K a0 ([[84, 65, 83, 75]] : List Bytes)) (fun r1 => ?_)
 refine RefR.nl 3 ?_
 refine Ref.sq ?_
 refine Ref.rn 3 ?_
 refine RefR.e1 0 1 1 [0, 2, 3, 8] [0, 1, 2] ?_
 refine RefR.cc 9 1 2 [0] (F72_ok K r1) (fun r2 => ?_)
 refine RefR.e0 (st' := ⟨[sP 0 0 0 0, sP 2 1 0 0, sP 3 2 0 0], [E65.o r2.2, oX1, .cells [iC 4, .str r2.1, .str [], .nil, bC false, bC false, .nil, .nil, .nil, iC 0, iC 0]], [], 1⟩) 2 2 4 [0, 2, 3] [0, 1, 2] ?_
 refine RefR.nl 4 ?_
 refine Ref.sq ?_
 refine Ref.rn 4 ?_
 refine RefR.e0 (st' := ⟨[sP 0 0 0 0, sP 2 1 0 0, sP 3 2 0 0, sP 11 0 0 0], [E65.o r2.2, oX1, .cells [iC 4, .str r2.1, .str [], .nil, bC false, bC false, .nil, .nil, .nil, iC 0, iC 0]], [], 1⟩) 0 1 1 [0, 2, 3, 11] [0, 1, 2] ?_
 refine RefR.li 12 [] E9 ([[40], [73, 78, 84, 69, 82, 86, 65, 76]] : List Bytes) 1 2 ?_
 refine RefR.cc 13 2 3 [0] (F93_ok K r2.2 ([[40], [73, 78, 84, 69, 82, 86, 65, 76]] : List Bytes)) (fun r3 => ?_)
 refine RefR.nl 3 ?_
 refine Ref.sq ?_
 refine Ref.rn 5 ?_
 refine RefR.e1 0 1 1 [0, 2, 3, 14] [0, 1, 2] ?_
 refine RefR.cc 15 1 2 [0] (F70_ok K r3) (fun r4 => ?_)
 refine RefR.e0 (st' := ⟨[sP 0 0 0 0, sP 2 1 0 0, sP 3 2 0 0], [E65.o r4.2, oX1, .cells [iC 4, .str r2.1, .str [], .nil, bC false, bC false, .nil, .nil, .nil, iC r4.1, iC 0]], [], 1⟩) 2 2 4 [0, 2, 3] [0, 1, 2] ?_
 refine RefR.nl 4 ?_
 refine Ref.sq ?_
 refine Ref.rn 6 ?_
 refine RefR.e0 (st' := ⟨[sP 0 0 0 0, sP 2 1 0 0, sP 3 2 0 0, sP 17 0 0 0], [E65.o r4.2, oX1, .cells [iC 4, .str r2.1, .str [], .nil, bC false, bC false, .nil, .nil, .nil, iC r4.1, iC 0]], [], 1⟩) 0 1 1 [0, 2, 3, 17] [0, 1, 2] ?_
 refine RefR.li 18 [] E9 ([[44], [80, 82, 73, 79, 82, 73, 84, 89]] : List Bytes) 1 2 ?_
 refine RefR.cc 19 2 3 [0] (F93_ok K r4.2 ([[44], [80, 82, 73, 79, 82, 73, 84, 89]] : List Bytes)) (fun r5 => ?_)
 refine RefR.nl 3 ?_
 refine Ref.sq ?_
 refine Ref.rn 7 ?_
 refine RefR.e1 0 1 1 [0, 2, 3, 20] [0, 1, 2] ?_
 refine RefR.cc 21 1 2 [0] (F70_ok K r5) (fun r6 => ?_)
 refine RefR.e0 (st' := ⟨[sP 0 0 0 0, sP 2 1 0 0, sP 3 2 0 0], [E65.o r6.2, oX1, .cells [iC 4, .str r2.1, .str [], .nil, bC false, bC false, .nil, .nil, .nil, iC r4.1, iC r6.1]], [], 1⟩) 2 2 4 [0, 2, 3] [0, 1, 2] ?_
 refine RefR.nl 4 ?_
 refine Ref.sq ?_
 refine Ref.rn 8 ?_
 refine RefR.e0 (st' := ⟨[sP 0 0 0 0, sP 2 1 0 0, sP 3 2 0 0, sP 23 0 0 0], [E65.o r6.2, oX1, .cells [iC 4, .str r2.1, .str [], .nil, bC false, bC false, .nil, .nil, .nil, iC r4.1, iC r6.1]], [], 1⟩) 0 1 1 [0, 2, 3, 23] [0, 1, 2] ?_
 refine RefR.li 24 [] E9 ([[41], [58]] : List Bytes) 1 2 ?_
 refine RefR.cc 25 2 3 [0] (F93_ok K r6.2 ([[41], [58]] : List Bytes)) (fun r7 => ?_)
 refine RefR.nl 3 ?_
 refine Ref.sq ?_
 refine Ref.rn 9 ?_
 refine RefR.e1 0 1 1 [0, 2, 3, 26] [0, 1, 2] ?_
 refine RefR.cc 27 1 2 [0] (F72_ok K r7) (fun r8 => ?_)
 refine RefR.e0 (st' := ⟨[sP 0 0 0 0, sP 2 1 0 0, sP 3 2 0 0], [E65.o r8.2, oX1, .cells [iC 4, .str r2.1, .str r8.1, .nil, bC false, bC false, .nil, .nil, .nil, iC r4.1, iC r6.1]], [], 1⟩) 2 2 4 [0, 2, 3] [0, 1, 2] ?_
 refine RefR.nl 4 ?_
 refine Ref.sq ?_
 refine Ref.rn 10 ?_
 refine RefR.e0 (st' := ⟨[sP 2 1 0 0, sP 3 2 0 0, sP 29 0 0 0], [E65.o r8.2, oX1, .cells [iC 4, .str r2.1, .str r8.1, .nil, bC false, bC false, .nil, .nil, .nil, iC r4.1, iC r6.1]], [], 1⟩) 0 1 1 [2, 3, 29] [0, 1, 2] ?_
 refine RefR.li 30 [] E9 ([[59]] : List Bytes) 1 2 ?_
 refine RefR.cc 31 2 3 [0] (F93_ok K r8.2 ([[59]] : List Bytes)) (fun r9 => ?_)
 refine RefR.nl 3 ?_
 refine Ref.sq ?_
 refine Ref.rn 11 ?_
 refine RefR.e0 (st' := ⟨[sP 2 1 0 0], [E65.o r9, .cells [iC 4, .str r2.1, .str r8.1, .nil, bC false, bC false, .nil, .nil, .nil, iC r4.1, iC r6.1]], [], 1⟩) 0 2 2 [2] [0, 1] ?_
 refine RefR.nl 2 ?_
 refine Ref.conv (Conv.ob 1 (.cells [iC 4, .str r2.1, .str r8.1, E9.tree [], bC false, bC false, .nil, .nil, .nil, iC r4.1, iC r6.1]) (OLe.cells (All2.cons (CLe.refl _) (All2.cons (CLe.refl _) (All2.cons (CLe.refl _) (All2.cons (El.tree_nil E9) (All2.cons (CLe.refl _) (All2.cons (CLe.refl _) (All2.cons (CLe.refl _) (All2.cons (CLe.refl _) (All2.cons (CLe.refl _) (All2.cons (CLe.refl _) (All2.cons (CLe.refl _) (All2.nil)))))))))))))) ?_
 refine Ref.conv (Conv.ob 1 (.cells [iC 4, .str r2.1, .str r8.1, E9.tree [], bC false, bC false, E118.tree [], .nil, .nil, iC r4.1, iC r6.1]) (OLe.cells (All2.cons (CLe.refl _) (All2.cons (CLe.refl _) (All2.cons (CLe.refl _) (All2.cons (CLe.refl _) (All2.cons (CLe.refl _) (All2.cons (CLe.refl _) (All2.cons (El.tree_nil E118) (All2.cons (CLe.refl _) (All2.cons (CLe.refl _) (All2.cons (CLe.refl _) (All2.cons (CLe.refl _) (All2.nil)))))))))))))) ?_
 refine Ref.conv (Conv.ob 1 (.cells [iC 4, .str r2.1, .str r8.1, E9.tree [], bC false, bC false, E118.tree [], E93.tree [], .nil, iC r4.1, iC r6.1]) (OLe.cells (All2.cons (CLe.refl _) (All2.cons (CLe.refl _) (All2.cons (CLe.refl _) (All2.cons (CLe.refl _) (All2.cons (CLe.refl _) (All2.cons (CLe.refl _) (All2.cons (CLe.refl _) (All2.cons (El.tree_nil E93) (All2.cons (CLe.refl _) (All2.cons (CLe.refl _) (All2.cons (CLe.refl _) (All2.nil)))))))))))))) ?_
 refine Ref.conv (Conv.ob 1 (.cells [iC 4, .str r2.1, .str r8.1, E9.tree [], bC false, bC false, E118.tree [], E93.tree [], E122.tree [], iC r4.1, iC r6.1]) (OLe.cells (All2.cons (CLe.refl _) (All2.cons (CLe.refl _) (All2.cons (CLe.refl _) (All2.cons (CLe.refl _) (All2.cons (CLe.refl _) (All2.cons (CLe.refl _) (All2.cons (CLe.refl _) (All2.cons (CLe.refl _) (All2.cons (El.tree_nil E122) (All2.cons (CLe.refl _) (All2.cons (CLe.refl _) (All2.nil)))))))))))))) ?_
 exact Ref.rt (t := ((⟨4, r2.1, r8.1, [], false, false, [], [], [], r4.1, r6.1⟩ : S60), r9))
def F32 (K : Nat) (a0 : S65) : Option ((S60 × S65) ⊕ (S60 × S65)) :=
 (bindS (blockS ((condM true (fnS (F29 K a0 ([[73, 78, 84, 69, 82, 70, 65, 67, 69]] : List Bytes))) default).bind (fun r8 => (if r8 = true then ((fnS (F61 K a0)).bind (fun r9 => (some (.inl (Sum.inr (r9.1, r9.2)))))) else ((condM true (fnS (F29 K a0 ([[67, 76, 65, 83, 83]] : List Bytes))) default).bind (fun r10 => (if r10 = true then ((fnS (F62 K a0)).bind (fun r11 => (some (.inl (Sum.inr (r11.1, r11.2)))))) else ((condM true (fnS (F29 K a0 ([[80, 82, 79, 71, 82, 65, 77]] : List Bytes))) default).bind (fun r12 => (if r12 = true then ((fnS (F63 K a0)).bind (fun r13 => (some (.inl (Sum.inr (r13.1, r13.2)))))) else (some (.inr ())))))))))))) (fun (u7 : Unit) => ((fnS (F64 K a0)).bind (fun r14 => (some (.inl (r14.1, r14.2)))))))
theorem F32_ok (K : Nat) (a0 : S65) : DFun Tryz.prog 32 [.c (.ptr 0 0 0)] [E65.o a0] (fnS (F32 K a0)) (fun r => .agg (E60.cs r.1)) (fun r => [E65.o r.2, .cells (E60.cs r.1)]) := by
 refine DFun.it Tryz.f32 (fun r => ⟨[sP 2 1 0 0], [E65.o r.2, .cells (E60.cs r.1)], [], 1⟩) ?_
 unfold F32
 refine Ref.sq ?_
 refine Ref.rn 0 ?_
 refine RefR.e0 (st' := ⟨[sP 0 0 0 0, sP 2 1 0 0], [E65.o a0, oX1], [], 1⟩) 0 1 1 [0, 2] [0, 1] ?_
 refine RefR.nl 1 ?_
 refine Ref.sq ?_
 refine Ref.ce (.block 0 (cd (bd Tryz.f32) [1, 0, 0])) ?_
 refine Ref.block (go1 := fun u7 => ⟨[sP 0 0 0 0, sP 2 1 0 0], [E65.o a0, oX1], [], 1⟩) ?_ (fun _ h => by cases h) (fun u7 => ?_)
 ·
  refine Ref.sq ?_
  refine Ref.rn 1 ?_
  refine RefR.e0 (st' := ⟨[sP 0 0 0 0, sP 2 1 0 0, sP 4 0 0 0], [E65.o a0, oX1], [], 1⟩) 0 1 1 [0, 2, 4] [0, 1] ?_
  refine RefR.li 5 [] E9 ([[73, 78, 84, 69, 82, 70, 65, 67, 69]] : List Bytes) 1 2 ?_
  refine RefR.lookC (t := 6) (g := []) (b := true) 2 3 [0] (default : Bool) rfl (by kernel_rfl) (F29_ok K a0 ([[73, 78, 84, 69, 82, 70, 65, 67, 69]] : List Bytes)) (fun _ => rfl) (fun r8 => ?_)
  refine RefR.e0 (st' := ⟨[sP 0 0 0 0, sP 2 1 0 0, sB 3 r8], [E65.o a0, oX1], [], 1⟩) 3 1 4 [0, 2, 3] [0, 1] ?_
  refine RefR.nl 4 ?_
  refine Ref.cn (.tmp 3) r8 (fun hc => ?_) (fun hc => ?_)
  ·
   refine Ref.sq ?_
   refine Ref.rn 2 ?_
   refine RefR.e1 0 1 1 [2, 7] [0, 1] ?_
   refine RefR.cc 8 1 2 [0] (F61_ok K a0) (fun r9 => ?_)
   refine RefR.e0 (st' := ⟨[sP 2 1 0 0], [E65.o r9.2, .cells (E60.cs r9.1)], [], 1⟩) 2 1 3 [2] [0, 1] ?_
   refine RefR.nl 3 ?_
   exact Ref.rt (t := (Sum.inr (r9.1, r9.2)))
  ·
   refine Ref.sq ?_
   refine Ref.rn 3 ?_
   refine RefR.e0 (st' := ⟨[sP 0 0 0 0, sP 2 1 0 0, sP 10 0 0 0], [E65.o a0, oX1], [], 1⟩) 0 1 1 [0, 2, 10] [0, 1] ?_
   refine RefR.li 11 [] E9 ([[67, 76, 65, 83, 83]] : List Bytes) 1 2 ?_
   refine RefR.lookC (t := 12) (g := []) (b := true) 2 3 [0] (default : Bool) rfl (by kernel_rfl) (F29_ok K a0 ([[67, 76, 65, 83, 83]] : List Bytes)) (fun _ => rfl) (fun r10 => ?_)
   refine RefR.e0 (st' := ⟨[sP 0 0 0 0, sP 2 1 0 0, sB 9 r10], [E65.o a0, oX1], [], 1⟩) 3 1 4 [0, 2, 9] [0, 1] ?_
   refine RefR.nl 4 ?_
   refine Ref.cn (.tmp 9) r10 (fun hc => ?_) (fun hc => ?_)
   ·
    refine Ref.sq ?_
    refine Ref.rn 4 ?_
    refine RefR.e1 0 1 1 [2, 13] [0, 1] ?_
    refine RefR.cc 14 1 2 [0] (F62_ok K a0) (fun r11 => ?_)
    refine RefR.e0 (st' := ⟨[sP 2 1 0 0], [E65.o r11.2, .cells (E60.cs r11.1)], [], 1⟩) 2 1 3 [2] [0, 1] ?_
    refine RefR.nl 3 ?_
    exact Ref.rt (t := (Sum.inr (r11.1, r11.2)))
   ·
    refine Ref.sq ?_
    refine Ref.rn 5 ?_
    refine RefR.e0 (st' := ⟨[sP 0 0 0 0, sP 2 1 0 0, sP 16 0 0 0], [E65.o a0, oX1], [], 1⟩) 0 1 1 [0, 2, 16] [0, 1] ?_
    refine RefR.li 17 [] E9 ([[80, 82, 79, 71, 82, 65, 77]] : List Bytes) 1 2 ?_
    refine RefR.lookC (t := 18) (g := []) (b := true) 2 3 [0] (default : Bool) rfl (by kernel_rfl) (F29_ok K a0 ([[80, 82, 79, 71, 82, 65, 77]] : List Bytes)) (fun _ => rfl) (fun r12 => ?_)
    refine RefR.e0 (st' := ⟨[sP 0 0 0 0, sP 2 1 0 0, sB 15 r12], [E65.o a0, oX1], [], 1⟩) 3 1 4 [0, 2, 15] [0, 1] ?_
    refine RefR.nl 4 ?_
    refine Ref.cn (.tmp 15) r12 (fun hc => ?_) (fun hc => ?_)
    ·
     refine Ref.sq ?_
     refine Ref.rn 6 ?_
     refine RefR.e1 0 1 1 [2, 19] [0, 1] ?_
     refine RefR.cc 20 1 2 [0] (F63_ok K a0) (fun r13 => ?_)
     refine RefR.e0 (st' := ⟨[sP 2 1 0 0], [E65.o r13.2, .cells (E60.cs r13.1)], [], 1⟩) 2 1 3 [2] [0, 1] ?_
     refine RefR.nl 3 ?_
     exact Ref.rt (t := (Sum.inr (r13.1, r13.2)))
    ·
     refine Ref.sk ?_
     refine Ref.ck ⟨[sP 0 0 0 0, sP 2 1 0 0], [E65.o a0, oX1], [], 1⟩ [0, 2] [0, 1] ?_
     exact Ref.n0 (t := ())
 ·
  refine Ref.sq ?_
  refine Ref.rn 7 ?_
  refine RefR.e1 0 1 1 [2, 21] [0, 1] ?_
  refine RefR.cc 22 1 2 [0] (F64_ok K a0) (fun r14 => ?_)
  refine RefR.e0 (st' := ⟨[sP 2 1 0 0], [E65.o r14.2, .cells (E60.cs r14.1)], [], 1⟩) 2 1 3 [2] [0, 1] ?_
  refine RefR.nl 3 ?_
  exact Ref.rt (t := (r14.1, r14.2))
end Go.Proofs.YtphnfaabcnciiaaGreatDoor
