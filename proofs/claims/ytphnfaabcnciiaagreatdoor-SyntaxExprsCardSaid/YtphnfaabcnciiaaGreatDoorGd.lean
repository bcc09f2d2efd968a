/- Plain functions, and that the Go functions do what these do: printed by gen2.py. No conditions. -/
import Derived.Test.YtphnfaabcnciiaaGreatDoorGc
import Derived.Test.YtphnfaabcnciiaaGreatDoorProg
set_option linter.unusedVariables false
set_option linter.unusedSimpArgs false
set_option linter.unusedSectionVars false
namespace Go.Proofs.YtphnfaabcnciiaaGreatDoor
open Go Go.Proofs Go.Dl
variable [WInv]
set_option maxRecDepth 100000
set_option maxHeartbeats 4000000
def F95 (K : Nat) (a0 : S65) : Option (((List S118) × S65) ⊕ ((List S118) × S65)) :=
 (bindS (blockS ((iter K (fun (u190 : S65 × (List S118)) => ((condM true (fnS (F29 K u190.1 ([[86, 65, 82]] : List Bytes))) default).bind (fun r238 => (if r238 = true then (bindS (blockS ((fnS (F30 K u190.1 (Int.ofNat u190.2.length) 8)).bind (fun r262 => ((fnS (F93 K r262 ([[86, 65, 82]] : List Bytes))).bind (fun r263 => ((fnS (F72 K r263)).bind (fun r264 => ((fnS (F93 K r264.2 ([[58]] : List Bytes))).bind (fun r265 => ((fnS (F111 K r265)).bind (fun r266 => ((fnS (F39 K r266.2 ([58, 61] : Bytes))).bind (fun r267 => (bindS (if r267.1 = true then ((fnS (F112 K r267.2)).bind (fun r270 => (some (.inr (r270.2, r270.1))))) else (some (.inr (r267.2, 0)))) (fun (u269 : S65 × Int) => ((fnS (F39 K u269.1 ([65, 84] : Bytes))).bind (fun r271 => (bindS (if r271.1 = true then ((fnS (F39 K r271.2 ([73, 78] : Bytes))).bind (fun r278 => (bindS (if (!r278.1) = true then ((fnS (F93 K r278.2 ([[79, 85, 84]] : List Bytes))).bind (fun r281 => (some (.inr (r281, 2))))) else (some (.inr (r278.2, 1)))) (fun (u280 : S65 × Int) => ((fnS (F70 K u280.1)).bind (fun r282 => (some (.inr (r282.2, u280.2, r282.1))))))))) else (some (.inr (r271.2, 0, 0)))) (fun (u277 : S65 × Int × Int) => ((fnS (F93 K u277.1 ([[59]] : List Bytes))).bind (fun r283 => (chk [room ((u190.2.length + ([(⟨r264.1, (⟨r266.1.fKind, r266.1.fLo, r266.1.fHi, r266.1.fName⟩ : S91), u269.2, u277.2.1, u277.2.2⟩ : S118)].length)) * 80)] (some (.inr (r283, (u190.2 ++ [(⟨r264.1, (⟨r266.1.fKind, r266.1.fLo, r266.1.fHi, r266.1.fName⟩ : S91), u269.2, u277.2.1, u277.2.2⟩ : S118)])))))))))))))))))))))))))) (fun (u261 : S65 × (List S118)) => (some (.inr (u261.1, u261.2))))) else (some (.inl (Sum.inl (u190.1, u190.2)))))))) (a0, [])).map .inl)) (fun (u142 : S65 × (List S118)) => (some (.inl (u142.2, u142.1)))))
theorem F95_ok (K : Nat) (a0 : S65) : DFun Tryz.prog 95 [.c (.ptr 0 0 0)] [E65.o a0] (fnS (F95 K a0)) (fun r => .c (E118.tree r.1)) (fun r => [E65.o r.2]) := by
 refine DFun.it Tryz.f95 (fun r => ⟨[(2, .c (E118.tree r.1))], [E65.o r.2], [], 1⟩) ?_
 unfold F95
 refine Ref.sq ?_
 refine Ref.rn 0 ?_
 refine RefR.e0 (st' := ⟨[sP 0 0 0 0], [E65.o a0], [], 1⟩) 0 1 1 [0] [0] ?_
 refine RefR.nl 1 ?_
 refine Ref.sq ?_
 refine Ref.rn 1 ?_
 refine RefR.e0 (st' := ⟨[sP 0 0 0 0, (3, .c (.nil))], [E65.o a0], [], 1⟩) 0 1 1 [0, 3] [0] ?_
 refine RefR.nl 1 ?_
 refine Ref.sq ?_
 refine Ref.ce (.block 0 (cd (bd Tryz.f95) [1, 1, 0, 0])) ?_
 refine Ref.block (go1 := fun u142 => ⟨[(3, .c (.own 1 u142.2.length))], [E65.o u142.1, E118.row u142.2], [], 1⟩) ?_ (fun _ h => by cases h) (fun u142 => ?_)
 ·
  refine Ref.ce (.loop (cd (bd Tryz.f95) [1, 1, 0, 0, 0])) ?_
  refine Ref.conv (Conv.adopt 3 E118.ty E118.w (E118.at []) (by kernel_rfl) (by kernel_rfl) (by kernel_rfl)) ?_
  refine Ref.ck ⟨[sP 0 0 0 0, (3, .c (.own 1 0))], [E65.o a0, E118.row []], [], 1⟩ [0, 3] [0, 1] ?_
  refine Ref.loop (hd := fun u190 => ⟨[sP 0 0 0 0, (3, .c (.own 1 u190.2.length))], [E65.o u190.1, E118.row u190.2], [], 1⟩) K (a0, []) (by kernel_rfl) (fun u190 => ?_)
  refine Ref.sq ?_
  refine Ref.sq ?_
  refine Ref.rn 2 ?_
  refine RefR.e0 (st' := ⟨[sP 0 0 0 0, (3, .c (.own 1 u190.2.length)), sP 5 0 0 0], [E65.o u190.1, E118.row u190.2], [], 1⟩) 0 1 1 [0, 3, 5] [0, 1] ?_
  refine RefR.li 6 [] E9 ([[86, 65, 82]] : List Bytes) 1 2 ?_
  refine RefR.lookC (t := 7) (g := []) (b := true) 2 3 [0] (default : Bool) rfl (by kernel_rfl) (F29_ok K u190.1 ([[86, 65, 82]] : List Bytes)) (fun _ => rfl) (fun r238 => ?_)
  refine RefR.nl 3 ?_
  refine Ref.cn (.tmp 7) r238 (fun hc => ?_) (fun hc => ?_)
  ·
   refine Ref.sk ?_
   refine Ref.ce (.block 1 (cd (bd Tryz.f95) [1, 1, 0, 0, 0, 1, 0])) ?_
   refine Ref.block (go1 := fun u261 => ⟨[sP 0 0 0 0, (3, .c (.own 1 u261.2.length))], [E65.o u261.1, E118.row u261.2], [], 1⟩) ?_ (fun a => match a with | .inl _ => (fun h => by cases h) | .inr _ => (fun h => by cases h)) (fun u261 => ?_)
   ·
    refine Ref.sq ?_
    refine Ref.rn 3 ?_
    refine RefR.e1 0 3 3 [0, 3, 8, 10] [0, 1] ?_
    refine RefR.cc 11 3 4 [0] (F30_ok K u190.1 (Int.ofNat u190.2.length) 8) (fun r262 => ?_)
    refine RefR.nl 4 ?_
    refine Ref.sq ?_
    refine Ref.rn 4 ?_
    refine RefR.e0 (st' := ⟨[sP 0 0 0 0, (3, .c (.own 1 u190.2.length)), sP 12 0 0 0], [E65.o r262, E118.row u190.2], [], 1⟩) 0 1 1 [0, 3, 12] [0, 1] ?_
    refine RefR.li 13 [] E9 ([[86, 65, 82]] : List Bytes) 1 2 ?_
    refine RefR.cc 14 2 3 [0] (F93_ok K r262 ([[86, 65, 82]] : List Bytes)) (fun r263 => ?_)
    refine RefR.nl 3 ?_
    refine Ref.sq ?_
    refine Ref.rn 5 ?_
    refine RefR.e1 0 1 1 [0, 3, 15] [0, 1] ?_
    refine RefR.cc 16 1 2 [0] (F72_ok K r263) (fun r264 => ?_)
    refine RefR.e0 (st' := ⟨[sP 0 0 0 0, (3, .c (.own 1 u190.2.length)), sP 4 2 0 0], [E65.o r264.2, E118.row u190.2, .cells [.str r264.1, iC 0, iC 0, iC 0, .str [], iC 0, iC 0, iC 0]], [], 1⟩) 2 3 5 [0, 3, 4] [0, 1, 2] ?_
    refine RefR.nl 5 ?_
    refine Ref.sq ?_
    refine Ref.rn 6 ?_
    refine RefR.e0 (st' := ⟨[sP 0 0 0 0, (3, .c (.own 1 u190.2.length)), sP 4 2 0 0, sP 18 0 0 0], [E65.o r264.2, E118.row u190.2, .cells [.str r264.1, iC 0, iC 0, iC 0, .str [], iC 0, iC 0, iC 0]], [], 1⟩) 0 1 1 [0, 3, 4, 18] [0, 1, 2] ?_
    refine RefR.li 19 [] E9 ([[58]] : List Bytes) 1 2 ?_
    refine RefR.cc 20 2 3 [0] (F93_ok K r264.2 ([[58]] : List Bytes)) (fun r265 => ?_)
    refine RefR.nl 3 ?_
    refine Ref.sq ?_
    refine Ref.rn 7 ?_
    refine RefR.e1 0 1 1 [0, 3, 4, 21] [0, 1, 2] ?_
    refine RefR.cc 22 1 2 [0] (F111_ok K r265) (fun r266 => ?_)
    refine RefR.e0 (st' := ⟨[sP 0 0 0 0, (3, .c (.own 1 u190.2.length)), sP 4 2 0 0], [E65.o r266.2, E118.row u190.2, .cells [.str r264.1, iC r266.1.fKind, iC r266.1.fLo, iC r266.1.fHi, .str r266.1.fName, iC 0, iC 0, iC 0]], [], 1⟩) 2 2 4 [0, 3, 4] [0, 1, 2] ?_
    refine RefR.nl 4 ?_
    refine Ref.sq ?_
    refine Ref.sq ?_
    refine Ref.rn 8 ?_
    refine RefR.e1 0 1 1 [0, 3, 4, 24] [0, 1, 2] ?_
    refine RefR.cc 25 1 2 [0] (F39_ok K r266.2 ([58, 61] : Bytes)) (fun r267 => ?_)
    refine RefR.nl 2 ?_
    refine Ref.bind (go1 := fun u269 => ⟨[sP 0 0 0 0, (3, .c (.own 1 u190.2.length)), sP 4 2 0 0], [E65.o u269.1, E118.row u190.2, .cells [.str r264.1, iC r266.1.fKind, iC r266.1.fLo, iC r266.1.fHi, .str r266.1.fName, iC u269.2, iC 0, iC 0]], [], 1⟩) ?_ (fun u269 => ?_)
    ·
     refine Ref.cn (.tmp 25) r267.1 (fun hc => ?_) (fun hc => ?_)
     ·
      refine Ref.rn 9 ?_
      refine RefR.e1 0 1 1 [0, 3, 4, 26] [0, 1, 2] ?_
      refine RefR.cc 27 1 2 [0] (F112_ok K r267.2) (fun r270 => ?_)
      refine RefR.e0 (st' := ⟨[sP 0 0 0 0, (3, .c (.own 1 u190.2.length)), sP 4 2 0 0], [E65.o r270.2, E118.row u190.2, .cells [.str r264.1, iC r266.1.fKind, iC r266.1.fLo, iC r266.1.fHi, .str r266.1.fName, iC r270.1, iC 0, iC 0]], [], 1⟩) 2 2 4 [0, 3, 4] [0, 1, 2] ?_
      refine RefR.nl 4 ?_
      exact Ref.n0 (t := (r270.2, r270.1))
     ·
      refine Ref.sk ?_
      refine Ref.ck ⟨[sP 0 0 0 0, (3, .c (.own 1 u190.2.length)), sP 4 2 0 0], [E65.o r267.2, E118.row u190.2, .cells [.str r264.1, iC r266.1.fKind, iC r266.1.fLo, iC r266.1.fHi, .str r266.1.fName, iC 0, iC 0, iC 0]], [], 1⟩ [0, 3, 4] [0, 1, 2] ?_
      exact Ref.n0 (t := (r267.2, 0))
    ·
     refine Ref.sq ?_
     refine Ref.sq ?_
     refine Ref.rn 10 ?_
     refine RefR.e1 0 1 1 [0, 3, 4, 29] [0, 1, 2] ?_
     refine RefR.cc 30 1 2 [0] (F39_ok K u269.1 ([65, 84] : Bytes)) (fun r271 => ?_)
     refine RefR.nl 2 ?_
     refine Ref.bind (go1 := fun u277 => ⟨[sP 0 0 0 0, (3, .c (.own 1 u190.2.length)), sP 4 2 0 0], [E65.o u277.1, E118.row u190.2, .cells [.str r264.1, iC r266.1.fKind, iC r266.1.fLo, iC r266.1.fHi, .str r266.1.fName, iC u269.2, iC u277.2.1, iC u277.2.2]], [], 1⟩) ?_ (fun u277 => ?_)
     ·
      refine Ref.cn (.tmp 30) r271.1 (fun hc => ?_) (fun hc => ?_)
      ·
       refine Ref.sq ?_
       refine Ref.rn 11 ?_
       refine RefR.e0 (st' := ⟨[sP 0 0 0 0, (3, .c (.own 1 u190.2.length)), sP 4 2 0 0], [E65.o r271.2, E118.row u190.2, .cells [.str r264.1, iC r266.1.fKind, iC r266.1.fLo, iC r266.1.fHi, .str r266.1.fName, iC u269.2, iC 1, iC 0]], [], 1⟩) 0 2 2 [0, 3, 4] [0, 1, 2] ?_
       refine RefR.nl 2 ?_
       refine Ref.sq ?_
       refine Ref.sq ?_
       refine Ref.rn 12 ?_
       refine RefR.e1 0 1 1 [0, 3, 4, 32] [0, 1, 2] ?_
       refine RefR.cc 33 1 2 [0] (F39_ok K r271.2 ([73, 78] : Bytes)) (fun r278 => ?_)
       refine RefR.e0 (st' := ⟨[sP 0 0 0 0, (3, .c (.own 1 u190.2.length)), sP 4 2 0 0, sB 34 (!r278.1)], [E65.o r278.2, E118.row u190.2, .cells [.str r264.1, iC r266.1.fKind, iC r266.1.fLo, iC r266.1.fHi, .str r266.1.fName, iC u269.2, iC 1, iC 0]], [], 1⟩) 2 1 3 [0, 3, 4, 34] [0, 1, 2] ?_
       refine RefR.nl 3 ?_
       refine Ref.bind (go1 := fun u280 => ⟨[sP 0 0 0 0, (3, .c (.own 1 u190.2.length)), sP 4 2 0 0], [E65.o u280.1, E118.row u190.2, .cells [.str r264.1, iC r266.1.fKind, iC r266.1.fLo, iC r266.1.fHi, .str r266.1.fName, iC u269.2, iC u280.2, iC 0]], [], 1⟩) ?_ (fun u280 => ?_)
       ·
        refine Ref.cn (.tmp 34) (!r278.1) (fun hc => ?_) (fun hc => ?_)
        ·
         refine Ref.sq ?_
         refine Ref.rn 13 ?_
         refine RefR.e0 (st' := ⟨[sP 0 0 0 0, (3, .c (.own 1 u190.2.length)), sP 4 2 0 0, sP 35 0 0 0], [E65.o r278.2, E118.row u190.2, .cells [.str r264.1, iC r266.1.fKind, iC r266.1.fLo, iC r266.1.fHi, .str r266.1.fName, iC u269.2, iC 1, iC 0]], [], 1⟩) 0 1 1 [0, 3, 4, 35] [0, 1, 2] ?_
         refine RefR.li 36 [] E9 ([[79, 85, 84]] : List Bytes) 1 2 ?_
         refine RefR.cc 37 2 3 [0] (F93_ok K r278.2 ([[79, 85, 84]] : List Bytes)) (fun r281 => ?_)
         refine RefR.nl 3 ?_
         refine Ref.rn 14 ?_
         refine RefR.e0 (st' := ⟨[sP 0 0 0 0, (3, .c (.own 1 u190.2.length)), sP 4 2 0 0], [E65.o r281, E118.row u190.2, .cells [.str r264.1, iC r266.1.fKind, iC r266.1.fLo, iC r266.1.fHi, .str r266.1.fName, iC u269.2, iC 2, iC 0]], [], 1⟩) 0 2 2 [0, 3, 4] [0, 1, 2] ?_
         refine RefR.nl 2 ?_
         exact Ref.n0 (t := (r281, 2))
        ·
         refine Ref.sk ?_
         refine Ref.ck ⟨[sP 0 0 0 0, (3, .c (.own 1 u190.2.length)), sP 4 2 0 0], [E65.o r278.2, E118.row u190.2, .cells [.str r264.1, iC r266.1.fKind, iC r266.1.fLo, iC r266.1.fHi, .str r266.1.fName, iC u269.2, iC 1, iC 0]], [], 1⟩ [0, 3, 4] [0, 1, 2] ?_
         exact Ref.n0 (t := (r278.2, 1))
       ·
        refine Ref.rn 15 ?_
        refine RefR.e1 0 1 1 [0, 3, 4, 39] [0, 1, 2] ?_
        refine RefR.cc 40 1 2 [0] (F70_ok K u280.1) (fun r282 => ?_)
        refine RefR.e0 (st' := ⟨[sP 0 0 0 0, (3, .c (.own 1 u190.2.length)), sP 4 2 0 0], [E65.o r282.2, E118.row u190.2, .cells [.str r264.1, iC r266.1.fKind, iC r266.1.fLo, iC r266.1.fHi, .str r266.1.fName, iC u269.2, iC u280.2, iC r282.1]], [], 1⟩) 2 2 4 [0, 3, 4] [0, 1, 2] ?_
        refine RefR.nl 4 ?_
        exact Ref.n0 (t := (r282.2, u280.2, r282.1))
      ·
       refine Ref.sk ?_
       refine Ref.ck ⟨[sP 0 0 0 0, (3, .c (.own 1 u190.2.length)), sP 4 2 0 0], [E65.o r271.2, E118.row u190.2, .cells [.str r264.1, iC r266.1.fKind, iC r266.1.fLo, iC r266.1.fHi, .str r266.1.fName, iC u269.2, iC 0, iC 0]], [], 1⟩ [0, 3, 4] [0, 1, 2] ?_
       exact Ref.n0 (t := (r271.2, 0, 0))
     ·
      refine Ref.sq ?_
      refine Ref.rn 16 ?_
      refine RefR.e0 (st' := ⟨[sP 0 0 0 0, (3, .c (.own 1 u190.2.length)), sP 4 2 0 0, sP 42 0 0 0], [E65.o u277.1, E118.row u190.2, .cells [.str r264.1, iC r266.1.fKind, iC r266.1.fLo, iC r266.1.fHi, .str r266.1.fName, iC u269.2, iC u277.2.1, iC u277.2.2]], [], 1⟩) 0 1 1 [0, 3, 4, 42] [0, 1, 2] ?_
      refine RefR.li 43 [] E9 ([[59]] : List Bytes) 1 2 ?_
      refine RefR.cc 44 2 3 [0] (F93_ok K u277.1 ([[59]] : List Bytes)) (fun r283 => ?_)
      refine RefR.nl 3 ?_
      refine Ref.rn 17 ?_
      refine RefR.e0 (st' := ⟨[sP 0 0 0 0, (45, .c (.own 1 u190.2.length)), (46, .agg [.str r264.1, iC r266.1.fKind, iC r266.1.fLo, iC r266.1.fHi, .str r266.1.fName, iC u269.2, iC u277.2.1, iC u277.2.2])], [E65.o r283, E118.row u190.2], [], 1⟩) 0 2 2 [0, 45, 46] [0, 1] ?_
      refine RefR.e0 (st' := ⟨[sP 0 0 0 0, (45, .c (.own 1 u190.2.length)), (47, .c (.own 2 1))], [E65.o r283, E118.row u190.2, .row 118 8 1 (tbl [[.str r264.1, iC r266.1.fKind, iC r266.1.fLo, iC r266.1.fHi, .str r266.1.fName, iC u269.2, iC u277.2.1, iC u277.2.2]])], [], 1⟩) 2 1 3 [0, 45, 47] [0, 1, 2] ?_
      refine RefR.conv (Conv.ob 2 (E118.row [(⟨r264.1, (⟨r266.1.fKind, r266.1.fLo, r266.1.fHi, r266.1.fName⟩ : S91), u269.2, u277.2.1, u277.2.2⟩ : S118)]) (El.row_build E118 [(⟨r264.1, (⟨r266.1.fKind, r266.1.fLo, r266.1.fHi, r266.1.fName⟩ : S91), u269.2, u277.2.1, u277.2.2⟩ : S118)] rfl (by kernel_rfl))) ?_
      refine RefR.conv (Conv.sl 47 (.c (.own 2 ([(⟨r264.1, (⟨r266.1.fKind, r266.1.fLo, r266.1.fHi, r266.1.fName⟩ : S91), u269.2, u277.2.1, u277.2.2⟩ : S118)].length))) (DLe.c (CLe.own (by simp <;> omega)))) ?_
      refine RefR.evC (vs := [room ((u190.2.length + ([(⟨r264.1, (⟨r266.1.fKind, r266.1.fLo, r266.1.fHi, r266.1.fName⟩ : S91), u269.2, u277.2.1, u277.2.2⟩ : S118)].length)) * 80)]) (st' := ⟨[sP 0 0 0 0, (48, .c (.own 1 (u190.2.length + ([(⟨r264.1, (⟨r266.1.fKind, r266.1.fLo, r266.1.fHi, r266.1.fName⟩ : S91), u269.2, u277.2.1, u277.2.2⟩ : S118)].length))))], [E65.o r283, .row 118 8 (u190.2.length + ([(⟨r264.1, (⟨r266.1.fKind, r266.1.fLo, r266.1.fHi, r266.1.fName⟩ : S91), u269.2, u277.2.1, u277.2.2⟩ : S118)].length)) fun i j => bif Nat.blt i u190.2.length then E118.at u190.2 i j else (E118.at [(⟨r264.1, (⟨r266.1.fKind, r266.1.fLo, r266.1.fHi, r266.1.fName⟩ : S91), u269.2, u277.2.1, u277.2.2⟩ : S118)]) (i - u190.2.length) j], [], 1⟩) 3 1 4 [0, 48] [0, 3] rfl (by kernel_rfl) ?_
      refine RefR.conv (Conv.ob 1 (E118.row (u190.2 ++ [(⟨r264.1, (⟨r266.1.fKind, r266.1.fLo, r266.1.fHi, r266.1.fName⟩ : S91), u269.2, u277.2.1, u277.2.2⟩ : S118)])) (El.row_append E118 u190.2 [(⟨r264.1, (⟨r266.1.fKind, r266.1.fLo, r266.1.fHi, r266.1.fName⟩ : S91), u269.2, u277.2.1, u277.2.2⟩ : S118)] rfl rfl)) ?_
      refine RefR.conv (Conv.sl 48 (.c (.own 1 ((u190.2 ++ [(⟨r264.1, (⟨r266.1.fKind, r266.1.fLo, r266.1.fHi, r266.1.fName⟩ : S91), u269.2, u277.2.1, u277.2.2⟩ : S118)]).length))) (DLe.c (CLe.own (by simp <;> omega)))) ?_
      refine RefR.e0 (st' := ⟨[sP 0 0 0 0, (3, .c (.own 1 ((u190.2 ++ [(⟨r264.1, (⟨r266.1.fKind, r266.1.fLo, r266.1.fHi, r266.1.fName⟩ : S91), u269.2, u277.2.1, u277.2.2⟩ : S118)]).length)))], [E65.o r283, E118.row (u190.2 ++ [(⟨r264.1, (⟨r266.1.fKind, r266.1.fLo, r266.1.fHi, r266.1.fName⟩ : S91), u269.2, u277.2.1, u277.2.2⟩ : S118)])], [], 1⟩) 4 1 5 [0, 3] [0, 1] ?_
      refine RefR.nl 5 ?_
      exact Ref.n0 (t := (r283, (u190.2 ++ [(⟨r264.1, (⟨r266.1.fKind, r266.1.fLo, r266.1.fHi, r266.1.fName⟩ : S91), u269.2, u277.2.1, u277.2.2⟩ : S118)])))
   ·
    exact Ref.n0 (t := (u261.1, u261.2))
  ·
   refine Ref.ck ⟨[(3, .c (.own 1 u190.2.length))], [E65.o u190.1, E118.row u190.2], [], 1⟩ [3] [0, 1] ?_
   exact Ref.xt 0 (t := (Sum.inl (u190.1, u190.2)))
 ·
  refine Ref.sq ?_
  refine Ref.rn 18 ?_
  refine RefR.e0 (st' := ⟨[(2, .c (.own 1 u142.2.length))], [E65.o u142.1, E118.row u142.2], [], 1⟩) 0 2 2 [2] [0, 1] ?_
  refine RefR.nl 2 ?_
  refine Ref.conv (Conv.freeze (st' := ⟨[(2, .c (E118.tree u142.2))], [E65.o u142.1, .dead], [], 1⟩) 1 (by kernel_rfl)) ?_
  refine Ref.ck ⟨[(2, .c (E118.tree u142.2))], [E65.o u142.1], [], 1⟩ [2] [0] ?_
  exact Ref.rt (t := (u142.2, u142.1))
def F61 (K : Nat) (a0 : S65) : Option ((S60 × S65) ⊕ (S60 × S65)) :=
 none
theorem F61_ok (K : Nat) (a0 : S65) : DFun Tryz.prog 61 [.c (.ptr 0 0 0)] [E65.o a0] (fnS (F61 K a0)) (fun r => .agg (E60.cs r.1)) (fun r => [E65.o r.2, .cells (E60.cs r.1)]) := DFun.none rfl
def F62 (K : Nat) (a0 : S65) : Option ((S60 × S65) ⊕ (S60 × S65)) :=
 none
theorem F62_ok (K : Nat) (a0 : S65) : DFun Tryz.prog 62 [.c (.ptr 0 0 0)] [E65.o a0] (fnS (F62 K a0)) (fun r => .agg (E60.cs r.1)) (fun r => [E65.o r.2, .cells (E60.cs r.1)]) := DFun.none rfl
def F63 (K : Nat) (a0 : S65) : Option ((S60 × S65) ⊕ (S60 × S65)) :=
 ((fnS (F93 K a0 ([[80, 82, 79, 71, 82, 65, 77]] : List Bytes))).bind (fun r1 => ((fnS (F72 K r1)).bind (fun r2 => ((fnS (F93 K r2.2 ([[59]] : List Bytes))).bind (fun r3 => ((fnS (F95 K r3)).bind (fun r4 => ((fnS (F97 K r4.2 1 ([[69, 78, 68, 95, 80, 82, 79, 71, 82, 65, 77]] : List Bytes))).bind (fun r5 => ((fnS (F93 K r5.2 ([[69, 78, 68, 95, 80, 82, 79, 71, 82, 65, 77]] : List Bytes))).bind (fun r6 => (some (.inl ((⟨3, r2.1, ([] : Bytes), [], false, false, r4.1, [], r5.1, 0, 0⟩ : S60), r6)))))))))))))))
theorem F63_ok (K : Nat) (a0 : S65) : DFun Tryz.prog 63 [.c (.ptr 0 0 0)] [E65.o a0] (fnS (F63 K a0)) (fun r => .agg (E60.cs r.1)) (fun r => [E65.o r.2, .cells (E60.cs r.1)]) := by
 refine DFun.it Tryz.f63 (fun r => ⟨[sP 2 1 0 0], [E65.o r.2, .cells (E60.cs r.1)], [], 1⟩) ?_
 unfold F63
 refine Ref.sq ?_
 refine Ref.rn 0 ?_
 refine RefR.e0 (st' := ⟨[sP 0 0 0 0, sP 2 1 0 0], [E65.o a0, oX3], [], 1⟩) 0 1 1 [0, 2] [0, 1] ?_
 refine RefR.nl 1 ?_
 refine Ref.sq ?_
 refine Ref.rn 1 ?_
 refine RefR.e0 (st' := ⟨[sP 0 0 0 0, sP 2 1 0 0, sP 3 2 0 0], [E65.o a0, oX3, .cells [iC 3, .str [], .str [], .nil, bC false, bC false, .nil, .nil, .nil, iC 0, iC 0]], [], 1⟩) 0 3 3 [0, 2, 3] [0, 1, 2] ?_
 refine RefR.nl 3 ?_
 refine Ref.sq ?_
 refine Ref.rn 2 ?_
 refine RefR.e0 (st' := ⟨[sP 0 0 0 0, sP 2 1 0 0, sP 3 2 0 0, sP 5 0 0 0], [E65.o a0, oX3, .cells [iC 3, .str [], .str [], .nil, bC false, bC false, .nil, .nil, .nil, iC 0, iC 0]], [], 1⟩) 0 1 1 [0, 2, 3, 5] [0, 1, 2] ?_
 refine RefR.li 6 [] E9 ([[80, 82, 79, 71, 82, 65, 77]] : List Bytes) 1 2 ?_
 refine RefR.cc 7 2 3 [0] (F93_ok K a0 ([[80, 82, 79, 71, 82, 65, 77]] : List Bytes)) (fun r1 => ?_)
 refine RefR.nl 3 ?_
 refine Ref.sq ?_
 refine Ref.rn 3 ?_
 refine RefR.e1 0 1 1 [0, 2, 3, 8] [0, 1, 2] ?_
 refine RefR.cc 9 1 2 [0] (F72_ok K r1) (fun r2 => ?_)
 refine RefR.e0 (st' := ⟨[sP 0 0 0 0, sP 2 1 0 0, sP 3 2 0 0], [E65.o r2.2, oX3, .cells [iC 3, .str r2.1, .str [], .nil, bC false, bC false, .nil, .nil, .nil, iC 0, iC 0]], [], 1⟩) 2 2 4 [0, 2, 3] [0, 1, 2] ?_
 refine RefR.nl 4 ?_
 refine Ref.sq ?_
 refine Ref.rn 4 ?_
 refine RefR.e0 (st' := ⟨[sP 0 0 0 0, sP 2 1 0 0, sP 3 2 0 0, sP 11 0 0 0], [E65.o r2.2, oX3, .cells [iC 3, .str r2.1, .str [], .nil, bC false, bC false, .nil, .nil, .nil, iC 0, iC 0]], [], 1⟩) 0 1 1 [0, 2, 3, 11] [0, 1, 2] ?_
 refine RefR.li 12 [] E9 ([[59]] : List Bytes) 1 2 ?_
 refine RefR.cc 13 2 3 [0] (F93_ok K r2.2 ([[59]] : List Bytes)) (fun r3 => ?_)
 refine RefR.nl 3 ?_
 refine Ref.sq ?_
 refine Ref.rn 5 ?_
 refine RefR.e1 0 1 1 [0, 2, 3, 14] [0, 1, 2] ?_
 refine RefR.cc 15 1 2 [0] (F95_ok K r3) (fun r4 => ?_)
 refine RefR.e0 (st' := ⟨[sP 0 0 0 0, sP 2 1 0 0, sP 3 2 0 0], [E65.o r4.2, oX3, .cells [iC 3, .str r2.1, .str [], .nil, bC false, bC false, E118.tree r4.1, .nil, .nil, iC 0, iC 0]], [], 1⟩) 2 2 4 [0, 2, 3] [0, 1, 2] ?_
 refine RefR.nl 4 ?_
 refine Ref.sq ?_
 refine Ref.rn 6 ?_
 refine RefR.e0 (st' := ⟨[sP 0 0 0 0, sP 2 1 0 0, sP 3 2 0 0, sP 17 0 0 0], [E65.o r4.2, oX3, .cells [iC 3, .str r2.1, .str [], .nil, bC false, bC false, E118.tree r4.1, .nil, .nil, iC 0, iC 0]], [], 1⟩) 0 1 1 [0, 2, 3, 17] [0, 1, 2] ?_
 refine RefR.li 18 [] E9 ([[69, 78, 68, 95, 80, 82, 79, 71, 82, 65, 77]] : List Bytes) 1 2 ?_
 refine RefR.cc 19 2 3 [0] (F97_ok K r4.2 1 ([[69, 78, 68, 95, 80, 82, 79, 71, 82, 65, 77]] : List Bytes)) (fun r5 => ?_)
 refine RefR.e0 (st' := ⟨[sP 0 0 0 0, sP 2 1 0 0, sP 3 2 0 0], [E65.o r5.2, oX3, .cells [iC 3, .str r2.1, .str [], .nil, bC false, bC false, E118.tree r4.1, .nil, E122.tree r5.1, iC 0, iC 0]], [], 1⟩) 3 2 5 [0, 2, 3] [0, 1, 2] ?_
 refine RefR.nl 5 ?_
 refine Ref.sq ?_
 refine Ref.rn 7 ?_
 refine RefR.e0 (st' := ⟨[sP 2 1 0 0, sP 3 2 0 0, sP 21 0 0 0], [E65.o r5.2, oX3, .cells [iC 3, .str r2.1, .str [], .nil, bC false, bC false, E118.tree r4.1, .nil, E122.tree r5.1, iC 0, iC 0]], [], 1⟩) 0 1 1 [2, 3, 21] [0, 1, 2] ?_
 refine RefR.li 22 [] E9 ([[69, 78, 68, 95, 80, 82, 79, 71, 82, 65, 77]] : List Bytes) 1 2 ?_
 refine RefR.cc 23 2 3 [0] (F93_ok K r5.2 ([[69, 78, 68, 95, 80, 82, 79, 71, 82, 65, 77]] : List Bytes)) (fun r6 => ?_)
 refine RefR.nl 3 ?_
 refine Ref.sq ?_
 refine Ref.rn 8 ?_
 refine RefR.e0 (st' := ⟨[sP 2 1 0 0], [E65.o r6, .cells [iC 3, .str r2.1, .str [], .nil, bC false, bC false, E118.tree r4.1, .nil, E122.tree r5.1, iC 0, iC 0]], [], 1⟩) 0 2 2 [2] [0, 1] ?_
 refine RefR.nl 2 ?_
 refine Ref.conv (Conv.ob 1 (.cells [iC 3, .str r2.1, .str [], E9.tree [], bC false, bC false, E118.tree r4.1, .nil, E122.tree r5.1, iC 0, iC 0]) (OLe.cells (All2.cons (CLe.refl _) (All2.cons (CLe.refl _) (All2.cons (CLe.refl _) (All2.cons (El.tree_nil E9) (All2.cons (CLe.refl _) (All2.cons (CLe.refl _) (All2.cons (CLe.refl _) (All2.cons (CLe.refl _) (All2.cons (CLe.refl _) (All2.cons (CLe.refl _) (All2.cons (CLe.refl _) (All2.nil)))))))))))))) ?_
 refine Ref.conv (Conv.ob 1 (.cells [iC 3, .str r2.1, .str [], E9.tree [], bC false, bC false, E118.tree r4.1, E93.tree [], E122.tree r5.1, iC 0, iC 0]) (OLe.cells (All2.cons (CLe.refl _) (All2.cons (CLe.refl _) (All2.cons (CLe.refl _) (All2.cons (CLe.refl _) (All2.cons (CLe.refl _) (All2.cons (CLe.refl _) (All2.cons (CLe.refl _) (All2.cons (El.tree_nil E93) (All2.cons (CLe.refl _) (All2.cons (CLe.refl _) (All2.cons (CLe.refl _) (All2.nil)))))))))))))) ?_
 exact Ref.rt (t := ((⟨3, r2.1, ([] : Bytes), [], false, false, r4.1, [], r5.1, 0, 0⟩ : S60), r6))
def F64 (K : Nat) (a0 : S65) : Option ((S60 × S65) ⊕ (S60 × S65)) :=
 none
theorem F64_ok (K : Nat) (a0 : S65) : DFun Tryz.prog 64 [.c (.ptr 0 0 0)] [E65.o a0] (fnS (F64 K a0)) (fun r => .agg (E60.cs r.1)) (fun r => [E65.o r.2, .cells (E60.cs r.1)]) := DFun.none rfl
def F32 (K : Nat) (a0 : S65) : Option ((S60 × S65) ⊕ (S60 × S65)) :=
 (bindS (blockS ((condM true (fnS (F29 K a0 ([[73, 78, 84, 69, 82, 70, 65, 67, 69]] : List Bytes))) default).bind (fun r8 => (if r8 = true then ((fnS (F61 K a0)).bind (fun r9 => (some (.inl (Sum.inr (r9.1, r9.2)))))) else ((condM true (fnS (F29 K a0 ([[67, 76, 65, 83, 83]] : List Bytes))) default).bind (fun r10 => (if r10 = true then ((fnS (F62 K a0)).bind (fun r11 => (some (.inl (Sum.inr (r11.1, r11.2)))))) else ((condM true (fnS (F29 K a0 ([[80, 82, 79, 71, 82, 65, 77]] : List Bytes))) default).bind (fun r12 => (if r12 = true then ((fnS (F63 K a0)).bind (fun r13 => (some (.inl (Sum.inr (r13.1, r13.2)))))) else (some (.inr ())))))))))))) (fun (u7 : Unit) => ((fnS (F64 K a0)).bind (fun r14 => (some (.inl (r14.1, r14.2)))))))
theorem F32_ok (K : Nat) (a0 : S65) : DFun Tryz.prog 32 [.c (.ptr 0 0 0)] [E65.o a0] (fnS (F32 K a0)) (fun r => .agg (E60.cs r.1)) (fun r => [E65.o r.2, .cells (E60.cs r.1)]) := by
 refine DFun.it Tryz.f32 (fun r => ⟨[sP 2 1 0 0], [E65.o r.2, .cells (E60.cs r.1)], [], 1⟩) ?_
 unfold F32
 refine Ref.sq ?_
 refine Ref.rn 0 ?_
 refine RefR.e0 (st' := ⟨[sP 0 0 0 0, sP 2 1 0 0], [E65.o a0, oX3], [], 1⟩) 0 1 1 [0, 2] [0, 1] ?_
 refine RefR.nl 1 ?_
 refine Ref.sq ?_
 refine Ref.ce (.block 0 (cd (bd Tryz.f32) [1, 0, 0])) ?_
 refine Ref.block (go1 := fun u7 => ⟨[sP 0 0 0 0, sP 2 1 0 0], [E65.o a0, oX3], [], 1⟩) ?_ (fun _ h => by cases h) (fun u7 => ?_)
 ·
  refine Ref.sq ?_
  refine Ref.rn 1 ?_
  refine RefR.e0 (st' := ⟨[sP 0 0 0 0, sP 2 1 0 0, sP 4 0 0 0], [E65.o a0, oX3], [], 1⟩) 0 1 1 [0, 2, 4] [0, 1] ?_
  refine RefR.li 5 [] E9 ([[73, 78, 84, 69, 82, 70, 65, 67, 69]] : List Bytes) 1 2 ?_
  refine RefR.lookC (t := 6) (g := []) (b := true) 2 3 [0] (default : Bool) rfl (by kernel_rfl) (F29_ok K a0 ([[73, 78, 84, 69, 82, 70, 65, 67, 69]] : List Bytes)) (fun _ => rfl) (fun r8 => ?_)
  refine RefR.e0 (st' := ⟨[sP 0 0 0 0, sP 2 1 0 0, sB 3 r8], [E65.o a0, oX3], [], 1⟩) 3 1 4 [0, 2, 3] [0, 1] ?_
  refine RefR.nl 4 ?_
  refine Ref.cn (.tmp 3) r8 (fun hc => ?_) (fun hc => ?_)
  ·
   refine Ref.sq ?_
   refine Ref.rn 2 ?_
   refine RefR.e1 0 1 1 [2, 7] [0, 1] ?_
   refine RefR.cc 8 1 2 [0] (F61_ok K a0) (fun r9 => ?_)
   refine RefR.e0 (st' := ⟨[sP 2 1 0 0], [E65.o r9.2, .cells (E60.cs r9.1)], [], 1⟩) 2 1 3 [2] [0, 1] ?_
   refine RefR.nl 3 ?_
   exact Ref.rt (t := (Sum.inr (r9.1, r9.2)))
  ·
   refine Ref.sq ?_
   refine Ref.rn 3 ?_
   refine RefR.e0 (st' := ⟨[sP 0 0 0 0, sP 2 1 0 0, sP 10 0 0 0], [E65.o a0, oX3], [], 1⟩) 0 1 1 [0, 2, 10] [0, 1] ?_
   refine RefR.li 11 [] E9 ([[67, 76, 65, 83, 83]] : List Bytes) 1 2 ?_
   refine RefR.lookC (t := 12) (g := []) (b := true) 2 3 [0] (default : Bool) rfl (by kernel_rfl) (F29_ok K a0 ([[67, 76, 65, 83, 83]] : List Bytes)) (fun _ => rfl) (fun r10 => ?_)
   refine RefR.e0 (st' := ⟨[sP 0 0 0 0, sP 2 1 0 0, sB 9 r10], [E65.o a0, oX3], [], 1⟩) 3 1 4 [0, 2, 9] [0, 1] ?_
   refine RefR.nl 4 ?_
   refine Ref.cn (.tmp 9) r10 (fun hc => ?_) (fun hc => ?_)
   ·
    refine Ref.sq ?_
    refine Ref.rn 4 ?_
    refine RefR.e1 0 1 1 [2, 13] [0, 1] ?_
    refine RefR.cc 14 1 2 [0] (F62_ok K a0) (fun r11 => ?_)
    refine RefR.e0 (st' := ⟨[sP 2 1 0 0], [E65.o r11.2, .cells (E60.cs r11.1)], [], 1⟩) 2 1 3 [2] [0, 1] ?_
    refine RefR.nl 3 ?_
    exact Ref.rt (t := (Sum.inr (r11.1, r11.2)))
   ·
    refine Ref.sq ?_
    refine Ref.rn 5 ?_
    refine RefR.e0 (st' := ⟨[sP 0 0 0 0, sP 2 1 0 0, sP 16 0 0 0], [E65.o a0, oX3], [], 1⟩) 0 1 1 [0, 2, 16] [0, 1] ?_
    refine RefR.li 17 [] E9 ([[80, 82, 79, 71, 82, 65, 77]] : List Bytes) 1 2 ?_
    refine RefR.lookC (t := 18) (g := []) (b := true) 2 3 [0] (default : Bool) rfl (by kernel_rfl) (F29_ok K a0 ([[80, 82, 79, 71, 82, 65, 77]] : List Bytes)) (fun _ => rfl) (fun r12 => ?_)
    refine RefR.e0 (st' := ⟨[sP 0 0 0 0, sP 2 1 0 0, sB 15 r12], [E65.o a0, oX3], [], 1⟩) 3 1 4 [0, 2, 15] [0, 1] ?_
    refine RefR.nl 4 ?_
    refine Ref.cn (.tmp 15) r12 (fun hc => ?_) (fun hc => ?_)
    ·
     refine Ref.sq ?_
     refine Ref.rn 6 ?_
     refine RefR.e1 0 1 1 [2, 19] [0, 1] ?_
     refine RefR.cc 20 1 2 [0] (F63_ok K a0) (fun r13 => ?_)
     refine RefR.e0 (st' := ⟨[sP 2 1 0 0], [E65.o r13.2, .cells (E60.cs r13.1)], [], 1⟩) 2 1 3 [2] [0, 1] ?_
     refine RefR.nl 3 ?_
     exact Ref.rt (t := (Sum.inr (r13.1, r13.2)))
    ·
     refine Ref.sk ?_
     refine Ref.ck ⟨[sP 0 0 0 0, sP 2 1 0 0], [E65.o a0, oX3], [], 1⟩ [0, 2] [0, 1] ?_
     exact Ref.n0 (t := ())
 ·
  refine Ref.sq ?_
  refine Ref.rn 7 ?_
  refine RefR.e1 0 1 1 [2, 21] [0, 1] ?_
  refine RefR.cc 22 1 2 [0] (F64_ok K a0) (fun r14 => ?_)
  refine RefR.e0 (st' := ⟨[sP 2 1 0 0], [E65.o r14.2, .cells (E60.cs r14.1)], [], 1⟩) 2 1 3 [2] [0, 1] ?_
  refine RefR.nl 3 ?_
  exact Ref.rt (t := (r14.1, r14.2))
end Go.Proofs.YtphnfaabcnciiaaGreatDoor
