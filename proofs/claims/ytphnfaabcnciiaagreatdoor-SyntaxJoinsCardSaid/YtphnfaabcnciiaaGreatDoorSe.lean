/- Plain functions, and that the Go functions do what these do: printed by gen2.py. No conditions. -/
import Derived.Test.YtphnfaabcnciiaaGreatDoorTm
import Derived.Test.YtphnfaabcnciiaaGreatDoorDC
import Derived.Test.YtphnfaabcnciiaaGreatDoorProg
set_option linter.unusedVariables false
set_option linter.unusedSimpArgs false
set_option linter.unusedSectionVars false
namespace Go.Proofs.YtphnfaabcnciiaaGreatDoor
open Go Go.Proofs Go.Dl
set_option maxRecDepth 100000
set_option maxHeartbeats 4000000
noncomputable def F6 (K : Nat) (a0 : Bytes) (a1 : Bytes) : Option ((Bool) ⊕ (Bool)) :=
 (letV ((decide (((Int.ofNat a0.length) : Int) > 2500)) || (decide (((Int.ofNat a1.length) : Int) > 2500))) (fun (x1 : Bool) => (if x1 = true then ((fnS (F7 K)).bind (fun r2 => (some (.inl (r2))))) else ((fnS (F13 K a0)).bind (fun r3 => ((fnS (F13 K a1)).bind (fun r4 => (chk [room (a0.length + ([32] : Bytes).length), room ((a0 ++ ([32] : Bytes)).length + a1.length)] ((fnS (F12 K ((a0 ++ ([32] : Bytes)) ++ a1))).bind (fun r5 => (letV (((!(!errS r3.2.2)) || (!(!errS r4.2.2))) || (!(!errS r5.2))) (fun (x6 : Bool) => (if x6 = true then ((fnS (F7 K)).bind (fun r7 => (some (.inl (r7))))) else (letV ((((Int.ofNat r3.2.1.length) : Int) != (Int.ofNat r3.1.fDecls.length)) || (((Int.ofNat r4.2.1.length) : Int) != (Int.ofNat r4.1.fDecls.length))) (fun (x8 : Bool) => (if x8 = true then (some (.inl (false))) else ((fnS (F13 K ((a0 ++ ([32] : Bytes)) ++ a1))).bind (fun r9 => (letV (decide (((IntKind.i64.wrap ((Int.ofNat r3.2.1.length) + (Int.ofNat r4.2.1.length))) : Int) > 12)) (fun (x10 : Bool) => (if x10 = true then ((fnS (F10 K r9.2.2)).bind (fun r11 => (chk [!((r11.1 : Int) == 5) || inb (IntKind.i64.wrap (12 - (Int.ofNat r3.2.1.length))) r4.2.1.length] (letV (((r11.1 : Int) == 5) && ((r11.2 : Int) == (IntKind.i64.wrap ((IntKind.i64.wrap ((r4.2.1.getD ((IntKind.i64.wrap (12 - (Int.ofNat r3.2.1.length))) : Int).toNat default) + (Int.ofNat a0.length))) + 1)))) (fun (x12 : Bool) => ((condM x12 (fnS (F7 K)) default).bind (fun r13 => (some (.inl ((x12 && r13))))))))))) else (bindS (blockS ((iter K (fun (u35 : (List Int) × Int) => (letV (decide ((u35.2 : Int) < (Int.ofNat r4.2.1.length))) (fun (x41 : Bool) => (if x41 = true then (bindS (blockS (chk [inb u35.2 r4.2.1.length] (chk [room (u35.1.length * 8)] (chk [room ((u35.1.length + ([(IntKind.i64.wrap ((IntKind.i64.wrap ((r4.2.1.getD (u35.2 : Int).toNat default) + (Int.ofNat a0.length))) + 1))].length)) * 8)] (some (.inr ((u35.1 ++ [(IntKind.i64.wrap ((IntKind.i64.wrap ((r4.2.1.getD (u35.2 : Int).toNat default) + (Int.ofNat a0.length))) + 1))])))))))) (fun (u43 : (List Int)) => (some (.inr (u43, (IntKind.i64.wrap (u35.2 + 1))))))) else (some (.inl (Sum.inl (u35.1)))))))) (r3.2.1, 0)).map .inl)) (fun (u29 : (List Int)) => ((condM (!errS r9.2.2) (fnS (F17 K r9.2.1 u29)) default).bind (fun r45 => (chk [((!errS r9.2.2) && r45)] (chk [room (r3.1.fDecls.length * 160)] (chk [room ((r3.1.fDecls.length + r4.1.fDecls.length) * 160)] ((condM true (fnS (F15e K r9.1 (⟨(r3.1.fDecls ++ r4.1.fDecls)⟩ : S44))) default).bind (fun r49 => ((condM (true && r49) (fnS (F7 K)) default).bind (fun r50 => (some (.inl (((true && r49) && r50))))))))))))))))))))))))))))))))))))
theorem F6_ok (K : Nat) (a0 : Bytes) (a1 : Bytes) : DFun Tryz.prog 6 [.c (.str a0), .c (.str a1)] [] (fnS (F6 K a0 a1)) (fun r => .c (.val (.bool r))) (fun r => []) := by
 refine DFun.it Tryz.f6 (fun r => ⟨[sB 4 r], [], [], 0⟩) ?_
 unfold F6
 refine Ref.sq ?_
 refine Ref.rn 0 ?_
 refine RefR.e0 (st' := ⟨[sS 0 a0, sS 1 a1], [], [], 0⟩) 0 1 1 [0, 1] [] ?_
 refine RefR.nl 1 ?_
 refine Ref.sq ?_
 refine Ref.sq ?_
 refine Ref.rn 1 ?_
 refine RefR.e0 (st' := ⟨[sS 0 a0, sS 1 a1, sB 27 ((decide (((Int.ofNat a0.length) : Int) > 2500)) || (decide (((Int.ofNat a1.length) : Int) > 2500)))], [], [], 0⟩) 0 8 8 [0, 1, 27] [] ?_
 refine RefR.letC (stf := fun x1 => ⟨[sS 0 a0, sS 1 a1, sB 27 x1], [], [], 0⟩) (by kernel_rfl) (fun x1 => ?_)
 refine RefR.nl 8 ?_
 refine Ref.cn (.tmp 27) x1 (fun hc => ?_) (fun hc => ?_)
 ·
  refine Ref.sq ?_
  refine Ref.rn 2 ?_
  refine RefR.cc 28 0 1 [] (F7_ok K) (fun r2 => ?_)
  refine RefR.e0 (st' := ⟨[sB 4 r2], [], [], 0⟩) 1 1 2 [4] [] ?_
  refine RefR.nl 2 ?_
  exact Ref.rt (t := (r2))
 ·
  refine Ref.sk ?_
  refine Ref.sq ?_
  refine Ref.rn 3 ?_
  refine RefR.e1 0 1 1 [0, 1, 30] [] ?_
  refine RefR.cc 31 1 2 [] (F13_ok K a0) (fun r3 => ?_)
  refine RefR.e0 (st' := ⟨[sS 0 a0, sS 1 a1, sP 5 0 0 0, (6, .c (E3.tree r3.2.1)), (7, .c (errC r3.2.2))], [.cells (E44.cs r3.1)], [], 0⟩) 2 8 10 [0, 1, 5, 6, 7] [1] ?_
  refine RefR.nl 10 ?_
  refine Ref.sq ?_
  refine Ref.rn 4 ?_
  refine RefR.e1 0 1 1 [0, 1, 5, 6, 7, 36] [0] ?_
  refine RefR.cc 37 1 2 [] (F13_ok K a1) (fun r4 => ?_)
  refine RefR.e0 (st' := ⟨[sS 0 a0, sS 1 a1, sP 5 0 0 0, (6, .c (E3.tree r3.2.1)), (7, .c (errC r3.2.2)), sP 8 1 0 0, (9, .c (E3.tree r4.2.1)), (10, .c (errC r4.2.2))], [.cells (E44.cs r3.1), .cells (E44.cs r4.1)], [], 0⟩) 2 8 10 [0, 1, 5, 6, 7, 8, 9, 10] [0, 2] ?_
  refine RefR.nl 10 ?_
  refine Ref.sq ?_
  refine Ref.rn 5 ?_
  refine RefR.evC (vs := [room (a0.length + w_32.length), room ((a0 ++ w_32).length + a1.length)]) (st' := ⟨[sS 0 a0, sP 5 0 0 0, (6, .c (E3.tree r3.2.1)), (7, .c (errC r3.2.2)), sP 8 1 0 0, (9, .c (E3.tree r4.2.1)), (10, .c (errC r4.2.2)), sS 11 ((a0 ++ w_32) ++ a1)], [.cells (E44.cs r3.1), .cells (E44.cs r4.1)], [], 0⟩) 0 5 5 [0, 5, 6, 7, 8, 9, 10, 11] [0, 1] rfl (by kernel_rfl) ?_
  refine RefR.nl 5 ?_
  refine Ref.sq ?_
  refine Ref.rn 6 ?_
  refine RefR.e1 0 1 1 [0, 5, 6, 7, 8, 9, 10, 11, 46] [0, 1] ?_
  refine RefR.cc 47 1 2 [] (F12_ok K ((a0 ++ w_32) ++ a1)) (fun r5 => ?_)
  refine RefR.e0 (st' := ⟨[sS 0 a0, sP 5 0 0 0, (6, .c (E3.tree r3.2.1)), (7, .c (errC r3.2.2)), sP 8 1 0 0, (9, .c (E3.tree r4.2.1)), (10, .c (errC r4.2.2)), sS 11 ((a0 ++ w_32) ++ a1), (13, .c (errC r5.2))], [.cells (E44.cs r3.1), .cells (E44.cs r4.1)], [], 0⟩) 2 5 7 [0, 5, 6, 7, 8, 9, 10, 11, 13] [0, 1] ?_
  refine RefR.nl 7 ?_
  refine Ref.sq ?_
  refine Ref.sq ?_
  refine Ref.rn 7 ?_
  refine RefR.e0 (st' := ⟨[sS 0 a0, sP 5 0 0 0, (6, .c (E3.tree r3.2.1)), sP 8 1 0 0, (9, .c (E3.tree r4.2.1)), sS 11 ((a0 ++ w_32) ++ a1), sB 59 (((!(!errS r3.2.2)) || (!(!errS r4.2.2))) || (!(!errS r5.2)))], [.cells (E44.cs r3.1), .cells (E44.cs r4.1)], [], 0⟩) 0 10 10 [0, 5, 6, 8, 9, 11, 59] [0, 1] ?_
  refine RefR.letC (stf := fun x6 => ⟨[sS 0 a0, sP 5 0 0 0, (6, .c (E3.tree r3.2.1)), sP 8 1 0 0, (9, .c (E3.tree r4.2.1)), sS 11 ((a0 ++ w_32) ++ a1), sB 59 x6], [.cells (E44.cs r3.1), .cells (E44.cs r4.1)], [], 0⟩) (by kernel_rfl) (fun x6 => ?_)
  refine RefR.nl 10 ?_
  refine Ref.cn (.tmp 59) x6 (fun hc => ?_) (fun hc => ?_)
  ·
   refine Ref.sq ?_
   refine Ref.rn 8 ?_
   refine RefR.cc 60 0 1 [] (F7_ok K) (fun r7 => ?_)
   refine RefR.e0 (st' := ⟨[sB 4 r7], [], [], 0⟩) 1 1 2 [4] [] ?_
   refine RefR.nl 2 ?_
   exact Ref.rt (t := (r7))
  ·
   refine Ref.sk ?_
   refine Ref.sq ?_
   refine Ref.sq ?_
   refine Ref.rn 9 ?_
   refine RefR.e0 (st' := ⟨[sS 0 a0, sP 5 0 0 0, (6, .c (E3.tree r3.2.1)), sP 8 1 0 0, (9, .c (E3.tree r4.2.1)), sS 11 ((a0 ++ w_32) ++ a1), sB 74 ((((Int.ofNat r3.2.1.length) : Int) != (Int.ofNat r3.1.fDecls.length)) || (((Int.ofNat r4.2.1.length) : Int) != (Int.ofNat r4.1.fDecls.length)))], [.cells (E44.cs r3.1), .cells (E44.cs r4.1)], [], 0⟩) 0 14 14 [0, 5, 6, 8, 9, 11, 74] [0, 1] ?_
   refine RefR.letC (stf := fun x8 => ⟨[sS 0 a0, sP 5 0 0 0, (6, .c (E3.tree r3.2.1)), sP 8 1 0 0, (9, .c (E3.tree r4.2.1)), sS 11 ((a0 ++ w_32) ++ a1), sB 74 x8], [.cells (E44.cs r3.1), .cells (E44.cs r4.1)], [], 0⟩) (by kernel_rfl) (fun x8 => ?_)
   refine RefR.nl 14 ?_
   refine Ref.cn (.tmp 74) x8 (fun hc => ?_) (fun hc => ?_)
   ·
    refine Ref.sq ?_
    refine Ref.rn 10 ?_
    refine RefR.e0 (st' := ⟨[sB 4 false], [], [], 0⟩) 0 1 1 [4] [] ?_
    refine RefR.nl 1 ?_
    exact Ref.rt (t := (false))
   ·
    refine Ref.sk ?_
    refine Ref.sq ?_
    refine Ref.rn 11 ?_
    refine RefR.e1 0 1 1 [0, 5, 6, 8, 9, 76] [0, 1] ?_
    refine RefR.cc 77 1 2 [] (F13_ok K ((a0 ++ w_32) ++ a1)) (fun r9 => ?_)
    refine RefR.e0 (st' := ⟨[sS 0 a0, sP 5 0 0 0, (6, .c (E3.tree r3.2.1)), sP 8 1 0 0, (9, .c (E3.tree r4.2.1)), sP 14 2 0 0, (15, .c (E3.tree r9.2.1)), (16, .c (errC r9.2.2))], [.cells (E44.cs r3.1), .cells (E44.cs r4.1), .cells (E44.cs r9.1)], [], 0⟩) 2 8 10 [0, 5, 6, 8, 9, 14, 15, 16] [0, 1, 3] ?_
    refine RefR.nl 10 ?_
    refine Ref.sq ?_
    refine Ref.sq ?_
    refine Ref.rn 12 ?_
    refine RefR.e0 (st' := ⟨[sS 0 a0, sP 5 0 0 0, (6, .c (E3.tree r3.2.1)), sP 8 1 0 0, (9, .c (E3.tree r4.2.1)), sP 14 2 0 0, (15, .c (E3.tree r9.2.1)), (16, .c (errC r9.2.2)), sB 86 (decide (((IntKind.i64.wrap ((Int.ofNat r3.2.1.length) + (Int.ofNat r4.2.1.length))) : Int) > 12))], [.cells (E44.cs r3.1), .cells (E44.cs r4.1), .cells (E44.cs r9.1)], [], 0⟩) 0 6 6 [0, 5, 6, 8, 9, 14, 15, 16, 86] [0, 1, 2] ?_
    refine RefR.letC (stf := fun x10 => ⟨[sS 0 a0, sP 5 0 0 0, (6, .c (E3.tree r3.2.1)), sP 8 1 0 0, (9, .c (E3.tree r4.2.1)), sP 14 2 0 0, (15, .c (E3.tree r9.2.1)), (16, .c (errC r9.2.2)), sB 86 x10], [.cells (E44.cs r3.1), .cells (E44.cs r4.1), .cells (E44.cs r9.1)], [], 0⟩) (by kernel_rfl) (fun x10 => ?_)
    refine RefR.nl 6 ?_
    refine Ref.cn (.tmp 86) x10 (fun hc => ?_) (fun hc => ?_)
    ·
     refine Ref.sq ?_
     refine Ref.rn 13 ?_
     refine RefR.e1 0 1 1 [0, 6, 9, 88] [] ?_
     refine RefR.cc 89 1 2 [] (F10_ok K r9.2.2) (fun r11 => ?_)
     refine RefR.e0 (st' := ⟨[sS 0 a0, (6, .c (E3.tree r3.2.1)), (9, .c (E3.tree r4.2.1)), sI 17 r11.1, sI 18 r11.2], [], [], 0⟩) 2 5 7 [0, 6, 9, 17, 18] [] ?_
     refine RefR.nl 7 ?_
     refine Ref.sq ?_
     refine Ref.rn 14 ?_
     refine RefR.evC (vs := [!((r11.1 : Int) == 5) || inb (IntKind.i64.wrap (12 - (Int.ofNat r3.2.1.length))) r4.2.1.length]) (st' := ⟨[sB 108 (((r11.1 : Int) == 5) && ((r11.2 : Int) == (IntKind.i64.wrap ((IntKind.i64.wrap ((r4.2.1.getD ((IntKind.i64.wrap (12 - (Int.ofNat r3.2.1.length))) : Int).toNat default) + (Int.ofNat a0.length))) + 1))))], [], [], 0⟩) 0 17 17 [108] [] rfl (by kernel_rfl) ?_
     refine RefR.letC (stf := fun x12 => ⟨[sB 108 x12], [], [], 0⟩) (by kernel_rfl) (fun x12 => ?_)
     refine RefR.lookC (t := 109) (g := [(108, true)]) (b := x12) 17 18 [] (default : Bool) rfl (by kernel_rfl) (F7_ok K) (fun _ => rfl) (fun r13 => ?_)
     refine RefR.e0 (st' := ⟨[sB 4 (x12 && r13)], [], [], 0⟩) 18 2 20 [4] [] ?_
     refine RefR.nl 20 ?_
     exact Ref.rt (t := ((x12 && r13)))
    ·
     refine Ref.sk ?_
     refine Ref.sq ?_
     refine Ref.sq ?_
     refine Ref.rn 15 ?_
     refine RefR.e0 (st' := ⟨[sS 0 a0, sP 5 0 0 0, (6, .c (E3.tree r3.2.1)), sP 8 1 0 0, (9, .c (E3.tree r4.2.1)), sP 14 2 0 0, (15, .c (E3.tree r9.2.1)), (16, .c (errC r9.2.2)), sI 19 0], [.cells (E44.cs r3.1), .cells (E44.cs r4.1), .cells (E44.cs r9.1)], [], 0⟩) 0 1 1 [0, 5, 6, 8, 9, 14, 15, 16, 19] [0, 1, 2] ?_
     refine RefR.nl 1 ?_
     refine Ref.ce (.block 0 (cd (bd Tryz.f6) [1, 1, 1, 1, 1, 1, 1, 1, 1, 1, 0, 1, 0])) ?_
     refine Ref.block (go1 := fun u29 => ⟨[sP 5 0 0 0, (6, .c (E3.tree u29)), sP 8 1 0 0, sP 14 2 0 0, (15, .c (E3.tree r9.2.1)), (16, .c (errC r9.2.2))], [.cells (E44.cs r3.1), .cells (E44.cs r4.1), .cells (E44.cs r9.1)], [], 0⟩) ?_ (fun _ h => by cases h) (fun u29 => ?_)
     ·
      refine Ref.ce (.loop (cd (bd Tryz.f6) [1, 1, 1, 1, 1, 1, 1, 1, 1, 1, 0, 1, 0, 0])) ?_
      refine Ref.loop (hd := fun u35 => ⟨[sS 0 a0, sP 5 0 0 0, (6, .c (E3.tree u35.1)), sP 8 1 0 0, (9, .c (E3.tree r4.2.1)), sP 14 2 0 0, (15, .c (E3.tree r9.2.1)), (16, .c (errC r9.2.2)), sI 19 u35.2], [.cells (E44.cs r3.1), .cells (E44.cs r4.1), .cells (E44.cs r9.1)], [], 0⟩) K (r3.2.1, 0) (by kernel_rfl) (fun u35 => ?_)
      refine Ref.sq ?_
      refine Ref.sq ?_
      refine Ref.rn 16 ?_
      refine RefR.e0 (st' := ⟨[sS 0 a0, sP 5 0 0 0, (6, .c (E3.tree u35.1)), sP 8 1 0 0, (9, .c (E3.tree r4.2.1)), sP 14 2 0 0, (15, .c (E3.tree r9.2.1)), (16, .c (errC r9.2.2)), sI 19 u35.2, sB 114 (decide ((u35.2 : Int) < (Int.ofNat r4.2.1.length)))], [.cells (E44.cs r3.1), .cells (E44.cs r4.1), .cells (E44.cs r9.1)], [], 0⟩) 0 4 4 [0, 5, 6, 8, 9, 14, 15, 16, 19, 114] [0, 1, 2] ?_
      refine RefR.letC (stf := fun x41 => ⟨[sS 0 a0, sP 5 0 0 0, (6, .c (E3.tree u35.1)), sP 8 1 0 0, (9, .c (E3.tree r4.2.1)), sP 14 2 0 0, (15, .c (E3.tree r9.2.1)), (16, .c (errC r9.2.2)), sI 19 u35.2, sB 114 x41], [.cells (E44.cs r3.1), .cells (E44.cs r4.1), .cells (E44.cs r9.1)], [], 0⟩) (by kernel_rfl) (fun x41 => ?_)
      refine RefR.nl 4 ?_
      refine Ref.cn (.tmp 114) x41 (fun hc => ?_) (fun hc => ?_)
      ·
       refine Ref.sk ?_
       refine Ref.sq ?_
       refine Ref.ce (.block 1 (cd (bd Tryz.f6) [1, 1, 1, 1, 1, 1, 1, 1, 1, 1, 0, 1, 0, 0, 1, 0, 0])) ?_
       refine Ref.block (go1 := fun u43 => ⟨[sS 0 a0, sP 5 0 0 0, (6, .c (E3.tree u43)), sP 8 1 0 0, (9, .c (E3.tree r4.2.1)), sP 14 2 0 0, (15, .c (E3.tree r9.2.1)), (16, .c (errC r9.2.2)), sI 19 u35.2], [.cells (E44.cs r3.1), .cells (E44.cs r4.1), .cells (E44.cs r9.1)], [], 0⟩) ?_ (fun a => match a with | .inl _ => (fun h => by cases h) | .inr _ => (fun h => by cases h)) (fun u43 => ?_)
       ·
        refine Ref.drawnY 18 (by kernel_rfl) (by kernel_rfl) ?_
        refine RefY.evC (vs := [inb u35.2 r4.2.1.length]) (st' := ⟨[sS 0 a0, sP 5 0 0 0, sP 8 1 0 0, (9, .c (E3.tree r4.2.1)), sP 14 2 0 0, (15, .c (E3.tree r9.2.1)), (16, .c (errC r9.2.2)), sI 19 u35.2, (117, .c (E3.tree u35.1)), (121, .c (E3.ep (r4.2.1.getD (u35.2 : Int).toNat default) 0)), sI 124 (Int.ofNat a0.length)], [.cells (E44.cs r3.1), .cells (E44.cs r4.1), .cells (E44.cs r9.1)], [], 0⟩) (fuel' := 7) [0, 2, 3, 4, 6, 7] [0, 5, 8, 9, 14, 15, 16, 19, 117, 121, 124] [0, 1, 2] rfl (by kernel_rfl) (by kernel_rfl) ?_
        refine RefY.toX [11] ?_
        refine RefX.withK0 (⟨[sS 0 a0, sP 5 0 0 0, (6, .c (.own 1 ((u35.1 ++ [(IntKind.i64.wrap ((IntKind.i64.wrap ((r4.2.1.getD (u35.2 : Int).toNat default) + (Int.ofNat a0.length))) + 1))]).length))), sP 8 2 0 0, (9, .c (E3.tree r4.2.1)), sP 14 3 0 0, (15, .c (E3.tree r9.2.1)), (16, .c (errC r9.2.2)), sI 19 u35.2], [.cells (E44.cs r3.1), E3.row (u35.1 ++ [(IntKind.i64.wrap ((IntKind.i64.wrap ((r4.2.1.getD (u35.2 : Int).toNat default) + (Int.ofNat a0.length))) + 1))]), .cells (E44.cs r4.1), .cells (E44.cs r9.1)], [], 0⟩) ((some (.inr ((u35.1 ++ [(IntKind.i64.wrap ((IntKind.i64.wrap ((r4.2.1.getD (u35.2 : Int).toNat default) + (Int.ofNat a0.length))) + 1))]))))) ?_ (fun hk => ?_)
        ·
         refine Ref.conv (Conv.freeze (st' := ⟨[sS 0 a0, sP 5 0 0 0, (6, .c (E3.tree (u35.1 ++ [(IntKind.i64.wrap ((IntKind.i64.wrap ((r4.2.1.getD (u35.2 : Int).toNat default) + (Int.ofNat a0.length))) + 1))]))), sP 8 2 0 0, (9, .c (E3.tree r4.2.1)), sP 14 3 0 0, (15, .c (E3.tree r9.2.1)), (16, .c (errC r9.2.2)), sI 19 u35.2], [.cells (E44.cs r3.1), .dead, .cells (E44.cs r4.1), .cells (E44.cs r9.1)], [], 0⟩) 1 (by kernel_rfl)) ?_
         refine Ref.ck ⟨[sS 0 a0, sP 5 0 0 0, (6, .c (E3.tree (u35.1 ++ [(IntKind.i64.wrap ((IntKind.i64.wrap ((r4.2.1.getD (u35.2 : Int).toNat default) + (Int.ofNat a0.length))) + 1))]))), sP 8 1 0 0, (9, .c (E3.tree r4.2.1)), sP 14 2 0 0, (15, .c (E3.tree r9.2.1)), (16, .c (errC r9.2.2)), sI 19 u35.2], [.cells (E44.cs r3.1), .cells (E44.cs r4.1), .cells (E44.cs r9.1)], [], 0⟩ [0, 5, 6, 8, 9, 14, 15, 16, 19] [0, 2, 3] ?_
         exact Ref.n0 (t := ((u35.1 ++ [(IntKind.i64.wrap ((IntKind.i64.wrap ((r4.2.1.getD (u35.2 : Int).toNat default) + (Int.ofNat a0.length))) + 1))])))
        ·
         refine RefX.v0 (fuel' := 4) [5, 8, 9] [0, 5, 8, 9, 14, 15, 16, 19, 117, 126] [0, 1, 2] ?_
         refine RefX.fork2 (fuel' := 3) 1 10 (by kernel_rfl) ?_ ?_
         ·
          refine RefXi.adds (vs := [room (u35.1.length * 8)]) (st' := ⟨[sS 0 a0, sP 5 0 0 0, sP 8 1 0 0, (9, .c (E3.tree r4.2.1)), sP 14 2 0 0, (15, .c (E3.tree r9.2.1)), (16, .c (errC r9.2.2)), sI 19 u35.2, (118, .c (.own 3 u35.1.length)), sI 126 (IntKind.i64.wrap ((IntKind.i64.wrap ((r4.2.1.getD (u35.2 : Int).toNat default) + (Int.ofNat a0.length))) + 1))], [.cells (E44.cs r3.1), .cells (E44.cs r4.1), .cells (E44.cs r9.1), E3.row u35.1], [], 0⟩) 1 [0, 5, 8, 9, 14, 15, 16, 19, 118, 126] [0, 1, 2, 3] (by kernel_rfl) (by kernel_rfl) ?_
          refine RefX.madeC0 (st' := ⟨[sS 0 a0, sP 5 0 0 0, sP 8 1 0 0, (9, .c (E3.tree r4.2.1)), sP 14 2 0 0, (15, .c (E3.tree r9.2.1)), (16, .c (errC r9.2.2)), sI 19 u35.2, (118, .c (.own 3 u35.1.length)), (127, .c (.own 4 1))], [.cells (E44.cs r3.1), .cells (E44.cs r4.1), .cells (E44.cs r9.1), E3.row u35.1, .row 3 1 1 (tbl [[iC (IntKind.i64.wrap ((IntKind.i64.wrap ((r4.2.1.getD (u35.2 : Int).toNat default) + (Int.ofNat a0.length))) + 1))]])], [], 0⟩) (fuel' := 2) 10 [0, 5, 8, 9, 14, 15, 16, 19, 118, 127] [0, 1, 2, 3, 4] rfl (by kernel_rfl) (by kernel_rfl) ?_
          refine RefX.conv (Conv.ob 4 (E3.row [(IntKind.i64.wrap ((IntKind.i64.wrap ((r4.2.1.getD (u35.2 : Int).toNat default) + (Int.ofNat a0.length))) + 1))]) (El.row_build E3 [(IntKind.i64.wrap ((IntKind.i64.wrap ((r4.2.1.getD (u35.2 : Int).toNat default) + (Int.ofNat a0.length))) + 1))] rfl (by kernel_rfl))) ?_
          refine RefX.conv (Conv.sl 127 (.c (.own 4 ([(IntKind.i64.wrap ((IntKind.i64.wrap ((r4.2.1.getD (u35.2 : Int).toNat default) + (Int.ofNat a0.length))) + 1))].length))) (DLe.c (CLe.own (by simp <;> omega)))) ?_
          refine RefX.fork1 (fuel' := 1) 11 (by kernel_rfl) ?_
          refine RefXi.writes (vs := [room ((u35.1.length + ([(IntKind.i64.wrap ((IntKind.i64.wrap ((r4.2.1.getD (u35.2 : Int).toNat default) + (Int.ofNat a0.length))) + 1))].length)) * 8)]) (st' := ⟨[sS 0 a0, sP 5 0 0 0, sP 8 1 0 0, (9, .c (E3.tree r4.2.1)), sP 14 2 0 0, (15, .c (E3.tree r9.2.1)), (16, .c (errC r9.2.2)), sI 19 u35.2, (128, .c (.own 3 (u35.1.length + ([(IntKind.i64.wrap ((IntKind.i64.wrap ((r4.2.1.getD (u35.2 : Int).toNat default) + (Int.ofNat a0.length))) + 1))].length))))], [.cells (E44.cs r3.1), .cells (E44.cs r4.1), .cells (E44.cs r9.1), .row 3 1 (u35.1.length + ([(IntKind.i64.wrap ((IntKind.i64.wrap ((r4.2.1.getD (u35.2 : Int).toNat default) + (Int.ofNat a0.length))) + 1))].length)) fun i j => bif Nat.blt i u35.1.length then E3.at u35.1 i j else (E3.at [(IntKind.i64.wrap ((IntKind.i64.wrap ((r4.2.1.getD (u35.2 : Int).toNat default) + (Int.ofNat a0.length))) + 1))]) (i - u35.1.length) j], [], 0⟩) 11 [0, 5, 8, 9, 14, 15, 16, 19, 128] [0, 1, 2, 5] (by kernel_rfl) (by kernel_rfl) ?_
          refine RefX.conv (Conv.ob 3 (E3.row (u35.1 ++ [(IntKind.i64.wrap ((IntKind.i64.wrap ((r4.2.1.getD (u35.2 : Int).toNat default) + (Int.ofNat a0.length))) + 1))])) (El.row_append E3 u35.1 [(IntKind.i64.wrap ((IntKind.i64.wrap ((r4.2.1.getD (u35.2 : Int).toNat default) + (Int.ofNat a0.length))) + 1))] rfl rfl)) ?_
          refine RefX.conv (Conv.sl 128 (.c (.own 3 ((u35.1 ++ [(IntKind.i64.wrap ((IntKind.i64.wrap ((r4.2.1.getD (u35.2 : Int).toNat default) + (Int.ofNat a0.length))) + 1))]).length))) (DLe.c (CLe.own (by simp <;> omega)))) ?_
          refine RefX.v0 (fuel' := 0) [12] [0, 5, 6, 8, 9, 14, 15, 16, 19] [0, 1, 2, 3] ?_
          refine RefX.done (by kernel_rfl) ?_
          refine Ref.ck ⟨[sS 0 a0, sP 5 0 0 0, (6, .c (.own 1 ((u35.1 ++ [(IntKind.i64.wrap ((IntKind.i64.wrap ((r4.2.1.getD (u35.2 : Int).toNat default) + (Int.ofNat a0.length))) + 1))]).length))), sP 8 2 0 0, (9, .c (E3.tree r4.2.1)), sP 14 3 0 0, (15, .c (E3.tree r9.2.1)), (16, .c (errC r9.2.2)), sI 19 u35.2], [.cells (E44.cs r3.1), E3.row (u35.1 ++ [(IntKind.i64.wrap ((IntKind.i64.wrap ((r4.2.1.getD (u35.2 : Int).toNat default) + (Int.ofNat a0.length))) + 1))]), .cells (E44.cs r4.1), .cells (E44.cs r9.1)], [], 0⟩ [0, 5, 6, 8, 9, 14, 15, 16, 19] [0, 3, 1, 2] ?_
          exact hk
         ·
          refine RefXi.adds0 (st' := ⟨[sS 0 a0, sP 5 0 0 0, sP 8 1 0 0, (9, .c (E3.tree r4.2.1)), sP 14 2 0 0, (15, .c (E3.tree r9.2.1)), (16, .c (errC r9.2.2)), sI 19 u35.2, (117, .c (E3.tree u35.1)), (127, .c (.own 3 1))], [.cells (E44.cs r3.1), .cells (E44.cs r4.1), .cells (E44.cs r9.1), .row 3 1 1 (tbl [[iC (IntKind.i64.wrap ((IntKind.i64.wrap ((r4.2.1.getD (u35.2 : Int).toNat default) + (Int.ofNat a0.length))) + 1))]])], [], 0⟩) 10 [0, 5, 8, 9, 14, 15, 16, 19, 117, 127] [0, 1, 2, 3] (by kernel_rfl) (by kernel_rfl) ?_
          refine RefX.conv (Conv.ob 3 (E3.row [(IntKind.i64.wrap ((IntKind.i64.wrap ((r4.2.1.getD (u35.2 : Int).toNat default) + (Int.ofNat a0.length))) + 1))]) (El.row_build E3 [(IntKind.i64.wrap ((IntKind.i64.wrap ((r4.2.1.getD (u35.2 : Int).toNat default) + (Int.ofNat a0.length))) + 1))] rfl (by kernel_rfl))) ?_
          refine RefX.conv (Conv.sl 127 (.c (.own 3 ([(IntKind.i64.wrap ((IntKind.i64.wrap ((r4.2.1.getD (u35.2 : Int).toNat default) + (Int.ofNat a0.length))) + 1))].length))) (DLe.c (CLe.own (by simp <;> omega)))) ?_
          refine RefX.fork1 (fuel' := 2) 1 (by kernel_rfl) ?_
          refine RefXi.a1 [room (u35.1.length * 8)] 1 [0, 5, 8, 9, 14, 15, 16, 19, 118, 127] [0, 1, 2, 3, 4] ?_
          refine RefX.fork1 (fuel' := 1) 11 (by kernel_rfl) ?_
          refine RefXi.writes (vs := [room ((u35.1.length + ([(IntKind.i64.wrap ((IntKind.i64.wrap ((r4.2.1.getD (u35.2 : Int).toNat default) + (Int.ofNat a0.length))) + 1))].length)) * 8)]) (st' := ⟨[sS 0 a0, sP 5 0 0 0, sP 8 1 0 0, (9, .c (E3.tree r4.2.1)), sP 14 2 0 0, (15, .c (E3.tree r9.2.1)), (16, .c (errC r9.2.2)), sI 19 u35.2, (128, .c (.own 3 (u35.1.length + ([(IntKind.i64.wrap ((IntKind.i64.wrap ((r4.2.1.getD (u35.2 : Int).toNat default) + (Int.ofNat a0.length))) + 1))].length))))], [.cells (E44.cs r3.1), .cells (E44.cs r4.1), .cells (E44.cs r9.1), .row 3 1 (u35.1.length + ([(IntKind.i64.wrap ((IntKind.i64.wrap ((r4.2.1.getD (u35.2 : Int).toNat default) + (Int.ofNat a0.length))) + 1))].length)) fun i j => bif Nat.blt i u35.1.length then E3.at u35.1 i j else (E3.at [(IntKind.i64.wrap ((IntKind.i64.wrap ((r4.2.1.getD (u35.2 : Int).toNat default) + (Int.ofNat a0.length))) + 1))]) (i - u35.1.length) j], [], 0⟩) 11 [0, 5, 8, 9, 14, 15, 16, 19, 128] [0, 1, 2, 5] (by kernel_rfl) (by kernel_rfl) ?_
          refine RefX.conv (Conv.ob 3 (E3.row (u35.1 ++ [(IntKind.i64.wrap ((IntKind.i64.wrap ((r4.2.1.getD (u35.2 : Int).toNat default) + (Int.ofNat a0.length))) + 1))])) (El.row_append E3 u35.1 [(IntKind.i64.wrap ((IntKind.i64.wrap ((r4.2.1.getD (u35.2 : Int).toNat default) + (Int.ofNat a0.length))) + 1))] rfl rfl)) ?_
          refine RefX.conv (Conv.sl 128 (.c (.own 3 ((u35.1 ++ [(IntKind.i64.wrap ((IntKind.i64.wrap ((r4.2.1.getD (u35.2 : Int).toNat default) + (Int.ofNat a0.length))) + 1))]).length))) (DLe.c (CLe.own (by simp <;> omega)))) ?_
          refine RefX.v0 (fuel' := 0) [12] [0, 5, 6, 8, 9, 14, 15, 16, 19] [0, 1, 2, 3] ?_
          refine RefX.done (by kernel_rfl) ?_
          refine Ref.ck ⟨[sS 0 a0, sP 5 0 0 0, (6, .c (.own 1 ((u35.1 ++ [(IntKind.i64.wrap ((IntKind.i64.wrap ((r4.2.1.getD (u35.2 : Int).toNat default) + (Int.ofNat a0.length))) + 1))]).length))), sP 8 2 0 0, (9, .c (E3.tree r4.2.1)), sP 14 3 0 0, (15, .c (E3.tree r9.2.1)), (16, .c (errC r9.2.2)), sI 19 u35.2], [.cells (E44.cs r3.1), E3.row (u35.1 ++ [(IntKind.i64.wrap ((IntKind.i64.wrap ((r4.2.1.getD (u35.2 : Int).toNat default) + (Int.ofNat a0.length))) + 1))]), .cells (E44.cs r4.1), .cells (E44.cs r9.1)], [], 0⟩ [0, 5, 6, 8, 9, 14, 15, 16, 19] [0, 3, 1, 2] ?_
          exact hk
       ·
        refine Ref.rn 17 ?_
        refine RefR.e0 (st' := ⟨[sS 0 a0, sP 5 0 0 0, (6, .c (E3.tree u43)), sP 8 1 0 0, (9, .c (E3.tree r4.2.1)), sP 14 2 0 0, (15, .c (E3.tree r9.2.1)), (16, .c (errC r9.2.2)), sI 19 (IntKind.i64.wrap (u35.2 + 1))], [.cells (E44.cs r3.1), .cells (E44.cs r4.1), .cells (E44.cs r9.1)], [], 0⟩) 0 3 3 [0, 5, 6, 8, 9, 14, 15, 16, 19] [0, 1, 2] ?_
        refine RefR.nl 3 ?_
        exact Ref.n0 (t := (u43, (IntKind.i64.wrap (u35.2 + 1))))
      ·
       refine Ref.ck ⟨[sP 5 0 0 0, (6, .c (E3.tree u35.1)), sP 8 1 0 0, sP 14 2 0 0, (15, .c (E3.tree r9.2.1)), (16, .c (errC r9.2.2))], [.cells (E44.cs r3.1), .cells (E44.cs r4.1), .cells (E44.cs r9.1)], [], 0⟩ [5, 6, 8, 14, 15, 16] [0, 1, 2] ?_
       exact Ref.xt 0 (t := (Sum.inl (u35.1)))
     ·
      refine Ref.sq ?_
      refine Ref.drawnY 19 (by kernel_rfl) (by kernel_rfl) ?_
      refine RefY.evC0 (st' := ⟨[sP 5 0 0 0, sP 8 1 0 0, sP 14 2 0 0, sB 131 (!errS r9.2.2), (132, .c (E3.tree r9.2.1)), (133, .c (E3.tree u29))], [.cells (E44.cs r3.1), .cells (E44.cs r4.1), .cells (E44.cs r9.1)], [(133, [(131, true)]), (132, [(131, true)])], 0⟩) (fuel' := 17) [0, 1, 2, 3, 4] [5, 8, 14, 131, 132, 133] [0, 1, 2] rfl (by kernel_rfl) (by kernel_rfl) ?_
      refine RefY.toX [11, 14] ?_
      refine RefX.lookC (t := 134) (g := [(131, true)]) (b := (!errS r9.2.2)) (fuel' := 16) 5 [] (default : Bool) rfl (by kernel_rfl) (by kernel_rfl) (F17_ok K r9.2.1 u29) (fun _ => rfl) (fun r45 => ?_)
      refine RefX.evC0 (st' := ⟨[sP 8 0 0 0, sP 14 1 0 0, sB 136 ((!errS r9.2.2) && r45), (139, .c (E60.tree r3.1.fDecls))], [.cells (E44.cs r4.1), .cells (E44.cs r9.1)], [(139, [(136, true)])], 0⟩) (fuel' := 12) [6, 7, 9, 10] [8, 14, 136, 139] [1, 2] rfl (by kernel_rfl) (by kernel_rfl) ?_
      refine RefX.assumeC (b := ((!errS r9.2.2) && r45)) (stf := fun v46 => ⟨[sP 8 0 0 0, sP 14 1 0 0, sB 136 v46, (139, .c (E60.tree r3.1.fDecls))], [.cells (E44.cs r4.1), .cells (E44.cs r9.1)], [(139, [(136, true)])], 0⟩) (by kernel_rfl) ?_
      refine RefX.conv (Conv.clear (by kernel_rfl)) ?_
      refine RefX.unguard 7 136 (by kernel_rfl) ?_
      refine RefX.pend0 (fuel' := 9) [[], [(8, 137)], [(13, 142)], [(8, 137), (13, 142)], [(12, 141), (13, 142)], [(8, 137), (12, 141), (13, 142)]] [(8, 137), (12, 141), (13, 142)] [8, 14, 136, 139] [0, 1] ⟨[sP 8 0 0 0, sP 14 1 0 0, sB 136 true, (137, .agg (E44.cs r9.1)), (139, .c (E60.tree r3.1.fDecls)), sP 141 0 0 0, (142, .c (E60.tree r4.1.fDecls))], [.cells (E44.cs r4.1), .cells (E44.cs r9.1)], [], 0⟩ ?_
      refine RefXq.fork1 (fuel' := 8) 11 ?_
      refine RefXqi.writes (vs := [room (r3.1.fDecls.length * 160)]) (st' := ⟨[sP 8 0 0 0, sP 14 1 0 0, sB 136 true, (137, .agg (E44.cs r9.1)), (140, .c (.own 2 r3.1.fDecls.length)), sP 141 0 0 0, (142, .c (E60.tree r4.1.fDecls))], [.cells (E44.cs r4.1), .cells (E44.cs r9.1), E60.row r3.1.fDecls], [], 0⟩) 11 [8, 14, 136, 137, 140, 141, 142] [0, 1, 2] (by kernel_rfl) (by kernel_rfl) ?_
      refine RefXq.less [[], [(8, 137)]] ?_
      refine RefXq.fork1 (fuel' := 7) 14 ?_
      refine RefXqi.writes (vs := [room ((r3.1.fDecls.length + r4.1.fDecls.length) * 160)]) (st' := ⟨[sP 14 0 0 0, sB 136 true, (137, .agg (E44.cs r9.1)), (143, .c (.own 1 (r3.1.fDecls.length + r4.1.fDecls.length)))], [.cells (E44.cs r9.1), .row 60 11 (r3.1.fDecls.length + r4.1.fDecls.length) fun i j => bif Nat.blt i r3.1.fDecls.length then E60.at r3.1.fDecls i j else (E60.at r4.1.fDecls) (i - r3.1.fDecls.length) j], [], 0⟩) 14 [14, 136, 137, 143] [1, 3] (by kernel_rfl) (by kernel_rfl) ?_
      refine RefXq.conv (Conv2.obj 1 (E60.row (r3.1.fDecls ++ r4.1.fDecls)) (El.row_append E60 r3.1.fDecls r4.1.fDecls rfl rfl) (by kernel_rfl)) ?_
      refine RefXq.conv (Conv2.slot 143 (.c (.own 1 ((r3.1.fDecls ++ r4.1.fDecls).length))) (DLe.c (CLe.own (by simp <;> omega))) (by kernel_rfl)) ?_
      refine RefXq.evC0 (st' := ⟨[sP 14 0 0 0, sB 136 true, (137, .agg (E44.cs r9.1)), (144, .agg [.own 1 ((r3.1.fDecls ++ r4.1.fDecls).length)])], [.cells (E44.cs r9.1), E60.row (r3.1.fDecls ++ r4.1.fDecls)], [], 0⟩) (fuel' := 6) [15] [14, 136, 137, 144] [0, 1] rfl (by kernel_rfl) (by kernel_rfl) ?_
      refine RefXq.close ?_
      refine RefX.conv (Conv.freeze (st' := ⟨[sP 14 0 0 0, sB 136 true, (137, .agg (E44.cs r9.1)), (144, .agg [E60.tree (r3.1.fDecls ++ r4.1.fDecls)])], [.cells (E44.cs r9.1), .dead], [], 0⟩) 1 (by kernel_rfl)) ?_
      refine RefX.lookC (t := 145) (g := []) (b := true) (fuel' := 5) 16 [] (default : Bool) rfl (by kernel_rfl) (by kernel_rfl) (F15e_ok K r9.1 (⟨(r3.1.fDecls ++ r4.1.fDecls)⟩ : S44)) (fun _ => rfl) (fun r49 => ?_)
      refine RefX.v0 (fuel' := 3) [17, 18] [147] [] ?_
      refine RefX.lookC (t := 148) (g := [(147, true)]) (b := (true && r49)) (fuel' := 2) 19 [] (default : Bool) rfl (by kernel_rfl) (by kernel_rfl) (F7_ok K) (fun _ => rfl) (fun r50 => ?_)
      refine RefX.evC0 (st' := ⟨[sB 4 ((true && r49) && r50)], [], [], 0⟩) (fuel' := 0) [20, 21] [4] [] rfl (by kernel_rfl) (by kernel_rfl) ?_
      refine RefX.done (by kernel_rfl) ?_
      exact Ref.rt (t := (((true && r49) && r50)))
end Go.Proofs.YtphnfaabcnciiaaGreatDoor
