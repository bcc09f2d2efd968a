/- Plain functions, and that the Go functions do what these do: printed by gen2.py. No conditions. -/
import Derived.Test.YtidjangjfekfjaaGreatDoorHa
import Derived.Test.YtidjangjfekfjaaGreatDoorProg
set_option linter.unusedVariables false
set_option linter.unusedSimpArgs false
set_option linter.unusedSectionVars false
namespace Go.Proofs.YtidjangjfekfjaaGreatDoor
open Go Go.Proofs Go.Dl
set_option maxRecDepth 100000
set_option maxHeartbeats 4000000
def F57 (K : Nat) (a0 : S60) (a1 : (List S106)) : Option ((S60) ⊕ (S60)) :=
 (bindS (blockS ((iter K (fun (u148 : (List Bytes) × Int) => (letV (decide ((u148.2 : Int) < (Int.ofNat a1.length))) (fun (x186 : Bool) => (if x186 = true then (bindS (blockS (chk [inb u148.2 a1.length] ((fnS (F43 K (⟨u148.1⟩ : S60) [([86, 65, 82] : Bytes), (a1.getD (u148.2 : Int).toNat default).fName, ([58] : Bytes)])).bind (fun r205 => ((fnS (F32 K (⟨r205.fl⟩ : S60) ((a1.getD (u148.2 : Int).toNat default).fType))).bind (fun r206 => (letV ((((a1.getD (u148.2 : Int).toNat default).fInit) : Int) != 0) (fun (x207 : Bool) => (bindS (if x207 = true then ((fnS (F43 K (⟨r206.fl⟩ : S60) ([[58, 61]] : List Bytes))).bind (fun r211 => ((fnS (F42 K (⟨r211.fl⟩ : S60) ((a1.getD (u148.2 : Int).toNat default).fInit))).bind (fun r212 => (some (.inr (r212.fl))))))) else (some (.inr (r206.fl)))) (fun (u210 : (List Bytes)) => (letV (((((a1.getD (u148.2 : Int).toNat default).fDir) : Int) == 1) || ((((a1.getD (u148.2 : Int).toNat default).fDir) : Int) == 2)) (fun (x213 : Bool) => (bindS (if x213 = true then ((fnS (F45 K ((a1.getD (u148.2 : Int).toNat default).fDir) ([[73, 78], [79, 85, 84]] : List Bytes))).bind (fun r218 => ((fnS (F43 K (⟨u210⟩ : S60) [([65, 84] : Bytes), r218])).bind (fun r219 => ((fnS (F42 K (⟨r219.fl⟩ : S60) ((a1.getD (u148.2 : Int).toNat default).fSlot))).bind (fun r220 => (some (.inr (r220.fl))))))))) else (some (.inr (u210)))) (fun (u217 : (List Bytes)) => ((fnS (F43 K (⟨u217⟩ : S60) ([[59]] : List Bytes))).bind (fun r221 => (some (.inr (r221.fl))))))))))))))))))) (fun (u204 : (List Bytes)) => (some (.inr (u204, (IntKind.i64.wrap (u148.2 + 1))))))) else (some (.inl (Sum.inl (u148.1)))))))) (a0.fl, 0)).map .inl)) (fun (u111 : (List Bytes)) => (some (.inr ((⟨u111⟩ : S60))))))
theorem F57_ok (K : Nat) (a0 : S60) (a1 : (List S106)) : DFun Tryz.prog 57 [.c (.ptr 0 0 0), .c (E106.tree a1)] [.cells [.own 1 a0.fl.length], E9.row a0.fl] (fnS (F57 K a0 a1)) (fun r => .tup []) (fun r => [.cells [.own 2 r.fl.length], .dead, E9.row r.fl]) := by
 refine DFun.it Tryz.f57 (fun r => ⟨[], [.cells [.own 2 r.fl.length], .dead, E9.row r.fl], [], 2⟩) ?_
 unfold F57
 refine Ref.sq ?_
 refine Ref.rn 0 ?_
 refine RefR.e0 (st' := ⟨[sP 0 0 0 0, (6, .c (E106.tree a1)), sI 7 (Int.ofNat a1.length), sI 8 0], [.cells [.own 1 a0.fl.length], E9.row a0.fl], [], 2⟩) 0 3 3 [0, 6, 7, 8] [0, 1] ?_
 refine RefR.nl 3 ?_
 refine Ref.ce (.block 0 (cd (bd Tryz.f57) [1, 0])) ?_
 refine Ref.block (go1 := fun u111 => ⟨[], [.cells [.own 2 u111.length], .dead, E9.row u111], [], 2⟩) ?_ (fun _ h => by cases h) (fun u111 => ?_)
 ·
  refine Ref.ce (.loop (cd (bd Tryz.f57) [1, 0, 0])) ?_
  refine Ref.conv (Conv.move (st' := ⟨[sP 0 0 0 0, (6, .c (E106.tree a1)), sI 7 (Int.ofNat a1.length), sI 8 0], [.cells [.own 2 a0.fl.length], .dead, E9.row a0.fl], [], 2⟩) 1 (by kernel_rfl) (by kernel_rfl)) ?_
  refine Ref.loop (hd := fun u148 => ⟨[sP 0 0 0 0, (6, .c (E106.tree a1)), sI 7 (Int.ofNat a1.length), sI 8 u148.2], [.cells [.own 2 u148.1.length], .dead, E9.row u148.1], [], 2⟩) K (a0.fl, 0) (by kernel_rfl) (fun u148 => ?_)
  refine Ref.sq ?_
  refine Ref.rn 1 ?_
  refine RefR.e0 (st' := ⟨[sP 0 0 0 0, (6, .c (E106.tree a1)), sI 7 (Int.ofNat a1.length), sI 8 u148.2, sB 9 (decide ((u148.2 : Int) < (Int.ofNat a1.length)))], [.cells [.own 2 u148.1.length], .dead, E9.row u148.1], [], 2⟩) 0 1 1 [0, 6, 7, 8, 9] [0, 1, 2] ?_
  refine RefR.letC (stf := fun x186 => ⟨[sP 0 0 0 0, (6, .c (E106.tree a1)), sI 7 (Int.ofNat a1.length), sI 8 u148.2, sB 9 x186], [.cells [.own 2 u148.1.length], .dead, E9.row u148.1], [], 2⟩) (by kernel_rfl) (fun x186 => ?_)
  refine RefR.nl 1 ?_
  refine Ref.sq ?_
  refine Ref.cn (.tmp 9) x186 (fun hc => ?_) (fun hc => ?_)
  ·
   refine Ref.sk ?_
   refine Ref.sq ?_
   refine Ref.ce (.block 1 (cd (bd Tryz.f57) [1, 0, 0, 1, 1, 0, 0])) ?_
   refine Ref.block (go1 := fun u204 => ⟨[sP 0 0 0 0, (6, .c (E106.tree a1)), sI 7 (Int.ofNat a1.length), sI 8 u148.2], [.cells [.own 2 u204.length], .dead, E9.row u204], [], 2⟩) ?_ (fun a => match a with | .inl _ => (fun h => by cases h) | .inr _ => (fun h => by cases h)) (fun u204 => ?_)
   ·
    refine Ref.sq ?_
    refine Ref.rn 2 ?_
    refine RefR.evC (vs := [inb u148.2 a1.length]) (st' := ⟨[sP 0 0 0 0, sP 5 3 0 0, (6, .c (E106.tree a1)), sI 7 (Int.ofNat a1.length), sI 8 u148.2], [.cells [.own 2 u148.1.length], .dead, E9.row u148.1, .cells (E106.cs (a1.getD (u148.2 : Int).toNat default))], [], 2⟩) 0 4 4 [0, 5, 6, 7, 8] [0, 1, 2, 3] rfl (by kernel_rfl) ?_
    refine RefR.nl 4 ?_
    refine Ref.sq ?_
    refine Ref.rn 3 ?_
    refine RefR.e0 (st' := ⟨[sP 0 0 0 0, sP 5 3 0 0, (6, .c (E106.tree a1)), sI 7 (Int.ofNat a1.length), sI 8 u148.2, sP 12 0 0 0, sS 14 ((a1.getD (u148.2 : Int).toNat default).fName)], [.cells [.own 2 u148.1.length], .dead, E9.row u148.1, .cells (E106.cs (a1.getD (u148.2 : Int).toNat default))], [], 2⟩) 0 3 3 [0, 5, 6, 7, 8, 12, 14] [0, 1, 2, 3] ?_
    refine RefR.e0 (st' := ⟨[sP 0 0 0 0, sP 5 3 0 0, (6, .c (E106.tree a1)), sI 7 (Int.ofNat a1.length), sI 8 u148.2, sP 12 0 0 0, (15, .c (.own 4 3))], [.cells [.own 2 u148.1.length], .dead, E9.row u148.1, .cells (E106.cs (a1.getD (u148.2 : Int).toNat default)), .row 9 1 3 (tbl [[.str wVAR], [.str ((a1.getD (u148.2 : Int).toNat default).fName)], [.str w_58]])], [], 2⟩) 3 1 4 [0, 5, 6, 7, 8, 12, 15] [0, 1, 2, 3, 4] ?_
    refine RefR.conv (Conv.ob 4 (E9.row [wVAR, (a1.getD (u148.2 : Int).toNat default).fName, w_58]) (El.row_build E9 [wVAR, (a1.getD (u148.2 : Int).toNat default).fName, w_58] rfl (by kernel_rfl))) ?_
    refine RefR.conv (Conv.sl 15 (.c (.own 4 ([wVAR, (a1.getD (u148.2 : Int).toNat default).fName, w_58].length))) (DLe.c (CLe.own (by simp <;> omega)))) ?_
    refine RefR.conv (Conv.freeze (st' := ⟨[(15, .c (E9.tree [wVAR, (a1.getD (u148.2 : Int).toNat default).fName, w_58])), sP 0 0 0 0, sP 5 3 0 0, (6, .c (E106.tree a1)), sI 7 (Int.ofNat a1.length), sI 8 u148.2, sP 12 0 0 0], [.cells [.own 2 u148.1.length], .dead, E9.row u148.1, .cells (E106.cs (a1.getD (u148.2 : Int).toNat default)), .dead], [], 2⟩) 4 (by kernel_rfl)) ?_
    refine RefR.cc 16 4 5 [0, 2] (F43_ok K (⟨u148.1⟩ : S60) [wVAR, (a1.getD (u148.2 : Int).toNat default).fName, w_58]) (fun r205 => ?_)
    refine RefR.nl 5 ?_
    refine Ref.sq ?_
    refine Ref.rn 4 ?_
    refine RefR.e1 0 3 3 [0, 5, 6, 7, 8, 17, 19] [0, 1, 3, 5] ?_
    refine RefR.cc 20 3 4 [0, 3] (F32_ok K (⟨r205.fl⟩ : S60) ((a1.getD (u148.2 : Int).toNat default).fType)) (fun r206 => ?_)
    refine RefR.nl 4 ?_
    refine Ref.sq ?_
    refine Ref.sq ?_
    refine Ref.rn 5 ?_
    refine RefR.e0 (st' := ⟨[sP 0 0 0 0, sP 5 2 0 0, (6, .c (E106.tree a1)), sI 7 (Int.ofNat a1.length), sI 8 u148.2, sB 23 ((((a1.getD (u148.2 : Int).toNat default).fInit) : Int) != 0)], [.cells [.own 3 r206.fl.length], .dead, .cells (E106.cs (a1.getD (u148.2 : Int).toNat default)), E9.row r206.fl], [], 2⟩) 0 3 3 [0, 5, 6, 7, 8, 23] [0, 1, 2, 4] ?_
    refine RefR.letC (stf := fun x207 => ⟨[sP 0 0 0 0, sP 5 2 0 0, (6, .c (E106.tree a1)), sI 7 (Int.ofNat a1.length), sI 8 u148.2, sB 23 x207], [.cells [.own 3 r206.fl.length], .dead, .cells (E106.cs (a1.getD (u148.2 : Int).toNat default)), E9.row r206.fl], [], 2⟩) (by kernel_rfl) (fun x207 => ?_)
    refine RefR.nl 3 ?_
    refine Ref.bind (go1 := fun u210 => ⟨[sP 0 0 0 0, sP 5 3 0 0, (6, .c (E106.tree a1)), sI 7 (Int.ofNat a1.length), sI 8 u148.2], [.cells [.own 2 u210.length], .dead, E9.row u210, .cells (E106.cs (a1.getD (u148.2 : Int).toNat default))], [], 2⟩) ?_ (fun u210 => ?_)
    ·
     refine Ref.cn (.tmp 23) x207 (fun hc => ?_) (fun hc => ?_)
     ·
      refine Ref.sq ?_
      refine Ref.rn 6 ?_
      refine RefR.e0 (st' := ⟨[sP 0 0 0 0, sP 5 2 0 0, (6, .c (E106.tree a1)), sI 7 (Int.ofNat a1.length), sI 8 u148.2, sP 24 0 0 0], [.cells [.own 3 r206.fl.length], .dead, .cells (E106.cs (a1.getD (u148.2 : Int).toNat default)), E9.row r206.fl], [], 2⟩) 0 1 1 [0, 5, 6, 7, 8, 24] [0, 1, 2, 3] ?_
      refine RefR.li 25 [] E9 ([[58, 61]] : List Bytes) 1 2 ?_
      refine RefR.cc 26 2 3 [0, 3] (F43_ok K (⟨r206.fl⟩ : S60) ([[58, 61]] : List Bytes)) (fun r211 => ?_)
      refine RefR.nl 3 ?_
      refine Ref.rn 7 ?_
      refine RefR.e1 0 3 3 [0, 5, 6, 7, 8, 27, 29] [0, 1, 2, 5] ?_
      refine RefR.cc 30 3 4 [0, 3] (F42_ok K (⟨r211.fl⟩ : S60) ((a1.getD (u148.2 : Int).toNat default).fInit)) (fun r212 => ?_)
      refine RefR.nl 4 ?_
      refine Ref.ck ⟨[sP 0 0 0 0, sP 5 3 0 0, (6, .c (E106.tree a1)), sI 7 (Int.ofNat a1.length), sI 8 u148.2], [.cells [.own 2 r212.fl.length], .dead, E9.row r212.fl, .cells (E106.cs (a1.getD (u148.2 : Int).toNat default))], [], 2⟩ [0, 5, 6, 7, 8] [0, 1, 4, 2] ?_
      exact Ref.n0 (t := (r212.fl))
     ·
      refine Ref.sk ?_
      refine Ref.ck ⟨[sP 0 0 0 0, sP 5 3 0 0, (6, .c (E106.tree a1)), sI 7 (Int.ofNat a1.length), sI 8 u148.2], [.cells [.own 2 r206.fl.length], .dead, E9.row r206.fl, .cells (E106.cs (a1.getD (u148.2 : Int).toNat default))], [], 2⟩ [0, 5, 6, 7, 8] [0, 1, 3, 2] ?_
      exact Ref.n0 (t := (r206.fl))
    ·
     refine Ref.sq ?_
     refine Ref.sq ?_
     refine Ref.rn 8 ?_
     refine RefR.e0 (st' := ⟨[sP 0 0 0 0, sP 5 3 0 0, (6, .c (E106.tree a1)), sI 7 (Int.ofNat a1.length), sI 8 u148.2, sB 38 (((((a1.getD (u148.2 : Int).toNat default).fDir) : Int) == 1) || ((((a1.getD (u148.2 : Int).toNat default).fDir) : Int) == 2))], [.cells [.own 2 u210.length], .dead, E9.row u210, .cells (E106.cs (a1.getD (u148.2 : Int).toNat default))], [], 2⟩) 0 8 8 [0, 5, 6, 7, 8, 38] [0, 1, 2, 3] ?_
     refine RefR.letC (stf := fun x213 => ⟨[sP 0 0 0 0, sP 5 3 0 0, (6, .c (E106.tree a1)), sI 7 (Int.ofNat a1.length), sI 8 u148.2, sB 38 x213], [.cells [.own 2 u210.length], .dead, E9.row u210, .cells (E106.cs (a1.getD (u148.2 : Int).toNat default))], [], 2⟩) (by kernel_rfl) (fun x213 => ?_)
     refine RefR.nl 8 ?_
     refine Ref.bind (go1 := fun u217 => ⟨[sP 0 0 0 0, (6, .c (E106.tree a1)), sI 7 (Int.ofNat a1.length), sI 8 u148.2], [.cells [.own 2 u217.length], .dead, E9.row u217], [], 2⟩) ?_ (fun u217 => ?_)
     ·
      refine Ref.cn (.tmp 38) x213 (fun hc => ?_) (fun hc => ?_)
      ·
       refine Ref.sq ?_
       refine Ref.rn 9 ?_
       refine RefR.e0 (st' := ⟨[sP 0 0 0 0, sP 5 3 0 0, (6, .c (E106.tree a1)), sI 7 (Int.ofNat a1.length), sI 8 u148.2, sP 39 0 0 0, sI 41 ((a1.getD (u148.2 : Int).toNat default).fDir)], [.cells [.own 2 u210.length], .dead, E9.row u210, .cells (E106.cs (a1.getD (u148.2 : Int).toNat default))], [], 2⟩) 0 3 3 [0, 5, 6, 7, 8, 39, 41] [0, 1, 2, 3] ?_
       refine RefR.li 42 [] E9 ([[73, 78], [79, 85, 84]] : List Bytes) 3 4 ?_
       refine RefR.cc 43 4 5 [] (F45_ok K ((a1.getD (u148.2 : Int).toNat default).fDir) ([[73, 78], [79, 85, 84]] : List Bytes)) (fun r218 => ?_)
       refine RefR.e0 (st' := ⟨[sP 0 0 0 0, sP 5 3 0 0, (6, .c (E106.tree a1)), sI 7 (Int.ofNat a1.length), sI 8 u148.2, sP 39 0 0 0, (44, .c (.own 4 2))], [.cells [.own 2 u210.length], .dead, E9.row u210, .cells (E106.cs (a1.getD (u148.2 : Int).toNat default)), .row 9 1 2 (tbl [[.str wAT], [.str r218]])], [], 2⟩) 5 1 6 [0, 5, 6, 7, 8, 39, 44] [0, 1, 2, 3, 5] ?_
       refine RefR.conv (Conv.ob 4 (E9.row [wAT, r218]) (El.row_build E9 [wAT, r218] rfl (by kernel_rfl))) ?_
       refine RefR.conv (Conv.sl 44 (.c (.own 4 ([wAT, r218].length))) (DLe.c (CLe.own (by simp <;> omega)))) ?_
       refine RefR.conv (Conv.freeze (st' := ⟨[(44, .c (E9.tree [wAT, r218])), sP 0 0 0 0, sP 5 3 0 0, (6, .c (E106.tree a1)), sI 7 (Int.ofNat a1.length), sI 8 u148.2, sP 39 0 0 0], [.cells [.own 2 u210.length], .dead, E9.row u210, .cells (E106.cs (a1.getD (u148.2 : Int).toNat default)), .dead], [], 2⟩) 4 (by kernel_rfl)) ?_
       refine RefR.cc 45 6 7 [0, 2] (F43_ok K (⟨u210⟩ : S60) [wAT, r218]) (fun r219 => ?_)
       refine RefR.nl 7 ?_
       refine Ref.rn 10 ?_
       refine RefR.e1 0 3 3 [0, 6, 7, 8, 46, 48] [0, 1, 5] ?_
       refine RefR.cc 49 3 4 [0, 2] (F42_ok K (⟨r219.fl⟩ : S60) ((a1.getD (u148.2 : Int).toNat default).fSlot)) (fun r220 => ?_)
       refine RefR.nl 4 ?_
       refine Ref.ck ⟨[sP 0 0 0 0, (6, .c (E106.tree a1)), sI 7 (Int.ofNat a1.length), sI 8 u148.2], [.cells [.own 2 r220.fl.length], .dead, E9.row r220.fl], [], 2⟩ [0, 6, 7, 8] [0, 1, 3] ?_
       exact Ref.n0 (t := (r220.fl))
      ·
       refine Ref.sk ?_
       refine Ref.ck ⟨[sP 0 0 0 0, (6, .c (E106.tree a1)), sI 7 (Int.ofNat a1.length), sI 8 u148.2], [.cells [.own 2 u210.length], .dead, E9.row u210], [], 2⟩ [0, 6, 7, 8] [0, 1, 2] ?_
       exact Ref.n0 (t := (u210))
     ·
      refine Ref.rn 11 ?_
      refine RefR.e0 (st' := ⟨[sP 0 0 0 0, (6, .c (E106.tree a1)), sI 7 (Int.ofNat a1.length), sI 8 u148.2, sP 50 0 0 0], [.cells [.own 2 u217.length], .dead, E9.row u217], [], 2⟩) 0 1 1 [0, 6, 7, 8, 50] [0, 1, 2] ?_
      refine RefR.li 51 [] E9 ([[59]] : List Bytes) 1 2 ?_
      refine RefR.cc 52 2 3 [0, 2] (F43_ok K (⟨u217⟩ : S60) ([[59]] : List Bytes)) (fun r221 => ?_)
      refine RefR.nl 3 ?_
      refine Ref.ck ⟨[sP 0 0 0 0, (6, .c (E106.tree a1)), sI 7 (Int.ofNat a1.length), sI 8 u148.2], [.cells [.own 2 r221.fl.length], .dead, E9.row r221.fl], [], 2⟩ [0, 6, 7, 8] [0, 1, 4] ?_
      exact Ref.n0 (t := (r221.fl))
   ·
    refine Ref.rn 12 ?_
    refine RefR.e0 (st' := ⟨[sP 0 0 0 0, (6, .c (E106.tree a1)), sI 7 (Int.ofNat a1.length), sI 8 (IntKind.i64.wrap (u148.2 + 1))], [.cells [.own 2 u204.length], .dead, E9.row u204], [], 2⟩) 0 2 2 [0, 6, 7, 8] [0, 1, 2] ?_
    refine RefR.nl 2 ?_
    exact Ref.n0 (t := (u204, (IntKind.i64.wrap (u148.2 + 1))))
  ·
   refine Ref.ck ⟨[], [.cells [.own 2 u148.1.length], .dead, E9.row u148.1], [], 2⟩ [] [0, 1, 2] ?_
   exact Ref.xt 0 (t := (Sum.inl (u148.1)))
 ·
  exact Ref.n0 (t := ((⟨u111⟩ : S60)))
def F86 (K : Nat) (a0 : S60) (a1 : S110) : Option ((S60) ⊕ (S60)) :=
 none
theorem F86_ok (K : Nat) (a0 : S60) (a1 : S110) : DFun Tryz.prog 86 [.c (.ptr 0 0 0), .agg (E110.cs a1)] [.cells [.own 1 a0.fl.length], E9.row a0.fl] (fnS (F86 K a0 a1)) (fun r => .tup []) (fun r => [.cells [.own 2 r.fl.length], .dead, E9.row r.fl]) := DFun.none rfl
def F55 (K : Nat) (a0 : S60) (a1 : S50) : Option ((S60) ⊕ (S60)) :=
 none
theorem F55_ok (K : Nat) (a0 : S60) (a1 : S50) : DFun Tryz.prog 55 [.c (.ptr 0 0 0), .agg (E50.cs a1)] [.cells [.own 1 a0.fl.length], E9.row a0.fl] (fnS (F55 K a0 a1)) (fun r => .tup []) (fun r => [.cells [.own 2 r.fl.length], .dead, E9.row r.fl]) := DFun.none rfl
def F56 (K : Nat) (a0 : S60) (a1 : S50) : Option ((S60) ⊕ (S60)) :=
 none
theorem F56_ok (K : Nat) (a0 : S60) (a1 : S50) : DFun Tryz.prog 56 [.c (.ptr 0 0 0), .agg (E50.cs a1)] [.cells [.own 1 a0.fl.length], E9.row a0.fl] (fnS (F56 K a0 a1)) (fun r => .tup []) (fun r => [.cells [.own 2 r.fl.length], .dead, E9.row r.fl]) := DFun.none rfl
def F58 (K : Nat) (a0 : S60) (a1 : (List S110)) : Option ((S60) ⊕ (S60)) :=
 (bindS (blockS ((iter K (fun (u20 : (List Bytes) × Int) => (letV (decide ((u20.2 : Int) < (Int.ofNat a1.length))) (fun (x26 : Bool) => (if x26 = true then (bindS (blockS (chk [inb u20.2 a1.length] ((fnS (F86 K (⟨u20.1⟩ : S60) (a1.getD (u20.2 : Int).toNat default))).bind (fun r29 => (some (.inr (r29.fl))))))) (fun (u28 : (List Bytes)) => (some (.inr (u28, (IntKind.i64.wrap (u20.2 + 1))))))) else (some (.inl (Sum.inl (u20.1)))))))) (a0.fl, 0)).map .inl)) (fun (u15 : (List Bytes)) => (some (.inr ((⟨u15⟩ : S60))))))
theorem F58_ok (K : Nat) (a0 : S60) (a1 : (List S110)) : DFun Tryz.prog 58 [.c (.ptr 0 0 0), .c (E110.tree a1)] [.cells [.own 1 a0.fl.length], E9.row a0.fl] (fnS (F58 K a0 a1)) (fun r => .tup []) (fun r => [.cells [.own 2 r.fl.length], .dead, E9.row r.fl]) := by
 refine DFun.it Tryz.f58 (fun r => ⟨[], [.cells [.own 2 r.fl.length], .dead, E9.row r.fl], [], 2⟩) ?_
 unfold F58
 refine Ref.sq ?_
 refine Ref.rn 0 ?_
 refine RefR.e0 (st' := ⟨[sP 0 0 0 0, (6, .c (E110.tree a1)), sI 7 (Int.ofNat a1.length), sI 8 0], [.cells [.own 1 a0.fl.length], E9.row a0.fl], [], 2⟩) 0 3 3 [0, 6, 7, 8] [0, 1] ?_
 refine RefR.nl 3 ?_
 refine Ref.ce (.block 0 (cd (bd Tryz.f58) [1, 0])) ?_
 refine Ref.block (go1 := fun u15 => ⟨[], [.cells [.own 2 u15.length], .dead, E9.row u15], [], 2⟩) ?_ (fun _ h => by cases h) (fun u15 => ?_)
 ·
  refine Ref.ce (.loop (cd (bd Tryz.f58) [1, 0, 0])) ?_
  refine Ref.conv (Conv.move (st' := ⟨[sP 0 0 0 0, (6, .c (E110.tree a1)), sI 7 (Int.ofNat a1.length), sI 8 0], [.cells [.own 2 a0.fl.length], .dead, E9.row a0.fl], [], 2⟩) 1 (by kernel_rfl) (by kernel_rfl)) ?_
  refine Ref.loop (hd := fun u20 => ⟨[sP 0 0 0 0, (6, .c (E110.tree a1)), sI 7 (Int.ofNat a1.length), sI 8 u20.2], [.cells [.own 2 u20.1.length], .dead, E9.row u20.1], [], 2⟩) K (a0.fl, 0) (by kernel_rfl) (fun u20 => ?_)
  refine Ref.sq ?_
  refine Ref.rn 1 ?_
  refine RefR.e0 (st' := ⟨[sP 0 0 0 0, (6, .c (E110.tree a1)), sI 7 (Int.ofNat a1.length), sI 8 u20.2, sB 9 (decide ((u20.2 : Int) < (Int.ofNat a1.length)))], [.cells [.own 2 u20.1.length], .dead, E9.row u20.1], [], 2⟩) 0 1 1 [0, 6, 7, 8, 9] [0, 1, 2] ?_
  refine RefR.letC (stf := fun x26 => ⟨[sP 0 0 0 0, (6, .c (E110.tree a1)), sI 7 (Int.ofNat a1.length), sI 8 u20.2, sB 9 x26], [.cells [.own 2 u20.1.length], .dead, E9.row u20.1], [], 2⟩) (by kernel_rfl) (fun x26 => ?_)
  refine RefR.nl 1 ?_
  refine Ref.sq ?_
  refine Ref.cn (.tmp 9) x26 (fun hc => ?_) (fun hc => ?_)
  ·
   refine Ref.sk ?_
   refine Ref.sq ?_
   refine Ref.ce (.block 1 (cd (bd Tryz.f58) [1, 0, 0, 1, 1, 0, 0])) ?_
   refine Ref.block (go1 := fun u28 => ⟨[sP 0 0 0 0, (6, .c (E110.tree a1)), sI 7 (Int.ofNat a1.length), sI 8 u20.2], [.cells [.own 2 u28.length], .dead, E9.row u28], [], 2⟩) ?_ (fun a => match a with | .inl _ => (fun h => by cases h) | .inr _ => (fun h => by cases h)) (fun u28 => ?_)
   ·
    refine Ref.sq ?_
    refine Ref.rn 2 ?_
    refine RefR.evC (vs := [inb u20.2 a1.length]) (st' := ⟨[sP 0 0 0 0, sP 5 3 0 0, (6, .c (E110.tree a1)), sI 7 (Int.ofNat a1.length), sI 8 u20.2], [.cells [.own 2 u20.1.length], .dead, E9.row u20.1, E110.o (a1.getD (u20.2 : Int).toNat default)], [], 2⟩) 0 4 4 [0, 5, 6, 7, 8] [0, 1, 2, 3] rfl (by kernel_rfl) ?_
    refine RefR.nl 4 ?_
    refine Ref.rn 3 ?_
    refine RefR.e1 0 2 2 [0, 6, 7, 8, 12, 13] [0, 1, 2] ?_
    refine RefR.cc 14 2 3 [0, 2] (F86_ok K (⟨u20.1⟩ : S60) (a1.getD (u20.2 : Int).toNat default)) (fun r29 => ?_)
    refine RefR.nl 3 ?_
    refine Ref.ck ⟨[sP 0 0 0 0, (6, .c (E110.tree a1)), sI 7 (Int.ofNat a1.length), sI 8 u20.2], [.cells [.own 2 r29.fl.length], .dead, E9.row r29.fl], [], 2⟩ [0, 6, 7, 8] [0, 1, 3] ?_
    exact Ref.n0 (t := (r29.fl))
   ·
    refine Ref.rn 4 ?_
    refine RefR.e0 (st' := ⟨[sP 0 0 0 0, (6, .c (E110.tree a1)), sI 7 (Int.ofNat a1.length), sI 8 (IntKind.i64.wrap (u20.2 + 1))], [.cells [.own 2 u28.length], .dead, E9.row u28], [], 2⟩) 0 2 2 [0, 6, 7, 8] [0, 1, 2] ?_
    refine RefR.nl 2 ?_
    exact Ref.n0 (t := (u28, (IntKind.i64.wrap (u20.2 + 1))))
  ·
   refine Ref.ck ⟨[], [.cells [.own 2 u20.1.length], .dead, E9.row u20.1], [], 2⟩ [] [0, 1, 2] ?_
   exact Ref.xt 0 (t := (Sum.inl (u20.1)))
 ·
  exact Ref.n0 (t := ((⟨u15⟩ : S60)))
def F26 (K : Nat) (a0 : S60) (a1 : S50) : Option ((S60) ⊕ (S60)) :=
 (bindS (blockS (if ((a1.fKind : Int) == 1) = true then ((fnS (F55 K (⟨a0.fl⟩ : S60) a1)).bind (fun r14 => (some (.inr (r14.fl))))) else (if ((a1.fKind : Int) == 2) = true then ((fnS (F56 K (⟨a0.fl⟩ : S60) a1)).bind (fun r15 => (some (.inr (r15.fl))))) else (if ((a1.fKind : Int) == 3) = true then ((fnS (F43 K (⟨a0.fl⟩ : S60) [([80, 82, 79, 71, 82, 65, 77] : Bytes), a1.fName, ([59] : Bytes)])).bind (fun r16 => ((fnS (F57 K (⟨r16.fl⟩ : S60) a1.fVars)).bind (fun r17 => ((fnS (F58 K (⟨r17.fl⟩ : S60) a1.fBody)).bind (fun r18 => ((fnS (F43 K (⟨r18.fl⟩ : S60) ([[69, 78, 68, 95, 80, 82, 79, 71, 82, 65, 77]] : List Bytes))).bind (fun r19 => (some (.inr (r19.fl))))))))))) else (if ((a1.fKind : Int) == 4) = true then ((fnS (F43 K (⟨a0.fl⟩ : S60) [([84, 65, 83, 75] : Bytes), a1.fName, ([40] : Bytes), ([73, 78, 84, 69, 82, 86, 65, 76] : Bytes)])).bind (fun r20 => ((fnS (F42 K (⟨r20.fl⟩ : S60) a1.fEvery)).bind (fun r21 => ((fnS (F43 K (⟨r21.fl⟩ : S60) ([[44], [80, 82, 73, 79, 82, 73, 84, 89]] : List Bytes))).bind (fun r22 => ((fnS (F42 K (⟨r22.fl⟩ : S60) a1.fFirst)).bind (fun r23 => ((fnS (F43 K (⟨r23.fl⟩ : S60) [([41] : Bytes), ([58] : Bytes), a1.fBase, ([59] : Bytes)])).bind (fun r24 => (some (.inr (r24.fl))))))))))))) else ((fnS (F43 K (⟨a0.fl⟩ : S60) ([[63]] : List Bytes))).bind (fun r25 => (some (.inr (r25.fl)))))))))) (fun (u13 : (List Bytes)) => (some (.inr ((⟨u13⟩ : S60))))))
theorem F26_ok (K : Nat) (a0 : S60) (a1 : S50) : DFun Tryz.prog 26 [.c (.ptr 0 0 0), .agg (E50.cs a1)] [.cells [.own 1 a0.fl.length], E9.row a0.fl] (fnS (F26 K a0 a1)) (fun r => .tup []) (fun r => [.cells [.own 2 r.fl.length], .dead, E9.row r.fl]) := by
 refine DFun.it Tryz.f26 (fun r => ⟨[], [.cells [.own 2 r.fl.length], .dead, E9.row r.fl], [], 2⟩) ?_
 unfold F26
 refine Ref.sq ?_
 refine Ref.rn 0 ?_
 refine RefR.e0 (st' := ⟨[sP 0 0 0 0, sP 3 2 0 0], [.cells [.own 1 a0.fl.length], E9.row a0.fl, .cells (E50.cs a1)], [], 2⟩) 0 1 1 [0, 3] [0, 1, 2] ?_
 refine RefR.nl 1 ?_
 refine Ref.sq ?_
 refine Ref.rn 1 ?_
 refine RefR.e0 (st' := ⟨[sP 0 0 0 0, sP 3 2 0 0, sI 5 a1.fKind], [.cells [.own 1 a0.fl.length], E9.row a0.fl, .cells (E50.cs a1)], [], 2⟩) 0 2 2 [0, 3, 5] [0, 1, 2] ?_
 refine RefR.nl 2 ?_
 refine Ref.ce (.block 0 (cd (bd Tryz.f26) [1, 1, 0])) ?_
 refine Ref.block (go1 := fun u13 => ⟨[], [.cells [.own 2 u13.length], .dead, E9.row u13], [], 2⟩) ?_ (fun _ h => by cases h) (fun u13 => ?_)
 ·
  refine Ref.sq ?_
  refine Ref.rn 3 ?_
  refine RefR.e0 (st' := ⟨[sP 0 0 0 0, sP 3 2 0 0, sI 5 a1.fKind, sB 9 ((a1.fKind : Int) == 1)], [.cells [.own 1 a0.fl.length], E9.row a0.fl, .cells (E50.cs a1)], [], 2⟩) 0 2 2 [0, 3, 5, 9] [0, 1, 2] ?_
  refine RefR.nl 2 ?_
  refine Ref.cn (.tmp 9) ((a1.fKind : Int) == 1) (fun hc => ?_) (fun hc => ?_)
  ·
   refine Ref.rn 4 ?_
   refine RefR.e1 0 2 2 [11, 12] [0, 1] ?_
   refine RefR.cc 13 2 3 [0, 1] (F55_ok K (⟨a0.fl⟩ : S60) a1) (fun r14 => ?_)
   refine RefR.nl 3 ?_
   refine Ref.ck ⟨[], [.cells [.own 2 r14.fl.length], .dead, E9.row r14.fl], [], 2⟩ [] [0, 1, 2] ?_
   exact Ref.n0 (t := (r14.fl))
  ·
   refine Ref.sq ?_
   refine Ref.rn 5 ?_
   refine RefR.e0 (st' := ⟨[sP 0 0 0 0, sP 3 2 0 0, sI 5 a1.fKind, sB 14 ((a1.fKind : Int) == 2)], [.cells [.own 1 a0.fl.length], E9.row a0.fl, .cells (E50.cs a1)], [], 2⟩) 0 2 2 [0, 3, 5, 14] [0, 1, 2] ?_
   refine RefR.nl 2 ?_
   refine Ref.cn (.tmp 14) ((a1.fKind : Int) == 2) (fun hc => ?_) (fun hc => ?_)
   ·
    refine Ref.rn 6 ?_
    refine RefR.e1 0 2 2 [16, 17] [0, 1] ?_
    refine RefR.cc 18 2 3 [0, 1] (F56_ok K (⟨a0.fl⟩ : S60) a1) (fun r15 => ?_)
    refine RefR.nl 3 ?_
    refine Ref.ck ⟨[], [.cells [.own 2 r15.fl.length], .dead, E9.row r15.fl], [], 2⟩ [] [0, 1, 2] ?_
    exact Ref.n0 (t := (r15.fl))
   ·
    refine Ref.sq ?_
    refine Ref.rn 7 ?_
    refine RefR.e0 (st' := ⟨[sP 0 0 0 0, sP 3 2 0 0, sI 5 a1.fKind, sB 19 ((a1.fKind : Int) == 3)], [.cells [.own 1 a0.fl.length], E9.row a0.fl, .cells (E50.cs a1)], [], 2⟩) 0 2 2 [0, 3, 5, 19] [0, 1, 2] ?_
    refine RefR.nl 2 ?_
    refine Ref.cn (.tmp 19) ((a1.fKind : Int) == 3) (fun hc => ?_) (fun hc => ?_)
    ·
     refine Ref.sq ?_
     refine Ref.rn 8 ?_
     refine RefR.e0 (st' := ⟨[sP 0 0 0 0, sP 3 2 0 0, sP 21 0 0 0, sS 23 a1.fName], [.cells [.own 1 a0.fl.length], E9.row a0.fl, .cells (E50.cs a1)], [], 2⟩) 0 3 3 [0, 3, 21, 23] [0, 1, 2] ?_
     refine RefR.e0 (st' := ⟨[sP 0 0 0 0, sP 3 2 0 0, sP 21 0 0 0, (24, .c (.own 3 3))], [.cells [.own 1 a0.fl.length], E9.row a0.fl, .cells (E50.cs a1), .row 9 1 3 (tbl [[.str wPROGRAM], [.str a1.fName], [.str w_59]])], [], 2⟩) 3 1 4 [0, 3, 21, 24] [0, 1, 2, 3] ?_
     refine RefR.conv (Conv.ob 3 (E9.row [wPROGRAM, a1.fName, w_59]) (El.row_build E9 [wPROGRAM, a1.fName, w_59] rfl (by kernel_rfl))) ?_
     refine RefR.conv (Conv.sl 24 (.c (.own 3 ([wPROGRAM, a1.fName, w_59].length))) (DLe.c (CLe.own (by simp <;> omega)))) ?_
     refine RefR.conv (Conv.freeze (st' := ⟨[(24, .c (E9.tree [wPROGRAM, a1.fName, w_59])), sP 0 0 0 0, sP 3 2 0 0, sP 21 0 0 0], [.cells [.own 1 a0.fl.length], E9.row a0.fl, .cells (E50.cs a1), .dead], [], 2⟩) 3 (by kernel_rfl)) ?_
     refine RefR.cc 25 4 5 [0, 1] (F43_ok K (⟨a0.fl⟩ : S60) [wPROGRAM, a1.fName, w_59]) (fun r16 => ?_)
     refine RefR.nl 5 ?_
     refine Ref.sq ?_
     refine Ref.rn 9 ?_
     refine RefR.e1 0 3 3 [0, 3, 26, 28] [0, 1, 2, 4] ?_
     refine RefR.cc 29 3 4 [0, 3] (F57_ok K (⟨r16.fl⟩ : S60) a1.fVars) (fun r17 => ?_)
     refine RefR.nl 4 ?_
     refine Ref.sq ?_
     refine Ref.rn 10 ?_
     refine RefR.e1 0 3 3 [0, 30, 32] [0, 1, 4] ?_
     refine RefR.cc 33 3 4 [0, 2] (F58_ok K (⟨r17.fl⟩ : S60) a1.fBody) (fun r18 => ?_)
     refine RefR.nl 4 ?_
     refine Ref.rn 11 ?_
     refine RefR.e0 (st' := ⟨[sP 34 0 0 0], [.cells [.own 2 r18.fl.length], .dead, E9.row r18.fl], [], 2⟩) 0 1 1 [34] [0, 1, 3] ?_
     refine RefR.li 35 [] E9 ([[69, 78, 68, 95, 80, 82, 79, 71, 82, 65, 77]] : List Bytes) 1 2 ?_
     refine RefR.cc 36 2 3 [0, 2] (F43_ok K (⟨r18.fl⟩ : S60) ([[69, 78, 68, 95, 80, 82, 79, 71, 82, 65, 77]] : List Bytes)) (fun r19 => ?_)
     refine RefR.nl 3 ?_
     refine Ref.ck ⟨[], [.cells [.own 2 r19.fl.length], .dead, E9.row r19.fl], [], 2⟩ [] [0, 1, 4] ?_
     exact Ref.n0 (t := (r19.fl))
    ·
     refine Ref.sq ?_
     refine Ref.rn 12 ?_
     refine RefR.e0 (st' := ⟨[sP 0 0 0 0, sP 3 2 0 0, sB 37 ((a1.fKind : Int) == 4)], [.cells [.own 1 a0.fl.length], E9.row a0.fl, .cells (E50.cs a1)], [], 2⟩) 0 2 2 [0, 3, 37] [0, 1, 2] ?_
     refine RefR.nl 2 ?_
     refine Ref.cn (.tmp 37) ((a1.fKind : Int) == 4) (fun hc => ?_) (fun hc => ?_)
     ·
      refine Ref.sq ?_
      refine Ref.rn 13 ?_
      refine RefR.e0 (st' := ⟨[sP 0 0 0 0, sP 3 2 0 0, sP 39 0 0 0, sS 41 a1.fName], [.cells [.own 1 a0.fl.length], E9.row a0.fl, .cells (E50.cs a1)], [], 2⟩) 0 3 3 [0, 3, 39, 41] [0, 1, 2] ?_
      refine RefR.e0 (st' := ⟨[sP 0 0 0 0, sP 3 2 0 0, sP 39 0 0 0, (42, .c (.own 3 4))], [.cells [.own 1 a0.fl.length], E9.row a0.fl, .cells (E50.cs a1), .row 9 1 4 (tbl [[.str wTASK], [.str a1.fName], [.str w_40], [.str wINTERVAL]])], [], 2⟩) 3 1 4 [0, 3, 39, 42] [0, 1, 2, 3] ?_
      refine RefR.conv (Conv.ob 3 (E9.row [wTASK, a1.fName, w_40, wINTERVAL]) (El.row_build E9 [wTASK, a1.fName, w_40, wINTERVAL] rfl (by kernel_rfl))) ?_
      refine RefR.conv (Conv.sl 42 (.c (.own 3 ([wTASK, a1.fName, w_40, wINTERVAL].length))) (DLe.c (CLe.own (by simp <;> omega)))) ?_
      refine RefR.conv (Conv.freeze (st' := ⟨[(42, .c (E9.tree [wTASK, a1.fName, w_40, wINTERVAL])), sP 0 0 0 0, sP 3 2 0 0, sP 39 0 0 0], [.cells [.own 1 a0.fl.length], E9.row a0.fl, .cells (E50.cs a1), .dead], [], 2⟩) 3 (by kernel_rfl)) ?_
      refine RefR.cc 43 4 5 [0, 1] (F43_ok K (⟨a0.fl⟩ : S60) [wTASK, a1.fName, w_40, wINTERVAL]) (fun r20 => ?_)
      refine RefR.nl 5 ?_
      refine Ref.sq ?_
      refine Ref.rn 14 ?_
      refine RefR.e1 0 3 3 [0, 3, 44, 46] [0, 1, 2, 4] ?_
      refine RefR.cc 47 3 4 [0, 3] (F42_ok K (⟨r20.fl⟩ : S60) a1.fEvery) (fun r21 => ?_)
      refine RefR.nl 4 ?_
      refine Ref.sq ?_
      refine Ref.rn 15 ?_
      refine RefR.e0 (st' := ⟨[sP 0 0 0 0, sP 3 2 0 0, sP 48 0 0 0], [.cells [.own 3 r21.fl.length], .dead, .cells (E50.cs a1), E9.row r21.fl], [], 2⟩) 0 1 1 [0, 3, 48] [0, 1, 2, 4] ?_
      refine RefR.li 49 [] E9 ([[44], [80, 82, 73, 79, 82, 73, 84, 89]] : List Bytes) 1 2 ?_
      refine RefR.cc 50 2 3 [0, 3] (F43_ok K (⟨r21.fl⟩ : S60) ([[44], [80, 82, 73, 79, 82, 73, 84, 89]] : List Bytes)) (fun r22 => ?_)
      refine RefR.nl 3 ?_
      refine Ref.sq ?_
      refine Ref.rn 16 ?_
      refine RefR.e1 0 3 3 [0, 3, 51, 53] [0, 1, 2, 5] ?_
      refine RefR.cc 54 3 4 [0, 3] (F42_ok K (⟨r22.fl⟩ : S60) a1.fFirst) (fun r23 => ?_)
      refine RefR.nl 4 ?_
      refine Ref.rn 17 ?_
      refine RefR.e0 (st' := ⟨[sP 55 0 0 0, sS 57 a1.fBase], [.cells [.own 2 r23.fl.length], .dead, E9.row r23.fl], [], 2⟩) 0 3 3 [55, 57] [0, 1, 4] ?_
      refine RefR.e0 (st' := ⟨[sP 55 0 0 0, (58, .c (.own 3 4))], [.cells [.own 2 r23.fl.length], .dead, E9.row r23.fl, .row 9 1 4 (tbl [[.str w_41], [.str w_58], [.str a1.fBase], [.str w_59]])], [], 2⟩) 3 1 4 [55, 58] [0, 1, 2, 3] ?_
      refine RefR.conv (Conv.ob 3 (E9.row [w_41, w_58, a1.fBase, w_59]) (El.row_build E9 [w_41, w_58, a1.fBase, w_59] rfl (by kernel_rfl))) ?_
      refine RefR.conv (Conv.sl 58 (.c (.own 3 ([w_41, w_58, a1.fBase, w_59].length))) (DLe.c (CLe.own (by simp <;> omega)))) ?_
      refine RefR.conv (Conv.freeze (st' := ⟨[(58, .c (E9.tree [w_41, w_58, a1.fBase, w_59])), sP 55 0 0 0], [.cells [.own 2 r23.fl.length], .dead, E9.row r23.fl, .dead], [], 2⟩) 3 (by kernel_rfl)) ?_
      refine RefR.cc 59 4 5 [0, 2] (F43_ok K (⟨r23.fl⟩ : S60) [w_41, w_58, a1.fBase, w_59]) (fun r24 => ?_)
      refine RefR.nl 5 ?_
      refine Ref.ck ⟨[], [.cells [.own 2 r24.fl.length], .dead, E9.row r24.fl], [], 2⟩ [] [0, 1, 4] ?_
      exact Ref.n0 (t := (r24.fl))
     ·
      refine Ref.rn 2 ?_
      refine RefR.e0 (st' := ⟨[sP 6 0 0 0], [.cells [.own 1 a0.fl.length], E9.row a0.fl], [], 2⟩) 0 1 1 [6] [0, 1] ?_
      refine RefR.li 7 [] E9 ([[63]] : List Bytes) 1 2 ?_
      refine RefR.cc 8 2 3 [0, 1] (F43_ok K (⟨a0.fl⟩ : S60) ([[63]] : List Bytes)) (fun r25 => ?_)
      refine RefR.nl 3 ?_
      refine Ref.ck ⟨[], [.cells [.own 2 r25.fl.length], .dead, E9.row r25.fl], [], 2⟩ [] [0, 1, 3] ?_
      exact Ref.n0 (t := (r25.fl))
 ·
  exact Ref.n0 (t := ((⟨u13⟩ : S60)))
def F19 (K : Nat) (a0 : S60) : Option ((Bytes × S60) ⊕ (Bytes × S60)) :=
 ((condM true (fnS (F48 K a0.fl ([32] : Bytes))) default).bind (fun r1 => (some (.inl (r1, (⟨a0.fl⟩ : S60))))))
theorem F19_ok (K : Nat) (a0 : S60) : DFun Tryz.prog 19 [.c (.ptr 0 0 0)] [.cells [.own 1 a0.fl.length], E9.row a0.fl] (fnS (F19 K a0)) (fun r => .c (.str r.1)) (fun r => [.cells [.own 2 r.2.fl.length], .dead, E9.row r.2.fl]) := by
 refine DFun.it Tryz.f19 (fun r => ⟨[sS 2 r.1], [.cells [.own 2 r.2.fl.length], .dead, E9.row r.2.fl], [], 2⟩) ?_
 unfold F19
 refine Ref.sq ?_
 refine Ref.rn 0 ?_
 refine RefR.e0 (st' := ⟨[sP 0 0 0 0], [.cells [.own 1 a0.fl.length], E9.row a0.fl], [], 2⟩) 0 1 1 [0] [0, 1] ?_
 refine RefR.nl 1 ?_
 refine Ref.sq ?_
 refine Ref.rn 1 ?_
 refine RefR.e1 0 4 4 [6] [0, 1] ?_
 refine RefR.lookC (t := 7) (g := []) (b := true) 4 5 [1] (default : Bytes) rfl (by kernel_rfl) (F48_ok K a0.fl ([32] : Bytes)) (fun _ => rfl) (fun r1 => ?_)
 refine RefR.e0 (st' := ⟨[sS 2 r1], [.cells [.own 1 a0.fl.length], E9.row a0.fl], [], 2⟩) 5 1 6 [2] [0, 1] ?_
 refine RefR.nl 6 ?_
 refine Ref.conv (Conv.move (st' := ⟨[sS 2 r1], [.cells [.own 2 a0.fl.length], .dead, E9.row a0.fl], [], 2⟩) 1 (by kernel_rfl) (by kernel_rfl)) ?_
 exact Ref.rt (t := (r1, (⟨a0.fl⟩ : S60)))
def F13 (K : Nat) (a0 : S44) : Option ((Bytes) ⊕ (Bytes)) :=
 ((fnS (F32 K (⟨[]⟩ : S60) a0)).bind (fun r1 => ((fnS (F19 K (⟨r1.fl⟩ : S60))).bind (fun r2 => (some (.inl (r2.1)))))))
theorem F13_ok (K : Nat) (a0 : S44) : DFun Tryz.prog 13 [.agg (E44.cs a0)] [] (fnS (F13 K a0)) (fun r => .c (.str r)) (fun r => []) := by
 refine DFun.it Tryz.f13 (fun r => ⟨[sS 2 r], [], [], 0⟩) ?_
 unfold F13
 refine Ref.sq ?_
 refine Ref.rn 0 ?_
 refine RefR.e0 (st' := ⟨[sP 1 0 0 0], [.cells (E44.cs a0)], [], 0⟩) 0 2 2 [1] [0] ?_
 refine RefR.nl 2 ?_
 refine Ref.sq ?_
 refine Ref.rn 1 ?_
 refine RefR.e0 (st' := ⟨[sP 1 0 0 0, sP 3 1 0 0], [.cells (E44.cs a0), .cells [.nil]], [], 0⟩) 0 3 3 [1, 3] [0, 1] ?_
 refine RefR.nl 3 ?_
 refine Ref.sq ?_
 refine Ref.rn 2 ?_
 refine RefR.e0 (st' := ⟨[sP 3 0 0 0, sP 6 0 0 0, (7, .agg (E44.cs a0))], [.cells [.nil]], [], 0⟩) 0 2 2 [3, 6, 7] [1] ?_
 refine RefR.conv (Conv.adoptCell (st' := ⟨[sP 3 0 0 0, sP 6 0 0 0, (7, .agg (E44.cs a0))], [.cells [.own 1 0], E9.row []], [], 0⟩) 0 0 E9.ty E9.w (E9.at []) (by kernel_rfl)) ?_
 refine RefR.cc 8 2 3 [0, 1] (F32_ok K (⟨[]⟩ : S60) a0) (fun r1 => ?_)
 refine RefR.nl 3 ?_
 refine Ref.sq ?_
 refine Ref.rn 3 ?_
 refine RefR.e1 0 1 1 [9] [0, 2] ?_
 refine RefR.cc 10 1 2 [0, 1] (F19_ok K (⟨r1.fl⟩ : S60)) (fun r2 => ?_)
 refine RefR.e0 (st' := ⟨[sS 2 r2.1], [], [], 0⟩) 2 1 3 [2] [] ?_
 refine RefR.nl 3 ?_
 exact Ref.rt (t := (r2.1))
def F7 (K : Nat) (a0 : S25) : Option ((Bytes) ⊕ (Bytes)) :=
 ((fnS (F18 K (⟨[]⟩ : S60) a0)).bind (fun r1 => ((fnS (F19 K (⟨r1.fl⟩ : S60))).bind (fun r2 => (some (.inl (r2.1)))))))
theorem F7_ok (K : Nat) (a0 : S25) : DFun Tryz.prog 7 [.agg (E25.cs a0)] [] (fnS (F7 K a0)) (fun r => .c (.str r)) (fun r => []) := by
 refine DFun.it Tryz.f7 (fun r => ⟨[sS 2 r], [], [], 0⟩) ?_
 unfold F7
 refine Ref.sq ?_
 refine Ref.rn 0 ?_
 refine RefR.e0 (st' := ⟨[sP 1 0 0 0], [E25.o a0], [], 0⟩) 0 2 2 [1] [0] ?_
 refine RefR.nl 2 ?_
 refine Ref.sq ?_
 refine Ref.rn 1 ?_
 refine RefR.e0 (st' := ⟨[sP 1 0 0 0, sP 3 1 0 0], [E25.o a0, .cells [.nil]], [], 0⟩) 0 3 3 [1, 3] [0, 1] ?_
 refine RefR.nl 3 ?_
 refine Ref.sq ?_
 refine Ref.rn 2 ?_
 refine RefR.e0 (st' := ⟨[sP 3 0 0 0, sP 6 0 0 0, (7, .agg (E25.cs a0))], [.cells [.nil]], [], 0⟩) 0 2 2 [3, 6, 7] [1] ?_
 refine RefR.conv (Conv.adoptCell (st' := ⟨[sP 3 0 0 0, sP 6 0 0 0, (7, .agg (E25.cs a0))], [.cells [.own 1 0], E9.row []], [], 0⟩) 0 0 E9.ty E9.w (E9.at []) (by kernel_rfl)) ?_
 refine RefR.cc 8 2 3 [0, 1] (F18_ok K (⟨[]⟩ : S60) a0) (fun r1 => ?_)
 refine RefR.nl 3 ?_
 refine Ref.sq ?_
 refine Ref.rn 3 ?_
 refine RefR.e1 0 1 1 [9] [0, 2] ?_
 refine RefR.cc 10 1 2 [0, 1] (F19_ok K (⟨r1.fl⟩ : S60)) (fun r2 => ?_)
 refine RefR.e0 (st' := ⟨[sS 2 r2.1], [], [], 0⟩) 2 1 3 [2] [] ?_
 refine RefR.nl 3 ?_
 exact Ref.rt (t := (r2.1))
def F27 (K : Nat) (a0 : S75) (a1 : Bytes) : Option ((Int × Err × S75) ⊕ (Int × Err × S75)) :=
 ((fnS (F59 K a0)).bind (fun r1 => (chk [room ((r1.fbuf.length + a1.length) * 1)] (some (.inl ((Int.ofNat a1.length), ([] : Err), (⟨r1.faddr, (r1.fbuf ++ a1)⟩ : S75)))))))
theorem F27_ok (K : Nat) (a0 : S75) (a1 : Bytes) : DFun Tryz.prog 27 [.c (.ptr 0 0 0), .c (.str a1)] [.cells [.self 75 a0.faddr 0, .own 1 a0.fbuf.length], E5.row a0.fbuf] (fnS (F27 K a0 a1)) (fun r => .tup [.c (.val (.int .i64 r.1)), .c (errC r.2.1)]) (fun r => [.cells [.self 75 r.2.2.faddr 0, .own 2 r.2.2.fbuf.length], .dead, E5.row r.2.2.fbuf]) := by
 refine DFun.it Tryz.f27 (fun r => ⟨[sI 4 r.1, (5, .c (errC r.2.1))], [.cells [.self 75 r.2.2.faddr 0, .own 2 r.2.2.fbuf.length], .dead, E5.row r.2.2.fbuf], [], 2⟩) ?_
 unfold F27
 refine Ref.sq ?_
 refine Ref.rn 0 ?_
 refine RefR.e0 (st' := ⟨[sP 0 0 0 0, sS 1 a1], [.cells [.self 75 a0.faddr 0, .own 1 a0.fbuf.length], E5.row a0.fbuf], [], 2⟩) 0 2 2 [0, 1] [0, 1] ?_
 refine RefR.nl 2 ?_
 refine Ref.sq ?_
 refine Ref.rn 1 ?_
 refine RefR.e1 0 1 1 [0, 1, 6] [0, 1] ?_
 refine RefR.cc 7 1 2 [0, 1] (F59_ok K a0) (fun r1 => ?_)
 refine RefR.nl 2 ?_
 refine Ref.sq ?_
 refine Ref.rn 2 ?_
 refine RefR.e0 (st' := ⟨[sS 1 a1, sP 8 0 0 0, (12, .c (.own 1 r1.fbuf.length)), sS 13 a1], [.cells [.self 75 r1.faddr 0, .own 1 r1.fbuf.length], E5.row r1.fbuf], [], 2⟩) 0 6 6 [1, 8, 12, 13] [0, 1] ?_
 refine RefR.evC (vs := [room ((r1.fbuf.length + a1.length) * 1)]) (st' := ⟨[sS 1 a1, sP 8 0 0 0, (14, .c (.own 2 (r1.fbuf.length + a1.length)))], [.cells [.self 75 r1.faddr 0, .own 1 r1.fbuf.length], .dead, .row 5 1 (r1.fbuf.length + a1.length) fun i j => bif Nat.blt i r1.fbuf.length then E5.at r1.fbuf i j else (fun i _ => .val (.int .u8 (a1.getD i 0).toNat)) (i - r1.fbuf.length) j], [], 2⟩) 6 1 7 [1, 8, 14] [0, 1, 2] rfl (by kernel_rfl) ?_
 refine RefR.conv (Conv.ob 2 (E5.row (r1.fbuf ++ a1)) (El.row_append_str E5 rfl r1.fbuf a1 rfl)) ?_
 refine RefR.conv (Conv.sl 14 (.c (.own 2 ((r1.fbuf ++ a1).length))) (DLe.c (CLe.own (by simp <;> omega)))) ?_
 refine RefR.e0 (st' := ⟨[sS 1 a1], [.cells [.self 75 r1.faddr 0, .own 2 ((r1.fbuf ++ a1).length)], .dead, E5.row (r1.fbuf ++ a1)], [], 2⟩) 7 3 10 [1] [0, 1, 2] ?_
 refine RefR.nl 10 ?_
 refine Ref.sq ?_
 refine Ref.rn 3 ?_
 refine RefR.e0 (st' := ⟨[sI 4 (Int.ofNat a1.length), (5, .c (.val .nilIface))], [.cells [.self 75 r1.faddr 0, .own 2 ((r1.fbuf ++ a1).length)], .dead, E5.row (r1.fbuf ++ a1)], [], 2⟩) 0 4 4 [4, 5] [0, 1, 2] ?_
 refine RefR.nl 4 ?_
 refine Ref.conv (Conv.sl 5 (.c (errC ([] : Err))) (DLe.c (errC_nil))) ?_
 refine Ref.ck ⟨[sI 4 (Int.ofNat a1.length), (5, .c (errC ([] : Err)))], [.cells [.self 75 r1.faddr 0, .own 2 ((r1.fbuf ++ a1).length)], .dead, E5.row (r1.fbuf ++ a1)], [], 2⟩ [4, 5] [0, 1, 2] ?_
 exact Ref.rt (t := ((Int.ofNat a1.length), ([] : Err), (⟨r1.faddr, (r1.fbuf ++ a1)⟩ : S75)))
def F11 (K : Nat) (a0 : S36) : Option ((Bytes) ⊕ (Bytes)) :=
 (bindS (blockS ((iter K (fun (u38 : Bool × (List UInt8) × Int) => (letV (decide ((u38.2.2 : Int) < (Int.ofNat a0.fDecls.length))) (fun (x48 : Bool) => (if x48 = true then (bindS (blockS (chk [inb u38.2.2 a0.fDecls.length] ((fnS (F26 K (⟨[]⟩ : S60) (a0.fDecls.getD (u38.2.2 : Int).toNat default))).bind (fun r53 => ((fnS (F19 K (⟨r53.fl⟩ : S60))).bind (fun r54 => (chk [room (r54.1.length + ([10] : Bytes).length)] ((fnS (F27 K (⟨u38.1, u38.2.1⟩ : S75) (r54.1 ++ ([10] : Bytes)))).bind (fun r55 => (some (.inr (r55.2.2.faddr, r55.2.2.fbuf)))))))))))) (fun (u52 : Bool × (List UInt8)) => (some (.inr (u52.1, u52.2, (IntKind.i64.wrap (u38.2.2 + 1))))))) else (some (.inl (Sum.inl (u38.1, u38.2.1)))))))) (false, [], 0)).map .inl)) (fun (u28 : Bool × (List UInt8)) => ((fnS (F28 K (⟨u28.1, u28.2⟩ : S75))).bind (fun r56 => (some (.inl (r56)))))))
theorem F11_ok (K : Nat) (a0 : S36) : DFun Tryz.prog 11 [.agg (E36.cs a0)] [] (fnS (F11 K a0)) (fun r => .c (.str r)) (fun r => []) := by
 refine DFun.it Tryz.f11 (fun r => ⟨[sS 2 r], [], [], 0⟩) ?_
 unfold F11
 refine Ref.sq ?_
 refine Ref.rn 0 ?_
 refine RefR.e0 (st' := ⟨[sP 1 0 0 0], [.cells (E36.cs a0)], [], 0⟩) 0 2 2 [1] [0] ?_
 refine RefR.nl 2 ?_
 refine Ref.sq ?_
 refine Ref.rn 1 ?_
 refine RefR.allocSelf (d := 3) (t := 75) (cl := [.nil]) 0 1 (by kernel_rfl) (by kernel_rfl) ?_
 refine RefR.nl 1 ?_
 refine Ref.sq ?_
 refine Ref.sq ?_
 refine Ref.rn 2 ?_
 refine RefR.e0 (st' := ⟨[sP 3 0 0 0, (8, .c (E50.tree a0.fDecls)), sI 9 (Int.ofNat a0.fDecls.length), sI 10 0], [.cells [.self 75 false 0, .nil]], [], 0⟩) 0 4 4 [3, 8, 9, 10] [1] ?_
 refine RefR.nl 4 ?_
 refine Ref.ce (.block 0 (cd (bd Tryz.f11) [1, 1, 0, 1, 0])) ?_
 refine Ref.block (go1 := fun u28 => ⟨[sP 3 0 0 0], [.cells [.self 75 u28.1 0, .own 1 u28.2.length], E5.row u28.2], [], 0⟩) ?_ (fun _ h => by cases h) (fun u28 => ?_)
 ·
  refine Ref.ce (.loop (cd (bd Tryz.f11) [1, 1, 0, 1, 0, 0])) ?_
  refine Ref.conv (Conv.adoptCell (st' := ⟨[sP 3 0 0 0, (8, .c (E50.tree a0.fDecls)), sI 9 (Int.ofNat a0.fDecls.length), sI 10 0], [.cells [.self 75 false 0, .own 1 0], E5.row []], [], 0⟩) 0 1 E5.ty E5.w (E5.at []) (by kernel_rfl)) ?_
  refine Ref.loop (hd := fun u38 => ⟨[sP 3 0 0 0, (8, .c (E50.tree a0.fDecls)), sI 9 (Int.ofNat a0.fDecls.length), sI 10 u38.2.2], [.cells [.self 75 u38.1 0, .own 1 u38.2.1.length], E5.row u38.2.1], [], 0⟩) K (false, [], 0) (by kernel_rfl) (fun u38 => ?_)
  refine Ref.sq ?_
  refine Ref.rn 3 ?_
  refine RefR.e0 (st' := ⟨[sP 3 0 0 0, (8, .c (E50.tree a0.fDecls)), sI 9 (Int.ofNat a0.fDecls.length), sI 10 u38.2.2, sB 11 (decide ((u38.2.2 : Int) < (Int.ofNat a0.fDecls.length)))], [.cells [.self 75 u38.1 0, .own 1 u38.2.1.length], E5.row u38.2.1], [], 0⟩) 0 1 1 [3, 8, 9, 10, 11] [0, 1] ?_
  refine RefR.letC (stf := fun x48 => ⟨[sP 3 0 0 0, (8, .c (E50.tree a0.fDecls)), sI 9 (Int.ofNat a0.fDecls.length), sI 10 u38.2.2, sB 11 x48], [.cells [.self 75 u38.1 0, .own 1 u38.2.1.length], E5.row u38.2.1], [], 0⟩) (by kernel_rfl) (fun x48 => ?_)
  refine RefR.nl 1 ?_
  refine Ref.sq ?_
  refine Ref.cn (.tmp 11) x48 (fun hc => ?_) (fun hc => ?_)
  ·
   refine Ref.sk ?_
   refine Ref.sq ?_
   refine Ref.ce (.block 1 (cd (bd Tryz.f11) [1, 1, 0, 1, 0, 0, 1, 1, 0, 0])) ?_
   refine Ref.block (go1 := fun u52 => ⟨[sP 3 0 0 0, (8, .c (E50.tree a0.fDecls)), sI 9 (Int.ofNat a0.fDecls.length), sI 10 u38.2.2], [.cells [.self 75 u52.1 0, .own 1 u52.2.length], E5.row u52.2], [], 0⟩) ?_ (fun a => match a with | .inl _ => (fun h => by cases h) | .inr _ => (fun h => by cases h)) (fun u52 => ?_)
   ·
    refine Ref.sq ?_
    refine Ref.rn 4 ?_
    refine RefR.evC (vs := [inb u38.2.2 a0.fDecls.length]) (st' := ⟨[sP 3 0 0 0, sP 5 2 0 0, (8, .c (E50.tree a0.fDecls)), sI 9 (Int.ofNat a0.fDecls.length), sI 10 u38.2.2], [.cells [.self 75 u38.1 0, .own 1 u38.2.1.length], E5.row u38.2.1, .cells (E50.cs (a0.fDecls.getD (u38.2.2 : Int).toNat default))], [], 0⟩) 0 4 4 [3, 5, 8, 9, 10] [0, 1, 2] rfl (by kernel_rfl) ?_
    refine RefR.nl 4 ?_
    refine Ref.sq ?_
    refine Ref.rn 5 ?_
    refine RefR.e0 (st' := ⟨[sP 3 0 0 0, sP 5 2 0 0, sP 6 3 0 0, (8, .c (E50.tree a0.fDecls)), sI 9 (Int.ofNat a0.fDecls.length), sI 10 u38.2.2], [.cells [.self 75 u38.1 0, .own 1 u38.2.1.length], E5.row u38.2.1, .cells (E50.cs (a0.fDecls.getD (u38.2.2 : Int).toNat default)), .cells [.nil]], [], 0⟩) 0 3 3 [3, 5, 6, 8, 9, 10] [0, 1, 2, 3] ?_
    refine RefR.nl 3 ?_
    refine Ref.sq ?_
    refine Ref.rn 6 ?_
    refine RefR.e0 (st' := ⟨[sP 3 0 0 0, sP 6 2 0 0, (8, .c (E50.tree a0.fDecls)), sI 9 (Int.ofNat a0.fDecls.length), sI 10 u38.2.2, sP 16 2 0 0, (17, .agg (E50.cs (a0.fDecls.getD (u38.2.2 : Int).toNat default)))], [.cells [.self 75 u38.1 0, .own 1 u38.2.1.length], E5.row u38.2.1, .cells [.nil]], [], 0⟩) 0 2 2 [3, 6, 8, 9, 10, 16, 17] [0, 1, 3] ?_
    refine RefR.conv (Conv.adoptCell (st' := ⟨[sP 3 0 0 0, sP 6 2 0 0, (8, .c (E50.tree a0.fDecls)), sI 9 (Int.ofNat a0.fDecls.length), sI 10 u38.2.2, sP 16 2 0 0, (17, .agg (E50.cs (a0.fDecls.getD (u38.2.2 : Int).toNat default)))], [.cells [.self 75 u38.1 0, .own 1 u38.2.1.length], E5.row u38.2.1, .cells [.own 3 0], E9.row []], [], 0⟩) 2 0 E9.ty E9.w (E9.at []) (by kernel_rfl)) ?_
    refine RefR.cc 18 2 3 [2, 3] (F26_ok K (⟨[]⟩ : S60) (a0.fDecls.getD (u38.2.2 : Int).toNat default)) (fun r53 => ?_)
    refine RefR.nl 3 ?_
    refine Ref.rn 7 ?_
    refine RefR.e1 0 1 1 [3, 8, 9, 10, 19] [0, 1, 2, 4] ?_
    refine RefR.cc 20 1 2 [2, 3] (F19_ok K (⟨r53.fl⟩ : S60)) (fun r54 => ?_)
    refine RefR.evC (vs := [room (r54.1.length + ([10] : Bytes).length)]) (st' := ⟨[sP 3 0 0 0, (8, .c (E50.tree a0.fDecls)), sI 9 (Int.ofNat a0.fDecls.length), sI 10 u38.2.2, sS 21 (r54.1 ++ ([10] : Bytes))], [.cells [.self 75 u38.1 0, .own 1 u38.2.1.length], E5.row u38.2.1], [], 0⟩) 2 1 3 [3, 8, 9, 10, 21] [0, 1] rfl (by kernel_rfl) ?_
    refine RefR.cc 22 3 4 [0, 1] (F27_ok K (⟨u38.1, u38.2.1⟩ : S75) (r54.1 ++ ([10] : Bytes))) (fun r55 => ?_)
    refine RefR.nl 4 ?_
    refine Ref.ck ⟨[sP 3 0 0 0, (8, .c (E50.tree a0.fDecls)), sI 9 (Int.ofNat a0.fDecls.length), sI 10 u38.2.2], [.cells [.self 75 r55.2.2.faddr 0, .own 1 r55.2.2.fbuf.length], E5.row r55.2.2.fbuf], [], 0⟩ [3, 8, 9, 10] [0, 2] ?_
    exact Ref.n0 (t := (r55.2.2.faddr, r55.2.2.fbuf))
   ·
    refine Ref.rn 8 ?_
    refine RefR.e0 (st' := ⟨[sP 3 0 0 0, (8, .c (E50.tree a0.fDecls)), sI 9 (Int.ofNat a0.fDecls.length), sI 10 (IntKind.i64.wrap (u38.2.2 + 1))], [.cells [.self 75 u52.1 0, .own 1 u52.2.length], E5.row u52.2], [], 0⟩) 0 2 2 [3, 8, 9, 10] [0, 1] ?_
    refine RefR.nl 2 ?_
    exact Ref.n0 (t := (u52.1, u52.2, (IntKind.i64.wrap (u38.2.2 + 1))))
  ·
   refine Ref.ck ⟨[sP 3 0 0 0], [.cells [.self 75 u38.1 0, .own 1 u38.2.1.length], E5.row u38.2.1], [], 0⟩ [3] [0, 1] ?_
   exact Ref.xt 0 (t := (Sum.inl (u38.1, u38.2.1)))
 ·
  refine Ref.sq ?_
  refine Ref.rn 9 ?_
  refine RefR.cc 24 0 1 [0, 1] (F28_ok K (⟨u28.1, u28.2⟩ : S75)) (fun r56 => ?_)
  refine RefR.e0 (st' := ⟨[sS 2 r56], [], [], 0⟩) 1 1 2 [2] [] ?_
  refine RefR.nl 2 ?_
  exact Ref.rt (t := (r56))
end Go.Proofs.YtidjangjfekfjaaGreatDoor
