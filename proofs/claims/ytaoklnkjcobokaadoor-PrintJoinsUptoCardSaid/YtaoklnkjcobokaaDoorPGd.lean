/- Plain functions, and that the Go functions do what these do: printed by gen2.py. No conditions. -/
import Derived.Test.YtaoklnkjcobokaaDoorPGb
import Derived.Test.YtaoklnkjcobokaaDoorProg
set_option linter.unusedVariables false
set_option linter.unusedSimpArgs false
set_option linter.unusedSectionVars false
namespace Go.Proofs.YtaoklnkjcobokaaDoor
open Go Go.Proofs Go.Dl

/-- governor/governorlaw0.GreatTexts -/
def F14 (K : Nat) (a0 : (List Bytes)) (a1 : Int) (a2 : Int) : Option ((Bool) ⊕ (Bool)) :=
 (bindS (blockS ((iter K (fun (u22 : Int) => (letV ((decide ((u22 : Int) < (Int.ofNat a0.length))) && (decide (((Int.ofNat a0.length) : Int) ≤ a1))) (fun (x28 : Bool) => (if x28 = true then (bindS (blockS (chk [inb u22 a0.length] (letV (decide (((Int.ofNat (a0.getD (u22 : Int).toNat default).length) : Int) > a2)) (fun (x31 : Bool) => (if x31 = true then (some (.inl (Sum.inr (Sum.inr (true))))) else (some (.inr ()))))))) (fun (u30 : Unit) => (some (.inr ((IntKind.i64.wrap (u22 + 1))))))) else (some (.inl (Sum.inl ()))))))) (0)).map .inl)) (fun (u16 : Unit) => (letV (decide (((Int.ofNat a0.length) : Int) > a1)) (fun (x32 : Bool) => (some (.inl (x32)))))))

theorem F14_ok (K : Nat) (a0 : (List Bytes)) (a1 : Int) (a2 : Int) : DFun Tryd.prog 14 [.c (E9.tree a0), .c (.val (.int .i64 a1)), .c (.val (.int .i64 a2))] [] (fnS (F14 K a0 a1 a2)) (fun r => .c (.val (.bool r))) (fun r => []) := by
 refine DFun.intro (fn := Tryd.f14) (c := cd (bd Tryd.f14) []) (rs := fun r => ⟨[sB 6 r], [], [], 0⟩) (by kernel_rfl) (by kernel_rfl) (by kernel_rfl) ?_ (fun r => by kernel_rfl) (fun r => by kernel_rfl) (fun r => by kernel_rfl) (fun r => by kernel_rfl)
 unfold F14
 refine Ref.sq ?_
 refine Ref.rn 0 ?_
 refine RefR.e0 (st' := ⟨[(0, .c (E9.tree a0)), sI 1 a1, sI 2 a2], [], [], 0⟩) 0 1 1 [0, 1, 2] [] ?_
 refine RefR.nl 1 ?_
 refine Ref.sq ?_
 refine Ref.sq ?_
 refine Ref.rn 1 ?_
 refine RefR.e0 (st' := ⟨[(0, .c (E9.tree a0)), sI 1 a1, sI 2 a2, sI 7 0], [], [], 0⟩) 0 1 1 [0, 1, 2, 7] [] ?_
 refine RefR.nl 1 ?_
 refine Ref.codeEq (c' := .block 0 (cd (bd Tryd.f14) [1, 0, 1, 0])) (by kernel_rfl) ?_
 refine Ref.block (go1 := fun u16 => ⟨[(0, .c (E9.tree a0)), sI 1 a1], [], [], 0⟩) ?_ (fun _ h => by cases h) (fun u16 => ?_)
 ·
  refine Ref.codeEq (c' := .loop (cd (bd Tryd.f14) [1, 0, 1, 0, 0])) (by kernel_rfl) ?_
  refine Ref.loop (hd := fun u22 => ⟨[(0, .c (E9.tree a0)), sI 1 a1, sI 2 a2, sI 7 u22], [], [], 0⟩) K (0) (by kernel_rfl) (fun u22 => ?_)
  refine Ref.sq ?_
  refine Ref.sq ?_
  refine Ref.rn 2 ?_
  refine RefR.e0 (st' := ⟨[(0, .c (E9.tree a0)), sI 1 a1, sI 2 a2, sI 7 u22, sB 17 ((decide ((u22 : Int) < (Int.ofNat a0.length))) && (decide (((Int.ofNat a0.length) : Int) ≤ a1)))], [], [], 0⟩) 0 10 10 [0, 1, 2, 7, 17] [] ?_
  refine RefR.letC (stf := fun x28 => ⟨[(0, .c (E9.tree a0)), sI 1 a1, sI 2 a2, sI 7 u22, sB 17 x28], [], [], 0⟩) (by kernel_rfl) (fun x28 => ?_)
  refine RefR.nl 10 ?_
  refine Ref.cn (.tmp 17) x28 (fun hc => ?_) (fun hc => ?_)
  ·
   refine Ref.sk ?_
   refine Ref.sq ?_
   refine Ref.codeEq (c' := .block 1 (cd (bd Tryd.f14) [1, 0, 1, 0, 0, 1, 0, 0])) (by kernel_rfl) ?_
   refine Ref.block (go1 := fun u30 => ⟨[(0, .c (E9.tree a0)), sI 1 a1, sI 2 a2, sI 7 u22], [], [], 0⟩) ?_ (fun a => match a with | .inl _ => (fun h => by cases h) | .inr _ => (fun h => by cases h)) (fun u30 => ?_)
   ·
    refine Ref.sq ?_
    refine Ref.rn 4 ?_
    refine RefR.evC (vs := [inb u22 a0.length]) (st' := ⟨[(0, .c (E9.tree a0)), sI 1 a1, sI 2 a2, sI 7 u22, sB 26 (decide (((Int.ofNat (a0.getD (u22 : Int).toNat default).length) : Int) > a2))], [], [], 0⟩) 0 7 7 [0, 1, 2, 7, 26] [] rfl (by kernel_rfl) ?_
    refine RefR.letC (stf := fun x31 => ⟨[(0, .c (E9.tree a0)), sI 1 a1, sI 2 a2, sI 7 u22, sB 26 x31], [], [], 0⟩) (by kernel_rfl) (fun x31 => ?_)
    refine RefR.nl 7 ?_
    refine Ref.cn (.tmp 26) x31 (fun hc => ?_) (fun hc => ?_)
    ·
     refine Ref.sq ?_
     refine Ref.rn 5 ?_
     refine RefR.e0 (st' := ⟨[sB 6 true], [], [], 0⟩) 0 1 1 [6] [] ?_
     refine RefR.nl 1 ?_
     exact Ref.rt (t := (Sum.inr (Sum.inr (true))))
    ·
     refine Ref.sk ?_
     refine Ref.conv (Conv.keep (st' := ⟨[(0, .c (E9.tree a0)), sI 1 a1, sI 2 a2, sI 7 u22], [], [], 0⟩) [0, 1, 2, 7] [] (by kernel_rfl)) ?_
     exact Ref.n0 (t := ())
   ·
    refine Ref.rn 3 ?_
    refine RefR.e0 (st' := ⟨[(0, .c (E9.tree a0)), sI 1 a1, sI 2 a2, sI 7 (IntKind.i64.wrap (u22 + 1))], [], [], 0⟩) 0 3 3 [0, 1, 2, 7] [] ?_
    refine RefR.nl 3 ?_
    exact Ref.n0 (t := ((IntKind.i64.wrap (u22 + 1))))
  ·
   refine Ref.conv (Conv.keep (st' := ⟨[(0, .c (E9.tree a0)), sI 1 a1], [], [], 0⟩) [0, 1] [] (by kernel_rfl)) ?_
   exact Ref.xt 0 (t := (Sum.inl ()))
 ·
  refine Ref.sq ?_
  refine Ref.rn 6 ?_
  refine RefR.e0 (st' := ⟨[sB 6 (decide (((Int.ofNat a0.length) : Int) > a1))], [], [], 0⟩) 0 5 5 [6] [] ?_
  refine RefR.letC (stf := fun x32 => ⟨[sB 6 x32], [], [], 0⟩) (by kernel_rfl) (fun x32 => ?_)
  refine RefR.nl 5 ?_
  exact Ref.rt (t := (x32))

/-- governor/governorlaw0.vars -/
def F15 (K : Nat) (a0 : (List S38)) (a1 : Int) : Option ((Int) ⊕ (Int)) :=
 (bindS (blockS ((iter K (fun (u22 : Int) => (letV ((decide ((u22 : Int) < (Int.ofNat a0.length))) && (decide (((Int.ofNat a0.length) : Int) ≤ a1))) (fun (x28 : Bool) => (if x28 = true then (bindS (blockS (chk [inb u22 a0.length, !(!(decide (((Int.ofNat ((a0.getD (u22 : Int).toNat default).fName).length) : Int) > 60))) || inb u22 a0.length] (letV ((decide (((Int.ofNat ((a0.getD (u22 : Int).toNat default).fName).length) : Int) > 60)) || (decide (((Int.ofNat (((a0.getD (u22 : Int).toNat default).fType).fName).length) : Int) > 60))) (fun (x31 : Bool) => (if x31 = true then (some (.inl (Sum.inr (Sum.inr ((IntKind.i64.wrap (a1 + 1))))))) else (some (.inr ()))))))) (fun (u30 : Unit) => (some (.inr ((IntKind.i64.wrap (u22 + 1))))))) else (some (.inl (Sum.inl ()))))))) (0)).map .inl)) (fun (u16 : Unit) => (some (.inl ((Int.ofNat a0.length))))))

theorem F15_ok (K : Nat) (a0 : (List S38)) (a1 : Int) : DFun Tryd.prog 15 [.c (E38.tree a0), .c (.val (.int .i64 a1))] [] (fnS (F15 K a0 a1)) (fun r => .c (.val (.int .i64 r))) (fun r => []) := by
 refine DFun.intro (fn := Tryd.f15) (c := cd (bd Tryd.f15) []) (rs := fun r => ⟨[sI 4 r], [], [], 0⟩) (by kernel_rfl) (by kernel_rfl) (by kernel_rfl) ?_ (fun r => by kernel_rfl) (fun r => by kernel_rfl) (fun r => by kernel_rfl) (fun r => by kernel_rfl)
 unfold F15
 refine Ref.sq ?_
 refine Ref.rn 0 ?_
 refine RefR.e0 (st' := ⟨[(0, .c (E38.tree a0)), sI 1 a1], [], [], 0⟩) 0 1 1 [0, 1] [] ?_
 refine RefR.nl 1 ?_
 refine Ref.sq ?_
 refine Ref.sq ?_
 refine Ref.rn 1 ?_
 refine RefR.e0 (st' := ⟨[(0, .c (E38.tree a0)), sI 1 a1, sI 5 0], [], [], 0⟩) 0 1 1 [0, 1, 5] [] ?_
 refine RefR.nl 1 ?_
 refine Ref.codeEq (c' := .block 0 (cd (bd Tryd.f15) [1, 0, 1, 0])) (by kernel_rfl) ?_
 refine Ref.block (go1 := fun u16 => ⟨[(0, .c (E38.tree a0))], [], [], 0⟩) ?_ (fun _ h => by cases h) (fun u16 => ?_)
 ·
  refine Ref.codeEq (c' := .loop (cd (bd Tryd.f15) [1, 0, 1, 0, 0])) (by kernel_rfl) ?_
  refine Ref.loop (hd := fun u22 => ⟨[(0, .c (E38.tree a0)), sI 1 a1, sI 5 u22], [], [], 0⟩) K (0) (by kernel_rfl) (fun u22 => ?_)
  refine Ref.sq ?_
  refine Ref.sq ?_
  refine Ref.rn 2 ?_
  refine RefR.e0 (st' := ⟨[(0, .c (E38.tree a0)), sI 1 a1, sI 5 u22, sB 15 ((decide ((u22 : Int) < (Int.ofNat a0.length))) && (decide (((Int.ofNat a0.length) : Int) ≤ a1)))], [], [], 0⟩) 0 10 10 [0, 1, 5, 15] [] ?_
  refine RefR.letC (stf := fun x28 => ⟨[(0, .c (E38.tree a0)), sI 1 a1, sI 5 u22, sB 15 x28], [], [], 0⟩) (by kernel_rfl) (fun x28 => ?_)
  refine RefR.nl 10 ?_
  refine Ref.cn (.tmp 15) x28 (fun hc => ?_) (fun hc => ?_)
  ·
   refine Ref.sk ?_
   refine Ref.sq ?_
   refine Ref.codeEq (c' := .block 1 (cd (bd Tryd.f15) [1, 0, 1, 0, 0, 1, 0, 0])) (by kernel_rfl) ?_
   refine Ref.block (go1 := fun u30 => ⟨[(0, .c (E38.tree a0)), sI 1 a1, sI 5 u22], [], [], 0⟩) ?_ (fun a => match a with | .inl _ => (fun h => by cases h) | .inr _ => (fun h => by cases h)) (fun u30 => ?_)
   ·
    refine Ref.sq ?_
    refine Ref.rn 4 ?_
    refine RefR.evC (vs := [inb u22 a0.length, !(!(decide (((Int.ofNat ((a0.getD (u22 : Int).toNat default).fName).length) : Int) > 60))) || inb u22 a0.length]) (st' := ⟨[(0, .c (E38.tree a0)), sI 1 a1, sI 5 u22, sB 34 ((decide (((Int.ofNat ((a0.getD (u22 : Int).toNat default).fName).length) : Int) > 60)) || (decide (((Int.ofNat (((a0.getD (u22 : Int).toNat default).fType).fName).length) : Int) > 60)))], [], [], 0⟩) 0 17 17 [0, 1, 5, 34] [] rfl (by kernel_rfl) ?_
    refine RefR.letC (stf := fun x31 => ⟨[(0, .c (E38.tree a0)), sI 1 a1, sI 5 u22, sB 34 x31], [], [], 0⟩) (by kernel_rfl) (fun x31 => ?_)
    refine RefR.nl 17 ?_
    refine Ref.cn (.tmp 34) x31 (fun hc => ?_) (fun hc => ?_)
    ·
     refine Ref.sq ?_
     refine Ref.rn 5 ?_
     refine RefR.e0 (st' := ⟨[sI 4 (IntKind.i64.wrap (a1 + 1))], [], [], 0⟩) 0 3 3 [4] [] ?_
     refine RefR.nl 3 ?_
     exact Ref.rt (t := (Sum.inr (Sum.inr ((IntKind.i64.wrap (a1 + 1))))))
    ·
     refine Ref.sk ?_
     refine Ref.conv (Conv.keep (st' := ⟨[(0, .c (E38.tree a0)), sI 1 a1, sI 5 u22], [], [], 0⟩) [0, 1, 5] [] (by kernel_rfl)) ?_
     exact Ref.n0 (t := ())
   ·
    refine Ref.rn 3 ?_
    refine RefR.e0 (st' := ⟨[(0, .c (E38.tree a0)), sI 1 a1, sI 5 (IntKind.i64.wrap (u22 + 1))], [], [], 0⟩) 0 3 3 [0, 1, 5] [] ?_
    refine RefR.nl 3 ?_
    exact Ref.n0 (t := ((IntKind.i64.wrap (u22 + 1))))
  ·
   refine Ref.conv (Conv.keep (st' := ⟨[(0, .c (E38.tree a0))], [], [], 0⟩) [0] [] (by kernel_rfl)) ?_
   exact Ref.xt 0 (t := (Sum.inl ()))
 ·
  refine Ref.sq ?_
  refine Ref.rn 6 ?_
  refine RefR.e0 (st' := ⟨[sI 4 (Int.ofNat a0.length)], [], [], 0⟩) 0 3 3 [4] [] ?_
  refine RefR.nl 3 ?_
  exact Ref.rt (t := ((Int.ofNat a0.length)))

/-- governor/governorlaw0.exprs -/
def F17 : (K : Nat) → ((List S27)) → (Int) → Option ((Int) ⊕ (Int))
 | 0, _, _ => none
 | K + 1, a0, a1 =>
 (bindS (blockS ((iter K (fun (u46 : Int × Int) => (letV ((decide ((u46.2 : Int) < (Int.ofNat a0.length))) && (decide ((u46.1 : Int) ≤ a1))) (fun (x58 : Bool) => (if x58 = true then (bindS (blockS (chk [inb u46.2 a0.length] (letV (decide (((Int.ofNat ((a0.getD (u46.2 : Int).toNat default).fName).length) : Int) > 60)) (fun (x64 : Bool) => (chk [!(!x64) || inb u46.2 a0.length] (letV (x64 || (decide (((Int.ofNat ((a0.getD (u46.2 : Int).toNat default).fWhat).length) : Int) > 60))) (fun (x65 : Bool) => (if x65 = true then (some (.inl (Sum.inr (Sum.inr ((IntKind.i64.wrap (a1 + 1))))))) else (chk [inb u46.2 a0.length] ((fnS (F17 K ((a0.getD (u46.2 : Int).toNat default).fArgs) (IntKind.i64.wrap (a1 - u46.1)))).bind (fun r66 => (letV (IntKind.i64.wrap ((IntKind.i64.wrap (u46.1 + 1)) + r66)) (fun (x67 : Int) => (some (.inr (x67)))))))))))))))) (fun (u63 : Int) => (some (.inr (u63, (IntKind.i64.wrap (u46.2 + 1))))))) else (some (.inl (Sum.inl (u46.1)))))))) (0, 0)).map .inl)) (fun (u34 : Int) => (some (.inl (u34)))))

theorem G17_ok : ∀ K : Nat, (∀ (a0 : (List S27)), ∀ (a1 : Int), DFun Tryd.prog 17 [.c (E27.tree a0), .c (.val (.int .i64 a1))] [] (fnS (F17 K a0 a1)) (fun r => .c (.val (.int .i64 r))) (fun r => [])) := by
 intro K
 induction K with
 | zero => exact fun a0 a1 => DFun.none (by rw [F17]; rfl)
 | succ K ih =>
  have ih17 := ih
  refine ?_

  ·
   intro a0 a1
   refine DFun.intro (fn := Tryd.f17) (c := cd (bd Tryd.f17) []) (rs := fun r => ⟨[sI 4 r], [], [], 0⟩) (by kernel_rfl) (by kernel_rfl) (by kernel_rfl) ?_ (fun r => by kernel_rfl) (fun r => by kernel_rfl) (fun r => by kernel_rfl) (fun r => by kernel_rfl)
   rw [F17]
   refine Ref.sq ?_
   refine Ref.rn 0 ?_
   refine RefR.e0 (st' := ⟨[(0, .c (E27.tree a0)), sI 1 a1], [], [], 0⟩) 0 1 1 [0, 1] [] ?_
   refine RefR.nl 1 ?_
   refine Ref.sq ?_
   refine Ref.rn 1 ?_
   refine RefR.e0 (st' := ⟨[(0, .c (E27.tree a0)), sI 1 a1, sI 5 0], [], [], 0⟩) 0 1 1 [0, 1, 5] [] ?_
   refine RefR.nl 1 ?_
   refine Ref.sq ?_
   refine Ref.sq ?_
   refine Ref.rn 2 ?_
   refine RefR.e0 (st' := ⟨[(0, .c (E27.tree a0)), sI 1 a1, sI 5 0, sI 6 0], [], [], 0⟩) 0 1 1 [0, 1, 5, 6] [] ?_
   refine RefR.nl 1 ?_
   refine Ref.codeEq (c' := .block 0 (cd (bd Tryd.f17) [1, 1, 0, 1, 0])) (by kernel_rfl) ?_
   refine Ref.block (go1 := fun u34 => ⟨[sI 5 u34], [], [], 0⟩) ?_ (fun _ h => by cases h) (fun u34 => ?_)
   ·
    refine Ref.codeEq (c' := .loop (cd (bd Tryd.f17) [1, 1, 0, 1, 0, 0])) (by kernel_rfl) ?_
    refine Ref.loop (hd := fun u46 => ⟨[(0, .c (E27.tree a0)), sI 1 a1, sI 5 u46.1, sI 6 u46.2], [], [], 0⟩) K (0, 0) (by kernel_rfl) (fun u46 => ?_)
    refine Ref.sq ?_
    refine Ref.sq ?_
    refine Ref.rn 3 ?_
    refine RefR.e0 (st' := ⟨[(0, .c (E27.tree a0)), sI 1 a1, sI 5 u46.1, sI 6 u46.2, sB 15 ((decide ((u46.2 : Int) < (Int.ofNat a0.length))) && (decide ((u46.1 : Int) ≤ a1)))], [], [], 0⟩) 0 9 9 [0, 1, 5, 6, 15] [] ?_
    refine RefR.letC (stf := fun x58 => ⟨[(0, .c (E27.tree a0)), sI 1 a1, sI 5 u46.1, sI 6 u46.2, sB 15 x58], [], [], 0⟩) (by kernel_rfl) (fun x58 => ?_)
    refine RefR.nl 9 ?_
    refine Ref.cn (.tmp 15) x58 (fun hc => ?_) (fun hc => ?_)
    ·
     refine Ref.sk ?_
     refine Ref.sq ?_
     refine Ref.codeEq (c' := .block 1 (cd (bd Tryd.f17) [1, 1, 0, 1, 0, 0, 1, 0, 0])) (by kernel_rfl) ?_
     refine Ref.block (go1 := fun u63 => ⟨[(0, .c (E27.tree a0)), sI 1 a1, sI 5 u63, sI 6 u46.2], [], [], 0⟩) ?_ (fun a => match a with | .inl _ => (fun h => by cases h) | .inr _ => (fun h => by cases h)) (fun u63 => ?_)
     ·
      refine Ref.sq ?_
      refine Ref.sq ?_
      refine Ref.rn 5 ?_
      refine RefR.e0 (st' := ⟨[(0, .c (E27.tree a0)), sI 1 a1, sI 5 u46.1, sI 6 u46.2, (18, .c (E27.tree a0)), sI 19 u46.2], [], [], 0⟩) 0 2 2 [0, 1, 5, 6, 18, 19] [] ?_
      refine RefR.evC (vs := [inb u46.2 a0.length]) (st' := ⟨[(0, .c (E27.tree a0)), sI 1 a1, sI 5 u46.1, sI 6 u46.2, sB 25 (decide (((Int.ofNat ((a0.getD (u46.2 : Int).toNat default).fName).length) : Int) > 60)), (26, .c (E27.tree a0)), sI 27 u46.2], [], [(27, [(25, false)]), (26, [(25, false)])], 0⟩) 2 8 10 [0, 1, 5, 6, 25, 26, 27] [] rfl (by kernel_rfl) ?_
      refine RefR.letC (stf := fun x64 => ⟨[(0, .c (E27.tree a0)), sI 1 a1, sI 5 u46.1, sI 6 u46.2, sB 25 x64, (26, .c (E27.tree a0)), sI 27 u46.2], [], [(27, [(25, false)]), (26, [(25, false)])], 0⟩) (by kernel_rfl) (fun x64 => ?_)
      refine RefR.evC (vs := [!(!x64) || inb u46.2 a0.length]) (st' := ⟨[(0, .c (E27.tree a0)), sI 1 a1, sI 5 u46.1, sI 6 u46.2, sB 33 (x64 || (decide (((Int.ofNat ((a0.getD (u46.2 : Int).toNat default).fWhat).length) : Int) > 60)))], [], [], 0⟩) 10 6 16 [0, 1, 5, 6, 33] [] rfl (by kernel_rfl) ?_
      refine RefR.letC (stf := fun x65 => ⟨[(0, .c (E27.tree a0)), sI 1 a1, sI 5 u46.1, sI 6 u46.2, sB 33 x65], [], [], 0⟩) (by kernel_rfl) (fun x65 => ?_)
      refine RefR.nl 16 ?_
      refine Ref.cn (.tmp 33) x65 (fun hc => ?_) (fun hc => ?_)
      ·
       refine Ref.sq ?_
       refine Ref.rn 6 ?_
       refine RefR.e0 (st' := ⟨[sI 4 (IntKind.i64.wrap (a1 + 1))], [], [], 0⟩) 0 3 3 [4] [] ?_
       refine RefR.nl 3 ?_
       exact Ref.rt (t := (Sum.inr (Sum.inr ((IntKind.i64.wrap (a1 + 1))))))
      ·
       refine Ref.sk ?_
       refine Ref.rn 7 ?_
       refine RefR.e0 (st' := ⟨[(0, .c (E27.tree a0)), sI 1 a1, sI 5 u46.1, sI 6 u46.2, sI 37 (IntKind.i64.wrap (u46.1 + 1)), (38, .c (E27.tree a0)), sI 39 u46.2], [], [], 0⟩) 0 4 4 [0, 1, 5, 6, 37, 38, 39] [] ?_
       refine RefR.evC (vs := [inb u46.2 a0.length]) (st' := ⟨[(0, .c (E27.tree a0)), sI 1 a1, sI 6 u46.2, sI 37 (IntKind.i64.wrap (u46.1 + 1)), (42, .c (NT27 ((a0.getD (u46.2 : Int).toNat default).fArgs))), sI 45 (IntKind.i64.wrap (a1 - u46.1))], [], [], 0⟩) 4 6 10 [0, 1, 6, 37, 42, 45] [] rfl (by kernel_rfl) ?_
       refine RefR.conv (Conv.slot 42 (.c (E27.tree ((a0.getD (u46.2 : Int).toNat default).fArgs))) (DLe.c (NT27_le _)) (by kernel_rfl)) ?_
       refine RefR.callC (t := 46) 10 11 [] rfl (by kernel_rfl) (ih17 ((a0.getD (u46.2 : Int).toNat default).fArgs) (IntKind.i64.wrap (a1 - u46.1))) (fun r66 => ?_)
       refine RefR.e0 (st' := ⟨[(0, .c (E27.tree a0)), sI 1 a1, sI 5 (IntKind.i64.wrap ((IntKind.i64.wrap (u46.1 + 1)) + r66)), sI 6 u46.2], [], [], 0⟩) 11 2 13 [0, 1, 5, 6] [] ?_
       refine RefR.letC (stf := fun x67 => ⟨[(0, .c (E27.tree a0)), sI 1 a1, sI 5 x67, sI 6 u46.2], [], [], 0⟩) (by kernel_rfl) (fun x67 => ?_)
       refine RefR.nl 13 ?_
       exact Ref.n0 (t := (x67))
     ·
      refine Ref.rn 4 ?_
      refine RefR.e0 (st' := ⟨[(0, .c (E27.tree a0)), sI 1 a1, sI 5 u63, sI 6 (IntKind.i64.wrap (u46.2 + 1))], [], [], 0⟩) 0 3 3 [0, 1, 5, 6] [] ?_
      refine RefR.nl 3 ?_
      exact Ref.n0 (t := (u63, (IntKind.i64.wrap (u46.2 + 1))))
    ·
     refine Ref.conv (Conv.keep (st' := ⟨[sI 5 u46.1], [], [], 0⟩) [5] [] (by kernel_rfl)) ?_
     exact Ref.xt 0 (t := (Sum.inl (u46.1)))
   ·
    refine Ref.sq ?_
    refine Ref.rn 8 ?_
    refine RefR.e0 (st' := ⟨[sI 4 u34], [], [], 0⟩) 0 2 2 [4] [] ?_
    refine RefR.nl 2 ?_
    exact Ref.rt (t := (u34))

theorem F17_ok (K : Nat) (a0 : (List S27)) (a1 : Int) : DFun Tryd.prog 17 [.c (E27.tree a0), .c (.val (.int .i64 a1))] [] (fnS (F17 K a0 a1)) (fun r => .c (.val (.int .i64 r))) (fun r => []) := (G17_ok K) a0 a1

/-- governor/governorlaw0.stmts -/
def F16 : (K : Nat) → ((List S43)) → (Int) → Option ((Int) ⊕ (Int))
 | 0, _, _ => none
 | K + 1, a0, a1 =>
 (bindS (blockS ((iter K (fun (u730 : Int × Int) => (letV ((decide ((u730.2 : Int) < (Int.ofNat a0.length))) && (decide ((u730.1 : Int) ≤ a1))) (fun (x914 : Bool) => (if x914 = true then (bindS (blockS (chk [inb u730.2 a0.length] (letV (decide (((Int.ofNat ((a0.getD (u730.2 : Int).toNat default).fName).length) : Int) > 60)) (fun (x1006 : Bool) => (if x1006 = true then (some (.inl (Sum.inr (Sum.inr ((IntKind.i64.wrap (a1 + 1))))))) else (chk [inb u730.2 a0.length] (letV ((a0.getD (u730.2 : Int).toNat default).fExprs) (fun (x1007 : (List S27)) => ((fnS (F17 K x1007 (IntKind.i64.wrap (a1 - u730.1)))).bind (fun r1008 => (letV (IntKind.i64.wrap ((IntKind.i64.wrap (u730.1 + 1)) + r1008)) (fun (x1009 : Int) => (bindS (blockS ((iter K (fun (u1031 : Int × Int) => (chk [inb u730.2 a0.length] (letV ((decide ((u1031.2 : Int) < (Int.ofNat ((a0.getD (u730.2 : Int).toNat default).fLabels).length))) && (decide ((u1031.1 : Int) ≤ a1))) (fun (x1037 : Bool) => (if x1037 = true then (bindS (blockS (chk [inb u730.2 a0.length, inb u1031.2 ((a0.getD (u730.2 : Int).toNat default).fLabels).length] (letV (IntKind.i64.wrap ((IntKind.i64.wrap (u1031.1 + 1)) + (Int.ofNat (((a0.getD (u730.2 : Int).toNat default).fLabels).getD (u1031.2 : Int).toNat default).length))) (fun (x1040 : Int) => (some (.inr (x1040))))))) (fun (u1039 : Int) => (some (.inr (u1039, (IntKind.i64.wrap (u1031.2 + 1))))))) else (some (.inl (Sum.inl (u1031.1))))))))) (x1009, 0)).map .inl)) (fun (u1025 : Int) => (bindS (blockS ((iter K (fun (u1078 : Int × Int) => (chk [inb u730.2 a0.length] (letV ((decide ((u1078.2 : Int) < (Int.ofNat ((a0.getD (u730.2 : Int).toNat default).fBlocks).length))) && (decide ((u1078.1 : Int) ≤ a1))) (fun (x1088 : Bool) => (if x1088 = true then (bindS (blockS (chk [inb u730.2 a0.length] (letV ((a0.getD (u730.2 : Int).toNat default).fBlocks) (fun (x1093 : (List (List S43))) => (chk [inb u1078.2 x1093.length] ((fnS (F16 K (x1093.getD (u1078.2 : Int).toNat default) (IntKind.i64.wrap (a1 - u1078.1)))).bind (fun r1094 => (letV (IntKind.i64.wrap ((IntKind.i64.wrap (u1078.1 + 1)) + r1094)) (fun (x1095 : Int) => (some (.inr (x1095)))))))))))) (fun (u1092 : Int) => (some (.inr (u1092, (IntKind.i64.wrap (u1078.2 + 1))))))) else (some (.inl (Sum.inl (u1078.1))))))))) (u1025, 0)).map .inl)) (fun (u1068 : Int) => (some (.inr (u1068))))))))))))))))))) (fun (u1005 : Int) => (some (.inr (u1005, (IntKind.i64.wrap (u730.2 + 1))))))) else (some (.inl (Sum.inl (u730.1)))))))) (0, 0)).map .inl)) (fun (u548 : Int) => (some (.inl (u548)))))

theorem G16_ok : ∀ K : Nat, (∀ (a0 : (List S43)), ∀ (a1 : Int), DFun Tryd.prog 16 [.c (E43.tree a0), .c (.val (.int .i64 a1))] [] (fnS (F16 K a0 a1)) (fun r => .c (.val (.int .i64 r))) (fun r => [])) := by
 intro K
 induction K with
 | zero => exact fun a0 a1 => DFun.none (by rw [F16]; rfl)
 | succ K ih =>
  have ih16 := ih
  refine ?_

  ·
   intro a0 a1
   refine DFun.intro (fn := Tryd.f16) (c := cd (bd Tryd.f16) []) (rs := fun r => ⟨[sI 4 r], [], [], 0⟩) (by kernel_rfl) (by kernel_rfl) (by kernel_rfl) ?_ (fun r => by kernel_rfl) (fun r => by kernel_rfl) (fun r => by kernel_rfl) (fun r => by kernel_rfl)
   rw [F16]
   refine Ref.sq ?_
   refine Ref.rn 0 ?_
   refine RefR.e0 (st' := ⟨[(0, .c (E43.tree a0)), sI 1 a1], [], [], 0⟩) 0 1 1 [0, 1] [] ?_
   refine RefR.nl 1 ?_
   refine Ref.sq ?_
   refine Ref.rn 1 ?_
   refine RefR.e0 (st' := ⟨[(0, .c (E43.tree a0)), sI 1 a1, sI 5 0], [], [], 0⟩) 0 1 1 [0, 1, 5] [] ?_
   refine RefR.nl 1 ?_
   refine Ref.sq ?_
   refine Ref.sq ?_
   refine Ref.rn 2 ?_
   refine RefR.e0 (st' := ⟨[(0, .c (E43.tree a0)), sI 1 a1, sI 5 0, sI 6 0], [], [], 0⟩) 0 1 1 [0, 1, 5, 6] [] ?_
   refine RefR.nl 1 ?_
   refine Ref.codeEq (c' := .block 0 (cd (bd Tryd.f16) [1, 1, 0, 1, 0])) (by kernel_rfl) ?_
   refine Ref.block (go1 := fun u548 => ⟨[sI 5 u548], [], [], 0⟩) ?_ (fun _ h => by cases h) (fun u548 => ?_)
   ·
    refine Ref.codeEq (c' := .loop (cd (bd Tryd.f16) [1, 1, 0, 1, 0, 0])) (by kernel_rfl) ?_
    refine Ref.loop (hd := fun u730 => ⟨[(0, .c (E43.tree a0)), sI 1 a1, sI 5 u730.1, sI 6 u730.2], [], [], 0⟩) K (0, 0) (by kernel_rfl) (fun u730 => ?_)
    refine Ref.sq ?_
    refine Ref.sq ?_
    refine Ref.rn 3 ?_
    refine RefR.e0 (st' := ⟨[(0, .c (E43.tree a0)), sI 1 a1, sI 5 u730.1, sI 6 u730.2, sB 17 ((decide ((u730.2 : Int) < (Int.ofNat a0.length))) && (decide ((u730.1 : Int) ≤ a1)))], [], [], 0⟩) 0 9 9 [0, 1, 5, 6, 17] [] ?_
    refine RefR.letC (stf := fun x914 => ⟨[(0, .c (E43.tree a0)), sI 1 a1, sI 5 u730.1, sI 6 u730.2, sB 17 x914], [], [], 0⟩) (by kernel_rfl) (fun x914 => ?_)
    refine RefR.nl 9 ?_
    refine Ref.cn (.tmp 17) x914 (fun hc => ?_) (fun hc => ?_)
    ·
     refine Ref.sk ?_
     refine Ref.sq ?_
     refine Ref.codeEq (c' := .block 1 (cd (bd Tryd.f16) [1, 1, 0, 1, 0, 0, 1, 0, 0])) (by kernel_rfl) ?_
     refine Ref.block (go1 := fun u1005 => ⟨[(0, .c (E43.tree a0)), sI 1 a1, sI 5 u1005, sI 6 u730.2], [], [], 0⟩) ?_ (fun a => match a with | .inl _ => (fun h => by cases h) | .inr _ => (fun h => by cases h)) (fun u1005 => ?_)
     ·
      refine Ref.sq ?_
      refine Ref.sq ?_
      refine Ref.rn 5 ?_
      refine RefR.e0 (st' := ⟨[(0, .c (E43.tree a0)), sI 1 a1, sI 5 u730.1, sI 6 u730.2, (20, .c (E43.tree a0)), sI 21 u730.2], [], [], 0⟩) 0 2 2 [0, 1, 5, 6, 20, 21] [] ?_
      refine RefR.evC (vs := [inb u730.2 a0.length]) (st' := ⟨[(0, .c (E43.tree a0)), sI 1 a1, sI 5 u730.1, sI 6 u730.2, sB 26 (decide (((Int.ofNat ((a0.getD (u730.2 : Int).toNat default).fName).length) : Int) > 60))], [], [], 0⟩) 2 5 7 [0, 1, 5, 6, 26] [] rfl (by kernel_rfl) ?_
      refine RefR.letC (stf := fun x1006 => ⟨[(0, .c (E43.tree a0)), sI 1 a1, sI 5 u730.1, sI 6 u730.2, sB 26 x1006], [], [], 0⟩) (by kernel_rfl) (fun x1006 => ?_)
      refine RefR.nl 7 ?_
      refine Ref.cn (.tmp 26) x1006 (fun hc => ?_) (fun hc => ?_)
      ·
       refine Ref.sq ?_
       refine Ref.rn 6 ?_
       refine RefR.e0 (st' := ⟨[sI 4 (IntKind.i64.wrap (a1 + 1))], [], [], 0⟩) 0 3 3 [4] [] ?_
       refine RefR.nl 3 ?_
       exact Ref.rt (t := (Sum.inr (Sum.inr ((IntKind.i64.wrap (a1 + 1))))))
      ·
       refine Ref.sk ?_
       refine Ref.sq ?_
       refine Ref.rn 7 ?_
       refine RefR.e0 (st' := ⟨[(0, .c (E43.tree a0)), sI 1 a1, sI 5 u730.1, sI 6 u730.2, sI 30 (IntKind.i64.wrap (u730.1 + 1)), (31, .c (E43.tree a0)), sI 32 u730.2], [], [], 0⟩) 0 4 4 [0, 1, 5, 6, 30, 31, 32] [] ?_
       refine RefR.evC (vs := [inb u730.2 a0.length]) (st' := ⟨[(0, .c (E43.tree a0)), sI 1 a1, sI 6 u730.2, sI 30 (IntKind.i64.wrap (u730.1 + 1)), (35, .c (E27.tree ((a0.getD (u730.2 : Int).toNat default).fExprs))), sI 38 (IntKind.i64.wrap (a1 - u730.1))], [], [], 0⟩) 4 6 10 [0, 1, 6, 30, 35, 38] [] rfl (by kernel_rfl) ?_
       refine RefR.letC (stf := fun x1007 => ⟨[(0, .c (E43.tree a0)), sI 1 a1, sI 6 u730.2, sI 30 (IntKind.i64.wrap (u730.1 + 1)), (35, .c (E27.tree x1007)), sI 38 (IntKind.i64.wrap (a1 - u730.1))], [], [], 0⟩) (by kernel_rfl) (fun x1007 => ?_)
       refine RefR.callC (t := 39) 10 11 [] rfl (by kernel_rfl) (F17_ok K x1007 (IntKind.i64.wrap (a1 - u730.1))) (fun r1008 => ?_)
       refine RefR.e0 (st' := ⟨[(0, .c (E43.tree a0)), sI 1 a1, sI 5 (IntKind.i64.wrap ((IntKind.i64.wrap (u730.1 + 1)) + r1008)), sI 6 u730.2], [], [], 0⟩) 11 2 13 [0, 1, 5, 6] [] ?_
       refine RefR.letC (stf := fun x1009 => ⟨[(0, .c (E43.tree a0)), sI 1 a1, sI 5 x1009, sI 6 u730.2], [], [], 0⟩) (by kernel_rfl) (fun x1009 => ?_)
       refine RefR.nl 13 ?_
       refine Ref.sq ?_
       refine Ref.sq ?_
       refine Ref.rn 8 ?_
       refine RefR.e0 (st' := ⟨[(0, .c (E43.tree a0)), sI 1 a1, sI 5 x1009, sI 6 u730.2, sI 7 0], [], [], 0⟩) 0 1 1 [0, 1, 5, 6, 7] [] ?_
       refine RefR.nl 1 ?_
       refine Ref.codeEq (c' := .block 2 (cd (bd Tryd.f16) [1, 1, 0, 1, 0, 0, 1, 0, 0, 1, 1, 0, 1, 0])) (by kernel_rfl) ?_
       refine Ref.block (go1 := fun u1025 => ⟨[(0, .c (E43.tree a0)), sI 1 a1, sI 5 u1025, sI 6 u730.2], [], [], 0⟩) ?_ (fun a => match a with | .inl _ => (fun h => by cases h) | .inr (.inl _) => (fun h => by cases h) | .inr (.inr _) => (fun h => by cases h)) (fun u1025 => ?_)
       ·
        refine Ref.codeEq (c' := .loop (cd (bd Tryd.f16) [1, 1, 0, 1, 0, 0, 1, 0, 0, 1, 1, 0, 1, 0, 0])) (by kernel_rfl) ?_
        refine Ref.loop (hd := fun u1031 => ⟨[(0, .c (E43.tree a0)), sI 1 a1, sI 5 u1031.1, sI 6 u730.2, sI 7 u1031.2], [], [], 0⟩) K (x1009, 0) (by kernel_rfl) (fun u1031 => ?_)
        refine Ref.sq ?_
        refine Ref.sq ?_
        refine Ref.rn 9 ?_
        refine RefR.e0 (st' := ⟨[(0, .c (E43.tree a0)), sI 1 a1, sI 5 u1031.1, sI 6 u730.2, sI 7 u1031.2, sI 41 u1031.2, (42, .c (E43.tree a0)), sI 43 u730.2], [], [], 0⟩) 0 3 3 [0, 1, 5, 6, 7, 41, 42, 43] [] ?_
        refine RefR.evC (vs := [inb u730.2 a0.length]) (st' := ⟨[(0, .c (E43.tree a0)), sI 1 a1, sI 5 u1031.1, sI 6 u730.2, sI 7 u1031.2, sB 53 ((decide ((u1031.2 : Int) < (Int.ofNat ((a0.getD (u730.2 : Int).toNat default).fLabels).length))) && (decide ((u1031.1 : Int) ≤ a1)))], [], [], 0⟩) 3 10 13 [0, 1, 5, 6, 7, 53] [] rfl (by kernel_rfl) ?_
        refine RefR.letC (stf := fun x1037 => ⟨[(0, .c (E43.tree a0)), sI 1 a1, sI 5 u1031.1, sI 6 u730.2, sI 7 u1031.2, sB 53 x1037], [], [], 0⟩) (by kernel_rfl) (fun x1037 => ?_)
        refine RefR.nl 13 ?_
        refine Ref.cn (.tmp 53) x1037 (fun hc => ?_) (fun hc => ?_)
        ·
         refine Ref.sk ?_
         refine Ref.sq ?_
         refine Ref.codeEq (c' := .block 3 (cd (bd Tryd.f16) [1, 1, 0, 1, 0, 0, 1, 0, 0, 1, 1, 0, 1, 0, 0, 1, 0, 0])) (by kernel_rfl) ?_
         refine Ref.block (go1 := fun u1039 => ⟨[(0, .c (E43.tree a0)), sI 1 a1, sI 5 u1039, sI 6 u730.2, sI 7 u1031.2], [], [], 0⟩) ?_ (fun a => match a with | .inl _ => (fun h => by cases h) | .inr (.inl _) => (fun h => by cases h) | .inr (.inr (.inl _)) => (fun h => by cases h) | .inr (.inr (.inr _)) => (fun h => by cases h)) (fun u1039 => ?_)
         ·
          refine Ref.rn 11 ?_
          refine RefR.e0 (st' := ⟨[(0, .c (E43.tree a0)), sI 1 a1, sI 6 u730.2, sI 7 u1031.2, sI 57 (IntKind.i64.wrap (u1031.1 + 1)), (58, .c (E43.tree a0)), sI 59 u730.2], [], [], 0⟩) 0 4 4 [0, 1, 6, 7, 57, 58, 59] [] ?_
          refine RefR.evC (vs := [inb u730.2 a0.length, inb u1031.2 ((a0.getD (u730.2 : Int).toNat default).fLabels).length]) (st' := ⟨[(0, .c (E43.tree a0)), sI 1 a1, sI 5 (IntKind.i64.wrap ((IntKind.i64.wrap (u1031.1 + 1)) + (Int.ofNat (((a0.getD (u730.2 : Int).toNat default).fLabels).getD (u1031.2 : Int).toNat default).length))), sI 6 u730.2, sI 7 u1031.2], [], [], 0⟩) 4 9 13 [0, 1, 5, 6, 7] [] rfl (by kernel_rfl) ?_
          refine RefR.letC (stf := fun x1040 => ⟨[(0, .c (E43.tree a0)), sI 1 a1, sI 5 x1040, sI 6 u730.2, sI 7 u1031.2], [], [], 0⟩) (by kernel_rfl) (fun x1040 => ?_)
          refine RefR.nl 13 ?_
          exact Ref.n0 (t := (x1040))
         ·
          refine Ref.rn 10 ?_
          refine RefR.e0 (st' := ⟨[(0, .c (E43.tree a0)), sI 1 a1, sI 5 u1039, sI 6 u730.2, sI 7 (IntKind.i64.wrap (u1031.2 + 1))], [], [], 0⟩) 0 3 3 [0, 1, 5, 6, 7] [] ?_
          refine RefR.nl 3 ?_
          exact Ref.n0 (t := (u1039, (IntKind.i64.wrap (u1031.2 + 1))))
        ·
         refine Ref.conv (Conv.keep (st' := ⟨[(0, .c (E43.tree a0)), sI 1 a1, sI 5 u1031.1, sI 6 u730.2], [], [], 0⟩) [0, 1, 5, 6] [] (by kernel_rfl)) ?_
         exact Ref.xt 2 (t := (Sum.inl (u1031.1)))
       ·
        refine Ref.sq ?_
        refine Ref.rn 12 ?_
        refine RefR.e0 (st' := ⟨[(0, .c (E43.tree a0)), sI 1 a1, sI 5 u1025, sI 6 u730.2, sI 8 0], [], [], 0⟩) 0 1 1 [0, 1, 5, 6, 8] [] ?_
        refine RefR.nl 1 ?_
        refine Ref.codeEq (c' := .block 4 (cd (bd Tryd.f16) [1, 1, 0, 1, 0, 0, 1, 0, 0, 1, 1, 1, 1, 0])) (by kernel_rfl) ?_
        refine Ref.block (go1 := fun u1068 => ⟨[(0, .c (E43.tree a0)), sI 1 a1, sI 5 u1068, sI 6 u730.2], [], [], 0⟩) ?_ (fun a => match a with | .inl _ => (fun h => by cases h) | .inr (.inl _) => (fun h => by cases h) | .inr (.inr _) => (fun h => by cases h)) (fun u1068 => ?_)
        ·
         refine Ref.codeEq (c' := .loop (cd (bd Tryd.f16) [1, 1, 0, 1, 0, 0, 1, 0, 0, 1, 1, 1, 1, 0, 0])) (by kernel_rfl) ?_
         refine Ref.loop (hd := fun u1078 => ⟨[(0, .c (E43.tree a0)), sI 1 a1, sI 5 u1078.1, sI 6 u730.2, sI 8 u1078.2], [], [], 0⟩) K (u1025, 0) (by kernel_rfl) (fun u1078 => ?_)
         refine Ref.sq ?_
         refine Ref.sq ?_
         refine Ref.rn 13 ?_
         refine RefR.e0 (st' := ⟨[(0, .c (E43.tree a0)), sI 1 a1, sI 5 u1078.1, sI 6 u730.2, sI 8 u1078.2, sI 68 u1078.2, (69, .c (E43.tree a0)), sI 70 u730.2], [], [], 0⟩) 0 3 3 [0, 1, 5, 6, 8, 68, 69, 70] [] ?_
         refine RefR.evC (vs := [inb u730.2 a0.length]) (st' := ⟨[(0, .c (E43.tree a0)), sI 1 a1, sI 5 u1078.1, sI 6 u730.2, sI 8 u1078.2, sB 80 ((decide ((u1078.2 : Int) < (Int.ofNat ((a0.getD (u730.2 : Int).toNat default).fBlocks).length))) && (decide ((u1078.1 : Int) ≤ a1)))], [], [], 0⟩) 3 10 13 [0, 1, 5, 6, 8, 80] [] rfl (by kernel_rfl) ?_
         refine RefR.letC (stf := fun x1088 => ⟨[(0, .c (E43.tree a0)), sI 1 a1, sI 5 u1078.1, sI 6 u730.2, sI 8 u1078.2, sB 80 x1088], [], [], 0⟩) (by kernel_rfl) (fun x1088 => ?_)
         refine RefR.nl 13 ?_
         refine Ref.cn (.tmp 80) x1088 (fun hc => ?_) (fun hc => ?_)
         ·
          refine Ref.sk ?_
          refine Ref.sq ?_
          refine Ref.codeEq (c' := .block 5 (cd (bd Tryd.f16) [1, 1, 0, 1, 0, 0, 1, 0, 0, 1, 1, 1, 1, 0, 0, 1, 0, 0])) (by kernel_rfl) ?_
          refine Ref.block (go1 := fun u1092 => ⟨[(0, .c (E43.tree a0)), sI 1 a1, sI 5 u1092, sI 6 u730.2, sI 8 u1078.2], [], [], 0⟩) ?_ (fun a => match a with | .inl _ => (fun h => by cases h) | .inr (.inl _) => (fun h => by cases h) | .inr (.inr (.inl _)) => (fun h => by cases h) | .inr (.inr (.inr _)) => (fun h => by cases h)) (fun u1092 => ?_)
          ·
           refine Ref.rn 15 ?_
           refine RefR.e0 (st' := ⟨[(0, .c (E43.tree a0)), sI 1 a1, sI 5 u1078.1, sI 6 u730.2, sI 8 u1078.2, sI 84 (IntKind.i64.wrap (u1078.1 + 1)), (85, .c (E43.tree a0)), sI 86 u730.2], [], [], 0⟩) 0 4 4 [0, 1, 5, 6, 8, 84, 85, 86] [] ?_
           refine RefR.evC (vs := [inb u730.2 a0.length]) (st' := ⟨[(0, .c (E43.tree a0)), sI 1 a1, sI 5 u1078.1, sI 6 u730.2, sI 8 u1078.2, sI 84 (IntKind.i64.wrap (u1078.1 + 1)), (89, .c (NTT43 ((a0.getD (u730.2 : Int).toNat default).fBlocks))), sI 90 u1078.2], [], [], 0⟩) 4 4 8 [0, 1, 5, 6, 8, 84, 89, 90] [] rfl (by kernel_rfl) ?_
           refine RefR.conv (Conv.slot 89 (.c (E44.tree ((a0.getD (u730.2 : Int).toNat default).fBlocks))) (DLe.c (NTT43_le _)) (by kernel_rfl)) ?_
           refine RefR.letC (stf := fun x1093 => ⟨[(89, .c (E44.tree x1093)), (0, .c (E43.tree a0)), sI 1 a1, sI 5 u1078.1, sI 6 u730.2, sI 8 u1078.2, sI 84 (IntKind.i64.wrap (u1078.1 + 1)), sI 90 u1078.2], [], [], 0⟩) (by kernel_rfl) (fun x1093 => ?_)
           refine RefR.evC (vs := [inb u1078.2 x1093.length]) (st' := ⟨[(0, .c (E43.tree a0)), sI 1 a1, sI 6 u730.2, sI 8 u1078.2, sI 84 (IntKind.i64.wrap (u1078.1 + 1)), (92, .c (E43.tree (x1093.getD (u1078.2 : Int).toNat default))), sI 95 (IntKind.i64.wrap (a1 - u1078.1))], [], [], 0⟩) 8 5 13 [0, 1, 6, 8, 84, 92, 95] [] rfl (by kernel_rfl) ?_
           refine RefR.callC (t := 96) 13 14 [] rfl (by kernel_rfl) (ih16 (x1093.getD (u1078.2 : Int).toNat default) (IntKind.i64.wrap (a1 - u1078.1))) (fun r1094 => ?_)
           refine RefR.e0 (st' := ⟨[(0, .c (E43.tree a0)), sI 1 a1, sI 5 (IntKind.i64.wrap ((IntKind.i64.wrap (u1078.1 + 1)) + r1094)), sI 6 u730.2, sI 8 u1078.2], [], [], 0⟩) 14 2 16 [0, 1, 5, 6, 8] [] ?_
           refine RefR.letC (stf := fun x1095 => ⟨[(0, .c (E43.tree a0)), sI 1 a1, sI 5 x1095, sI 6 u730.2, sI 8 u1078.2], [], [], 0⟩) (by kernel_rfl) (fun x1095 => ?_)
           refine RefR.nl 16 ?_
           exact Ref.n0 (t := (x1095))
          ·
           refine Ref.rn 14 ?_
           refine RefR.e0 (st' := ⟨[(0, .c (E43.tree a0)), sI 1 a1, sI 5 u1092, sI 6 u730.2, sI 8 (IntKind.i64.wrap (u1078.2 + 1))], [], [], 0⟩) 0 3 3 [0, 1, 5, 6, 8] [] ?_
           refine RefR.nl 3 ?_
           exact Ref.n0 (t := (u1092, (IntKind.i64.wrap (u1078.2 + 1))))
         ·
          refine Ref.conv (Conv.keep (st' := ⟨[(0, .c (E43.tree a0)), sI 1 a1, sI 5 u1078.1, sI 6 u730.2], [], [], 0⟩) [0, 1, 5, 6] [] (by kernel_rfl)) ?_
          exact Ref.xt 4 (t := (Sum.inl (u1078.1)))
        ·
         exact Ref.n0 (t := (u1068))
     ·
      refine Ref.rn 4 ?_
      refine RefR.e0 (st' := ⟨[(0, .c (E43.tree a0)), sI 1 a1, sI 5 u1005, sI 6 (IntKind.i64.wrap (u730.2 + 1))], [], [], 0⟩) 0 3 3 [0, 1, 5, 6] [] ?_
      refine RefR.nl 3 ?_
      exact Ref.n0 (t := (u1005, (IntKind.i64.wrap (u730.2 + 1))))
    ·
     refine Ref.conv (Conv.keep (st' := ⟨[sI 5 u730.1], [], [], 0⟩) [5] [] (by kernel_rfl)) ?_
     exact Ref.xt 0 (t := (Sum.inl (u730.1)))
   ·
    refine Ref.sq ?_
    refine Ref.rn 16 ?_
    refine RefR.e0 (st' := ⟨[sI 4 u548], [], [], 0⟩) 0 2 2 [4] [] ?_
    refine RefR.nl 2 ?_
    exact Ref.rt (t := (u548))

theorem F16_ok (K : Nat) (a0 : (List S43)) (a1 : Int) : DFun Tryd.prog 16 [.c (E43.tree a0), .c (.val (.int .i64 a1))] [] (fnS (F16 K a0 a1)) (fun r => .c (.val (.int .i64 r))) (fun r => []) := (G16_ok K) a0 a1

/-- governor/governorlaw0.GreatUnit -/
def F5 (K : Nat) (a0 : S24) (a1 : Int) : Option ((Bool) ⊕ (Bool)) :=
 (bindS (blockS ((iter K (fun (u1118 : Int × Int) => (letV (((decide ((u1118.2 : Int) < (Int.ofNat a0.fDecls.length))) && (decide (((Int.ofNat a0.fDecls.length) : Int) ≤ 16))) && (decide ((u1118.1 : Int) ≤ a1))) (fun (x1398 : Bool) => (if x1398 = true then (bindS (blockS (chk [inb u1118.2 a0.fDecls.length] (letV ((decide (((Int.ofNat ((a0.fDecls.getD (u1118.2 : Int).toNat default).fName).length) : Int) > 60)) || (decide (((Int.ofNat ((a0.fDecls.getD (u1118.2 : Int).toNat default).fBase).length) : Int) > 60))) (fun (x1538 : Bool) => ((condM (!x1538) (fnS (F14 K ((a0.fDecls.getD (u1118.2 : Int).toNat default).fFaces) 8 60)) default).bind (fun r1539 => (if (x1538 || r1539) = true then (some (.inl (Sum.inr (Sum.inr (true))))) else (letV ((a0.fDecls.getD (u1118.2 : Int).toNat default).fVars) (fun (x1540 : (List S38)) => (letV ((a0.fDecls.getD (u1118.2 : Int).toNat default).fBody) (fun (x1541 : (List S43)) => ((condM true (fnS (F15 K x1540 a1)) default).bind (fun r1542 => (letV (IntKind.i64.wrap ((IntKind.i64.wrap (u1118.1 + 1)) + r1542)) (fun (x1543 : Int) => ((condM true (fnS (F16 K x1541 (IntKind.i64.wrap (a1 - u1118.1)))) default).bind (fun r1544 => (bindS (blockS ((iter K (fun (u1634 : Int × Int) => (letV ((decide ((u1634.2 : Int) < (Int.ofNat ((a0.fDecls.getD (u1118.2 : Int).toNat default).fMethods).length))) && (decide ((u1634.1 : Int) ≤ a1))) (fun (x1656 : Bool) => (if x1656 = true then (bindS (blockS (chk [inb u1634.2 ((a0.fDecls.getD (u1118.2 : Int).toNat default).fMethods).length] (letV ((decide (((Int.ofNat ((((a0.fDecls.getD (u1118.2 : Int).toNat default).fMethods).getD (u1634.2 : Int).toNat default).fName).length) : Int) > 60)) || (decide (((Int.ofNat (((((a0.fDecls.getD (u1118.2 : Int).toNat default).fMethods).getD (u1634.2 : Int).toNat default).fResult).fName).length) : Int) > 60))) (fun (x1667 : Bool) => (if x1667 = true then (some (.inl (Sum.inr (Sum.inr (Sum.inr (Sum.inr (true))))))) else (letV ((((a0.fDecls.getD (u1118.2 : Int).toNat default).fMethods).getD (u1634.2 : Int).toNat default).fParams) (fun (x1668 : (List S38)) => (letV ((((a0.fDecls.getD (u1118.2 : Int).toNat default).fMethods).getD (u1634.2 : Int).toNat default).fVars) (fun (x1669 : (List S38)) => (letV ((((a0.fDecls.getD (u1118.2 : Int).toNat default).fMethods).getD (u1634.2 : Int).toNat default).fBody) (fun (x1670 : (List S43)) => ((condM true (fnS (F15 K x1668 a1)) default).bind (fun r1671 => (letV (IntKind.i64.wrap ((IntKind.i64.wrap (u1634.1 + 1)) + r1671)) (fun (x1672 : Int) => ((condM true (fnS (F15 K x1669 a1)) default).bind (fun r1673 => ((condM true (fnS (F16 K x1670 (IntKind.i64.wrap (a1 - u1634.1)))) default).bind (fun r1674 => (letV (IntKind.i64.wrap ((IntKind.i64.wrap (x1672 + r1673)) + r1674)) (fun (x1675 : Int) => (some (.inr (x1675)))))))))))))))))))))))) (fun (u1666 : Int) => (some (.inr (u1666, (IntKind.i64.wrap (u1634.2 + 1))))))) else (some (.inl (Sum.inl (u1634.1)))))))) ((IntKind.i64.wrap (x1543 + r1544)), 0)).map .inl)) (fun (u1610 : Int) => (some (.inr (u1610)))))))))))))))))))))) (fun (u1537 : Int) => (some (.inr (u1537, (IntKind.i64.wrap (u1118.2 + 1))))))) else (some (.inl (Sum.inl (u1118.1)))))))) (0, 0)).map .inl)) (fun (u838 : Int) => (letV ((decide ((u838 : Int) > a1)) || (decide (((Int.ofNat a0.fDecls.length) : Int) > 16))) (fun (x1676 : Bool) => (some (.inl (x1676)))))))

theorem F5_ok (K : Nat) (a0 : S24) (a1 : Int) : DFun Tryd.prog 5 [.agg (E24.cs a0), .c (.val (.int .i64 a1))] [] (fnS (F5 K a0 a1)) (fun r => .c (.val (.bool r))) (fun r => []) := by
 refine DFun.intro (fn := Tryd.f5) (c := cd (bd Tryd.f5) []) (rs := fun r => ⟨[sB 4 r], [], [], 0⟩) (by kernel_rfl) (by kernel_rfl) (by kernel_rfl) ?_ (fun r => by kernel_rfl) (fun r => by kernel_rfl) (fun r => by kernel_rfl) (fun r => by kernel_rfl)
 unfold F5
 refine Ref.sq ?_
 refine Ref.rn 0 ?_
 refine RefR.e0 (st' := ⟨[sI 1 a1, sP 2 0 0 0], [.cells (E24.cs a0)], [], 0⟩) 0 2 2 [1, 2] [0] ?_
 refine RefR.nl 2 ?_
 refine Ref.sq ?_
 refine Ref.rn 1 ?_
 refine RefR.e0 (st' := ⟨[sI 1 a1, sP 2 0 0 0, sI 5 0], [.cells (E24.cs a0)], [], 0⟩) 0 1 1 [1, 2, 5] [0] ?_
 refine RefR.nl 1 ?_
 refine Ref.sq ?_
 refine Ref.sq ?_
 refine Ref.rn 2 ?_
 refine RefR.e0 (st' := ⟨[sI 1 a1, sP 2 0 0 0, sI 5 0, sI 6 0], [.cells (E24.cs a0)], [], 0⟩) 0 1 1 [1, 2, 5, 6] [0] ?_
 refine RefR.nl 1 ?_
 refine Ref.codeEq (c' := .block 0 (cd (bd Tryd.f5) [1, 1, 0, 1, 0])) (by kernel_rfl) ?_
 refine Ref.block (go1 := fun u838 => ⟨[sI 1 a1, sP 2 0 0 0, sI 5 u838], [.cells (E24.cs a0)], [], 0⟩) ?_ (fun _ h => by cases h) (fun u838 => ?_)
 ·
  refine Ref.codeEq (c' := .loop (cd (bd Tryd.f5) [1, 1, 0, 1, 0, 0])) (by kernel_rfl) ?_
  refine Ref.loop (hd := fun u1118 => ⟨[sI 1 a1, sP 2 0 0 0, sI 5 u1118.1, sI 6 u1118.2], [.cells (E24.cs a0)], [], 0⟩) K (0, 0) (by kernel_rfl) (fun u1118 => ?_)
  refine Ref.sq ?_
  refine Ref.sq ?_
  refine Ref.rn 3 ?_
  refine RefR.e0 (st' := ⟨[sI 1 a1, sP 2 0 0 0, sI 5 u1118.1, sI 6 u1118.2, sB 25 (((decide ((u1118.2 : Int) < (Int.ofNat a0.fDecls.length))) && (decide (((Int.ofNat a0.fDecls.length) : Int) ≤ 16))) && (decide ((u1118.1 : Int) ≤ a1)))], [.cells (E24.cs a0)], [], 0⟩) 0 16 16 [1, 2, 5, 6, 25] [0] ?_
  refine RefR.letC (stf := fun x1398 => ⟨[sI 1 a1, sP 2 0 0 0, sI 5 u1118.1, sI 6 u1118.2, sB 25 x1398], [.cells (E24.cs a0)], [], 0⟩) (by kernel_rfl) (fun x1398 => ?_)
  refine RefR.nl 16 ?_
  refine Ref.cn (.tmp 25) x1398 (fun hc => ?_) (fun hc => ?_)
  ·
   refine Ref.sk ?_
   refine Ref.sq ?_
   refine Ref.codeEq (c' := .block 1 (cd (bd Tryd.f5) [1, 1, 0, 1, 0, 0, 1, 0, 0])) (by kernel_rfl) ?_
   refine Ref.block (go1 := fun u1537 => ⟨[sI 1 a1, sP 2 0 0 0, sI 5 u1537, sI 6 u1118.2], [.cells (E24.cs a0)], [], 0⟩) ?_ (fun a => match a with | .inl _ => (fun h => by cases h) | .inr _ => (fun h => by cases h)) (fun u1537 => ?_)
   ·
    refine Ref.sq ?_
    refine Ref.rn 5 ?_
    refine RefR.evC (vs := [inb u1118.2 a0.fDecls.length]) (st' := ⟨[sI 1 a1, sP 2 0 0 0, sI 5 u1118.1, sI 6 u1118.2, sP 7 1 0 0], [.cells (E24.cs a0), .cells (E48.cs (a0.fDecls.getD (u1118.2 : Int).toNat default))], [], 0⟩) 0 7 7 [1, 2, 5, 6, 7] [0, 1] rfl (by kernel_rfl) ?_
    refine RefR.nl 7 ?_
    refine Ref.sq ?_
    refine Ref.sq ?_
    refine Ref.rn 6 ?_
    refine RefR.e0 (st' := ⟨[sI 1 a1, sP 2 0 0 0, sI 5 u1118.1, sI 6 u1118.2, sP 7 1 0 0, sB 43 ((decide (((Int.ofNat ((a0.fDecls.getD (u1118.2 : Int).toNat default).fName).length) : Int) > 60)) || (decide (((Int.ofNat ((a0.fDecls.getD (u1118.2 : Int).toNat default).fBase).length) : Int) > 60))), (45, .c (E9.tree ((a0.fDecls.getD (u1118.2 : Int).toNat default).fFaces)))], [.cells (E24.cs a0), .cells (E48.cs (a0.fDecls.getD (u1118.2 : Int).toNat default))], [(45, [(43, false)])], 0⟩) 0 13 13 [1, 2, 5, 6, 7, 43, 45] [0, 1] ?_
    refine RefR.letC (stf := fun x1538 => ⟨[sI 1 a1, sP 2 0 0 0, sI 5 u1118.1, sI 6 u1118.2, sP 7 1 0 0, sB 43 x1538, (45, .c (E9.tree ((a0.fDecls.getD (u1118.2 : Int).toNat default).fFaces)))], [.cells (E24.cs a0), .cells (E48.cs (a0.fDecls.getD (u1118.2 : Int).toNat default))], [(45, [(43, false)])], 0⟩) (by kernel_rfl) (fun x1538 => ?_)
    refine RefR.lookC (t := 46) (g := [(43, false)]) (b := (!x1538)) 13 14 [] (default : Bool) rfl (by kernel_rfl) (F14_ok K ((a0.fDecls.getD (u1118.2 : Int).toNat default).fFaces) 8 60) (fun _ => rfl) (fun r1539 => ?_)
    refine RefR.e0 (st' := ⟨[sI 1 a1, sP 2 0 0 0, sI 5 u1118.1, sI 6 u1118.2, sP 7 1 0 0, sB 47 (x1538 || r1539)], [.cells (E24.cs a0), .cells (E48.cs (a0.fDecls.getD (u1118.2 : Int).toNat default))], [], 0⟩) 14 1 15 [1, 2, 5, 6, 7, 47] [0, 1] ?_
    refine RefR.nl 15 ?_
    refine Ref.cn (.tmp 47) (x1538 || r1539) (fun hc => ?_) (fun hc => ?_)
    ·
     refine Ref.sq ?_
     refine Ref.rn 7 ?_
     refine RefR.e0 (st' := ⟨[sB 4 true], [], [], 0⟩) 0 1 1 [4] [] ?_
     refine RefR.nl 1 ?_
     exact Ref.rt (t := (Sum.inr (Sum.inr (true))))
    ·
     refine Ref.sk ?_
     refine Ref.sq ?_
     refine Ref.drawnY 8 (by kernel_rfl) (by kernel_rfl) ?_
     refine RefY.evC0 (st' := ⟨[sI 1 a1, sP 2 0 0 0, sI 6 u1118.2, sP 7 1 0 0, sI 49 (IntKind.i64.wrap (u1118.1 + 1)), sP 50 1 0 6, sI 52 a1, sP 55 1 0 8, sI 59 (IntKind.i64.wrap (a1 - u1118.1))], [.cells (E24.cs a0), .cells (E48.cs (a0.fDecls.getD (u1118.2 : Int).toNat default))], [], 0⟩) (fuel' := 7) [0, 1, 2, 4, 7, 9, 10, 11] [1, 2, 6, 7, 49, 50, 52, 55, 59] [0, 1] rfl (by kernel_rfl) (by kernel_rfl) ?_
     refine RefY.toX [] ?_
     refine RefX.evC0 (st' := ⟨[sI 1 a1, sP 2 0 0 0, sI 6 u1118.2, sP 7 1 0 0, sI 49 (IntKind.i64.wrap (u1118.1 + 1)), (51, .c (E38.tree ((a0.fDecls.getD (u1118.2 : Int).toNat default).fVars))), sI 52 a1, (56, .c (E43.tree ((a0.fDecls.getD (u1118.2 : Int).toNat default).fBody))), sI 59 (IntKind.i64.wrap (a1 - u1118.1))], [.cells (E24.cs a0), .cells (E48.cs (a0.fDecls.getD (u1118.2 : Int).toNat default))], [], 0⟩) (fuel' := 5) [3, 8] [1, 2, 6, 7, 49, 51, 52, 56, 59] [0, 1] rfl (by kernel_rfl) (by kernel_rfl) ?_
     refine RefX.letC (stf := fun x1540 => ⟨[sI 1 a1, sP 2 0 0 0, sI 6 u1118.2, sP 7 1 0 0, sI 49 (IntKind.i64.wrap (u1118.1 + 1)), (51, .c (E38.tree x1540)), sI 52 a1, (56, .c (E43.tree ((a0.fDecls.getD (u1118.2 : Int).toNat default).fBody))), sI 59 (IntKind.i64.wrap (a1 - u1118.1))], [.cells (E24.cs a0), .cells (E48.cs (a0.fDecls.getD (u1118.2 : Int).toNat default))], [], 0⟩) (by kernel_rfl) (fun x1540 => ?_)
     refine RefX.letC (stf := fun x1541 => ⟨[sI 1 a1, sP 2 0 0 0, sI 6 u1118.2, sP 7 1 0 0, sI 49 (IntKind.i64.wrap (u1118.1 + 1)), (51, .c (E38.tree x1540)), sI 52 a1, (56, .c (E43.tree x1541)), sI 59 (IntKind.i64.wrap (a1 - u1118.1))], [.cells (E24.cs a0), .cells (E48.cs (a0.fDecls.getD (u1118.2 : Int).toNat default))], [], 0⟩) (by kernel_rfl) (fun x1541 => ?_)
     refine RefX.lookC (t := 53) (g := []) (b := true) (fuel' := 4) 5 [] (default : Int) rfl (by kernel_rfl) (by kernel_rfl) (F15_ok K x1540 a1) (fun _ => rfl) (fun r1542 => ?_)
     refine RefX.evC0 (st' := ⟨[sI 1 a1, sP 2 0 0 0, sI 6 u1118.2, sP 7 1 0 0, sI 54 (IntKind.i64.wrap ((IntKind.i64.wrap (u1118.1 + 1)) + r1542)), (56, .c (E43.tree x1541)), sI 59 (IntKind.i64.wrap (a1 - u1118.1))], [.cells (E24.cs a0), .cells (E48.cs (a0.fDecls.getD (u1118.2 : Int).toNat default))], [], 0⟩) (fuel' := 3) [6] [1, 2, 6, 7, 54, 56, 59] [0, 1] rfl (by kernel_rfl) (by kernel_rfl) ?_
     refine RefX.letC (stf := fun x1543 => ⟨[sI 1 a1, sP 2 0 0 0, sI 6 u1118.2, sP 7 1 0 0, sI 54 x1543, (56, .c (E43.tree x1541)), sI 59 (IntKind.i64.wrap (a1 - u1118.1))], [.cells (E24.cs a0), .cells (E48.cs (a0.fDecls.getD (u1118.2 : Int).toNat default))], [], 0⟩) (by kernel_rfl) (fun x1543 => ?_)
     refine RefX.lookC (t := 60) (g := []) (b := true) (fuel' := 2) 12 [] (default : Int) rfl (by kernel_rfl) (by kernel_rfl) (F16_ok K x1541 (IntKind.i64.wrap (a1 - u1118.1))) (fun _ => rfl) (fun r1544 => ?_)
     refine RefX.evC0 (st' := ⟨[sI 1 a1, sP 2 0 0 0, sI 5 (IntKind.i64.wrap (x1543 + r1544)), sI 6 u1118.2, sP 7 1 0 0], [.cells (E24.cs a0), .cells (E48.cs (a0.fDecls.getD (u1118.2 : Int).toNat default))], [], 0⟩) (fuel' := 0) [13, 14] [1, 2, 5, 6, 7] [0, 1] rfl (by kernel_rfl) (by kernel_rfl) ?_
     refine RefX.done (by kernel_rfl) ?_
     refine Ref.sq ?_
     refine Ref.rn 9 ?_
     refine RefR.e0 (st' := ⟨[sI 1 a1, sP 2 0 0 0, sI 5 (IntKind.i64.wrap (x1543 + r1544)), sI 6 u1118.2, sP 7 1 0 0, sI 8 0], [.cells (E24.cs a0), .cells (E48.cs (a0.fDecls.getD (u1118.2 : Int).toNat default))], [], 0⟩) 0 1 1 [1, 2, 5, 6, 7, 8] [0, 1] ?_
     refine RefR.nl 1 ?_
     refine Ref.codeEq (c' := .block 2 (cd (bd Tryd.f5) [1, 1, 0, 1, 0, 0, 1, 0, 0, 1, 1, 1, 1, 0])) (by kernel_rfl) ?_
     refine Ref.block (go1 := fun u1610 => ⟨[sI 1 a1, sP 2 0 0 0, sI 5 u1610, sI 6 u1118.2], [.cells (E24.cs a0)], [], 0⟩) ?_ (fun a => match a with | .inl _ => (fun h => by cases h) | .inr (.inl _) => (fun h => by cases h) | .inr (.inr _) => (fun h => by cases h)) (fun u1610 => ?_)
     ·
      refine Ref.codeEq (c' := .loop (cd (bd Tryd.f5) [1, 1, 0, 1, 0, 0, 1, 0, 0, 1, 1, 1, 1, 0, 0])) (by kernel_rfl) ?_
      refine Ref.loop (hd := fun u1634 => ⟨[sI 1 a1, sP 2 0 0 0, sI 5 u1634.1, sI 6 u1118.2, sP 7 1 0 0, sI 8 u1634.2], [.cells (E24.cs a0), .cells (E48.cs (a0.fDecls.getD (u1118.2 : Int).toNat default))], [], 0⟩) K ((IntKind.i64.wrap (x1543 + r1544)), 0) (by kernel_rfl) (fun u1634 => ?_)
      refine Ref.sq ?_
      refine Ref.sq ?_
      refine Ref.rn 10 ?_
      refine RefR.e0 (st' := ⟨[sI 1 a1, sP 2 0 0 0, sI 5 u1634.1, sI 6 u1118.2, sP 7 1 0 0, sI 8 u1634.2, sB 71 ((decide ((u1634.2 : Int) < (Int.ofNat ((a0.fDecls.getD (u1118.2 : Int).toNat default).fMethods).length))) && (decide ((u1634.1 : Int) ≤ a1)))], [.cells (E24.cs a0), .cells (E48.cs (a0.fDecls.getD (u1118.2 : Int).toNat default))], [], 0⟩) 0 10 10 [1, 2, 5, 6, 7, 8, 71] [0, 1] ?_
      refine RefR.letC (stf := fun x1656 => ⟨[sI 1 a1, sP 2 0 0 0, sI 5 u1634.1, sI 6 u1118.2, sP 7 1 0 0, sI 8 u1634.2, sB 71 x1656], [.cells (E24.cs a0), .cells (E48.cs (a0.fDecls.getD (u1118.2 : Int).toNat default))], [], 0⟩) (by kernel_rfl) (fun x1656 => ?_)
      refine RefR.nl 10 ?_
      refine Ref.cn (.tmp 71) x1656 (fun hc => ?_) (fun hc => ?_)
      ·
       refine Ref.sk ?_
       refine Ref.sq ?_
       refine Ref.codeEq (c' := .block 3 (cd (bd Tryd.f5) [1, 1, 0, 1, 0, 0, 1, 0, 0, 1, 1, 1, 1, 0, 0, 1, 0, 0])) (by kernel_rfl) ?_
       refine Ref.block (go1 := fun u1666 => ⟨[sI 1 a1, sP 2 0 0 0, sI 5 u1666, sI 6 u1118.2, sP 7 1 0 0, sI 8 u1634.2], [.cells (E24.cs a0), .cells (E48.cs (a0.fDecls.getD (u1118.2 : Int).toNat default))], [], 0⟩) ?_ (fun a => match a with | .inl _ => (fun h => by cases h) | .inr (.inl _) => (fun h => by cases h) | .inr (.inr (.inl _)) => (fun h => by cases h) | .inr (.inr (.inr _)) => (fun h => by cases h)) (fun u1666 => ?_)
       ·
        refine Ref.sq ?_
        refine Ref.rn 12 ?_
        refine RefR.evC (vs := [inb u1634.2 ((a0.fDecls.getD (u1118.2 : Int).toNat default).fMethods).length]) (st' := ⟨[sI 1 a1, sP 2 0 0 0, sI 5 u1634.1, sI 6 u1118.2, sP 7 1 0 0, sI 8 u1634.2, sP 9 2 0 0], [.cells (E24.cs a0), .cells (E48.cs (a0.fDecls.getD (u1118.2 : Int).toNat default)), .cells (E54.cs (((a0.fDecls.getD (u1118.2 : Int).toNat default).fMethods).getD (u1634.2 : Int).toNat default))], [], 0⟩) 0 7 7 [1, 2, 5, 6, 7, 8, 9] [0, 1, 2] rfl (by kernel_rfl) ?_
        refine RefR.nl 7 ?_
        refine Ref.sq ?_
        refine Ref.sq ?_
        refine Ref.rn 13 ?_
        refine RefR.e0 (st' := ⟨[sI 1 a1, sP 2 0 0 0, sI 5 u1634.1, sI 6 u1118.2, sP 7 1 0 0, sI 8 u1634.2, sP 9 2 0 0, sB 89 ((decide (((Int.ofNat ((((a0.fDecls.getD (u1118.2 : Int).toNat default).fMethods).getD (u1634.2 : Int).toNat default).fName).length) : Int) > 60)) || (decide (((Int.ofNat (((((a0.fDecls.getD (u1118.2 : Int).toNat default).fMethods).getD (u1634.2 : Int).toNat default).fResult).fName).length) : Int) > 60)))], [.cells (E24.cs a0), .cells (E48.cs (a0.fDecls.getD (u1118.2 : Int).toNat default)), .cells (E54.cs (((a0.fDecls.getD (u1118.2 : Int).toNat default).fMethods).getD (u1634.2 : Int).toNat default))], [], 0⟩) 0 11 11 [1, 2, 5, 6, 7, 8, 9, 89] [0, 1, 2] ?_
        refine RefR.letC (stf := fun x1667 => ⟨[sI 1 a1, sP 2 0 0 0, sI 5 u1634.1, sI 6 u1118.2, sP 7 1 0 0, sI 8 u1634.2, sP 9 2 0 0, sB 89 x1667], [.cells (E24.cs a0), .cells (E48.cs (a0.fDecls.getD (u1118.2 : Int).toNat default)), .cells (E54.cs (((a0.fDecls.getD (u1118.2 : Int).toNat default).fMethods).getD (u1634.2 : Int).toNat default))], [], 0⟩) (by kernel_rfl) (fun x1667 => ?_)
        refine RefR.nl 11 ?_
        refine Ref.cn (.tmp 89) x1667 (fun hc => ?_) (fun hc => ?_)
        ·
         refine Ref.sq ?_
         refine Ref.rn 14 ?_
         refine RefR.e0 (st' := ⟨[sB 4 true], [], [], 0⟩) 0 1 1 [4] [] ?_
         refine RefR.nl 1 ?_
         exact Ref.rt (t := (Sum.inr (Sum.inr (Sum.inr (Sum.inr (true))))))
        ·
         refine Ref.sk ?_
         refine Ref.drawnY 15 (by kernel_rfl) (by kernel_rfl) ?_
         refine RefY.evC0 (st' := ⟨[sI 1 a1, sP 2 0 0 0, sI 6 u1118.2, sP 7 1 0 0, sI 8 u1634.2, sI 91 (IntKind.i64.wrap (u1634.1 + 1)), sP 92 2 0 4, sI 94 a1, sP 97 2 0 9, sI 99 a1, sP 102 2 0 10, sI 106 (IntKind.i64.wrap (a1 - u1634.1))], [.cells (E24.cs a0), .cells (E48.cs (a0.fDecls.getD (u1118.2 : Int).toNat default)), .cells (E54.cs (((a0.fDecls.getD (u1118.2 : Int).toNat default).fMethods).getD (u1634.2 : Int).toNat default))], [], 0⟩) (fuel' := 10) [0, 1, 2, 4, 7, 9, 12, 14, 15, 16] [1, 2, 6, 7, 8, 91, 92, 94, 97, 99, 102, 106] [0, 1, 2] rfl (by kernel_rfl) (by kernel_rfl) ?_
         refine RefY.toX [] ?_
         refine RefX.evC0 (st' := ⟨[sI 1 a1, sP 2 0 0 0, sI 6 u1118.2, sP 7 1 0 0, sI 8 u1634.2, sI 91 (IntKind.i64.wrap (u1634.1 + 1)), (93, .c (E38.tree ((((a0.fDecls.getD (u1118.2 : Int).toNat default).fMethods).getD (u1634.2 : Int).toNat default).fParams))), sI 94 a1, (98, .c (E38.tree ((((a0.fDecls.getD (u1118.2 : Int).toNat default).fMethods).getD (u1634.2 : Int).toNat default).fVars))), sI 99 a1, (103, .c (E43.tree ((((a0.fDecls.getD (u1118.2 : Int).toNat default).fMethods).getD (u1634.2 : Int).toNat default).fBody))), sI 106 (IntKind.i64.wrap (a1 - u1634.1))], [.cells (E24.cs a0), .cells (E48.cs (a0.fDecls.getD (u1118.2 : Int).toNat default))], [], 0⟩) (fuel' := 7) [3, 8, 13] [1, 2, 6, 7, 8, 91, 93, 94, 98, 99, 103, 106] [0, 1] rfl (by kernel_rfl) (by kernel_rfl) ?_
         refine RefX.letC (stf := fun x1668 => ⟨[sI 1 a1, sP 2 0 0 0, sI 6 u1118.2, sP 7 1 0 0, sI 8 u1634.2, sI 91 (IntKind.i64.wrap (u1634.1 + 1)), (93, .c (E38.tree x1668)), sI 94 a1, (98, .c (E38.tree ((((a0.fDecls.getD (u1118.2 : Int).toNat default).fMethods).getD (u1634.2 : Int).toNat default).fVars))), sI 99 a1, (103, .c (E43.tree ((((a0.fDecls.getD (u1118.2 : Int).toNat default).fMethods).getD (u1634.2 : Int).toNat default).fBody))), sI 106 (IntKind.i64.wrap (a1 - u1634.1))], [.cells (E24.cs a0), .cells (E48.cs (a0.fDecls.getD (u1118.2 : Int).toNat default))], [], 0⟩) (by kernel_rfl) (fun x1668 => ?_)
         refine RefX.letC (stf := fun x1669 => ⟨[sI 1 a1, sP 2 0 0 0, sI 6 u1118.2, sP 7 1 0 0, sI 8 u1634.2, sI 91 (IntKind.i64.wrap (u1634.1 + 1)), (93, .c (E38.tree x1668)), sI 94 a1, (98, .c (E38.tree x1669)), sI 99 a1, (103, .c (E43.tree ((((a0.fDecls.getD (u1118.2 : Int).toNat default).fMethods).getD (u1634.2 : Int).toNat default).fBody))), sI 106 (IntKind.i64.wrap (a1 - u1634.1))], [.cells (E24.cs a0), .cells (E48.cs (a0.fDecls.getD (u1118.2 : Int).toNat default))], [], 0⟩) (by kernel_rfl) (fun x1669 => ?_)
         refine RefX.letC (stf := fun x1670 => ⟨[sI 1 a1, sP 2 0 0 0, sI 6 u1118.2, sP 7 1 0 0, sI 8 u1634.2, sI 91 (IntKind.i64.wrap (u1634.1 + 1)), (93, .c (E38.tree x1668)), sI 94 a1, (98, .c (E38.tree x1669)), sI 99 a1, (103, .c (E43.tree x1670)), sI 106 (IntKind.i64.wrap (a1 - u1634.1))], [.cells (E24.cs a0), .cells (E48.cs (a0.fDecls.getD (u1118.2 : Int).toNat default))], [], 0⟩) (by kernel_rfl) (fun x1670 => ?_)
         refine RefX.lookC (t := 95) (g := []) (b := true) (fuel' := 6) 5 [] (default : Int) rfl (by kernel_rfl) (by kernel_rfl) (F15_ok K x1668 a1) (fun _ => rfl) (fun r1671 => ?_)
         refine RefX.evC0 (st' := ⟨[sI 1 a1, sP 2 0 0 0, sI 6 u1118.2, sP 7 1 0 0, sI 8 u1634.2, sI 96 (IntKind.i64.wrap ((IntKind.i64.wrap (u1634.1 + 1)) + r1671)), (98, .c (E38.tree x1669)), sI 99 a1, (103, .c (E43.tree x1670)), sI 106 (IntKind.i64.wrap (a1 - u1634.1))], [.cells (E24.cs a0), .cells (E48.cs (a0.fDecls.getD (u1118.2 : Int).toNat default))], [], 0⟩) (fuel' := 5) [6] [1, 2, 6, 7, 8, 96, 98, 99, 103, 106] [0, 1] rfl (by kernel_rfl) (by kernel_rfl) ?_
         refine RefX.letC (stf := fun x1672 => ⟨[sI 1 a1, sP 2 0 0 0, sI 6 u1118.2, sP 7 1 0 0, sI 8 u1634.2, sI 96 x1672, (98, .c (E38.tree x1669)), sI 99 a1, (103, .c (E43.tree x1670)), sI 106 (IntKind.i64.wrap (a1 - u1634.1))], [.cells (E24.cs a0), .cells (E48.cs (a0.fDecls.getD (u1118.2 : Int).toNat default))], [], 0⟩) (by kernel_rfl) (fun x1672 => ?_)
         refine RefX.lookC (t := 100) (g := []) (b := true) (fuel' := 4) 10 [] (default : Int) rfl (by kernel_rfl) (by kernel_rfl) (F15_ok K x1669 a1) (fun _ => rfl) (fun r1673 => ?_)
         refine RefX.evC0 (st' := ⟨[sI 1 a1, sP 2 0 0 0, sI 6 u1118.2, sP 7 1 0 0, sI 8 u1634.2, sI 101 (IntKind.i64.wrap (x1672 + r1673)), (103, .c (E43.tree x1670)), sI 106 (IntKind.i64.wrap (a1 - u1634.1))], [.cells (E24.cs a0), .cells (E48.cs (a0.fDecls.getD (u1118.2 : Int).toNat default))], [], 0⟩) (fuel' := 3) [11] [1, 2, 6, 7, 8, 101, 103, 106] [0, 1] rfl (by kernel_rfl) (by kernel_rfl) ?_
         refine RefX.lookC (t := 107) (g := []) (b := true) (fuel' := 2) 17 [] (default : Int) rfl (by kernel_rfl) (by kernel_rfl) (F16_ok K x1670 (IntKind.i64.wrap (a1 - u1634.1))) (fun _ => rfl) (fun r1674 => ?_)
         refine RefX.evC0 (st' := ⟨[sI 1 a1, sP 2 0 0 0, sI 5 (IntKind.i64.wrap ((IntKind.i64.wrap (x1672 + r1673)) + r1674)), sI 6 u1118.2, sP 7 1 0 0, sI 8 u1634.2], [.cells (E24.cs a0), .cells (E48.cs (a0.fDecls.getD (u1118.2 : Int).toNat default))], [], 0⟩) (fuel' := 0) [18, 19] [1, 2, 5, 6, 7, 8] [0, 1] rfl (by kernel_rfl) (by kernel_rfl) ?_
         refine RefX.letC (stf := fun x1675 => ⟨[sI 1 a1, sP 2 0 0 0, sI 5 x1675, sI 6 u1118.2, sP 7 1 0 0, sI 8 u1634.2], [.cells (E24.cs a0), .cells (E48.cs (a0.fDecls.getD (u1118.2 : Int).toNat default))], [], 0⟩) (by kernel_rfl) (fun x1675 => ?_)
         refine RefX.done (by kernel_rfl) ?_
         exact Ref.n0 (t := (x1675))
       ·
        refine Ref.rn 11 ?_
        refine RefR.e0 (st' := ⟨[sI 1 a1, sP 2 0 0 0, sI 5 u1666, sI 6 u1118.2, sP 7 1 0 0, sI 8 (IntKind.i64.wrap (u1634.2 + 1))], [.cells (E24.cs a0), .cells (E48.cs (a0.fDecls.getD (u1118.2 : Int).toNat default))], [], 0⟩) 0 3 3 [1, 2, 5, 6, 7, 8] [0, 1] ?_
        refine RefR.nl 3 ?_
        exact Ref.n0 (t := (u1666, (IntKind.i64.wrap (u1634.2 + 1))))
      ·
       refine Ref.conv (Conv.keep (st' := ⟨[sI 1 a1, sP 2 0 0 0, sI 5 u1634.1, sI 6 u1118.2], [.cells (E24.cs a0)], [], 0⟩) [1, 2, 5, 6] [0] (by kernel_rfl)) ?_
       exact Ref.xt 2 (t := (Sum.inl (u1634.1)))
     ·
      exact Ref.n0 (t := (u1610))
   ·
    refine Ref.rn 4 ?_
    refine RefR.e0 (st' := ⟨[sI 1 a1, sP 2 0 0 0, sI 5 u1537, sI 6 (IntKind.i64.wrap (u1118.2 + 1))], [.cells (E24.cs a0)], [], 0⟩) 0 3 3 [1, 2, 5, 6] [0] ?_
    refine RefR.nl 3 ?_
    exact Ref.n0 (t := (u1537, (IntKind.i64.wrap (u1118.2 + 1))))
  ·
   refine Ref.conv (Conv.keep (st' := ⟨[sI 1 a1, sP 2 0 0 0, sI 5 u1118.1], [.cells (E24.cs a0)], [], 0⟩) [1, 2, 5] [0] (by kernel_rfl)) ?_
   exact Ref.xt 0 (t := (Sum.inl (u1118.1)))
 ·
  refine Ref.sq ?_
  refine Ref.rn 16 ?_
  refine RefR.e0 (st' := ⟨[sB 4 ((decide ((u838 : Int) > a1)) || (decide (((Int.ofNat a0.fDecls.length) : Int) > 16)))], [], [], 0⟩) 0 10 10 [4] [] ?_
  refine RefR.letC (stf := fun x1676 => ⟨[sB 4 x1676], [], [], 0⟩) (by kernel_rfl) (fun x1676 => ?_)
  refine RefR.nl 10 ?_
  exact Ref.rt (t := (x1676))

/-- governor/governorlaw0.GreatExpr -/
def F6 (K : Nat) (a0 : S27) (a1 : Int) : Option ((Bool) ⊕ (Bool)) :=
 ((condM true (fnS (F17 K [a0] a1)) default).bind (fun r1 => (some (.inl ((decide ((r1 : Int) > a1)))))))

theorem F6_ok (K : Nat) (a0 : S27) (a1 : Int) : DFun Tryd.prog 6 [.agg (E27.cs a0), .c (.val (.int .i64 a1))] [] (fnS (F6 K a0 a1)) (fun r => .c (.val (.bool r))) (fun r => []) := by
 refine DFun.intro (fn := Tryd.f6) (c := cd (bd Tryd.f6) []) (rs := fun r => ⟨[sB 4 r], [], [], 0⟩) (by kernel_rfl) (by kernel_rfl) (by kernel_rfl) ?_ (fun r => by kernel_rfl) (fun r => by kernel_rfl) (fun r => by kernel_rfl) (fun r => by kernel_rfl)
 unfold F6
 refine Ref.sq ?_
 refine Ref.rn 0 ?_
 refine RefR.e0 (st' := ⟨[sI 1 a1, sP 2 0 0 0], [.cells (E27.cs a0)], [], 0⟩) 0 2 2 [1, 2] [0] ?_
 refine RefR.nl 2 ?_
 refine Ref.sq ?_
 refine Ref.rn 1 ?_
 refine RefR.e0 (st' := ⟨[sI 1 a1, (5, .agg (E27.cs a0))], [], [], 0⟩) 0 1 1 [1, 5] [] ?_
 refine RefR.e0 (st' := ⟨[sI 1 a1, (6, .c (.own 0 1))], [.row 27 5 1 (tbl [(E27.cs a0)])], [], 0⟩) 1 1 2 [1, 6] [0] ?_
 refine RefR.conv (Conv.obj 0 (E27.row [a0]) (El.row_build E27 [a0] rfl (by kernel_rfl)) (by kernel_rfl)) ?_
 refine RefR.conv (Conv.slot 6 (.c (.own 0 ([a0].length))) (DLe.c (CLe.own (by simp <;> omega))) (by kernel_rfl)) ?_
 refine RefR.e0 (st' := ⟨[sI 1 a1, (6, .c (.own 0 ([a0].length))), sI 7 a1], [E27.row [a0]], [], 0⟩) 2 1 3 [1, 6, 7] [0] ?_
 refine RefR.lookC (t := 8) (g := []) (b := true) 3 4 [0] (default : Int) rfl (by kernel_rfl) (F17_ok K [a0] a1) (fun _ => rfl) (fun r1 => ?_)
 refine RefR.e0 (st' := ⟨[sB 4 (decide ((r1 : Int) > a1))], [], [], 0⟩) 4 3 7 [4] [] ?_
 refine RefR.nl 7 ?_
 exact Ref.rt (t := ((decide ((r1 : Int) > a1))))

/-- governor/governorlaw5.awake -/
def F7 (K : Nat) : Option ((Bool) ⊕ (Bool)) :=
 ((fnS (F10 K (⟨7, 0, ([] : Bytes), ([] : Bytes), [(⟨9, 1, ([] : Bytes), ([] : Bytes), [(⟨5, 0, ([97] : Bytes), ([] : Bytes), []⟩ : S27), (⟨1, 1, ([] : Bytes), ([] : Bytes), []⟩ : S27)]⟩ : S27)]⟩ : S27))).bind (fun r1 => (letV (r1 == ([45, 32, 40, 32, 97, 32, 43, 32, 49, 32, 41] : Bytes)) (fun (x2 : Bool) => ((condM x2 (fnS (F12 K (⟨4, 0, 3, ([] : Bytes)⟩ : S29))) default).bind (fun r3 => (letV (x2 && (r3 == ([65, 82, 82, 65, 89, 32, 91, 32, 51, 32, 93, 32, 79, 70, 32, 73, 78, 84] : Bytes))) (fun (x4 : Bool) => (chk [x4] ((condM true (fnS (F8 K (⟨[(⟨3, ([80] : Bytes), ([] : Bytes), [], false, false, [], [], [], 0, 0⟩ : S48)]⟩ : S24))) default).bind (fun r6 => (letV (true && (r6 == ([80, 82, 79, 71, 82, 65, 77, 32, 80, 32, 59, 32, 69, 78, 68, 95, 80, 82, 79, 71, 82, 65, 77, 10] : Bytes))) (fun (x7 : Bool) => (some (.inl (x7))))))))))))))))

theorem F7_ok (K : Nat) : DFun Tryd.prog 7 [] [] (fnS (F7 K)) (fun r => .c (.val (.bool r))) (fun r => []) := by
 refine DFun.intro (fn := Tryd.f7) (c := cd (bd Tryd.f7) []) (rs := fun r => ⟨[sB 0 r], [], [], 0⟩) (by kernel_rfl) (by kernel_rfl) (by kernel_rfl) ?_ (fun r => by kernel_rfl) (fun r => by kernel_rfl) (fun r => by kernel_rfl) (fun r => by kernel_rfl)
 unfold F7
 refine Ref.sq ?_
 refine Ref.rn 0 ?_
 refine RefR.e0 (st' := ⟨[], [], [], 0⟩) 0 1 1 [] [] ?_
 refine RefR.nl 1 ?_
 refine Ref.sq ?_
 refine Ref.rn 1 ?_
 refine RefR.e0 (st' := ⟨[(2, .agg [.val (.int .i64 5), .val (.int .i64 0), .str ([97] : Bytes), .str ([] : Bytes), .nil]), (3, .agg [.val (.int .i64 1), .val (.int .i64 1), .str ([] : Bytes), .str ([] : Bytes), .nil])], [], [], 0⟩) 0 2 2 [2, 3] [] ?_
 refine RefR.conv (Conv.slot 2 (.agg [.val (.int .i64 5), .val (.int .i64 0), .str ([97] : Bytes), .str ([] : Bytes), E27.tree []]) (DLe.agg (All2.cons (CLe.refl _) (All2.cons (CLe.refl _) (All2.cons (CLe.refl _) (All2.cons (CLe.refl _) (All2.cons (El.tree_nil E27) (All2.nil))))))) (by kernel_rfl)) ?_
 refine RefR.conv (Conv.slot 2 (.agg [.val (.int .i64 5), .val (.int .i64 0), .str ([97] : Bytes), .str ([] : Bytes), NT27 []]) (DLe.agg (All2.cons (CLe.refl _) (All2.cons (CLe.refl _) (All2.cons (CLe.refl _) (All2.cons (CLe.refl _) (All2.cons (NT27_ge _) (All2.nil))))))) (by kernel_rfl)) ?_
 refine RefR.conv (Conv.slot 3 (.agg [.val (.int .i64 1), .val (.int .i64 1), .str ([] : Bytes), .str ([] : Bytes), E27.tree []]) (DLe.agg (All2.cons (CLe.refl _) (All2.cons (CLe.refl _) (All2.cons (CLe.refl _) (All2.cons (CLe.refl _) (All2.cons (El.tree_nil E27) (All2.nil))))))) (by kernel_rfl)) ?_
 refine RefR.conv (Conv.slot 3 (.agg [.val (.int .i64 1), .val (.int .i64 1), .str ([] : Bytes), .str ([] : Bytes), NT27 []]) (DLe.agg (All2.cons (CLe.refl _) (All2.cons (CLe.refl _) (All2.cons (CLe.refl _) (All2.cons (CLe.refl _) (All2.cons (NT27_ge _) (All2.nil))))))) (by kernel_rfl)) ?_
 refine RefR.e0 (st' := ⟨[(4, .c (.own 0 2))], [.row 27 5 2 (tbl [[.val (.int .i64 5), .val (.int .i64 0), .str ([97] : Bytes), .str ([] : Bytes), NT27 []], [.val (.int .i64 1), .val (.int .i64 1), .str ([] : Bytes), .str ([] : Bytes), NT27 []]])], [], 0⟩) 2 1 3 [4] [0] ?_
 refine RefR.conv (Conv.obj 0 (E27.row [(⟨5, 0, ([97] : Bytes), ([] : Bytes), []⟩ : S27), (⟨1, 1, ([] : Bytes), ([] : Bytes), []⟩ : S27)]) (El.row_build E27 [(⟨5, 0, ([97] : Bytes), ([] : Bytes), []⟩ : S27), (⟨1, 1, ([] : Bytes), ([] : Bytes), []⟩ : S27)] rfl (by kernel_rfl)) (by kernel_rfl)) ?_
 refine RefR.conv (Conv.slot 4 (.c (.own 0 ([(⟨5, 0, ([97] : Bytes), ([] : Bytes), []⟩ : S27), (⟨1, 1, ([] : Bytes), ([] : Bytes), []⟩ : S27)].length))) (DLe.c (CLe.own (by simp <;> omega))) (by kernel_rfl)) ?_
 refine RefR.e0 (st' := ⟨[(5, .agg [.val (.int .i64 9), .val (.int .i64 1), .str ([] : Bytes), .str ([] : Bytes), .own 0 ([(⟨5, 0, ([97] : Bytes), ([] : Bytes), []⟩ : S27), (⟨1, 1, ([] : Bytes), ([] : Bytes), []⟩ : S27)].length)])], [E27.row [(⟨5, 0, ([97] : Bytes), ([] : Bytes), []⟩ : S27), (⟨1, 1, ([] : Bytes), ([] : Bytes), []⟩ : S27)]], [], 0⟩) 3 1 4 [5] [0] ?_
 refine RefR.conv (Conv.freeze (st' := ⟨[(5, .agg [.val (.int .i64 9), .val (.int .i64 1), .str ([] : Bytes), .str ([] : Bytes), E27.tree [(⟨5, 0, ([97] : Bytes), ([] : Bytes), []⟩ : S27), (⟨1, 1, ([] : Bytes), ([] : Bytes), []⟩ : S27)]])], [.dead], [], 0⟩) 0 (by kernel_rfl)) ?_
 refine RefR.conv (Conv.slot 5 (.agg [.val (.int .i64 9), .val (.int .i64 1), .str ([] : Bytes), .str ([] : Bytes), NT27 [(⟨5, 0, ([97] : Bytes), ([] : Bytes), []⟩ : S27), (⟨1, 1, ([] : Bytes), ([] : Bytes), []⟩ : S27)]]) (DLe.agg (All2.cons (CLe.refl _) (All2.cons (CLe.refl _) (All2.cons (CLe.refl _) (All2.cons (CLe.refl _) (All2.cons (NT27_ge _) (All2.nil))))))) (by kernel_rfl)) ?_
 refine RefR.e0 (st' := ⟨[(6, .c (.own 0 1))], [.row 27 5 1 (tbl [[.val (.int .i64 9), .val (.int .i64 1), .str ([] : Bytes), .str ([] : Bytes), NT27 [(⟨5, 0, ([97] : Bytes), ([] : Bytes), []⟩ : S27), (⟨1, 1, ([] : Bytes), ([] : Bytes), []⟩ : S27)]]])], [], 0⟩) 4 1 5 [6] [1] ?_
 refine RefR.conv (Conv.obj 0 (E27.row [(⟨9, 1, ([] : Bytes), ([] : Bytes), [(⟨5, 0, ([97] : Bytes), ([] : Bytes), []⟩ : S27), (⟨1, 1, ([] : Bytes), ([] : Bytes), []⟩ : S27)]⟩ : S27)]) (El.row_build E27 [(⟨9, 1, ([] : Bytes), ([] : Bytes), [(⟨5, 0, ([97] : Bytes), ([] : Bytes), []⟩ : S27), (⟨1, 1, ([] : Bytes), ([] : Bytes), []⟩ : S27)]⟩ : S27)] rfl (by kernel_rfl)) (by kernel_rfl)) ?_
 refine RefR.conv (Conv.slot 6 (.c (.own 0 ([(⟨9, 1, ([] : Bytes), ([] : Bytes), [(⟨5, 0, ([97] : Bytes), ([] : Bytes), []⟩ : S27), (⟨1, 1, ([] : Bytes), ([] : Bytes), []⟩ : S27)]⟩ : S27)].length))) (DLe.c (CLe.own (by simp <;> omega))) (by kernel_rfl)) ?_
 refine RefR.e0 (st' := ⟨[sP 1 1 0 0], [E27.row [(⟨9, 1, ([] : Bytes), ([] : Bytes), [(⟨5, 0, ([97] : Bytes), ([] : Bytes), []⟩ : S27), (⟨1, 1, ([] : Bytes), ([] : Bytes), []⟩ : S27)]⟩ : S27)], .cells [.val (.int .i64 7), .val (.int .i64 0), .str ([] : Bytes), .str ([] : Bytes), .own 0 ([(⟨9, 1, ([] : Bytes), ([] : Bytes), [(⟨5, 0, ([97] : Bytes), ([] : Bytes), []⟩ : S27), (⟨1, 1, ([] : Bytes), ([] : Bytes), []⟩ : S27)]⟩ : S27)].length)]], [], 0⟩) 5 3 8 [1] [0, 1] ?_
 refine RefR.nl 8 ?_
 refine Ref.sq ?_
 refine Ref.rn 2 ?_
 refine RefR.e0 (st' := ⟨[(8, .agg [.val (.int .i64 7), .val (.int .i64 0), .str ([] : Bytes), .str ([] : Bytes), .own 0 ([(⟨9, 1, ([] : Bytes), ([] : Bytes), [(⟨5, 0, ([97] : Bytes), ([] : Bytes), []⟩ : S27), (⟨1, 1, ([] : Bytes), ([] : Bytes), []⟩ : S27)]⟩ : S27)].length)])], [E27.row [(⟨9, 1, ([] : Bytes), ([] : Bytes), [(⟨5, 0, ([97] : Bytes), ([] : Bytes), []⟩ : S27), (⟨1, 1, ([] : Bytes), ([] : Bytes), []⟩ : S27)]⟩ : S27)]], [], 0⟩) 0 1 1 [8] [0] ?_
 refine RefR.conv (Conv.freeze (st' := ⟨[(8, .agg [.val (.int .i64 7), .val (.int .i64 0), .str ([] : Bytes), .str ([] : Bytes), E27.tree [(⟨9, 1, ([] : Bytes), ([] : Bytes), [(⟨5, 0, ([97] : Bytes), ([] : Bytes), []⟩ : S27), (⟨1, 1, ([] : Bytes), ([] : Bytes), []⟩ : S27)]⟩ : S27)]])], [.dead], [], 0⟩) 0 (by kernel_rfl)) ?_
 refine RefR.conv (Conv.slot 8 (.agg [.val (.int .i64 7), .val (.int .i64 0), .str ([] : Bytes), .str ([] : Bytes), NT27 [(⟨9, 1, ([] : Bytes), ([] : Bytes), [(⟨5, 0, ([97] : Bytes), ([] : Bytes), []⟩ : S27), (⟨1, 1, ([] : Bytes), ([] : Bytes), []⟩ : S27)]⟩ : S27)]]) (DLe.agg (All2.cons (CLe.refl _) (All2.cons (CLe.refl _) (All2.cons (CLe.refl _) (All2.cons (CLe.refl _) (All2.cons (NT27_ge _) (All2.nil))))))) (by kernel_rfl)) ?_
 refine RefR.callC (t := 9) 1 2 [] rfl (by kernel_rfl) (F10_ok K (⟨7, 0, ([] : Bytes), ([] : Bytes), [(⟨9, 1, ([] : Bytes), ([] : Bytes), [(⟨5, 0, ([97] : Bytes), ([] : Bytes), []⟩ : S27), (⟨1, 1, ([] : Bytes), ([] : Bytes), []⟩ : S27)]⟩ : S27)]⟩ : S27)) (fun r1 => ?_)
 refine RefR.e0 (st' := ⟨[sB 11 (r1 == ([45, 32, 40, 32, 97, 32, 43, 32, 49, 32, 41] : Bytes)), (12, .agg [.val (.int .i64 4), .val (.int .i64 0), .val (.int .i64 3), .str ([] : Bytes)])], [], [(12, [(11, true)])], 0⟩) 2 3 5 [11, 12] [] ?_
 refine RefR.letC (stf := fun x2 => ⟨[sB 11 x2, (12, .agg [.val (.int .i64 4), .val (.int .i64 0), .val (.int .i64 3), .str ([] : Bytes)])], [], [(12, [(11, true)])], 0⟩) (by kernel_rfl) (fun x2 => ?_)
 refine RefR.lookC (t := 13) (g := [(11, true)]) (b := x2) 5 6 [] (default : Bytes) rfl (by kernel_rfl) (F12_ok K (⟨4, 0, 3, ([] : Bytes)⟩ : S29)) (fun _ => rfl) (fun r3 => ?_)
 refine RefR.e0 (st' := ⟨[sB 16 (x2 && (r3 == ([65, 82, 82, 65, 89, 32, 91, 32, 51, 32, 93, 32, 79, 70, 32, 73, 78, 84] : Bytes))), (17, .agg [.val (.int .i64 3), .str ([80] : Bytes), .str ([] : Bytes), .nil, .val (.bool false), .val (.bool false), .nil, .nil, .nil, .val (.int .i64 0), .val (.int .i64 0)])], [], [(17, [(16, true)])], 0⟩) 6 4 10 [16, 17] [] ?_
 refine RefR.letC (stf := fun x4 => ⟨[sB 16 x4, (17, .agg [.val (.int .i64 3), .str ([80] : Bytes), .str ([] : Bytes), .nil, .val (.bool false), .val (.bool false), .nil, .nil, .nil, .val (.int .i64 0), .val (.int .i64 0)])], [], [(17, [(16, true)])], 0⟩) (by kernel_rfl) (fun x4 => ?_)
 refine RefR.assumeC (b := x4) (stf := fun v5 => ⟨[sB 16 v5, (17, .agg [.val (.int .i64 3), .str ([80] : Bytes), .str ([] : Bytes), .nil, .val (.bool false), .val (.bool false), .nil, .nil, .nil, .val (.int .i64 0), .val (.int .i64 0)])], [], [(17, [(16, true)])], 0⟩) (by kernel_rfl) ?_
 refine RefR.conv (Conv.clear (by kernel_rfl)) ?_
 refine RefR.unguard 10 (by kernel_rfl) (by kernel_rfl) ?_
 refine RefR.conv (Conv.slot 17 (.agg [.val (.int .i64 3), .str ([80] : Bytes), .str ([] : Bytes), E9.tree [], .val (.bool false), .val (.bool false), .nil, .nil, .nil, .val (.int .i64 0), .val (.int .i64 0)]) (DLe.agg (All2.cons (CLe.refl _) (All2.cons (CLe.refl _) (All2.cons (CLe.refl _) (All2.cons (El.tree_nil E9) (All2.cons (CLe.refl _) (All2.cons (CLe.refl _) (All2.cons (CLe.refl _) (All2.cons (CLe.refl _) (All2.cons (CLe.refl _) (All2.cons (CLe.refl _) (All2.cons (CLe.refl _) (All2.nil))))))))))))) (by kernel_rfl)) ?_
 refine RefR.conv (Conv.slot 17 (.agg [.val (.int .i64 3), .str ([80] : Bytes), .str ([] : Bytes), E9.tree [], .val (.bool false), .val (.bool false), E38.tree [], .nil, .nil, .val (.int .i64 0), .val (.int .i64 0)]) (DLe.agg (All2.cons (CLe.refl _) (All2.cons (CLe.refl _) (All2.cons (CLe.refl _) (All2.cons (CLe.refl _) (All2.cons (CLe.refl _) (All2.cons (CLe.refl _) (All2.cons (El.tree_nil E38) (All2.cons (CLe.refl _) (All2.cons (CLe.refl _) (All2.cons (CLe.refl _) (All2.cons (CLe.refl _) (All2.nil))))))))))))) (by kernel_rfl)) ?_
 refine RefR.conv (Conv.slot 17 (.agg [.val (.int .i64 3), .str ([80] : Bytes), .str ([] : Bytes), E9.tree [], .val (.bool false), .val (.bool false), E38.tree [], E54.tree [], .nil, .val (.int .i64 0), .val (.int .i64 0)]) (DLe.agg (All2.cons (CLe.refl _) (All2.cons (CLe.refl _) (All2.cons (CLe.refl _) (All2.cons (CLe.refl _) (All2.cons (CLe.refl _) (All2.cons (CLe.refl _) (All2.cons (CLe.refl _) (All2.cons (El.tree_nil E54) (All2.cons (CLe.refl _) (All2.cons (CLe.refl _) (All2.cons (CLe.refl _) (All2.nil))))))))))))) (by kernel_rfl)) ?_
 refine RefR.conv (Conv.slot 17 (.agg [.val (.int .i64 3), .str ([80] : Bytes), .str ([] : Bytes), E9.tree [], .val (.bool false), .val (.bool false), E38.tree [], E54.tree [], E43.tree [], .val (.int .i64 0), .val (.int .i64 0)]) (DLe.agg (All2.cons (CLe.refl _) (All2.cons (CLe.refl _) (All2.cons (CLe.refl _) (All2.cons (CLe.refl _) (All2.cons (CLe.refl _) (All2.cons (CLe.refl _) (All2.cons (CLe.refl _) (All2.cons (CLe.refl _) (All2.cons (El.tree_nil E43) (All2.cons (CLe.refl _) (All2.cons (CLe.refl _) (All2.nil))))))))))))) (by kernel_rfl)) ?_
 refine RefR.e0 (st' := ⟨[sB 16 true, (18, .c (.own 0 1))], [.row 48 11 1 (tbl [[.val (.int .i64 3), .str ([80] : Bytes), .str ([] : Bytes), E9.tree [], .val (.bool false), .val (.bool false), E38.tree [], E54.tree [], E43.tree [], .val (.int .i64 0), .val (.int .i64 0)]])], [], 0⟩) 10 1 11 [16, 18] [0] ?_
 refine RefR.conv (Conv.obj 0 (E48.row [(⟨3, ([80] : Bytes), ([] : Bytes), [], false, false, [], [], [], 0, 0⟩ : S48)]) (El.row_build E48 [(⟨3, ([80] : Bytes), ([] : Bytes), [], false, false, [], [], [], 0, 0⟩ : S48)] rfl (by kernel_rfl)) (by kernel_rfl)) ?_
 refine RefR.conv (Conv.slot 18 (.c (.own 0 ([(⟨3, ([80] : Bytes), ([] : Bytes), [], false, false, [], [], [], 0, 0⟩ : S48)].length))) (DLe.c (CLe.own (by simp <;> omega))) (by kernel_rfl)) ?_
 refine RefR.e0 (st' := ⟨[sB 16 true, (19, .agg [.own 0 ([(⟨3, ([80] : Bytes), ([] : Bytes), [], false, false, [], [], [], 0, 0⟩ : S48)].length)])], [E48.row [(⟨3, ([80] : Bytes), ([] : Bytes), [], false, false, [], [], [], 0, 0⟩ : S48)]], [(19, [(16, true)])], 0⟩) 11 1 12 [16, 19] [0] ?_
 refine RefR.conv (Conv.freeze (st' := ⟨[sB 16 true, (19, .agg [E48.tree [(⟨3, ([80] : Bytes), ([] : Bytes), [], false, false, [], [], [], 0, 0⟩ : S48)]])], [.dead], [(19, [(16, true)])], 0⟩) 0 (by kernel_rfl)) ?_
 refine RefR.lookC (t := 20) (g := [(16, true)]) (b := true) 12 13 [] (default : Bytes) rfl (by kernel_rfl) (F8_ok K (⟨[(⟨3, ([80] : Bytes), ([] : Bytes), [], false, false, [], [], [], 0, 0⟩ : S48)]⟩ : S24)) (fun _ => rfl) (fun r6 => ?_)
 refine RefR.e0 (st' := ⟨[sB 0 (true && (r6 == ([80, 82, 79, 71, 82, 65, 77, 32, 80, 32, 59, 32, 69, 78, 68, 95, 80, 82, 79, 71, 82, 65, 77, 10] : Bytes)))], [], [], 0⟩) 13 3 16 [0] [] ?_
 refine RefR.letC (stf := fun x7 => ⟨[sB 0 x7], [], [], 0⟩) (by kernel_rfl) (fun x7 => ?_)
 refine RefR.nl 16 ?_
 exact Ref.rt (t := (x7))

end Go.Proofs.YtaoklnkjcobokaaDoor
