/- What rounds come to, by a measure; the words of the printed functions at values. No conditions. -/
import Derived.Test.YtngjamedgphjiaaDC
import Derived.IntWalk
set_option linter.unusedVariables false
set_option linter.unusedSimpArgs false
namespace Go.Dl
theorem DFun.none [WInv] {P : Program} {f : FuncId} {R : Type} {args : List D} {xs : List Obj} {m : Option R} {res : R → D} {out : R → List Obj} (h : m = Option.none) : DFun P f args xs m res out := fun S β w vs hc hv r hr => by rw [h] at hr; cases hr
theorem chk_nil {α : Type} {m : Option α} : chk [] m = m := rfl
theorem chk_t {α : Type} {v : Bool} {vs : List Bool} {m : Option α} (h : v = true) : chk (v :: vs) m = chk vs m := by show (if v = true then chk vs m else none) = _; rw [if_pos h]
theorem bindS_r {A T U : Type} {t : T} {f : T → Option (A ⊕ U)} : bindS (some (.inr t)) f = f t := rfl
theorem blockS_ll {A T : Type} {t : T} : blockS (some (.inl (.inl t)) : Option ((T ⊕ A) ⊕ T)) = some (.inr t) := rfl
theorem blockS_r {A T : Type} {t : T} : blockS (some (.inr t) : Option ((T ⊕ A) ⊕ T)) = some (.inr t) := rfl
theorem fnS_l {R : Type} {r : R} : fnS (some (.inl r) : Option (R ⊕ R)) = some r := rfl
theorem fnS_r {R : Type} {r : R} : fnS (some (.inr r) : Option (R ⊕ R)) = some r := rfl
theorem condM_t {R : Type} {m : Option R} {r : R} : condM true m r = m := rfl
theorem inb_nat {i n : Nat} (h : i < n) : inb (i : Int) n = true := by simp [inb]; omega
theorem room_le {n : Nat} (h : n ≤ 140737488355328) : room n = true := by simp [room, h]
theorem wrap64 {x : Int} (h1 : -9223372036854775808 ≤ x) (h2 : x ≤ 9223372036854775807) : IntKind.i64.wrap x = x := by
  rw [IntKind.wrap_i64]; omega
end Go.Dl
