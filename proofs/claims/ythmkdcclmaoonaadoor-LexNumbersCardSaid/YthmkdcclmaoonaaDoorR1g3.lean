/- errors.As at a variable for the program's own errors, by its contracts: of none false; of one of them true, and the variable is set; and what that is for the store's run. No conditions. -/
import Derived.Test.YthmkdcclmaoonaaDoorQ15
import Derived.Test.YthmkdcclmaoonaaDoorChecked
import Derived.KernelRfl
import Derived.WalkKit
import Derived.LaidEql
import Derived.RowKitTokens
set_option linter.unusedVariables false
set_option linter.unusedSimpArgs false
namespace Go.Proofs.YthmkdcclmaoonaaDoor.rl
open Go Go.RowKit Go.Extern.Stop Go.Stop Go.Extern Go.Am
set_option maxRecDepth 1000000
noncomputable section

theorem as_nil (t : Value) (w : World) : Calls Tryd.prog 11 #[.nilIface, t] w fun e w' => e = .returned (.bool false) ∧ w' = w := by
  go_enter Tryd.func11, Tryd.ntmps11
  go_wp2
  go_ret
  exact ⟨rfl, rfl⟩

theorem valueOfPP (t : Addr) (w : World) : (ReflectliteValue.unpack (.iface 43 (.pointer (some t)))).run Tryd.prog w
    = .ok (.agg #[.pointer (some ⟨10, 43, none⟩), .pointer (some ⟨w.heap.size, 0, none⟩), .int .u64 150]) (w.alloc (.cells #[.pointer (some t)] 43)) := by kernel_rfl
theorem typePP (a : Addr) (w : World) : (ReflectliteValue.methodAny (ReflectliteValue.valueError "reflectlite.Value.Type" 0) (fun t _ _ _ => ReflectliteType.toType t) #[.agg #[.pointer (some ⟨10, 43, none⟩), .pointer (some a), .int .u64 150]]).run Tryd.prog w
    = .ok (.iface 72 (.agg #[.pointer (some ⟨10, 43, none⟩)])) w := by kernel_rfl
theorem methodKind (h : Value) (w : World) : (Go.method 273 72 (.agg #[h]) "Kind").run Tryd.prog w = .ok (88, h) w := by kernel_rfl
theorem kindPP (w : World) : ((ReflectliteType.abiMethod fun t => Functor.map (fun a : Nat => Value.int IntKind.u8 (a : Int)) (Rtype.kind t)) #[.pointer (some ⟨10, 43, none⟩)]).run Tryd.prog w = .ok (.int .u8 22) w := by kernel_rfl
theorem kindP (w : World) : ((ReflectliteType.abiMethod fun t => Functor.map (fun a : Nat => Value.int IntKind.u8 (a : Int)) (Rtype.kind t)) #[.pointer (some ⟨10, 41, none⟩)]).run Tryd.prog w = .ok (.int .u8 22) w := by kernel_rfl
theorem rlm (z : Sem Value) (f : TypeId → Addr → Nat → Nat → Sem Value) (v : Value) :
    ReflectliteValue.method z f #[v] = (do match ← ReflectliteValue.parts v with | none => z | some (t, a, fl) => f t a fl (fl % 32)) := rfl
theorem partsPP (a : Addr) (w : World) : (ReflectliteValue.parts (.agg #[.pointer (some ⟨10, 43, none⟩), .pointer (some a), .int .u64 150])).run Tryd.prog w = .ok (some (43, a, 150)) w := by kernel_rfl
theorem isNilPP (a p : Addr) (W : World) (ha : W.cell? a = some (.pointer (some p))) :
    (ReflectliteValue.method (ReflectliteValue.valueError "reflectlite.Value.IsNil" 0) ReflectliteValue.isNil #[.agg #[.pointer (some ⟨10, 43, none⟩), .pointer (some a), .int .u64 150]]).run Tryd.prog W = .ok (.bool false) W := by
  rw [rlm]
  simp only [Sem.run_bind, partsPP, Result.andThen]
  simp [ReflectliteValue.isNil, loadVar, isAgg, underlying, Tryd.underlying43, ha, Result.andThen]
theorem methodElem (h : Value) (w : World) : (Go.method 273 72 (.agg #[h]) "Elem").run Tryd.prog w = .ok (99, .agg #[h]) w := by kernel_rfl
theorem methodImplements (h : Value) (w : World) : (Go.method 273 72 (.agg #[h]) "Implements").run Tryd.prog w = .ok (100, .agg #[h]) w := by kernel_rfl
theorem methodAssignableTo (h : Value) (w : World) : (Go.method 273 72 (.agg #[h]) "AssignableTo").run Tryd.prog w = .ok (97, .agg #[h]) w := by kernel_rfl
theorem elemPP (w : World) : (ReflectliteType.method ReflectliteType.elem #[.agg #[.pointer (some ⟨10, 43, none⟩)]]).run Tryd.prog w = .ok (.iface 72 (.agg #[.pointer (some ⟨10, 41, none⟩)])) w := by kernel_rfl
theorem implementsP (w : World) : (ReflectliteType.relation "Implements" ReflectliteType.implements_ #[.agg #[.pointer (some ⟨10, 41, none⟩)], .iface 72 (.agg #[.pointer (some ⟨10, 25, none⟩)])]).run Tryd.prog w = .ok (.bool true) w := by kernel_rfl
theorem typeOfP (v : Value) (w : World) : (ReflectliteType.typeOf #[.iface 41 v]).run Tryd.prog w = .ok (.iface 72 (.agg #[.pointer (some ⟨10, 41, none⟩)])) w := by kernel_rfl
theorem assignableP (w : World) : (ReflectliteType.relation "AssignableTo" ReflectliteType.assignableTo #[.agg #[.pointer (some ⟨10, 41, none⟩)], .iface 72 (.agg #[.pointer (some ⟨10, 41, none⟩)])]).run Tryd.prog w = .ok (.bool true) w := by kernel_rfl
theorem valueOfP (e : Addr) (w : World) : (ReflectliteValue.unpack (.iface 41 (.pointer (some e)))).run Tryd.prog w
    = .ok (.agg #[.pointer (some ⟨10, 41, none⟩), .pointer (some ⟨w.heap.size, 0, none⟩), .int .u64 150]) (w.alloc (.cells #[.pointer (some e)] 41)) := by kernel_rfl
theorem elemOfPP (w : World) : (Rtype.elem? 43).run Tryd.prog w = .ok (some 41) w := by kernel_rfl
theorem mkP (p : Addr) (w : World) : (ReflectliteValue.mk 41 p ReflectliteValue.flagAddr).run Tryd.prog w = .ok (.agg #[.pointer (some ⟨10, 41, none⟩), .pointer (some p), .int .u64 406]) w := by kernel_rfl
theorem elemVPP (a p : Addr) (W : World) (ha : W.cell? a = some (.pointer (some p))) :
    (ReflectliteValue.method (ReflectliteValue.valueError "reflectlite.Value.Elem" 0) ReflectliteValue.elem #[.agg #[.pointer (some ⟨10, 43, none⟩), .pointer (some a), .int .u64 150]]).run Tryd.prog W
      = .ok (.agg #[.pointer (some ⟨10, 41, none⟩), .pointer (some p), .int .u64 406]) W := by
  rw [rlm]
  simp only [Sem.run_bind, partsPP, Result.andThen]
  simp [ReflectliteValue.elem, loadVar, isAgg, underlying, Tryd.underlying43, ha, Result.andThen, elemOfPP, mkP]
theorem rls (v x : Value) : ReflectliteValue.set #[v, x] = (do
    let (some (dst, a, fl), some (src, b, _)) := (← ReflectliteValue.parts v, ← ReflectliteValue.parts x)
      | unsupported (.noEntry "extern/(internal/reflectlite.Value).Set.zeroValue")
    if fl / ReflectliteValue.flagAddr % 2 == 0 then unsupported (.noEntry "extern/(internal/reflectlite.Value).Set.unaddressable")
    let val ← loadVar src b
    if ← Rtype.directlyAssignable dst src then storeVar dst a val
    else if ← Rtype.implements dst src then
      if (← Rtype.kind src) == 20 then
        match val with
        | .nilIface => unsupported (.noEntry "extern/reflectlite: a nil value of one interface type handed on as a value of another")
        | _ => storeVar dst a val
      else storeVar dst a (.iface src val)
    else panicString ("reflectlite.Set: value of type " ++ (← Rtype.spelt src) ++ " is not assignable to type " ++ (← Rtype.spelt dst))
    pure (.tuple #[])) := rfl
theorem partsPa (a : Addr) (w : World) : (ReflectliteValue.parts (.agg #[.pointer (some ⟨10, 41, none⟩), .pointer (some a), .int .u64 406])).run Tryd.prog w = .ok (some (41, a, 406)) w := by kernel_rfl
theorem partsP (a : Addr) (w : World) : (ReflectliteValue.parts (.agg #[.pointer (some ⟨10, 41, none⟩), .pointer (some a), .int .u64 150])).run Tryd.prog w = .ok (some (41, a, 150)) w := by kernel_rfl
theorem directP (w : World) : (Rtype.directlyAssignable 41 41).run Tryd.prog w = .ok true w := by kernel_rfl
theorem sizeP (w : World) : (sizeOf 41).run Tryd.prog w = .ok 1 w := by kernel_rfl
theorem setP (ta b e : Addr) (old : Value) (W : World) (hb : W.cell? b = some (.pointer (some e))) (ht : W.cell? ta = some old) (hf : W.frozen? ta = false) :
    (ReflectliteValue.set #[.agg #[.pointer (some ⟨10, 41, none⟩), .pointer (some ta), .int .u64 406], .agg #[.pointer (some ⟨10, 41, none⟩), .pointer (some b), .int .u64 150]]).run Tryd.prog W
      = .ok (.tuple #[]) (W.setCell ta (.pointer (some e))) := by
  rw [rls]
  simp only [Sem.run_bind, partsPa, partsP, Result.andThen]
  simp [ReflectliteValue.flagAddr, loadVar, isAgg, underlying, Tryd.underlying41, hb, Result.andThen, directP, storeVar, Value.cells, storeCells, Addr.add]
  rw [run_store Tryd.prog W ta _ _ (by rfl)]
  simp [ht, hf]

/-- The world with what errors.As makes for itself. -/
def made (e t : Addr) (w : World) : World := ((((w.alloc (.cells #[.pointer (some t)] 43)).alloc (.cells #[.pointer (some ⟨10, 43, none⟩), .pointer (some ⟨w.heap.size, 0, none⟩), .int .u64 150] 55)).alloc (.cells #[.pointer (some ⟨10, 43, none⟩), .pointer (some ⟨w.heap.size, 0, none⟩), .int .u64 150] 55)).alloc (.cells #[.pointer (some e)] 41))

set_option maxHeartbeats 8000000 in
theorem as_hit (e t : Addr) (old : Value) (w : World) (hg : w.cell? ⟨0, 0, none⟩ = some (.iface 72 (.agg #[.pointer (some ⟨10, 25, none⟩)]))) (ht0 : w.cell? t = some old) (hf0 : w.frozen? t = false) :
    Calls Tryd.prog 11 #[.iface 41 (.pointer (some e)), .iface 43 (.pointer (some t))] w fun ev w' => ev = .returned (.bool true) ∧ w' = (made e t w).setCell t (.pointer (some e)) := by
  have hVO := @run_callFunc_extern Tryd.prog 21 _ (fun args => ReflectliteValue.unpack (args.getD 0 (.tuple #[]))) Tryd.func21 (by kernel_rfl) (by kernel_rfl) (by kernel_rfl) (by kernel_rfl)
  have hTY := @run_callFunc_extern Tryd.prog 22 _ (ReflectliteValue.methodAny (ReflectliteValue.valueError "reflectlite.Value.Type" 0) (fun t _ _ _ => ReflectliteType.toType t)) Tryd.func22 (by kernel_rfl) (by kernel_rfl) (by kernel_rfl) (by kernel_rfl)
  have hISN := @run_callFunc_extern Tryd.prog 23 _ (ReflectliteValue.method (ReflectliteValue.valueError "reflectlite.Value.IsNil" 0) ReflectliteValue.isNil) Tryd.func23 (by kernel_rfl) (by kernel_rfl) (by kernel_rfl) (by kernel_rfl)
  have hKIND := @run_callFunc_extern Tryd.prog 88 _ (ReflectliteType.abiMethod fun t => do pure (.int .u8 (← Rtype.kind t))) Tryd.func88 (by kernel_rfl) (by kernel_rfl) (by kernel_rfl) (by kernel_rfl)
  have hTEL := @run_callFunc_extern Tryd.prog 99 _ (ReflectliteType.method ReflectliteType.elem) Tryd.func99 (by kernel_rfl) (by kernel_rfl) (by kernel_rfl) (by kernel_rfl)
  have hIMP := @run_callFunc_extern Tryd.prog 100 _ (ReflectliteType.relation "Implements" ReflectliteType.implements_) Tryd.func100 (by kernel_rfl) (by kernel_rfl) (by kernel_rfl) (by kernel_rfl)
  have hTO := @run_callFunc_extern Tryd.prog 31 _ ReflectliteType.typeOf Tryd.func31 (by kernel_rfl) (by kernel_rfl) (by kernel_rfl) (by kernel_rfl)
  have hASG := @run_callFunc_extern Tryd.prog 97 _ (ReflectliteType.relation "AssignableTo" ReflectliteType.assignableTo) Tryd.func97 (by kernel_rfl) (by kernel_rfl) (by kernel_rfl) (by kernel_rfl)
  have hVEL := @run_callFunc_extern Tryd.prog 32 _ (ReflectliteValue.method (ReflectliteValue.valueError "reflectlite.Value.Elem" 0) ReflectliteValue.elem) Tryd.func32 (by kernel_rfl) (by kernel_rfl) (by kernel_rfl) (by kernel_rfl)
  have hVSET := @run_callFunc_extern Tryd.prog 33 _ ReflectliteValue.set Tryd.func33 (by kernel_rfl) (by kernel_rfl) (by kernel_rfl) (by kernel_rfl)
  have tO := typeOfP
  have mA := methodAssignableTo
  have a25 := assignableP
  have v25 := valueOfP
  have f6 := valueOfPP
  have f7 := typePP
  have mK := methodKind
  have mE := methodElem
  have mI := methodImplements
  have k27 := kindPP
  have k25 := kindP
  have e27 := elemPP
  have i25 := implementsP
  have n8 := isNilPP ⟨w.heap.size, 0, none⟩ t ((w.alloc (.cells #[.pointer (some t)] 43)).alloc (.cells #[.pointer (some ⟨10, 43, none⟩), .pointer (some ⟨w.heap.size, 0, none⟩), .int .u64 150] 55)) (by simp)
  have hlt : 0 < w.heap.size := by
    rcases Nat.lt_or_ge 0 w.heap.size with h | h
    · exact h
    · simp [World.cell?, Array.getElem?_eq_none h] at hg
  have hg2 : ((w.alloc (.cells #[.pointer (some t)] 43)).alloc (.cells #[.pointer (some ⟨10, 43, none⟩), .pointer (some ⟨w.heap.size, 0, none⟩), .int .u64 150] 55)).cell? ⟨0, 0, none⟩ = some (.iface 72 (.agg #[.pointer (some ⟨10, 25, none⟩)])) := by
    rw [World.cell?_alloc_lt _ _ ⟨0, 0, none⟩ (by simp <;> omega), World.cell?_alloc_lt _ _ ⟨0, 0, none⟩ hlt]; exact hg
  have htl : t.block < w.heap.size := by
    rcases Nat.lt_or_ge t.block w.heap.size with h | h
    · exact h
    · simp [World.cell?, Array.getElem?_eq_none h] at ht0
  have el := elemVPP ⟨w.heap.size, 0, none⟩ t (((w.alloc (.cells #[.pointer (some t)] 43)).alloc (.cells #[.pointer (some ⟨10, 43, none⟩), .pointer (some ⟨w.heap.size, 0, none⟩), .int .u64 150] 55)).alloc (.cells #[.pointer (some ⟨10, 43, none⟩), .pointer (some ⟨w.heap.size, 0, none⟩), .int .u64 150] 55)) (by rw [World.cell?_alloc_lt _ _ ⟨w.heap.size, 0, none⟩ (by simp <;> omega)]; simp)
  have st := setP t ⟨w.heap.size + 1 + 1 + 1, 0, none⟩ e old ((((w.alloc (.cells #[.pointer (some t)] 43)).alloc (.cells #[.pointer (some ⟨10, 43, none⟩), .pointer (some ⟨w.heap.size, 0, none⟩), .int .u64 150] 55)).alloc (.cells #[.pointer (some ⟨10, 43, none⟩), .pointer (some ⟨w.heap.size, 0, none⟩), .int .u64 150] 55)).alloc (.cells #[.pointer (some e)] 41))
    (by rw [World.cell?_alloc_at _ _ _ _ (by simp)]; rfl)
    (by rw [World.cell?_alloc_lt _ _ t (by simp <;> omega), World.cell?_alloc_lt _ _ t (by simp <;> omega), World.cell?_alloc_lt _ _ t (by simp <;> omega), World.cell?_alloc_lt _ _ t htl]; exact ht0)
    (by rw [World.frozen?_alloc_old _ _ t (by simp <;> omega), World.frozen?_alloc_old _ _ t (by simp <;> omega), World.frozen?_alloc_old _ _ t (by simp <;> omega), World.frozen?_alloc_old _ _ t (Nat.ne_of_lt htl)]; exact hf0)
  go_enter Tryd.func11, Tryd.ntmps11
  go_wp2
  refine wp_loop_rounds 1 ?_
  rw [rounds_succ]
  go_wp2
  go_ret
  exact ⟨rfl, rfl⟩

/-! For the store's run. -/

/-- The variable errors.errorType is as it was laid. -/
def errI (w : World) : Prop := w.cell? ⟨0, 0, none⟩ = some (.iface 72 (.agg #[.pointer (some ⟨10, 25, none⟩)]))

theorem errI_below {w w' : World} (h : errI w) (hb : Below w.heap.size w w') : errI w' := by
  have hlt : 0 < w.heap.size := by
    rcases Nat.lt_or_ge 0 w.heap.size with h1 | h1
    · exact h1
    · have h' := h
      unfold errI at h'
      simp [World.cell?, Array.getElem?_eq_none h1] at h'
  have hc := hb.block 0 hlt
  unfold errI at *
  simp only [World.cell?, hc]
  exact h

def asF (R : Nat) (vs : List Value) (H : FW) : Option (Value × FW) :=
  match vs with
  | [.nilIface, _] => some (.bool false, H)
  | [.iface t (.pointer (some e)), .iface t' (.pointer (some a))] => bif Nat.beq t 41 && Nat.beq t' 43 then (match storeA Tryd.prog R 41 (.pointer (some a)) (.pointer (some e)) H with
    | some H' => some (.bool true, H')
    | none => none) else none
  | _ => none

def asSm : Sm := ⟨asF⟩

theorem asName : (Tryd.f11.name == "runtime.NumGoroutine") = false := by kernel_rfl
theorem asBody : ∃ c, Tryd.f11.body = some c := ⟨_, rfl⟩

theorem below_made (e t : Addr) (w : World) : Below w.heap.size w (made e t w) := by
  unfold made
  exact ((below_alloc _ _).trans ((below_alloc _ _).mono (by simp))).trans (((below_alloc _ _).mono (by simp <;> omega)).trans ((below_alloc _ _).mono (by simp <;> omega)))

theorem as_good (R : Nat) : SmGood Tryd.prog errI R 11 asSm := by
  intro F β H w vs us v H' hF hR hlo hw hus h
  change asF R vs H = some (v, H') at h
  obtain ⟨c, hc⟩ := asBody
  rw [run_enter Tryd.func11 asName hc]
  unfold asF at h
  split at h
  · simp only [Option.some.injEq, Prod.mk.injEq] at h
    obtain ⟨rfl, rfl⟩ := h
    cases hus with
    | cons h1 h2 => cases h1; cases h2 with
      | cons h2 h3 => cases h3; exact ⟨⟨hlo, Nat.le_refl _⟩, (as_nil _ w).mono fun e w' ⟨he, hw'⟩ => ⟨_, he, fun h => (by cases h), β, .bool _, BLe.refl _, by rw [hw']; exact hw⟩⟩
  · rename_i t e t' a
    have hh := some_of_cond h
    clear h
    obtain ⟨hg, h⟩ := hh
    simp only [Bool.and_eq_true] at hg
    obtain ⟨g1, g2⟩ := hg
    obtain rfl := Nat.eq_of_beq_eq_true g1
    obtain rfl := Nat.eq_of_beq_eq_true g2
    cases hst : storeA Tryd.prog R 41 (.pointer (some a)) (.pointer (some e)) H with
    | none => rw [hst] at h; cases h
    | some H1 =>
      rw [hst] at h
      simp only [Option.some.injEq, Prod.mk.injEq] at h
      obtain ⟨rfl, rfl⟩ := h
      cases hus with
      | cons h1 h2 => cases h1 with
        | iface h1 => cases h2 with
          | cons h2 h3 => cases h3; cases h2 with
            | iface h2 =>
              obtain ⟨ke, hsp1, hke, rfl⟩ := h1.ptr_inv
              obtain ⟨ka, hsp2, hka, rfl⟩ := h2.ptr_inv
              have hcellw : errI w := by
                obtain ⟨R1, w1, f1, f2⟩ := hF.2
                exact errI_below f2 (hw.frame R1 w1 f1)
              have hcellw : w.cell? ⟨0, 0, none⟩ = some (.iface 72 (.agg #[.pointer (some ⟨10, 25, none⟩)])) := hcellw
              (
                -- the place
                have hst2 := hst
                unfold storeA at hst2
                obtain ⟨_, hst2⟩ := some_of_cond hst2
                unfold FW.lay at hst2
                rw [hsp2] at hst2
                simp only at hst2
                obtain ⟨_, hst2⟩ := some_of_cond hst2
                cases hcb : H.cells a.block with
                | none => rw [hcb] at hst2; cases hst2
                | some p =>
                  obtain ⟨cs, ce⟩ := p
                  rw [hcb] at hst2
                  simp only at hst2
                  obtain ⟨hle, _⟩ := some_of_cond hst2
                  simp only [Bool.and_eq_true] at hle
                  have hle := Nat.le_of_ble_eq_true hle.1
                  obtain ⟨k1, cur1, hk1, hgg1, ⟨fz1, e1, hfz1⟩, e2, e3⟩ := hw.block hcb
                  obtain rfl : k1 = ka := Option.some.inj (hk1.symm.trans hka)
                  have hlt : k1.lo + a.off < cur1.size := by
                    have : a.off + (cellsV (Value.pointer (some e))).length = a.off + 1 := rfl
                    omega
                  have ht0 : w.cell? ⟨k1.b, k1.lo + a.off, none⟩ = some cur1[k1.lo + a.off] := by
                    simp only [World.cell?, e1]
                    exact Array.getElem?_eq_getElem hlt
                  have hf0 : w.frozen? ⟨k1.b, k1.lo + a.off, none⟩ = false := by
                    have hl2 : k1.lo + a.off < k1.sz := by
                      have : a.off + (cellsV (Value.pointer (some e))).length = a.off + 1 := rfl
                      omega
                    have hz := hfz1 (k1.lo + a.off) (Nat.le_add_right _ _) hl2
                    obtain ⟨f1, f2⟩ := fz1
                    simp only [World.frozen?, e1]
                    simpa using hz
                  have hup := below_made ⟨ke.b, ke.lo + e.off, none⟩ ⟨k1.b, k1.lo + a.off, none⟩ w
                  obtain ⟨w', hrun, hw'⟩ := storeA_sound (hw.up hup) hF.1 h2 h1 hst
                  have ht1 : (made ⟨ke.b, ke.lo + e.off, none⟩ ⟨k1.b, k1.lo + a.off, none⟩ w).cell? ⟨k1.b, k1.lo + a.off, none⟩ = some cur1[k1.lo + a.off] := by
                    have hb := hup.block k1.b (Array.getElem?_eq_some_iff.1 e1).1
                    simp only [World.cell?, hb]
                    simpa [World.cell?] using ht0
                  have hf1 : (made ⟨ke.b, ke.lo + e.off, none⟩ ⟨k1.b, k1.lo + a.off, none⟩ w).frozen? ⟨k1.b, k1.lo + a.off, none⟩ = false := by
                    have hb := hup.block k1.b (Array.getElem?_eq_some_iff.1 e1).1
                    simp only [World.frozen?, hb]
                    simpa [World.frozen?] using hf0
                  have hw2 : w' = (made ⟨ke.b, ke.lo + e.off, none⟩ ⟨k1.b, k1.lo + a.off, none⟩ w).setCell ⟨k1.b, k1.lo + a.off, none⟩ (.pointer (some ⟨ke.b, ke.lo + e.off, none⟩)) := by
                    have hrun2 : (Instr.storeAt 41 (.pointer (some ⟨k1.b, k1.lo + a.off, none⟩)) (.pointer (some ⟨ke.b, ke.lo + e.off, none⟩))).run Tryd.prog (made ⟨ke.b, ke.lo + e.off, none⟩ ⟨k1.b, k1.lo + a.off, none⟩ w) = .ok () ((made ⟨ke.b, ke.lo + e.off, none⟩ ⟨k1.b, k1.lo + a.off, none⟩ w).setCell ⟨k1.b, k1.lo + a.off, none⟩ (.pointer (some ⟨ke.b, ke.lo + e.off, none⟩))) := by
                      unfold Instr.storeAt Instr.sureAddr storeVar
                      simp only [pure_bind]
                      rw [Sem.run_bind, sizeP, Result.andThen_ok, if_neg (by simp [Value.cells])]
                      simp [Value.cells, storeCells, Addr.add]
                      rw [run_store Tryd.prog _ _ _ _ (by rfl)]
                      simp [ht1, hf1]
                    rw [hrun2] at hrun
                    simp only [Result.ok.injEq, true_and] at hrun
                    exact hrun.symm
                  refine ⟨(hlo.lay (R := R) (a := a) (l := [.pointer (some e)]) ?_).imp id (fun hn => Nat.le_of_eq hn.symm), ?_⟩
                  · have := hst
                    unfold storeA at this
                    exact (some_of_cond this).2
                  · refine (as_hit ⟨ke.b, ke.lo + e.off, none⟩ ⟨k1.b, k1.lo + a.off, none⟩ _ w hcellw ht0 hf0).mono fun ev w'' ⟨he, hw''⟩ => ⟨_, he, fun h => (by cases h), β, .bool _, BLe.refl _, ?_⟩
                    rw [hw'', ← hw2]
                    exact hw'
              )
  · cases h

/-! The same, quick. -/

variable [Go.Qm.Rho]

def asK : Go.Qm.Kq := ⟨fun en H k => match en with
  | .cons (.n c) (.cons _ .nil) => bif Nat.beq c 4 then k (.b false) H else false
  | .cons (.e t (.p q o)) (.cons (.e t' (.p q' o')) .nil) => bif Nat.beq t 41 && Nat.beq t' 43 then Go.Qm.sto1 (.p q' o') (.p q o) H fun H' => k (.b true) H' else false
  | _ => false⟩

theorem asK_ok (R : Nat) (G : Go.Qm.N5 Go.Qm.QO) (en : Go.Qm.En) (vs : List Value) (H : Go.Qm.QH) (F : FW) (k : Go.Qm.V → Go.Qm.QH → Bool) (ha : Go.Qm.AR en vs) (hr : Go.Qm.HR R G H F) (hR : R ≤ F.next) (h : asK.f en H k = true) :
    ∃ u v H' F', asF R vs F = some (v, F') ∧ Go.Qm.VQ u v ∧ Go.Qm.HR R G H' F' ∧ F.next ≤ F'.next ∧ k u H' = true := by
  unfold asK at h
  dsimp only at h
  split at h
  · rename_i c x
    cases hc : Nat.beq c 4 with
    | false => rw [hc] at h; cases h
    | true =>
      rw [hc, cond_true] at h
      obtain rfl := Nat.eq_of_beq_eq_true hc
      cases vs with
      | nil => exact ha.elim
      | cons v1 vs => cases vs with
        | nil => exact ha.2.elim
        | cons v2 vs => cases vs with
          | cons _ _ => exact ha.2.2.elim
          | nil =>
            have e1 := ha.1.eq (by simp)
            subst e1
            exact ⟨.b false, .bool false, H, F, rfl, .inr rfl, hr, Nat.le_refl _, h⟩
  · rename_i t q o t' q' o'
    cases hg : (Nat.beq t 41 && Nat.beq t' 43) with
    | false => rw [hg] at h; cases h
    | true =>
      rw [hg, cond_true] at h
      simp only [Bool.and_eq_true] at hg
      obtain rfl := Nat.eq_of_beq_eq_true hg.1
      obtain rfl := Nat.eq_of_beq_eq_true hg.2
      cases vs with
      | nil => exact ha.elim
      | cons v1 vs => cases vs with
        | nil => exact ha.2.elim
        | cons v2 vs => cases vs with
          | cons _ _ => exact ha.2.2.elim
          | nil =>
            have e1 := ha.1.eq (by simp)
            have e2 := ha.2.1.eq (by simp)
            subst e1
            subst e2
            obtain ⟨H', F', g1, g2, g3⟩ := Go.Qm.sto1_spec (P := Tryd.prog) (t := 41) (a := .pointer (some ⟨q'.num, o', none⟩)) (u := .pointer (some ⟨q.num, o, none⟩)) hr (.inr rfl) (.inr rfl) (by kernel_rfl) h
            have hnx : F.next ≤ F'.next := by
              have := g1
              unfold storeA at this
              obtain ⟨_, this⟩ := some_of_cond this
              unfold FW.lay at this
              simp only at this
              obtain ⟨_, this⟩ := some_of_cond this
              split at this
              · obtain ⟨_, this⟩ := some_of_cond this
                simp only [Option.some.injEq] at this
                subst this
                exact Nat.le_refl _
              · cases this
            refine ⟨.b true, .bool true, H', F', ?_, .inr rfl, g2, hnx, g3⟩
            show (bif Nat.beq 41 41 && Nat.beq 43 43 then (match storeA Tryd.prog R 41 (.pointer (some ⟨q'.num, o', none⟩)) (.pointer (some ⟨q.num, o, none⟩)) F with
              | some H' => some (Value.bool true, H')
              | none => none) else none) = _
            rw [g1]
            rfl
  · cases h

end
end Go.Proofs.YthmkdcclmaoonaaDoor.rl
