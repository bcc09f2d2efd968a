/- Operations that look: what the store's evaluators say is true of the model's. No conditions. -/
import Derived.Test.YthmkdcclmaoonaaDoorA3
import Derived.Laws.Cells
import Derived.ChangeKeysEq
import Derived.Laws.Rows
import Derived.Laws.Strings
import Derived.Laws.StructEq
import Derived.Laws.BytesString
import Derived.Laws.Build
import Derived.Lib.Strings
set_option linter.unusedVariables false
set_option linter.unusedSimpArgs false
namespace Go.Am
open Go.RowKit

/-- A computation gives a value of which v says the truth, the same one in each world that has more blocks (q: in each world), and leaves the world as it is. -/
def Sees (P : Program) (q : Bool) (s : Sem Value) (β : Bm) (w : World) (v : Value) : Prop :=
  ∃ u, (∀ w', q = true ∨ Below w.heap.size w w' → s.run P w' = .ok u w') ∧ VR β v u

section
variable {P : Program} {R : Nat} {F : Nat → World → Prop} {β : Bm} {H : FW} {w : World} {q : Bool}

theorem some_of_cond {α : Type} {b : Bool} {x : Option α} {y : α} (h : (bif b then x else none) = some y) : b = true ∧ x = some y := by
  cases b <;> simp_all

theorem Sees.just {u v : Value} {s : Sem Value} (h : ∀ w', s.run P w' = .ok u w') (hv : VR β v u) : Sees P q s β w v := ⟨u, fun w' _ => h w', hv⟩

theorem info_of_underlying {t : TypeId} {d : TypeDesc} (h : P.underlying t = some d) : ∃ i, P.info? t = some i := by
  unfold Program.underlying at h
  cases hi : P.info? t with
  | none => simp [hi] at h
  | some i => exact ⟨i, rfl⟩

theorem run_isAgg {t : TypeId} {d : TypeDesc} (h : P.underlying t = some d) (w : World) : (isAgg t).run P w = .ok (aggT P t) w := by
  unfold isAgg aggT
  rw [Sem.run_bind, run_underlying h, Result.andThen_ok, h]
  cases d <;> rfl

theorem run_typeInfo' {t : TypeId} {i : TypeInfo} (h : P.info? t = some i) (w : World) : (typeInfo t).run P w = .ok i w := by
  unfold typeInfo
  rw [Sem.run_bind, run_program, Result.andThen_ok, h]
  rfl

theorem run_sizeOf' {t : TypeId} {i : TypeInfo} (h : P.info? t = some i) (w : World) : (sizeOf t).run P w = .ok i.size w := by
  unfold sizeOf
  rw [Sem.run_bind, run_typeInfo' h]
  rfl

theorem cellsOf_eq {t : TypeId} {i : TypeInfo} (h : P.info? t = some i) : P.cellsOf t = i.size := by
  unfold Program.cellsOf
  rw [h]; rfl

theorem add_lit (b o n : Nat) : (⟨b, o, none⟩ : Addr).add n = ⟨b, o + n, none⟩ := by
  unfold Addr.add
  split
  · rename_i h; subst h; rfl
  · rfl

theorem run_loadAt {t : TypeId} {d : TypeDesc} (h : P.underlying t = some d) (a : Addr) (w : World) :
    (Instr.loadAt t (.pointer (some a))).run P w =
      if aggT P t = true then ((loadCells a (P.cellsOf t)).run P w).andThen fun vs w' => .ok (.agg vs) w' else (load a).run P w := by
  obtain ⟨i, hi⟩ := info_of_underlying h
  unfold Instr.loadAt Instr.sureAddr loadVar
  simp only [pure_bind]
  rw [Sem.run_bind, run_isAgg h, Result.andThen_ok]
  split
  · rw [Sem.run_bind, run_sizeOf' hi, Result.andThen_ok, Sem.run_bind, cellsOf_eq hi]
    rfl
  · rfl

theorem cell_of_heap {b j : Nat} {cs : Array Value} {t : TypeId} {fr : Nat × Nat} (h : w.heap[b]? = some (.cells cs t fr)) :
    w.cell? ⟨b, j, none⟩ = cs[j]? := by
  simp [World.cell?, h]

/-- A block of the store's: what it says of the world. -/
theorem WR.block (h : WR P F β H w) {o : Nat} {c : List Value} {e : TypeId} (hc : H.cells o = some (c, e)) :
    ∃ k cur, β o = some k ∧ H.heap.get o = some (.cells c e) ∧ (∃ fz, w.heap[k.b]? = some (.cells cur e fz) ∧ FzOk k.lo k.sz fz) ∧ (k.lo + c.length ≤ k.sz ∧ k.sz ≤ cur.size) ∧
      ∀ (i : Nat) (v : Value), c[i]? = some v → ∃ u, cur[k.lo + i]? = some u ∧ VR β v u := by
  unfold FW.cells at hc
  cases hg : H.heap.get o with
  | none => simp [hg] at hc
  | some x =>
    obtain ⟨k, hk, ho⟩ := h.objs _ _ hg
    cases x with
    | cells c' e' =>
      simp only [hg, Option.some.injEq, Prod.mk.injEq] at hc
      obtain ⟨rfl, rfl⟩ := hc
      obtain ⟨cur, h1, h2, h3⟩ := ho
      exact ⟨k, cur, hk, rfl, h1, h2, h3⟩
    | _ => simp [hg] at hc

theorem Below.cell' {w w' : World} (h : Below w.heap.size w w') {a : Addr} {v : Value} (hc : w.cell? a = some v) : w'.cell? a = some v :=
  (Below.cell h (block_lt_of_cell hc)).trans hc

/-- One cell. -/
theorem WR.cell (h : WR P F β H w) {o i : Nat} {k : Pl} {v : Value} (hk : β o = some k) (hc : H.cell ⟨o, i, none⟩ = some v) :
    ∃ u, w.cell? ⟨k.b, k.lo + i, none⟩ = some u ∧ VR β v u := by
  unfold FW.cell at hc
  simp only at hc
  cases hb : H.cells o with
  | none => simp [hb] at hc
  | some p =>
    obtain ⟨c, e⟩ := p
    rw [hb] at hc
    obtain ⟨k', cur, hk', _, ⟨fz, h1, hfz⟩, h2, h3⟩ := h.block hb
    rw [hk] at hk'
    simp only [Option.some.injEq] at hk'
    subst hk'
    obtain ⟨u, hu, hr⟩ := h3 _ _ hc
    exact ⟨u, by rw [cell_of_heap h1]; exact hu, hr⟩

/-- Cells one behind the other. -/
theorem WR.row (h : WR P F β H w) {o i n : Nat} {k : Pl} {l : List Value} (hk : β o = some k) (hc : H.row ⟨o, i, none⟩ n = some l) :
    ∃ us : List Value, VRs β l us ∧ l.length = n ∧ (∀ j, j < n → ∃ u, w.cell? ⟨k.b, k.lo + i + j, none⟩ = some u ∧ us[j]? = some u) := by
  unfold FW.row at hc
  simp only at hc
  cases hb : H.cells o with
  | none => simp [hb] at hc
  | some p =>
    obtain ⟨c, e⟩ := p
    rw [hb] at hc
    obtain ⟨hle, hc⟩ := some_of_cond hc
    have hle := Nat.le_of_ble_eq_true hle
    simp only [Option.some.injEq] at hc
    subst hc
    obtain ⟨k', cur, hk', _, ⟨fz, h1, hfz⟩, h2, h3⟩ := h.block hb
    rw [hk] at hk'
    simp only [Option.some.injEq] at hk'
    subst hk'
    have hcell : ∀ j, j < n → ∃ v u, c[i + j]? = some v ∧ cur[k.lo + (i + j)]? = some u ∧ VR β v u := by
      intro j hj
      have hlt : i + j < c.length := by omega
      obtain ⟨u, hu, hr⟩ := h3 (i + j) _ (List.getElem?_eq_getElem hlt)
      exact ⟨_, u, List.getElem?_eq_getElem hlt, hu, hr⟩
    refine ⟨(cur.toList.drop (k.lo + i)).take n, VRs.of_get ?_ ?_, ?_, ?_⟩
    · simp only [List.length_take, List.length_drop, Array.length_toList]; omega
    · intro j v hv
      rw [List.getElem?_take] at hv ⊢
      split at hv
      · rename_i hj
        rw [List.getElem?_drop] at hv ⊢
        obtain ⟨v', u, hv', hu, hr⟩ := hcell j hj
        rw [hv] at hv'
        simp only [Option.some.injEq] at hv'
        subst hv'
        refine ⟨u, ?_, hr⟩
        rw [if_pos hj, ← hu, Array.getElem?_toList, Nat.add_assoc]
      · cases hv
    · simp only [List.length_take, List.length_drop]; omega
    · intro j hj
      obtain ⟨v', u, hv', hu, hr⟩ := hcell j hj
      refine ⟨u, by rw [cell_of_heap h1, ← hu, Nat.add_assoc], ?_⟩
      rw [List.getElem?_take, if_pos hj, List.getElem?_drop, Array.getElem?_toList, ← hu, Nat.add_assoc]

theorem list_of_cells {n : Nat} {us : List Value} (hl : us.length = n) (f : Nat → Value) (h : ∀ j, j < n → us[j]? = some (f j)) : (List.range n).map f = us := by
  apply List.ext_getElem?
  intro j
  rw [List.getElem?_map]
  rcases Nat.lt_or_ge j n with hj | hj
  · rw [List.getElem?_range hj, h j hj]; rfl
  · rw [List.getElem?_eq_none (by simpa using hj), List.getElem?_eq_none (by omega)]; rfl

/-- Cells one behind the other, read at one go. -/
theorem WR.loads (h : WR P F β H w) {o i n : Nat} {k : Pl} {l : List Value} (hk : β o = some k) (hc : H.row ⟨o, i, none⟩ n = some l) :
    ∃ us : List Value, VRs β l us ∧ us.length = n ∧ ∀ w', Below w.heap.size w w' → (loadCells ⟨k.b, k.lo + i, none⟩ n).run P w' = .ok us.toArray w' := by
  obtain ⟨us, h1, h2, h3⟩ := h.row hk hc
  have hl : us.length = n := by rw [h1.length, h2]
  refine ⟨us, h1, hl, fun w' hw' => ?_⟩
  let f : Nat → Value := fun j => us.getD j undef
  have hf : (List.range n).map f = us := list_of_cells hl f fun j hj => by
    obtain ⟨u, _, hu⟩ := h3 j hj
    simp [f, List.getD, hu]
  rw [← hf]
  refine run_loadCells w' _ n f fun j hj => ?_
  obtain ⟨u, hc, hu⟩ := h3 j hj
  rw [add_lit, Below.cell' hw' hc]
  simp [f, List.getD, hu]

theorem loadA_sound (h : WR P F β H w) {t : TypeId} {x x' v : Value} (hx : VR β x x') (he : loadA P t x H = some v) : Sees P false (Instr.loadAt t x') β w v := by
  unfold loadA at he
  split at he
  · rename_i a
    obtain ⟨hs, he⟩ := some_of_cond he
    obtain ⟨d, hd⟩ := Option.isSome_iff_exists.1 hs
    cases hx with
    | ptr hk =>
      rename_i o i k
      cases hag : aggT P t with
      | true =>
        rw [hag, cond_true] at he
        split at he
        · rename_i l hl
          simp only [Option.some.injEq] at he
          subst he
          obtain ⟨us, h1, h2, h3⟩ := h.loads (P := P) hk hl
          refine ⟨.agg us.toArray, fun w' hw' => ?_, .agg h1⟩
          rw [run_loadAt hd, if_pos hag, h3 w' (hw'.resolve_left (by simp)), Result.andThen_ok]
        · cases he
      | false =>
        rw [hag, cond_false] at he
        obtain ⟨u, hu, hr⟩ := h.cell hk he
        refine ⟨u, fun w' hw' => ?_, hr⟩
        rw [run_loadAt hd, if_neg (by simp [hag]), run_load, Below.cell' (hw'.resolve_left (by simp)) hu]
  · cases he

theorem wrap_small {n : Int} (k : IntKind) (hk : k = .i64) (h0 : -9223372036854775808 ≤ n) (h1 : n < 9223372036854775808) : k.wrap n = n := by
  subst hk
  have e1 : ((2 : Int) ^ IntKind.i64.bits) = 18446744073709551616 := by decide
  have e2 : ((2 : Int) ^ (IntKind.i64.bits - 1)) = 9223372036854775808 := by decide
  simp only [IntKind.wrap, e1, e2, IntKind.signed, Bool.true_and, ge_iff_le, decide_eq_true_eq]
  split <;> omega

theorem wrapF_eq (k : IntKind) (n : Int) : wrapF k n = k.wrap n := by
  unfold wrapF
  cases k with
  | i64 =>
    cases n with
    | ofNat m =>
      simp only
      cases hb : Nat.blt m 9223372036854775808 with
      | true =>
        have : m < 9223372036854775808 := by simpa [Nat.blt_eq] using hb
        rw [cond_true, wrap_small _ rfl (by show (-9223372036854775808 : Int) ≤ ((m : Nat) : Int); omega) (by show ((m : Nat) : Int) < 9223372036854775808; omega)]
      | false => rfl
    | negSucc m =>
      simp only
      cases hb : Nat.blt m 9223372036854775808 with
      | true =>
        have : m < 9223372036854775808 := by simpa [Nat.blt_eq] using hb
        show Int.negSucc m = _
        rw [wrap_small _ rfl (by rw [Int.negSucc_eq]; omega) (by rw [Int.negSucc_eq]; omega)]
      | false => rw [cond_false]
  | u64 =>
    cases n with
    | ofNat m =>
      have e1 : ((2 : Int) ^ IntKind.u64.bits) = 18446744073709551616 := by decide
      simp only [IntKind.wrap, e1, IntKind.signed, Bool.false_and, Bool.false_eq_true, if_false]
      rfl
    | negSucc m => rfl
  | u8 =>
    cases n with
    | ofNat m =>
      have e1 : ((2 : Int) ^ IntKind.u8.bits) = 256 := by decide
      simp only [IntKind.wrap, e1, IntKind.signed, Bool.false_and, Bool.false_eq_true, if_false]
      rfl
    | negSucc m => rfl
  | _ => rfl

theorem intA_sound {op : BinOp} {t : TypeId} {k k' : IntKind} {a b : Int} {v : Value} (h : intA op k a k' b = some v) :
    (∀ w, (binOp op t (.int k a) (.int k' b)).run P w = .ok v w) ∧ VR β v v := by
  unfold intA at h
  have hs : ∀ (y : Int), decide (0 ≤ y) = true → ¬ y < 0 := by intro y hy; simp at hy; omega
  cases op <;> simp only [] at h
  case shl =>
    obtain ⟨hb, h⟩ := some_of_cond h
    simp only [Option.some.injEq] at h
    subst h
    refine ⟨fun w => ?_, .int _ _⟩
    simp only [binOp, Op.shift]
    rw [if_neg (hs b hb)]
    rfl
  case shr =>
    obtain ⟨hb, h⟩ := some_of_cond h
    simp only [Option.some.injEq] at h
    subst h
    refine ⟨fun w => ?_, .int _ _⟩
    simp only [binOp, Op.shift]
    rw [if_neg (hs b hb)]
    rfl
  all_goals
    have h2 := some_of_cond h
    clear h
    obtain ⟨hk, h⟩ := h2
    have hk : k = k' := by simpa using hk
    subst hk
  case quo =>
    cases hb : decide (b = 0) with
    | true => rw [hb] at h; cases h
    | false =>
      rw [hb, cond_false, wrapF_eq] at h
      simp only [Option.some.injEq] at h
      subst h
      refine ⟨fun w => ?_, .int _ _⟩
      simp only [binOp, ne_eq, not_true_eq_false, if_false, Op.intDiv]
      rw [if_neg (by simpa using hb)]
      rfl
  case rem =>
    cases hb : decide (b = 0) with
    | true => rw [hb] at h; cases h
    | false =>
      rw [hb, cond_false] at h
      simp only [Option.some.injEq] at h
      subst h
      refine ⟨fun w => ?_, .int _ _⟩
      simp only [binOp, ne_eq, not_true_eq_false, if_false, Op.intDiv]
      rw [if_neg (by simpa using hb)]
      rfl
  all_goals
    simp only [restI, cmpI, bitsI, wrapF_eq, Option.some.injEq] at h
    subst h
    refine ⟨fun w => ?_, ?_⟩
    · simp only [binOp, ne_eq, not_true_eq_false, if_false]; rfl
    · first | exact .int _ _ | exact .bool _

theorem strA_sound {op : BinOp} {t : TypeId} {a b : ByteArray} {v : Value} (h : strA op a.data.toList b.data.toList = some v) :
    (∀ w, (binOp op t (.string a) (.string b)).run P w = .ok v w) ∧ VR β v v := by
  have e1 : a.toList = a.data.toList := ByteArray.toList_eq a
  have e2 : b.toList = b.data.toList := ByteArray.toList_eq b
  unfold strA at h
  cases op <;> simp only [Option.some.injEq, reduceCtorEq] at h
  case add =>
    obtain ⟨hr, h⟩ := some_of_cond h
    have hr := Nat.le_of_ble_eq_true hr
    simp only [Option.some.injEq] at h
    subst h
    refine ⟨fun w => ?_, .string _⟩
    have z1 : a.size = a.data.toList.length := rfl
    have z2 : b.size = b.data.toList.length := rfl
    simp only [binOp, Op.stringOp]
    rw [if_neg ?_]
    · have : a ++ b = ⟨⟨a.data.toList ++ b.data.toList⟩⟩ := by
        apply ByteArray.ext
        apply Array.ext'
        simp
      rw [this]; rfl
    · rw [z1, z2]
      have : IntKind.i64.max = 9223372036854775807 := by decide
      rw [this]
      omega
  all_goals
    subst h
    refine ⟨fun w => ?_, .bool _⟩
    simp only [binOp, Op.stringOp, e1, e2]
    rfl

end
end Go.Am
