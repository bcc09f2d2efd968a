/- Operations that look: all of them; operations that make a block. No conditions. -/
import Derived.Test.YthmkdcclmaoonaaDoorA8
import Derived.Great.BuildSlice
import Derived.Laws.RangeString
set_option linter.unusedVariables false
set_option linter.unusedSimpArgs false
namespace Go.Am
open Go.RowKit
section
variable {P : Program} {R : Nat} {F : Nat → World → Prop} {β : Bm} {H : FW} {w : World} {q : Bool}

theorem pickA_sound {c a b c' a' b' v : Value} (hc : VR β c c') (ha : VR β a a') (hb : VR β b b') (h : pickA c a b = some v) :
    Sees P q (do pure (if ← asBool c' then a' else b')) β w v := by
  unfold pickA at h
  split at h
  · simp only [Option.some.injEq] at h; subst h
    cases hc
    exact .just (fun _ => rfl) ha
  · simp only [Option.some.injEq] at h; subst h
    cases hc
    exact .just (fun _ => rfl) hb
  · cases h

/-- What a nil check lets through. -/
def Through : Value → Prop
  | .pointer (some _) => True
  | .func (.func _) _ _ => True
  | _ => False

theorem nilA_sound {x x' v : Value} (hx : VR β x x') (h : nilA x = some v) : VR β v x' ∧ Through x' := by
  unfold nilA at h
  split at h
  · simp only [Option.some.injEq] at h; subst h
    obtain ⟨k, hsp, hk, rfl⟩ := hx.ptr_inv
    exact ⟨hx, trivial⟩
  · simp only [Option.some.injEq] at h; subst h
    cases hx with
    | func h1 h2 => exact ⟨.func h1 h2, trivial⟩
  · cases h

theorem Sees.next {s : Sem Value} {v : Value} (h : Sees P q s β w v) : ∃ u, (∀ w', q = true ∨ Below w.heap.size w w' → (do pure (Next.value (← s)) : Sem Next).run P w' = .ok (.value u) w') ∧ VR β v u := by
  obtain ⟨u, h1, h2⟩ := h
  exact ⟨u, fun w' hw' => by rw [Sem.run_bind, h1 w' hw']; rfl, h2⟩

theorem look_sound (h : WR P F β H w) {ρ : Ev} {a : Act} (hv : ∀ x, VR β (ρ x) (a.eval x)) {o : Oper} {f : Ev → FW → Option Value} (hc : compA P o.op = .look f) {v : Value} (he : f ρ H = some v) :
    ∃ u, (∀ w', (kindA P o.op == 0) = true ∨ Below w.heap.size w w' → (execOp a.eval o).run P w' = .ok (.value u) w') ∧ VR β v u := by
  have any : ∀ {s : Sem Value}, (∀ w', (execOp a.eval o).run P w' = (do pure (Next.value (← s)) : Sem Next).run P w') → Sees P (kindA P o.op == 0) s β w v →
      ∃ u, (∀ w', (kindA P o.op == 0) = true ∨ Below w.heap.size w w' → (execOp a.eval o).run P w' = .ok (.value u) w') ∧ VR β v u := by
    intro s he hs
    obtain ⟨u, h1, h2⟩ := hs.next
    exact ⟨u, fun w' hw' => by rw [he]; exact h1 w' hw', h2⟩
  have lo : ∀ {s : Sem Value} {q : Bool}, Sees P false s β w v → (q = false) → Sees P q s β w v := by
    intro s q hs hq; rw [hq]; exact hs
  cases ho : o.op with
  | move x =>
    rw [ho] at hc any
    simp only [compA, AI.look.injEq] at hc; subst hc
    simp only [Option.some.injEq] at he; subst he
    exact ⟨a.eval x, fun w' _ => by unfold execOp; rw [ho]; rfl, hv x⟩
  | assign x =>
    rw [ho] at hc any
    simp only [compA, AI.look.injEq] at hc; subst hc
    simp only [Option.some.injEq] at he; subst he
    exact ⟨a.eval x, fun w' _ => by unfold execOp; rw [ho]; rfl, hv x⟩
  | pick c x y =>
    rw [ho] at hc any
    simp only [compA, AI.look.injEq] at hc; subst hc
    refine any (s := do pure (if ← asBool (a.eval c) then a.eval x else a.eval y)) (fun w' => ?_) (pickA_sound (hv c) (hv x) (hv y) he)
    unfold execOp; rw [ho]
    simp only [bind_assoc, pure_bind]
  | load t x =>
    rw [ho] at hc any
    simp only [compA, AI.look.injEq] at hc; subst hc
    exact any (fun w' => by unfold execOp; rw [ho]) (lo (loadA_sound h (hv x) he) rfl)
  | nilCheck x =>
    rw [ho] at hc any
    simp only [compA, AI.look.injEq] at hc; subst hc
    obtain ⟨h1, h2⟩ := nilA_sound (hv x) he
    refine ⟨a.eval x, fun w' _ => ?_, h1⟩
    unfold execOp; rw [ho]
    simp only
    generalize a.eval x = u at h2
    unfold Through at h2
    split at h2
    · rfl
    · rfl
    · exact h2.elim
  | binOp op t x y t2 =>
    rw [ho] at hc any
    simp only [compA, AI.look.injEq] at hc; subst hc
    obtain ⟨u, h1, h2⟩ := binA_sound (P := P) (hv x) (hv y) he
    exact any (fun w' => by unfold execOp; rw [ho]) ⟨u, fun w' _ => h1 w', h2⟩
  | unOp op t x =>
    rw [ho] at hc any
    simp only [compA, AI.look.injEq] at hc; subst hc
    exact any (fun w' => by unfold execOp; rw [ho]) (unA_sound (hv x) he)
  | convert s d x =>
    rw [ho] at hc any
    simp only [compA] at hc
    cases hb : isBytesC P s d with
    | true => rw [hb] at hc; cases hc
    | false =>
      rw [hb] at hc
      simp only [cond_false, AI.look.injEq] at hc; subst hc
      exact any (fun w' => by unfold execOp; rw [ho]) (lo (convA_sound h (hv x) he) (by simp [kindA, hb]))
  | fieldAddr s x f =>
    rw [ho] at hc any
    simp only [compA, AI.look.injEq] at hc; subst hc
    exact any (fun w' => by unfold execOp; rw [ho]) (fieldAddrA_sound (hv x) he)
  | field s x f =>
    rw [ho] at hc any
    simp only [compA, AI.look.injEq] at hc; subst hc
    exact any (fun w' => by unfold execOp; rw [ho]) (fieldA_sound (hv x) he)
  | indexAddr t x i =>
    rw [ho] at hc any
    simp only [compA, AI.look.injEq] at hc; subst hc
    exact any (fun w' => by unfold execOp; rw [ho]) (indexAddrA_sound (hv x) (hv i) he)
  | index t x i =>
    rw [ho] at hc any
    simp only [compA, AI.look.injEq] at hc; subst hc
    exact any (fun w' => by unfold execOp; rw [ho]) (indexA_sound (hv x) (hv i) he)
  | extract x i =>
    rw [ho] at hc any
    simp only [compA, AI.look.injEq] at hc; subst hc
    exact any (fun w' => by unfold execOp; rw [ho]) (extractA_sound (hv x) he)
  | build t parts =>
    rw [ho] at hc any
    simp only [compA, AI.look.injEq] at hc; subst hc
    exact any (fun w' => by unfold execOp; rw [ho]) (buildA_sound hv he)
  | slice t x l hh m =>
    rw [ho] at hc any
    simp only [compA, AI.look.injEq] at hc; subst hc
    exact any (fun w' => by unfold execOp; rw [ho]) (sliceA_sound h (hv x) (OV_map hv l) (OV_map hv hh) (OV_map hv m) he)
  | makeInterface t x =>
    rw [ho] at hc any
    simp only [compA, AI.look.injEq] at hc; subst hc
    exact any (fun w' => by unfold execOp; rw [ho]) (ifaceA_sound (hv x) he)
  | makeFunc fn fs cs =>
    rw [ho] at hc any
    simp only [compA, AI.look.injEq] at hc; subst hc
    simp only [Option.some.injEq] at he; subst he
    refine ⟨.func fn ⟨fs.toList.map a.eval⟩ ⟨cs.toList.map a.eval⟩, fun w' _ => ?_, .func (VRs.map _ _ hv _) (VRs.map _ _ hv _)⟩
    unfold execOp; rw [ho]
    have e : ∀ (l : Array Operand), l.map a.eval = ⟨l.toList.map a.eval⟩ := fun l => by apply Array.ext'; simp
    simp only [e]
    rfl
  | lookup t m k ok =>
    rw [ho] at hc any
    simp only [compA, AI.look.injEq] at hc; subst hc
    exact any (fun w' => by unfold execOp; rw [ho]) (lo (lookupA_sound h (hv m) (hv k) he) rfl)
  | typeAssert x xt t ok =>
    rw [ho] at hc any
    simp only [compA, AI.look.injEq] at hc; subst hc
    exact any (fun w' => by unfold execOp; rw [ho]) (assertA_sound (hv x) he)
  | call c =>
    rw [ho] at hc any
    obtain ⟨callee, args, tys⟩ := c
    have harg : ∀ (b : Builtin), callee = .builtin b → ∀ w', (execOp a.eval o).run P w' =
        (builtin b tys o.type (args.map fun | .const _ => true | _ => false) (args.map a.eval)).run P w' := by
      intro b hb w'
      subst hb
      unfold execOp; rw [ho]
      rfl
    cases callee with
    | builtin b =>
      have mm : ∀ (isMax : Bool), maxMinA isMax (args.toList.map ρ) = some v → (∀ w', (execOp a.eval o).run P w' = (do pure (Next.value (← (if isMax then Builtin.max_ tys o.type (args.map a.eval) else Builtin.min_ tys o.type (args.map a.eval)))) : Sem Next).run P w') →
          ∃ u, (∀ w', (kindA P (.call ⟨.builtin b, args, tys⟩) == 0) = true ∨ Below w.heap.size w w' → (execOp a.eval o).run P w' = .ok (.value u) w') ∧ VR β v u := by
        intro isMax hm he
        refine any he ?_
        have e : args.map a.eval = (args.toList.map a.eval).toArray := by apply Array.ext'; simp
        rw [e]
        exact maxMinA_sound tys o.type (VRs.map _ _ hv _) hm
      cases b with
      | len =>
        simp only [compA, AI.look.injEq] at hc; subst hc
        simp only [callLookA] at he
        split at he
        · rename_i x t r h2 h3
          have ha : args = #[x] := by apply Array.ext'; simpa using h2
          have h0 : tys[0]? = some t := by
            rw [← Array.getElem?_toList, h3]; rfl
          subst ha
          refine any (s := Builtin.len_ tys o.type #[a.eval x]) (fun w' => ?_) (lo (lenA_sound h tys o.type h0 (hv x) he) rfl)
          rw [harg .len rfl, show Array.map a.eval #[x] = #[a.eval x] by simp]; rfl
        · cases he
      | max =>
        simp only [compA, AI.look.injEq] at hc; subst hc
        exact mm true he fun w' => by rw [harg .max rfl]; rfl
      | min =>
        simp only [compA, AI.look.injEq] at hc; subst hc
        exact mm false he fun w' => by rw [harg .min rfl]; rfl
      | _ => simp only [compA, reduceCtorEq] at hc
    | _ => simp only [compA, reduceCtorEq] at hc
  | _ => rw [ho] at hc; simp only [compA, reduceCtorEq] at hc

/-- A computation makes one block, of which x says the truth, and gives a value by its number, of which f says the truth by whatever number. -/
def Makes (P : Program) (s : Sem Next) (β : Bm) (x : AObj) (f : Nat → Value) : Prop :=
  ∃ (ob : Go.Obj) (g : Nat → Value), (∀ w, s.run P w = .ok (.value (g w.heap.size)) (w.alloc ob)) ∧
    (∀ (β' : Bm) (w : World) (id : Nat), BLe β β' → β' id = some (newPl P w ob) → OR β' (w.alloc ob) (newPl P w ob) x ∧ VR β' (f id) (g w.heap.size)) ∧ x.live = true ∧
    (∀ w c e, x = .cells c e → (newPl P w ob).wd = P.cellsOf e)

theorem cells_new {c us : List Value} {e : TypeId} (hc : VRs β c us) : ∀ β' (w : World) (id : Nat), BLe β β' → β' id = some (newPl P w (.cells us.toArray e)) → OR β' (w.alloc (.cells us.toArray e)) (newPl P w (.cells us.toArray e)) (.cells c e) := by
  intro β' w id hle hid
  refine ⟨us.toArray, ⟨_, heap_alloc_new w _, .zero _ _⟩, by simp [newPl, hc.length], fun i v hv => ?_⟩
  obtain ⟨u, hu, hr⟩ := hc.get hv
  exact ⟨u, by simpa [newPl] using hu, hr.up hle⟩

theorem ptr_new (β' : Bm) (w : World) (ob : Go.Obj) (id : Nat) (hid : β' id = some (newPl P w ob)) : VR β' (ptrTo id) (.pointer (some ⟨w.heap.size, 0, none⟩)) := by
  have := VR.ptr (i := 0) hid
  rw [newPl_b, newPl_lo] at this
  exact this

theorem wd_new (c : Array Value) (l : List Value) (e : TypeId) : ∀ (w : World) c' e', AObj.cells l e = .cells c' e' → (newPl P w (.cells c e)).wd = P.cellsOf e' := by
  intro w c' e' h
  cases h
  rfl

theorem zerosA_length (z : List Value) : ∀ n, (zerosA z n).length = n * z.length
  | 0 => by simp [zerosA]
  | n + 1 => by simp [zerosA, zerosA_length z n, Nat.add_mul, Nat.add_comm]

theorem zerosA_get (z : List Value) : ∀ (n j : Nat), j < n * z.length → (zerosA z n)[j]? = z[j % z.length]?
  | 0, j, h => by simp at h
  | n + 1, j, h => by
    unfold zerosA
    rcases Nat.lt_or_ge j z.length with hj | hj
    · rw [List.getElem?_append_left hj, Nat.mod_eq_of_lt hj]
    · rw [List.getElem?_append_right hj, zerosA_get z n (j - z.length) (by rw [Nat.add_mul] at h; omega)]
      congr 1
      rw [← Nat.mod_eq_sub_mod hj]

theorem zeros_array (z : List Value) (n : Nat) (v : Value) (hv : v.cells.toList = z) : (Array.range (n * z.length)).map (fun q => v.cells[q % v.cells.size]!) = (zerosA z n).toArray := by
  have hs : v.cells.size = z.length := by rw [← hv]; simp
  apply Array.ext'
  apply List.ext_getElem?
  intro j
  simp only [Array.toList_map, Array.toList_range, List.getElem?_map]
  rcases Nat.lt_or_ge j (n * z.length) with hj | hj
  · have hpos : 0 < z.length := Nat.pos_of_ne_zero fun e => by rw [e] at hj; simp at hj
    have hm : j % z.length < z.length := Nat.mod_lt _ hpos
    rw [List.getElem?_range hj, zerosA_get z n j hj, List.getElem?_eq_getElem hm]
    simp only [Option.map_some]
    have : j % v.cells.size < v.cells.size := by rw [hs]; exact hm
    rw [getElem!_pos v.cells _ this]
    congr 1
    simp only [hs]
    subst hv
    simp
  · rw [List.getElem?_eq_none (by simpa using hj), List.getElem?_eq_none (by rw [zerosA_length]; exact hj)]
    rfl

theorem wrap_i64 {n : Nat} (h1 : n ≤ 281474976710656) : IntKind.i64.wrap (n : Int) = n := wrap_small _ rfl (by omega) (by omega)

theorem make_sound {ρ : Ev} {a : Act} (hv : ∀ x, VR β (ρ x) (a.eval x)) {o : Oper} {f : Ev → Option (AObj × (Nat → Value))} (hc : compA P o.op = .make f) {x : AObj} {g : Nat → Value} (he : f ρ = some (x, g)) :
    Makes P (execOp a.eval o) β x g := by
  cases ho : o.op with
  | alloc t =>
    rw [ho] at hc
    simp only [compA, AI.make.injEq] at hc; subst hc
    simp only [makeOp] at he
    cases hz : zeroA P t with
    | none => simp [hz] at he
    | some z =>
      simp only [hz] at he
      obtain ⟨hone, he⟩ := some_of_cond he
      simp only [Option.some.injEq, Prod.mk.injEq] at he
      obtain ⟨rfl, rfl⟩ := he
      obtain ⟨i, zv, hi, hzi, hzc, hzr, _⟩ := zeroA_sound (β := β) hz
      refine ⟨.cells z.toArray t, fun n => .pointer (some ⟨n, 0, none⟩), fun w => ?_, fun β' w id hle hid => ⟨cells_new hzr β' w id hle hid, ptr_new β' w _ id hid⟩, rfl, wd_new _ _ _⟩
      have hzc' : zv.cells = z.toArray := by apply Array.ext'; simpa using hzc
      unfold execOp; rw [ho]
      simp only
      unfold Instr.alloc
      rw [Sem.run_bind, Sem.run_bind, run_zeroValue' hi hzi, Result.andThen_ok]
      simp [newVar, newRow, hzc']
  | box t y =>
    rw [ho] at hc
    simp only [compA, AI.make.injEq] at hc; subst hc
    simp only [makeOp] at he
    obtain ⟨hone, he⟩ := some_of_cond he
    simp only [Option.some.injEq, Prod.mk.injEq] at he
    obtain ⟨rfl, rfl⟩ := he
    have hnb : nbot (ρ y) = true := by
      cases hy : ρ y with
      | float k b => rw [hy] at hone; simp [cellsV, oneC] at hone
      | _ => rfl
    have hr := cellsV_rel (hv y) hnb
    refine ⟨.cells (a.eval y).cells.toList.toArray t, fun n => .pointer (some ⟨n, 0, none⟩), fun w => ?_, fun β' w id hle hid => ⟨cells_new hr β' w id hle hid, ptr_new β' w _ id hid⟩, rfl, wd_new _ _ _⟩
    unfold execOp; rw [ho]
    simp [Instr.box, newVar, newRow]
  | makeSlice t l c =>
    rw [ho] at hc
    simp only [compA, AI.make.injEq] at hc; subst hc
    simp only [makeOp] at he
    unfold makeSliceA at he
    split at he
    · rename_i e l' c' hu hl hcc
      cases hi : P.info? e with
      | none => simp [hi] at he
      | some ei =>
        cases hz : zeroA P e with
        | none => simp [hi, hz] at he
        | some z =>
          simp only [hi, hz] at he
          obtain ⟨hg, he⟩ := some_of_cond he
          simp only [Bool.and_eq_true, Nat.blt_eq] at hg
          obtain ⟨hzl, hpos, ⟨hlc, hroom⟩, hby, hone⟩ := hg
          have hzl := Nat.eq_of_beq_eq_true hzl
          have hlc := Nat.le_of_ble_eq_true hlc
          have hroom := Nat.le_of_ble_eq_true hroom
          simp only [Option.some.injEq, Prod.mk.injEq] at he
          obtain ⟨rfl, rfl⟩ := he
          obtain ⟨i', zv, hi', hzi, hzc, hzr, _⟩ := zeroA_sound (β := β) hz
          rw [hi] at hi'; simp only [Option.some.injEq] at hi'; subst hi'
          have hl2 := hv l
          rw [hl] at hl2
          have hc2 := hv c
          rw [hcc] at hc2
          generalize hvl : a.eval l = vl at hl2
          generalize hvc : a.eval c = vc at hc2
          cases hl2
          cases hc2
          have hcs : c' ≤ 281474976710656 := Nat.le_trans (Nat.le_mul_of_pos_right _ hby) hroom
          have hcm : c' ≤ maxLen := by simp only [maxLen]; omega
          have hall : VRs β (zerosA z c') (zerosA z c') := by
            have : ∀ n, VRs β (zerosA z n) (zerosA z n) := by
              intro n
              induction n with
              | zero => exact .nil
              | succ n ih => exact hzr.append ih
            exact this c'
          refine ⟨.cells (zerosA z c').toArray e, fun n => .slice (some ⟨n, 0, none⟩) l' c', fun w => ?_, fun β' w id hle hid => ⟨cells_new hall β' w id hle hid, ?_⟩, rfl, wd_new _ _ _⟩
          · unfold execOp; rw [ho]
            simp only [hvl, hvc]
            unfold Instr.makeSlice
            rw [Sem.run_bind, Sem.run_bind, run_underlying hu, Result.andThen_ok]
            simp only [asInt, asIntOf, pure_bind]
            rw [Sem.run_bind, run_typeInfo' hi, Result.andThen_ok]
            have hwl : IntKind.i64.wrap (Int.ofNat l') = (l' : Int) := wrap_i64 (by omega)
            have hwc : IntKind.i64.wrap (Int.ofNat c') = (c' : Int) := wrap_i64 hcs
            simp only [hwl, hwc]
            have hbig : ¬ ((ei.bytes : Int) * (c' : Int) > 2 ^ 48) := by
              have : (ei.bytes : Int) * (c' : Int) = ((c' * ei.bytes : Nat) : Int) := by
                rw [Int.natCast_mul, Int.mul_comm]
              rw [this]; omega
            rw [if_neg]
            · rw [Sem.run_bind, run_askRoom, Result.andThen_ok, Sem.run_bind, run_sizeOf' hi, Result.andThen_ok]
              have hcn : ((c' : Int)).toNat = c' := by simp
              have hln : ((l' : Int)).toNat = l' := by simp
              simp only [hcn, hln]
              by_cases hz0 : c' * ei.size = 0
              · rw [if_pos hz0]
                have hc0 : c' = 0 := by
                  rcases Nat.mul_eq_zero.1 hz0 with h | h
                  · exact h
                  · omega
                subst hc0
                have hr0 : Array.range 0 = #[] := rfl
                simp [newRow, zerosA, hr0]
              · rw [if_neg hz0]
                have := zeros_array z c' zv hzc
                rw [hzl] at this
                simp [run_zeroValue' hi hzi, newRow, this]
            · simp only [gt_iff_lt, Bool.or_eq_true, decide_eq_true_eq, not_or, Int.not_lt]
              exact ⟨⟨⟨by omega, by omega⟩, by omega⟩, by omega⟩
          · exact .sl (i := 0) hid hlc (by omega) (fun _ => by omega) (by omega) hcm (by omega)
    · cases he
  | buildSlice t len parts =>
    rw [ho] at hc
    simp only [compA, AI.make.injEq] at hc; subst hc
    simp only [makeOp] at he
    unfold buildSliceA at he
    split at he
    · rename_i e hu
      cases hi : P.info? e with
      | none => simp [hi] at he
      | some ei =>
        cases hz : zeroA P e with
        | none => simp [hi, hz] at he
        | some z =>
          simp only [hi, hz] at he
          obtain ⟨hg, he⟩ := some_of_cond he
          simp only [Bool.and_eq_true, Nat.blt_eq] at hg
          obtain ⟨hzl, hpos, hsmall⟩ := hg
          have hzl := Nat.eq_of_beq_eq_true hzl
          have hsmall := Nat.le_of_ble_eq_true hsmall
          cases hf : fillA (fun k => some (k * ei.size, ei.size)) ρ (zerosA z len) parts.toList with
          | none => simp [hf] at he
          | some l =>
            simp only [hf] at he
            obtain ⟨hone, he⟩ := some_of_cond he
            simp only [Option.some.injEq, Prod.mk.injEq] at he
            obtain ⟨rfl, rfl⟩ := he
            obtain ⟨i', zv, hi', hzi, hzc, hzr, _⟩ := zeroA_sound (β := β) hz
            rw [hi] at hi'; simp only [Option.some.injEq] at hi'; subst hi'
            have hall : VRs β (zerosA z len) (zerosA z len) := by
              have : ∀ n, VRs β (zerosA z n) (zerosA z n) := by
                intro n
                induction n with
                | zero => exact .nil
                | succ n ih => exact hzr.append ih
              exact this len
            obtain ⟨us', hfu, hr⟩ := fillA_sound hv hall hf
            have hml : len ≤ maxLen := by
              have : len * 1 ≤ len * ei.size := Nat.mul_le_mul_left _ hpos
              simp only [maxLen]; omega
            refine ⟨.cells us'.toArray e, fun n => .slice (some ⟨n, 0, none⟩) len len, fun w => ?_, fun β' w id hle hid => ⟨cells_new hr β' w id hle hid, ?_⟩, rfl, wd_new _ _ _⟩
            · unfold execOp; rw [ho]
              simp only
              unfold Instr.buildSlice
              rw [Sem.run_bind, Sem.run_bind, run_underlying hu, Result.andThen_ok]
              simp only
              rw [Sem.run_bind, run_sizeOf' hi, Result.andThen_ok, if_neg (by omega)]
              have hza := zeros_array z len zv hzc
              rw [hzl] at hza
              have hparts : (Array.map (fun (x : Nat × Operand) => (x.fst, a.eval x.snd)) parts).toList = List.map (fun p => (p.1, a.eval p.2)) parts.toList := by simp
              by_cases hz0 : len * ei.size = 0
              · rw [if_pos hz0]
                have hl0 : len = 0 := by
                  rcases Nat.mul_eq_zero.1 hz0 with h | h
                  · exact h
                  · omega
                subst hl0
                simp only [zerosA] at hfu
                have hr0 : Array.range 0 = #[] := rfl
                simp [hfu, newRow, hr0]
              · rw [if_neg hz0]
                simp only [bind_assoc, pure_bind]
                rw [Sem.run_bind, run_zeroValue' hi hzi, Result.andThen_ok]
                simp only [hza]
                simp [hfu, newRow]
            · exact .sl (i := 0) hid (Nat.le_refl _) (by omega) (fun _ => by omega) (by omega) hml (by omega)
    · cases he
  | makeMap t r =>
    rw [ho] at hc
    simp only [compA, AI.make.injEq] at hc; subst hc
    cases r with
    | some r => simp only [makeOp, reduceCtorEq] at he
    | none =>
      simp only [makeOp, Option.some.injEq, Prod.mk.injEq] at he
      obtain ⟨rfl, rfl⟩ := he
      refine ⟨.map #[] 0, fun n => .map (some n), fun w => ?_, fun β' w id hle hid => ⟨⟨#[], heap_alloc_new w _, .nil⟩, .map hid⟩, rfl, fun _ _ _ h => by cases h⟩
      unfold execOp; rw [ho]
      rfl
  | range t y =>
    rw [ho] at hc
    simp only [compA, AI.make.injEq] at hc; subst hc
    simp only [makeOp] at he
    split at he
    · rename_i s hu hy
      simp only [Option.some.injEq, Prod.mk.injEq] at he
      obtain ⟨rfl, rfl⟩ := he
      have hy2 := hv y
      rw [hy] at hy2
      generalize hvy : a.eval y = vy at hy2
      cases hy2
      refine ⟨.stringIter s 0, fun n => .pointer (some ⟨n, 0, none⟩), fun w => ?_, fun β' w id hle hid => ⟨⟨rfl, heap_alloc_new w _⟩, ptr_new β' w _ id hid⟩, rfl, fun _ _ _ h => by cases h⟩
      unfold execOp; rw [ho]
      simp only [hvy]
      unfold Instr.range
      rw [Sem.run_bind, Sem.run_bind, run_underlying hu, Result.andThen_ok]
      rfl
    · cases he
  | call c =>
    rw [ho] at hc
    simp only [compA] at hc
    split at hc
    · split at hc <;> cases hc
    · cases hc
  | convert s d y =>
    rw [ho] at hc
    simp only [compA] at hc
    cases hb : isBytesC P s d with
    | true => rw [hb] at hc; cases hc
    | false => rw [hb] at hc; cases hc
  | _ => rw [ho] at hc; simp only [compA, reduceCtorEq] at hc

end
end Go.Am
