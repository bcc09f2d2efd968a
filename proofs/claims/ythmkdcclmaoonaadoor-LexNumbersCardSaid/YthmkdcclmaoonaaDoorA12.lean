/- One operation: what the store's run says is true of the model's. No conditions. -/
import Derived.Test.YthmkdcclmaoonaaDoorA11
import Derived.Tactics
import Derived.Orders
set_option linter.unusedVariables false
set_option linter.unusedSimpArgs false
namespace Go.Am
open Go.RowKit

def Up (w w' : World) : Prop := Below w.heap.size w w'

theorem Up.refl (w : World) : Up w w := Below.refl _ _
theorem Up.trans {a b c : World} (h : Up a b) (k : Up b c) : Up a c := Below.trans h (Below.mono k h.size)

/-- The store's numbers. -/
structure Lo (H : FW) : Prop where
  big : 512 ≤ H.next
  out : ∀ o, H.next ≤ o → H.heap.get o = none

section
variable {P : Program} {R : Nat} {F : Nat → World → Prop} {β : Bm} {H : FW} {w : World} {q : Bool}

theorem kind_look {op : Op} {f : Ev → FW → Option Value} (h : compA P op = .look f) : kindA P op = 0 ∨ kindA P op = 1 := by
  by_cases hcv : ∃ s d x, op = .convert s d x
  · obtain ⟨s, d, x, rfl⟩ := hcv
    simp only [compA] at h
    cases hb : isBytesC P s d with
    | true => rw [hb] at h; cases h
    | false => exact .inr (by simp only [kindA, hb, cond_false])
  cases op <;> first | exact absurd ⟨_, _, _, rfl⟩ hcv | (simp only [compA, reduceCtorEq] at h <;> first | (left; rfl) | (right; rfl) | skip)
  rename_i c
  obtain ⟨callee, args, tys⟩ := c
  cases callee with
  | builtin b => cases b <;> simp only [compA, reduceCtorEq] at h <;> first | (left; rfl) | (right; rfl)
  | _ => simp only [compA, reduceCtorEq] at h

theorem kind_make {op : Op} {f : Ev → Option (AObj × (Nat → Value))} (h : compA P op = .make f) : kindA P op = 2 := by
  by_cases hcv : ∃ s d x, op = .convert s d x
  · obtain ⟨s, d, x, rfl⟩ := hcv
    simp only [compA] at h
    cases hb : isBytesC P s d with
    | true => rw [hb] at h; cases h
    | false => rw [hb] at h; cases h
  cases op <;> first | exact absurd ⟨_, _, _, rfl⟩ hcv | (simp only [compA, reduceCtorEq] at h <;> first | rfl | skip)
  rename_i c
  obtain ⟨callee, args, tys⟩ := c
  cases callee with
  | builtin b => cases b <;> simp only [compA, reduceCtorEq] at h
  | _ => simp only [compA, reduceCtorEq] at h

theorem kind_write {op : Op} {f : Nat → Ev → FW → Option (Value × FW)} (h : compA P op = .write f) : kindA P op = 3 := by
  by_cases hcv : ∃ s d x, op = .convert s d x
  · obtain ⟨s, d, x, rfl⟩ := hcv
    simp only [compA] at h
    cases hb : isBytesC P s d with
    | true => simp only [kindA, hb, cond_true]
    | false => rw [hb] at h; cases h
  cases op <;> first | exact absurd ⟨_, _, _, rfl⟩ hcv | (simp only [compA, reduceCtorEq] at h <;> first | rfl | skip)
  rename_i c
  obtain ⟨callee, args, tys⟩ := c
  cases callee with
  | builtin b => cases b <;> simp only [compA, reduceCtorEq] at h <;> rfl
  | _ => simp only [compA, reduceCtorEq] at h

theorem kind_call {op : Op} {f : Ev → Option (FuncId × List Value)} (h : compA P op = .call f) : kindA P op = 4 ∧ ∃ c, op = .call c ∧ f = fun ρ => calleeA P ρ c := by
  by_cases hcv : ∃ s d x, op = .convert s d x
  · obtain ⟨s, d, x, rfl⟩ := hcv
    simp only [compA] at h
    cases hb : isBytesC P s d with
    | true => rw [hb] at h; cases h
    | false => rw [hb] at h; cases h
  cases op <;> first | exact absurd ⟨_, _, _, rfl⟩ hcv | simp only [compA, reduceCtorEq] at h
  rename_i c
  obtain ⟨callee, args, tys⟩ := c
  cases callee with
  | builtin b => cases b <;> simp only [compA, reduceCtorEq] at h
  | _ =>
    simp only [compA, AI.call.injEq] at h
    exact ⟨rfl, _, rfl, h.symm⟩

/-- A write. -/
theorem write_sound (h : WR P F β H w) (hF : ∀ R' w0, F R' w0 → R' ≤ R) (h5 : 512 ≤ H.next) {ρ : Ev} {a : Act} (hv : ∀ x, VR β (ρ x) (a.eval x)) {o : Oper} {f : Nat → Ev → FW → Option (Value × FW)} (hc : compA P o.op = .write f)
    {v : Value} {H' : FW} (he : f R ρ H = some (v, H')) :
    ∃ w' β', ((∃ u, (execOp a.eval o).run P w = .ok (.value u) w' ∧ VR β' v u) ∨ ((execOp a.eval o).run P w = .ok .skip w' ∧ v = undef)) ∧ BLe β β' ∧ WR P F β' H' w' := by
  have unit : ∀ {r : Option FW} {s : Sem Unit}, unit1 r = some (v, H') → (∀ H1, r = some H1 → ∃ w', s.run P w = .ok () w' ∧ WR P F β H1 w') →
      ((execOp a.eval o).run P w = (do s; pure Next.skip : Sem Next).run P w) →
      ∃ w' β', ((∃ u, (execOp a.eval o).run P w = .ok (.value u) w' ∧ VR β' v u) ∨ ((execOp a.eval o).run P w = .ok .skip w' ∧ v = undef)) ∧ BLe β β' ∧ WR P F β' H' w' := by
    intro r s hu hs hrun
    cases r with
    | none => cases hu
    | some H1 =>
      simp only [unit1, Option.some.injEq, Prod.mk.injEq] at hu
      obtain ⟨rfl, rfl⟩ := hu
      obtain ⟨w', h1, h2⟩ := hs _ rfl
      refine ⟨w', β, .inr ⟨?_, rfl⟩, BLe.refl _, h2⟩
      rw [hrun, Sem.run_bind, h1]
      rfl
  cases ho : o.op with
  | store t x y =>
    rw [ho] at hc
    simp only [compA, AI.write.injEq] at hc; subst hc
    exact unit he (fun H1 h1 => storeA_sound h hF (hv x) (hv y) h1) (by unfold execOp; rw [ho])
  | convert s d x =>
    rw [ho] at hc
    simp only [compA] at hc
    cases hb : isBytesC P s d with
    | false => rw [hb] at hc; cases hc
    | true =>
      rw [hb] at hc
      simp only [cond_true, AI.write.injEq] at hc; subst hc
      obtain ⟨u, w', β', h1, hr, hbl, hw, _⟩ := bytesA_sound h h5 hb (hv x) he
      refine ⟨w', β', .inl ⟨u, ?_, hr⟩, hbl, hw⟩
      unfold execOp; rw [ho]
      simp only
      rw [Sem.run_bind, h1]
      rfl
  | mapUpdate t m k x =>
    rw [ho] at hc
    simp only [compA, AI.write.injEq] at hc; subst hc
    exact unit he (fun H1 h1 => by obtain ⟨w', a1, a2, _⟩ := mapUpdateA_sound h hF (hv m) (hv k) (hv x) h1; exact ⟨w', a1, a2⟩) (by unfold execOp; rw [ho])
  | insert t m k x =>
    rw [ho] at hc
    simp only [compA, AI.write.injEq] at hc; subst hc
    exact unit he (fun H1 h1 => by obtain ⟨w', a1, a2, _⟩ := mapUpdateA_sound h hF (hv m) (hv k) (hv x) h1; exact ⟨w', a1, a2⟩) (by unfold execOp; rw [ho])
  | next it s =>
    rw [ho] at hc
    simp only [compA, AI.write.injEq] at hc; subst hc
    obtain ⟨u, w', h1, h2, h3, _⟩ := nextA_sound h hF o.type (hv it) he
    refine ⟨w', β, .inl ⟨u, ?_, h2⟩, BLe.refl _, h3⟩
    unfold execOp; rw [ho]
    simp only
    rw [Sem.run_bind, h1]
    rfl
  | call c =>
    rw [ho] at hc
    obtain ⟨callee, args, tys⟩ := c
    have harg : ∀ (b : Builtin), callee = .builtin b → ∀ w', (execOp a.eval o).run P w' =
        (builtin b tys o.type (args.map fun | .const _ => true | _ => false) (args.map a.eval)).run P w' := by
      intro b hb w'
      subst hb
      unfold execOp; rw [ho]
      rfl
    have two : ∀ {x y : Operand}, args.toList = [x, y] → args.map a.eval = #[a.eval x, a.eval y] := by
      intro x y h2
      have : args = #[x, y] := by apply Array.ext'; simpa using h2
      subst this
      simp
    have one : ∀ {x : Operand}, args.toList = [x] → args.map a.eval = #[a.eval x] := by
      intro x h2
      have : args = #[x] := by apply Array.ext'; simpa using h2
      subst this
      simp
    have ty0 : ∀ {t : TypeId} {r : List TypeId}, tys.toList = t :: r → tys[0]? = some t := by
      intro t r h3
      rw [← Array.getElem?_toList, h3]; rfl
    have ty1 : ∀ {t t' : TypeId} {r : List TypeId}, tys.toList = t :: t' :: r → tys[1]? = some t' := by
      intro t t' r h3
      rw [← Array.getElem?_toList, h3]; rfl
    cases callee with
    | builtin b =>
      cases b with
      | append =>
        simp only [compA, AI.write.injEq] at hc; subst hc
        simp only [callWriteA] at he
        split at he
        · rename_i s x t t' r h2 h3
          obtain ⟨u, w', β', h1, hr, hb, hw, _⟩ := appendA_sound (ty := o.type) h hF h5 tys (ty0 h3) (ty1 h3) (hv s) (hv x) he
          refine ⟨w', β', .inl ⟨u, ?_, hr⟩, hb, hw⟩
          rw [harg .append rfl, two h2]
          show (do pure (Next.value (← Builtin.append_ tys o.type #[a.eval s, a.eval x])) : Sem Next).run P w = _
          rw [Sem.run_bind, h1]
          rfl
        · cases he
      | copy =>
        simp only [compA, AI.write.injEq] at hc; subst hc
        simp only [callWriteA] at he
        split at he
        · rename_i s x t r h2 h3
          obtain ⟨w', h1, hr, hw, _⟩ := copyA_sound (ty := o.type) h hF tys (ty0 h3) (hv s) (hv x) he
          refine ⟨w', β, .inl ⟨v, ?_, hr⟩, BLe.refl _, hw⟩
          rw [harg .copy rfl, two h2]
          show (do pure (Next.value (← Builtin.copy_ tys o.type #[a.eval s, a.eval x])) : Sem Next).run P w = _
          rw [Sem.run_bind, h1]
          rfl
        · cases he
      | clear =>
        simp only [compA, AI.write.injEq] at hc; subst hc
        simp only [callWriteA] at he
        split at he
        · rename_i x t r h2 h3
          obtain ⟨w', h1, hr, hw, _⟩ := clearA_sound (ty := o.type) h hF tys (ty0 h3) (hv x) he
          refine ⟨w', β, .inl ⟨v, ?_, hr⟩, BLe.refl _, hw⟩
          rw [harg .clear rfl, one h2]
          show (do pure (Next.value (← Builtin.clear_ tys o.type #[a.eval x])) : Sem Next).run P w = _
          rw [Sem.run_bind, h1]
          rfl
        · cases he
      | len => simp only [compA, reduceCtorEq] at hc
      | max => simp only [compA, reduceCtorEq] at hc
      | min => simp only [compA, reduceCtorEq] at hc
      | _ =>
        simp only [compA, AI.write.injEq] at hc; subst hc
        simp only [callWriteA, reduceCtorEq] at he
    | _ => simp only [compA, reduceCtorEq] at hc
  | _ =>
    rw [ho] at hc
    simp only [compA, AI.write.injEq, reduceCtorEq] at hc
    try (subst hc; simp only [writeOp, reduceCtorEq] at he)

/-! The store's own numbers. -/

theorem Lo.put {H : FW} (h : Lo H) {r : Nat} {x : AObj} (hok : okN r = true) (hr : (H.heap.get r).isSome = true) : Lo (H.put r x) := by
  refine ⟨h.big, fun o ho => ?_⟩
  have hg : (H.put r x).heap.get o = if o = r then some x else H.heap.get o := T.get_set _ _ _ hok
  rw [hg]
  split
  · rename_i e
    subst e
    have := h.out o ho
    rw [this] at hr; cases hr
  · exact h.out o ho

theorem Lo.lay {H H' : FW} (h : Lo H) {R : Nat} {a : Addr} {l : List Value} (he : H.lay R a l = some H') : Lo H' ∧ H'.next = H.next := by
  unfold FW.lay at he
  split at he
  · cases he
  · obtain ⟨hg, he⟩ := some_of_cond he
    simp only [Bool.and_eq_true] at hg
    split at he
    · rename_i c e hc
      obtain ⟨_, he⟩ := some_of_cond he
      simp only [Option.some.injEq] at he
      subst he
      refine ⟨h.put hg.2 ?_, rfl⟩
      unfold FW.cells at hc
      split at hc
      · rename_i hh; rw [hh]; rfl
      · cases hc
    · cases he

theorem Lo.push {H H' : FW} (h : Lo H) {x : AObj} {id next : Nat} (hn : H.next ≤ next) (hid : id < next) (he : FW.push ⟨H.heap, id⟩ x = some H') : Lo ⟨H'.heap, next⟩ ∧ H'.heap = H.heap.set id x ∧ okN id = true ∧ H.heap.get id = none ∧ H'.next = id + 1 := by
  unfold FW.push at he
  simp only at he
  split at he
  · cases he
  · rename_i hg
    obtain ⟨hok, he⟩ := some_of_cond he
    simp only [Option.some.injEq] at he
    subst he
    refine ⟨⟨Nat.le_trans h.big hn, fun o ho => ?_⟩, rfl, hok, hg, rfl⟩
    have : (H.heap.set id x).get o = if o = id then some x else H.heap.get o := T.get_set _ _ _ hok
    have ho : next ≤ o := ho
    show (H.heap.set id x).get o = none
    rw [this, if_neg (by omega)]
    exact h.out o (by omega)

theorem Lo.grown {H H' : FW} (h : Lo H) {c : List Value} {e n : Nat} {v : Value} (he : grownA H c e n = some (v, H')) : Lo H' ∧ H.next ≤ H'.next := by
  unfold grownA at he
  split at he
  · rename_i H1 hp
    simp only [Option.some.injEq, Prod.mk.injEq] at he
    obtain ⟨_, rfl⟩ := he
    have hp' : FW.push ⟨H.heap, H.next⟩ (.cells c e) = some H1 := hp
    obtain ⟨h1, h2, _, _, h3⟩ := h.push (Nat.le_succ _) (Nat.lt_succ_self _) hp'
    obtain ⟨hp1, n1⟩ := H1
    simp only at h3
    subst h3
    exact ⟨h1, Nat.le_succ _⟩
  · cases he

theorem Lo.appendTo {H H' : FW} (h : Lo H) {R e size bytes n c m : Nat} {a : Addr} {news : List Value} {v : Value} (he : appendTo R e size bytes a n c m news H = some (v, H')) : Lo H' ∧ H.next ≤ H'.next := by
  unfold Am.appendTo at he
  cases hb : Nat.ble (n + m) (c / 2) with
  | true =>
    rw [hb, cond_true] at he
    split at he
    · rename_i H1 hl
      obtain ⟨_, he⟩ := some_of_cond he
      simp only [Option.some.injEq, Prod.mk.injEq] at he
      obtain ⟨_, rfl⟩ := he
      obtain ⟨h1, h2⟩ := h.lay hl
      exact ⟨h1, by omega⟩
    · cases he
  | false =>
    rw [hb, cond_false] at he
    split at he
    · rename_i olds cc e' hrow hcells
      obtain ⟨_, he⟩ := some_of_cond he
      obtain ⟨_, he⟩ := some_of_cond he
      cases hev : Nat.beq (c % 2) 0 with
      | true => rw [hev, cond_true] at he; exact h.grown he
      | false =>
        rw [hev, cond_false] at he
        obtain ⟨hg, he⟩ := some_of_cond he
        simp only [Bool.and_eq_true] at hg
        obtain ⟨_, _, _, hgr, _⟩ := FW.row_cells hrow
        exact (h.put (x := .dead) hg.2.1 (by rw [hgr]; rfl)).grown he
    · cases he

theorem Lo.write {H H' : FW} (h : Lo H) {R : Nat} {ρ : Ev} {op : Op} {f : Nat → Ev → FW → Option (Value × FW)} (hc : compA P op = .write f) {v : Value} (he : f R ρ H = some (v, H')) : Lo H' ∧ H.next ≤ H'.next := by
  have unit : ∀ {r : Option FW}, unit1 r = some (v, H') → r = some H' := by
    intro r hu
    cases r with
    | none => cases hu
    | some H1 => simp only [unit1, Option.some.injEq, Prod.mk.injEq] at hu; rw [hu.2]
  have mapU : ∀ {t m k x}, mapUpdateA P R t m k x H = some H' → Lo H' ∧ H.next ≤ H'.next := by
    intro t m k x he
    unfold mapUpdateA at he
    split at he
    · rename_i kt e r hu
      obtain ⟨hg, he⟩ := some_of_cond he
      simp only [Bool.and_eq_true] at hg
      split at he
      · rename_i kd es clock hkd hmo
        obtain ⟨_, he⟩ := some_of_cond he
        have hs : (H.heap.get r).isSome = true := by
          unfold FW.mapOf at hmo
          split at hmo
          · rename_i hh; rw [hh]; rfl
          · cases hmo
        split at he
        · simp only [Option.some.injEq] at he; subst he; exact ⟨h.put hg.2 hs, Nat.le_refl _⟩
        · simp only [Option.some.injEq] at he; subst he; exact ⟨h.put hg.2 hs, Nat.le_refl _⟩
        · cases he
      · cases he
    · cases he
  cases op with
  | convert s d x =>
    simp only [compA] at hc
    cases hb : isBytesC P s d with
    | false => rw [hb] at hc; cases hc
    | true =>
      rw [hb] at hc
      simp only [cond_true, AI.write.injEq] at hc; subst hc
      unfold bytesA at he
      dsimp only at he
      split at he
      · obtain ⟨_, he⟩ := some_of_cond he
        exact h.grown he
      · cases he
  | store t x y =>
    simp only [compA, AI.write.injEq] at hc; subst hc
    have he := unit he
    unfold storeA at he
    split at he
    · obtain ⟨_, he⟩ := some_of_cond he
      obtain ⟨h1, h2⟩ := h.lay he
      exact ⟨h1, by omega⟩
    · cases he
  | mapUpdate t m k x =>
    simp only [compA, AI.write.injEq] at hc; subst hc
    exact mapU (unit he)
  | insert t m k x =>
    simp only [compA, AI.write.injEq] at hc; subst hc
    exact mapU (unit he)
  | next it s =>
    simp only [compA, AI.write.injEq] at hc; subst hc
    simp only [writeOp] at he
    unfold nextA at he
    split at he
    · split at he
      · rename_i hgr
        obtain ⟨hg, he⟩ := some_of_cond he
        simp only [Bool.and_eq_true] at hg
        rename_i r _ _ bs pos _
        cases hb : Nat.blt pos bs.data.toList.length with
        | true =>
          rw [hb, cond_true] at he
          simp only [Option.some.injEq, Prod.mk.injEq] at he
          obtain ⟨_, rfl⟩ := he
          exact ⟨h.put hg.2 (by rw [hgr]; rfl), Nat.le_refl _⟩
        | false =>
          rw [hb, cond_false] at he
          simp only [Option.some.injEq, Prod.mk.injEq] at he
          obtain ⟨_, rfl⟩ := he
          exact ⟨h, Nat.le_refl _⟩
      · cases he
    · cases he
  | call c =>
    obtain ⟨callee, args, tys⟩ := c
    cases callee with
    | builtin b =>
      cases b with
      | append =>
        simp only [compA, AI.write.injEq] at hc; subst hc
        simp only [callWriteA] at he
        split at he
        · unfold appendA at he
          split at he
          · split at he
            · split at he
              · obtain ⟨_, he⟩ := some_of_cond he
                split at he
                · split at he
                  · simp only [Option.some.injEq, Prod.mk.injEq] at he
                    obtain ⟨_, rfl⟩ := he
                    exact ⟨h, Nat.le_refl _⟩
                  · cases he
                · split at he
                  · obtain ⟨_, he⟩ := some_of_cond he
                    exact h.grown he
                  · exact h.appendTo he
                  · cases he
              · cases he
            · cases he
          · cases he
        · cases he
      | copy =>
        simp only [compA, AI.write.injEq] at hc; subst hc
        simp only [callWriteA] at he
        split at he
        · unfold copyA at he
          split at he
          · split at he
            · simp only [Option.some.injEq, Prod.mk.injEq] at he
              obtain ⟨_, rfl⟩ := he
              exact ⟨h, Nat.le_refl _⟩
            · simp only [Option.some.injEq, Prod.mk.injEq] at he
              obtain ⟨_, rfl⟩ := he
              exact ⟨h, Nat.le_refl _⟩
            · cases he
          · split at he
            · split at he
              · obtain ⟨_, he⟩ := some_of_cond he
                split at he
                · rename_i hl
                  simp only [Option.some.injEq, Prod.mk.injEq] at he
                  obtain ⟨_, rfl⟩ := he
                  obtain ⟨h1, h2⟩ := h.lay hl
                  exact ⟨h1, by omega⟩
                · cases he
              · cases he
            · cases he
          · cases he
        · cases he
      | clear =>
        simp only [compA, AI.write.injEq] at hc; subst hc
        simp only [callWriteA] at he
        split at he
        · unfold clearA at he
          split at he
          · simp only [Option.some.injEq, Prod.mk.injEq] at he
            obtain ⟨_, rfl⟩ := he
            exact ⟨h, Nat.le_refl _⟩
          · simp only [Option.some.injEq, Prod.mk.injEq] at he
            obtain ⟨_, rfl⟩ := he
            exact ⟨h, Nat.le_refl _⟩
          · split at he
            · split at he
              · rename_i hl
                simp only [Option.some.injEq, Prod.mk.injEq] at he
                obtain ⟨_, rfl⟩ := he
                obtain ⟨h1, h2⟩ := h.lay hl
                exact ⟨h1, by omega⟩
              · cases he
            · cases he
          · cases he
        · cases he
      | len => simp only [compA, reduceCtorEq] at hc
      | max => simp only [compA, reduceCtorEq] at hc
      | min => simp only [compA, reduceCtorEq] at hc
      | _ =>
        simp only [compA, AI.write.injEq] at hc; subst hc
        simp only [callWriteA, reduceCtorEq] at he
    | _ => simp only [compA, reduceCtorEq] at hc
  | _ =>
    simp only [compA, AI.write.injEq, reduceCtorEq] at hc
    try (subst hc; simp only [writeOp, reduceCtorEq] at he)

end
end Go.Am
