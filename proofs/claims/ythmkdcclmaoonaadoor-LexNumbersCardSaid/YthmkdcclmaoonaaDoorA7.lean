/- Operations that look: cuts, maps, literals; all of them. No conditions. -/
import Derived.Test.YthmkdcclmaoonaaDoorA6
set_option linter.unusedVariables false
set_option linter.unusedSimpArgs false
namespace Go.Am
open Go.RowKit
section
variable {P : Program} {R : Nat} {F : Nat → World → Prop} {β : Bm} {H : FW} {w : World} {q : Bool}

theorem nat_rel {v v' : Value} {n : Nat} (h : natOf v = some n) (hr : VR β v v') : ∃ k, v' = .int k (n : Int) := by
  unfold natOf at h
  split at h
  · simp only [Option.some.injEq] at h; subst h
    cases hr
    exact ⟨_, rfl⟩
  · cases h

/-- Operands that may be there. -/
inductive OV (β : Bm) : Option Value → Option Value → Prop
  | none : OV β none none
  | some {v v' : Value} (h : VR β v v') : OV β (some v) (some v')

theorem run_sliceBound {k : IntKind} {i y : Nat} {c : BoundsCode} (h : i ≤ y) (w : World) :
    (Instr.sliceBound (.int k i) y c).run P w = .ok i w := by
  unfold Instr.sliceBound
  have : (0 : Int) ≤ (i : Int) ∧ (i : Int) ≤ (y : Int) := ⟨by omega, by omega⟩
  simp only [asIntOf, pure_bind, if_pos this]
  rfl

theorem run_bounds {lo hi lo' hi' : Option Value} {n cap l h : Nat} {isS : Bool} (hlo : OV β lo lo') (hhi : OV β hi hi') (hl : boundOf 0 lo = some l) (hh : boundOf n hi = some h)
    (h1 : l ≤ h) (h2 : h ≤ cap) (w : World) : (Instr.sliceBounds isS n cap lo' hi' none).run P w = .ok (l, h, cap) w := by
  unfold Instr.sliceBounds
  cases hlo with
  | none =>
    simp only [boundOf, Option.some.injEq] at hl
    subst hl
    cases hhi with
    | none =>
      simp only [boundOf, Option.some.injEq] at hh
      subst hh
      simp [pure, Sem.run, bind, Sem.bind]
    | some hr =>
      obtain ⟨k, rfl⟩ := nat_rel hh hr
      simp only [pure_bind, Sem.run_bind, run_sliceBound (P := P) (y := cap) h2, Result.andThen_ok]
      simp [pure, Sem.run]
  | some hr0 =>
    obtain ⟨k0, rfl⟩ := nat_rel hl hr0
    cases hhi with
    | none =>
      simp only [boundOf, Option.some.injEq] at hh
      subst hh
      simp only [pure_bind, Sem.run_bind, run_sliceBound (P := P) h1, Result.andThen_ok]
      simp [pure, Sem.run]
    | some hr =>
      obtain ⟨k, rfl⟩ := nat_rel hh hr
      simp only [pure_bind, Sem.run_bind, run_sliceBound (P := P) (y := cap) h2, Result.andThen_ok]
      simp only [run_sliceBound (P := P) h1, Result.andThen_ok]
      simp [pure, Sem.run]

theorem run_bounds3 {lo lo' : Option Value} {vh vm vh' vm' : Value} {n cap l h m : Nat} {isS : Bool} (hlo : OV β lo lo') (hhi : VR β vh vh') (hmx : VR β vm vm') (hl : boundOf 0 lo = some l) (hh : natOf vh = some h) (hm : natOf vm = some m)
    (h1 : l ≤ h) (h2 : h ≤ m) (h3 : m ≤ cap) (w : World) : (Instr.sliceBounds isS n cap lo' (some vh') (some vm')).run P w = .ok (l, h, m) w := by
  unfold Instr.sliceBounds
  obtain ⟨k, rfl⟩ := nat_rel hh hhi
  obtain ⟨k2, rfl⟩ := nat_rel hm hmx
  cases hlo with
  | none =>
    simp only [boundOf, Option.some.injEq] at hl
    subst hl
    simp only [Sem.run_bind, run_sliceBound (P := P) h3, Result.andThen_ok, run_sliceBound (P := P) h2]
    simp [pure, Sem.run]
  | some hr0 =>
    obtain ⟨k0, rfl⟩ := nat_rel hl hr0
    simp only [Sem.run_bind, run_sliceBound (P := P) h3, Result.andThen_ok, run_sliceBound (P := P) h2, run_sliceBound (P := P) h1]
    simp [pure, Sem.run]

theorem sliceAt_eq {t : TypeId} {d : TypeDesc} (hu : P.underlying t = some d) (hd : ∀ n e, d ≠ .array n e) (x : Value) (lo hi mx : Option Value) (w : World) :
    (Instr.sliceAt t x lo hi mx).run P w = (Instr.slice t x lo hi mx).run P w := by
  unfold Instr.sliceAt
  rw [Sem.run_bind, run_underlying hu, Result.andThen_ok]
  cases d <;> first | rfl | exact absurd rfl (hd _ _)

theorem run_slice_slice {t e : TypeId} {ei : TypeInfo} {a : Option Addr} {n cap l h m : Nat} {vlo vhi vmx : Option Value} (hu : P.underlying t = some (.slice e)) (hei : P.info? e = some ei)
    (hb : (Instr.sliceBounds true n cap vlo vhi vmx).run P w = .ok (l, h, m) w) :
    (Instr.sliceAt t (.slice a n cap) vlo vhi vmx).run P w = .ok (.slice (if m = l then a else a.map (·.add (l * ei.size))) (h - l) (m - l)) w := by
  rw [sliceAt_eq hu (by intro _ _ h; cases h)]
  unfold Instr.slice
  rw [Sem.run_bind, run_underlying hu, Result.andThen_ok]
  simp only
  rw [Sem.run_bind, hb, Result.andThen_ok]
  simp only
  rw [Sem.run_bind, run_sizeOf' hei, Result.andThen_ok]
  rfl

theorem run_slice_array {t e : TypeId} {ei : TypeInfo} {a : Addr} {n l h m : Nat} {vlo vhi : Option Value} (hu : P.underlying t = some (.array n e)) (hei : P.info? e = some ei)
    (hb : (Instr.sliceBounds false n n vlo vhi none).run P w = .ok (l, h, m) w) :
    (Instr.sliceAt t (.pointer (some a)) vlo vhi none).run P w = .ok (.slice (some (if m = l then a else a.add (l * ei.size))) (h - l) (m - l)) w := by
  unfold Instr.sliceAt
  rw [Sem.run_bind, run_underlying hu, Result.andThen_ok]
  simp only [Instr.sureAddr, pure_bind]
  rw [Sem.run_bind, hb, Result.andThen_ok]
  simp only
  rw [Sem.run_bind, run_sizeOf' hei, Result.andThen_ok]
  rfl

/-- A cut, without a new capacity. -/
theorem sliceS_rel (hw : WR P F β H w) {wd : Nat} {a : Addr} {c l h cap : Nat} {k : Pl} {v : Value} (hk : β a.block = some k) (hsp : a.spot = none) (hc : c / 2 ≤ cap) (he : c % 2 = 0 → c / 2 = cap) (hm : cap ≤ maxLen)
    (hr : c % 2 = 1 → k.lo + a.off + cap * k.wd ≤ k.sz) (hs : sliceS P H wd a c l h = some v) : l ≤ h ∧ h ≤ c / 2 ∧ VR β v (.slice (if cap = l then some ⟨k.b, k.lo + a.off, none⟩ else some ((⟨k.b, k.lo + a.off, none⟩ : Addr).add (l * wd))) (h - l) (cap - l)) := by
  unfold sliceS at hs
  obtain ⟨hg, hs⟩ := some_of_cond hs
  simp only [Bool.and_eq_true] at hg
  have h1 := Nat.le_of_ble_eq_true hg.1
  have h2 := Nat.le_of_ble_eq_true hg.2.1
  refine ⟨h1, h2, ?_⟩
  cases hb : Nat.blt l (c / 2) with
  | true =>
    have hlt : l < c / 2 := by simpa [Nat.blt_eq] using hb
    rw [hb, cond_true] at hs
    obtain ⟨hwo, hs⟩ := some_of_cond hs
    simp only [Option.some.injEq] at hs; subst hs
    rw [if_neg (by omega), add_lit, Nat.add_assoc]
    unfold moveA
    refine .sl hk (by omega) (by omega) (fun h0 => by have := he (by omega); omega) (by omega) (by omega) (fun h0 => ?_)
    have hc1 : c % 2 = 1 := by omega
    have hr := hr hc1
    simp only [Bool.or_eq_true] at hwo
    rcases hwo with h9 | h9 | h9
    · have := Nat.eq_of_beq_eq_true h9; omega
    · have := Nat.eq_of_beq_eq_true h9
      subst this
      simpa using hr
    · unfold wdOk at h9
      split at h9
      · rename_i cs e hg
        have hwd := hw.wide _ _ _ _ hg hk
        unfold szOk at h9
        cases hi : P.info? e with
        | none => rw [hi] at h9; cases h9
        | some i =>
          rw [hi] at h9
          have h9 : wd = i.size := Nat.eq_of_beq_eq_true h9
          rw [cellsOf_eq hi] at hwd
          have : l * wd + (cap - l) * k.wd = cap * k.wd := by
            rw [h9, hwd, ← Nat.add_mul]; congr 1; omega
          omega
      · cases h9
  | false =>
    have hge : ¬ l < c / 2 := by
      intro hlt
      have : Nat.blt l (c / 2) = true := by simpa [Nat.blt_eq] using hlt
      rw [hb] at this; cases this
    rw [hb, cond_false] at hs
    have hz : h - l = 0 := by omega
    cases hb2 : Nat.beq (c % 2) 0 with
    | true =>
      rw [hb2, cond_true] at hs
      have hcap := he (Nat.eq_of_beq_eq_true hb2)
      simp only [Option.some.injEq] at hs; subst hs
      have ha : a = ⟨a.block, a.off, none⟩ := by cases a; simp_all
      rw [if_pos (by omega), hz, show cap - l = 0 by omega, ha]
      exact .sl hk (Nat.le_refl _) (Nat.le_refl _) (fun _ => rfl) (Nat.le_refl _) (Nat.zero_le _) (by omega)
    | false =>
      rw [hb2, cond_false] at hs
      simp only [Option.some.injEq] at hs; subst hs
      rw [hz]
      split
      · exact .s1
      · rw [add_lit]; exact .s1

theorem sliceA_sound (hw : WR P F β H w) {t : TypeId} {x x' v : Value} {lo hi mx lo' hi' mx' : Option Value} (hx : VR β x x') (hlo : OV β lo lo') (hhi : OV β hi hi') (hmx : OV β mx mx')
    (he : sliceA P t x lo hi mx H = some v) : Sees P q (Instr.sliceAt t x' lo' hi' mx') β w v := by
  unfold sliceA at he
  split at he
  · rename_i s hu
    split at he
    · rename_i l h hl hh
      cases hmx
      obtain ⟨hg, he⟩ := some_of_cond he
      simp only [Bool.and_eq_true] at hg
      have h1 := Nat.le_of_ble_eq_true hg.1
      have h2 := Nat.le_of_ble_eq_true hg.2
      simp only [Option.some.injEq] at he; subst he
      cases hx
      refine .just (u := .string (s.extract l h)) (fun w' => ?_) ?_
      · rw [sliceAt_eq hu (by intro _ _ h; cases h)]
        unfold Instr.slice
        rw [Sem.run_bind, run_underlying hu, Result.andThen_ok]
        simp only [Option.isSome_none, Bool.false_eq_true, if_false]
        have hz : s.size = s.data.toList.length := rfl
        rw [hz, Sem.run_bind, run_bounds hlo hhi hl hh h1 h2, Result.andThen_ok]
        rfl
      · have : s.extract l h = ⟨⟨(s.data.toList.drop l).take (h - l)⟩⟩ := by
          have := Lib.extract_data s l h
          apply ByteArray.ext
          apply Array.ext'
          rw [this]
        rw [this]; exact .string _
    · cases he
  · rename_i e hu
    split at he
    · rename_i i hi hl hh
      cases hmx
      simp only [Option.some.injEq] at he; subst he
      cases hx
      exact .just (fun w' => run_slice_slice hu hi (run_bounds hlo hhi hl hh (Nat.le_refl _) (Nat.le_refl _) w')) .snil
    · cases he
  · rename_i e a n c hu
    split at he
    · rename_i i l h hi hl hh
      split at he
      · cases hmx
        rcases hx.sl_inv2 with ⟨k, cap, hsp, hk, hn, hc, hev, h2n, hm, hrr, rfl⟩ | ⟨rfl, rfl, b, j, cap, rfl⟩
        · obtain ⟨h1, h2, hr⟩ := sliceS_rel hw hk hsp hc hev hm hrr he
          refine .just (fun w' => run_slice_slice hu hi (run_bounds hlo hhi hl hh h1 (Nat.le_trans h2 hc) w')) ?_
          simpa using hr
        · unfold sliceS at he
          obtain ⟨hg, he⟩ := some_of_cond he
          simp only [Bool.and_eq_true] at hg
          have h1 := Nat.le_of_ble_eq_true hg.1
          have h2 := Nat.le_of_ble_eq_true hg.2.1
          have hl0 : l = 0 := by omega
          have hh0 : h = 0 := by omega
          subst hl0; subst hh0
          have he : some (Value.slice (some a) 0 1) = some v := he
          simp only [Option.some.injEq] at he
          subst he
          refine .just (fun w' => run_slice_slice hu hi (run_bounds hlo hhi hl hh (Nat.le_refl _) (Nat.zero_le _) w')) ?_
          simp only [Nat.sub_self, Nat.zero_mul, Option.map_some, add_lit]
          split <;> exact .s1
      · rename_i vm
        cases hmx with
        | some hmr =>
          cases hhi with
          | none => cases he
          | some hhr =>
            cases hm : natOf vm with
            | none => simp only [hm] at he; cases he
            | some m =>
              simp only [hm] at he
              unfold sliceM at he
              obtain ⟨hg, he⟩ := some_of_cond he
              simp only [Bool.and_eq_true, Bool.not_eq_true'] at hg
              have h1 := Nat.le_of_ble_eq_true hg.1
              have h2 := Nat.le_of_ble_eq_true hg.2.1
              have h3 := Nat.le_of_ble_eq_true hg.2.2.1
              simp only [Option.some.injEq] at he; subst he
              rcases hx.sl_inv with ⟨k, cap, hsp, hk, hn, hc, hev, h2n, hmxl, rfl⟩ | ⟨rfl, rfl, b, j, cap, rfl⟩
              · refine .just (fun w' => run_slice_slice hu hi (run_bounds3 hlo hhr hmr hl (by simpa [boundOf] using hh) hm h1 h2 (Nat.le_trans h3 hc) w')) ?_
                have ha : a = ⟨a.block, a.off, none⟩ := by cases a; simp_all
                by_cases hml : m = l
                · have hb : Nat.beq m l = true := by rw [hml]; simp
                  rw [if_pos hml, hb, cond_true, ha]
                  exact .sl hk (by omega) (by omega) (fun _ => by omega) (by omega) (by omega) (by omega)
                · have hb : Nat.beq m l = false := by
                    cases hbb : Nat.beq m l with
                    | false => rfl
                    | true => exact absurd (Nat.eq_of_beq_eq_true hbb) hml
                  rw [if_neg hml, hb, cond_false, Option.map_some, add_lit, Nat.add_assoc]
                  unfold moveA
                  exact .sl hk (by omega) (by omega) (fun _ => by omega) (by omega) (by omega) (by omega)
              · exact absurd hg.2.2.2.2 (by simp)
    · cases he
  · rename_i n e a hu
    split at he
    · rename_i i l h hi hl hh
      cases hmx
      obtain ⟨k, hsp, hk, rfl⟩ := hx.ptr_inv
      obtain ⟨hn, he⟩ := some_of_cond he
      have hn := Nat.le_of_ble_eq_true hn
      have hn : n ≤ maxLen := by simp only [maxLen]; omega
      · obtain ⟨h1, h2, hr⟩ := sliceS_rel hw (cap := n) hk hsp (by omega) (fun _ => by omega) hn (by omega) he
        refine .just (fun w' => run_slice_array hu hi (run_bounds hlo hhi hl hh h1 (by omega) w')) ?_
        have : (if n = l then some (⟨k.b, k.lo + a.off, none⟩ : Addr) else some ((⟨k.b, k.lo + a.off, none⟩ : Addr).add (l * i.size))) = some (if n = l then ⟨k.b, k.lo + a.off, none⟩ else (⟨k.b, k.lo + a.off, none⟩ : Addr).add (l * i.size)) := by split <;> rfl
        rw [← this]; exact hr
    · cases he
  · cases he

theorem lenA_sound (h : WR P F β H w) {t : TypeId} {x x' v : Value} (ts : Array TypeId) (ty : TypeId) (h0 : ts[0]? = some t) (hx : VR β x x') (he : lenA P t x H = some v) :
    Sees P false (Builtin.len_ ts ty #[x']) β w v := by
  unfold lenA at he
  have base : ∀ (d : TypeDesc) (x : Value) (w' : World), P.underlying t = some d → (Builtin.len_ ts ty #[x]).run P w' = (match d, x with
      | .string, .string s => pure (goInt s.size)
      | .slice _, .slice _ n _ => pure (goInt n)
      | .map _ _, .map none => pure (goInt 0)
      | .map _ _, .map (some r) => do
        let .map entries _ ← getObj r | stuck "len: map expected"
        pure (goInt entries.size)
      | d, x => (do
        match d, x with
        | .string, .string s => pure (goInt s.size)
        | .array n _, _ => pure (goInt n)
        | .pointer arr, _ =>
          let .array n _ ← underlying arr | stuck "len: pointer to array expected"
          pure (goInt n)
        | .slice _, .slice _ n _ => pure (goInt n)
        | .map _ _, .map none | .chan _ _, .chan none => pure (goInt 0)
        | .map _ _, .map (some r) =>
          let .map entries _ ← getObj r | stuck "len: map expected"
          pure (goInt entries.size)
        | .chan _ _, .chan (some r) =>
          let .chan _ buf _ _ _ timer ← getObj r | stuck "len: channel expected"
          pure (goInt (if timer then 0 else buf.size))
        | _, _ => stuck "len: string, array, pointer to array, slice, map or channel expected" : Sem Value)).run P w' := by
    intro d x w' hu
    unfold Builtin.len_
    simp only [h0, List.getElem?_toArray, List.getElem?_cons_zero]
    rw [Sem.run_bind, run_underlying hu, Result.andThen_ok]
    cases d <;> cases x <;> first | rfl | (rename_i r; cases r <;> rfl)
  split at he
  · rename_i s hu
    simp only [Option.some.injEq] at he; subst he
    cases hx
    exact .just (fun w' => by rw [base _ _ w' hu]; rfl) (.int _ _)
  · rename_i e a n c hu
    simp only [Option.some.injEq] at he; subst he
    cases hx <;> exact .just (fun w' => by rw [base _ _ w' hu]; rfl) (.int _ _)
  · rename_i kt e hu
    simp only [Option.some.injEq] at he; subst he
    cases hx
    exact .just (fun w' => by rw [base _ _ w' hu]; rfl) (.int _ _)
  · rename_i kt e r hu
    cases hm : H.mapOf r with
    | none => rw [hm] at he; cases he
    | some p =>
      obtain ⟨es, clock⟩ := p
      rw [hm] at he
      simp only [Option.some.injEq] at he; subst he
      cases hx with
      | map hk =>
        unfold FW.mapOf at hm
        cases hg : H.heap.get r with
        | none => simp [hg] at hm
        | some ob =>
          cases ob with
          | map es2 c2 =>
            simp only [hg, Option.some.injEq, Prod.mk.injEq] at hm
            obtain ⟨rfl, rfl⟩ := hm
            obtain ⟨k2, hk2, es', hh, hes⟩ := h.objs _ _ hg
            rw [hk] at hk2
            simp only [Option.some.injEq] at hk2
            subst hk2
            refine ⟨_, fun w' hw' => ?_, .int _ _⟩
            rw [base _ _ w' hu]
            have hw := hw'.resolve_left (by simp)
            have hh' : w'.heap[_]? = some (Go.Obj.map es' c2) := (hw.block _ ((Array.getElem?_eq_some_iff.1 hh).1)).trans hh
            have hsz : es'.size = es2.length := by simpa using hes.length
            simp only [getObj, bind, Sem.bind, Sem.run, hh']
            show Result.ok (goInt es'.size) w' = _
            rw [hsz]; rfl
          | _ => simp [hg] at hm
  · cases he

end
end Go.Am
