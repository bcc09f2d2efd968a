/- One operation in its frame. No conditions. -/
import Derived.Test.YthmkdcclmaoonaaDoorA12
set_option linter.unusedVariables false
set_option linter.unusedSimpArgs false
namespace Go.Am
open Go.RowKit

/-- The slots. -/
structure Fm (lv : Nat → Bool) (β : Bm) (tm : TM) (a : Act) (n : Nat) : Prop where
  vals : ∀ t, VR β (TM.val lv tm t) (a.tmps.getD t undef)
  oks : ∀ p ∈ tm.loc, okN p.1 = true
  size : a.tmps.size = n
  defers : a.defers = []

/-- A frame and a world, by the store. -/
structure SR (P : Program) (F : Nat → World → Prop) (lv : Nat → Bool) (n : Nat) (β : Bm) (tm : TM) (H : FW) (a : Act) (w : World) : Prop where
  fm : Fm lv β tm a n
  wr : WR P F β H w
  lo : Lo H

/-- What is asked of what an operation yields: a value, and a world. -/
def xupon (P : Program) (k : Value → World → Prop) : Result Next → Prop
  | .ok (.value v) w' => k v w'
  | .ok .skip w' => k undef w'
  | .ok (.enter f args) w' => Calls P f args w' fun e w'' => ∃ v, e = .returned v ∧ k v w''
  | _ => False

def xop (P : Program) (o : Oper) (a : Act) (w : World) (k : Value → World → Prop) : Prop := xupon P k ((execOp a.eval o).run P w)

theorem xupon_mono {P : Program} {r : Result Next} {k k' : Value → World → Prop} (h : ∀ v w', k v w' → k' v w') (hx : xupon P k r) : xupon P k' r := by
  cases r with
  | ok n w' =>
    cases n <;> simp only [xupon] at hx ⊢ <;> first
      | exact h _ _ hx
      | exact Calls.mono hx (fun e w'' ⟨v, he, hk⟩ => ⟨v, he, h _ _ hk⟩)
  | halt x w' => simp only [xupon] at hx

theorem xop_mono {P : Program} {o : Oper} {a : Act} {w : World} {k k' : Value → World → Prop} (h : ∀ v w', k v w' → k' v w') (hx : xop P o a w k) : xop P o a w k' := xupon_mono h hx

/-- What is said of frames: none is above; there is one, of which something is known. -/
def FOk (I : World → Prop) (F : Nat → World → Prop) (R : Nat) : Prop := (∀ R' w0, F R' w0 → R' ≤ R) ∧ ∃ R' w0, F R' w0 ∧ I w0

/-- What the store says of calls is true (q: they write to nothing that there was). -/
def CallGood (P : Program) (I : World → Prop) (R : Nat) (q : Bool) (call : CallF) : Prop :=
  ∀ (F : Nat → World → Prop) (β : Bm) (H : FW) (w : World) (g : FuncId) (vs us : List Value) (v : Value) (H' : FW), FOk I F R → R ≤ H.next → Lo H → WR P F β H w → VRs β vs us → call g vs H = some (v, H') →
    (Lo H' ∧ H.next ≤ H'.next) ∧ xupon P (fun u w' => (q = true → Up w w') ∧ ∃ β', VR β' v u ∧ BLe β β' ∧ WR P F β' H' w') ((callFunc g us.toArray).run P w)

section
variable {I : World → Prop} {P : Program} {R n : Nat} {lv : Nat → Bool} {F : Nat → World → Prop} {β : Bm} {tm : TM} {H : FW} {a : Act} {w : World}

theorem ev_rel (h : WR P F β H w) (hf : Fm lv β tm a n) (x : Operand) : VR β (ev lv tm x) (a.eval x) := by
  cases x with
  | tmp t => exact hf.vals t
  | const v => exact cstA_rel v
  | global g =>
    show VR β (bif Nat.blt g 512 then .pointer (some ⟨g, 0, none⟩) else bot) (.pointer (some ⟨g, 0, none⟩))
    cases hb : Nat.blt g 512 with
    | false => exact .any
    | true =>
      have hlt : g < 512 := by simpa [Nat.blt_eq] using hb
      obtain ⟨k, hk, hkb, hkl⟩ := h.gl g hlt
      have := VR.ptr (i := 0) hk
      rw [hkb, hkl] at this
      exact this
  | func f => exact .func .nil .nil

theorem Fm.up {β' : Bm} (hf : Fm lv β tm a n) (hb : BLe β β') : Fm lv β' tm a n := ⟨fun t => (hf.vals t).up hb, hf.oks, hf.size, hf.defers⟩

theorem put_defers (a : Act) (d : Option Tmp) (u : Value) : (a.put d u).defers = a.defers := by cases d <;> rfl

theorem put_val (tm : TM) (t : Nat) (v : Value) (t' : Nat) : TM.val lv (tm.put t v) t' = if t' = t then v else TM.val lv tm t' := by
  show (Bool.rec (motive := fun _ => Value) (scanL tm.loc (outV lv tm.out t') t') v (Nat.beq t t')) = _
  by_cases h : t' = t
  · subst h
    rw [if_pos rfl, show Nat.beq t' t' = true by simp]
  · rw [if_neg h]
    have : Nat.beq t t' = false := by
      cases hb : Nat.beq t t' with
      | false => rfl
      | true => exact absurd (Nat.eq_of_beq_eq_true hb).symm h
    rw [this]
    rfl

theorem putT_sound {tm' : TM} {v u : Value} {d : Option Tmp} (hf : Fm lv β tm a n) (hv : VR β v u) (h : putT tm (clampD n d) v = some tm') : Fm lv β tm' (a.put d u) n := by
  cases d with
  | none =>
    simp only [clampD, putT, Option.some.injEq] at h
    subst h
    exact hf
  | some t =>
    simp only [clampD, putT] at h
    obtain ⟨hok, h⟩ := some_of_cond h
    simp only [Option.some.injEq] at h
    subst h
    have htn : Nat.blt t n = true := by
      cases hb : Nat.blt t n with
      | true => rfl
      | false =>
        have hno : okN 1099511627770 = false := by decide
        rw [hb, cond_false, hno] at hok
        cases hok
    rw [htn, cond_true] at hok ⊢
    have hlt : t < n := by simpa [Nat.blt_eq] using htn
    refine ⟨fun t' => ?_, fun p hp => ?_, ?_, hf.defers⟩
    · rw [put_val]
      show VR β _ ((a.tmps.setIfInBounds t u).getD t' undef)
      by_cases ht : t' = t
      · subst ht
        rw [if_pos rfl, Array.getD_eq_getD_getElem?, Array.getElem?_setIfInBounds, if_pos rfl, if_pos (by rw [hf.size]; exact hlt)]
        exact hv
      · rw [if_neg ht, Array.getD_eq_getD_getElem?, Array.getElem?_setIfInBounds, if_neg (Ne.symm ht), ← Array.getD_eq_getD_getElem?]
        exact hf.vals t'
    · rcases List.mem_cons.1 hp with rfl | hp
      · exact hok
      · exact hf.oks p hp
    · show (a.tmps.setIfInBounds t u).size = n
      simp [hf.size]

theorem flushL_get : ∀ (l : List (Nat × Value)) (o : T Value), (∀ p ∈ l, okN p.1 = true) → ∀ t, outV lv (flushL lv l o) t = bif lv t then scanL l (outV lv o t) t else bot
  | [], o, _, t => by
    show outV lv o t = _
    cases h : lv t with
    | true => rfl
    | false => unfold outV; rw [h]; rfl
  | p :: l, o, hok, t => by
    have ih := flushL_get l o (fun q hq => hok q (List.mem_cons_of_mem _ hq))
    have e1 : flushL lv (p :: l) o = Bool.rec (motive := fun _ => T Value) (flushL lv l o) (T.set (flushL lv l o) p.1 p.2) (lv p.1) := rfl
    have e2 : scanL (p :: l) (outV lv o t) t = Bool.rec (motive := fun _ => Value) (scanL l (outV lv o t) t) p.2 (Nat.beq p.1 t) := rfl
    cases hl : lv t with
    | false => unfold outV; rw [hl]; rfl
    | true =>
      have iht := ih t
      rw [hl, cond_true] at iht
      rw [cond_true, e2]
      by_cases h : p.1 = t
      · have hb : Nat.beq p.1 t = true := by rw [h]; simp
        rw [hb, e1, h, hl]
        have hg : (T.set (flushL lv l o) t p.2).get t = if t = t then some p.2 else (flushL lv l o).get t := T.get_set _ _ _ (by rw [← h]; exact hok p (List.mem_cons_self ..))
        show outV lv (T.set (flushL lv l o) t p.2) t = p.2
        unfold outV
        rw [hl, cond_true, hg, if_pos rfl]
      · have hb : Nat.beq p.1 t = false := by
          cases hb : Nat.beq p.1 t with
          | false => rfl
          | true => exact absurd (Nat.eq_of_beq_eq_true hb) h
        rw [hb, e1]
        show outV lv _ t = scanL l (outV lv o t) t
        rw [← iht]
        cases hp : lv p.1 with
        | false => rfl
        | true =>
          have hg : (T.set (flushL lv l o) p.1 p.2).get t = if t = p.1 then some p.2 else (flushL lv l o).get t := T.get_set _ _ _ (hok p (List.mem_cons_self ..))
          show outV lv (T.set (flushL lv l o) p.1 p.2) t = _
          unfold outV
          rw [hg, if_neg (Ne.symm h)]

theorem Fm.flush (hf : Fm lv β tm a n) : Fm lv β (tm.flush lv) a n := by
  refine ⟨fun t => ?_, fun p hp => (by cases hp), hf.size, hf.defers⟩
  show VR β (outV lv (flushL lv tm.loc tm.out) t) _
  rw [flushL_get _ _ hf.oks]
  cases lv t with
  | true => exact hf.vals t
  | false => exact .any

theorem finT_sound {tm' : TM} {H1 H' : FW} {v u : Value} {d : Option Tmp} (hf : Fm lv β tm a n) (hv : VR β v u) (h : finT tm (clampD n d) v H1 = some (tm', H')) : H' = H1 ∧ Fm lv β tm' (a.put d u) n := by
  unfold finT at h
  split at h
  · rename_i t1 hp
    simp only [Option.some.injEq, Prod.mk.injEq] at h
    obtain ⟨rfl, rfl⟩ := h
    exact ⟨rfl, putT_sound hf hv hp⟩
  · cases h

theorem undef_rel : VR β undef undef := .tuple .nil

theorem guard_sound {ops : Array Oper} {o : Oper} (hf : Fm lv β tm a n) : ((guardOf ops o).holds lv tm = true → Region.wanted o (yielded ops a.tmps) = true) ∧
    ((guardOf ops o).holds lv tm = false → (guardOf ops o).sure lv tm = true → Region.wanted o (yielded ops a.tmps) = false) := by
  unfold guardOf Region.wanted
  cases hg : o.guard with
  | none => exact ⟨fun _ => rfl, fun h => by cases h⟩
  | some p =>
    obtain ⟨j, want⟩ := p
    simp only
    unfold yielded
    cases hd : (ops[j]?).bind (·.dst) with
    | none => exact ⟨fun h => (by cases h), fun _ _ => rfl⟩
    | some t =>
      simp only [Option.bind_some]
      have hv := hf.vals t
      have hget : ∀ b, a.tmps.getD t undef = .bool b → a.tmps[t]? = some (.bool b) := by
        intro b hb
        rw [Array.getD_eq_getD_getElem?] at hb
        cases ht : a.tmps[t]? with
        | none => rw [ht] at hb; cases hb
        | some x => rw [ht] at hb; simp only [Option.getD_some] at hb; rw [hb]
      constructor
      · intro h
        simp only [AG.holds, boolIs] at h
        split at h
        · rename_i b hb
          rw [hb] at hv
          generalize hq : a.tmps.getD t undef = q at hv
          cases hv
          rw [hget b hq]
          cases want <;> cases b <;> first | rfl | cases h
        · cases h
      · intro h hsure
        simp only [AG.sure] at hsure
        simp only [AG.holds, boolIs] at h
        split at h
        · rename_i b hb
          rw [hb] at hv
          generalize hq : a.tmps.getD t undef = q at hv
          cases hv
          rw [hget b hq]
          cases want <;> cases b <;> first | rfl | cases h
        · rename_i hnb
          cases ht : a.tmps[t]? with
          | none => rfl
          | some x =>
            cases x with
            | bool b =>
              exfalso
              have hq : a.tmps.getD t undef = .bool b := by rw [Array.getD_eq_getD_getElem?, ht]; rfl
              rw [hq] at hv
              generalize TM.val lv tm t = y at hv hnb hsure
              cases hv with
              | any => cases hsure
              | bool b => exact hnb b rfl
            | _ => rfl

theorem method_run {t : TypeId} {name : String} {f : FuncId} (h : methodA P t name = some f) (fuel : Nat) (v : Value) (w : World) : (method (fuel + 1) t v name).run P w = .ok (f, v) w := by
  unfold methodA at h
  split at h
  · rename_i i hi
    split at h
    · rename_i m hm
      obtain ⟨hp, h⟩ := some_of_cond h
      have hti : (typeInfo t).run P w = .ok i w := by simp [typeInfo, hi]
      have hpath : m.path.toList = [] := by simpa using hp
      unfold method
      rw [Sem.run_bind, hti, Result.andThen_ok, hm]
      simp only
      rw [hpath]
      split at h
      · rename_i f' e hf hu
        simp only [Option.some.injEq] at h
        subst h
        show (do let x ← (Sem.pure (t, Place.val v) : Sem (TypeId × Place)); _ : Sem (FuncId × Value)).run P w = _
        rw [Sem.run_bind]
        show Result.andThen (.ok (t, Place.val v) w) _ = _
        rw [Result.andThen_ok, hf]
        simp only [receiverAt]
        rw [Sem.run_bind, Sem.run_bind, run_underlying hu, Result.andThen_ok]
        rfl
      · cases h
      · rename_i f' d hnp hf hu
        simp only [Option.some.injEq] at h
        subst h
        show (do let x ← (Sem.pure (t, Place.val v) : Sem (TypeId × Place)); _ : Sem (FuncId × Value)).run P w = _
        rw [Sem.run_bind]
        show Result.andThen (.ok (t, Place.val v) w) _ = _
        rw [Result.andThen_ok, hf]
        simp only [receiverAt]
        rw [Sem.run_bind, Sem.run_bind, run_underlying hu, Result.andThen_ok]
        cases d <;> first | rfl | exact absurd rfl (hnp _)
      · cases h
    · cases h
  · cases h

theorem callee_run {o : Oper} {c : Call} {f : FuncId} {vs : List Value} {ρ : Ev} (hv : ∀ x, VR β (ρ x) (a.eval x)) (ho : o.op = .call c) (h : calleeA P ρ c = some (f, vs)) :
    ∃ us, VRs β vs us ∧ ∀ w, (execOp a.eval o).run P w = (callFunc f us.toArray).run P w := by
  obtain ⟨callee, args, tys⟩ := c
  unfold calleeA at h
  simp only at h
  split at h
  · rename_i x
    split at h
    · rename_i g fs cs hx
      simp only [Option.some.injEq, Prod.mk.injEq] at h
      obtain ⟨rfl, rfl⟩ := h
      have hr := hv x
      rw [hx] at hr
      generalize hq : a.eval x = q at hr
      cases hr with
      | func h1 h2 =>
        rename_i fs0 fs1 cs0 cs1
        refine ⟨fs1 ++ (args.toList.map a.eval ++ cs1), h1.append ((VRs.map _ _ hv _).append h2), fun w => ?_⟩
        unfold execOp
        rw [ho]
        simp only [resolve, hq, Deferred.ofValue]
        have e : ({ toList := fs1 } : Array Value) ++ (Array.map a.eval args ++ { toList := cs1 }) = (fs1 ++ (List.map a.eval args.toList ++ cs1)).toArray := by
          apply Array.ext'; simp
        simp [invoke, e]
    · cases h
  · rename_i recv name
    split at h
    · rename_i t v hx
      split at h
      · rename_i g hm
        simp only [Option.some.injEq, Prod.mk.injEq] at h
        obtain ⟨rfl, rfl⟩ := h
        have hr := hv recv
        rw [hx] at hr
        generalize hq : a.eval recv = q at hr
        cases hr with
        | iface h1 =>
          rename_i v'
          refine ⟨v' :: args.toList.map a.eval, .cons h1 (VRs.map _ _ hv _), fun w => ?_⟩
          unfold execOp
          rw [ho]
          simp only [resolve, hq]
          have e : (#[v'] ++ (#[Value.iface t v'] ++ args.map a.eval).extract 1 (#[Value.iface t v'] ++ args.map a.eval).size) = (v' :: args.toList.map a.eval).toArray := by
            apply Array.ext'
            simp
            exact List.take_of_length_le (by simp)
          have e0 : (#[Value.iface t v'] ++ args.map a.eval)[0]? = some (Value.iface t v') := by
            rw [Array.getElem?_append_left (by simp)]
            rfl
          show (do let d ← (Sem.pure _ : Sem Deferred); invoke d.target d.args : Sem Next).run P w = _
          rw [Sem.run_bind]
          show (invoke (.fn (.method name) #[]) (#[Value.iface t v'] ++ args.map a.eval)).run P w = _
          unfold invoke
          simp only [e0]
          unfold callMethod
          simp only
          rw [Sem.run_bind]
          obtain ⟨k, hk⟩ : ∃ k, P.types.size + Made.depth = k + 1 := ⟨P.types.size + (Made.depth - 1), rfl⟩
          have hm2 : (do let p ← program; method (p.types.size + Made.depth) t v' name : Sem (FuncId × Value)).run P w = .ok (g, v') w := by
            rw [Sem.run_bind, run_program, Result.andThen_ok, hk, method_run hm]
          rw [run_program, Result.andThen_ok, Sem.run_bind, hk, method_run hm, Result.andThen_ok]
          exact congrArg (fun x => (callFunc g x).run P w) e
      · cases h
    · cases h
  · cases h

/-- One operation. -/
theorem stepG_sound {call : CallF} {q : Bool} (hcall : CallGood P I R q call) (hF : FOk I F R) (hR : R ≤ H.next) (hs : SR P F lv n β tm H a w) {id next : Nat} (hid : 512 ≤ id) (hn : H.next ≤ next) (hlt : id < next)
    {ops : Array Oper} {o : Oper} {tm' : TM} {H' : FW} (h : stepG lv R call false (compO P lv n ops o) id next tm H = some (tm', H')) :
    (Lo H' ∧ H.next ≤ H'.next) ∧
    ((Region.wanted o (yielded ops a.tmps) = true ∧ xop P o a w (fun u w' => (kindA P o.op = 1 ∨ kindA P o.op = 2 ∨ (kindA P o.op = 4 ∧ q = true) → Up w w') ∧ ∃ β', BLe β β' ∧ SR P F lv n β' tm' H' (a.put o.dst u) w')) ∨
     (Region.wanted o (yielded ops a.tmps) = false ∧ SR P F lv n β tm' H' (a.put o.dst undef) w)) := by
  have hv := fun x => ev_rel hs.wr hs.fm x
  obtain ⟨hg1, hg2⟩ := guard_sound (ops := ops) (o := o) hs.fm
  unfold stepG compO at h
  simp only at h
  cases hh : (guardOf ops o).holds lv tm with
  | false =>
    rw [hh, cond_false] at h
    obtain ⟨hsure, h⟩ := some_of_cond h
    obtain ⟨rfl, hfm⟩ := finT_sound hs.fm undef_rel h
    exact ⟨⟨hs.lo, Nat.le_refl _⟩, .inr ⟨hg2 hh hsure, hfm, hs.wr, hs.lo⟩⟩
  | true =>
    rw [hh, cond_true] at h
    cases hc : compA P o.op with
    | look f =>
      rw [hc] at h
      simp only [AI.toT] at h
      cases hf : f (ev lv tm) H with
      | none => rw [hf] at h; cases h
      | some v =>
        rw [hf] at h
        obtain ⟨u, hrun, hu⟩ := look_sound hs.wr hv hc hf
        obtain ⟨rfl, hfm⟩ := finT_sound hs.fm hu h
        refine ⟨⟨hs.lo, Nat.le_refl _⟩, .inl ⟨hg1 hh, ?_⟩⟩
        unfold xop
        rw [hrun w (.inr (Below.refl _ _))]
        exact ⟨fun _ => Up.refl w, β, BLe.refl _, hfm, hs.wr, hs.lo⟩
    | make f =>
      rw [hc] at h
      simp only [AI.toT] at h
      cases hf : f (ev lv tm) with
      | none => rw [hf] at h; cases h
      | some p =>
        obtain ⟨x, val⟩ := p
        rw [hf] at h
        simp only [finM] at h
        split at h
        · rename_i H1 hp
          obtain ⟨ob, g, hrun, hob, hlive, hwd⟩ := make_sound (β := β) hv hc hf
          obtain ⟨hlo, hheap, hok, hnone, _⟩ := hs.lo.push hn hlt hp
          obtain ⟨hw, hb⟩ := hs.wr.alloc (n := next) (x := x) (ob := ob) hnone hok hid (hob _ w id (bset_le (hs.wr.fresh _ hid hnone)) (bset_same _ _ _)).1 (hwd w)
          have hval := (hob _ w id (bset_le (hs.wr.fresh _ hid hnone)) (bset_same _ _ _)).2
          obtain ⟨rfl, hfm⟩ := finT_sound (hs.fm.up hb) hval h
          refine ⟨⟨hlo, hn⟩, .inl ⟨hg1 hh, ?_⟩⟩
          unfold xop
          rw [hrun w]
          refine ⟨fun _ => below_alloc w ob, _, hb, hfm, ?_, hlo⟩
          rw [hheap]; exact hw
        · cases h
    | write f =>
      rw [hc] at h
      simp only [AI.toT] at h
      have hk := kind_write hc
      cases hf : f R (ev lv tm) H with
      | none => rw [hf] at h; cases h
      | some p =>
        obtain ⟨v, H1⟩ := p
        rw [hf] at h
        simp only [finW] at h
        obtain ⟨w', β', hrun, hb, hw⟩ := write_sound hs.wr hF.1 hs.lo.big hv hc hf
        have hlo := hs.lo.write hc hf
        rcases hrun with ⟨u, hrun, hu⟩ | ⟨hrun, rfl⟩
        · obtain ⟨rfl, hfm⟩ := finT_sound (hs.fm.up hb) hu h
          refine ⟨hlo, .inl ⟨hg1 hh, ?_⟩⟩
          unfold xop
          rw [hrun]
          exact ⟨fun h => by omega, β', hb, hfm, hw, hlo.1⟩
        · obtain ⟨rfl, hfm⟩ := finT_sound (hs.fm.up hb) undef_rel h
          refine ⟨hlo, .inl ⟨hg1 hh, ?_⟩⟩
          unfold xop
          rw [hrun]
          exact ⟨fun h => by omega, β', hb, hfm, hw, hlo.1⟩
    | call f =>
      rw [hc] at h
      simp only [AI.toT] at h
      obtain ⟨hk, c, ho, rfl⟩ := kind_call hc
      unfold finC at h
      cases hf : calleeA P (ev lv tm) c with
      | none => simp only [hf] at h; cases h
      | some p =>
        obtain ⟨g, vs⟩ := p
        simp only [hf] at h
        cases hcl : call g vs H with
        | none => rw [hcl] at h; cases h
        | some p =>
          obtain ⟨v, H1⟩ := p
          rw [hcl] at h
          simp only [Bool.not_false, Bool.true_or, cond_true, cond_false] at h
          obtain ⟨us, hus, hrun⟩ := callee_run (P := P) hv ho hf
          obtain ⟨hlo, hx⟩ := hcall F β H w g vs us v H1 hF hR hs.lo hs.wr hus hcl
          obtain ⟨rfl, _⟩ : H' = H1 ∧ True := by
            unfold finT at h
            split at h
            · simp only [Option.some.injEq, Prod.mk.injEq] at h; exact ⟨h.2.symm, trivial⟩
            · cases h
          refine ⟨hlo, .inl ⟨hg1 hh, ?_⟩⟩
          unfold xop
          rw [hrun w]
          refine xupon_mono (fun u w' ⟨hq, β', h1, h2, h3⟩ => ?_) hx
          obtain ⟨_, hfm⟩ := finT_sound (hs.fm.up h2) h1 h
          exact ⟨fun h => hq (by rcases h with h | h | h; omega; omega; exact h.2), β', h2, hfm, h3, hlo.1⟩

theorem SR.flush (hs : SR P F lv n β tm H a w) : SR P F lv n β (tm.flush lv) H a w := ⟨hs.fm.flush, hs.wr, hs.lo⟩

theorem SR.up {w' : World} (hs : SR P F lv n β tm H a w) (hw : Up w w') : SR P F lv n β tm H a w' := ⟨hs.fm, hs.wr.up hw, hs.lo⟩

/-- One that looks. -/
theorem stepG_look {call : CallF} {lk : Bool} (hs : SR P F lv n β tm H a w) {ops : Array Oper} {o : Oper} (hk : kindA P o.op = 0 ∨ kindA P o.op = 1) {id next : Nat} {tm' : TM} {H' : FW} (h : stepG lv R call lk (compO P lv n ops o) id next tm H = some (tm', H')) :
    H' = H ∧ ∃ u, ((Region.wanted o (yielded ops a.tmps) = true ∧ ∀ w', (kindA P o.op == 0) = true ∨ Up w w' → (execOp a.eval o).run P w' = .ok (.value u) w') ∨ (Region.wanted o (yielded ops a.tmps) = false ∧ u = undef)) ∧ Fm lv β tm' (a.put o.dst u) n := by
  have hv := fun x => ev_rel hs.wr hs.fm x
  obtain ⟨hg1, hg2⟩ := guard_sound (ops := ops) (o := o) hs.fm
  unfold stepG compO at h
  simp only at h
  cases hh : (guardOf ops o).holds lv tm with
  | false =>
    rw [hh, cond_false] at h
    obtain ⟨hsure, h⟩ := some_of_cond h
    obtain ⟨rfl, hfm⟩ := finT_sound hs.fm undef_rel h
    exact ⟨rfl, undef, .inr ⟨hg2 hh hsure, rfl⟩, hfm⟩
  | true =>
    rw [hh, cond_true] at h
    cases hc : compA P o.op with
    | look f =>
      rw [hc] at h
      simp only [AI.toT] at h
      cases hf : f (ev lv tm) H with
      | none => rw [hf] at h; cases h
      | some v =>
        rw [hf] at h
        obtain ⟨u, hrun, hu⟩ := look_sound hs.wr hv hc hf
        obtain ⟨rfl, hfm⟩ := finT_sound hs.fm hu h
        exact ⟨rfl, u, .inl ⟨hg1 hh, hrun⟩, hfm⟩
    | make f => have := kind_make hc; omega
    | write f => have := kind_write hc; omega
    | call f => have := (kind_call hc).1; omega

theorem flat_eq {v u : Value} (hp : flatC v = true) (h : VR β v u) : u = v := by
  cases h <;> first | rfl | cases hp

theorem flats_eq : ∀ {l us : List Value}, l.all flatC = true → VRs β l us → us = l
  | _, _, _, .nil => rfl
  | _, _, hp, .cons h hs => by
    simp only [List.all_cons, Bool.and_eq_true] at hp
    rw [flat_eq hp.1 h, flats_eq hp.2 hs]

theorem plain_eq {v u : Value} (hp : plainV v = true) (h : VR β v u) : u = v := by
  unfold plainV at hp
  split at hp
  · rename_i vs
    cases h with
    | tuple hl => rw [flats_eq hp hl]
  · rename_i vs
    cases h with
    | agg hl => rw [flats_eq hp hl]
  · exact flat_eq hp h

theorem plain_self {v : Value} (hp : plainV v = true) : VR β v v := by
  unfold plainV at hp
  split at hp
  · exact .tuple (flats_rel hp)
  · exact .agg (flats_rel hp)
  · exact flat_rel hp

/-- A call that looks. -/
theorem stepG_quiet {call : CallF} (hcall : CallGood P I R true call) (hF : FOk I F R) (hR : R ≤ H.next) (hs : SR P F lv n β tm H a w) {ops : Array Oper} {o : Oper} (hk : kindA P o.op = 4) {id next : Nat} {tm' : TM} {H' : FW}
    (h : stepG lv R call true (compO P lv n ops o) id next tm H = some (tm', H')) :
    H' = H ∧ ∃ u, ((Region.wanted o (yielded ops a.tmps) = true ∧ ∀ w', Up w w' → xop P o a w' fun x w'' => x = u ∧ Up w' w'') ∨ (Region.wanted o (yielded ops a.tmps) = false ∧ u = undef)) ∧ Fm lv β tm' (a.put o.dst u) n := by
  have hv := fun x => ev_rel hs.wr hs.fm x
  obtain ⟨hg1, hg2⟩ := guard_sound (ops := ops) (o := o) hs.fm
  unfold stepG compO at h
  simp only at h
  cases hh : (guardOf ops o).holds lv tm with
  | false =>
    rw [hh, cond_false] at h
    obtain ⟨hsure, h⟩ := some_of_cond h
    obtain ⟨rfl, hfm⟩ := finT_sound hs.fm undef_rel h
    exact ⟨rfl, undef, .inr ⟨hg2 hh hsure, rfl⟩, hfm⟩
  | true =>
    rw [hh, cond_true] at h
    cases hc : compA P o.op with
    | look f => have := kind_look hc; omega
    | make f => have := kind_make hc; omega
    | write f => have := kind_write hc; omega
    | call f =>
      rw [hc] at h
      simp only [AI.toT] at h
      obtain ⟨_, c, ho, rfl⟩ := kind_call hc
      unfold finC at h
      cases hf : calleeA P (ev lv tm) c with
      | none => simp only [hf] at h; cases h
      | some p =>
        obtain ⟨g, vs⟩ := p
        simp only [hf] at h
        cases hcl : call g vs H with
        | none => rw [hcl] at h; cases h
        | some p =>
          obtain ⟨v, H1⟩ := p
          rw [hcl] at h
          simp only [Bool.not_true, Bool.false_or, cond_true] at h
          obtain ⟨hpl, h⟩ := some_of_cond h
          obtain ⟨us, hus, hrun⟩ := callee_run (P := P) hv ho hf
          obtain ⟨rfl, hfm⟩ := finT_sound hs.fm (plain_self hpl) h
          refine ⟨rfl, v, .inl ⟨hg1 hh, fun w' hw' => ?_⟩, hfm⟩
          obtain ⟨_, hx⟩ := hcall F β _ w' g vs us v H1 hF hR hs.lo (hs.wr.up hw') hus hcl
          unfold xop
          rw [hrun w']
          exact xupon_mono (fun u w'' ⟨hq, β', h1, _⟩ => ⟨plain_eq hpl h1, hq rfl⟩) hx

/-- Calls that write above what there is only: they write to nothing that there was. -/
theorem quiet_good {call : Nat → CallF} (hcall : ∀ R, CallGood P I R false (call R)) : CallGood P I R true (fun g vs H => call H.next g vs H) := by
  intro F β H w g vs us v H' hF hR hlo hw hus hc
  have hw' : WR P (fun R' w0 => F R' w0 ∨ (R' = H.next ∧ w0 = w)) β H w := by
    refine ⟨hw.gl, hw.fresh, hw.objs, hw.inj, fun R' w0 h o x k hg hl ho hk => ?_, fun R' w0 h => ?_, hw.wide⟩
    · rcases h with h | ⟨rfl, rfl⟩
      · exact hw.mine R' w0 h o x k hg hl ho hk
      · rw [hlo.out o ho] at hg; cases hg
    · rcases h with h | ⟨rfl, rfl⟩
      · exact hw.frame R' w0 h
      · exact Below.refl _ _
  obtain ⟨h1, h2⟩ := hcall H.next _ β H w g vs us v H' ⟨fun R' w0 h => by
    rcases h with h | ⟨rfl, rfl⟩
    · exact Nat.le_trans (hF.1 R' w0 h) hR
    · exact Nat.le_refl _, by obtain ⟨R1, w1, h1, h2⟩ := hF.2; exact ⟨R1, w1, .inl h1, h2⟩⟩ (Nat.le_refl _) hlo hw' hus hc
  refine ⟨h1, xupon_mono (fun u w' ⟨_, β', a1, a2, a3⟩ => ⟨fun _ => a3.frame H.next w (.inr ⟨rfl, rfl⟩), β', a1, a2, ?_⟩) h2⟩
  exact ⟨a3.gl, a3.fresh, a3.objs, a3.inj, fun R' w0 h => a3.mine R' w0 (.inl h), fun R' w0 h => a3.frame R' w0 (.inl h), a3.wide⟩

end
end Go.Am
