/- Regions, by the store's run. No conditions. -/
import Derived.Test.YthmkdcclmaoonaaDoorA14
set_option linter.unusedVariables false
set_option linter.unusedSimpArgs false
namespace Go.Am
open Go.RowKit

/-! What is the same is the same. -/

theorem beqA_eq {a b : Option Addr} (h : beqA a b = true) : a = b := by
  unfold beqA at h
  split at h
  · rfl
  · rename_i a b
    simp only [Bool.and_eq_true] at h
    obtain ⟨h1, h2, h3, h4⟩ := h
    have h1 := Nat.eq_of_beq_eq_true h1
    have h2 := Nat.eq_of_beq_eq_true h2
    cases a; cases b
    simp_all
  · cases h

theorem beqL_eq {f : Value → Value → Bool} (hf : ∀ a b, f a b = true → a = b) : ∀ {l m : List Value}, beqL f l m = true → l = m
  | [], [], _ => rfl
  | a :: l, b :: m, h => by
    simp only [beqL, Bool.and_eq_true] at h
    rw [hf _ _ h.1, beqL_eq hf h.2]
  | [], _ :: _, h => by simp [beqL] at h
  | _ :: _, [], h => by simp [beqL] at h

theorem beqV_eq : ∀ (n : Nat) (v v' : Value), beqV n v v' = true → v = v' := by
  intro n
  induction n with
  | zero =>
    intro v v' h
    unfold beqV at h
    split at h <;> first | cases h | skip
    · simp only [beq_iff_eq] at h; rw [h]
    · simp only [Bool.and_eq_true, decide_eq_true_eq] at h; rw [h.1, h.2]
    · simp only [decide_eq_true_eq] at h
      congr 1
      exact ByteArray.ext (Array.ext' h)
    · rw [beqA_eq h]
    · simp only [Bool.and_eq_true] at h
      rw [beqA_eq h.1, Nat.eq_of_beq_eq_true h.2.1, Nat.eq_of_beq_eq_true h.2.2]
    · rfl
    · rw [Nat.eq_of_beq_eq_true h]
    · rfl
    · rfl
    all_goals omega
  | succ n ih =>
    intro v v' h
    have arr : ∀ {a b : Array Value}, beqL (beqV n) a.toList b.toList = true → a = b := fun h => Array.ext' (beqL_eq ih h)
    unfold beqV at h
    split at h <;> first | cases h | skip
    · simp only [beq_iff_eq] at h; rw [h]
    · simp only [Bool.and_eq_true, decide_eq_true_eq] at h; rw [h.1, h.2]
    · simp only [decide_eq_true_eq] at h
      congr 1
      exact ByteArray.ext (Array.ext' h)
    · rw [beqA_eq h]
    · simp only [Bool.and_eq_true] at h
      rw [beqA_eq h.1, Nat.eq_of_beq_eq_true h.2.1, Nat.eq_of_beq_eq_true h.2.2]
    · rfl
    · rw [Nat.eq_of_beq_eq_true h]
    · rfl
    · rfl
    · rename_i k _ _ _ _ _ _ hk
      cases hk
      simp only [Bool.and_eq_true, decide_eq_true_eq] at h
      rw [h.1, arr h.2.1, arr h.2.2]
    · rename_i k _ _ _ _ hk
      cases hk
      simp only [Bool.and_eq_true] at h
      rw [Nat.eq_of_beq_eq_true h.1, ih _ _ h.2]
    · rename_i k _ _ hk
      cases hk
      rw [arr h]
    · rename_i k _ _ hk
      cases hk
      rw [arr h]

theorem beqE_eq : ∀ {l m : List MapEntry}, beqE l m = true → l = m
  | [], [], _ => rfl
  | a :: l, b :: m, h => by
    simp only [beqE, Bool.and_eq_true] at h
    obtain ⟨h1, h2, h3, h4⟩ := h
    rw [beqE_eq h4]
    have e1 := beqV_eq _ _ _ h1
    have e2 := beqV_eq _ _ _ h2
    have e3 := Nat.eq_of_beq_eq_true h3
    cases a; cases b
    simp_all
  | [], _ :: _, h => by simp [beqE] at h
  | _ :: _, [], h => by simp [beqE] at h

theorem beqO_eq {a b : AObj} (h : beqO a b = true) : a = b := by
  unfold beqO at h
  split at h
  · simp only [Bool.and_eq_true] at h
    rw [beqL_eq (beqV_eq 20) h.1, Nat.eq_of_beq_eq_true h.2]
  · simp only [Bool.and_eq_true] at h
    rw [beqE_eq h.1, Nat.eq_of_beq_eq_true h.2]
  · simp only [Bool.and_eq_true, decide_eq_true_eq] at h
    rw [Nat.eq_of_beq_eq_true h.2]
    congr 1
    exact ByteArray.ext (Array.ext' h.1)
  · rfl
  · cases h

theorem beqT_eq {α : Type} {f : α → α → Bool} (hf : ∀ a b, f a b = true → a = b) : ∀ {s t : T α}, beqT f s t = true → s = t
  | .nil, .nil, _ => rfl
  | .node v l r, .node v' l' r', h => by
    simp only [beqT, Bool.and_eq_true] at h
    obtain ⟨h1, h2, h3⟩ := h
    rw [beqT_eq hf h2, beqT_eq hf h3]
    congr 1
    cases v <;> cases v' <;> simp only [beqN] at h1 <;> first | rfl | cases h1 | rw [hf _ _ h1]
  | .nil, .node .., h => by simp [beqT] at h
  | .node .., .nil, h => by simp [beqT] at h

theorem beqS_eq {s s' : St} (h : beqS s s' = true) : s = s' := by
  unfold beqS at h
  simp only [Bool.and_eq_true] at h
  obtain ⟨⟨⟨h0, h0'⟩, h1⟩, h2, h3⟩ := h
  have e1 := beqT_eq (beqV_eq 20) h1
  have e2 := beqT_eq (fun a b => beqO_eq) h2
  have e3 := Nat.eq_of_beq_eq_true h3
  obtain ⟨⟨l, tm⟩, hp, nx⟩ := s
  obtain ⟨⟨l', tm'⟩, hp', nx'⟩ := s'
  simp_all

/-! Orders. -/

theorem sameS.refl' (lv : Nat → Bool) (s : St) (h : s.1.loc = []) : sameS lv s s := ⟨fun _ => rfl, h, fun _ => rfl, rfl⟩

theorem runPlan_loc {lv : Nat → Bool} {step : Nat → Bool → TM → FW → Option St} : ∀ {p : Plan} {tm : TM} {H : FW} {s : St}, runPlan lv step p tm H = some s → s.1.loc = []
  | .done, tm, H, s, h => by
    have h' : some (tm.flush lv, H) = some s := h
    simp only [Option.some.injEq] at h'
    subst h'; rfl
  | .look j r, tm, H, s, h => by
    have h' : goS (step j true tm H) (runPlan lv step r) = some s := h
    cases hs : step j true tm H with
    | none => rw [hs] at h'; cases h'
    | some x =>
      obtain ⟨tm1, H1⟩ := x
      rw [hs] at h'
      exact runPlan_loc (p := r) h'
  | .alt j r other, tm, H, s, h => by
    have h' : altS lv (isStop other) (goS (step j false tm H) (runPlan lv step r)) (runPlan lv step other tm H) = some s := h
    cases hs : goS (step j false tm H) (runPlan lv step r) with
    | none => rw [hs] at h'; cases h'
    | some x =>
      have hx : x = s := by
        rw [hs] at h'
        unfold altS at h'
        simp only at h'
        cases hst : isStop other with
        | true => rw [hst, cond_true] at h'; simpa using h'
        | false =>
          rw [hst, cond_false] at h'
          split at h'
          · obtain ⟨_, h'⟩ := some_of_cond h'; simpa using h'
          · cases h'
      subst hx
      cases hst : step j false tm H with
      | none => rw [hst] at hs; cases hs
      | some y =>
        obtain ⟨tm1, H1⟩ := y
        rw [hst] at hs
        exact runPlan_loc (p := r) hs
  | .stop, _, _, _, h => by cases h

theorem altsOf_run {lv : Nat → Bool} {step : Nat → Bool → TM → FW → Option St} {f : Nat → Option Plan} {tm : TM} {H : FW} {s : St} : ∀ {l : List Nat} {p : Plan}, altsOf f l = some p → runPlan lv step p tm H = some s →
    ∀ j ∈ l, ∃ r s', f j = some r ∧ goS (step j false tm H) (runPlan lv step r) = some s' ∧ sameS lv s s'
  | [], p, h, hr, j, hj => by cases hj
  | i :: l, p, h, hr, j, hj => by
    have hloc := runPlan_loc hr
    unfold altsOf at h
    split at h
    · rename_i r p' hf ha
      simp only [Option.some.injEq] at h
      subst h
      have hr' : altS lv (isStop p') (goS (step i false tm H) (runPlan lv step r)) (runPlan lv step p' tm H) = some s := hr
      unfold altS at hr'
      split at hr'
      · rename_i s1 hs1
        cases hst : isStop p' with
        | true =>
          rw [hst, cond_true] at hr'
          simp only [Option.some.injEq] at hr'
          subst hr'
          have hl : l = [] := by
            cases l with
            | nil => rfl
            | cons i2 l2 =>
              unfold altsOf at ha
              split at ha
              · simp only [Option.some.injEq] at ha
                subst ha
                cases hst
              · cases ha
          subst hl
          have : j = i := by simpa using hj
          subst this
          exact ⟨r, _, hf, hs1, sameS.refl' lv _ hloc⟩
        | false =>
          rw [hst, cond_false] at hr'
          split at hr'
          · rename_i s2 hs2
            obtain ⟨hb, hr'⟩ := some_of_cond hr'
            simp only [Option.some.injEq] at hr'
            have hsame := @of_decide_eq_true _ (Classical.propDecidable _) hb
            subst hr'
            rcases List.mem_cons.1 hj with rfl | hj
            · exact ⟨r, _, hf, hs1, sameS.refl' lv _ hloc⟩
            · obtain ⟨r', s', h1, h2, h3⟩ := altsOf_run ha hs2 j hj
              exact ⟨r', s', h1, h2, fun t => (hsame.1 t).trans (h3.1 t), hloc, fun b => (hsame.2.2.1 b).trans (h3.2.2.1 b), hsame.2.2.2.trans h3.2.2.2⟩
          · cases hr'
      · cases hr'
    · cases h

def clsA (P : Program) (calls : Bool) (ops : Array Oper) (i : Nat) : Nat :=
  match ops[i]? with
  | some o => (match kindA P o.op with
    | 0 => 0
    | 1 => 1
    | 2 => 1
    | 4 => bif calls then 1 else 2
    | _ => 2)
  | none => 2

section
variable {I : World → Prop} {P : Program} {R n : Nat} {F : Nat → World → Prop} {ops : Array Oper} {calls : Bool} {call : CallF}

theorem compL_get {lv : Nat → Bool} {j : Nat} {o : Oper} (ho : ops[j]? = some o) : (compL P lv n ops)[j]? = some (compO P lv n ops o) := by
  unfold compL
  rw [List.getElem?_map, Array.getElem?_toList, ho]
  rfl

/-! Sets of numbers by bits. -/

theorem bitN_eq (t : Nat) : bitN t = 2 ^ t := by
  show 1 <<< t = 2 ^ t
  rw [Nat.one_shiftLeft]

theorem bitN_test (t i : Nat) : (bitN t).testBit i = decide (t = i) := by rw [bitN_eq, Nat.testBit_two_pow]

theorem maskL_test : ∀ (l : List Nat) (i : Nat), (maskL l).testBit i = true ↔ i ∈ l
  | [], i => by
    show (0 : Nat).testBit i = true ↔ _
    simp
  | t :: r, i => by
    show (bitN t ||| maskL r).testBit i = true ↔ _
    rw [Nat.testBit_or, Bool.or_eq_true, bitN_test, maskL_test r i, List.mem_cons, decide_eq_true_eq]
    constructor
    · rintro (h | h)
      · exact .inl h.symm
      · exact .inr h
    · rintro (h | h)
      · exact .inl h.symm
      · exact .inr h

theorem land_zero {a b : Nat} : Nat.beq (Nat.land a b) 0 = true ↔ ∀ i, a.testBit i = true → b.testBit i = false := by
  constructor
  · intro h i hi
    have h0 : a &&& b = 0 := Nat.eq_of_beq_eq_true h
    have := Nat.testBit_and a b i
    rw [h0, Nat.zero_testBit, hi, Bool.true_and] at this
    exact this.symm
  · intro h
    have h0 : a &&& b = 0 := by
      apply Nat.eq_of_testBit_eq
      intro i
      rw [Nat.testBit_and, Nat.zero_testBit]
      cases ha : a.testBit i with
      | false => rfl
      | true => rw [h i ha]; rfl
    have h1 : Nat.land a b = 0 := h0
    rw [h1]
    rfl

theorem land_bit {t m : Nat} : Nat.beq (Nat.land (bitN t) m) 0 = true ↔ m.testBit t = false := by
  rw [land_zero]
  constructor
  · intro h
    exact h t (by rw [bitN_test]; simp)
  · intro h i hi
    rw [bitN_test] at hi
    have : t = i := by simpa using hi
    rw [← this]; exact h

theorem beq_false {a b : Nat} (h : ¬ Nat.beq a b = true) : Nat.beq a b = false := by
  cases hb : Nat.beq a b with
  | false => rfl
  | true => exact absurd hb h

theorem msFrom_mem : ∀ (l : List Oper) (k : Nat) (m : OpM), m ∈ msFrom P ops k l ↔ ∃ i o, l[i]? = some o ∧ m = opM P ops (k + i) o
  | [], k, m => by simp [msFrom]
  | o :: r, k, m => by
    simp only [msFrom, List.mem_cons]
    rw [msFrom_mem r (k + 1) m]
    constructor
    · rintro (h | ⟨i, o', h1, h2⟩)
      · exact ⟨0, o, rfl, by simpa using h⟩
      · exact ⟨i + 1, o', by simpa using h1, by rw [h2]; congr 1; omega⟩
    · rintro ⟨i, o', h1, h2⟩
      cases i with
      | zero =>
        simp only [List.getElem?_cons_zero, Option.some.injEq] at h1
        subst h1
        exact .inl (by simpa using h2)
      | succ i => exact .inr ⟨i, o', by simpa using h1, by rw [h2]; congr 1; omega⟩

/-- The operations that are still to come, by bits. -/
def Rel (rem : Nat) (listed : Array Bool) : Prop := ∀ j, rem.testBit j = !(listed.getD j true)

theorem Rel.step {rem : Nat} {listed : Array Bool} (h : Rel rem listed) {j : Nat} (hj : listed.getD j true = false) : Rel (Nat.xor rem (bitN j)) (listed.setIfInBounds j true) := by
  intro i
  show (rem ^^^ bitN j).testBit i = _
  rw [Nat.testBit_xor, h i, bitN_test]
  by_cases hji : j = i
  · subst hji
    rw [hj]
    have : (listed.setIfInBounds j true).getD j true = true := by
      rw [Array.getD_eq_getD_getElem?, Array.getElem?_setIfInBounds, if_pos rfl]
      by_cases hs : j < listed.size
      · rw [if_pos hs]; rfl
      · rw [if_neg hs]; rfl
    rw [this]
    simp
  · rw [getD_set_ne true hji]
    simp [hji]

/-- What each operation waits for lies in the region. -/
def Inside (ops : Array Oper) : Prop := ∀ (j : Nat) (o : Oper), ops[j]? = some o → ∀ e ∈ o.after, Region.binds .any e = true → e.on < ops.size

theorem after_test {i : Nat} {o : Oper} (k : Nat) : (opM P ops i o).A.testBit k = true ↔ ∃ e ∈ o.after, Region.binds .any e = true ∧ e.on = k := by
  show (maskL _).testBit k = true ↔ _
  rw [maskL_test]
  simp only [List.mem_map, List.mem_filter, Array.mem_toList_iff]
  constructor
  · rintro ⟨e, ⟨h1, h2⟩, h3⟩; exact ⟨e, h1, h2, h3⟩
  · rintro ⟨e, h1, h2, h3⟩; exact ⟨e, ⟨h1, h2⟩, h3⟩

theorem ready_mask {rem : Nat} {listed : Array Bool} (hrel : Rel rem listed) (hin : Inside ops) (hsz : listed.size = ops.size) {j : Nat} :
    j ∈ Region.ready .any ops listed ↔ ∃ o, ops[j]? = some o ∧ opM P ops j o ∈ readyM rem (msFrom P ops 0 ops.toList) := by
  rw [mem_ready]
  have hmem : ∀ o, ops[j]? = some o → opM P ops j o ∈ msFrom P ops 0 ops.toList := fun o ho =>
    (msFrom_mem _ _ _).2 ⟨j, o, by rw [Array.getElem?_toList]; exact ho, by rw [Nat.zero_add]⟩
  have hget : ∀ k, k < ops.size → listed.getD k true = listed.getD k false := fun k hk => by
    have : k < listed.size := by omega
    simp [Array.getD_eq_getD_getElem?, Array.getElem?_eq_getElem this]
  constructor
  · rintro ⟨h1, o, ho, h2⟩
    refine ⟨o, ho, List.mem_filter.2 ⟨hmem o ho, ?_⟩⟩
    rw [Bool.and_eq_true]
    refine ⟨?_, land_zero.2 fun k hk => ?_⟩
    · rw [Bool.not_eq_true']
      refine beq_false fun hb => ?_
      have hb' := land_bit.1 hb
      rw [hrel j, h1] at hb'
      cases hb'
    · obtain ⟨e, he, hb, rfl⟩ := (after_test k).1 hk
      have := h2 e he hb
      rw [hrel, hget _ (hin j o ho e he hb), this]
      rfl
  · rintro ⟨o, ho, hm⟩
    obtain ⟨_, hm⟩ := List.mem_filter.1 hm
    rw [Bool.and_eq_true, Bool.not_eq_true'] at hm
    have h1 : listed.getD j true = false := by
      cases hl : listed.getD j true with
      | false => rfl
      | true =>
        have : Nat.beq (Nat.land (bitN j) rem) 0 = true := land_bit.2 (by rw [hrel, hl]; rfl)
        have h' : Nat.beq (Nat.land (bitN j) rem) 0 = false := hm.1
        rw [this] at h'; cases h'
    refine ⟨h1, o, ho, fun e he hb => ?_⟩
    have h3 := land_zero.1 hm.2 e.on ((after_test e.on).2 ⟨e, he, hb, rfl⟩)
    rw [hrel, hget _ (hin j o ho e he hb)] at h3
    simpa using h3

/-- May this one be taken first? -/
def FirstOk (P : Program) (calls : Bool) (ops : Array Oper) (listed : Array Bool) (j : Nat) : Prop :=
  ∃ o, ops[j]? = some o ∧ (kindA P o.op = 0 ∨ kindA P o.op = 1 ∨ (kindA P o.op = 4 ∧ calls = true)) ∧
    ∀ k ok, ops[k]? = some ok → k ≠ j → listed.getD k true = false → (∀ e ∈ ok.after, Region.binds .any e = true → e.on ≠ j) → o.apart ops ok = true ∧ (kindA P o.op = 0 ∨ wrK calls (kindA P ok.op) = false)

theorem dst_test {o : Oper} {d : Tmp} : (dstM o.dst).testBit d = true ↔ o.dst = some d := by
  cases ho : o.dst with
  | none => simp [dstM]
  | some t => simp [dstM, bitN_test]

theorem firstM_ok {rem : Nat} {listed : Array Bool} (hrel : Rel rem listed) {j : Nat} {o : Oper} (ho : ops[j]? = some o) (h : firstM calls rem (msFrom P ops 0 ops.toList) (opM P ops j o) = true) : FirstOk P calls ops listed j := by
  unfold firstM at h
  rw [Bool.and_eq_true] at h
  obtain ⟨hk, hf⟩ := h
  refine ⟨o, ho, ?_, fun k ok hok hne hun hno => ?_⟩
  · simp only [Bool.or_eq_true, Bool.and_eq_true] at hk
    rcases hk with hk | hk | hk
    · exact .inl (Nat.eq_of_beq_eq_true hk)
    · exact .inr (.inl (Nat.eq_of_beq_eq_true hk))
    · exact .inr (.inr ⟨Nat.eq_of_beq_eq_true hk.2, hk.1⟩)
  · unfold freeM at hf
    rw [List.all_eq_true] at hf
    have hx := hf (opM P ops k ok) ((msFrom_mem _ _ _).2 ⟨k, ok, by rw [Array.getElem?_toList]; exact hok, by rw [Nat.zero_add]⟩)
    simp only [Bool.or_eq_true, Bool.and_eq_true, Bool.not_eq_true'] at hx
    rcases hx with hx | hx | hx | hx
    · have hx' := land_bit.1 hx
      rw [hrel k, hun] at hx'
      cases hx'
    · exact absurd (Nat.eq_of_beq_eq_true hx) hne
    · exfalso
      have : Nat.beq (Nat.land (opM P ops k ok).A (bitN j)) 0 = true := land_zero.2 fun i hi => by
        obtain ⟨e, he, hb, rfl⟩ := (after_test i).1 hi
        rw [bitN_test]
        have := hno e he hb
        simp [Ne.symm this]
      have hx' : Nat.beq (Nat.land (opM P ops k ok).A (bitN j)) 0 = false := hx
      rw [this] at hx'; cases hx'
    · obtain ⟨h1, h2, h3⟩ := hx
      have h1 := land_zero.1 h1
      have h2 := land_zero.1 h2
      refine ⟨?_, ?_⟩
      · unfold Oper.apart
        rw [Bool.and_eq_true]
        constructor
        · cases hd : o.dst with
          | none => rfl
          | some d =>
            have hb := h1 d (dst_test.2 hd)
            have hb' : ((opM P ops k ok).L ||| (opM P ops k ok).D).testBit d = false := hb
            rw [Nat.testBit_or, Bool.or_eq_false_iff] at hb'
            simp only [Bool.and_eq_true, Bool.not_eq_true', bne_iff_ne, ne_eq]
            refine ⟨?_, fun he => ?_⟩
            · cases hc : (ok.looksAt ops).contains d with
              | false => rfl
              | true =>
                have : (maskL (ok.looksAt ops)).testBit d = true := (maskL_test _ _).2 (by simpa using hc)
                have hL : (maskL (ok.looksAt ops)).testBit d = false := hb'.1
                rw [this] at hL; cases hL
            · have hD : (dstM ok.dst).testBit d = false := hb'.2
              rw [dst_test.2 he] at hD; cases hD
        · cases hd : ok.dst with
          | none => rfl
          | some d =>
            simp only [Bool.not_eq_true']
            cases hc : (o.looksAt ops).contains d with
            | false => rfl
            | true =>
              have hl : (opM P ops j o).L.testBit d = true := (maskL_test _ _).2 (by simpa using hc)
              have hD : (dstM ok.dst).testBit d = false := h2 d hl
              rw [dst_test.2 hd] at hD; cases hD
      · rcases h3 with h3 | h3
        · exact .inl (Nat.eq_of_beq_eq_true h3)
        · exact .inr h3

/-- A plan is one of the region's. -/
def PlanOk (P : Program) (calls : Bool) (ops : Array Oper) : Nat → Array Bool → Plan → Prop
  | 0, listed, p => p = .done ∧ Region.ready .any ops listed = []
  | f + 1, listed, p => (p = .done ∧ Region.ready .any ops listed = []) ∨
    (∃ j r, p = .look j r ∧ j ∈ Region.ready .any ops listed ∧ FirstOk P calls ops listed j ∧ PlanOk P calls ops f (listed.setIfInBounds j true) r) ∨
    (Region.ready .any ops listed ≠ [] ∧ ∃ g l, altsOf g l = some p ∧ (∀ j ∈ Region.ready .any ops listed, j ∈ l) ∧ ∀ j ∈ Region.ready .any ops listed, ∀ r, g j = some r → PlanOk P calls ops f (listed.setIfInBounds j true) r)

theorem planM_ok (hin : Inside ops) : ∀ (f rem : Nat) (listed : Array Bool) (p : Plan), Rel rem listed → listed.size = ops.size → planM calls (msFrom P ops 0 ops.toList) f rem = some p → PlanOk P calls ops f listed p
  | 0, rem, listed, p, hrel, hsz, h => by
    unfold planM at h
    obtain ⟨he, h⟩ := some_of_cond h
    simp only [Option.some.injEq] at h
    refine ⟨h.symm, List.eq_nil_iff_forall_not_mem.2 fun j hj => ?_⟩
    obtain ⟨o, _, hm⟩ := (ready_mask hrel hin hsz).1 hj
    have : readyM rem (msFrom P ops 0 ops.toList) = [] := by simpa using he
    rw [this] at hm; cases hm
  | f + 1, rem, listed, p, hrel, hsz, h => by
    unfold planM at h
    have hlt : ∀ j ∈ Region.ready .any ops listed, listed.getD j true = false := fun j hj => (mem_ready.1 hj).1
    cases hl : readyM rem (msFrom P ops 0 ops.toList) with
    | nil =>
      rw [hl] at h
      simp only [Option.some.injEq] at h
      refine .inl ⟨h.symm, List.eq_nil_iff_forall_not_mem.2 fun j hj => ?_⟩
      obtain ⟨o, _, hm⟩ := (ready_mask hrel hin hsz).1 hj
      rw [hl] at hm; cases hm
    | cons x xs =>
      rw [hl] at h
      simp only at h
      have back : ∀ m ∈ x :: xs, ∃ o, ops[m.i]? = some o ∧ m = opM P ops m.i o ∧ m.i ∈ Region.ready .any ops listed := by
        intro m hm
        rw [← hl] at hm
        obtain ⟨i, o, ho, rfl⟩ := (msFrom_mem _ _ _).1 (List.mem_filter.1 hm).1
        rw [Array.getElem?_toList] at ho
        rw [Nat.zero_add] at hm ⊢
        exact ⟨o, ho, rfl, (ready_mask hrel hin hsz).2 ⟨o, ho, hm⟩⟩
      split at h
      · rename_i m hfind
        split at h
        · rename_i r hr
          simp only [Option.some.injEq] at h
          obtain ⟨o, ho, hmo, hrd⟩ := back m (List.mem_of_find?_eq_some hfind)
          have hfirst := List.find?_some hfind
          rw [hmo] at hfirst hr
          exact .inr (.inl ⟨m.i, r, h.symm, hrd, firstM_ok hrel ho hfirst, planM_ok hin f _ _ r (hrel.step (hlt _ hrd)) (by simpa using hsz) hr⟩)
        · cases h
      · refine .inr (.inr ⟨?_, _, _, h, fun j hj => ?_, fun j hj r hr => planM_ok hin f _ _ r (hrel.step (hlt _ hj)) (by simpa using hsz) hr⟩)
        · obtain ⟨_, _, _, hrd⟩ := back x (List.mem_cons_self ..)
          intro h0
          rw [h0] at hrd; cases hrd
        · obtain ⟨o, _, hm⟩ := (ready_mask hrel hin hsz).1 hj
          rw [hl] at hm
          exact List.mem_map.2 ⟨_, hm, rfl⟩

theorem planA_ok {p : Plan} (h : planA P calls ops = some p) : PlanOk P calls ops ops.size (Array.replicate ops.size false) p := by
  unfold planA at h
  obtain ⟨hall, h⟩ := some_of_cond h
  rw [List.all_eq_true] at hall
  refine planM_ok (fun j o ho e he hb => ?_) _ _ _ p (fun j => ?_) (by simp) h
  · have hA := hall (opM P ops j o) ((msFrom_mem _ _ _).2 ⟨j, o, by rw [Array.getElem?_toList]; exact ho, by rw [Nat.zero_add]⟩)
    rw [Nat.blt_eq, bitN_eq] at hA
    have ht := (after_test (P := P) (ops := ops) (i := j) e.on).2 ⟨e, he, hb, rfl⟩
    rcases Nat.lt_or_ge e.on ops.size with h1 | h1
    · exact h1
    · rw [Nat.testBit_lt_two_pow (Nat.lt_of_lt_of_le hA (Nat.pow_le_pow_right (by omega) h1))] at ht
      cases ht
  · rw [bitN_eq, Nat.testBit_two_pow_sub_one, Array.getD_eq_getD_getElem?, Array.getElem?_replicate]
    by_cases hj : j < ops.size
    · simp [hj]
    · simp [hj]

theorem kind_lt (op : Op) : kindA P op < 5 := by
  by_cases hcv : ∃ s d x, op = .convert s d x
  · obtain ⟨s, d, x, rfl⟩ := hcv
    simp only [kindA]
    cases isBytesC P s d
    · exact (by decide : (1 : Nat) < 5)
    · exact (by decide : (3 : Nat) < 5)
  cases op <;> first | exact absurd ⟨_, _, _, rfl⟩ hcv | (simp only [kindA]; omega) | skip
  rename_i c
  obtain ⟨callee, args, tys⟩ := c
  cases callee with
  | builtin b => cases b <;> simp [kindA]
  | _ => simp [kindA]

theorem wr_cls {j : Nat} {o : Oper} (ho : ops[j]? = some o) (h : wrK calls (kindA P o.op) = false) : clsA P calls ops j < 2 := by
  unfold wrK at h
  rw [Bool.or_eq_false_iff] at h
  have h5 := kind_lt (P := P) o.op
  have h3 : kindA P o.op ≠ 3 := by
    intro e
    rw [e] at h
    exact absurd h.1 (by decide)
  unfold clsA
  rw [ho]
  simp only
  have hk : kindA P o.op = 0 ∨ kindA P o.op = 1 ∨ kindA P o.op = 2 ∨ kindA P o.op = 4 := by omega
  rcases hk with hk | hk | hk | hk
  · rw [hk]; exact Nat.zero_lt_two
  · rw [hk]; exact Nat.one_lt_two
  · rw [hk]; exact Nat.one_lt_two
  · rw [hk] at h ⊢
    have : calls = true := by
      have h2 := h.2
      cases calls with
      | true => rfl
      | false => exact absurd h2 (by decide)
    rw [this]
    exact Nat.one_lt_two

theorem sameS.wr {lv : Nat → Bool} {tm tm' : TM} {H H' : FW} {w : World} {β : Bm} (h : sameS lv (tm, H) (tm', H')) (hw : WR P F β H' w) : WR P F β H w := by
  have hg : ∀ b, H.heap.get b = H'.heap.get b := h.2.2.1
  exact ⟨hw.gl, fun o ho hn => hw.fresh o ho (by rw [← hg]; exact hn), fun o x hx => hw.objs o x (by rw [← hg]; exact hx),
    fun o o' x x' k k' hx hx' => hw.inj o o' x x' k k' (by rw [← hg]; exact hx) (by rw [← hg]; exact hx'), fun R w0 hf o x k hx => hw.mine R w0 hf o x k (by rw [← hg]; exact hx), hw.frame,
    fun o c e k hx => hw.wide o c e k (by rw [← hg]; exact hx)⟩

theorem sameS.lo {lv : Nat → Bool} {tm tm' : TM} {H H' : FW} (h : sameS lv (tm, H) (tm', H')) (hl : Lo H') : Lo H := by
  have hg : ∀ b, H.heap.get b = H'.heap.get b := h.2.2.1
  have hn : H.next = H'.next := h.2.2.2
  exact ⟨by rw [hn]; exact hl.big, fun o ho => by rw [hg]; exact hl.out o (by rw [← hn]; exact ho)⟩

theorem sameS.sr {lv : Nat → Bool} {tm tm' : TM} {H H' : FW} {a : Act} {w : World} {β : Bm} (h : sameS lv (tm, H) (tm', H')) (hlo : Lo H) (hs : SR P F lv n β tm' H' a w) : SR P F lv n β tm H a w := by
  refine ⟨⟨fun t => ?_, fun p hp => ?_, hs.fm.size, hs.fm.defers⟩, h.wr hs.wr, hlo⟩
  · have : TM.val lv tm t = TM.val lv tm' t := h.1 t
    rw [this]; exact hs.fm.vals t
  · have : tm.loc = [] := h.2.1
    rw [this] at hp; cases hp

theorem plan_sound {lv : Nat → Bool} (hcall : CallGood P I R calls call) (hF : FOk I F R) (hsel : Region.noSelect ops = true) {Q : Exit → Act → World → Prop} (hQ : ∀ c a w, ¬ Q (.panic c) a w) {base : Nat} (hbase : 512 ≤ base) :
    ∀ (fuel : Nat) (listed : Array Bool) (p : Plan), PlanOk P calls ops fuel listed p → ∀ (tm : TM) (H : FW) (a : Act) (w : World) (β : Bm) (tm' : TM) (H' : FW), SR P F lv n β tm H a w → R ≤ H.next → base + ops.size ≤ H.next →
      runPlan lv (stepX lv R call base (compL P lv n ops)) p tm H = some (tm', H') → (∀ a' w' β', BLe β β' → SR P F lv n β' tm' H' a' w' → Q .normal a' w') →
      (Lo H' ∧ H.next ≤ H'.next) ∧ xAny P .any ops (clsA P calls ops) Q fuel listed a w
  | 0, listed, p, hp, tm, H, a, w, β, tm', H', hs, hR, hb, hrun, hk => by
    obtain ⟨rfl, hrd⟩ := hp
    have hrun' : some (tm.flush lv, H) = some (tm', H') := hrun
    simp only [Option.some.injEq, Prod.mk.injEq] at hrun'
    obtain ⟨rfl, rfl⟩ := hrun'
    exact ⟨⟨hs.lo, Nat.le_refl _⟩, hrd, hk a w β (BLe.refl _) hs.flush⟩
  | fuel + 1, listed, p, hp, tm, H, a, w, β, tm', H', hs, hR, hb, hrun, hk => by
    rcases hp with ⟨rfl, hrd⟩ | ⟨j, r, rfl, hjr, ⟨o, ho, hkind, hsp⟩, hr⟩ | ⟨hne, g, l, hp, hcov, hr⟩
    · have hrun' : some (tm.flush lv, H) = some (tm', H') := hrun
      simp only [Option.some.injEq, Prod.mk.injEq] at hrun'
      obtain ⟨rfl, rfl⟩ := hrun'
      exact ⟨⟨hs.lo, Nat.le_refl _⟩, fun _ => hk a w β (BLe.refl _) hs.flush, fun i hi => by rw [hrd] at hi; cases hi⟩
    · have hrun' : goS (stepX lv R call base (compL P lv n ops) j true tm H) (runPlan lv (stepX lv R call base (compL P lv n ops)) r) = some (tm', H') := hrun
      have hget := compL_get (P := P) (n := n) (lv := lv) ho
      unfold stepX at hrun'
      rw [hget] at hrun'
      simp only at hrun'
      cases hst : stepG lv R call true (compO P lv n ops o) (base + j) H.next tm H with
      | none => rw [hst] at hrun'; cases hrun'
      | some st =>
        obtain ⟨tm1, H1⟩ := st
        rw [hst] at hrun'
        have hrun2 : runPlan lv (stepX lv R call base (compL P lv n ops)) r tm1 H1 = some (tm', H') := hrun'
        have first1 : clsA P calls ops j = 1 → kindA P o.op ≠ 0 → (H1 = H ∧ ∃ u, ((Region.wanted o (yielded ops a.tmps) = true ∧ ∀ w', Up w w' → xop P o a w' fun x w'' => x = u ∧ Up w' w'') ∨ (Region.wanted o (yielded ops a.tmps) = false ∧ u = undef)) ∧ Fm lv β tm1 (a.put o.dst u) n) →
            (Lo H' ∧ H.next ≤ H'.next) ∧ xAny P .any ops (clsA P calls ops) Q (fuel + 1) listed a w := by
          rintro hc hk0 ⟨rfl, u, hy, hfm⟩
          have hnext := fun w' (hw' : Up w w') => plan_sound hcall hF hsel hQ hbase fuel _ r hr tm1 H1 (a.put o.dst u) w' β tm' H' ⟨hfm, hs.wr.up hw', hs.lo⟩ hR hb hrun2 hk
          refine ⟨(hnext w (Up.refl w)).1, ?_⟩
          refine xAny_first1 ho (Region.noSelect_spec hsel) hc fuel listed a w (fun k ok hk' hne hun hno => ?_) hjr hy fun w' hw' => (hnext w' hw').2
          obtain ⟨h1, h2⟩ := hsp k ok hk' hne hun hno
          exact ⟨h1, wr_cls hk' (h2.resolve_left hk0)⟩
        rcases hkind with hk0 | hk1 | ⟨hk4, hkc⟩
        · obtain ⟨rfl, u, hy, hfm⟩ := stepG_look hs (.inl hk0) hst
          have hnext := plan_sound hcall hF hsel hQ hbase fuel _ r hr tm1 H1 (a.put o.dst u) w β tm' H' ⟨hfm, hs.wr, hs.lo⟩ hR hb hrun2 hk
          refine ⟨hnext.1, ?_⟩
          have hyy : Yields P ops o u a := by
            rcases hy with ⟨h1, h2⟩ | h
            · exact .inl ⟨h1, fun w' => h2 w' (.inl (by rw [hk0]; rfl))⟩
            · exact .inr h
          exact xAny_first0 hQ ho (Region.noSelect_spec hsel) (by unfold clsA; rw [ho]; simp only [hk0]) fuel listed a w (fun k ok hk' hne hun hno => (hsp k ok hk' hne hun hno).1) hjr hyy hnext.2
        · refine first1 (by unfold clsA; rw [ho]; simp only [hk1]) (by omega) ?_
          obtain ⟨h1, u, hy, hfm⟩ := stepG_look hs (.inr hk1) hst
          refine ⟨h1, u, ?_, hfm⟩
          rcases hy with ⟨g1, g2⟩ | h
          · refine .inl ⟨g1, fun w' hw' => ?_⟩
            unfold xop
            rw [g2 w' (.inr hw')]
            exact ⟨rfl, Up.refl _⟩
          · exact .inr h
        · subst hkc
          exact first1 (by unfold clsA; rw [ho]; simp only [hk4]; rfl) (by omega) (stepG_quiet hcall hF hR hs hk4 hst)
    · have hrds : ∀ j ∈ Region.ready .any ops listed, (Lo H' ∧ H.next ≤ H'.next) ∧ xOp P ops (clsA P calls ops j) Q j (xAny P .any ops (clsA P calls ops) Q fuel (listed.setIfInBounds j true)) a w := by
        intro j hj
        obtain ⟨hjun, o, ho, _⟩ := mem_ready.1 hj
        obtain ⟨r, ⟨tm2, H2⟩, hgr, hgo, hsm⟩ := altsOf_run hp hrun j (hcov j hj)
        have hnx2 : H'.next = H2.next := hsm.2.2.2
        have hrr := hr j hj r hgr
        have hget := compL_get (P := P) (n := n) (lv := lv) ho
        unfold stepX at hgo
        rw [hget] at hgo
        simp only at hgo
        cases hst : stepG lv R call false (compO P lv n ops o) (base + j) H.next tm H with
        | none => rw [hst] at hgo; cases hgo
        | some st =>
          obtain ⟨tm1, H1⟩ := st
          rw [hst] at hgo
          have hrun2 : runPlan lv (stepX lv R call base (compL P lv n ops)) r tm1 H1 = some (tm2, H2) := hgo
          have hjlt := (Array.getElem?_eq_some_iff.1 ho).1
          obtain ⟨⟨hlo1, hn1⟩, hx⟩ := stepG_sound hcall hF hR hs (id := base + j) (next := H.next) (by omega) (Nat.le_refl _) (by omega) hst
          have hnext := fun a' w' β' hle hs' => plan_sound hcall hF hsel hQ hbase fuel _ r hrr tm1 H1 a' w' β' tm2 H2 hs' (Nat.le_trans hR hn1) (Nat.le_trans hb hn1) hrun2 (fun a2 w2 β2 hb2 hs2 => hk a2 w2 β2 (BLe.trans hle hb2) (hsm.sr (hsm.lo hs2.lo) hs2))
          by_cases hk0 : kindA P o.op = 0
          · obtain ⟨rfl, u, hy, hfm⟩ := stepG_look hs (.inl hk0) hst
            have hc : clsA P calls ops j = 0 := by unfold clsA; rw [ho]; simp only [hk0]
            have hnx := hnext (a.put o.dst u) w β (BLe.refl _) ⟨hfm, hs.wr, hs.lo⟩
            refine ⟨⟨hsm.lo hnx.1.1, by rw [hnx2]; exact Nat.le_trans hn1 hnx.1.2⟩, ?_⟩
            rw [hc]
            refine ⟨o, u, ho, ?_, hnx.2⟩
            rcases hy with ⟨h1, h2⟩ | h
            · exact .inl ⟨h1, fun w' => h2 w' (.inl (by rw [hk0]; rfl))⟩
            · exact .inr h
          · -- the pure part: by any end
            have pure1 : (∀ a' w' β', BLe β β' → SR P F lv n β' tm1 H1 a' w' → (Lo H' ∧ H.next ≤ H'.next)) := fun a' w' β' hle hs' => by
              have := (hnext a' w' β' hle hs').1
              exact ⟨hsm.lo this.1, by rw [hnx2]; exact Nat.le_trans hn1 this.2⟩
            have hpure : Lo H' ∧ H.next ≤ H'.next := by
              rcases hx with ⟨_, hx⟩ | ⟨_, hx⟩
              · unfold xop at hx
                generalize (execOp a.eval o).run P w = rr at hx
                cases rr with
                | ok nn w' =>
                  cases nn <;> simp only [xupon] at hx
                  case value v => obtain ⟨_, β', hle, hs'⟩ := hx; exact pure1 _ _ _ hle hs'
                  case skip => obtain ⟨_, β', hle, hs'⟩ := hx; exact pure1 _ _ _ hle hs'
                  case enter f args =>
                    obtain ⟨e, w'', fr, ⟨v, _, _, β', hle, hs'⟩, _⟩ := hx []
                    exact pure1 _ _ _ hle hs'
                | halt x w' => simp only [xupon] at hx
              · exact pure1 _ _ _ (BLe.refl _) hx
            refine ⟨hpure, ?_⟩
            have hcls : clsA P calls ops j = 1 ∧ (kindA P o.op = 1 ∨ kindA P o.op = 2 ∨ (kindA P o.op = 4 ∧ calls = true)) ∨ clsA P calls ops j = 2 := by
              unfold clsA
              rw [ho]
              simp only
              split
              · rename_i h; exact absurd h hk0
              · rename_i h; exact .inl ⟨rfl, .inl h⟩
              · rename_i h; exact .inl ⟨rfl, .inr (.inl h)⟩
              · rename_i h
                cases calls with
                | true => exact .inl ⟨rfl, .inr (.inr ⟨h, rfl⟩)⟩
                | false => exact .inr rfl
              · exact .inr rfl
            rcases hcls with ⟨hc, hup⟩ | hc
            · rw [hc]
              show xOp0 P ops j _ a w
              unfold xOp0
              simp only [ho]
              rcases hx with ⟨hw, hx⟩ | ⟨hw, hx⟩
              · rw [if_pos hw]
                exact xop_mono (fun u w' ⟨hq, β', hle, hs'⟩ => ⟨hq hup, fun w'' hw'' => (hnext _ _ β' hle (hs'.up hw'')).2⟩) hx
              · rw [if_neg (by rw [hw]; simp)]
                exact fun w' hw' => (hnext _ _ β (BLe.refl _) (hx.up hw')).2
            · rw [hc]
              show wpOp P ops Q j _ a w
              refine wpOp_of_xop ho ?_
              rcases hx with ⟨hw, hx⟩ | ⟨hw, hx⟩
              · exact .inl ⟨hw, xop_mono (fun u w' ⟨_, β', hle, hs'⟩ => (hnext _ _ β' hle hs').2) hx⟩
              · exact .inr ⟨hw, (hnext _ _ β (BLe.refl _) hx).2⟩
      obtain ⟨j, hj⟩ := List.exists_mem_of_ne_nil _ hne
      exact ⟨(hrds j hj).1, fun h0 => (by rw [h0] at hj; cases hj), fun i hi => (hrds i hi).2⟩

end
end Go.Am
