/- Each operation of the model does what the evaluator says: those that make memory or write it. Each operation of the model does what the evaluator says: literals, make, append. Each operation of the model does what the evaluator says: make and append. Each operation of the model does what the evaluator says: maps with numbers for keys; the rest of a row cleared. A whole operation does what the evaluator says. A run of operations, some of them under guards, does what the evaluator says. A run of operations does what the evaluator says, within a region; what is kept of a state. No conditions. -/
import Derived.Test.YtngjamedgphjiaaGreatDoorDA
import Derived.Great.BuildSlice
import Derived.Below
import Derived.Tactics
set_option linter.unusedVariables false
set_option linter.unusedSimpArgs false
set_option linter.unusedSectionVars false
namespace Go.Dl
variable [WInv]
section
variable {P : Program} {Γ : Ctx} {S : Mem} {β : Bmap} {w : World} {xs : List Obj}
theorem good_one : ∀ {c : C} {β : Bmap} {v : Value}, c.good = true → CRel S β c v → v.oneCell' = true := by
  intro c
  induction c with
  | bot => intro _ _ h; cases h
  | val u => intro _ _ h hv; obtain rfl := hv; exact h
  | str l => intro _ _ _ hv; obtain ⟨rfl, _⟩ := hv; rfl
  | nil => intro _ _ _ hv; obtain rfl := hv; rfl
  | tree w n get ih => rintro _ _ _ ⟨a, cap, rfl, _⟩; rfl
  | own o n =>
    intro β _ _ hv
    simp only [CRel] at hv
    cases hk : β o with
    | none => simp [hk] at hv
    | some k =>
      rw [hk] at hv
      cases k with
      | none => obtain ⟨_, rfl⟩ := hv; rfl
      | some kb => obtain ⟨_, _, rfl⟩ := hv; rfl
  | ptr o i j => rintro _ _ _ ⟨_, _, _, _, rfl⟩; rfl
  | self t b o =>
    rintro _ _ _ ⟨_, _, _, rfl⟩
    cases b <;> rfl
  | eptr w row j ih => rintro _ _ _ ⟨_, _, rfl, _⟩; rfl
  | map o => rintro _ _ _ ⟨_, _, rfl⟩; rfl
  | tail o lo n => rintro _ _ _ ⟨_, _, rfl, _⟩; rfl
  | opt b c ih =>
    intro _ _ h hv
    simp only [CRel] at hv
    split at hv
    · exact ih h hv
    · subst hv; rfl
  | iface b t c ih =>
    intro _ _ _ hv
    simp only [CRel] at hv
    split at hv
    · obtain ⟨_, rfl, _⟩ := hv; rfl
    · subst hv; rfl
  | func fn k cap ih => rintro _ _ _ ⟨_, rfl, _⟩; rfl
  | cond b c ih => intro _ _ h; cases h
theorem cells_one {v : Value} (h : v.oneCell' = true) : v.cells = #[v] := by
  cases v <;> first | rfl | cases h
theorem good_all : ∀ {l : List C} {us : List Value}, l.all C.good = true → LRel S β l us → ∀ u ∈ us, u.oneCell' = true
  | [], _, _, h => by simp [LRel] at h; simp [h]
  | c :: l, us, hg, ⟨v, r, h1, h2, h3⟩ => by
    subst h1
    simp only [List.all_cons, Bool.and_eq_true] at hg
    intro u hu
    rcases List.mem_cons.1 hu with rfl | hu
    · exact good_one hg.1 h2
    · exact good_all hg.2 h3 u hu
theorem cells_rel {d : D} {l : List C} {v : Value} (hd : DRel S β d v) (h : d.cells = some l) (hg : l.all C.good = true) :
    LRel S β l v.cells.toList ∧ ∀ u ∈ v.cells.toList, u.oneCell' = true := by
  cases d with
  | c x =>
    simp only [D.cells, Option.some.injEq] at h
    subst h
    have h1 : v.oneCell' = true := good_one (by simpa using hg) hd
    rw [cells_one h1]
    exact ⟨⟨v, [], rfl, hd, rfl⟩, by simp [h1]⟩
  | agg l' =>
    simp only [D.cells, Option.some.injEq] at h
    subst h
    obtain ⟨us, rfl, hl⟩ := hd
    exact ⟨hl, good_all hg hl⟩
  | tup l' => cases h
theorem shut_rel : ∀ {c : C} {β : Bmap} {v : Value}, c.shut = true → CRel S β c v → CRel S noB c v := by
  intro c
  induction c with
  | val u => intro _ _ _ hv; exact hv
  | str l => intro _ _ _ hv; exact hv
  | nil => intro _ _ _ hv; exact hv
  | tree w n get ih => intro _ _ _ hv; exact hv
  | eptr w row j ih => intro _ _ _ hv; exact hv
  | opt b c ih =>
    intro _ _ h hv
    simp only [CRel] at hv ⊢
    split at hv
    · rename_i hb; rw [if_pos hb]; exact ih h hv
    · rename_i hb; rw [if_neg hb]; exact hv
  | iface b t c ih =>
    intro _ _ h hv
    simp only [CRel] at hv ⊢
    split at hv
    · rename_i hb; rw [if_pos hb]; obtain ⟨u, hu, hr⟩ := hv; exact ⟨u, hu, ih h hr⟩
    · rename_i hb; rw [if_neg hb]; exact hv
  | func fn k cap ih =>
    rintro _ _ h ⟨vs, h1, h2, h3⟩
    refine ⟨vs, h1, h2, fun i hi => ?_⟩
    simp only [C.shut, List.all_eq_true] at h
    exact ih i (h i (by simpa using hi)) (h3 i hi)
  | _ => intro _ _ h; cases h
theorem LRel.append : ∀ {l m : List C} {us vs : List Value}, LRel S β l us → LRel S β m vs → LRel S β (l ++ m) (us ++ vs)
  | [], _, _, _, h, k => by obtain rfl := h; exact k
  | _ :: _, _, _, _, ⟨v, r, h1, h2, h3⟩, k => by subst h1; exact ⟨v, r ++ _, rfl, h2, LRel.append h3 k⟩
theorem LRel.take {l : List C} {us : List Value} (h : LRel S β l us) (n : Nat) : LRel S β (l.take n) (us.take n) := by
  have := extract_list h 0 n
  simpa using this
theorem LRel.drop : ∀ {l : List C} {us : List Value}, LRel S β l us → ∀ n, LRel S β (l.drop n) (us.drop n)
  | l, us, h, 0 => h
  | [], us, h, n + 1 => by obtain rfl := h; exact rfl
  | _ :: _, us, ⟨v, r, h1, h2, h3⟩, n + 1 => by subst h1; exact LRel.drop h3 n
theorem setL_rel {l cs : List C} {us vs : List Value} (h : LRel S β l us) (k : LRel S β cs vs) (j : Nat) :
    LRel S β (setL l j cs) (us.take j ++ (vs ++ us.drop (j + vs.length))) := by
  unfold setL
  rw [k.length]
  exact (h.take j).append (k.append (h.drop _))
theorem bset_same (β : Bmap) (o : Nat) (x : Option Bk) : bset β o x o = some x := by unfold bset; simp
theorem push_cells (hc : Core Γ S β w xs) {l : List C} {us : List Value} (t : TypeId) (hl : LRel S β l us) (h1 : ∀ u ∈ us, u.oneCell' = true) :
    ∃ β', BLe β β' ∧ Core Γ S β' (w.alloc (.cells us.toArray t)) (xs ++ [.cells l]) ∧
      β' xs.length = some (some ⟨w.heap.size, t, l.length, 1, 1⟩) := by
  let k : Bk := ⟨w.heap.size, t, l.length, 1, 1⟩
  have hle : BLe β (bset β xs.length (some k)) := BLe.bset (hc.out _ (Nat.le_refl _))
  have := hc.push (.cells us.toArray t) (.cells l) (some k) (w' := w.alloc (.cells us.toArray t)) (.inr ⟨⟨k, rfl, rfl⟩, rfl⟩)
    ⟨k, bset_same _ _ _, rfl, rfl, rfl, us, heap_alloc_new w _, LRel.up (MLe.refl _) hle hl, h1⟩
  exact ⟨_, this.2, this.1, bset_same _ _ _⟩
theorem box_ptr {l : List C} (hpos : 0 < l.length) {β' : Bmap} {n : Nat} {t : TypeId} {b : Nat} (h : β' n = some (some ⟨b, t, l.length, 1, 1⟩)) :
    CRel S β' (.ptr n 0 0) (.pointer (some ⟨b, 0, none⟩)) :=
  ⟨_, h, Nat.zero_lt_one, hpos, by simp⟩
theorem evBox_sound {t : TypeId} {x : D} {v : Value} {vs : List Bool} {d' : D} {xs' : List Obj}
    (hc : Core Γ S β w xs) (hx : DRel S β x v) (h : evBox P t x xs = some (vs, d', xs')) : GoodV P (Instr.box t v) Γ S β w d' xs' := by
  unfold evBox at h
  cases hcl : x.cells with
  | none => simp [hcl] at h
  | some l =>
    simp only [hcl] at h
    have h2 := some_of_cond h
    clear h
    obtain ⟨hg, h⟩ := h2
    simp only [Bool.and_eq_true, Nat.blt_eq] at hg
    obtain ⟨rfl, rfl, rfl⟩ := res_eq h
    obtain ⟨hl, h1⟩ := cells_rel hx hcl hg.1
    obtain ⟨β', hle, hco, hk⟩ := push_cells (S := S) hc t hl h1
    refine ⟨.pointer (some ⟨w.heap.size, 0, none⟩), _, S, β', ?_, box_ptr (S := S) hg.2 hk, MLe.refl _, hle, hco⟩
    simp [Instr.box, newVar, newRow]
theorem evAlloc_sound {t : TypeId} {v : Value} {vs : List Bool} {d' : D} {xs' : List Obj}
    (hc : Core Γ S β w xs) (h : evAlloc P t xs = some (vs, d', xs')) : GoodV P (Instr.alloc t true v) Γ S β w d' xs' := by
  unfold evAlloc at h
  cases hz : (P.info? t).bind (·.zero) with
  | none => simp [hz] at h
  | some z =>
    simp only [hz] at h
    cases hi : P.info? t with
    | none => simp [hi] at hz
    | some i =>
      simp only [hi, Option.bind_some] at hz
      obtain ⟨v', w', S', β', hr, hrest⟩ := evBox_sound (P := P) hc (cst_rel z) h
      refine ⟨v', w', S', β', ?_, hrest⟩
      rw [← hr]
      unfold Instr.alloc Instr.box
      have hzr : (zeroValue t).run P w = .ok z w := by
        unfold zeroValue
        rw [Sem.run_bind, run_typeInfo' hi, Result.andThen_ok, hz]
        rfl
      rw [Sem.run_bind, hzr, Result.andThen_ok]
theorem cur_get {cur : Array Value} {us : List Value} {a q : Nat} (hle : a + us.length ≤ cur.size) :
    (cur.toList.take a ++ us ++ cur.toList.drop (a + us.length)).toArray[q]? = if a ≤ q ∧ q < a + us.length then us[q - a]? else cur[q]? := by
  rw [List.getElem?_toArray]
  have hlen : (cur.toList.take a).length = a := by simp; omega
  rcases Nat.lt_or_ge q a with h | h
  · rw [if_neg (by omega), List.append_assoc, List.getElem?_append_left (by omega), List.getElem?_take, if_pos h]
    simp
  · rcases Nat.lt_or_ge q (a + us.length) with h2 | h2
    · rw [if_pos ⟨h, h2⟩, List.append_assoc, List.getElem?_append_right (by omega), List.getElem?_append_left (by omega), hlen]
    · rw [if_neg (by omega), List.getElem?_append_right (by simp; omega), List.getElem?_drop]
      have : a + us.length + (q - (cur.toList.take a ++ us).length) = q := by
        rw [List.length_append, hlen]; omega
      rw [this]
      simp
theorem evStore_sound {t : TypeId} {d x : D} {a v : Value} {xs' : List Obj}
    (hc : Core Γ S β w xs) (hd : DRel S β d a) (hx : DRel S β x v) (h : evStore P t d x xs = some xs') :
    ∃ w', (Instr.storeAt t a v).run P w = .ok () w' ∧ Core Γ S β w' xs' := by
  unfold evStore at h
  cases hcl : x.cells with
  | none => simp [hcl] at h
  | some l =>
    simp only [hcl] at h
    have h2 := some_of_cond h
    clear h
    obtain ⟨hg, h⟩ := h2
    simp only [Bool.and_eq_true] at hg
    obtain ⟨hsz, hg⟩ := hg
    obtain ⟨ti, hti, hts⟩ := szOk_info hsz
    obtain ⟨hl, h1⟩ := cells_rel hx hcl hg
    have hlen : v.cells.size = l.length := by have := hl.length; simpa using this
    split at h
    · rename_i o i j
      obtain ⟨k, hk, hin, hjw, rfl⟩ := hd
      have hrun : ∀ (cur : Array Value) (e : TypeId), w.heap[k.b]? = some (.cells cur e (0, 0)) → i * k.w + j + l.length ≤ cur.size →
          (Instr.storeAt t (.pointer (some ⟨k.b, i * k.w + j, none⟩)) v).run P w =
            .ok () (w.setRow k.b (cur.toList.take (i * k.w + j) ++ v.cells.toList ++ cur.toList.drop (i * k.w + j + v.cells.toList.length)).toArray) := by
        intro cur e hh hle
        unfold Instr.storeAt Instr.sureAddr
        simp only [pure_bind]
        unfold storeVar
        rw [Sem.run_bind, run_sizeOf' hti, Result.andThen_ok, if_neg (by rw [hlen, hts]; simp)]
        have := run_storeCells_at P k.b (i * k.w + j) e v.cells.toList 0 cur w hh (by simpa [hlen] using hle) h1
        simpa using this
      cases hxo : xs[o]? with
      | none => simp [hxo] at h
      | some ob =>
        have ho := hc.objs o ob hxo
        cases ob with
        | dead => simp [hxo] at h
        | mrow e bs => simp [hxo] at h
        | map z has get => simp [hxo] at h
        | cells cs =>
          simp only [hxo] at h
          have h2 := some_of_cond h
          clear h
          obtain ⟨hle, h⟩ := h2
          have hle := Nat.le_of_ble_eq_true hle
          simp only [Option.some.injEq] at h; subst h
          obtain ⟨k', hk', hw, hn, hcap, us, hh, hus, hu1⟩ := ho
          rw [hk] at hk'; simp only [Option.some.injEq] at hk'; subst hk'
          have hi0 : i = 0 := by omega
          subst hi0
          have hcs := hus.length
          refine ⟨_, hrun us.toArray k.e hh (by simp; omega), hc.write o (.cells cs) _ k hxo rfl hk rfl rfl rfl (by simp) (fun b hb => setRow_other w k.b b _ hb) ?_⟩
          refine ⟨k, hk, ?_, hn, hcap, us.take j ++ (v.cells.toList ++ us.drop (j + v.cells.toList.length)), ?_, setL_rel hus hl j, ?_⟩
          · rw [hw]; unfold setL; simp; omega
          · rw [setRow_heap w k.b us.toArray _ k.e (0, 0) hh]
            simp [List.append_assoc]
          · intro u hu
            rcases List.mem_append.1 hu with hu | hu
            · exact hu1 u (List.mem_of_mem_take hu)
            · rcases List.mem_append.1 hu with hu | hu
              · exact h1 u hu
              · exact hu1 u (List.mem_of_mem_drop hu)
        | row e wd n get =>
          simp only [hxo] at h
          have h2 := some_of_cond h
          clear h
          obtain ⟨hle, h⟩ := h2
          simp only [Bool.and_eq_true] at hle
          obtain ⟨hle, hshut⟩ := hle
          have hle := Nat.le_of_ble_eq_true hle
          simp only [Option.some.injEq] at h; subst h
          rcases ho with ⟨hn, _⟩ | ⟨k', hk', he, hw, hn, hcap, hml, cur, hh, hcs, hcell⟩
          · rw [hk] at hn; cases hn
          rw [hk] at hk'; simp only [Option.some.injEq] at hk'; subst hk'
          subst hw
          have hbig : i * k.w + k.w ≤ cur.size := by
            rw [hcs]
            have : (i + 1) * k.w ≤ k.cap * k.w := Nat.mul_le_mul_right _ (by omega)
            rw [Nat.add_mul] at this
            omega
          have hvl : v.cells.toList.length = l.length := hl.length
          refine ⟨_, hrun cur e hh (by omega), hc.write o (.row e k.w n get) _ k hxo rfl hk rfl rfl rfl (by simp) (fun b hb => setRow_other w k.b b _ hb) ?_⟩
          refine .inr ⟨k, hk, he, rfl, hn, hcap, hml, _, setRow_heap w k.b cur _ e (0, 0) hh, ?_, fun i' j' hi' hj' => ?_⟩
          · simp only [List.size_toArray, List.length_append, List.length_take, List.length_drop, Array.length_toList]
            omega
          · rw [cur_get (by omega), hvl]
            unfold setRow
            by_cases hii : i' = i
            · subst hii
              by_cases hj : j ≤ j' ∧ j' < j + l.length
              · rw [if_pos (by omega)]
                have : (Nat.beq i' i' && (Nat.ble j j' && Nat.blt j' (j + l.length))) = true := by
                  simp [Nat.beq_eq, Nat.ble_eq, Nat.blt_eq, hj.1, hj.2]
                rw [this, cond_true]
                have hidx : i' * k.w + j' - (i' * k.w + j) = j' - j := by omega
                rw [hidx]
                have hlt : j' - j < l.length := by omega
                obtain ⟨u, hu, hr⟩ := hl.get (j' - j) _ (List.getElem?_eq_getElem hlt)
                refine ⟨u, hu, h1 u (List.mem_of_getElem? hu), ?_⟩
                have hgd : l.getD (j' - j) .bot = l[j' - j] := by simp [List.getD, List.getElem?_eq_getElem hlt]
                rw [hgd]
                exact shut_rel (by rw [List.all_eq_true] at hshut; exact hshut _ (List.getElem_mem hlt)) hr
              · rw [if_neg (by omega)]
                have : (Nat.beq i' i' && (Nat.ble j j' && Nat.blt j' (j + l.length))) = false := by
                  cases hb1 : Nat.ble j j' with
                  | false => simp
                  | true =>
                    cases hb2 : Nat.blt j' (j + l.length) with
                    | false => simp
                    | true =>
                      have q1 := Nat.le_of_ble_eq_true hb1
                      have q2 : j' < j + l.length := by simpa [Nat.blt_eq] using hb2
                      exact absurd ⟨q1, q2⟩ hj
                rw [this, cond_false]
                exact hcell i' j' hi' hj'
            · have hneq : ¬ (i * k.w + j ≤ i' * k.w + j' ∧ i' * k.w + j' < i * k.w + j + l.length) := by
                intro hcon
                rcases Nat.lt_or_gt_of_ne hii with hq | hq
                · have : (i' + 1) * k.w ≤ i * k.w := Nat.mul_le_mul_right _ hq
                  rw [Nat.add_mul] at this; omega
                · have : (i + 1) * k.w ≤ i' * k.w := Nat.mul_le_mul_right _ hq
                  rw [Nat.add_mul] at this; omega
              rw [if_neg hneq]
              have : Nat.beq i' i = false := by
                cases hb : Nat.beq i' i with
                | false => rfl
                | true => exact absurd (Nat.eq_of_beq_eq_true hb) hii
              rw [this, Bool.false_and, cond_false]
              exact hcell i' j' hi' hj'
    · cases h
end
end Go.Dl

namespace Go.Dl
variable [WInv]
section
variable {p : Bool} {P : Program} {Γ : Ctx} {S : Mem} {β : Bmap} {w : World} {xs : List Obj}
theorem set_split (L : List Value) (p : Nat) (x : Value) (l : List Value) (h : p < L.length) :
    (L.set p x).take (p + 1) ++ (l ++ (L.set p x).drop (p + 1 + l.length)) = L.take p ++ ((x :: l) ++ L.drop (p + (l.length + 1))) := by
  have e1 : (L.set p x).take (p + 1) = L.take p ++ [x] := by
    rw [List.take_add_one, List.take_set_of_le (Nat.le_refl _)]
    simp [h]
  have e2 : (L.set p x).drop (p + 1 + l.length) = L.drop (p + (l.length + 1)) := by
    rw [List.drop_set_of_lt (by omega)]
    congr 1
    omega
  rw [e1, e2]
  simp
theorem fill_fold : ∀ (l : List Value) (k off : Nat) (cs : Array Value), off + k + l.length ≤ cs.size →
    (l.zipIdx k).foldl (fun cs (p : Value × Nat) => cs.setIfInBounds (off + p.2) p.1) cs = (cs.toList.take (off + k) ++ (l ++ cs.toList.drop (off + k + l.length))).toArray
  | [], k, off, cs, _ => by simp
  | x :: l, k, off, cs, h => by
    simp only [List.length_cons] at h
    rw [List.zipIdx_cons, List.foldl_cons, fill_fold l (k + 1) off _ (by simp; omega)]
    apply Array.ext'
    simp only [Array.toList_setIfInBounds, List.length_cons]
    have := set_split cs.toList (off + k) x l (by simp; omega)
    rw [← this]
    rfl
theorem evParts_sound {st : St} {a : Act} (hv : ∀ x, DRel S β (st.lv x) (a.eval x)) {place : Nat → Option (Nat × Nat)} :
    ∀ {parts : List (Nat × Operand)} {cells : List C} {us : List Value} {l : List C}, LRel S β cells us → evParts P place st cells parts = some l →
      ∃ us' : List Value, Instr.fill place us.toArray (parts.map fun p => (p.1, a.eval p.2)) = some us'.toArray ∧ LRel S β l us'
  | [], cells, us, l, hc, h => by
    simp only [evParts, Option.some.injEq] at h
    subst h
    exact ⟨us, rfl, hc⟩
  | (i, x) :: rest, cells, us, l, hc, h => by
    unfold evParts at h
    cases hp : place i with
    | none => simp [hp] at h
    | some pl =>
      obtain ⟨off, size⟩ := pl
      cases hcl : (st.lv x).cells with
      | none => simp [hp, hcl] at h
      | some m =>
        simp only [hp, hcl] at h
        have h2 := some_of_cond h
        clear h
        obtain ⟨hg, h⟩ := h2
        simp only [Bool.and_eq_true] at hg
        obtain ⟨hsz, hle, hgood⟩ := hg
        have hsz := Nat.eq_of_beq_eq_true hsz
        have hle := Nat.le_of_ble_eq_true hle
        obtain ⟨hm, _⟩ := cells_rel (hv x) hcl hgood
        have hml : (a.eval x).cells.toList.length = m.length := hm.length
        have hms : (a.eval x).cells.size = m.length := by simpa using hml
        have hcs := hc.length
        obtain ⟨us', hf, hr⟩ := evParts_sound hv (setL_rel hc hm off) h
        refine ⟨us', ?_, hr⟩
        rw [List.map_cons]
        unfold Instr.fill
        simp only [hp]
        rw [if_neg (by simp [hms, hsz]; omega)]
        rw [← hf]
        congr 1
        have := fill_fold (a.eval x).cells.toList 0 off us.toArray (by simp [hms]; omega)
        rw [← Array.foldl_toList, Array.toList_zipIdx]
        simpa using this
theorem zeroL_sound {t : TypeId} {z : List C} (h : zeroL P t = some z) : ∃ i v, P.info? t = some i ∧ i.zero = some v ∧ z = v.cells.toList.map cstC ∧ LRel S β z v.cells.toList := by
  unfold zeroL at h
  cases hi : P.info? t with
  | none => simp [hi] at h
  | some i =>
    cases hz : i.zero with
    | none => simp [hi, hz] at h
    | some v =>
      simp only [hi, hz, Option.bind_some, Option.map_some, Option.some.injEq] at h
      refine ⟨i, v, rfl, hz, h.symm, ?_⟩
      subst h
      refine LRel.of_get (by simp) fun q c hc => ?_
      rw [List.getElem?_map] at hc
      cases hq : v.cells.toList[q]? with
      | none => simp [hq] at hc
      | some u =>
        simp only [hq, Option.map_some, Option.some.injEq] at hc
        subst hc
        exact ⟨u, rfl, cstC_rel u⟩
theorem run_zeroValue' {t : TypeId} {i : TypeInfo} {v : Value} (hi : P.info? t = some i) (hz : i.zero = some v) (w : World) : (zeroValue t).run P w = .ok v w := by
  unfold zeroValue
  rw [Sem.run_bind, run_typeInfo' hi, Result.andThen_ok, hz]
  rfl
theorem evBuild_sound {st : St} {a : Act} {t : TypeId} {parts : Array (Nat × Operand)} {vs : List Bool} {d' : D} {xs' : List Obj}
    (hv : ∀ x, DRel S β (st.lv x) (a.eval x)) (hc : Core Γ S β w st.objs) (h : evBuild P t parts.toList st = some (vs, d', xs')) :
    GoodS P p (Instr.build t (parts.map fun (i, x) => (i, a.eval x))) Γ S β w d' xs' := by
  unfold evBuild at h
  cases hu : P.underlying t with
  | none => simp [hu] at h
  | some td =>
    cases td with
    | struct fs =>
      simp only [hu] at h
      cases hz : zeroL P t with
      | none => simp [hz] at h
      | some z =>
        simp only [hz] at h
        cases hp : fs.toList.mapM (fun f => (P.info? f.type).map fun i => (f.offset, i.size)) with
        | none => simp [hp] at h
        | some places =>
          simp only [hp] at h
          cases he : evParts P (fun i => places[i]?) st z parts.toList with
          | none => simp [he] at h
          | some l =>
            simp only [he] at h
            obtain ⟨rfl, rfl, rfl⟩ := res_eq h
            obtain ⟨i, v, hi, hzi, _, hzr⟩ := zeroL_sound (S := S) (β := β) hz
            obtain ⟨us', hf, hr⟩ := evParts_sound hv hzr he
            refine GoodS.same (.agg us'.toArray) (fun w' hw' => ?_) ⟨us', rfl, hr⟩ hc
            have hf' : Instr.fill (fun x => places[x]?) v.cells (List.map (fun x => (x.fst, a.eval x.snd)) parts.toList) = some us'.toArray := by
              simpa using hf
            simp [Instr.build, run_underlying hu, run_zeroValue' hi hzi, Array.mapM_eq_mapM_toList, run_places w' _ _ hp, hf']
    | _ => simp [hu] at h
theorem push_row (hc : Core Γ S β w xs) {e : TypeId} {wd n cap : Nat} {get : Nat → Nat → C} {cur : Array Value} (hcap : n ≤ cap) (hml : cap ≤ maxLen) (hsz : cur.size = cap * wd)
    (hcell : ∀ i j, i < n → j < wd → ∃ u, cur[i * wd + j]? = some u ∧ u.oneCell' = true ∧ CRel S noB (get i j) u) :
    ∃ β', BLe β β' ∧ Core Γ S β' (w.alloc (.cells cur e)) (xs ++ [.row e wd n get]) ∧ β' xs.length = some (some ⟨w.heap.size, e, wd, n, cap⟩) := by
  let k : Bk := ⟨w.heap.size, e, wd, n, cap⟩
  have hle : BLe β (bset β xs.length (some k)) := BLe.bset (hc.out _ (Nat.le_refl _))
  have := hc.push (.cells cur e) (.row e wd n get) (some k) (w' := w.alloc (.cells cur e)) (.inr ⟨⟨k, rfl, rfl⟩, rfl⟩)
    (.inr ⟨k, bset_same _ _ _, rfl, rfl, rfl, hcap, hml, cur, heap_alloc_new w _, hsz, hcell⟩)
  exact ⟨_, this.2, this.1, bset_same _ _ _⟩
theorem own_new {β' : Bmap} {o n m : Nat} {k : Bk} (h : β' o = some (some k)) (h1 : m ≤ k.n) (h2 : m ≤ k.cap) : CRel S β' (.own o m) (.slice (some ⟨k.b, 0, none⟩) m k.cap) := by
  simp only [CRel, h]
  exact ⟨h1, h2, trivial⟩
theorem chunk_get : ∀ (wd n : Nat) (l : List C) (i j : Nat), i < n → j < wd → (tbl (chunk wd n l)) i j = l.getD (i * wd + j) .bot
  | wd, 0, l, i, j, hi, _ => by omega
  | wd, n + 1, l, 0, j, _, hj => by
    simp only [tbl, chunk, List.getD_cons_zero, Nat.zero_mul, Nat.zero_add]
    simp [List.getD, List.getElem?_take, hj]
  | wd, n + 1, l, i + 1, j, hi, hj => by
    have := chunk_get wd n (l.drop wd) i j (by omega) hj
    simp only [tbl, chunk] at this ⊢
    rw [List.getD_cons_succ, this]
    simp only [List.getD, List.getElem?_drop]
    congr 2
    rw [Nat.add_mul]
    omega
theorem shut_good : ∀ {c : C}, c.shut = true → c.good = true := by
  intro c
  induction c with
  | opt b c ih => intro h; exact ih h
  | val u => intro h; exact h
  | _ => intro h; first | rfl | cases h
theorem evParts_length {st : St} {place : Nat → Option (Nat × Nat)} : ∀ {parts : List (Nat × Operand)} {cells l : List C}, evParts P place st cells parts = some l → l.length = cells.length
  | [], cells, l, h => by simp only [evParts, Option.some.injEq] at h; subst h; rfl
  | (i, x) :: rest, cells, l, h => by
    unfold evParts at h
    cases hp : place i with
    | none => simp [hp] at h
    | some pl =>
      obtain ⟨off, size⟩ := pl
      cases hcl : (st.lv x).cells with
      | none => simp [hp, hcl] at h
      | some m =>
        simp only [hp, hcl] at h
        have h2 := some_of_cond h
        clear h
        obtain ⟨hg, h⟩ := h2
        simp only [Bool.and_eq_true] at hg
        have hle := Nat.le_of_ble_eq_true hg.2.1
        rw [evParts_length h]
        unfold setL
        simp
        omega
theorem evBuildSlice_sound {st : St} {a : Act} {t : TypeId} {len : Nat} {parts : Array (Nat × Operand)} {vs : List Bool} {d' : D} {xs' : List Obj}
    (hv : ∀ x, DRel S β (st.lv x) (a.eval x)) (hc : Core Γ S β w st.objs) (h : evBuildSlice P t len parts.toList st = some (vs, d', xs')) :
    GoodV P (Instr.buildSlice t len (parts.map fun (i, x) => (i, a.eval x))) Γ S β w d' xs' := by
  unfold evBuildSlice at h
  cases hu : P.underlying t with
  | none => simp [hu] at h
  | some td =>
    cases td with
    | slice e =>
      simp only [hu] at h
      cases hi : P.info? e with
      | none => simp [hi] at h
      | some ei =>
        cases hz : zeroL P e with
        | none => simp [hi, hz] at h
        | some z =>
          simp only [hi, hz] at h
          have h2 := some_of_cond h
          clear h
          obtain ⟨hg, h⟩ := h2
          simp only [Bool.and_eq_true, Nat.blt_eq] at hg
          obtain ⟨hzl, ⟨hpos, hlen⟩, hsmall⟩ := hg
          have hzl := Nat.eq_of_beq_eq_true hzl
          have hsmall := Nat.le_of_ble_eq_true hsmall
          cases he : evParts P (fun k => some (k * ei.size, ei.size)) st ((List.range (len * ei.size)).map fun q => z.getD (q % ei.size) .bot) parts.toList with
          | none => rw [he] at h; cases h
          | some l =>
            rw [he] at h
            dsimp only at h
            have h2 := some_of_cond h
            clear h
            obtain ⟨hshut, h⟩ := h2
            obtain ⟨rfl, rfl, rfl⟩ := res_eq h
            obtain ⟨i', v, hi', hzi, hzv, hzr⟩ := zeroL_sound (S := S) (β := β) hz
            rw [hi] at hi'; simp only [Option.some.injEq] at hi'; subst hi'
            have hvs : v.cells.size = ei.size := by have := hzr.length; simp at this; omega
            have hbase : LRel S β ((List.range (len * ei.size)).map fun q => z.getD (q % ei.size) .bot) ((List.range (len * ei.size)).map fun q => v.cells[q % v.cells.size]!) := by
              refine LRel.of_get (by simp) fun q c hcq => ?_
              rw [List.getElem?_map] at hcq ⊢
              rcases Nat.lt_or_ge q (len * ei.size) with hq | hq
              · rw [List.getElem?_range hq] at hcq ⊢
                simp only [Option.map_some, Option.some.injEq] at hcq ⊢
                subst hcq
                have hm : q % ei.size < z.length := by rw [hzl]; exact Nat.mod_lt _ hpos
                obtain ⟨u, hu', hr⟩ := hzr.get (q % ei.size) _ (List.getElem?_eq_getElem hm)
                refine ⟨_, rfl, ?_⟩
                have e1 : z.getD (q % ei.size) .bot = z[q % ei.size] := by simp [List.getD, List.getElem?_eq_getElem hm]
                have e2 : v.cells[q % v.cells.size]! = u := by
                  rw [hvs]
                  have hlt : q % ei.size < v.cells.size := by rw [hvs]; exact Nat.mod_lt _ hpos
                  rw [getElem!_pos v.cells _ hlt]
                  simpa [List.getElem?_eq_getElem, hlt] using hu'
                rw [e1, e2]; exact hr
              · rw [List.getElem?_eq_none (by simpa using hq)] at hcq
                simp at hcq
            obtain ⟨us', hf, hr⟩ := evParts_sound hv hbase he
            have hshutR : LRel S noB l us' := by
              refine LRel.of_get hr.length fun q c hcq => ?_
              obtain ⟨u, hu', hru⟩ := hr.get q c hcq
              exact ⟨u, hu', shut_rel (by rw [List.all_eq_true] at hshut; exact hshut _ (List.mem_of_getElem? hcq)) hru⟩
            have hus : us'.length = len * ei.size := by
              have := hr.length
              have h3 : l.length = len * ei.size := by
                have q := evParts_length he
                simpa using q
              omega
            have hml : len ≤ maxLen := by
              have : len * 1 ≤ len * ei.size := Nat.mul_le_mul_left _ hpos
              simp only [maxLen]; omega
            obtain ⟨β', hle, hco, hk⟩ := push_row (S := S) (β := β) (e := e) (wd := ei.size) (n := len) (cap := len) (get := tbl (chunk ei.size len l)) (cur := us'.toArray) hc (Nat.le_refl _) hml (by simpa using hus)
              (fun i j hi hj => by
                have hlt : i * ei.size + j < l.length := by
                  rw [← hr.length, hus]
                  have : (i + 1) * ei.size ≤ len * ei.size := Nat.mul_le_mul_right _ hi
                  rw [Nat.add_mul] at this; omega
                obtain ⟨u, hu', hru⟩ := hshutR.get _ _ (List.getElem?_eq_getElem hlt)
                refine ⟨u, by simpa using hu', good_one (shut_good (by rw [List.all_eq_true] at hshut; exact hshut _ (List.getElem_mem hlt))) hru, ?_⟩
                rw [chunk_get ei.size len l i j hi hj]
                simpa [List.getD, List.getElem?_eq_getElem hlt] using hru)
            refine ⟨.slice (some ⟨w.heap.size, 0, none⟩) len len, _, S, β', ?_, own_new (S := S) (n := len) hk (Nat.le_refl _) (Nat.le_refl _), MLe.refl _, hle, hco⟩
            refine run_buildSlice w t e len _ us'.toArray ei v hu hi hzi (by simp; omega) ?_ ?_
            · have : 0 < len * ei.size := Nat.mul_pos hlen hpos
              omega
            · rw [← hf]
              congr 1
              · apply Array.ext'
                simp
              · simp
    | _ => simp [hu] at h
end
end Go.Dl

namespace Go.Dl
variable [WInv]
section
variable {P : Program} {Γ : Ctx} {S : Mem} {β : Bmap} {w : World} {xs : List Obj}
theorem wrap_i64 {n : Int} (h0 : 0 ≤ n) (h1 : n ≤ 140737488355328) : IntKind.i64.wrap n = n := by
  have hm : n % (2 ^ 64 : Int) = n := Int.emod_eq_of_lt h0 (by omega)
  simp only [IntKind.wrap, IntKind.bits, IntKind.signed, hm]
  rw [if_neg]
  simp only [Bool.true_and, decide_eq_true_eq, Int.not_le]
  omega
theorem evMakeSlice_run {t : TypeId} {l c : D} {vl vc : Value} {vs : List Bool} {d' : D} {xs' : List Obj}
    (hc : Core Γ S β w xs) (hl : DRel S β l vl) (hcap : DRel S β c vc) (h : evMakeSlice P t l c xs = some (vs, d', xs')) (hvs : ∀ b ∈ vs, b = true) :
    ∃ v w' S' β', (Instr.makeSlice t vl vc).run P w = .ok v w' ∧ DRel S' β' d' v ∧ MLe S S' ∧ BLe β β' ∧ Core Γ S' β' w' xs' ∧ Up w w' := by
  unfold evMakeSlice at h
  split at h
  · rename_i e l c hu
    obtain rfl : vl = .int .i64 l := hl
    obtain rfl : vc = .int .i64 c := hcap
    cases hi : P.info? e with
    | none => simp [hi] at h
    | some ei =>
      cases hz : zeroL P e with
      | none => simp [hi, hz] at h
      | some z =>
        simp only [hi, hz] at h
        have h2 := some_of_cond h
        clear h
        obtain ⟨hg, h⟩ := h2
        simp only [Bool.and_eq_true, Nat.blt_eq] at hg
        obtain ⟨hzl, ⟨hpos, hby⟩, hshut⟩ := hg
        have hzl := Nat.eq_of_beq_eq_true hzl
        obtain ⟨rfl, rfl, rfl⟩ := res_eq h
        have hb1 : 0 ≤ l ∧ l ≤ c := by have := hvs (decide (0 ≤ l) && decide (l ≤ c)) (by simp); simpa using this
        have hb2 : c.toNat * ei.bytes ≤ 140737488355328 := by have := hvs (room (c.toNat * ei.bytes)) (by simp); simpa [room] using this
        have hcs : c.toNat ≤ 140737488355328 := Nat.le_trans (Nat.le_mul_of_pos_right _ hby) hb2
        obtain ⟨i', v, hi', hzi, hzv, hzr⟩ := zeroL_sound (S := S) (β := noB) hz
        rw [hi] at hi'; simp only [Option.some.injEq] at hi'; subst hi'
        have hvsz : v.cells.size = ei.size := by have := hzr.length; simp at this; omega
        have hwl : IntKind.i64.wrap l = l := wrap_i64 hb1.1 (by omega)
        have hwc : IntKind.i64.wrap c = c := wrap_i64 (by omega) (by omega)
        have hbig : ¬ ((ei.bytes : Int) * c > 2 ^ 48) := by
          have : (ei.bytes : Int) * c = ((c.toNat * ei.bytes : Nat) : Int) := by
            rw [Int.natCast_mul, Int.toNat_of_nonneg (by omega), Int.mul_comm]
          rw [this]; omega
        let cur : Array Value := (Array.range (c.toNat * ei.size)).map (fun q => (if c.toNat * ei.size = 0 then #[] else v.cells)[q % (if c.toNat * ei.size = 0 then #[] else v.cells : Array Value).size]!)
        have hcur : cur.size = c.toNat * ei.size := by simp [cur]
        have hgood : ∀ q, q < ei.size → ∃ u, v.cells[q]? = some u ∧ u.oneCell' = true ∧ CRel S noB (z.getD q .bot) u := by
          intro q hq
          have hlt : q < z.length := by omega
          obtain ⟨u, hu', hr⟩ := hzr.get q _ (List.getElem?_eq_getElem hlt)
          have hsh : (z[q]).shut = true := by rw [List.all_eq_true] at hshut; exact hshut _ (List.getElem_mem hlt)
          refine ⟨u, by simpa using hu', good_one (shut_good hsh) hr, ?_⟩
          simpa [List.getD, List.getElem?_eq_getElem hlt] using shut_rel hsh hr
        obtain ⟨β', hle, hco, hk⟩ := push_row (S := S) (β := β) (e := e) (wd := ei.size) (n := c.toNat) (cap := c.toNat) (get := fun _ j => z.getD j .bot) (cur := cur) hc (Nat.le_refl _)
          (by simp only [maxLen]; omega) hcur
          (fun i j hi hj => by
            have hpos' : c.toNat * ei.size ≠ 0 := by
              have : 0 < c.toNat * ei.size := Nat.mul_pos (by omega) hpos
              omega
            have hlt : i * ei.size + j < c.toNat * ei.size := by
              have : (i + 1) * ei.size ≤ c.toNat * ei.size := Nat.mul_le_mul_right _ hi
              rw [Nat.add_mul] at this; omega
            obtain ⟨u, hu', h1, hr⟩ := hgood j hj
            refine ⟨u, ?_, h1, hr⟩
            have hm : (i * ei.size + j) % ei.size = j := by
              rw [Nat.mul_comm, Nat.mul_add_mod, Nat.mod_eq_of_lt hj]
            have hjlt : j < v.cells.size := by omega
            have hvj : v.cells[j]! = u := by
              rw [getElem!_pos v.cells j hjlt]
              simpa [hjlt] using hu'
            simp only [cur, if_neg hpos', hvsz, Array.getElem?_map]
            rw [Array.getElem?_range, if_pos hlt]
            simp only [Option.map_some, hm, hvj])
        refine ⟨.slice (some ⟨w.heap.size, 0, none⟩) l.toNat c.toNat, _, S, β', ?_, own_new (S := S) (n := c.toNat) hk (by show l.toNat ≤ c.toNat; omega) (by show l.toNat ≤ c.toNat; omega), MLe.refl _, hle, hco, (Go.RowKit.Below.refl _ _).alloc (Nat.le_refl _) _⟩
        unfold Instr.makeSlice
        rw [Sem.run_bind, run_underlying hu, Result.andThen_ok]
        simp only [asInt, asIntOf, pure_bind]
        rw [Sem.run_bind, run_typeInfo' hi, Result.andThen_ok]
        simp only [hwl, hwc]
        rw [if_neg]
        · rw [Sem.run_bind, run_askRoom, Result.andThen_ok, Sem.run_bind, run_sizeOf' hi, Result.andThen_ok]
          by_cases hz0 : c.toNat * ei.size = 0
          · rw [if_pos hz0]
            simp [newRow, cur, hz0]
          · rw [if_neg hz0]
            simp [run_zeroValue' hi hzi, newRow, cur, hz0]
        · simp only [gt_iff_lt, Bool.or_eq_true, decide_eq_true_eq, not_or, Int.not_lt]
          refine ⟨⟨⟨by omega, by omega⟩, by omega⟩, by omega⟩
  · cases h
theorem evMakeSlice_sound {t : TypeId} {l c : D} {vl vc : Value} {vs : List Bool} {d' : D} {xs' : List Obj}
    (hc : Core Γ S β w xs) (hl : DRel S β l vl) (hcap : DRel S β c vc) (h : evMakeSlice P t l c xs = some (vs, d', xs')) (hvs : ∀ b ∈ vs, b = true) :
    GoodV P (Instr.makeSlice t vl vc) Γ S β w d' xs' := by
  obtain ⟨v, w', S', β', h1, h2, h3, h4, h5, _⟩ := evMakeSlice_run hc hl hcap h hvs
  exact ⟨v, w', S', β', h1, h2, h3, h4, h5⟩
structure Src (P : Program) (S : Mem) (w : World) (size m : Nat) (g : Nat → Nat → C) (x : Value) (news : List Value) : Prop where
  len : ∀ w', (Builtin.lenOf x).run P w' = .ok m w'
  first : ∀ w', w'.heap = w.heap → (Builtin.firstCells size m x).run P w' = .ok news.toArray w'
  length : news.length = m * size
  one : ∀ u ∈ news, u.oneCell' = true
  cell : ∀ i j, i < m → j < size → ∃ u, news[i * size + j]? = some u ∧ CRel S noB (g i j) u
theorem run_append_room1 {t t' ty e : TypeId} {td : TypeDesc} {i : TypeInfo} (ht : P.underlying t = some (.slice e)) (ht' : P.underlying t' = some td) (htd : (∃ u, td = .slice u) ∨ td = .string)
    (hi : P.info? e = some i) {x : Value} {m : Nat} {g : Nat → Nat → C} {news : List Value} (hx : Src P S w i.size m g x news)
    (ts : Array TypeId) (h0 : ts[0]? = some t) (h1 : ts[1]? = some t') (b sLen sCap : Nat) (cur : Array Value) (hg : w.heap[b]? = some (.cells cur e (0, 0)))
    (hroom : sLen + m ≤ sCap) (hfit : sLen * i.size + news.length ≤ cur.size) :
    (Builtin.append_ ts ty #[.slice (some ⟨b, 0, none⟩) sLen sCap, x]).run P w =
      .ok (.slice (some ⟨b, 0, none⟩) (sLen + m) sCap) (w.setRow b (cur.toList.take (sLen * i.size) ++ news ++ cur.toList.drop (sLen * i.size + news.length)).toArray) := by
  have hst := run_storeCells_at P b (sLen * i.size) e news 0 cur w hg (by simpa using hfit) hx.one
  simp only [Nat.add_zero] at hst
  rcases htd with ⟨u, rfl⟩ | rfl <;>
  simp [Builtin.append_, h0, h1, run_underlying ht, run_underlying ht', sizeOf, typeInfo, hi, hx.len, hroom, hx.first w rfl, Addr.add_lit, hst]
theorem run_append_none1 {t t' ty e : TypeId} {td : TypeDesc} {i : TypeInfo} (ht : P.underlying t = some (.slice e)) (ht' : P.underlying t' = some td) (htd : (∃ u, td = .slice u) ∨ td = .string)
    (hi : P.info? e = some i) {x : Value} {g : Nat → Nat → C} {news : List Value} (hx : Src P S w i.size 0 g x news)
    (ts : Array TypeId) (h0 : ts[0]? = some t) (h1 : ts[1]? = some t') :
    (Builtin.append_ ts ty #[.slice none 0 0, x]).run P w = .ok (.slice none 0 0) w := by
  rcases htd with ⟨u, rfl⟩ | rfl <;>
  simp [Builtin.append_, h0, h1, run_underlying ht, run_underlying ht', sizeOf, typeInfo, hi, hx.len, hx.first w rfl]
theorem run_append_grow1 {t t' ty e : TypeId} {td : TypeDesc} {i : TypeInfo} {z : Value} (ht : P.underlying t = some (.slice e)) (ht' : P.underlying t' = some td) (htd : (∃ u, td = .slice u) ∨ td = .string)
    (hi : P.info? e = some i) (hz : i.zero = some z) {x : Value} {m : Nat} {g : Nat → Nat → C} {news : List Value} (hx : Src P S w i.size m g x news)
    (ts : Array TypeId) (h0 : ts[0]? = some t) (h1 : ts[1]? = some t') (v : Value) (base : Option Addr) (sLen sCap : Nat) (hv : v = .slice base sLen sCap) (olds : List Value)
    (hfo : (Builtin.firstCells i.size sLen (.slice base sLen sCap)).run P w.drew = .ok olds.toArray w.drew)
    (hg : sCap < sLen + m) (h63 : sLen + m ≤ 9223372036854775807) (hfit : Builtin.nextslicecap (sLen + m) sCap * i.bytes ≤ 281474976710656) :
    (Builtin.append_ ts ty #[v, x]).run P w =
      .ok (.slice (some ⟨w.heap.size, 0, none⟩) (sLen + m) (grownCap w (sLen + m) sCap e))
        (w.drew.alloc (.cells (olds.toArray ++ news.toArray ++ Builtin.zeroCells z.cells (grownCap w (sLen + m) sCap e - (sLen + m))) e)) := by
  subst hv
  have hn : ¬ (sLen + m ≤ sCap) := by omega
  have h63' : ¬ (9223372036854775807 < ((sLen : Int) + (m : Int))) := by omega
  have h48' : ¬ (281474976710656 < Builtin.nextslicecap (sLen + m) sCap * i.bytes) := by omega
  rcases htd with ⟨u, rfl⟩ | rfl
  all_goals
    simp [Builtin.append_, h0, h1, run_underlying ht, run_underlying ht', sizeOf, typeInfo, zeroValue, hi, hz, hx.len, hn, h63', h48', Question.forced, hx.first w.drew rfl, hfo, newRow, grownCap]
    congr 2
    apply Array.ext'
    simp [List.append_assoc]
theorem run_append_any {t t' ty e : TypeId} {td : TypeDesc} {i : TypeInfo} {z : Value} (ht : P.underlying t = some (.slice e)) (ht' : P.underlying t' = some td) (htd : (∃ u, td = .slice u) ∨ td = .string)
    (hi : P.info? e = some i) (hz : i.zero = some z) (hzs : z.cells.size = i.size)
    {v : Value} {n : Nat} {old : List Value} (hown : w.ownsRow 0 e i.size v n old)
    {x : Value} {m : Nat} {g : Nat → Nat → C} {news : List Value} (hx : Src P S w i.size m g x news)
    (h63 : n + m ≤ maxLen) (hbytes : (n + m) * i.bytes ≤ 140737488355328) (ts : Array TypeId) (h0 : ts[0]? = some t) (h1 : ts[1]? = some t') :
    ∃ v' w', (Builtin.append_ ts ty #[v, x]).run P w = .ok v' w' ∧ w'.ownsRow 0 e i.size v' (n + m) (old ++ news) ∧ w.grownBy w' v.ownBlock ∧
      ((v' = .slice none 0 0 ∧ w' = w ∧ v = .slice none 0 0) ∨ (∃ b, v'.ownBlock = some b ∧ v.ownBlock = some b ∧ w'.heap.size = w.heap.size) ∨ (v'.ownBlock = some w.heap.size ∧ w'.heap.size = w.heap.size + 1 ∧ ∀ k, k < w.heap.size → w'.heap[k]? = w.heap[k]?)) := by
  have hsmall : n + m ≤ 9223372036854775807 := by simp only [maxLen] at h63; omega
  have hlen : (old ++ news).length = (n + m) * i.size := by rw [List.length_append, hown.1, hx.length, Nat.add_mul]
  have grown : ∀ (o : Nat), o < n + m → ∀ (row : Option Nat),
      (w.drew.alloc (.cells (old.toArray ++ news.toArray ++ Builtin.zeroCells z.cells (grownCap w (n + m) o e - (n + m))) e)).ownsRow 0 e i.size
        (.slice (some ⟨w.heap.size, 0, none⟩) (n + m) (grownCap w (n + m) o e)) (n + m) (old ++ news) ∧
      w.grownBy (w.drew.alloc (.cells (old.toArray ++ news.toArray ++ Builtin.zeroCells z.cells (grownCap w (n + m) o e - (n + m))) e)) row := by
    intro o ho row
    have hge := grownCap_ge w (n + m) o e
    have hcm : grownCap w (n + m) o e ≤ maxLen := grownCap_le_maxLen w (n + m) o e h63
    refine ⟨⟨hlen, .inr ⟨w.heap.size, _, _, rfl, Nat.zero_le _, heap_alloc_new w.drew _, hge, hcm, ?_, ?_⟩⟩, ⟨rfl, rfl, rfl, by simp, fun k hk _ => heap_alloc_old w.drew _ k hk⟩⟩
    · simp only [Array.size_append, List.size_toArray, size_zeroCells, hzs, hown.1, hx.length, ← Nat.add_mul]
      congr 1
      omega
    · simp only [Array.toList_append, List.append_assoc]
      rw [← List.append_assoc, ← hlen]
      exact List.take_left
  rcases hown.2 with ⟨rfl, rfl⟩ | ⟨b, cap, cur, rfl, hbg, hg, hnc, hcm, hcs, htake⟩
  · have ho : old = [] := List.eq_nil_of_length_eq_zero (by simpa using hown.1)
    subst ho
    by_cases hm : m = 0
    · subst hm
      have hn : news = [] := List.eq_nil_of_length_eq_zero (by simpa using hx.length)
      subst hn
      exact ⟨.slice none 0 0, w, run_append_none1 ht ht' htd hi hx ts h0 h1, World.ownsRow_nil w 0 e i.size, ⟨rfl, rfl, rfl, Nat.le_refl _, fun _ _ _ => rfl⟩, .inl ⟨rfl, rfl, rfl⟩⟩
    · have hr := run_append_grow1 (ty := ty) ht ht' htd hi hz hx ts h0 h1 _ none 0 0 rfl [] (run_firstCells_none ..) (by omega) (by omega) (growslice_fits (by omega) hbytes)
      have hgr := grown 0 (by omega) (Value.ownBlock (.slice none 0 0))
      exact ⟨_, _, hr, hgr.1, hgr.2, .inr (.inr ⟨rfl, by simp, fun k hk => heap_alloc_old w.drew _ k hk⟩)⟩
  · by_cases hroom : n + m ≤ cap
    · have hfit : n * i.size + news.length ≤ cur.size := by rw [hx.length, hcs, ← Nat.add_mul]; exact Nat.mul_le_mul_right _ hroom
      have hr := run_append_room1 (ty := ty) ht ht' htd hi hx ts h0 h1 b n cap cur hg hroom hfit
      refine ⟨_, _, hr, ⟨hlen, .inr ⟨b, cap, _, rfl, hbg, setRow_heap w b cur _ e _ hg, hroom, hcm, ?_, ?_⟩⟩, ⟨rfl, rfl, rfl, by simp, fun k _ hk => setRow_other w b k _ (fun e => hk (by simp [Value.ownBlock, e]))⟩, .inr (.inl ⟨b, rfl, rfl, by simp⟩)⟩
      · simp only [List.size_toArray, List.length_append, List.length_take, List.length_drop, Array.length_toList]
        omega
      · rw [htake, ← hlen]
        exact List.take_left
    · have holds : ∀ j u, old[j]? = some u → w.cell? ((⟨b, 0, none⟩ : Addr).add j) = some u := hown.cells (g := b) rfl
      have hfo := run_firstCells_some (P := P) w.drew i.size n ⟨b, 0, none⟩ n cap old hown.1 (by simpa using holds)
      have hr := run_append_grow1 (ty := ty) ht ht' htd hi hz hx ts h0 h1 _ (some ⟨b, 0, none⟩) n cap rfl old hfo (by omega) (by omega) (growslice_fits (by omega) hbytes)
      have hgr := grown cap (by omega) (Value.ownBlock (.slice (some ⟨b, 0, none⟩) n cap))
      exact ⟨_, _, hr, hgr.1, hgr.2, .inr (.inr ⟨rfl, by simp, fun k hk => heap_alloc_old w.drew _ k hk⟩)⟩
theorem Src.empty {size : Nat} {g : Nat → Nat → C} {a : Option Addr} {c : Nat} : Src P S w size 0 g (.slice a 0 c) [] := by
  refine ⟨fun _ => rfl, fun w' hw => ?_, by simp, by simp, fun i j hi => by omega⟩
  cases a with
  | none => rfl
  | some a => simp [Builtin.firstCells, loadCells, loadCellsFrom]
theorem cells_list {w : World} {b off k : Nat} (f : Nat → Value) (h : ∀ q, q < k → w.cell? ⟨b, off + q, none⟩ = some (f q)) :
    ∀ j u, ((List.range k).map f)[j]? = some u → w.cell? ((⟨b, off, none⟩ : Addr).add j) = some u := by
  intro j u hu
  rw [List.getElem?_map] at hu
  rcases Nat.lt_or_ge j k with hj | hj
  · rw [List.getElem?_range hj] at hu
    simp only [Option.map_some, Option.some.injEq] at hu
    rw [add_lit, h j hj, hu]
  · rw [List.getElem?_eq_none (by simpa using hj)] at hu
    cases hu
theorem Src.of_row {size m : Nat} {g : Nat → Nat → C} {b off c : Nat} (hs : 0 < size)
    (hcell : ∀ i j, i < m → j < size → ∃ u, w.cell? ⟨b, off + i * size + j, none⟩ = some u ∧ u.oneCell' = true ∧ CRel S noB (g i j) u) :
    ∃ news, Src P S w size m g (.slice (some ⟨b, off, none⟩) m c) news := by
  let f : Nat → Value := fun q => (w.cell? ⟨b, off + q, none⟩).getD undef
  have hq : ∀ q, q < m * size → ∃ u, w.cell? ⟨b, off + q, none⟩ = some u ∧ u.oneCell' = true ∧ CRel S noB (g (q / size) (q % size)) u := by
    intro q hq
    have h1 : q / size < m := by rw [Nat.div_lt_iff_lt_mul hs]; exact hq
    have h2 : q % size < size := Nat.mod_lt _ hs
    obtain ⟨u, hu, hr⟩ := hcell _ _ h1 h2
    have h3 : off + q / size * size + q % size = off + q := by rw [Nat.add_assoc, Nat.mul_comm, Nat.div_add_mod]
    rw [h3] at hu
    exact ⟨u, hu, hr⟩
  have hf : ∀ q, q < m * size → w.cell? ⟨b, off + q, none⟩ = some (f q) := by
    intro q h
    obtain ⟨u, hu, _⟩ := hq q h
    simp [f, hu]
  refine ⟨(List.range (m * size)).map f, ⟨fun _ => rfl, fun w' hw => ?_, by simp, ?_, ?_⟩⟩
  · have hf' : ∀ q, q < m * size → w'.cell? ⟨b, off + q, none⟩ = some (f q) := by
      intro q h
      rw [← hf q h]
      simp [World.cell?, hw]
    exact run_firstCells_some (P := P) w' size m ⟨b, off, none⟩ m c _ (by simp) (cells_list f hf')
  · intro u hu
    obtain ⟨q, hq1, rfl⟩ := List.mem_map.1 hu
    obtain ⟨u, hu, h1, _⟩ := hq q (by simpa using hq1)
    have := hf q (by simpa using hq1)
    rw [hu] at this
    simp only [Option.some.injEq] at this
    rw [← this]; exact h1
  · intro i j hi hj
    have hlt : i * size + j < m * size := by
      have : (i + 1) * size ≤ m * size := Nat.mul_le_mul_right _ hi
      rw [Nat.add_mul] at this; omega
    obtain ⟨u, hu, _, hr⟩ := hcell i j hi hj
    refine ⟨u, ?_, hr⟩
    rw [List.getElem?_map, List.getElem?_range hlt, Option.map_some]
    have := hf _ hlt
    rw [← Nat.add_assoc, hu] at this
    exact this.symm
theorem srcRow_sound {e : TypeId} {size : Nat} {d : D} {x : Value} {m : Nat} {g : Nat → Nat → C} (hs : 0 < size)
    (hc : Core Γ S β w xs) (hd : DRel S β d x) (h : srcRow P e size d xs = some (m, g)) : ∃ news, Src P S w size m g x news := by
  unfold srcRow at h
  split at h
  · simp only [Option.some.injEq, Prod.mk.injEq] at h
    obtain ⟨rfl, rfl⟩ := h
    obtain rfl := hd
    exact ⟨[], Src.empty⟩
  · rename_i w' m' g'
    have h2 := some_of_cond h
    clear h
    obtain ⟨hw, h⟩ := h2
    have hw := Nat.eq_of_beq_eq_true hw
    simp only [Option.some.injEq, Prod.mk.injEq] at h
    obtain ⟨rfl, rfl⟩ := h
    subst hw
    obtain ⟨a, cap, rfl, _, _, hz⟩ := hd
    rcases hz with hz | ⟨b, off, rfl, hcell⟩
    · subst hz; exact ⟨[], Src.empty⟩
    · exact Src.of_row hs fun i j hi hj => by
        obtain ⟨u, hu, hr⟩ := hcell i j hi hj
        exact ⟨u, (hc.holds _ _ _ hu).1, (hc.holds _ _ _ hu).2, hr⟩
  · rename_i o m'
    cases hxo : xs[o]? with
    | none => simp [hxo] at h
    | some ob =>
      cases ob with
      | row e' wd n get =>
        simp only [hxo] at h
        have h2 := some_of_cond h
        clear h
        obtain ⟨hw, h⟩ := h2
        have hw := Nat.eq_of_beq_eq_true hw
        simp only [Option.some.injEq, Prod.mk.injEq] at h
        obtain ⟨rfl, rfl⟩ := h
        subst hw
        simp only [DRel, CRel] at hd
        rcases hc.objs o _ hxo with ⟨hn, _⟩ | ⟨k, hk, he, hw', hn, hcap, hml, cur, hh, hsz, hcell⟩
        · rw [hn] at hd
          obtain ⟨rfl, rfl⟩ := hd
          exact ⟨[], Src.empty⟩
        · rw [hk] at hd
          obtain ⟨hle, _, rfl⟩ := hd
          exact Src.of_row hs fun i j hi hj => by
            obtain ⟨u, hu, h1, hr⟩ := hcell i j (by omega) hj
            exact ⟨u, by rw [cell_of_heap hh, Nat.zero_add]; exact hu, h1, hr⟩
      | _ => simp [hxo] at h
  · rename_i l
    cases hu : P.underlying e with
    | none => simp [hu] at h
    | some td =>
      cases td with
      | int k =>
        cases k with
        | u8 =>
          simp only [hu] at h
          have h2 := some_of_cond h
          clear h
          obtain ⟨hw, h⟩ := h2
          have hw := Nat.eq_of_beq_eq_true hw
          simp only [Option.some.injEq, Prod.mk.injEq] at h
          obtain ⟨rfl, rfl⟩ := h
          subst hw
          obtain ⟨rfl, _⟩ := hd
          have hsz : (⟨l.toArray⟩ : ByteArray).size = l.length := by simp [ByteArray.size]
          refine ⟨l.map fun b => .int .u8 b.toNat, ⟨fun _ => ?_, fun w' _ => ?_, by simp, by simp [Value.oneCell'], fun i j hi hj => ?_⟩⟩
          · simp only [Builtin.lenOf, hsz]; rfl
          · simp only [Builtin.firstCells, Sem.run_pure]
            congr 1
            apply Array.ext'
            have : ((⟨l.toArray⟩ : ByteArray).extract 0 l.length).data.toList = l := by
              rw [Lib.extract_data]; simp
            simp [this]
          · have : j = 0 := by omega
            subst this
            refine ⟨.int .u8 (l.getD i 0).toNat, ?_, rfl⟩
            simp [List.getD, List.getElem?_eq_getElem hi]
        | _ => simp [hu] at h
      | _ => simp [hu] at h
  · cases h
theorem set_get {l : List Obj} {o o' : Nat} {y : Obj} (h : (l.set o .dead)[o']? = some y) (hl : y.live = true) : o' ≠ o ∧ l[o']? = some y := by
  rw [List.getElem?_set] at h
  split at h
  · split at h
    · simp only [Option.some.injEq] at h
      subst h
      cases hl
    · cases h
  · rename_i he; exact ⟨fun e => he e.symm, h⟩
theorem Core.join {ys : List Obj} {w' : World} (h : Core Γ S β w ys) (x : Obj) (k : Bk) (ho : w'.os = w.os) (ht : w'.tape = w.tape) (hu : w'.output = w.output)
    (hz : w.heap.size ≤ w'.heap.size) (hb : ∀ b, b < w.heap.size → b ≠ k.b → w'.heap[b]? = w.heap[b]?) (hlt : k.b < w'.heap.size) (hm : k.b < Γ.w.heap.size → Γ.M k.b)
    (hs : ∀ q, S k.b q = none) (hn : ∀ o k' y, ys[o]? = some y → y.live = true → β o = some (some k') → k'.b ≠ k.b)
    (hx : ORel S (bset β ys.length (some k)) w' ys.length x) : Core Γ S (bset β ys.length (some k)) w' (ys ++ [x]) ∧ BLe β (bset β ys.length (some k)) := by
  have hle : BLe β (bset β ys.length (some k)) := BLe.bset (h.out _ (Nat.le_refl _))
  have hne : ∀ o x, ys[o]? = some x → o ≠ ys.length := fun o x ho he => by
    subst he; simp at ho
  have hb' : ∀ o x, ys[o]? = some x → bset β ys.length (some k) o = β o := fun o x ho => by
    unfold bset; rw [if_neg (hne o x ho)]
  have hbn : bset β ys.length (some k) ys.length = some (some k) := bset_same _ _ _
  refine ⟨⟨?_, ?_, ?_, ?_, ?_, ?_, ?_⟩, hle⟩
  · refine h.frame.ext ho ht hu hz fun b hb1 hb2 => hb b (Nat.lt_of_lt_of_le hb1 h.frame.size) fun e => ?_
    subst e; exact hb2 (hm hb1)
  · refine h.holds.keep fun b ⟨i, hi⟩ => hb b (h.holds.lt hi) fun e => ?_
    subst e; rw [hs i] at hi; cases hi
  · intro o y hy
    rcases getElem?_concat _ _ _ _ hy with hy | ⟨rfl, rfl⟩
    · exact (h.objs o y hy).keep (MLe.refl _) hle fun k' hl hk => hb _ (h.mine o k' y hy hl hk).1 (hn o k' y hy hl hk)
    · exact hx
  · intro o ho
    simp at ho
    unfold bset
    rw [if_neg (by omega)]
    exact h.out o (by omega)
  · intro o o' k1 k2 y y' hy hy' hl hl' h1 h2 hno
    have ka := getElem?_concat _ _ _ _ hy
    have kb := getElem?_concat _ _ _ _ hy'
    clear hy hy'
    rcases ka with qa | ⟨ra, ra'⟩
    · rcases kb with qb | ⟨rb, rb'⟩
      · rw [hb' o y qa] at h1; rw [hb' o' y' qb] at h2
        exact h.inj o o' k1 k2 y y' qa qb hl hl' h1 h2 hno
      · subst rb
        rw [hb' o y qa] at h1; rw [hbn] at h2
        simp only [Option.some.injEq] at h2; subst h2
        exact hn o k1 y qa hl h1
    · subst ra
      rcases kb with qb | ⟨rb, rb'⟩
      · rw [hb' o' y' qb] at h2; rw [hbn] at h1
        simp only [Option.some.injEq] at h1; subst h1
        exact fun e => hn o' k2 y' qb hl' h2 e.symm
      · exact absurd rb.symm hno
  · intro o k1 y hy hl h1 i
    rcases getElem?_concat _ _ _ _ hy with hy | ⟨rfl, rfl⟩
    · rw [hb' o y hy] at h1
      exact h.sep o k1 y hy hl h1 i
    · rw [hbn] at h1
      simp only [Option.some.injEq] at h1; subst h1
      exact hs i
  · intro o k1 y hy hl h1
    rcases getElem?_concat _ _ _ _ hy with hy | ⟨rfl, rfl⟩
    · rw [hb' o y hy] at h1
      have := h.mine o k1 y hy hl h1
      exact ⟨Nat.lt_of_lt_of_le this.1 hz, this.2⟩
    · rw [hbn] at h1
      simp only [Option.some.injEq] at h1; subst h1
      exact ⟨hlt, hm⟩
theorem append_key {t t' e : TypeId} {td : TypeDesc} {i : TypeInfo} {z : Value} (ht : P.underlying t = some (.slice e)) (ht' : P.underlying t' = some td) (htd : (∃ u, td = .slice u) ∨ td = .string)
    (hi : P.info? e = some i) (hz : i.zero = some z) (hzs : z.cells.size = i.size) (hby : 0 < i.bytes) (ts : Array TypeId) (ty : TypeId) (h0 : ts[0]? = some t) (h1 : ts[1]? = some t')
    {v x : Value} {m : Nat} {g2 : Nat → Nat → C} {news : List Value} (hsrc : Src P S w i.size m g2 x news)
    (n : Nat) (old : List Value) (ys : List Obj) (get : Nat → Nat → C) (hown : w.ownsRow 0 e i.size v n old) (hroom : room ((n + m) * i.bytes) = true) (hys : Core Γ S β w ys)
    (hblk : ∀ b, v.ownBlock = some b → b < w.heap.size ∧ (b < Γ.w.heap.size → Γ.M b) ∧ (∀ q, S b q = none) ∧ ∀ o k y, ys[o]? = some y → y.live = true → β o = some (some k) → k.b ≠ b)
    (hcells : ∀ q j, q < n + m → j < i.size → ∃ u, (old ++ news)[q * i.size + j]? = some u ∧ u.oneCell' = true ∧ CRel S noB (get q j) u) :
    GoodV P (Builtin.append_ ts ty #[v, x]) Γ S β w (.c (.own ys.length (n + m))) (ys ++ [.row e i.size (n + m) get]) := by
  have hrm : (n + m) * i.bytes ≤ 140737488355328 := by simpa [room] using hroom
  have hnm : n + m ≤ 140737488355328 := Nat.le_trans (Nat.le_mul_of_pos_right _ hby) hrm
  have hml : n + m ≤ maxLen := by simp only [maxLen]; omega
  obtain ⟨v', w', hr, hown', hgrow, hcase⟩ := run_append_any (ty := ty) ht ht' htd hi hz hzs hown hsrc hml hrm ts h0 h1
  -- a result with a block
  have blocked : ∀ b, v'.ownBlock = some b → (b < w.heap.size → some b = v.ownBlock) → (∀ k, k < w.heap.size → k ≠ b → w'.heap[k]? = w.heap[k]?) → b < w'.heap.size →
      (b < Γ.w.heap.size → Γ.M b) → (∀ q, S b q = none) → (∀ o k y, ys[o]? = some y → y.live = true → β o = some (some k) → k.b ≠ b) →
      GoodV P (Builtin.append_ ts ty #[v, x]) Γ S β w (.c (.own ys.length (n + m))) (ys ++ [.row e i.size (n + m) get]) := by
    intro b hb _ hheap hblt hbm hbs hbn
    rcases hown'.2 with ⟨rfl, _⟩ | ⟨b', cap, cur, rfl, _, hg, hnc, hcm, hcs, htake⟩
    · cases hb
    · simp only [Value.ownBlock, Option.some.injEq] at hb
      subst hb
      obtain ⟨hco, hle⟩ := hys.join (.row e i.size (n + m) get) ⟨b', e, i.size, n + m, cap⟩ hgrow.os hgrow.tape hgrow.output hgrow.size hheap hblt hbm hbs hbn
        (.inr ⟨_, bset_same _ _ _, rfl, rfl, rfl, hnc, hcm, cur, hg, hcs, fun q j hq hj => by
          obtain ⟨u, hu, h1, hr⟩ := hcells q j hq hj
          refine ⟨u, ?_, h1, hr⟩
          rw [← htake, List.getElem?_take, if_pos (by
            have : (q + 1) * i.size ≤ (n + m) * i.size := Nat.mul_le_mul_right _ hq
            rw [Nat.add_mul] at this; omega)] at hu
          simpa using hu⟩)
      refine ⟨_, w', S, _, hr, ?_, MLe.refl _, hle, hco⟩
      simp only [DRel, CRel, bset_same]
      exact ⟨Nat.le_refl _, hnc, trivial⟩
  rcases hcase with ⟨rfl, rfl, rfl⟩ | ⟨b, hb1, hb2, hsz⟩ | ⟨hb1, hsz, hkeep⟩
  · have hzero : n + m = 0 := by
      rcases hown'.2 with ⟨_, h⟩ | ⟨_, _, _, h, _⟩
      · exact h
      · cases h
    obtain ⟨hco, hle⟩ := hys.push (.cells #[] e) (.row e i.size (n + m) get) none (w' := w') (.inl ⟨rfl, rfl⟩) (.inl ⟨bset_same _ _ _, hzero⟩)
    refine ⟨_, w', S, _, hr, ?_, MLe.refl _, hle, hco⟩
    simp only [DRel, CRel, bset_same]
    exact ⟨hzero, trivial⟩
  · obtain ⟨q1, q2, q3, q4⟩ := hblk b hb2
    exact blocked b hb1 (fun _ => hb2.symm) (fun k hk hne => hgrow.block k hk (by rw [hb2]; simpa using hne)) (by omega) q2 q3 q4
  · refine blocked _ hb1 (fun h => absurd h (Nat.lt_irrefl _)) (fun k hk _ => hkeep k hk) (by omega) (fun h => ?_) (fun q => ?_) (fun o k y hy hl hk => ?_)
    · have := hys.frame.size; omega
    · cases hs : S w.heap.size q with
      | none => rfl
      | some u => exact absurd (hys.holds.lt (i := q) (by simp [hs])) (Nat.lt_irrefl _)
    · have := (hys.mine o k y hy hl hk).1; omega
theorem Src.get {size m : Nat} {g : Nat → Nat → C} {x : Value} {news : List Value} (h : Src P S w size m g x news) (i j : Nat) (hi : i < m) (hj : j < size) :
    ∃ u, news[i * size + j]? = some u ∧ u.oneCell' = true ∧ CRel S noB (g i j) u := by
  obtain ⟨u, hu, hr⟩ := h.cell i j hi hj
  exact ⟨u, hu, h.one u (List.mem_of_getElem? hu), hr⟩
theorem evAppend_sound {t t' : TypeId} {td : TypeDesc} {dst src : D} {v x : Value} {vs : List Bool} {d' : D} {xs' : List Obj} (ht' : P.underlying t' = some td) (htd : (∃ u, td = .slice u) ∨ td = .string)
    (ts : Array TypeId) (ty : TypeId) (h0 : ts[0]? = some t) (h1 : ts[1]? = some t')
    (hc : Core Γ S β w xs) (hd : DRel S β dst v) (hx : DRel S β src x) (h : evAppend P t dst src xs = some (vs, d', xs')) (hvs : ∀ b ∈ vs, b = true) :
    GoodV P (Builtin.append_ ts ty #[v, x]) Γ S β w d' xs' := by
  unfold evAppend at h
  cases ht : P.underlying t with
  | none => simp [ht] at h
  | some tdd =>
    cases tdd with
    | slice e =>
      simp only [ht] at h
      cases hi : P.info? e with
      | none => simp [hi] at h
      | some i =>
        simp only [hi] at h
        cases hz : i.zero with
        | none => simp [hz] at h
        | some z =>
          simp only [hz] at h
          have h2 := some_of_cond h
          clear h
          obtain ⟨hg, h⟩ := h2
          simp only [Bool.and_eq_true, Nat.blt_eq] at hg
          obtain ⟨hzs, hsz, hby⟩ := hg
          have hzs := Nat.eq_of_beq_eq_true hzs
          cases hsr : srcRow P e i.size src xs with
          | none => simp [hsr] at h
          | some p =>
            obtain ⟨m, g2⟩ := p
            simp only [hsr] at h
            obtain ⟨news, hsrc⟩ := srcRow_sound hsz hc hx hsr
            split at h
            · obtain ⟨rfl, rfl, rfl⟩ := res_eq h
              obtain rfl := hd
              have hrm : room (m * i.bytes) = true := hvs _ (by simp)
              have := append_key ht ht' htd hi hz hzs hby ts ty h0 h1 hsrc 0 [] xs g2 (World.ownsRow_nil w 0 e i.size) (by rw [Nat.zero_add]; exact hrm) hc (fun b hb => by cases hb)
                (fun q j hq hj => by simpa using hsrc.get q j (by omega) hj)
              rw [Nat.zero_add] at this
              exact this
            · rename_i o n
              cases hxo : xs[o]? with
              | none => simp [hxo] at h
              | some ob =>
                cases ob with
                | row e' wd n' g =>
                  simp only [hxo] at h
                  have h2 := some_of_cond h
                  clear h
                  obtain ⟨hg, h⟩ := h2
                  simp only [Bool.and_eq_true] at hg
                  have he := Nat.eq_of_beq_eq_true hg.1
                  have hw := Nat.eq_of_beq_eq_true hg.2
                  subst he; subst hw
                  obtain ⟨rfl, rfl, rfl⟩ := res_eq h
                  have hrm : room ((n + m) * i.bytes) = true := hvs _ (by simp)
                  have hlen : (xs.set o Obj.dead).length = xs.length := by simp
                  simp only [DRel, CRel] at hd
                  rcases hc.objs o _ hxo with ⟨hn, hn0⟩ | ⟨k, hk, he, hw', hn, hcap, hml, cur, hh, hcs, hcell⟩
                  · rw [hn] at hd
                    obtain ⟨rfl, rfl⟩ := hd
                    have := append_key ht ht' htd hi hz hzs hby ts ty h0 h1 hsrc 0 [] (xs.set o .dead) (fun i j => bif Nat.blt i 0 then g i j else g2 (i - 0) j) (World.ownsRow_nil w 0 e' i.size) hrm (hc.kill o) (fun b hb => by cases hb)
                      (fun q j hq hj => by
                        have hb : Nat.blt q 0 = false := by
                          cases hb : Nat.blt q 0 with
                          | false => rfl
                          | true => simp at hb
                        have := hsrc.get q j (by omega) hj
                        rw [hb]
                        simpa using this)
                    rw [hlen] at this
                    exact this
                  · rw [hk] at hd
                    obtain ⟨hle, hnc, rfl⟩ := hd
                    have hmin := hc.mine o k _ hxo rfl hk
                    have hsep := hc.sep o k _ hxo rfl hk
                    have hsize : n * i.size ≤ cur.size := by rw [hcs]; exact Nat.mul_le_mul_right _ hnc
                    have hol : (cur.toList.take (n * i.size)).length = n * i.size := by simp; omega
                    have := append_key ht ht' htd hi hz hzs hby ts ty h0 h1 hsrc n (cur.toList.take (n * i.size)) (xs.set o .dead) (fun i j => bif Nat.blt i n then g i j else g2 (i - n) j)
                      ⟨hol, .inr ⟨k.b, k.cap, cur, rfl, Nat.zero_le _, hh, hnc, hml, hcs, rfl⟩⟩ hrm (hc.kill o)
                      (fun b hb => by
                        simp only [Value.ownBlock, Option.some.injEq] at hb
                        subst hb
                        refine ⟨hmin.1, hmin.2, hsep, fun o' k' y hy hl hk' => ?_⟩
                        obtain ⟨hne, hy⟩ := set_get hy hl
                        exact hc.inj o' o k' k y _ hy hxo hl rfl hk' hk hne)
                      (fun q j hq hj => by
                        rcases Nat.lt_or_ge q n with hqn | hqn
                        · have hlt : q * i.size + j < n * i.size := by
                            have : (q + 1) * i.size ≤ n * i.size := Nat.mul_le_mul_right _ hqn
                            rw [Nat.add_mul] at this; omega
                          obtain ⟨u, hu, h1, hr⟩ := hcell q j (by omega) hj
                          refine ⟨u, ?_, h1, ?_⟩
                          · rw [List.getElem?_append_left (by omega), List.getElem?_take, if_pos hlt]
                            simpa using hu
                          · have : Nat.blt q n = true := by simpa [Nat.blt_eq] using hqn
                            rw [this]; exact hr
                        · obtain ⟨u, hu, h1, hr⟩ := hsrc.get (q - n) j (by omega) hj
                          refine ⟨u, ?_, h1, ?_⟩
                          · have hge : n * i.size ≤ q * i.size := Nat.mul_le_mul_right _ hqn
                            rw [List.getElem?_append_right (by omega), hol]
                            have : q * i.size + j - n * i.size = (q - n) * i.size + j := by
                              rw [Nat.sub_mul]; omega
                            rw [this]; exact hu
                          · have : Nat.blt q n = false := by
                              cases hb : Nat.blt q n with
                              | false => rfl
                              | true => have hq0 : q < n := by simpa [Nat.blt_eq] using hb
                                        omega
                            rw [this]; exact hr)
                    rw [hlen] at this
                    exact this
                | _ => simp [hxo] at h
            · cases h
    | _ => simp [ht] at h
end
end Go.Dl

namespace Go.Dl
variable [WInv]
section
variable {P : Program} {Γ : Ctx} {S : Mem} {β : Bmap} {w : World} {xs : List Obj}
theorem eqV1_eq {a b : Value} (h : eqV1 a b = true) : a = b := by
  unfold eqV1 at h
  split at h
  · rename_i a b; cases a <;> cases b <;> first | rfl | cases h
  · simp only [Bool.and_eq_true, decide_eq_true_eq] at h; obtain ⟨rfl, rfl⟩ := h; rfl
  · rfl
  · cases h
theorem eqVL_eq : ∀ {a b : List Value}, eqVL a b = true → a = b
  | [], [], _ => rfl
  | [], _ :: _, h => by cases h
  | _ :: _, [], h => by cases h
  | a :: r, b :: t, h => by
    simp only [eqVL, Bool.and_eq_true] at h
    rw [eqV1_eq h.1, eqVL_eq h.2]
theorem eqV_eq {a b : Value} (h : eqV a b = true) : a = b := by
  unfold eqV at h
  split at h
  · rename_i a b; rw [show a = b from Array.ext' (eqVL_eq h)]
  · exact eqV1_eq h
theorem mval_rel {z v : Value} {g : Nat → C} {d : D1} (hd : mval z g = some d) (hv : VC S v g) (hf : formOf v z) : D1Rel S β d v := by
  cases z with
  | tuple vs => cases hf
  | agg cs =>
    obtain ⟨ds, rfl, hl⟩ := hf
    simp only [mval, Option.some.injEq] at hd
    subst hd
    refine ⟨ds.toList, by simp, LRel.of_get (by simp [hl]) fun i c hi => ?_⟩
    rw [List.getElem?_map] at hi
    have hlt : i < cs.size := by
      rcases Nat.lt_or_ge i cs.size with h | h
      · exact h
      · rw [List.getElem?_eq_none (by simpa using h)] at hi; cases hi
    rw [List.getElem?_range hlt] at hi
    simp only [Option.map_some, Option.some.injEq] at hi
    subst hi
    have hlt' : i < ds.size := by omega
    have he : ds[i]? = some ds[i] := Array.getElem?_eq_getElem hlt'
    exact ⟨ds[i], by rw [Array.getElem?_toList]; exact he, CRel.closed (hv i _ he)⟩
  | _ =>
    have h1 : v.oneCell' = true := hf
    simp only [mval, Option.some.injEq] at hd
    subst hd
    have := hv 0 v (by rw [cells_one h1]; rfl)
    exact CRel.closed this
theorem D1.toD_rel {d : D1} {v : Value} (h : D1Rel S β d v) : DRel S β d.toD v := by
  cases d <;> exact h
theorem zc_rel (z : Value) : VC S z (zc z) := by
  intro j u hu
  have : (z.cells.toList.map cstC).getD j .bot = cstC u := by
    rw [List.getD, List.getElem?_map, Array.getElem?_toList, hu]; rfl
  unfold zc
  rw [this]
  exact cstC_rel u
theorem form_self {z : Value} (h : (mval z (zc z)).isSome = true) : formOf z z := by
  cases z with
  | agg cs => exact ⟨cs, rfl, rfl⟩
  | tuple vs => cases h
  | _ => rfl
theorem mcells_rel {z v : Value} {d : D} {f : Nat → C} (h : mcells z d = some f) (hd : DRel S β d v) : VC S v f ∧ formOf v z := by
  have one : ∀ x : C, d = .c x → (bif x.good && x.shut then some (fun j : Nat => [x].getD j .bot) else none) = some f → VC S v f ∧ v.oneCell' = true := by
    rintro x rfl h
    obtain ⟨hg, h⟩ := some_of_cond h
    simp only [Bool.and_eq_true] at hg
    simp only [Option.some.injEq] at h
    subst h
    have h1 : v.oneCell' = true := good_one hg.1 hd
    refine ⟨fun j u hu => ?_, h1⟩
    rw [cells_one h1] at hu
    cases j with
    | zero => simp at hu; subst hu; exact shut_rel hg.2 hd
    | succ j => simp at hu
  cases z with
  | tuple vs => cases d <;> cases h
  | agg cs =>
    cases d with
    | agg l =>
      simp only [mcells] at h
      obtain ⟨hg, h⟩ := some_of_cond h
      simp only [Bool.and_eq_true] at hg
      simp only [Option.some.injEq] at h
      subst h
      obtain ⟨hl, hg, hs⟩ := hg
      obtain ⟨us, rfl, hr⟩ := hd
      have hlen := hr.length
      have hl := Nat.eq_of_beq_eq_true hl
      refine ⟨fun j u hu => ?_, us.toArray, rfl, by simp; omega⟩
      have hu : us[j]? = some u := by simpa [Value.cells] using hu
      have hlt : j < l.length := by
        have := (List.getElem?_eq_some_iff.1 hu).1
        omega
      obtain ⟨u', hu', hc⟩ := hr.get j _ (List.getElem?_eq_getElem hlt)
      rw [hu] at hu'; simp only [Option.some.injEq] at hu'; subst hu'
      show CRel S noB (l.getD j .bot) u
      rw [show l.getD j .bot = l[j] by simp [List.getD, List.getElem?_eq_getElem hlt]]
      exact shut_rel (by rw [List.all_eq_true] at hs; exact hs _ (List.getElem_mem hlt)) hc
    | c x => cases h
    | tup l => cases h
  | _ =>
    cases d with
    | c x => exact one x rfl h
    | agg l => cases h
    | tup l => cases h
theorem findNow_eq {kk : IntKind} {i : Int} : ∀ (es : List MapEntry) (j : Nat), (∀ e ∈ es, ∃ n, e.key = .int .i64 n) →
    ∃ r, Instr.findNow (.int kk) (.int .i64 i) es j = some r ∧ r.map (·.2) = findE es i ∧ ∀ q v, r = some (q, v) → j ≤ q ∧ (∃ e, es[q - j]? = some e ∧ e.key = .int .i64 i) ∧
      ∀ (u : Value) (k' : Value), k' = .int .i64 i → ∀ i', findE (es.modify (q - j) fun e => { e with key := k', val := u }) i' = if i' = i then some u else findE es i'
  | [], j, _ => ⟨none, rfl, rfl, fun q v h => by cases h⟩
  | e :: r, j, hk => by
    obtain ⟨n, hn⟩ := hk e (by simp)
    have key : ∀ (i' : Int), isKey i' e.key = (n == i') := by intro i'; rw [hn]; rfl
    by_cases hin : i = n
    · subst hin
      refine ⟨some (j, e.val), ?_, ?_, ?_⟩
      · simp [Instr.findNow, hn, Instr.sameNow]
      · simp [findE, key]
      · rintro q v hq
        simp only [Option.some.injEq, Prod.mk.injEq] at hq
        obtain ⟨rfl, rfl⟩ := hq
        refine ⟨Nat.le_refl _, ⟨e, by simp, hn⟩, ?_⟩
        rintro u k' rfl i'
        rw [Nat.sub_self]
        show findE ({ e with key := .int .i64 i, val := u } :: r) i' = _
        simp only [findE, key]
        by_cases h : i' = i
        · subst h; simp [isKey]
        · rw [if_neg h]
          have : (i == i') = false := by simpa using Ne.symm h
          simp [isKey, this]
    · obtain ⟨r', h1, h2, h3⟩ := findNow_eq (kk := kk) (i := i) r (j + 1) (fun e' he' => hk e' (by simp [he']))
      have hne : (n == i) = false := by simpa using Ne.symm hin
      have hne' : (i == n) = false := by simpa using hin
      refine ⟨r', ?_, ?_, ?_⟩
      · simp [Instr.findNow, hn, Instr.sameNow, hne', h1]
      · simp [findE, key, hne, h2]
      · intro q v hq
        obtain ⟨g1, ⟨e', g2, g3⟩, g4⟩ := h3 q v hq
        have hs : q - j = (q - (j + 1)) + 1 := by omega
        refine ⟨by omega, ⟨e', by rw [hs]; simpa using g2, g3⟩, ?_⟩
        intro u k' hk' i'
        rw [hs, List.modify_succ_cons]
        simp only [findE]
        rw [g4 u k' hk' i']
        by_cases h : i' = i
        · subst h; simp [key, hne]
        · rw [if_neg h, if_neg h]
theorem findE_push {i : Int} {u : Value} {b : Nat} : ∀ (es : List MapEntry), findE es i = none → ∀ i', findE (es ++ [⟨.int .i64 i, u, b⟩]) i' = if i' = i then some u else findE es i'
  | [], _, i' => by
    simp only [List.nil_append, findE, isKey]
    by_cases h : i' = i
    · subst h; simp
    · have : (i == i') = false := by simpa using Ne.symm h
      simp [this, h]
  | e :: r, h, i' => by
    simp only [findE] at h
    cases hk : isKey i e.key with
    | true => rw [hk] at h; cases h
    | false =>
      rw [hk, cond_false] at h
      simp only [List.cons_append, findE]
      rw [findE_push r h i']
      by_cases hi : i' = i
      · subst hi; simp [hk]
      · simp only [if_neg hi]
theorem run_findKey {kt : TypeId} {kk : IntKind} {i : Int} {es : List MapEntry} {r : Option (Nat × Value)} (hk : P.underlying kt = some (.int kk)) (h : Instr.findNow (.int kk) (.int .i64 i) es 0 = some r) (w : World) :
    (Instr.findKey kt (.int .i64 i) es).run P w = .ok r w := by
  unfold Instr.findKey
  rw [Sem.run_bind, run_underlying hk, Result.andThen_ok, h]
  rfl
theorem run_checkKey {kt : TypeId} {kk : IntKind} {i : Int} (hk : P.underlying kt = some (.int kk)) (b : Bool) (w : World) : (Instr.checkKey b 10000 kt (.int .i64 i)).run P w = .ok () w := by
  unfold Instr.checkKey
  rw [Sem.run_bind, run_underlying hk, Result.andThen_ok]
  rfl
theorem run_getMap {b : Nat} {ms : Array MapEntry} {clock : Nat} {w : World} (h : w.heap[b]? = some (.map ms clock)) : (getObj b).run P w = .ok (.map ms clock) w := by
  simp [getObj, Sem.run, h]
theorem evMakeMap_sound {t : TypeId} {r : Option Operand} {rv : Option Value} {vs : List Bool} {d' : D} {xs' : List Obj} (hr : r = none → rv = none)
    (hc : Core Γ S β w xs) (h : evMakeMap P t r xs = some (vs, d', xs')) : GoodV P (Instr.makeMap t rv) Γ S β w d' xs' := by
  unfold evMakeMap at h
  split at h
  · rename_i kt et hu
    obtain rfl := hr rfl
    cases hz : (P.info? et).bind (·.zero) with
    | none => simp [hz] at h
    | some z =>
      simp only [hz] at h
      have h2 := some_of_cond h
      clear h
      obtain ⟨hm, h⟩ := h2
      obtain ⟨rfl, rfl, rfl⟩ := res_eq h
      let k : Bk := ⟨w.heap.size, 0, 0, 0, 0⟩
      have hle : BLe β (bset β xs.length (some k)) := BLe.bset (hc.out _ (Nat.le_refl _))
      have := hc.push (.map #[] 0) (.map z (fun _ => false) (fun _ => zc z)) (some k) (w' := w.alloc (.map #[] 0)) (.inr ⟨⟨k, rfl, rfl⟩, rfl⟩)
        ⟨k, bset_same _ _ _, #[], 0, heap_alloc_new w _, fun e he => by simp at he, fun i => ⟨zc_rel z, rfl, form_self hm⟩⟩
      refine ⟨.map (some w.heap.size), _, S, _, ?_, ⟨k, bset_same _ _ _, rfl⟩, MLe.refl _, this.2, this.1⟩
      simp [Instr.makeMap]
  · cases h
theorem map_at {o : Nat} {z : Value} {has : Int → Bool} {get : Int → Nat → C} {v : Value} (hc : Core Γ S β w xs) (hx : xs[o]? = some (.map z has get)) (hm : CRel S β (.map o) v) :
    ∃ k ms clock, β o = some (some k) ∧ v = .map (some k.b) ∧ w.heap[k.b]? = some (.map ms clock) ∧ k.b < w.heap.size ∧ (∀ e ∈ ms.toList, ∃ n, e.key = .int .i64 n) ∧
      ∀ i, VC S ((findE ms.toList i).getD z) (get i) ∧ (findE ms.toList i).isSome = has i ∧ formOf ((findE ms.toList i).getD z) z := by
  obtain ⟨k, hk, rfl⟩ := hm
  obtain ⟨k', hk', ms, clock, h1, h2, h3⟩ := hc.objs o _ hx
  rw [hk] at hk'; simp only [Option.some.injEq] at hk'; subst hk'
  exact ⟨k, ms, clock, hk, rfl, h1, (hc.mine o k _ hx rfl hk).1, h2, h3⟩
theorem evLookup_sound {t : TypeId} {m kd : D} {ok : Bool} {v vk : Value} {vs : List Bool} {d' : D} {xs' : List Obj} (hc : Core Γ S β w xs) (hm : DRel S β m v) (hk : DRel S β kd vk)
    (h : evLookup P t m kd ok xs = some (vs, d', xs')) : GoodS P false (Instr.lookup t v vk ok) Γ S β w d' xs' := by
  unfold evLookup at h
  split at h
  · rename_i kt et o i hu
    obtain rfl : vk = .int .i64 i := hk
    split at h
    · rename_i kk z' z has get hkt hz hx
      have h2 := some_of_cond h
      clear h
      obtain ⟨hz', h⟩ := h2
      obtain rfl := eqV_eq hz'
      split at h
      · rename_i d hd
        obtain ⟨kb, ms, clock, hkb, rfl, hh, hlt, hkeys, hall⟩ := map_at hc hx hm
        obtain ⟨hv, hhas, hform⟩ := hall i
        obtain ⟨r, hr1, hr2, _⟩ := findNow_eq (kk := kk) (i := i) ms.toList 0 hkeys
        have hrun : ∀ w', Up w w' → (Instr.lookup t (.map (some kb.b)) (.int .i64 i) ok).run P w' = .ok (if ok then .tuple #[(findE ms.toList i).getD z, .bool (has i)] else (findE ms.toList i).getD z) w' := by
          intro w' hw'
          have hh' : w'.heap[kb.b]? = some (.map ms clock) := by rw [hw'.block kb.b hlt]; exact hh
          unfold Instr.lookup
          rw [Sem.run_bind, run_underlying hu, Result.andThen_ok]
          simp only [Sem.run_bind, run_getMap hh', Result.andThen_ok, Sem.run_pure, run_checkKey hkt, run_findKey hkt hr1]
          rw [← hr2, ← hhas, ← hr2]
          have hzr : (zeroValue et).run P w' = .ok z w' := by
            cases hi : P.info? et with
            | none => simp [hi] at hz
            | some ti =>
              simp only [hi, Option.bind_some] at hz
              unfold zeroValue
              rw [Sem.run_bind, run_typeInfo' hi, Result.andThen_ok, hz]
              rfl
          cases r with
          | none => simp only [Sem.run_bind, hzr, Result.andThen_ok, Sem.run_pure]; cases ok <;> rfl
          | some p => obtain ⟨q, u⟩ := p; simp only [Sem.run_pure, Result.andThen_ok]; cases ok <;> rfl
        have hd1 : D1Rel S β d ((findE ms.toList i).getD z) := mval_rel hd hv hform
        cases ok with
        | true =>
          simp only [cond_true] at h
          obtain ⟨rfl, rfl, rfl⟩ := res_eq h
          exact GoodS.sameL _ hrun ⟨_, rfl, _, _, rfl, hd1, _, _, rfl, rfl, rfl⟩ hc
        | false =>
          simp only [cond_false] at h
          obtain ⟨rfl, rfl, rfl⟩ := res_eq h
          exact GoodS.sameL _ hrun (D1.toD_rel hd1) hc
      · cases h
    · cases h
  · cases h
theorem findE_key : ∀ {es : List MapEntry} {q : Nat} {u k' : Value}, (∀ e ∈ es, ∃ n, e.key = .int .i64 n) → (∃ n, k' = .int .i64 n) → ∀ e ∈ es.modify q (fun e => { e with key := k', val := u }), ∃ n, e.key = .int .i64 n := by
  intro es q u k' h hk e he
  obtain ⟨i, hi⟩ := List.mem_iff_getElem?.1 he
  rw [List.getElem?_modify] at hi
  cases he' : es[i]? with
  | none => rw [he'] at hi; simp at hi
  | some e0 =>
    rw [he'] at hi
    simp only [Option.map_eq_map, Option.map_some, Option.some.injEq] at hi
    split at hi
    · subst hi; exact hk
    · subst hi; exact h _ (List.mem_of_getElem? he')
theorem evUpdate_sound {t : TypeId} {m kd x : D} {v vk vx : Value} {xs' : List Obj} (hc : Core Γ S β w xs) (hm : DRel S β m v) (hk : DRel S β kd vk) (hx : DRel S β x vx)
    (h : evUpdate P t m kd x xs = some xs') : ∃ w', (Instr.mapUpdate t v vk vx).run P w = .ok () w' ∧ Core Γ S β w' xs' := by
  unfold evUpdate at h
  split at h
  · rename_i kt et o i hu
    obtain rfl : vk = .int .i64 i := hk
    split at h
    · rename_i kk z has get hkt hxo
      split at h
      · rename_i f hf
        simp only [Option.some.injEq] at h
        subst h
        obtain ⟨hvc, hform⟩ := mcells_rel hf hx
        obtain ⟨kb, ms, clock, hkb, rfl, hh, hlt, hkeys, hall⟩ := map_at hc hxo hm
        obtain ⟨r, hr1, hr2, hr3⟩ := findNow_eq (kk := kk) (i := i) ms.toList 0 hkeys
        have fin : ∀ (ms' : Array MapEntry) (clock' : Nat), (∀ e ∈ ms'.toList, ∃ n, e.key = .int .i64 n) → (∀ i', findE ms'.toList i' = if i' = i then some vx else findE ms.toList i') →
            ∃ w', (setObj kb.b (.map ms' clock')).run P w = .ok () w' ∧ Core Γ S β w' (xs.set o (.map z (fun i' => decide (i' = i) || has i') (fun i' => bif decide (i' = i) then f else get i'))) := by
          intro ms' clock' hk' hf'
          refine ⟨{ w with heap := w.heap.setIfInBounds kb.b (.map ms' clock') }, ?_, ?_⟩
          · simp only [setObj, Sem.run, hh]
          · refine hc.write o (.map z has get) _ kb hxo rfl hkb rfl rfl rfl (by simp) (fun b hb => ?_) ⟨kb, hkb, ms', clock', by simp [hlt], hk', fun i' => ?_⟩
            · simp [Array.getElem?_setIfInBounds, Ne.symm hb]
            · obtain ⟨h1, h2, h3⟩ := hall i'
              rw [hf' i']
              by_cases hi : i' = i
              · subst hi; simp only [if_true, Option.getD_some, decide_true, cond_true, Option.isSome_some, Bool.true_or]; exact ⟨hvc, trivial, hform⟩
              · simp only [if_neg hi, decide_eq_false hi, cond_false, Bool.false_or]; exact ⟨h1, h2, h3⟩
        have hstart : (Instr.mapUpdate t (.map (some kb.b)) (.int .i64 i) vx).run P w = ((match r with
            | some (q, _) => do
              let key ← Instr.keyThatStays (((ms[q]?).map (·.key)).getD (.int .i64 i)) (.int .i64 i)
              setObj kb.b (.map (ms.modify q fun e => { e with key := key, val := vx }) clock)
            | none => setObj kb.b (.map (ms.push { key := .int .i64 i, val := vx, born := clock }) (clock + 1)) : Sem Unit)).run P w := by
          unfold Instr.mapUpdate
          rw [Sem.run_bind, run_underlying hu, Result.andThen_ok]
          simp only [Sem.run_bind, run_getMap hh, Result.andThen_ok, run_checkKey hkt, run_findKey hkt hr1]
          cases r <;> rfl
        rw [hstart]
        cases r with
        | none =>
          refine fin _ _ (fun e he => ?_) (fun i' => ?_)
          · simp only [Array.toList_push, List.mem_append, List.mem_singleton] at he
            rcases he with he | rfl
            · exact hkeys e he
            · exact ⟨i, rfl⟩
          · rw [Array.toList_push]
            exact findE_push ms.toList (by rw [← hr2]; rfl) i'
        | some p =>
          obtain ⟨q, u⟩ := p
          obtain ⟨_, ⟨e, he, hek⟩, hmod⟩ := hr3 q u rfl
          rw [Nat.sub_zero] at he hmod
          have hke : ((ms[q]?).map (·.key)).getD (.int .i64 i) = .int .i64 i := by
            rw [← Array.getElem?_toList, he]; simpa using hek
          simp only [hke]
          have hst : (Instr.keyThatStays (.int .i64 i) (.int .i64 i)).run P w = .ok (.int .i64 i) w := by
            unfold Instr.keyThatStays
            rw [if_pos (by simp [Instr.sameBits])]
            rfl
          rw [Sem.run_bind, hst, Result.andThen_ok]
          refine fin _ _ (fun e he => ?_) (fun i' => ?_)
          · rw [Array.toList_modify] at he
            exact findE_key hkeys ⟨i, rfl⟩ e he
          · rw [Array.toList_modify]
            exact hmod vx _ rfl i'
      · cases h
    · cases h
  · cases h
theorem zero_get {z : Array Value} {n q : Nat} (hq : q < n * z.size) : (Builtin.zeroCells z n)[q]? = z[q % z.size]? := by
  have hpos : 0 < z.size := by
    rcases Nat.eq_zero_or_pos z.size with h | h
    · rw [h] at hq; omega
    · exact h
  have hlt : q % z.size < z.size := Nat.mod_lt _ hpos
  unfold Builtin.zeroCells
  rw [Array.getElem?_map, Array.getElem?_range]
  simp only [hq, if_true, Option.map_some]
  rw [getElem!_pos z _ hlt, Array.getElem?_eq_getElem hlt]
theorem evClear_sound {t : TypeId} {x : D} {v : Value} {xs' : List Obj} (ts : Array TypeId) (ty : TypeId) (h0 : ts[0]? = some t) (hc : Core Γ S β w xs) (hx : DRel S β x v)
    (h : evClear P t x xs = some xs') : ∃ w', (Builtin.clear_ ts ty #[v]).run P w = .ok (.tuple #[]) w' ∧ Core Γ S β w' xs' := by
  unfold evClear at h
  split at h
  · rename_i e o lo n hu
    split at h
    · rename_i e' wd m get z hxo hz
      obtain ⟨hg, h⟩ := some_of_cond h
      simp only [Option.some.injEq] at h
      subst h
      simp only [Bool.and_eq_true] at hg
      obtain ⟨hzl, hsz, hgood, hshut⟩ := hg
      have hzl := Nat.eq_of_beq_eq_true hzl
      obtain ⟨ei, hei, hes⟩ := szOk_info hsz
      obtain ⟨a, cap, rfl, hle, hcase⟩ := hx
      obtain ⟨i', zv, hi', hzi, hzv, hzr⟩ := zeroL_sound (S := S) (β := β) hz
      have hempty : (Builtin.clear_ ts ty #[.slice a 0 cap]).run P w = .ok (.tuple #[]) w := by
        unfold Builtin.clear_
        simp only [h0, List.getElem?_toArray, List.getElem?_cons_zero]
        rw [Sem.run_bind, run_underlying hu, Result.andThen_ok]
        cases a <;> rfl
      have hstart : ∀ a n, (Builtin.clear_ ts ty #[.slice (some a) (n + 1) cap]).run P w = (do let z ← zeroValue e; storeCells a (Builtin.zeroCells z.cells (n + 1)).toList; pure (Value.tuple #[]) : Sem Value).run P w := by
        intro a n
        unfold Builtin.clear_
        simp only [h0, List.getElem?_toArray, List.getElem?_cons_zero]
        rw [Sem.run_bind, run_underlying hu, Result.andThen_ok]
        rfl
      rcases Nat.eq_zero_or_pos n with hn | hn
      · subst hn
        refine ⟨w, ?_, ?_⟩
        · exact hempty
        · have hf : (fun i j => bif Nat.ble lo i && Nat.blt i (lo + 0) then z.getD j .bot else get i j) = get := by
            funext i j
            have : (Nat.ble lo i && Nat.blt i (lo + 0)) = false := by
              cases h1 : Nat.ble lo i with
              | false => rfl
              | true =>
                have := Nat.le_of_ble_eq_true h1
                cases h2 : Nat.blt i (lo + 0) with
                | false => rfl
                | true => have : i < lo + 0 := by simpa [Nat.blt_eq] using h2
                          omega
            rw [this, cond_false]
          rw [hf]
          have hlt : o < xs.length := (List.getElem?_eq_some_iff.1 hxo).1
          have : xs.set o (.row e' wd m get) = xs := by
            apply List.ext_getElem?
            intro q
            by_cases hq : q = o
            · subst hq; rw [List.getElem?_set_self hlt, hxo]
            · rw [List.getElem?_set_ne (Ne.symm hq)]
          rw [this]; exact hc
      · rcases hcase with hcase | ⟨kb, hk, hlo, rfl⟩
        · omega
        have ho := hc.objs o _ hxo
        rcases ho with ⟨hnn, _⟩ | ⟨kb', hk', he, hw', hnn, hcap, hml, cur, hh, hcs, hcell⟩
        · rw [hk] at hnn; cases hnn
        rw [hk] at hk'; simp only [Option.some.injEq] at hk'; subst hk'
        subst hw'
        have hzsz : zv.cells.size = kb.w := by rw [← hzl, hzv]; simp
        have hone : ∀ u ∈ zv.cells.toList, u.oneCell' = true := good_all hgood hzr
        have hlen : (Builtin.zeroCells zv.cells n).toList.length = n * kb.w := by simp [size_zeroCells, hzsz]
        have hmul : (lo + n) * kb.w ≤ kb.cap * kb.w := Nat.mul_le_mul_right _ (by omega)
        rw [Nat.add_mul] at hmul
        have hone' : ∀ u ∈ (Builtin.zeroCells zv.cells n).toList, u.oneCell' = true := by
          intro u hu
          obtain ⟨q, hq⟩ := List.mem_iff_getElem?.1 hu
          have hql : q < n * kb.w := by rw [← hlen]; exact (List.getElem?_eq_some_iff.1 hq).1
          rw [Array.getElem?_toList, zero_get (by rw [hzsz]; exact hql)] at hq
          exact hone u (by rw [← Array.getElem?_toList] at hq; exact List.mem_of_getElem? hq)
        have hrun := run_storeCells_at P kb.b (lo * kb.w) e' (Builtin.zeroCells zv.cells n).toList 0 cur w hh (by rw [hlen, hcs]; omega) hone'
        have hzr' : (zeroValue e).run P w = .ok zv w := by
          unfold zeroValue
          rw [Sem.run_bind, run_typeInfo' hi', Result.andThen_ok, hzi]
          rfl
        refine ⟨w.setRow kb.b (cur.toList.take (lo * kb.w) ++ (Builtin.zeroCells zv.cells n).toList ++ cur.toList.drop (lo * kb.w + (Builtin.zeroCells zv.cells n).toList.length)).toArray, ?_, hc.write o (.row e' kb.w m get) _ kb hxo rfl hk rfl rfl rfl (by simp) (fun b hb => setRow_other w kb.b b _ hb) ?_⟩
        · obtain ⟨n', rfl⟩ : ∃ n', n = n' + 1 := ⟨n - 1, by omega⟩
          rw [hstart, Sem.run_bind, hzr', Result.andThen_ok, Sem.run_bind, hrun]
          simp only [Nat.add_zero]
          rfl
        · refine .inr ⟨kb, hk, he, rfl, hnn, hcap, hml, _, setRow_heap w kb.b cur _ e' (0, 0) hh, ?_, fun i j hi hj => ?_⟩
          · simp only [List.size_toArray, List.length_append, List.length_take, List.length_drop, Array.length_toList]
            rw [size_zeroCells, hzsz, hcs]; omega
          · have hbig : i * kb.w + kb.w ≤ kb.cap * kb.w := by
              have : (i + 1) * kb.w ≤ kb.cap * kb.w := Nat.mul_le_mul_right _ (by omega)
              rw [Nat.add_mul] at this
              omega
            rw [cur_get (by rw [hlen, hcs]; omega), hlen]
            dsimp only
            by_cases hin : lo ≤ i ∧ i < lo + n
            · have h1 : (Nat.ble lo i && Nat.blt i (lo + n)) = true := by simp [Nat.ble_eq, Nat.blt_eq, hin.1, hin.2]
              rw [h1, cond_true]
              have e1 : lo * kb.w ≤ i * kb.w := Nat.mul_le_mul_right _ hin.1
              have e2 : (i + 1) * kb.w ≤ (lo + n) * kb.w := Nat.mul_le_mul_right _ (by omega)
              rw [Nat.add_mul, Nat.add_mul] at e2
              rw [if_pos (by omega), Array.getElem?_toList, zero_get (by rw [hzsz]; omega), hzsz]
              have e3 : (i * kb.w + j - lo * kb.w) % kb.w = j := by
                have : i * kb.w + j - lo * kb.w = j + kb.w * (i - lo) := by
                  rw [Nat.mul_comm kb.w, Nat.sub_mul]; omega
                rw [this, Nat.add_mul_mod_self_left, Nat.mod_eq_of_lt hj]
              rw [e3]
              obtain ⟨u, hu, hr⟩ := hzr.get j (z[j]'(by omega)) (List.getElem?_eq_getElem (by omega))
              rw [Array.getElem?_toList] at hu
              refine ⟨u, hu, hone u (by rw [← Array.getElem?_toList] at hu; exact List.mem_of_getElem? hu), ?_⟩
              rw [show z.getD j .bot = z[j]'(by omega) by simp [List.getD, List.getElem?_eq_getElem (show j < z.length by omega)]]
              exact shut_rel (by rw [List.all_eq_true] at hshut; exact hshut _ (List.getElem_mem _)) hr
            · have h1 : (Nat.ble lo i && Nat.blt i (lo + n)) = false := by
                cases q1 : Nat.ble lo i with
                | false => rfl
                | true =>
                  cases q2 : Nat.blt i (lo + n) with
                  | false => rfl
                  | true => exact absurd ⟨Nat.le_of_ble_eq_true q1, by simpa [Nat.blt_eq] using q2⟩ hin
              rw [h1, cond_false]
              have hneq : ¬ (lo * kb.w ≤ i * kb.w + j ∧ i * kb.w + j < lo * kb.w + n * kb.w) := by
                intro hcon
                rcases Nat.lt_or_ge i lo with hq | hq
                · have : (i + 1) * kb.w ≤ lo * kb.w := Nat.mul_le_mul_right _ hq
                  rw [Nat.add_mul] at this; omega
                · have hq2 : lo + n ≤ i := by omega
                  have : (lo + n) * kb.w ≤ i * kb.w := Nat.mul_le_mul_right _ hq2
                  rw [Nat.add_mul] at this; omega
              rw [if_neg hneq]
              exact hcell i j hi hj
    · cases h
  · cases h
end
end Go.Dl

namespace Go.Dl
variable [WInv]
section
variable {P : Program} {Γ : Ctx} {S : Mem} {β : Bmap} {w : World}
def Good (P : Program) (q p : Bool) (s : Sem Next) (Γ : Ctx) (S : Mem) (β : Bmap) (w : World) (d : D) (xs : List Obj) : Prop :=
  ∃ v w' S' β', (s.run P w = .ok (.value v) w' ∨ s.run P w = .ok .skip w' ∧ v = undef) ∧ DRel S' β' d v ∧ MLe S S' ∧ BLe β β' ∧ Core Γ S' β' w' xs ∧
    (q = true → w' = w ∧ S' = S ∧ β' = β ∧ ∀ w2, p = true ∨ Up w w2 → s.run P w2 = .ok (.value v) w2)
theorem GoodV.good {s : Sem Value} {d : D} {xs : List Obj} (h : GoodV P s Γ S β w d xs) : Good P false false (do pure (.value (← s))) Γ S β w d xs := by
  obtain ⟨v, w', S', β', hr, h1, h2, h3, h4⟩ := h
  refine ⟨v, w', S', β', .inl ?_, h1, h2, h3, h4, fun h => by cases h⟩
  rw [Sem.run_bind, hr]; rfl
theorem GoodS.good {p : Bool} {s : Sem Value} {d : D} {xs : List Obj} (h : GoodS P p s Γ S β w d xs) : Good P true p (do pure (.value (← s))) Γ S β w d xs := by
  obtain ⟨v, hr, h1, h2⟩ := h
  have hr' : ∀ w2, p = true ∨ Up w w2 → (do pure (Next.value (← s)) : Sem Next).run P w2 = .ok (.value v) w2 := fun w2 h => by rw [Sem.run_bind, hr w2 h]; rfl
  exact ⟨v, w, S, β, .inl (hr' w (.inr (Up.refl w))), h1, MLe.refl _, BLe.refl _, h2, fun _ => ⟨rfl, rfl, rfl, hr'⟩⟩
theorem Good.same {s : Sem Next} {d : D} {xs : List Obj} {q p : Bool} (v : Value) (h : ∀ w2, s.run P w2 = .ok (.value v) w2) (hd : DRel S β d v) (hc : Core Γ S β w xs) : Good P q p s Γ S β w d xs :=
  ⟨v, w, S, β, .inl (h w), hd, MLe.refl _, BLe.refl _, hc, fun _ => ⟨rfl, rfl, rfl, fun w2 _ => h w2⟩⟩
theorem Good.congr {s s' : Sem Next} {d : D} {xs : List Obj} {q p : Bool} (h : Good P q p s Γ S β w d xs) (he : ∀ w2, s'.run P w2 = s.run P w2) : Good P q p s' Γ S β w d xs := by
  obtain ⟨v, w', S', β', hr, h1, h2, h3, h4, h5⟩ := h
  refine ⟨v, w', S', β', by rw [he]; exact hr, h1, h2, h3, h4, fun hq => ?_⟩
  obtain ⟨e1, e2, e3, e4⟩ := h5 hq
  exact ⟨e1, e2, e3, fun w2 hw => by rw [he]; exact e4 w2 hw⟩
theorem ORel1_map {st : St} {a : Act} (hv : ∀ x, DRel S β (st.lv x) (a.eval x)) (o : Option Operand) : ORel1 S β (o.map st.lv) (o.map a.eval) := by
  cases o with
  | none => rfl
  | some x => exact ⟨_, rfl, hv x⟩
theorem VRel_map {st : St} {a : Act} (hv : ∀ x, DRel S β (st.lv x) (a.eval x)) : ∀ (l : List Operand), VRel S β (l.map st.lv) (l.map a.eval)
  | [] => rfl
  | x :: l => ⟨_, _, rfl, hv x, VRel_map hv l⟩
theorem isTrueC_eq {x : Operand} (h : isTrueC x = true) : x = .const (.bool true) := by
  unfold isTrueC at h
  split at h
  · subst h; rfl
  · cases h
theorem isFalseC_eq {x : Operand} (h : isFalseC x = true) : x = .const (.bool false) := by
  unfold isFalseC at h
  split at h
  · rename_i b; cases b
    · rfl
    · cases h
  · cases h
theorem evPick_sound {st : St} {a : Act} {c x y : Operand} {vs : List Bool} {d : D} {xs : List Obj} (hcv : DRel S β (st.lv c) (a.eval c))
    (hx : ∀ b, a.eval c = .bool b → b = true → DRel S β (st.lv x) (a.eval x)) (hy : ∀ b, a.eval c = .bool b → b = false → DRel S β (st.lv y) (a.eval y))
    (hc : Core Γ S β w st.objs) (h : evPick (st.lv c) x y st = some (vs, d, xs)) :
    Good P true true (do pure (.value (if ← asBool (a.eval c) then a.eval x else a.eval y))) Γ S β w d xs := by
  unfold evPick at h
  split at h
  · rename_i b hc'
    rw [hc'] at hcv
    have hce : a.eval c = .bool b := hcv
    cases htx : isTrueC x with
    | true =>
      simp only [htx, cond_true] at h
      obtain rfl := isTrueC_eq htx
      split at h
      · rename_i y2 hy2
        obtain ⟨rfl, rfl, rfl⟩ := res_eq h
        refine Good.same (.bool (b || y2)) (fun w2 => ?_) rfl hc
        rw [hce]
        simp only [asBool, pure_bind]
        cases b
        · have := hy false hce rfl
          rw [hy2] at this
          have hye : a.eval y = .bool y2 := this
          simp only [Bool.false_eq_true, if_false, Bool.false_or, hye]; rfl
        · rfl
      · cases h
    | false =>
      simp only [htx, cond_false] at h
      obtain ⟨hfy, h⟩ := some_of_cond h
      obtain rfl := isFalseC_eq hfy
      split at h
      · rename_i y2 hy2
        obtain ⟨rfl, rfl, rfl⟩ := res_eq h
        refine Good.same (.bool (b && y2)) (fun w2 => ?_) rfl hc
        rw [hce]
        simp only [asBool, pure_bind]
        cases b
        · rfl
        · have := hx true hce rfl
          rw [hy2] at this
          have hye : a.eval x = .bool y2 := this
          simp only [if_true, Bool.true_and, hye]; rfl
      · cases h
  · cases h
theorem evOp_sound {o : Oper} {st : St} {a : Act} {vs : List Bool} {d : D} {xs : List Obj} (hv : ∀ x, DRel S β (st.lv x) (a.eval x))
    (hc : Core Γ S β w st.objs) (h : evOp P o st = some (vs, d, xs)) (hvs : ∀ b ∈ vs, b = true) (hf : fieldTy P o.op = true) : Good P (quietOp o.op) (pureOp o.op) (execOp a.eval o) Γ S β w d xs := by
  unfold evOp at h
  unfold execOp
  cases ho : o.op with
  | move x =>
    simp only [ho] at h ⊢
    obtain ⟨rfl, rfl, rfl⟩ := res_eq h
    exact Good.same _ (fun _ => rfl) (hv x) hc
  | assign x =>
    simp only [ho] at h ⊢
    obtain ⟨rfl, rfl, rfl⟩ := res_eq h
    exact Good.same _ (fun _ => rfl) (hv x) hc
  | pick c x y =>
    simp only [ho] at h ⊢
    exact evPick_sound (hv c) (fun _ _ _ => hv x) (fun _ _ _ => hv y) hc h
  | alloc t =>
    simp only [ho] at h ⊢
    exact (evAlloc_sound hc h).good
  | box t x =>
    simp only [ho] at h ⊢
    exact (evBox_sound hc (hv x) h).good
  | build t parts =>
    simp only [ho] at h ⊢
    exact (evBuild_sound hv hc h).good
  | buildSlice t len parts =>
    simp only [ho] at h ⊢
    exact (evBuildSlice_sound hv hc h).good
  | load t x =>
    simp only [ho] at h ⊢
    obtain ⟨ht, h⟩ := some_of_cond h
    exact (evLoad_sound (Option.isSome_iff_exists.1 ht) hc (hv x) h).good
  | store t x y =>
    simp only [ho] at h ⊢
    cases hst : evStore P t (st.lv x) (st.lv y) st.objs with
    | none => rw [hst] at h; cases h
    | some ys =>
    rw [hst, Option.map_some] at h
    obtain ⟨rfl, rfl, rfl⟩ := res_eq h
    obtain ⟨w', hr, hco⟩ := evStore_sound hc (hv x) (hv y) hst
    refine ⟨undef, w', S, β, .inr ⟨?_, rfl⟩, trivial, MLe.refl _, BLe.refl _, hco, fun hq => by cases hq⟩
    rw [Sem.run_bind, hr]; rfl
  | nilCheck x =>
    simp only [ho] at h ⊢
    obtain ⟨h1, rfl, h3⟩ := evNil_sound (hv x) h hvs
    refine Good.same (a.eval x) (fun w2 => ?_) h1 hc
    generalize a.eval x = v at h3
    unfold Through at h3
    split at h3
    · rfl
    · rfl
    · exact h3.elim
  | binOp op t x y t2 =>
    simp only [ho] at h ⊢
    exact (evBin_sound hc (hv x) (hv y) h hvs).good
  | unOp op t x =>
    simp only [ho] at h ⊢
    exact (evUn_sound hc (hv x) h).good
  | convert s t x =>
    simp only [ho] at h ⊢
    exact (evConvert_sound hc (hv x) h).good
  | makeInterface t x =>
    simp only [ho] at h ⊢
    obtain ⟨hu, h⟩ := some_of_cond h
    split at h
    · rename_i c hx
      obtain ⟨rfl, rfl, rfl⟩ := res_eq h
      have := hv x
      rw [hx] at this
      exact (makeInterface_sound (p := false) hu hc this).toV.good
    · cases h
  | makeFunc fn first captured =>
    simp only [ho] at h ⊢
    split at h
    · rename_i l hl1 hl2
      obtain ⟨rfl, rfl, rfl⟩ := res_eq h
      refine Good.same (.func fn #[] (captured.map a.eval)) (fun w2 => ?_) ?_ hc
      · have : first.map a.eval = #[] := by
          have : first = #[] := by apply Array.ext'; simpa using hl1
          simp [this]
        rw [this]; rfl
      · have e : captured.map a.eval = (captured.toList.map a.eval).toArray := by apply Array.ext'; simp
        rw [e]
        exact makeFunc_rel (capsC_sound hv hl2)
    · cases h
  | makeSlice t l c =>
    simp only [ho] at h ⊢
    exact (evMakeSlice_sound hc (hv l) (hv c) h hvs).good
  | slice t x lo hi mx =>
    simp only [ho] at h ⊢
    cases mx with
    | none => exact (evSlice_sound hc (hv x) (ORel1_map hv lo) (ORel1_map hv hi) h hvs).good
    | some m => cases h
  | fieldAddr s x f =>
    simp only [ho] at h ⊢
    exact (evFieldAddr_sound hc (hv x) h).good
  | field s x f =>
    simp only [ho] at h ⊢
    refine (evField_sound hc (hv x) h fun fs fd h1 h2 => ?_).good
    unfold fieldTy at hf
    simp only [ho, h1, h2, Option.elim] at hf
    exact Option.isSome_iff_exists.1 hf
  | indexAddr t x ix =>
    simp only [ho] at h ⊢
    exact (evIndexAddr_sound hc (hv x) (hv ix) h hvs).good
  | index t x ix =>
    simp only [ho] at h ⊢
    exact (evIndex_sound hc (hv x) (hv ix) h hvs).good
  | extract x i =>
    simp only [ho] at h ⊢
    split at h
    · rename_i l hx
      cases hl : l[i]? with
      | none => simp [hl] at h
      | some dd =>
        simp only [hl, Option.elim] at h
        obtain ⟨rfl, rfl, rfl⟩ := res_eq h
        have := hv x
        rw [hx] at this
        exact (extract_sound hc this hl).good
    · cases h
  | call c =>
    simp only [ho] at h ⊢
    obtain ⟨callee, args, tys⟩ := c
    have harg : ∀ (b : Builtin), callee = .builtin b → ((do let dd ← resolve a.eval ⟨callee, args, tys⟩ o.type; invoke dd.target dd.args) : Sem Next).run P =
        (builtin b tys o.type (args.map fun | .const _ => true | _ => false) (args.map a.eval)).run P := by
      intro b hb
      subst hb
      rfl
    simp only at h
    split at h
    · rename_i x t r h2 h3
      have ha : args = #[x] := by apply Array.ext'; simpa using h2
      have h0 : tys[0]? = some t := by
        rw [← Array.getElem?_toList, h3]; rfl
      subst ha
      exact (evLenT_sound tys o.type h0 hc (hv x) h).good.congr fun w2 => by rw [harg .len rfl, show Array.map a.eval #[x] = #[a.eval x] by simp]; rfl
    · rename_i x y t t' r h2 h3
      have ha : args = #[x, y] := by apply Array.ext'; simpa using h2
      have h0 : tys[0]? = some t := by
        rw [← Array.getElem?_toList, h3]; rfl
      have h1' : tys[1]? = some t' := by
        rw [← Array.getElem?_toList, h3]; rfl
      subst ha
      split at h
      · rename_i u hu
        have := (evAppend_sound hu (.inl ⟨u, rfl⟩) tys o.type h0 h1' hc (hv x) (hv y) h hvs).good
        exact this.congr fun w2 => by rw [harg .append rfl, show Array.map a.eval #[x, y] = #[a.eval x, a.eval y] by simp]; rfl
      · rename_i hu
        have := (evAppend_sound hu (.inr rfl) tys o.type h0 h1' hc (hv x) (hv y) h hvs).good
        exact this.congr fun w2 => by rw [harg .append rfl, show Array.map a.eval #[x, y] = #[a.eval x, a.eval y] by simp]; rfl
      · cases h
    · rename_i x t r h2 h3
      have ha : args = #[x] := by apply Array.ext'; simpa using h2
      have h0 : tys[0]? = some t := by rw [← Array.getElem?_toList, h3]; rfl
      subst ha
      cases hcl : evClear P t (st.lv x) st.objs with
      | none => rw [hcl] at h; cases h
      | some ys =>
      rw [hcl, Option.map_some] at h
      obtain ⟨rfl, rfl, rfl⟩ := res_eq h
      obtain ⟨w', hr, hco⟩ := evClear_sound tys o.type h0 hc (hv x) hcl
      have : Good P false false (do pure (Next.value (← Builtin.clear_ tys o.type #[a.eval x]))) Γ S β w (.tup []) ys :=
        ⟨.tuple #[], w', S, β, .inl (by rw [Sem.run_bind, hr]; rfl), ⟨[], rfl, rfl⟩, MLe.refl _, BLe.refl _, hco, fun hq => by cases hq⟩
      exact this.congr fun w2 => by rw [harg .clear rfl, show Array.map a.eval #[x] = #[a.eval x] by simp]; rfl
    · have := (evMaxMin_sound (p := true) (P := P) (isMax := true) tys o.type hc (VRel_map hv args.toList) h).good
      refine this.congr fun w2 => ?_
      rw [harg .max rfl, show args.map a.eval = (args.toList.map a.eval).toArray by apply Array.ext'; simp]
      rfl
    · have := (evMaxMin_sound (p := true) (P := P) (isMax := false) tys o.type hc (VRel_map hv args.toList) h).good
      refine this.congr fun w2 => ?_
      rw [harg .min rfl, show args.map a.eval = (args.toList.map a.eval).toArray by apply Array.ext'; simp]
      rfl
    · cases h
  | makeMap t r =>
    simp only [ho] at h ⊢
    exact (evMakeMap_sound (rv := r.map a.eval) (by rintro rfl; rfl) hc h).good
  | lookup t m k ok =>
    simp only [ho] at h ⊢
    exact (evLookup_sound hc (hv m) (hv k) h).good
  | mapUpdate t m k x =>
    simp only [ho] at h ⊢
    cases hst : evUpdate P t (st.lv m) (st.lv k) (st.lv x) st.objs with
    | none => rw [hst] at h; cases h
    | some ys =>
    rw [hst, Option.map_some] at h
    obtain ⟨rfl, rfl, rfl⟩ := res_eq h
    obtain ⟨w', hr, hco⟩ := evUpdate_sound hc (hv m) (hv k) (hv x) hst
    refine ⟨undef, w', S, β, .inr ⟨?_, rfl⟩, trivial, MLe.refl _, BLe.refl _, hco, fun hq => by cases hq⟩
    rw [Sem.run_bind, hr]; rfl
  | _ => simp only [ho] at h; cases h
end
end Go.Dl

namespace Go.Dl
variable [WInv]
section
variable {P : Program} {Γ : Ctx} {S : Mem} {β : Bmap} {w : World} {n : Nat}
theorem lookup_erase {α : Type} {z : α} {t t' : Nat} (h : t' ≠ t) : ∀ (l : List (Nat × α)), lookupT z (eraseT t l) t' = lookupT z l t'
  | [] => rfl
  | (i, d) :: r => by
    unfold eraseT
    rw [List.filter_cons]
    cases hb : Nat.beq i t with
    | true =>
      have := Nat.eq_of_beq_eq_true hb
      subst this
      simp only [Bool.not_true, Bool.false_eq_true, if_false]
      have h2 : Nat.beq i t' = false := by
        cases hq : Nat.beq i t' with
        | false => rfl
        | true => exact absurd (Nat.eq_of_beq_eq_true hq).symm h
      simp only [lookupT, h2, cond_false]
      exact lookup_erase h r
    | false =>
      simp only [Bool.not_false, if_true, lookupT]
      rw [show List.filter (fun p => !Nat.beq p.1 t) r = eraseT t r from rfl, lookup_erase h r]
theorem put_get_same (st : St) (t : Nat) (d : D) (xs : List Obj) (g : List (Nat × Bool)) : (st.put (some t) d xs g).get t = d := by
  simp [St.put, St.get, lookupT]
theorem put_get_other (st : St) (t t' : Nat) (d : D) (xs : List Obj) (g : List (Nat × Bool)) (h : t' ≠ t) : (st.put (some t) d xs g).get t' = st.get t' := by
  have : Nat.beq t t' = false := by
    cases hq : Nat.beq t t' with
    | false => rfl
    | true => exact absurd (Nat.eq_of_beq_eq_true hq).symm h
  simp only [St.put, St.get, lookupT, this, cond_false]
  exact lookup_erase h _
theorem lookup_erase_same {α : Type} {z : α} {t : Nat} : ∀ (l : List (Nat × α)), lookupT z (eraseT t l) t = z
  | [] => rfl
  | (i, d) :: r => by
    unfold eraseT
    rw [List.filter_cons]
    cases hb : Nat.beq i t with
    | true =>
      simp only [Bool.not_true, Bool.false_eq_true, if_false]
      exact lookup_erase_same r
    | false =>
      simp only [Bool.not_false, if_true, lookupT, hb, cond_false]
      exact lookup_erase_same r
theorem put_gof_same (st : St) (t : Nat) (d : D) (xs : List Obj) (g : List (Nat × Bool)) : (st.put (some t) d xs g).gof t = g := by
  cases g with
  | nil => simp only [St.put, St.gof, List.isEmpty_nil, cond_true]; exact lookup_erase_same _
  | cons p g => simp [St.put, St.gof, lookupT]
theorem put_gof_other (st : St) (t t' : Nat) (d : D) (xs : List Obj) (g : List (Nat × Bool)) (h : t' ≠ t) : (st.put (some t) d xs g).gof t' = st.gof t' := by
  have : Nat.beq t t' = false := by
    cases hq : Nat.beq t t' with
    | false => rfl
    | true => exact absurd (Nat.eq_of_beq_eq_true hq).symm h
  cases g with
  | nil => simp only [St.put, St.gof, List.isEmpty_nil, cond_true]; exact lookup_erase h _
  | cons p g =>
    simp only [St.put, St.gof, List.isEmpty_cons, cond_false, lookupT, this]
    exact lookup_erase h _
theorem gof_mem {st : St} {t : Nat} {q : Nat × Bool} (h : q ∈ st.gof t) : ∃ p ∈ st.gd, q ∈ p.2 := by
  unfold St.gof at h
  generalize st.gd = l at h
  induction l with
  | nil => cases h
  | cons p r ih =>
    obtain ⟨i, g⟩ := p
    simp only [lookupT] at h
    cases hb : Nat.beq i t with
    | true => rw [hb, cond_true] at h; exact ⟨(i, g), by simp, h⟩
    | false =>
      rw [hb, cond_false] at h
      obtain ⟨p, hp, hq⟩ := ih h
      exact ⟨p, by simp [hp], hq⟩
theorem free_ne {st : St} {t : Nat} (h : freeOf st t = true) {t' : Nat} {q : Nat × Bool} (hq : q ∈ st.gof t') : q.1 ≠ t := by
  obtain ⟨p, hp, hqp⟩ := gof_mem hq
  unfold freeOf at h
  rw [List.all_eq_true] at h
  have := h p hp
  rw [List.all_eq_true] at this
  have := this q hqp
  intro e
  subst e
  simp at this
theorem holds_put {st : St} {t : Nat} {d : D} {xs : List Obj} {g l : List (Nat × Bool)} (h : ∀ q ∈ l, q.1 ≠ t) : (st.put (some t) d xs g).holds l ↔ st.holds l := by
  unfold St.holds
  constructor
  · intro hh q hq; have := hh q hq; rwa [put_get_other _ _ _ _ _ _ (h q hq)] at this
  · intro hh q hq; rw [put_get_other _ _ _ _ _ _ (h q hq)]; exact hh q hq
theorem getD_put {a : Act} {t t' : Nat} {v : Value} (ht : t < a.tmps.size) : (a.put (some t) v).tmps.getD t' undef = if t' = t then v else a.tmps.getD t' undef := by
  simp only [Act.put, Array.getD_eq_getD_getElem?, Array.getElem?_setIfInBounds]
  by_cases h : t = t'
  · subst h; simp [ht]
  · rw [if_neg h, if_neg (fun e => h e.symm)]
theorem RR.put {a : Act} {st : St} (h : RR Γ S β a w n st) {w' : World} {S' : Mem} {β' : Bmap} {xs : List Obj} (hc : Core Γ S' β' w' xs) (hs : MLe S S') (hb : BLe β β')
    {t : Nat} {d : D} {v : Value} {g : List (Nat × Bool)} (hn : t < n) (hfree : freeOf st t = true) (hg : ∀ q ∈ g, q.1 ≠ t)
    (h1 : st.holds g → DRel S' β' d v) (h2 : ¬ st.holds g → v = undef) : RR Γ S' β' (a.put (some t) v) w' n (st.put (some t) d xs g) := by
  have hsz : t < a.tmps.size := by rw [h.size]; exact hn
  refine ⟨hc, fun t' hh => ?_, fun t' hh => ?_, by simp [Act.put, h.size], h.defers, fun o k ho hB => hb _ _ (h.hand o k ho hB)⟩
  · rw [getD_put hsz]
    by_cases e : t' = t
    · subst e
      rw [if_pos rfl, put_get_same]
      rw [put_gof_same, holds_put hg] at hh
      exact h1 hh
    · rw [if_neg e, put_get_other _ _ _ _ _ _ e]
      rw [put_gof_other _ _ _ _ _ _ e, holds_put (fun q hq => free_ne hfree hq)] at hh
      exact DRel.up hs hb (h.tm t' hh)
  · rw [getD_put hsz]
    by_cases e : t' = t
    · subst e
      rw [if_pos rfl]
      rw [put_gof_same, holds_put hg] at hh
      exact h2 hh
    · rw [if_neg e]
      rw [put_gof_other _ _ _ _ _ _ e, holds_put (fun q hq => free_ne hfree hq)] at hh
      exact h.un t' hh
theorem RR.putNone {a : Act} {st : St} (h : RR Γ S β a w n st) {w' : World} {S' : Mem} {β' : Bmap} {xs : List Obj} (hc : Core Γ S' β' w' xs) (hs : MLe S S') (hb : BLe β β')
    {d : D} {v : Value} {g : List (Nat × Bool)} : RR Γ S' β' (a.put none v) w' n (st.put none d xs g) :=
  ⟨hc, fun t hh => DRel.up hs hb (h.tm t hh), fun t hh => h.un t hh, h.size, h.defers, fun o k ho hB => hb _ _ (h.hand o k ho hB)⟩
theorem gEq_eq {a b : Nat × Bool} (h : gEq a b = true) : a = b := by
  obtain ⟨i, x⟩ := a
  obtain ⟨j, y⟩ := b
  simp only [gEq, Bool.and_eq_true] at h
  have := Nat.eq_of_beq_eq_true h.1
  cases x <;> cases y <;> simp_all
theorem gIn_mem {q : Nat × Bool} {g : List (Nat × Bool)} (h : gIn q g = true) : q ∈ g := by
  unfold gIn at h
  rw [List.any_eq_true] at h
  obtain ⟨p, hp, he⟩ := h
  rw [gEq_eq he]; exact hp
theorem lookup_filter {α : Type} {z : α} (f : Nat → Bool) (t : Nat) : ∀ (l : List (Nat × α)), lookupT z (l.filter fun p => f p.1) t = bif f t then lookupT z l t else z
  | [] => by cases h : f t <;> simp [lookupT]
  | (i, d) :: r => by
    rw [List.filter_cons]
    cases hb : Nat.beq i t with
    | true =>
      have := Nat.eq_of_beq_eq_true hb
      subst this
      cases hf : f i with
      | true => simp [lookupT]
      | false =>
        simp only [Bool.false_eq_true, if_false, cond_false]
        rw [lookup_filter f i r, hf, cond_false]
    | false =>
      cases hf : f i with
      | true =>
        simp only [if_true, lookupT, hb, cond_false]
        exact lookup_filter f t r
      | false =>
        simp only [Bool.false_eq_true, if_false, lookupT, hb, cond_false]
        exact lookup_filter f t r
theorem lookup_empty {st : St} (h : st.gd.isEmpty = true) (t : Nat) : st.gof t = [] := by
  unfold St.gof
  have : st.gd = [] := by simpa using h
  rw [this]; rfl
theorem see_rel {a : Act} {st : St} (h : RR Γ S β a w n st) {g : List (Nat × Bool)} (hg : st.holds g) (x : Operand) : DRel S β ((st.see g).lv x) (a.eval x) := by
  cases x with
  | tmp t =>
    show DRel S β ((st.see g).get t) (a.tmps.getD t undef)
    unfold St.see
    cases he : st.gd.isEmpty with
    | true =>
      rw [cond_true]
      exact h.tm t (by rw [lookup_empty he]; intro q hq; cases hq)
    | false =>
      rw [cond_false]
      unfold St.get
      simp only
      rw [lookup_filter (fun i => (st.gof i).all fun q => gIn q g)]
      cases hb : (st.gof t).all fun q => gIn q g with
      | false => rw [cond_false]; trivial
      | true =>
        rw [cond_true]
        refine h.tm t fun q hq => hg q ?_
        rw [List.all_eq_true] at hb
        exact gIn_mem (hb q hq)
  | const v => exact cst_rel v
  | global g => rfl
  | func f => exact ⟨#[], rfl, rfl, fun i hi => by omega⟩
theorem see_objs (st : St) (g : List (Nat × Bool)) : (st.see g).objs = st.objs := by
  unfold St.see
  cases st.gd.isEmpty <;> rfl
theorem evSee_sound {a : Act} {st : St} (h : RR Γ S β a w n st) {g : List (Nat × Bool)} (hg : st.holds g) {o : Oper} {vs : List Bool} {d : D} {xs : List Obj}
    (he : evSee P o st g = some (vs, d, xs)) (hvs : ∀ b ∈ vs, b = true) : Good P (quietOp o.op) (pureOp o.op) (execOp a.eval o) Γ S β w d xs := by
  have gen : (bif fieldTy P o.op then evOp P o (st.see g) else none) = some (vs, d, xs) → Good P (quietOp o.op) (pureOp o.op) (execOp a.eval o) Γ S β w d xs := by
    intro he
    obtain ⟨hf, he⟩ := some_of_cond he
    exact evOp_sound (see_rel h hg) (by rw [see_objs]; exact h.core) he hvs hf
  unfold evSee at he
  split at he
  · rename_i c x y hop
    unfold evPickG at he
    have hcr := see_rel h hg (.tmp c)
    split at he
    · rename_i b hcb
      have hcr' : DRel S β ((st.see g).get c) (a.eval (.tmp c)) := hcr
      rw [hcb] at hcr'
      have hce : a.eval (.tmp c) = .bool b := hcr'
      have hst : st.get c = .c (.val (.bool b)) := by
        have : (st.see g).get c = st.get c ∨ (st.see g).get c = .c .bot := by
          unfold St.see
          cases he : st.gd.isEmpty with
          | true => left; rfl
          | false =>
            rw [cond_false]
            unfold St.get
            simp only
            rw [lookup_filter (fun i => (st.gof i).all fun q => gIn q g)]
            cases (st.gof c).all fun q => gIn q g
            · right; rfl
            · left; rfl
        rcases this with e | e
        · rw [← e]; exact hcb
        · rw [hcb] at e; cases e
      have hold : ∀ bb, b = bb → st.holds ((c, bb) :: g) := by
        intro bb hbb q hq
        rcases List.mem_cons.1 hq with rfl | hq
        · rw [← hbb]; exact hst
        · exact hg q hq
      unfold execOp
      rw [hop]
      simp only
      cases htx : isTrueC x with
      | true =>
        simp only [htx, cond_true] at he
        obtain rfl := isTrueC_eq htx
        split at he
        · rename_i y2 hy2
          obtain ⟨rfl, rfl, rfl⟩ := res_eq he
          refine Good.same (.bool (b || y2)) (fun w2 => ?_) rfl h.core
          rw [hce]
          simp only [asBool, pure_bind]
          cases b
          · have := see_rel h (hold false rfl) y
            rw [hy2] at this
            have hye : a.eval y = .bool y2 := this
            simp only [Bool.false_eq_true, if_false, Bool.false_or, hye]; rfl
          · rfl
        · cases he
      | false =>
        simp only [htx, cond_false] at he
        obtain ⟨hfy, he⟩ := some_of_cond he
        obtain rfl := isFalseC_eq hfy
        split at he
        · rename_i y2 hy2
          obtain ⟨rfl, rfl, rfl⟩ := res_eq he
          refine Good.same (.bool (b && y2)) (fun w2 => ?_) rfl h.core
          rw [hce]
          simp only [asBool, pure_bind]
          cases b
          · rfl
          · have := see_rel h (hold true rfl) x
            rw [hy2] at this
            have hye : a.eval x = .bool y2 := this
            simp only [if_true, Bool.true_and, hye]; rfl
        · cases he
    · cases he
  · exact gen he
theorem guardB_true {st : St} : ∀ {g : List (Nat × Bool)} {b : Bool}, guardB st g = some b → st.holds g → b = true
  | [], b, h, _ => by simpa [guardB] using h.symm
  | (t, want) :: r, b, h, hh => by
    unfold guardB at h
    have ht := hh (t, want) (by simp)
    simp only at ht
    rw [ht] at h
    cases hr : guardB st r with
    | none => rw [hr] at h; cases h
    | some x =>
      rw [hr] at h
      have hx := guardB_true hr (fun q hq => hh q (List.mem_cons_of_mem _ hq))
      subst hx
      simp only at h
      split at h <;> simp only [Option.some.injEq] at h <;> subst h <;> cases want <;> rfl
theorem guardB_head {st : St} {t : Nat} {want : Bool} {r : List (Nat × Bool)} {b : Bool} (h : guardB st ((t, want) :: r) = some b) : ∃ x, st.get t = .c (.val (.bool x)) := by
  unfold guardB at h
  split at h
  · rename_i x _ hx _; exact ⟨x, hx⟩
  · cases h
end
end Go.Dl

namespace Go.Dl
variable [WInv]
section
variable {P : Program} {Γ : Ctx} {S : Mem} {β : Bmap} {w : World} {n : Nat}
theorem quiet_objs {o : Oper} {st : St} {vs : List Bool} {d : D} {xs : List Obj} (hq : quietOp o.op = true) (h : evOp P o st = some (vs, d, xs)) : xs = st.objs := by
  unfold evOp at h
  cases ho : o.op with
  | move x => simp only [ho] at h; exact (res_eq h).2.2.symm
  | assign x => simp only [ho] at h; exact (res_eq h).2.2.symm
  | pick c x y =>
    simp only [ho] at h
    unfold evPick at h
    repeat' (first | split at h | (cases hb : isTrueC x <;> cases hb2 : isFalseC y <;> simp only [hb, hb2, cond_true, cond_false] at h))
    all_goals first | exact (res_eq h).2.2.symm | cases h | skip
    all_goals (repeat' split at h)
    all_goals first | exact (res_eq h).2.2.symm | cases h
  | load t x =>
    simp only [ho] at h
    obtain ⟨_, h⟩ := some_of_cond h
    unfold evLoad at h
    repeat' split at h
    all_goals first
      | cases h
      | (cases hb : aggT P t <;> simp only [hb, cond_true, cond_false] at h <;>
          first
            | exact (res_eq h).2.2.symm
            | (obtain ⟨_, h⟩ := some_of_cond h; exact (res_eq h).2.2.symm)
            | (rename_i l j _; cases hl : l[j]? <;> simp only [hl, Option.elim] at h <;> first | exact (res_eq h).2.2.symm | cases h)
            | (simp only [Option.elim] at h; split at h <;> first | exact (res_eq h).2.2.symm | cases h))
  | nilCheck x =>
    simp only [ho] at h
    unfold evNil at h
    split at h <;> first | exact (res_eq h).2.2.symm | cases h
  | binOp op t x y t2 =>
    simp only [ho] at h
    unfold evBin at h
    repeat' split at h
    all_goals first
      | cases h
      | (simp only [Option.elim] at h; split at h <;> first | exact (res_eq h).2.2.symm | cases h)
  | unOp op t x =>
    simp only [ho] at h
    unfold evUn at h
    split at h <;> first | exact (res_eq h).2.2.symm | cases h
  | convert s t x =>
    simp only [ho] at h
    unfold evConvert at h
    split at h <;> first | exact (res_eq h).2.2.symm | cases h
  | fieldAddr s x f =>
    simp only [ho] at h
    unfold evFieldAddr at h
    repeat' (first | (exact (res_eq h).2.2.symm) | (cases h; done) | split at h | (obtain ⟨_, h⟩ := some_of_cond h))
  | field s x f =>
    simp only [ho] at h
    unfold evField at h
    repeat' split at h
    all_goals first
      | cases h
      | (rename_i fd _; cases hb : aggT P fd.type <;> simp only [hb, cond_true, cond_false] at h <;>
          first
            | (obtain ⟨_, h⟩ := some_of_cond h; exact (res_eq h).2.2.symm)
            | (simp only [Option.elim] at h; split at h <;> first | exact (res_eq h).2.2.symm | cases h))
  | indexAddr t x ix =>
    simp only [ho] at h
    unfold evIndexAddr at h
    repeat' (first | (exact (res_eq h).2.2.symm) | (cases h; done) | split at h | (obtain ⟨_, h⟩ := some_of_cond h))
  | index t x ix =>
    simp only [ho] at h
    unfold evIndex at h
    split at h <;> first | exact (res_eq h).2.2.symm | cases h
  | slice t x lo hi mx =>
    simp only [ho] at h
    unfold evSlice at h
    repeat' (first | (exact (res_eq h).2.2.symm) | (cases h; done) | split at h | (obtain ⟨_, h⟩ := some_of_cond h))
  | extract x i =>
    simp only [ho] at h
    split at h
    · simp only [Option.elim] at h
      split at h <;> first | exact (res_eq h).2.2.symm | cases h
    · cases h
  | build t parts =>
    simp only [ho] at h
    unfold evBuild at h
    repeat' split at h
    all_goals first | exact (res_eq h).2.2.symm | cases h
  | call c =>
    simp only [ho] at h
    obtain ⟨callee, args, tys⟩ := c
    rw [ho] at hq
    simp only at h
    split at h
    · unfold evLenT evLen evLenS at h
      repeat' split at h
      all_goals first | exact (res_eq h).2.2.symm | cases h
    · cases hq
    · cases hq
    · unfold evMaxMin at h
      repeat' split at h
      all_goals first | cases h | (simp only [Option.elim] at h; split at h <;> first | exact (res_eq h).2.2.symm | cases h)
    · unfold evMaxMin at h
      repeat' split at h
      all_goals first | cases h | (simp only [Option.elim] at h; split at h <;> first | exact (res_eq h).2.2.symm | cases h)
    · cases h
  | lookup t m k ok =>
    simp only [ho] at h
    unfold evLookup at h
    repeat' (first | (exact (res_eq h).2.2.symm) | (cases h; done) | split at h | (obtain ⟨_, h⟩ := some_of_cond h) | (cases ok <;> simp only [cond_true, cond_false] at h))
  | _ => rw [ho] at hq; cases hq
theorem quiet_see {o : Oper} {st : St} {g : List (Nat × Bool)} {vs : List Bool} {d : D} {xs : List Obj} (hq : quietOp o.op = true) (h : evSee P o st g = some (vs, d, xs)) : xs = st.objs := by
  have gen : (bif fieldTy P o.op then evOp P o (st.see g) else none) = some (vs, d, xs) → xs = st.objs := by
    intro h
    obtain ⟨_, h⟩ := some_of_cond h
    rw [quiet_objs hq h, see_objs]
  unfold evSee at h
  split at h
  · rename_i c x y hop
    unfold evPickG at h
    split at h
    · cases hb : isTrueC x <;> cases hb2 : isFalseC y <;> simp only [hb, hb2, cond_true, cond_false] at h
      all_goals first | cases h | skip
      all_goals (split at h <;> first | exact (res_eq h).2.2.symm | cases h)
    · cases h
  · exact gen h
theorem evStep_cases {ops : Array Oper} {o : Oper} {a : Act} {st st' : St} {vs : List Bool}
    (h : RR Γ S β a w n st) (he : evStep P n ops o st = some (vs, st')) (hvs : ∀ b ∈ vs, b = true) :
    (Region.wanted o (yielded ops a.tmps) = true ∧ ∃ v w' S' β', ((execOp a.eval o).run P w = .ok (.value v) w' ∨ (execOp a.eval o).run P w = .ok .skip w' ∧ v = undef) ∧
      RR Γ S' β' (a.put o.dst v) w' n st' ∧ (quietOp o.op = true → w' = w ∧ S' = S ∧ β' = β ∧ ∀ w2, pureOp o.op = true ∨ Up w w2 → (execOp a.eval o).run P w2 = .ok (.value v) w2)) ∨
    (Region.wanted o (yielded ops a.tmps) = false ∧ RR Γ S β (a.put o.dst undef) w n st') := by
  have fin : ∀ (g : List (Nat × Bool)) (d : D) (xs : List Obj), (o.dst.elim true fun t => Nat.blt t n && (freeOf st t && g.all fun q => !Nat.beq q.1 t)) = true →
      Region.wanted o (yielded ops a.tmps) = true → Good P (quietOp o.op) (pureOp o.op) (execOp a.eval o) Γ S β w d xs → (¬ ¬ st.holds g) →
      (Region.wanted o (yielded ops a.tmps) = true ∧ ∃ v w' S' β', ((execOp a.eval o).run P w = .ok (.value v) w' ∨ (execOp a.eval o).run P w = .ok .skip w' ∧ v = undef) ∧
      RR Γ S' β' (a.put o.dst v) w' n (st.put o.dst d xs g) ∧ (quietOp o.op = true → w' = w ∧ S' = S ∧ β' = β ∧ ∀ w2, pureOp o.op = true ∨ Up w w2 → (execOp a.eval o).run P w2 = .ok (.value v) w2)) := by
    intro g d xs hdst hw hgood hg
    refine ⟨hw, ?_⟩
    obtain ⟨v, w', S', β', hr, hd, hs, hb, hc, hq⟩ := hgood
    have hnew : RR Γ S' β' (a.put o.dst v) w' n (st.put o.dst d xs g) := by
      cases ho : o.dst with
      | none => exact h.putNone hc hs hb
      | some t =>
        rw [ho] at hdst
        simp only [Option.elim, Bool.and_eq_true, Nat.blt_eq, List.all_eq_true] at hdst
        obtain ⟨h1, h2, h3⟩ := hdst
        refine h.put hc hs hb h1 h2 (fun q hq e => ?_) (fun _ => hd) (fun hn => absurd hn hg)
        have := h3 q hq
        rw [e] at this
        simp at this
    exact ⟨v, w', S', β', hr, hnew, hq⟩
  unfold evStep at he
  cases hg : guardOf ops o st with
  | none => rw [hg] at he; cases he
  | some g =>
    rw [hg] at he
    dsimp only at he
    obtain ⟨hdst, he⟩ := some_of_cond he
    unfold guardOf at hg
    cases hgd : o.guard with
    | none =>
      rw [hgd] at hg he
      simp only [Option.some.injEq] at hg
      subst hg
      dsimp only at he
      have h0 : st.holds [] := fun q hq => by cases hq
      split at he
      · rename_i vs' d xs hev
        simp only [Option.some.injEq, Prod.mk.injEq] at he
        obtain ⟨rfl, rfl⟩ := he
        exact .inl (fin [] d xs hdst (by simp [Region.wanted, hgd]) (evSee_sound h h0 hev hvs) (fun hn => hn h0))
      · cases he
    | some jw =>
      obtain ⟨j, want⟩ := jw
      rw [hgd] at hg he
      dsimp only at hg he
      obtain ⟨hquiet, he⟩ := some_of_cond he
      cases htj : (ops[j]?).bind (·.dst) with
      | none => rw [htj] at hg; cases hg
      | some tj =>
        rw [htj] at hg
        simp only [Option.some.injEq] at hg
        subst hg
        split at he
        · rename_i vs' d xs b hev hgb
          simp only [Option.some.injEq, Prod.mk.injEq] at he
          obtain ⟨rfl, rfl⟩ := he
          have hxs := quiet_see hquiet hev
          obtain ⟨x, hx⟩ := guardB_head hgb
          have hwant : ∀ (yl : Option Bool), yielded ops a.tmps j = yl → Region.wanted o (yielded ops a.tmps) = (yl == some want) := by
            intro yl hy
            simp only [Region.wanted, hgd, hy]
          have hyield : yielded ops a.tmps j = match a.tmps[tj]? with | some (.bool b) => some b | _ => none := by
            unfold yielded
            rw [htj]
            rfl
          by_cases hh : st.holds ((tj, want) :: st.gof tj)
          · have hb := guardB_true hgb hh
            subst hb
            have hrel := h.tm tj (fun q hq => hh q (List.mem_cons_of_mem _ hq))
            have hxw := hh (tj, want) (by simp)
            simp only at hxw
            rw [hxw] at hrel
            have hval : a.tmps.getD tj undef = .bool want := hrel
            have hsome : a.tmps[tj]? = some (.bool want) := by
              rw [Array.getD_eq_getD_getElem?] at hval
              cases hq : a.tmps[tj]? with
              | none => rw [hq] at hval; cases hval
              | some u => rw [hq] at hval; simp only [Option.getD_some] at hval; rw [hval]
            have hwt : Region.wanted o (yielded ops a.tmps) = true := by
              rw [hwant (some want) (by rw [hyield, hsome])]
              simp
            have hgood := evSee_sound h hh hev (fun b hb => by
              have := hvs (!true || b) (List.mem_map.2 ⟨b, hb, rfl⟩)
              simpa using this)
            rw [hxs] at hgood
            exact .inl (fin _ d st.objs hdst hwt hgood (fun hn => hn hh))
          · have hwt : Region.wanted o (yielded ops a.tmps) = false := by
              by_cases hr : st.holds (st.gof tj)
              · have hrel := h.tm tj hr
                rw [hx] at hrel
                have hval : a.tmps.getD tj undef = .bool x := hrel
                have hsome : a.tmps[tj]? = some (.bool x) := by
                  rw [Array.getD_eq_getD_getElem?] at hval
                  cases hq : a.tmps[tj]? with
                  | none => rw [hq] at hval; cases hval
                  | some u => rw [hq] at hval; simp only [Option.getD_some] at hval; rw [hval]
                rw [hwant (some x) (by rw [hyield, hsome])]
                have hne : x ≠ want := by
                  intro e
                  subst e
                  refine hh fun q hq => ?_
                  rcases List.mem_cons.1 hq with rfl | hq
                  · exact hx
                  · exact hr q hq
                simpa using hne
              · have hun := h.un tj hr
                have hnone : yielded ops a.tmps j = none := by
                  rw [hyield]
                  rw [Array.getD_eq_getD_getElem?] at hun
                  cases hq : a.tmps[tj]? with
                  | none => rfl
                  | some u =>
                    rw [hq] at hun
                    simp only [Option.getD_some] at hun
                    rw [hun]; rfl
                rw [hwant none hnone]
                rfl
            refine .inr ⟨hwt, ?_⟩
            cases ho : o.dst with
            | none => exact h.putNone h.core (MLe.refl _) (BLe.refl _)
            | some t =>
              rw [ho] at hdst
              simp only [Option.elim, Bool.and_eq_true, Nat.blt_eq, List.all_eq_true] at hdst
              obtain ⟨h1, h2, h3⟩ := hdst
              refine h.put h.core (MLe.refl _) (BLe.refl _) h1 h2 (fun q hq e => ?_) (fun hn => absurd hn hh) (fun _ => rfl)
              have := h3 q (by simpa using hq)
              rw [e] at this
              simp at this
        · cases he
theorem evStep_sound {ops : Array Oper} {rest : List Oper} {o : Oper} {a : Act} {Q : Exit → Act → World → Prop} {st st' : St} {vs : List Bool}
    (h : RR Γ S β a w n st) (he : evStep P n ops o st = some (vs, st')) (hvs : ∀ b ∈ vs, b = true)
    (hk : ∀ a' w' S' β', RR Γ S' β' a' w' n st' → wpList P ops Q rest a' w') : wpList P ops Q (o :: rest) a w := by
  rcases evStep_cases h he hvs with ⟨hw, v, w', S', β', hr, hrr, _⟩ | ⟨hw, hrr⟩
  · simp only [wpList, hw, if_true]
    left
    have hrest := hk _ _ _ _ hrr
    rcases hr with hr | ⟨hr, rfl⟩
    · simp only [Oper.wp, Oper.upon, hr]
      exact hrest
    · simp only [Oper.wp, Oper.upon, hr]
      exact hrest
  · simp only [wpList, hw, Bool.false_eq_true, if_false]
    exact hk _ _ _ _ hrr
theorem evOps_sound {ops : Array Oper} {Q : Exit → Act → World → Prop} {rest : List Oper} : ∀ {l : List Oper} {Γ : Ctx} {S : Mem} {β : Bmap} {a : Act} {w : World} {st st' : St} {vs : List Bool},
    RR Γ S β a w n st → evOps P n ops l st = some (vs, st') → (∀ b ∈ vs, b = true) →
    (∀ a' w' S' β', RR Γ S' β' a' w' n st' → wpList P ops Q rest a' w') → wpList P ops Q (l ++ rest) a w
  | [], _, _, _, _, _, _, _, _, h, he, _, hk => by
    simp only [evOps, Option.some.injEq, Prod.mk.injEq] at he
    obtain ⟨_, rfl⟩ := he
    exact hk _ _ _ _ h
  | o :: l, _, _, _, _, _, _, _, _, h, he, hvs, hk => by
    unfold evOps at he
    split at he
    · rename_i v st1 h1
      split at he
      · rename_i vs2 st2 h2
        simp only [Option.some.injEq, Prod.mk.injEq] at he
        obtain ⟨rfl, rfl⟩ := he
        exact evStep_sound h h1 (fun b hb => hvs b (List.mem_append_left _ hb)) fun a' w' S' β' h' =>
          evOps_sound h' h2 (fun b hb => hvs b (List.mem_append_right _ hb)) hk
      · cases he
    · cases he
end
end Go.Dl
