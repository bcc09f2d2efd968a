/- Operations that look: the greatest of some, maps, literals; all of them together. No conditions. -/
import Derived.Test.YthmkdcclmaoonaaDoorA7
set_option linter.unusedVariables false
set_option linter.unusedSimpArgs false
namespace Go.Am
open Go.RowKit
section
variable {P : Program} {R : Nat} {F : Nat → World → Prop} {β : Bm} {H : FW} {w : World} {q : Bool}

theorem maxA_sound {isMax : Bool} : ∀ {l us : List Value} {x : Int} {v : Value}, VRs β l us → maxA isMax x l = some v → ∀ w : World,
    (us.foldlM (if isMax then Builtin.max2 else Builtin.min2) (.int .i64 x)).run P w = .ok v w ∧ ∃ y, v = .int .i64 y
  | [], us, x, v, hv, h, w => by
    cases hv
    simp only [maxA, Option.some.injEq] at h
    subst h
    exact ⟨rfl, _, rfl⟩
  | d :: l, us, x, v, hv, h, w => by
    cases hv with
    | cons hd hr =>
      unfold maxA at h
      split at h
      · cases ‹_ :: _ = _›
      · rename_i y r heq
        cases heq
        cases hd
        rw [List.foldlM_cons, Sem.run_bind]
        cases isMax with
        | true =>
          simp only [if_true]
          have e : (bif true then (bif decide (y > x) then y else x) else (bif decide (y < x) then y else x)) = (if y > x then y else x) := by
            by_cases hc : y > x <;> simp [hc]
          rw [e] at h
          rw [show (Builtin.max2 (.int .i64 x) (.int .i64 y)).run P w = .ok (.int .i64 (if y > x then y else x)) w from rfl, Result.andThen_ok]
          exact maxA_sound (isMax := true) hr h w
        | false =>
          simp only [Bool.false_eq_true, if_false]
          have e : (bif false then (bif decide (y > x) then y else x) else (bif decide (y < x) then y else x)) = (if y < x then y else x) := by
            by_cases hc : y < x <;> simp [hc]
          rw [e] at h
          rw [show (Builtin.min2 (.int .i64 x) (.int .i64 y)).run P w = .ok (.int .i64 (if y < x then y else x)) w from rfl, Result.andThen_ok]
          exact maxA_sound (isMax := false) hr h w
      · cases h

theorem maxMinA_sound {isMax : Bool} {l us : List Value} {v : Value} (ts : Array TypeId) (ty : TypeId) (hx : VRs β l us) (h : maxMinA isMax l = some v) :
    Sees P q (if isMax then Builtin.max_ ts ty us.toArray else Builtin.min_ ts ty us.toArray) β w v := by
  unfold maxMinA at h
  split at h
  · cases hx with
    | cons hd hr =>
      cases hd
      obtain ⟨_, y, rfl⟩ := maxA_sound (P := P) hr h w
      refine .just (u := .int .i64 y) (fun w' => ?_) (.int _ _)
      have := (maxA_sound (P := P) hr h w').1
      cases isMax <;> simpa [Builtin.max_, Builtin.min_] using this
  · cases h

theorem WR.mapOf (h : WR P F β H w) {r clock : Nat} {es : List MapEntry} {k : Pl} (hk : β r = some k) (hm : H.mapOf r = some (es, clock)) :
    ∃ es' : Array MapEntry, w.heap[k.b]? = some (.map es' clock) ∧ ERs β es es'.toList ∧ H.heap.get r = some (.map es clock) := by
  unfold FW.mapOf at hm
  cases hg : H.heap.get r with
  | none => simp [hg] at hm
  | some ob =>
    cases ob with
    | map es2 c2 =>
      simp only [hg, Option.some.injEq, Prod.mk.injEq] at hm
      obtain ⟨rfl, rfl⟩ := hm
      obtain ⟨k2, hk2, es', hh, hes⟩ := h.objs _ _ hg
      rw [hk] at hk2
      simp only [Option.some.injEq] at hk2
      subst hk2
      exact ⟨es', hh, hes, rfl⟩
    | _ => simp [hg] at hm

theorem keyA_sound {kd : TypeDesc} {k k' e e' : Value} {r : Bool} (hk : VR β k k') (he : VR β e e') (h : keyA kd k e = some r) : Instr.sameNow kd k' e' = some r := by
  unfold keyA at h
  split at h
  · cases hk; cases he
    have h2 := some_of_cond h
    clear h
    obtain ⟨hkk, h⟩ := h2
    have hkk := of_decide_eq_true hkk
    subst hkk
    simp only [Option.some.injEq] at h; subst h
    simp only [Instr.sameNow, if_true]
    congr 1
  · cases hk; cases he
    simp only [Option.some.injEq] at h; subst h
    rename_i a b
    simp only [Instr.sameNow]
    congr 1
    rw [beq_toListBytes, ByteArray.toList_eq, ByteArray.toList_eq]
  · cases hk; cases he
    simp only [Option.some.injEq] at h; subst h
    rfl
  · cases h

/-- What is found is found. -/
inductive FR (β : Bm) : Option (Nat × Value) → Option (Nat × Value) → Prop
  | none : FR β none none
  | some {i : Nat} {v v' : Value} (h : VR β v v') : FR β (some (i, v)) (some (i, v'))

theorem findA_sound {kd : TypeDesc} {k k' : Value} (hk : VR β k k') : ∀ {es es' : List MapEntry} {i : Nat} {r : Option (Nat × Value)}, ERs β es es' → findA kd k es i = some r →
    ∃ r', Instr.findNow kd k' es' i = some r' ∧ FR β r r'
  | [], _, i, r, he, h => by
    cases he
    simp only [findA, Option.some.injEq] at h; subst h
    exact ⟨_, rfl, .none⟩
  | e :: es, _, i, r, he, h => by
    cases he with
    | cons h1 h2 =>
      unfold findA at h
      unfold Instr.findNow
      cases hka : keyA kd k e.key with
      | none => rw [hka] at h; cases h
      | some b =>
        rw [hka] at h
        rw [keyA_sound hk h1.key hka]
        cases b with
        | true =>
          simp only [Option.some.injEq] at h; subst h
          exact ⟨_, rfl, .some h1.val⟩
        | false => exact findA_sound hk h2 h

theorem checkKey_plain {kt : TypeId} {kd : TypeDesc} {k k' : Value} {b : Bool} (hu : P.underlying kt = some kd) (hp : plainK kd k = true) (hk : VR β k k') (w : World) :
    (Instr.checkKey b 10000 kt k').run P w = .ok () w := by
  show (Instr.checkKey b (9999 + 1) kt k').run P w = _
  unfold Instr.checkKey
  rw [Sem.run_bind, run_underlying hu, Result.andThen_ok]
  unfold plainK at hp
  split at hp
  · cases hk; rfl
  · cases hk; rfl
  · cases hk; rfl
  · cases hp

theorem run_findKey {kt : TypeId} {kd : TypeDesc} {k' : Value} {es : List MapEntry} {r : Option (Nat × Value)} (hu : P.underlying kt = some kd) (h : Instr.findNow kd k' es 0 = some r) (w : World) :
    (Instr.findKey kt k' es).run P w = .ok r w := by
  unfold Instr.findKey
  rw [Sem.run_bind, run_underlying hu, Result.andThen_ok, h]
  rfl

theorem run_zeroValue' {t : TypeId} {i : TypeInfo} {v : Value} (hi : P.info? t = some i) (hz : i.zero = some v) (w : World) : (zeroValue t).run P w = .ok v w := by
  unfold zeroValue
  rw [Sem.run_bind, run_typeInfo' hi, Result.andThen_ok, hz]
  rfl

theorem zero_of_found {e : TypeId} {ok : Bool} {v : Value} (h : foundA P e ok none = some v) : ∃ i z, P.info? e = some i ∧ i.zero = some z ∧ v = bif ok then .tuple ⟨[cstA z, .bool false]⟩ else cstA z := by
  unfold foundA at h
  cases hi : P.info? e with
  | none => rw [hi] at h; cases h
  | some i =>
    cases hz : i.zero with
    | none => rw [hi] at h; simp only [hz] at h; cases h
    | some z =>
      rw [hi] at h
      simp only [hz, Option.some.injEq] at h
      exact ⟨i, z, rfl, hz, h.symm⟩

theorem foundA_sound {e : TypeId} {ok : Bool} {r r' : Option (Nat × Value)} {v : Value} (hr : FR β r r') (h : foundA P e ok r = some v) :
    ∃ u, VR β v u ∧ ∀ w, (match r' with
        | some (_, v) => pure (if ok = true then Value.tuple #[v, .bool true] else v)
        | none => do
          let z ← zeroValue e
          pure (if ok = true then Value.tuple #[z, .bool false] else z) : Sem Value).run P w = .ok u w := by
  cases hr with
  | some hv =>
    rename_i i a a'
    simp only [foundA, Option.some.injEq] at h; subst h
    refine ⟨if ok = true then .tuple #[a', .bool true] else a', ?_, fun w => rfl⟩
    cases ok with
    | true => exact .tuple (.cons hv (.cons (.bool _) .nil))
    | false => exact hv
  | none =>
    obtain ⟨i, z, hi, hz, rfl⟩ := zero_of_found h
    refine ⟨if ok = true then .tuple #[z, .bool false] else z, ?_, fun w => ?_⟩
    · cases ok with
      | true => exact .tuple (.cons (cstA_rel z) (.cons (.bool _) .nil))
      | false => exact cstA_rel z
    · simp only
      rw [Sem.run_bind, run_zeroValue' hi hz]
      rfl

theorem lookupA_sound (h : WR P F β H w) {t : TypeId} {m k m' k' v : Value} {ok : Bool} (hm : VR β m m') (hk : VR β k k') (he : lookupA P t m k ok H = some v) :
    Sees P false (Instr.lookup t m' k' ok) β w v := by
  unfold lookupA at he
  split at he
  · rename_i kt e hu
    cases hkd : P.underlying kt with
    | none => rw [hkd] at he; cases he
    | some kd =>
      rw [hkd] at he
      simp only at he
      obtain ⟨hp, he⟩ := some_of_cond he
      split at he
      · cases hm
        obtain ⟨x, hx, hrun⟩ := foundA_sound .none he
        refine ⟨_, fun w' _ => ?_, hx⟩
        unfold Instr.lookup
        rw [Sem.run_bind, run_underlying hu, Result.andThen_ok]
        simp only [pure_bind]
        rw [Sem.run_bind, checkKey_plain hkd hp hk, Result.andThen_ok, Sem.run_bind, run_findKey hkd (r := none) rfl, Result.andThen_ok]
        exact hrun w'
      · rename_i r _
        cases hmo : H.mapOf r with
        | none => rw [hmo] at he; cases he
        | some p =>
          obtain ⟨es, clock⟩ := p
          rw [hmo] at he
          simp only at he
          cases hf : findA kd k es 0 with
          | none => rw [hf] at he; cases he
          | some fr =>
            rw [hf] at he
            simp only at he
            cases hm with
            | map hkk =>
              obtain ⟨es', hh, hes, _⟩ := h.mapOf hkk hmo
              obtain ⟨r', hr1, hr2⟩ := findA_sound hk hes hf
              obtain ⟨x, hx, hrun⟩ := foundA_sound hr2 he
              refine ⟨_, fun w' hw' => ?_, hx⟩
              have hw := hw'.resolve_left (by simp)
              have hh' : w'.heap[_]? = some (Go.Obj.map es' clock) := (hw.block _ ((Array.getElem?_eq_some_iff.1 hh).1)).trans hh
              unfold Instr.lookup
              rw [Sem.run_bind, run_underlying hu, Result.andThen_ok]
              simp only
              have hget : ∀ b, (getObj b).run P w' = match w'.heap[b]? with
                  | some (.cells ..) => .halt (.stuck "getObj: a row of cells") w'
                  | some o => .ok o w'
                  | none => .halt (.stuck "getObj: no such block") w' := by
                intro b
                unfold getObj
                simp only [Sem.run]
                cases w'.heap[b]? with
                | none => rfl
                | some o => cases o <;> rfl
              rw [Sem.run_bind, hget, hh']
              simp only [Result.andThen_ok, pure_bind]
              rw [Sem.run_bind, checkKey_plain hkd hp hk, Result.andThen_ok, Sem.run_bind, run_findKey hkd hr1, Result.andThen_ok]
              exact hrun w'
      · cases he
  · cases he

theorem missing_none (want : Array (String × TypeId)) (got : Array Method) : (Instr.missingMethod want got).isNone = want.toList.all fun x => got.toList.any fun m => m.name == x.1 && m.sig == x.2 := by
  have hf : ∀ l : List (String × TypeId), ((l.filter fun (name, sig) => !got.any fun m => m.name == name && m.sig == sig).map (·.1)).isEmpty = l.all fun x => got.toList.any fun m => m.name == x.1 && m.sig == x.2 := by
    intro l
    induction l with
    | nil => rfl
    | cons x l ih =>
      obtain ⟨name, sig⟩ := x
      have e : (got.any fun m => m.name == name && m.sig == sig) = got.toList.any fun m => m.name == name && m.sig == sig := by simp
      cases hb : (got.toList.any fun m => m.name == name && m.sig == sig) with
      | true =>
        rw [List.filter_cons_of_neg (by simp only [e, hb]; decide), ih, List.all_cons, hb, Bool.true_and]
      | false =>
        rw [List.filter_cons_of_pos (by simp only [e, hb]; decide), List.all_cons, hb, Bool.false_and]
        rfl
  rw [← hf want.toList]
  unfold Instr.missingMethod
  generalize ((want.toList.filter fun (name, sig) => !got.any fun m => m.name == name && m.sig == sig).map (·.1)) = l
  cases l with
  | nil => rfl
  | cons s l =>
    simp only [List.isEmpty_cons]
    have key : ∀ (p : String → Bool), (Instr.least ((s :: l).partition p).2 <|> Instr.least (((s :: l).partition p).1.map fun (id : String) => (id.splitOn ".").getLastD id)).isNone = false := by
      intro p
      rw [List.partition_eq_filter_filter]
      simp only
      cases hp : p s with
      | true =>
        rw [List.filter_cons_of_pos hp]
        cases Instr.least (List.filter (not ∘ p) (s :: l)) with
        | none => rfl
        | some _ => rfl
      | false =>
        rw [List.filter_cons_of_pos (p := not ∘ p) (by simp [hp])]
        rfl
    exact key _

theorem assertA_sound {x x' v : Value} {t xt : TypeId} {ok : Bool} (hx : VR β x x') (h : assertA P x t ok = some v) : Sees P q (Instr.typeAssert x' xt t ok) β w v := by
  unfold assertA at h
  split at h
  · rename_i want hu
    split at h
    · rename_i u a
      cases hx with
      | iface ha =>
        rename_i a'
        unfold hasA at h
        cases hi : P.info? u with
        | none => rw [hi] at h; cases h
        | some i =>
          rw [hi] at h
          simp only at h
          rw [← missing_none] at h
          have hti : ∀ w', (typeInfo u).run P w' = .ok i w' := fun w' => by simp [typeInfo, hi]
          cases hm : Instr.missingMethod want i.methods with
          | none =>
            rw [hm] at h
            simp only [Option.isNone_none, Option.some.injEq] at h
            subst h
            refine ⟨if ok then .tuple #[.iface u a', .bool true] else .iface u a', fun w' _ => ?_, ?_⟩
            · unfold Instr.typeAssert
              rw [Sem.run_bind, run_underlying hu, Result.andThen_ok]
              simp only
              rw [Sem.run_bind, hti, Result.andThen_ok, hm]
              rfl
            · cases ok with
              | true => exact .tuple (.cons (.iface ha) (.cons (.bool _) .nil))
              | false => exact .iface ha
          | some nm =>
            rw [hm] at h
            simp only [Option.isNone_some] at h
            obtain ⟨rfl, h⟩ := some_of_cond h
            obtain ⟨j, z, hj, hz, rfl⟩ := zero_of_found h
            refine ⟨.tuple #[z, .bool false], fun w' _ => ?_, .tuple (.cons (cstA_rel z) (.cons (.bool _) .nil))⟩
            unfold Instr.typeAssert
            rw [Sem.run_bind, run_underlying hu, Result.andThen_ok]
            simp only
            rw [Sem.run_bind, hti, Result.andThen_ok, hm]
            simp only [if_true, Sem.run_bind, run_zeroValue' hj hz, Result.andThen_ok]
            rfl
    · cases hx
      obtain ⟨rfl, h⟩ := some_of_cond h
      obtain ⟨i, z, hi, hz, rfl⟩ := zero_of_found h
      refine ⟨.tuple #[z, .bool false], fun w' _ => ?_, .tuple (.cons (cstA_rel z) (.cons (.bool _) .nil))⟩
      unfold Instr.typeAssert
      rw [Sem.run_bind, run_underlying hu, Result.andThen_ok]
      simp only [if_true, Sem.run_bind, run_zeroValue' hi hz, Result.andThen_ok]
      rfl
    · cases h
  · rename_i d hne hu
    have hni : ∀ ms, d ≠ .interface ms := fun ms e => hne ms e
    split at h
    · rename_i u a
      cases hx with
      | iface ha =>
        rename_i a'
        cases hb : Nat.beq u t with
        | true =>
          have := Nat.eq_of_beq_eq_true hb
          subst this
          rw [hb, cond_true] at h
          simp only [Option.some.injEq] at h; subst h
          refine ⟨if ok then .tuple #[a', .bool true] else a', fun w' _ => ?_, ?_⟩
          · unfold Instr.typeAssert
            rw [Sem.run_bind, run_underlying hu, Result.andThen_ok]
            cases d <;> first | exact absurd rfl (hni _) | (simp only [if_true]; rfl)
          · cases ok with
            | true => exact .tuple (.cons ha (.cons (.bool _) .nil))
            | false => exact ha
        | false =>
          rw [hb, cond_false] at h
          have hut : u ≠ t := by
            intro e; subst e; simp at hb
          obtain ⟨rfl, h⟩ := some_of_cond h
          obtain ⟨i, z, hi, hz, rfl⟩ := zero_of_found h
          refine ⟨.tuple #[z, .bool false], fun w' _ => ?_, .tuple (.cons (cstA_rel z) (.cons (.bool _) .nil))⟩
          unfold Instr.typeAssert
          rw [Sem.run_bind, run_underlying hu, Result.andThen_ok]
          cases d <;> first | exact absurd rfl (hni _) | (simp only [if_neg hut, if_true, Sem.run_bind, run_zeroValue' hi hz, Result.andThen_ok]; rfl)
    · cases hx
      obtain ⟨rfl, h⟩ := some_of_cond h
      obtain ⟨i, z, hi, hz, rfl⟩ := zero_of_found h
      refine ⟨.tuple #[z, .bool false], fun w' _ => ?_, .tuple (.cons (cstA_rel z) (.cons (.bool _) .nil))⟩
      unfold Instr.typeAssert
      rw [Sem.run_bind, run_underlying hu, Result.andThen_ok]
      cases d <;> first | exact absurd rfl (hni _) | (simp only [if_true, Sem.run_bind, run_zeroValue' hi hz, Result.andThen_ok]; rfl)
    · cases h
  · cases h

theorem set_split (L : List Value) (p : Nat) (x : Value) (l : List Value) (h : p < L.length) :
    (L.set p x).take (p + 1) ++ (l ++ (L.set p x).drop (p + 1 + l.length)) = L.take p ++ ((x :: l) ++ L.drop (p + (l.length + 1))) := by
  have e1 : (L.set p x).take (p + 1) = L.take p ++ [x] := by
    rw [List.take_add_one, List.take_set_of_le (Nat.le_refl _)]
    simp [h]
  have e2 : (L.set p x).drop (p + 1 + l.length) = L.drop (p + (l.length + 1)) := by
    rw [List.drop_set_of_lt (by omega)]
    congr 1
    omega
  rw [e1, e2]
  simp

theorem fill_fold : ∀ (l : List Value) (k off : Nat) (cs : Array Value), off + k + l.length ≤ cs.size →
    (l.zipIdx k).foldl (fun cs (p : Value × Nat) => cs.setIfInBounds (off + p.2) p.1) cs = (cs.toList.take (off + k) ++ (l ++ cs.toList.drop (off + k + l.length))).toArray
  | [], k, off, cs, _ => by simp
  | x :: l, k, off, cs, h => by
    simp only [List.length_cons] at h
    rw [List.zipIdx_cons, List.foldl_cons, fill_fold l (k + 1) off _ (by simp; omega)]
    apply Array.ext'
    simp only [Array.toList_setIfInBounds, List.length_cons]
    have := set_split cs.toList (off + k) x l (by simp; omega)
    rw [← this]
    rfl

theorem cellsV_rel {v v' : Value} (h : VR β v v') (hb : nbot v = true) : VRs β (cellsV v) v'.cells.toList := by
  cases h with
  | any => cases hb
  | agg hl => exact hl
  | bool b => exact .cons (.bool b) .nil
  | int k n => exact .cons (.int k n) .nil
  | string s => exact .cons (.string s) .nil
  | pnil => exact .cons .pnil .nil
  | ptr hk => exact .cons (.ptr hk) .nil
  | snil => exact .cons .snil .nil
  | sl h1 h2 h3 h4 h5 h6 h7 => exact .cons (.sl h1 h2 h3 h4 h5 h6 h7) .nil
  | s1 => exact .cons .s1 .nil
  | mnil => exact .cons .mnil .nil
  | map hk => exact .cons (.map hk) .nil
  | func h1 h2 => exact .cons (.func h1 h2) .nil
  | nilFunc => exact .cons .nilFunc .nil
  | nilIface => exact .cons .nilIface .nil
  | iface hv => exact .cons (.iface hv) .nil
  | tuple hl => exact .cons (.tuple hl) .nil

theorem setC_rel {l cs us vs : List Value} (h : VRs β l us) (k : VRs β cs vs) (j : Nat) : VRs β (setC l j cs) (us.take j ++ (vs ++ us.drop (j + vs.length))) := by
  unfold setC
  rw [k.length]
  exact (h.take j).append (k.append (h.drop _))

theorem fillA_sound {ρ : Ev} {a : Act} (hv : ∀ x, VR β (ρ x) (a.eval x)) {place : Nat → Option (Nat × Nat)} :
    ∀ {parts : List (Nat × Operand)} {cells us l : List Value}, VRs β cells us → fillA place ρ cells parts = some l →
      ∃ us' : List Value, Instr.fill place us.toArray (parts.map fun p => (p.1, a.eval p.2)) = some us'.toArray ∧ VRs β l us'
  | [], cells, us, l, hc, h => by
    simp only [fillA, Option.some.injEq] at h
    subst h
    exact ⟨us, rfl, hc⟩
  | (i, x) :: rest, cells, us, l, hc, h => by
    unfold fillA at h
    cases hp : place i with
    | none => simp [hp] at h
    | some pl =>
      obtain ⟨off, size⟩ := pl
      simp only [hp] at h
      have h2 := some_of_cond h
      clear h
      obtain ⟨hg, h⟩ := h2
      simp only [Bool.and_eq_true] at hg
      obtain ⟨hnb, hsz, hle⟩ := hg
      have hsz := Nat.eq_of_beq_eq_true hsz
      have hle := Nat.le_of_ble_eq_true hle
      have hm := cellsV_rel (hv x) hnb
      have hml : (a.eval x).cells.toList.length = (cellsV (ρ x)).length := hm.length
      have hms : (a.eval x).cells.size = (cellsV (ρ x)).length := by simpa using hml
      have hcs := hc.length
      obtain ⟨us', hf, hr⟩ := fillA_sound hv (setC_rel hc hm off) h
      refine ⟨us', ?_, hr⟩
      rw [List.map_cons]
      unfold Instr.fill
      simp only [hp]
      rw [if_neg (by simp [hms, hsz]; omega)]
      rw [← hf]
      congr 1
      have := fill_fold (a.eval x).cells.toList 0 off us.toArray (by simp [hms]; omega)
      rw [← Array.foldl_toList, Array.toList_zipIdx]
      simpa using this

theorem zeroA_sound {t : TypeId} {z : List Value} (h : zeroA P t = some z) : ∃ i v, P.info? t = some i ∧ i.zero = some v ∧ v.cells.toList = z ∧ VRs β z z ∧ z.all flatC = true := by
  unfold zeroA at h
  cases hi : P.info? t with
  | none => simp [hi] at h
  | some i =>
    cases hz : i.zero with
    | none => simp [hi, hz] at h
    | some v =>
      simp only [hi, hz] at h
      obtain ⟨hf, h⟩ := some_of_cond h
      simp only [Option.some.injEq] at h
      subst h
      refine ⟨i, v, rfl, hz, ?_, flats_rel hf, hf⟩
      cases v <;> rfl

theorem buildA_sound {t : TypeId} {parts : Array (Nat × Operand)} {ρ : Ev} {a : Act} {v : Value} (hv : ∀ x, VR β (ρ x) (a.eval x)) (h : buildA P t parts.toList ρ = some v) :
    Sees P q (Instr.build t (parts.map fun (i, x) => (i, a.eval x))) β w v := by
  unfold buildA at h
  split at h
  · rename_i fs hu
    cases hz : zeroA P t with
    | none => simp [hz] at h
    | some z =>
      cases hp : placesA P fs.toList with
      | none => simp [hz, hp] at h
      | some places =>
        simp only [hz, hp] at h
        cases he : fillA (fun i => places[i]?) ρ z parts.toList with
        | none => simp [he] at h
        | some l =>
          simp only [he, Option.some.injEq] at h; subst h
          obtain ⟨i, zv, hi, hzi, hzc, hzr, _⟩ := zeroA_sound (β := β) hz
          obtain ⟨us', hf, hr⟩ := fillA_sound hv hzr he
          refine .just (u := .agg us'.toArray) (fun w' => ?_) (.agg hr)
          have hzc' : zv.cells = z.toArray := by apply Array.ext'; simpa using hzc
          have hf' : Instr.fill (fun x => places[x]?) zv.cells (List.map (fun x => (x.fst, a.eval x.snd)) parts.toList) = some us'.toArray := by
            rw [hzc']; simpa using hf
          simp [Instr.build, run_underlying hu, run_zeroValue' hi hzi, Array.mapM_eq_mapM_toList, run_places w' _ _ hp, hf']
  · rename_i n e hu
    cases hz : zeroA P t with
    | none => simp [hz] at h
    | some z =>
      cases hp : P.info? e with
      | none => simp [hz, hp] at h
      | some ei =>
        simp only [hz, hp] at h
        cases he : fillA (fun i => some (i * ei.size, ei.size)) ρ z parts.toList with
        | none => simp [he] at h
        | some l =>
          simp only [he, Option.some.injEq] at h; subst h
          obtain ⟨i, zv, hi, hzi, hzc, hzr, _⟩ := zeroA_sound (β := β) hz
          obtain ⟨us', hf, hr⟩ := fillA_sound hv hzr he
          refine .just (u := .agg us'.toArray) (fun w' => ?_) (.agg hr)
          have hzc' : zv.cells = z.toArray := by apply Array.ext'; simpa using hzc
          have hf' : Instr.fill (fun i => some (i * ei.size, ei.size)) zv.cells (List.map (fun x => (x.fst, a.eval x.snd)) parts.toList) = some us'.toArray := by
            rw [hzc']; simpa using hf
          unfold Instr.build
          rw [Sem.run_bind, run_zeroValue' hi hzi, Result.andThen_ok, Sem.run_bind, run_underlying hu, Result.andThen_ok]
          simp only
          rw [Sem.run_bind, run_sizeOf' hp, Result.andThen_ok]
          simp [hf']
  · cases h

theorem OV_map {ρ : Ev} {a : Act} (hv : ∀ x, VR β (ρ x) (a.eval x)) (o : Option Operand) : OV β (o.map ρ) (o.map a.eval) := by
  cases o with
  | none => exact .none
  | some x => exact .some (hv x)

end
end Go.Am
