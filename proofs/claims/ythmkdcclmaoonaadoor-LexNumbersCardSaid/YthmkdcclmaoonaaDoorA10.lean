/- Operations that write: cells that are laid, maps, walks along strings. No conditions. -/
import Derived.Test.YthmkdcclmaoonaaDoorA9
import Derived.Laws.CopyRow
import Derived.Laws.RangeAny
set_option linter.unusedVariables false
set_option linter.unusedSimpArgs false
namespace Go.Am
open Go.RowKit
section
variable {P : Program} {R : Nat} {F : Nat → World → Prop} {β : Bm} {H : FW} {w : World} {q : Bool}

theorem one_rel {v u : Value} (h : VR β v u) (h1 : oneC v = true) : u.oneCell' = true := by
  cases h <;> first | rfl | cases h1

theorem ones_rel : ∀ {l us : List Value}, VRs β l us → l.all oneC = true → ∀ u ∈ us, u.oneCell' = true
  | _, _, .nil, _, u, hu => by cases hu
  | _, _, .cons h hs, h1, u, hu => by
    simp only [List.all_cons, Bool.and_eq_true] at h1
    rcases List.mem_cons.1 hu with rfl | hu
    · exact one_rel h h1.1
    · exact ones_rel hs h1.2 u hu

theorem lay_get (L us : List Value) (p j : Nat) (h : p + us.length ≤ L.length) :
    (L.take p ++ (us ++ L.drop (p + us.length)))[j]? = if j < p then L[j]? else if j < p + us.length then us[j - p]? else L[j]? := by
  have hl : (L.take p).length = p := by rw [List.length_take]; omega
  split
  · rename_i hj
    rw [List.getElem?_append_left (by omega), List.getElem?_take, if_pos hj]
  · rename_i hj
    rw [List.getElem?_append_right (by omega), hl]
    split
    · rename_i hk
      rw [List.getElem?_append_left (by omega)]
    · rename_i hk
      rw [List.getElem?_append_right (by omega), List.getElem?_drop]
      congr 1
      omega

theorem setC_length {l cs : List Value} {p : Nat} (h : p + cs.length ≤ l.length) : (setC l p cs).length = l.length := by
  unfold setC
  simp only [List.length_append, List.length_take, List.length_drop]
  omega

theorem storeCells_at (P : Program) (g o : Nat) (t : TypeId) (fz : Nat × Nat) : ∀ (vs : List Value) (i : Nat) (cur : Array Value) (w : World), w.heap[g]? = some (.cells cur t fz) → o + i + vs.length ≤ cur.size → (∀ j, o + i ≤ j → j < o + i + vs.length → ¬ (fz.1 ≤ j ∧ j < fz.2)) → (∀ v ∈ vs, v.oneCell' = true) →
    (storeCells ⟨g, o, none⟩ vs i).run P w = .ok () (w.setRow g (cur.toList.take (o + i) ++ vs ++ cur.toList.drop (o + i + vs.length)).toArray)
  | [], i, cur, w, hg, _, _, _ => by
    simp only [storeCells, List.append_nil, List.length_nil, Nat.add_zero, List.take_append_drop, Array.toArray_toList]
    rw [setRow_self w g cur t fz hg]
    rfl
  | v :: rest, i, cur, w, hg, hl, hz, h1 => by
    have hi : o + i < cur.size := by simp at hl; omega
    have hadd : (⟨g, o, none⟩ : Addr).add i = ⟨g, o + i, none⟩ := by unfold Addr.add; split <;> simp_all
    have hcell : w.cell? ⟨g, o + i, none⟩ = some cur[o + i] := by simp [World.cell?, hg, hi]
    have hfro : w.frozen? ⟨g, o + i, none⟩ = false := by
      have := hz (o + i) (Nat.le_refl _) (by simp)
      obtain ⟨lo, hi'⟩ := fz
      simp only [World.frozen?, hg]
      simpa using this
    have hst : (store ((⟨g, o, none⟩ : Addr).add i) v).run P w = .ok () (w.setRow g (cur.setIfInBounds (o + i) v)) := by
      rw [hadd, run_store P w _ v _ (h1 v (by simp)), hcell]
      simp [hfro, setCell_eq_setRow w g (o + i) cur t fz v hg]
    have ih := storeCells_at P g o t fz rest (i + 1) (cur.setIfInBounds (o + i) v) (w.setRow g (cur.setIfInBounds (o + i) v)) (setRow_heap w g cur _ t _ hg) (by simp at hl ⊢; omega) (fun j a b => hz j (by omega) (by simp at b ⊢; omega)) (fun x hx => h1 x (by simp [hx]))
    simp only [storeCells, Sem.run_bind, hst, Result.andThen_ok, ih, setRow_setRow]
    congr 3
    have e := list_seg_step cur.toList (o + i) v rest (by simp at hl ⊢; omega)
    simpa [Array.toList_setIfInBounds, Nat.add_assoc] using e

theorem lay_sound (h : WR P F β H w) (hF : ∀ R' w0, F R' w0 → R' ≤ R) {a : Addr} {l us : List Value} {H' : FW} {k : Pl} (hl : VRs β l us) (hk : β a.block = some k) (he : H.lay R a l = some H') :
    a.spot = none ∧ ∃ w', (storeCells ⟨k.b, k.lo + a.off, none⟩ us).run P w = .ok () w' ∧ WR P F β H' w' ∧ H'.next = H.next ∧ l.all oneC = true := by
  unfold FW.lay at he
  cases hs : a.spot with
  | some s => rw [hs] at he; cases he
  | none =>
    rw [hs] at he
    simp only at he
    obtain ⟨hg, he⟩ := some_of_cond he
    simp only [Bool.and_eq_true] at hg
    have hR := Nat.le_of_ble_eq_true hg.1
    cases hb : H.cells a.block with
    | none => rw [hb] at he; cases he
    | some p =>
      obtain ⟨c, e⟩ := p
      rw [hb] at he
      simp only at he
      obtain ⟨hg2, he⟩ := some_of_cond he
      simp only [Bool.and_eq_true] at hg2
      have hle := Nat.le_of_ble_eq_true hg2.1
      simp only [Option.some.injEq] at he
      subst he
      obtain ⟨k', cur, hk', hgg, ⟨fz, h1, hfz⟩, h2, h3⟩ := h.block hb
      rw [hk] at hk'
      simp only [Option.some.injEq] at hk'
      subst hk'
      have hlen : us.length = l.length := hl.length
      have hst := storeCells_at P k.b (k.lo + a.off) e fz us 0 cur w h1 (by omega) (fun j h1 h2 => hfz j (by omega) (by omega)) (ones_rel hl hg2.2)
      simp only [Nat.add_zero, List.append_assoc] at hst
      refine ⟨rfl, _, hst, h.write hgg rfl hg.2 (fun R' w0 h' => Nat.le_trans (hF R' w0 h') hR) hk (by simp) (fun b hb => setRow_other w k.b b _ hb) rfl rfl rfl ?_ rfl (fun c' e' hce => by cases hce; exact h.wide _ _ _ _ hgg hk), rfl, hg2.2⟩
      refine ⟨_, ⟨_, setRow_heap w k.b cur _ e fz h1, hfz⟩, ?_, fun i v hv => ?_⟩
      · rw [setC_length hle]
        refine ⟨h2.1, ?_⟩
        simp only [List.size_toArray, List.length_append, List.length_take, List.length_drop, Array.length_toList]
        omega
      · have hcl : a.off + l.length ≤ c.length := hle
        unfold setC at hv
        rw [lay_get c l a.off i hcl] at hv
        simp only [List.getElem?_toArray]
        rw [lay_get cur.toList us (k.lo + a.off) (k.lo + i) (by simp; omega)]
        split at hv
        · rename_i hi
          rw [if_pos (by omega)]
          obtain ⟨u, hu, hr⟩ := h3 i v hv
          exact ⟨u, by simpa using hu, hr⟩
        · rename_i hi
          rw [if_neg (by omega)]
          split at hv
          · rename_i hi2
            rw [if_pos (by omega)]
            obtain ⟨u, hu, hr⟩ := hl.get hv
            refine ⟨u, ?_, hr⟩
            rw [← hu]
            congr 1
            omega
          · rename_i hi2
            rw [if_neg (by omega)]
            obtain ⟨u, hu, hr⟩ := h3 i v hv
            exact ⟨u, by simpa using hu, hr⟩

theorem szOk_spec {t : TypeId} {n : Nat} (h : szOk P t n = true) : ∃ i, P.info? t = some i ∧ n = i.size := by
  unfold szOk at h
  cases hi : P.info? t with
  | none => rw [hi] at h; cases h
  | some i => rw [hi] at h; exact ⟨i, rfl, Nat.eq_of_beq_eq_true h⟩

theorem storeA_sound (h : WR P F β H w) (hF : ∀ R' w0, F R' w0 → R' ≤ R) {t : TypeId} {x v x' v' : Value} {H' : FW} (hx : VR β x x') (hv : VR β v v') (he : storeA P R t x v H = some H') :
    ∃ w', (Instr.storeAt t x' v').run P w = .ok () w' ∧ WR P F β H' w' := by
  unfold storeA at he
  split at he
  · rename_i a
    obtain ⟨hs, he⟩ := some_of_cond he
    obtain ⟨k, hsp, hk, rfl⟩ := hx.ptr_inv
    obtain ⟨i, hi, hsz⟩ := szOk_spec hs
    have hnb : nbot v = true := by
      cases v with
      | float k b =>
        exfalso
        unfold FW.lay at he
        rw [hsp] at he
        simp only at he
        obtain ⟨_, he⟩ := some_of_cond he
        split at he
        · obtain ⟨h2, _⟩ := some_of_cond he
          simp only [Bool.and_eq_true] at h2
          cases h2.2
        · cases he
      | _ => rfl
    have hr := cellsV_rel hv hnb
    obtain ⟨_, w', hrun, hw, _⟩ := lay_sound (P := P) h hF hr hk he
    refine ⟨w', ?_, hw⟩
    have hlen := hr.length
    unfold Instr.storeAt Instr.sureAddr storeVar
    simp only [pure_bind]
    rw [Sem.run_bind, run_sizeOf' hi, Result.andThen_ok, if_neg]
    · exact hrun
    · rw [← hsz]; simpa using hlen
  · cases he

/-! Maps, walks along strings. -/

def putObj (w : World) (r : Nat) (o : Go.Obj) : World := { w with heap := w.heap.setIfInBounds r o }

theorem run_getMap {r : Nat} {es : Array MapEntry} {c : Nat} (h : w.heap[r]? = some (.map es c)) : (getObj r).run P w = .ok (.map es c) w := by
  simp [getObj, Sem.run, h]

theorem run_setMap {r : Nat} {es : Array MapEntry} {c : Nat} {o' : Go.Obj} (h : w.heap[r]? = some (.map es c)) : (setObj r o').run P w = .ok () (putObj w r o') := by
  simp [setObj, Sem.run, h, putObj]

theorem run_getIter {r : Nat} {s : ByteArray} {c : Nat} (h : w.heap[r]? = some (.stringIter s c)) : (getObj r).run P w = .ok (.stringIter s c) w := by
  simp [getObj, Sem.run, h]

theorem run_setIter {r : Nat} {s : ByteArray} {c : Nat} {o' : Go.Obj} (h : w.heap[r]? = some (.stringIter s c)) : (setObj r o').run P w = .ok () (putObj w r o') := by
  simp [setObj, Sem.run, h, putObj]

theorem putObj_same {r : Nat} {o o' : Go.Obj} (h : w.heap[r]? = some o) : (putObj w r o').heap[r]? = some o' := by
  have := (Array.getElem?_eq_some_iff.1 h).1
  simp [putObj, Array.getElem?_setIfInBounds, this]

theorem putObj_other {r b : Nat} {o' : Go.Obj} (h : b ≠ r) : (putObj w r o').heap[b]? = w.heap[b]? := by
  simp [putObj, Array.getElem?_setIfInBounds, Ne.symm h]

theorem WR.putObj {r : Nat} {k : Pl} {x x' : AObj} {o' : Go.Obj} (h : WR P F β H w) (hg : H.heap.get r = some x) (hl : x.live = true) (ho : okN r = true) (hR : ∀ R w0, F R w0 → R ≤ r) (hk : β r = some k)
    (hx : OR β (putObj w k.b o') k x') (hl' : x'.live = true) (hnc : ∀ c e, x' ≠ .cells c e) : WR P F β (H.put r x') (putObj w k.b o') :=
  h.write hg hl ho hR hk (by simp [Am.putObj]) (fun _ hb => putObj_other hb) rfl rfl rfl hx hl' (fun c e h => absurd h (hnc c e))

theorem findA_spec {kd : TypeDesc} {k : Value} : ∀ {es : List MapEntry} {i j : Nat} {v : Value}, findA kd k es i = some (some (j, v)) → ∃ n e, j = i + n ∧ es[n]? = some e ∧ keyA kd k e.key = some true
  | [], i, j, v, h => by simp [findA] at h
  | e :: es, i, j, v, h => by
    unfold findA at h
    split at h
    · rename_i hka
      simp only [Option.some.injEq, Prod.mk.injEq] at h
      exact ⟨0, e, by omega, rfl, hka⟩
    · obtain ⟨n, e', hj, he, hk⟩ := findA_spec h
      exact ⟨n + 1, e', by omega, by simpa using he, hk⟩
    · cases h

theorem keyA_same {kd : TypeDesc} {k e k' e' : Value} (hk : VR β k k') (he : VR β e e') (h : keyA kd k e = some true) : Instr.sameBits 10000 e' k' = true := by
  show Instr.sameBits (9999 + 1) e' k' = true
  unfold keyA at h
  split at h
  · cases hk; cases he
    have h2 := some_of_cond h
    clear h
    obtain ⟨hkk, h⟩ := h2
    have hkk := of_decide_eq_true hkk
    subst hkk
    simp only [Option.some.injEq, decide_eq_true_eq] at h; subst h
    simp [Instr.sameBits]
  · cases hk; cases he
    rename_i a b
    simp only [Option.some.injEq, beq_iff_eq] at h
    have : a = b := by
      apply ByteArray.ext
      exact Array.ext' h
    subst this
    simp only [Instr.sameBits]
    rw [beq_toListBytes]
    simp
  · cases hk; cases he
    simp only [Option.some.injEq, beq_iff_eq] at h; subst h
    simp [Instr.sameBits]
  · cases h

theorem ERs.get {es es' : List MapEntry} (h : ERs β es es') : ∀ {i : Nat} {e : MapEntry}, es[i]? = some e → ∃ e', es'[i]? = some e' ∧ ER β e e' := by
  induction h with
  | nil => intro i e he; simp at he
  | cons h hs ih =>
    intro i e he
    cases i with
    | zero => simp only [List.getElem?_cons_zero, Option.some.injEq] at he; subst he; exact ⟨_, rfl, h⟩
    | succ i => simp only [List.getElem?_cons_succ] at he ⊢; exact ih he

theorem ERs.append {es es' fs fs' : List MapEntry} (h : ERs β es es') (k : ERs β fs fs') : ERs β (es ++ fs) (es' ++ fs') := by
  induction h with
  | nil => exact k
  | cons h hs ih => exact .cons h ih

theorem setEntry_rel {es es' : List MapEntry} (h : ERs β es es') {k v k' v' : Value} (hk : VR β k k') (hv : VR β v v') : ∀ (i : Nat),
    ERs β (setEntry es i k v) (es'.modify i fun e => { e with key := k', val := v' }) := by
  induction h with
  | nil => intro i; simp only [setEntry, List.modify_nil]; exact .nil
  | cons h hs ih =>
    intro i
    cases i with
    | zero => simp only [setEntry, List.modify_zero_cons]; exact .cons ⟨hk, hv, h.born⟩ hs
    | succ i => simp only [setEntry, List.modify_succ_cons]; exact .cons h (ih i)

theorem mapUpdateA_sound (h : WR P F β H w) (hF : ∀ R' w0, F R' w0 → R' ≤ R) {t : TypeId} {m k v m' k' v' : Value} {H' : FW} (hm : VR β m m') (hk : VR β k k') (hv : VR β v v') (he : mapUpdateA P R t m k v H = some H') :
    ∃ w', (Instr.mapUpdate t m' k' v').run P w = .ok () w' ∧ WR P F β H' w' ∧ H'.next = H.next := by
  unfold mapUpdateA at he
  split at he
  · rename_i kt e r hu
    obtain ⟨hg, he⟩ := some_of_cond he
    simp only [Bool.and_eq_true] at hg
    have hR := Nat.le_of_ble_eq_true hg.1
    cases hm with
    | map hkr =>
      rename_i pl
      split at he
      · rename_i kd es clock hkd hmo
        obtain ⟨hp, he⟩ := some_of_cond he
        obtain ⟨es', hh, hes, hgr⟩ := h.mapOf hkr hmo
        cases hf : findA kd k es 0 with
        | none => rw [hf] at he; cases he
        | some r0 =>
          rw [hf] at he
          obtain ⟨r', hfn, hfr⟩ := findA_sound hk hes hf
          have hrun : ∀ (s : Option (Nat × Value) → Sem Unit), (do
              let r ← Instr.findKey kt k' es'.toList
              s r : Sem Unit).run P w = (s r').run P w := by
            intro s
            rw [Sem.run_bind, run_findKey hkd hfn, Result.andThen_ok]
          cases r0 with
          | none =>
            cases hfr
            simp only [Option.some.injEq] at he
            subst he
            refine ⟨_, ?_, h.putObj (o' := .map (es'.push ⟨k', v', clock⟩) (clock + 1)) hgr rfl hg.2 (fun R' w0 h' => Nat.le_trans (hF R' w0 h') hR) hkr ⟨es'.push ⟨k', v', clock⟩, putObj_same hh, ?_⟩ rfl (by simp), rfl⟩
            · unfold Instr.mapUpdate
              rw [Sem.run_bind, run_underlying hu, Result.andThen_ok]
              simp only
              rw [Sem.run_bind, run_getMap hh, Result.andThen_ok]
              simp only
              rw [Sem.run_bind, checkKey_plain hkd hp hk, Result.andThen_ok, hrun]
              exact run_setMap hh
            · rw [Array.toList_push]
              exact hes.append (.cons ⟨hk, hv, rfl⟩ .nil)
          | some p =>
            obtain ⟨i, pv⟩ := p
            cases hfr with
            | some hvv =>
              simp only [Option.some.injEq] at he
              subst he
              obtain ⟨n, e0, hn, he0, hka⟩ := findA_spec hf
              have hn : i = n := by omega
              subst hn
              obtain ⟨e0', he0', her⟩ := hes.get he0
              have hsb := keyA_same hk her.key hka
              refine ⟨_, ?_, h.putObj (o' := .map (es'.modify i fun e => { e with key := k', val := v' }) clock) hgr rfl hg.2 (fun R' w0 h' => Nat.le_trans (hF R' w0 h') hR) hkr ⟨es'.modify i fun e => { e with key := k', val := v' }, putObj_same hh, ?_⟩ rfl (by simp), rfl⟩
              · unfold Instr.mapUpdate
                rw [Sem.run_bind, run_underlying hu, Result.andThen_ok]
                simp only
                rw [Sem.run_bind, run_getMap hh, Result.andThen_ok]
                simp only
                rw [Sem.run_bind, checkKey_plain hkd hp hk, Result.andThen_ok, hrun]
                simp only
                have hget : es'[i]? = some e0' := by simpa using he0'
                rw [hget]
                unfold Instr.keyThatStays
                simp only [Option.map_some, Option.getD_some, hsb, if_true]
                rw [Sem.run_bind, Sem.run_pure, Result.andThen_ok]
                exact run_setMap hh
              · rw [Array.toList_modify]
                exact setEntry_rel hes hk hv i
      · cases he
  · cases he

theorem nextA_sound (h : WR P F β H w) (hF : ∀ R' w0, F R' w0 → R' ≤ R) {it it' v : Value} {s : Bool} (ty : TypeId) {H' : FW} (hit : VR β it it') (he : nextA R it s H = some (v, H')) :
    ∃ u w', (Instr.next it' s ty).run P w = .ok u w' ∧ VR β v u ∧ WR P F β H' w' ∧ H'.next = H.next := by
  unfold nextA at he
  split at he
  · rename_i r
    split at he
    · rename_i bs pos hgr
      obtain ⟨hg, he⟩ := some_of_cond he
      simp only [Bool.and_eq_true] at hg
      have hR := Nat.le_of_ble_eq_true hg.1
      cases hit with
      | ptr hkr =>
        rename_i pl
        obtain ⟨k2, hk2, hlo, hh⟩ := h.objs _ _ hgr
        rw [hkr] at hk2
        simp only [Option.some.injEq] at hk2
        subst hk2
        cases hb : Nat.blt pos bs.data.toList.length with
        | true =>
          rw [hb, cond_true] at he
          simp only [Option.some.injEq, Prod.mk.injEq] at he
          obtain ⟨rfl, rfl⟩ := he
          have hlt : pos < bs.size := by simpa [Nat.blt_eq] using hb
          refine ⟨.tuple #[.bool true, goInt pos, .int .i32 (Utf8.decode bs pos).1], _, ?_, ?_, h.putObj (o' := .stringIter bs (pos + (Utf8.decode bs pos).2)) hgr rfl hg.2 (fun R' w0 h' => Nat.le_trans (hF R' w0 h') hR) hkr ⟨hlo, putObj_same hh⟩ rfl (by simp), rfl⟩
          · unfold Instr.next
            simp only [hlo, Nat.add_zero]
            rw [Sem.run_bind, run_getIter hh, Result.andThen_ok]
            simp only [hlt, if_true]
            rw [Sem.run_bind, run_setIter hh, Result.andThen_ok]
            rfl
          · exact .tuple (.cons (.bool _) (.cons (.int _ _) (.cons (.int _ _) .nil)))
        | false =>
          rw [hb, cond_false] at he
          simp only [Option.some.injEq, Prod.mk.injEq] at he
          obtain ⟨rfl, rfl⟩ := he
          have hlt : ¬ pos < bs.size := by
            have : ¬ pos < bs.data.toList.length := by
              intro hc
              rw [← Nat.blt_eq] at hc
              rw [hc] at hb; cases hb
            exact this
          refine ⟨.tuple #[.bool false], w, ?_, .tuple (.cons (.bool _) .nil), h, rfl⟩
          unfold Instr.next
          simp only [hlo, Nat.add_zero]
          rw [Sem.run_bind, run_getIter hh, Result.andThen_ok]
          simp only [hlt, if_false]
          rfl
    · cases he
  · cases he

end
end Go.Am
