/- Operations that write: cells that are laid, maps, walks along strings. Operations that write: append, copy, clear. One operation: what the store's run says is true of the model's. One operation in its frame. Regions whose order is open: what only looks may be taken first. Regions, by the store's run. Code and calls, by the store's run. From a call by the store's run to what a row asks: the frame is all that there was. No conditions. -/
import Derived.Test.YtjkhpjnhdijchaaAa
import Derived.Laws.CopyRow
import Derived.Laws.RangeAny
import Derived.Laws.Append
import Derived.Laws.IdiomStrings
import Derived.Tactics
import Derived.Orders
import Derived.LoopN
import Derived.Laws.Externs
import Derived.WalkKit
import Derived.ProofKit
set_option linter.unusedVariables false
set_option linter.unusedSimpArgs false
namespace Go.Am
open Go.RowKit
section
variable {P : Program} {R : Nat} {F : Nat → World → Prop} {β : Bm} {H : FW} {w : World} {q : Bool}

theorem one_rel {v u : Value} (h : VR β v u) (h1 : oneC v = true) : u.oneCell' = true := by
  cases h <;> first | rfl | cases h1

theorem ones_rel : ∀ {l us : List Value}, VRs β l us → l.all oneC = true → ∀ u ∈ us, u.oneCell' = true
  | _, _, .nil, _, u, hu => by cases hu
  | _, _, .cons h hs, h1, u, hu => by
    simp only [List.all_cons, Bool.and_eq_true] at h1
    rcases List.mem_cons.1 hu with rfl | hu
    · exact one_rel h h1.1
    · exact ones_rel hs h1.2 u hu

theorem lay_get (L us : List Value) (p j : Nat) (h : p + us.length ≤ L.length) :
    (L.take p ++ (us ++ L.drop (p + us.length)))[j]? = if j < p then L[j]? else if j < p + us.length then us[j - p]? else L[j]? := by
  have hl : (L.take p).length = p := by rw [List.length_take]; omega
  split
  · rename_i hj
    rw [List.getElem?_append_left (by omega), List.getElem?_take, if_pos hj]
  · rename_i hj
    rw [List.getElem?_append_right (by omega), hl]
    split
    · rename_i hk
      rw [List.getElem?_append_left (by omega)]
    · rename_i hk
      rw [List.getElem?_append_right (by omega), List.getElem?_drop]
      congr 1
      omega

theorem setC_length {l cs : List Value} {p : Nat} (h : p + cs.length ≤ l.length) : (setC l p cs).length = l.length := by
  unfold setC
  simp only [List.length_append, List.length_take, List.length_drop]
  omega

theorem storeCells_at (P : Program) (g o : Nat) (t : TypeId) (fz : Nat × Nat) : ∀ (vs : List Value) (i : Nat) (cur : Array Value) (w : World), w.heap[g]? = some (.cells cur t fz) → o + i + vs.length ≤ cur.size → (∀ j, o + i ≤ j → j < o + i + vs.length → ¬ (fz.1 ≤ j ∧ j < fz.2)) → (∀ v ∈ vs, v.oneCell' = true) →
    (storeCells ⟨g, o, none⟩ vs i).run P w = .ok () (w.setRow g (cur.toList.take (o + i) ++ vs ++ cur.toList.drop (o + i + vs.length)).toArray)
  | [], i, cur, w, hg, _, _, _ => by
    simp only [storeCells, List.append_nil, List.length_nil, Nat.add_zero, List.take_append_drop, Array.toArray_toList]
    rw [setRow_self w g cur t fz hg]
    rfl
  | v :: rest, i, cur, w, hg, hl, hz, h1 => by
    have hi : o + i < cur.size := by simp at hl; omega
    have hadd : (⟨g, o, none⟩ : Addr).add i = ⟨g, o + i, none⟩ := by unfold Addr.add; split <;> simp_all
    have hcell : w.cell? ⟨g, o + i, none⟩ = some cur[o + i] := by simp [World.cell?, hg, hi]
    have hfro : w.frozen? ⟨g, o + i, none⟩ = false := by
      have := hz (o + i) (Nat.le_refl _) (by simp)
      obtain ⟨lo, hi'⟩ := fz
      simp only [World.frozen?, hg]
      simpa using this
    have hst : (store ((⟨g, o, none⟩ : Addr).add i) v).run P w = .ok () (w.setRow g (cur.setIfInBounds (o + i) v)) := by
      rw [hadd, run_store P w _ v _ (h1 v (by simp)), hcell]
      simp [hfro, setCell_eq_setRow w g (o + i) cur t fz v hg]
    have ih := storeCells_at P g o t fz rest (i + 1) (cur.setIfInBounds (o + i) v) (w.setRow g (cur.setIfInBounds (o + i) v)) (setRow_heap w g cur _ t _ hg) (by simp at hl ⊢; omega) (fun j a b => hz j (by omega) (by simp at b ⊢; omega)) (fun x hx => h1 x (by simp [hx]))
    simp only [storeCells, Sem.run_bind, hst, Result.andThen_ok, ih, setRow_setRow]
    congr 3
    have e := list_seg_step cur.toList (o + i) v rest (by simp at hl ⊢; omega)
    simpa [Array.toList_setIfInBounds, Nat.add_assoc] using e

theorem lay_sound (h : WR P F β H w) (hF : ∀ R' w0, F R' w0 → R' ≤ R) {a : Addr} {l us : List Value} {H' : FW} {k : Pl} (hl : VRs β l us) (hk : β a.block = some k) (he : H.lay R a l = some H') :
    a.spot = none ∧ ∃ w', (storeCells ⟨k.b, k.lo + a.off, none⟩ us).run P w = .ok () w' ∧ WR P F β H' w' ∧ H'.next = H.next ∧ l.all oneC = true := by
  unfold FW.lay at he
  cases hs : a.spot with
  | some s => rw [hs] at he; cases he
  | none =>
    rw [hs] at he
    simp only at he
    obtain ⟨hg, he⟩ := some_of_cond he
    simp only [Bool.and_eq_true] at hg
    have hR := Nat.le_of_ble_eq_true hg.1
    cases hb : H.cells a.block with
    | none => rw [hb] at he; cases he
    | some p =>
      obtain ⟨c, e⟩ := p
      rw [hb] at he
      simp only at he
      obtain ⟨hg2, he⟩ := some_of_cond he
      simp only [Bool.and_eq_true] at hg2
      have hle := Nat.le_of_ble_eq_true hg2.1
      simp only [Option.some.injEq] at he
      subst he
      obtain ⟨k', cur, hk', hgg, ⟨fz, h1, hfz⟩, h2, h3⟩ := h.block hb
      rw [hk] at hk'
      simp only [Option.some.injEq] at hk'
      subst hk'
      have hlen : us.length = l.length := hl.length
      have hst := storeCells_at P k.b (k.lo + a.off) e fz us 0 cur w h1 (by omega) (fun j h1 h2 => hfz j (by omega) (by omega)) (ones_rel hl hg2.2)
      simp only [Nat.add_zero, List.append_assoc] at hst
      refine ⟨rfl, _, hst, h.write hgg rfl hg.2 (fun R' w0 h' => Nat.le_trans (hF R' w0 h') hR) hk (by simp) (fun b hb => setRow_other w k.b b _ hb) rfl rfl rfl ?_ rfl (fun c' e' hce => by cases hce; exact h.wide _ _ _ _ hgg hk), rfl, hg2.2⟩
      refine ⟨_, ⟨_, setRow_heap w k.b cur _ e fz h1, hfz⟩, ?_, fun i v hv => ?_⟩
      · rw [setC_length hle]
        refine ⟨h2.1, ?_⟩
        simp only [List.size_toArray, List.length_append, List.length_take, List.length_drop, Array.length_toList]
        omega
      · have hcl : a.off + l.length ≤ c.length := hle
        unfold setC at hv
        rw [lay_get c l a.off i hcl] at hv
        simp only [List.getElem?_toArray]
        rw [lay_get cur.toList us (k.lo + a.off) (k.lo + i) (by simp; omega)]
        split at hv
        · rename_i hi
          rw [if_pos (by omega)]
          obtain ⟨u, hu, hr⟩ := h3 i v hv
          exact ⟨u, by simpa using hu, hr⟩
        · rename_i hi
          rw [if_neg (by omega)]
          split at hv
          · rename_i hi2
            rw [if_pos (by omega)]
            obtain ⟨u, hu, hr⟩ := hl.get hv
            refine ⟨u, ?_, hr⟩
            rw [← hu]
            congr 1
            omega
          · rename_i hi2
            rw [if_neg (by omega)]
            obtain ⟨u, hu, hr⟩ := h3 i v hv
            exact ⟨u, by simpa using hu, hr⟩

theorem szOk_spec {t : TypeId} {n : Nat} (h : szOk P t n = true) : ∃ i, P.info? t = some i ∧ n = i.size := by
  unfold szOk at h
  cases hi : P.info? t with
  | none => rw [hi] at h; cases h
  | some i => rw [hi] at h; exact ⟨i, rfl, Nat.eq_of_beq_eq_true h⟩

theorem storeA_sound (h : WR P F β H w) (hF : ∀ R' w0, F R' w0 → R' ≤ R) {t : TypeId} {x v x' v' : Value} {H' : FW} (hx : VR β x x') (hv : VR β v v') (he : storeA P R t x v H = some H') :
    ∃ w', (Instr.storeAt t x' v').run P w = .ok () w' ∧ WR P F β H' w' := by
  unfold storeA at he
  split at he
  · rename_i a
    obtain ⟨hs, he⟩ := some_of_cond he
    obtain ⟨k, hsp, hk, rfl⟩ := hx.ptr_inv
    obtain ⟨i, hi, hsz⟩ := szOk_spec hs
    have hnb : nbot v = true := by
      cases v with
      | float k b =>
        exfalso
        unfold FW.lay at he
        rw [hsp] at he
        simp only at he
        obtain ⟨_, he⟩ := some_of_cond he
        split at he
        · obtain ⟨h2, _⟩ := some_of_cond he
          simp only [Bool.and_eq_true] at h2
          cases h2.2
        · cases he
      | _ => rfl
    have hr := cellsV_rel hv hnb
    obtain ⟨_, w', hrun, hw, _⟩ := lay_sound (P := P) h hF hr hk he
    refine ⟨w', ?_, hw⟩
    have hlen := hr.length
    unfold Instr.storeAt Instr.sureAddr storeVar
    simp only [pure_bind]
    rw [Sem.run_bind, run_sizeOf' hi, Result.andThen_ok, if_neg]
    · exact hrun
    · rw [← hsz]; simpa using hlen
  · cases he

/-! Maps, walks along strings. -/

def putObj (w : World) (r : Nat) (o : Go.Obj) : World := { w with heap := w.heap.setIfInBounds r o }

theorem run_getMap {r : Nat} {es : Array MapEntry} {c : Nat} (h : w.heap[r]? = some (.map es c)) : (getObj r).run P w = .ok (.map es c) w := by
  simp [getObj, Sem.run, h]

theorem run_setMap {r : Nat} {es : Array MapEntry} {c : Nat} {o' : Go.Obj} (h : w.heap[r]? = some (.map es c)) : (setObj r o').run P w = .ok () (putObj w r o') := by
  simp [setObj, Sem.run, h, putObj]

theorem run_getIter {r : Nat} {s : ByteArray} {c : Nat} (h : w.heap[r]? = some (.stringIter s c)) : (getObj r).run P w = .ok (.stringIter s c) w := by
  simp [getObj, Sem.run, h]

theorem run_setIter {r : Nat} {s : ByteArray} {c : Nat} {o' : Go.Obj} (h : w.heap[r]? = some (.stringIter s c)) : (setObj r o').run P w = .ok () (putObj w r o') := by
  simp [setObj, Sem.run, h, putObj]

theorem putObj_same {r : Nat} {o o' : Go.Obj} (h : w.heap[r]? = some o) : (putObj w r o').heap[r]? = some o' := by
  have := (Array.getElem?_eq_some_iff.1 h).1
  simp [putObj, Array.getElem?_setIfInBounds, this]

theorem putObj_other {r b : Nat} {o' : Go.Obj} (h : b ≠ r) : (putObj w r o').heap[b]? = w.heap[b]? := by
  simp [putObj, Array.getElem?_setIfInBounds, Ne.symm h]

theorem WR.putObj {r : Nat} {k : Pl} {x x' : AObj} {o' : Go.Obj} (h : WR P F β H w) (hg : H.heap.get r = some x) (hl : x.live = true) (ho : okN r = true) (hR : ∀ R w0, F R w0 → R ≤ r) (hk : β r = some k)
    (hx : OR β (putObj w k.b o') k x') (hl' : x'.live = true) (hnc : ∀ c e, x' ≠ .cells c e) : WR P F β (H.put r x') (putObj w k.b o') :=
  h.write hg hl ho hR hk (by simp [Am.putObj]) (fun _ hb => putObj_other hb) rfl rfl rfl hx hl' (fun c e h => absurd h (hnc c e))

theorem findA_spec {kd : TypeDesc} {k : Value} : ∀ {es : List MapEntry} {i j : Nat} {v : Value}, findA kd k es i = some (some (j, v)) → ∃ n e, j = i + n ∧ es[n]? = some e ∧ keyA kd k e.key = some true
  | [], i, j, v, h => by simp [findA] at h
  | e :: es, i, j, v, h => by
    unfold findA at h
    split at h
    · rename_i hka
      simp only [Option.some.injEq, Prod.mk.injEq] at h
      exact ⟨0, e, by omega, rfl, hka⟩
    · obtain ⟨n, e', hj, he, hk⟩ := findA_spec h
      exact ⟨n + 1, e', by omega, by simpa using he, hk⟩
    · cases h

theorem keyA_same {kd : TypeDesc} {k e k' e' : Value} (hk : VR β k k') (he : VR β e e') (h : keyA kd k e = some true) : Instr.sameBits 10000 e' k' = true := by
  show Instr.sameBits (9999 + 1) e' k' = true
  unfold keyA at h
  split at h
  · cases hk; cases he
    have h2 := some_of_cond h
    clear h
    obtain ⟨hkk, h⟩ := h2
    have hkk := of_decide_eq_true hkk
    subst hkk
    simp only [Option.some.injEq, decide_eq_true_eq] at h; subst h
    simp [Instr.sameBits]
  · cases hk; cases he
    rename_i a b
    simp only [Option.some.injEq, beq_iff_eq] at h
    have : a = b := by
      apply ByteArray.ext
      exact Array.ext' h
    subst this
    simp only [Instr.sameBits]
    rw [beq_toListBytes]
    simp
  · cases hk; cases he
    simp only [Option.some.injEq, beq_iff_eq] at h; subst h
    simp [Instr.sameBits]
  · cases h

theorem ERs.get {es es' : List MapEntry} (h : ERs β es es') : ∀ {i : Nat} {e : MapEntry}, es[i]? = some e → ∃ e', es'[i]? = some e' ∧ ER β e e' := by
  induction h with
  | nil => intro i e he; simp at he
  | cons h hs ih =>
    intro i e he
    cases i with
    | zero => simp only [List.getElem?_cons_zero, Option.some.injEq] at he; subst he; exact ⟨_, rfl, h⟩
    | succ i => simp only [List.getElem?_cons_succ] at he ⊢; exact ih he

theorem ERs.append {es es' fs fs' : List MapEntry} (h : ERs β es es') (k : ERs β fs fs') : ERs β (es ++ fs) (es' ++ fs') := by
  induction h with
  | nil => exact k
  | cons h hs ih => exact .cons h ih

theorem setEntry_rel {es es' : List MapEntry} (h : ERs β es es') {k v k' v' : Value} (hk : VR β k k') (hv : VR β v v') : ∀ (i : Nat),
    ERs β (setEntry es i k v) (es'.modify i fun e => { e with key := k', val := v' }) := by
  induction h with
  | nil => intro i; simp only [setEntry, List.modify_nil]; exact .nil
  | cons h hs ih =>
    intro i
    cases i with
    | zero => simp only [setEntry, List.modify_zero_cons]; exact .cons ⟨hk, hv, h.born⟩ hs
    | succ i => simp only [setEntry, List.modify_succ_cons]; exact .cons h (ih i)

theorem mapUpdateA_sound (h : WR P F β H w) (hF : ∀ R' w0, F R' w0 → R' ≤ R) {t : TypeId} {m k v m' k' v' : Value} {H' : FW} (hm : VR β m m') (hk : VR β k k') (hv : VR β v v') (he : mapUpdateA P R t m k v H = some H') :
    ∃ w', (Instr.mapUpdate t m' k' v').run P w = .ok () w' ∧ WR P F β H' w' ∧ H'.next = H.next := by
  unfold mapUpdateA at he
  split at he
  · rename_i kt e r hu
    obtain ⟨hg, he⟩ := some_of_cond he
    simp only [Bool.and_eq_true] at hg
    have hR := Nat.le_of_ble_eq_true hg.1
    cases hm with
    | map hkr =>
      rename_i pl
      split at he
      · rename_i kd es clock hkd hmo
        obtain ⟨hp, he⟩ := some_of_cond he
        obtain ⟨es', hh, hes, hgr⟩ := h.mapOf hkr hmo
        cases hf : findA kd k es 0 with
        | none => rw [hf] at he; cases he
        | some r0 =>
          rw [hf] at he
          obtain ⟨r', hfn, hfr⟩ := findA_sound hk hes hf
          have hrun : ∀ (s : Option (Nat × Value) → Sem Unit), (do
              let r ← Instr.findKey kt k' es'.toList
              s r : Sem Unit).run P w = (s r').run P w := by
            intro s
            rw [Sem.run_bind, run_findKey hkd hfn, Result.andThen_ok]
          cases r0 with
          | none =>
            cases hfr
            simp only [Option.some.injEq] at he
            subst he
            refine ⟨_, ?_, h.putObj (o' := .map (es'.push ⟨k', v', clock⟩) (clock + 1)) hgr rfl hg.2 (fun R' w0 h' => Nat.le_trans (hF R' w0 h') hR) hkr ⟨es'.push ⟨k', v', clock⟩, putObj_same hh, ?_⟩ rfl (by simp), rfl⟩
            · unfold Instr.mapUpdate
              rw [Sem.run_bind, run_underlying hu, Result.andThen_ok]
              simp only
              rw [Sem.run_bind, run_getMap hh, Result.andThen_ok]
              simp only
              rw [Sem.run_bind, checkKey_plain hkd hp hk, Result.andThen_ok, hrun]
              exact run_setMap hh
            · rw [Array.toList_push]
              exact hes.append (.cons ⟨hk, hv, rfl⟩ .nil)
          | some p =>
            obtain ⟨i, pv⟩ := p
            cases hfr with
            | some hvv =>
              simp only [Option.some.injEq] at he
              subst he
              obtain ⟨n, e0, hn, he0, hka⟩ := findA_spec hf
              have hn : i = n := by omega
              subst hn
              obtain ⟨e0', he0', her⟩ := hes.get he0
              have hsb := keyA_same hk her.key hka
              refine ⟨_, ?_, h.putObj (o' := .map (es'.modify i fun e => { e with key := k', val := v' }) clock) hgr rfl hg.2 (fun R' w0 h' => Nat.le_trans (hF R' w0 h') hR) hkr ⟨es'.modify i fun e => { e with key := k', val := v' }, putObj_same hh, ?_⟩ rfl (by simp), rfl⟩
              · unfold Instr.mapUpdate
                rw [Sem.run_bind, run_underlying hu, Result.andThen_ok]
                simp only
                rw [Sem.run_bind, run_getMap hh, Result.andThen_ok]
                simp only
                rw [Sem.run_bind, checkKey_plain hkd hp hk, Result.andThen_ok, hrun]
                simp only
                have hget : es'[i]? = some e0' := by simpa using he0'
                rw [hget]
                unfold Instr.keyThatStays
                simp only [Option.map_some, Option.getD_some, hsb, if_true]
                rw [Sem.run_bind, Sem.run_pure, Result.andThen_ok]
                exact run_setMap hh
              · rw [Array.toList_modify]
                exact setEntry_rel hes hk hv i
      · cases he
  · cases he

theorem nextA_sound (h : WR P F β H w) (hF : ∀ R' w0, F R' w0 → R' ≤ R) {it it' v : Value} {s : Bool} (ty : TypeId) {H' : FW} (hit : VR β it it') (he : nextA R it s H = some (v, H')) :
    ∃ u w', (Instr.next it' s ty).run P w = .ok u w' ∧ VR β v u ∧ WR P F β H' w' ∧ H'.next = H.next := by
  unfold nextA at he
  split at he
  · rename_i r
    split at he
    · rename_i bs pos hgr
      obtain ⟨hg, he⟩ := some_of_cond he
      simp only [Bool.and_eq_true] at hg
      have hR := Nat.le_of_ble_eq_true hg.1
      cases hit with
      | ptr hkr =>
        rename_i pl
        obtain ⟨k2, hk2, hlo, hh⟩ := h.objs _ _ hgr
        rw [hkr] at hk2
        simp only [Option.some.injEq] at hk2
        subst hk2
        cases hb : Nat.blt pos bs.data.toList.length with
        | true =>
          rw [hb, cond_true] at he
          simp only [Option.some.injEq, Prod.mk.injEq] at he
          obtain ⟨rfl, rfl⟩ := he
          have hlt : pos < bs.size := by simpa [Nat.blt_eq] using hb
          refine ⟨.tuple #[.bool true, goInt pos, .int .i32 (Utf8.decode bs pos).1], _, ?_, ?_, h.putObj (o' := .stringIter bs (pos + (Utf8.decode bs pos).2)) hgr rfl hg.2 (fun R' w0 h' => Nat.le_trans (hF R' w0 h') hR) hkr ⟨hlo, putObj_same hh⟩ rfl (by simp), rfl⟩
          · unfold Instr.next
            simp only [hlo, Nat.add_zero]
            rw [Sem.run_bind, run_getIter hh, Result.andThen_ok]
            simp only [hlt, if_true]
            rw [Sem.run_bind, run_setIter hh, Result.andThen_ok]
            rfl
          · exact .tuple (.cons (.bool _) (.cons (.int _ _) (.cons (.int _ _) .nil)))
        | false =>
          rw [hb, cond_false] at he
          simp only [Option.some.injEq, Prod.mk.injEq] at he
          obtain ⟨rfl, rfl⟩ := he
          have hlt : ¬ pos < bs.size := by
            have : ¬ pos < bs.data.toList.length := by
              intro hc
              rw [← Nat.blt_eq] at hc
              rw [hc] at hb; cases hb
            exact this
          refine ⟨.tuple #[.bool false], w, ?_, .tuple (.cons (.bool _) .nil), h, rfl⟩
          unfold Instr.next
          simp only [hlo, Nat.add_zero]
          rw [Sem.run_bind, run_getIter hh, Result.andThen_ok]
          simp only [hlt, if_false]
          rfl
    · cases he
  · cases he

end
end Go.Am

set_option linter.unusedVariables false
set_option linter.unusedSimpArgs false
namespace Go.Am
open Go.RowKit
section
variable {P : Program} {R : Nat} {F : Nat → World → Prop} {β : Bm} {H : FW} {w : World} {q : Bool}

/-- What is handed over to be appended, or copied. -/
structure SrcOf (P : Program) (β : Bm) (w : World) (size : Nat) (x x' : Value) (l news : List Value) : Prop where
  len : ∀ w', (Builtin.lenOf x').run P w' = .ok (lenV x) w'
  rel : VRs β l news
  first : ∀ n, n ≤ lenV x → ∀ w', w'.heap = w.heap → (Builtin.firstCells size n x').run P w' = .ok (news.take (n * size)).toArray w'

theorem loadCells_none (a : Addr) (w : World) : (loadCells a 0).run P w = .ok #[] w := rfl

theorem cells_at {b i n : Nat} {us : List Value} (hl : us.length = n) (h : ∀ j, j < n → ∃ u, w.cell? ⟨b, i + j, none⟩ = some u ∧ us[j]? = some u) :
    ∀ w' : World, w'.heap = w.heap → ∀ (j : Nat) v, us[j]? = some v → w'.cell? ((⟨b, i, none⟩ : Addr).add j) = some v := by
  intro w' hw j v hv
  have hj : j < n := by rw [← hl]; exact (List.getElem?_eq_some_iff.1 hv).1
  obtain ⟨u, hu, hv2⟩ := h j hj
  rw [hv] at hv2
  simp only [Option.some.injEq] at hv2
  subst hv2
  rw [add_lit, ← hu]
  simp [World.cell?, hw]

theorem srcCells_sound (h : WR P F β H w) {e size : Nat} {x x' : Value} {l : List Value} (hx : VR β x x') (he : srcCells P H e size x = some l) (hlen : l.length = lenV x * size) :
    ∃ news, SrcOf P β w size x x' l news := by
  unfold srcCells at he
  split at he
  · simp only [Option.some.injEq] at he; subst he
    cases hx
    exact ⟨[], fun _ => rfl, .nil, fun n hn w' _ => by
      have : n = 0 := by simpa [lenV] using hn
      subst this
      simp [Builtin.firstCells]⟩
  · rename_i a c
    simp only [Option.some.injEq] at he; subst he
    have : ∃ a' cap, x' = .slice (some a') 0 cap := by
      rcases hx.sl_inv with ⟨k, cap, _, _, _, _, _, _, _, rfl⟩ | ⟨_, _, b, j, cap, rfl⟩
      · exact ⟨_, _, rfl⟩
      · exact ⟨_, _, rfl⟩
    obtain ⟨a', cap, rfl⟩ := this
    exact ⟨[], fun _ => rfl, .nil, fun n hn w' _ => by
      have : n = 0 := by simpa [lenV] using hn
      subst this
      simp [Builtin.firstCells, loadCells, loadCellsFrom]⟩
  · rename_i a n c
    rcases hx.sl_inv with ⟨k, cap, hsp, hk, _, _, _, _, _, rfl⟩ | ⟨h0, _⟩
    · have ha : a = ⟨a.block, a.off, none⟩ := by cases a; simp_all
      rw [ha] at he
      obtain ⟨us, h1, h2, h3⟩ := h.row hk he
      have hl : us.length = (n + 1) * size := by rw [h1.length, h2]
      refine ⟨us, fun _ => rfl, h1, fun m hm w' hw' => ?_⟩
      have hm : m ≤ n + 1 := hm
      have hms : m * size ≤ (n + 1) * size := Nat.mul_le_mul_right _ hm
      have := run_firstCells_some (P := P) w' size m ⟨k.b, k.lo + a.off, none⟩ (n + 1) cap (us.take (m * size)) (by rw [List.length_take]; omega) (fun j v hv => by
        rw [List.getElem?_take] at hv
        split at hv
        · exact cells_at hl h3 w' hw' j v hv
        · cases hv)
      exact this
    · omega
  · rename_i s
    split at he
    · simp only [Option.some.injEq] at he; subst he
      cases hx
      have hz : s.size = s.data.toList.length := rfl
      refine ⟨_, fun w' => ?_, flats_rel (List.all_eq_true.2 fun v hv => by obtain ⟨b, _, rfl⟩ := List.mem_map.1 hv; rfl), fun n hn w' _ => ?_⟩
      · simp only [Builtin.lenOf, lenV, hz]; rfl
      · simp only [Builtin.firstCells, Sem.run_pure]
        congr 1
        apply Array.ext'
        have hn : n ≤ s.data.toList.length := hn
        have hmul : s.data.toList.length = s.data.toList.length * size := by simpa [lenV] using hlen
        have htk : s.data.toList.take (n * size) = s.data.toList.take n := by
          rcases Nat.eq_zero_or_pos s.data.toList.length with h0 | h0
          · have : s.data.toList = [] := List.eq_nil_of_length_eq_zero h0
            simp [this]
          · have : size = 1 := by
              have h1 : s.data.toList.length * size = s.data.toList.length * 1 := by omega
              exact Nat.eq_of_mul_eq_mul_left h0 h1
            rw [this, Nat.mul_one]
        have := Lib.extract_data s 0 n
        rw [← List.map_take, htk]
        simp [this]
    · cases he
  · cases he

section
variable {t t' ty e : TypeId} {td : TypeDesc} {i : TypeInfo}

theorem run_append_roomA (ht : P.underlying t = some (.slice e)) (ht' : P.underlying t' = some td) (htd : (∃ u, td = .slice u) ∨ td = .string)
    (hi : P.info? e = some i) {x x' : Value} {l news : List Value} (hx : SrcOf P β w i.size x x' l news) (hl : news.length = lenV x * i.size)
    (ts : Array TypeId) (h0 : ts[0]? = some t) (h1 : ts[1]? = some t') (a : Option Addr) (n cap : Nat) (hroom : n + lenV x ≤ cap) :
    (Builtin.append_ ts ty #[.slice a n cap, x']).run P w =
      ((match a with
        | some a => storeCells (a.add (n * i.size)) news
        | none => pure ()).run P w).andThen fun _ w' => .ok (.slice a (n + lenV x) cap) w' := by
  have hf := hx.first (lenV x) (Nat.le_refl _) w rfl
  rw [← hl, List.take_length] at hf
  rcases htd with ⟨u, rfl⟩ | rfl <;> cases a <;>
  simp [Builtin.append_, h0, h1, run_underlying ht, run_underlying ht', sizeOf, typeInfo, hi, hx.len, hroom, hf]

theorem run_append_growA (ht : P.underlying t = some (.slice e)) (ht' : P.underlying t' = some td) (htd : (∃ u, td = .slice u) ∨ td = .string)
    (hi : P.info? e = some i) {z : Value} (hz : i.zero = some z) {x x' : Value} {l news : List Value} (hx : SrcOf P β w i.size x x' l news) (hl : news.length = lenV x * i.size)
    (ts : Array TypeId) (h0 : ts[0]? = some t) (h1 : ts[1]? = some t') (base : Option Addr) (n cap : Nat) (olds : List Value)
    (hfo : (Builtin.firstCells i.size n (.slice base n cap)).run P w.drew = .ok olds.toArray w.drew)
    (hg : cap < n + lenV x) (h63 : n + lenV x ≤ 9223372036854775807) (hfit : Builtin.nextslicecap (n + lenV x) cap * i.bytes ≤ 281474976710656) :
    (Builtin.append_ ts ty #[.slice base n cap, x']).run P w =
      .ok (.slice (some ⟨w.heap.size, 0, none⟩) (n + lenV x) (grownCap w (n + lenV x) cap e))
        (w.drew.alloc (.cells (olds.toArray ++ news.toArray ++ Builtin.zeroCells z.cells (grownCap w (n + lenV x) cap e - (n + lenV x))) e)) := by
  have hf := hx.first (lenV x) (Nat.le_refl _) w.drew rfl
  rw [← hl, List.take_length] at hf
  have hn : ¬ (n + lenV x ≤ cap) := by omega
  have h63' : ¬ (9223372036854775807 < ((n : Int) + (lenV x : Int))) := by omega
  have h48' : ¬ (281474976710656 < Builtin.nextslicecap (n + lenV x) cap * i.bytes) := by omega
  rcases htd with ⟨u, rfl⟩ | rfl
  all_goals
    simp [Builtin.append_, h0, h1, run_underlying ht, run_underlying ht', sizeOf, typeInfo, zeroValue, hi, hz, hx.len, hn, h63', h48', Question.forced, hf, hfo, newRow, grownCap]
    congr 2
    apply Array.ext'
    simp [List.append_assoc]

/-- A block that grew. -/
theorem grownA_sound {W : World} {olds news lo ln : List Value} {z : Array Value} {n cap : Nat} {v : Value} {H' : FW} (h : WR P F β H W) (h5 : 512 ≤ H.next) (ho : VRs β lo olds) (hn : VRs β ln news)
    (hl : (lo ++ ln).length = n * P.cellsOf e) (hz : z.size = P.cellsOf e) (hcap : n ≤ cap) (hm : cap ≤ maxLen) (he : grownA H (lo ++ ln) e n = some (v, H')) :
    ∃ β', VR β' v (.slice (some ⟨W.heap.size, 0, none⟩) n cap) ∧ BLe β β' ∧ WR P F β' H' (W.alloc (.cells (olds.toArray ++ news.toArray ++ Builtin.zeroCells z (cap - n)) e)) ∧ H.next ≤ H'.next := by
  unfold grownA FW.push at he
  cases hg : H.heap.get H.next with
  | some x => rw [hg] at he; cases he
  | none =>
    rw [hg] at he
    simp only at he
    cases hok : okN H.next with
    | false => rw [hok] at he; cases he
    | true =>
      rw [hok] at he
      simp only [cond_true, Option.some.injEq, Prod.mk.injEq] at he
      obtain ⟨rfl, rfl⟩ := he
      have hr := ho.append hn
      have hrl := hr.length
      have hsz : (olds.toArray ++ news.toArray ++ Builtin.zeroCells z (cap - n)).size = cap * P.cellsOf e := by
        simp only [Array.size_append, List.size_toArray, size_zeroCells, hz]
        have : olds.length + news.length = n * P.cellsOf e := by rw [← hl, ← hrl, List.length_append]
        rw [this, ← Nat.add_mul]
        congr 1
        omega
      have hnc : n * P.cellsOf e ≤ cap * P.cellsOf e := Nat.mul_le_mul_right _ hcap
      obtain ⟨hw, hb⟩ := h.alloc (n := H.next + 1) (x := .cells (lo ++ ln) e) (ob := .cells (olds.toArray ++ news.toArray ++ Builtin.zeroCells z (cap - n)) e) hg hok h5
        ⟨_, ⟨_, heap_alloc_new W _, .zero _ _⟩, ⟨by show 0 + _ ≤ Array.size _; rw [hsz]; omega, Nat.le_refl _⟩, fun i v hv => by
          have hv' : (lo ++ ln)[i]? = some v := hv
          obtain ⟨u, hu, hr2⟩ := hr.get hv'
          refine ⟨u, ?_, hr2.up (bset_le (h.fresh _ h5 hg))⟩
          have hi : i < (olds ++ news).length := (List.getElem?_eq_some_iff.1 hu).1
          show (olds.toArray ++ news.toArray ++ Builtin.zeroCells z (cap - n))[0 + i]? = some u
          rw [Nat.zero_add, ← Array.getElem?_toList]
          simp only [Array.toList_append]
          rw [List.getElem?_append_left hi]
          exact hu⟩ (fun c' e' hce => by cases hce; rfl)
      refine ⟨_, ?_, hb, hw, Nat.le_succ _⟩
      refine .sl (k := newPl P W _) (i := 0) (bset_same _ _ _) hcap (by omega) (by omega) (by omega) hm (fun _ => ?_)
      show 0 + 0 + cap * P.cellsOf e ≤ Array.size _
      rw [hsz]; omega

theorem FW.row_cells {a : Addr} {n : Nat} {l : List Value} (h : H.row a n = some l) : ∃ c e, H.cells a.block = some (c, e) ∧ H.heap.get a.block = some (.cells c e) ∧ l.length = n := by
  unfold FW.row at h
  split at h
  · cases h
  · cases hc : H.cells a.block with
    | none => rw [hc] at h; cases h
    | some p =>
      obtain ⟨c, e⟩ := p
      rw [hc] at h
      simp only at h
      obtain ⟨hle, h⟩ := some_of_cond h
      have hle := Nat.le_of_ble_eq_true hle
      simp only [Option.some.injEq] at h
      refine ⟨c, e, rfl, ?_, ?_⟩
      · unfold FW.cells at hc
        split at hc
        · rename_i hg
          simp only [Option.some.injEq, Prod.mk.injEq] at hc
          obtain ⟨rfl, rfl⟩ := hc
          exact hg
        · cases hc
      · rw [← h, List.length_take, List.length_drop]; omega

theorem appendTo_sound (h : WR P F β H w) (hF : ∀ R' w0, F R' w0 → R' ≤ R) (h5 : 512 ≤ H.next) (ht : P.underlying t = some (.slice e)) (ht' : P.underlying t' = some td) (htd : (∃ u, td = .slice u) ∨ td = .string)
    (hi : P.info? e = some i) {z : Value} (hz : i.zero = some z) (hzs : z.cells.size = i.size) {x x' : Value} {l news : List Value} (hx : SrcOf P β w i.size x x' l news) (hl : l.length = lenV x * i.size) (hm0 : 0 < lenV x) (hby : 0 < i.bytes)
    (ts : Array TypeId) (h0 : ts[0]? = some t) (h1 : ts[1]? = some t') {a : Addr} {n c : Nat} {s' v : Value} {H' : FW} (hs : VR β (.slice (some a) n c) s') (he : appendTo R e i.size i.bytes a n c (lenV x) l H = some (v, H')) :
    ∃ u w' β', (Builtin.append_ ts ty #[s', x']).run P w = .ok u w' ∧ VR β' v u ∧ BLe β β' ∧ WR P F β' H' w' ∧ H.next ≤ H'.next := by
  have hnl : news.length = lenV x * i.size := by rw [hx.rel.length, hl]
  have hcz : P.cellsOf e = i.size := cellsOf_eq hi
  have hpos : ∀ k, (k + lenV x) * i.bytes ≤ 140737488355328 → k + lenV x ≤ 140737488355328 := fun k hk => Nat.le_trans (Nat.le_mul_of_pos_right _ hby) hk
  unfold appendTo at he
  cases hroom : Nat.ble (n + lenV x) (c / 2) with
  | true =>
    rw [hroom, cond_true] at he
    have hroom := Nat.le_of_ble_eq_true hroom
    rcases hs.sl_inv2 with ⟨k, cap, hsp, hk, hn, hc, hev, h2n, hm, hrr, rfl⟩ | ⟨_, h9, _⟩
    · cases hla : H.lay R (moveA a (n * i.size)) l with
      | none => rw [hla] at he; cases he
      | some H1 =>
        rw [hla] at he
        simp only at he
        obtain ⟨_, he⟩ := some_of_cond he
        simp only [Option.some.injEq, Prod.mk.injEq] at he
        obtain ⟨rfl, rfl⟩ := he
        obtain ⟨_, w', hst, hw', hnx, _⟩ := lay_sound (P := P) h hF hx.rel (a := moveA a (n * i.size)) hk hla
        refine ⟨.slice (some ⟨k.b, k.lo + a.off, none⟩) (n + lenV x) cap, w', β, ?_, ?_, BLe.refl _, hw', by omega⟩
        · rw [run_append_roomA ht ht' htd hi hx hnl ts h0 h1 _ n cap (by omega)]
          simp only [add_lit]
          have : k.lo + a.off + n * i.size = k.lo + (moveA a (n * i.size)).off := by simp [moveA, Nat.add_assoc]
          rw [this, hst]
          rfl
        · have ha : a = ⟨a.block, a.off, none⟩ := by cases a; simp_all
          rw [ha]
          exact .sl hk (by omega) hc hev (by omega) hm hrr
    · omega
  | false =>
    have hroom : ¬ n + lenV x ≤ c / 2 := by
      intro hle
      rw [← Nat.ble_eq] at hle
      rw [hle] at hroom; cases hroom
    rw [show Nat.ble (n + lenV x) (c / 2) = false by assumption, cond_false] at he
    split at he
    · rename_i olds cc e' hrow hcells
      obtain ⟨hee, he⟩ := some_of_cond he
      have hee := Nat.eq_of_beq_eq_true hee
      subst hee
      obtain ⟨hg, he⟩ := some_of_cond he
      simp only [Bool.and_eq_true] at hg
      have hbytes := Nat.le_of_ble_eq_true hg.1
      have h63 := hpos n hbytes
      obtain ⟨c2, e2, hcc2, hgr, hol⟩ := FW.row_cells hrow
      rw [hcells] at hcc2
      simp only [Option.some.injEq, Prod.mk.injEq] at hcc2
      obtain ⟨rfl, rfl⟩ := hcc2
      -- where it must grow
      have grow : ∀ (H1 : FW) (cap : Nat) (k : Pl), WR P F β H1 w → H1.next = H.next → a.spot = none → β a.block = some k → s' = .slice (some ⟨k.b, k.lo + a.off, none⟩) n cap → cap < n + lenV x →
          grownA H1 (olds ++ l) e' (n + lenV x) = some (v, H') →
          ∃ u w' β', (Builtin.append_ ts ty #[s', x']).run P w = .ok u w' ∧ VR β' v u ∧ BLe β β' ∧ WR P F β' H' w' ∧ H.next ≤ H'.next := by
        intro H1 cap k hw1 hnx hsp hk hs' hlt hgn
        subst hs'
        have ha : a = ⟨a.block, a.off, none⟩ := by cases a; simp_all
        rw [ha] at hrow
        obtain ⟨us, hr1, hr2, hr3⟩ := h.row hk hrow
        have hul : us.length = n * i.size := by rw [hr1.length, hr2]
        have hfo := run_firstCells_some (P := P) w.drew i.size n ⟨k.b, k.lo + a.off, none⟩ n cap us hul (cells_at hul hr3 w.drew rfl)
        have hrun := run_append_growA (ty := ty) ht ht' htd hi hz hx hnl ts h0 h1 _ n cap us hfo hlt (by omega) (growslice_fits hlt hbytes)
        have hge := grownCap_ge w (n + lenV x) cap e'
        have hcm : grownCap w (n + lenV x) cap e' ≤ maxLen := grownCap_le_maxLen w (n + lenV x) cap e' (by simp only [maxLen]; omega)
        obtain ⟨β', hv, hle, hw', hnn⟩ := grownA_sound (W := w.drew) (z := z.cells) (cap := grownCap w (n + lenV x) cap e') (hw1.up (Below.refl _ _).drew) (by omega) hr1 hx.rel
          (by rw [List.length_append, hol, hl, hcz, Nat.add_mul]) (by rw [hzs, hcz]) hge hcm hgn
        exact ⟨_, _, β', hrun, hv, hle, hw', by omega⟩
      cases hev : Nat.beq (c % 2) 0 with
      | true =>
        rw [hev, cond_true] at he
        have hev := Nat.eq_of_beq_eq_true hev
        rcases hs.sl_inv2 with ⟨k, cap, hsp, hk, hn, hc, hevv, h2n, hm, hrr, rfl⟩ | ⟨_, h9, _⟩
        · exact grow H cap k h rfl hsp hk rfl (by have := hevv hev; omega) he
        · omega
      | false =>
        rw [hev, cond_false] at he
        have hodd : c % 2 = 1 := by
          have : c % 2 ≠ 0 := by
            intro h0
            rw [h0] at hev
            cases hev
          omega
        obtain ⟨hg2, he⟩ := some_of_cond he
        simp only [Bool.and_eq_true, Nat.blt_eq] at hg2
        have hR := Nat.le_of_ble_eq_true hg2.1
        rcases hs.sl_inv2 with ⟨k, cap, hsp, hk, hn, hc, hevv, h2n, hm, hrr, rfl⟩ | ⟨_, h9, _⟩
        · have hkill := h.kill (o := a.block) (by rw [hgr]; rfl) hg2.2.1
          by_cases hcap : n + lenV x ≤ cap
          · -- there was room
            have ha : a = ⟨a.block, a.off, none⟩ := by cases a; simp_all
            obtain ⟨k2, cur, hk2, _, ⟨fz, hcur, hfz⟩, hsz, hget⟩ := h.block hcells
            rw [hk] at hk2
            simp only [Option.some.injEq] at hk2
            subst hk2
            have hwd := h.wide _ _ _ _ hgr hk
            have hfit := hrr hodd
            rw [hwd, hcz] at hfit
            have hmul : (n + lenV x) * i.size ≤ cap * i.size := Nat.mul_le_mul_right _ hcap
            rw [Nat.add_mul] at hmul
            have hst := storeCells_at P k.b (k.lo + a.off + n * i.size) e' fz news 0 cur w hcur (by omega) (fun j h1 h2 => hfz j (by omega) (by omega)) (ones_rel hx.rel hg.2.2)
            simp only [Nat.add_zero, List.append_assoc] at hst
            have hrun := run_append_roomA (ty := ty) ht ht' htd hi hx hnl ts h0 h1 (some ⟨k.b, k.lo + a.off, none⟩) n cap hcap
            simp only [add_lit] at hrun
            rw [hst, Result.andThen_ok] at hrun
            -- the new one in the old one's place
            unfold grownA FW.push at he
            cases hgn : (H.put a.block .dead).heap.get (H.put a.block .dead).next with
            | some x => rw [hgn] at he; cases he
            | none =>
              rw [hgn] at he
              simp only at he
              cases hok : okN (H.put a.block .dead).next with
              | false => rw [hok] at he; cases he
              | true =>
                rw [hok] at he
                simp only [cond_true, Option.some.injEq, Prod.mk.injEq] at he
                obtain ⟨rfl, rfl⟩ := he
                have h5' : 512 ≤ (H.put a.block .dead).next := h5
                rw [ha] at hrow
                obtain ⟨us, hr1, hr2, hr3⟩ := h.row hk hrow
                have hlive : ∀ o' x'', (H.put a.block .dead).heap.get o' = some x'' → x''.live = true → o' ≠ a.block ∧ H.heap.get o' = some x'' := by
                  intro o' x'' hg' hl'
                  have hgg : (H.put a.block .dead).heap.get o' = if o' = a.block then some .dead else H.heap.get o' := T.get_set _ _ _ hg2.2.1
                  rw [hgg] at hg'
                  split at hg'
                  · simp only [Option.some.injEq] at hg'; subst hg'; cases hl'
                  · rename_i hne; exact ⟨hne, hg'⟩
                have hmine : ∀ R' w0, F R' w0 → w0.heap.size ≤ k.b := fun R' w0 h' => h.mine R' w0 h' _ _ _ hgr rfl (Nat.le_trans (hF R' w0 h') hR) hk
                refine ⟨_, _, bset β (H.put a.block .dead).next ⟨k.b, k.lo + a.off, k.sz, k.wd⟩, hrun, ?_, bset_le (hkill.fresh _ h5' hgn),
                  hkill.add (n := (H.put a.block .dead).next + 1) (x := .cells (olds ++ l) e') (k := ⟨k.b, k.lo + a.off, k.sz, k.wd⟩) hgn hok h5' (fun b _ hb => setRow_other w k.b b _ hb) ?_ hmine ?_ ?_ ?_, Nat.le_succ _⟩
                · refine .sl (i := 0) (bset_same _ _ _) hcap (by omega) (by omega) (by omega) hm (fun _ => ?_)
                  show k.lo + a.off + 0 + cap * k.wd ≤ k.sz
                  have := hrr hodd
                  omega
                · intro R' w0 h'
                  have hf0 := h.frame R' w0 h'
                  have hm0 := hmine R' w0 h'
                  refine ⟨hf0.os, hf0.tape, hf0.output, by rw [setRow_size]; exact hf0.size, fun b hb => ?_⟩
                  rw [setRow_other w k.b b _ (by omega)]
                  exact hf0.block b hb
                · intro o' x'' k' hg' hl' hk'
                  obtain ⟨hne, hg'⟩ := hlive _ _ hg' hl'
                  exact (h.inj _ _ _ _ _ k hg' hgr hl' rfl hne hk' hk : k'.b ≠ k.b)
                · have hol' : us.length = n * i.size := by rw [hr1.length, hr2]
                  refine ⟨_, ⟨_, setRow_heap w k.b cur _ e' fz hcur, fun j h1 h2 => hfz j (Nat.le_trans (Nat.le_add_right _ _) h1) h2⟩, ⟨?_, ?_⟩, fun j v hv => ?_⟩
                  · show k.lo + a.off + (olds ++ l).length ≤ k.sz
                    rw [List.length_append, hol, hl]
                    omega
                  · show k.sz ≤ _
                    simp only [List.size_toArray, List.length_append, List.length_take, List.length_drop, Array.length_toList]
                    omega
                  · have hr := hr1.append hx.rel
                    obtain ⟨u, hu, hru⟩ := hr.get hv
                    refine ⟨u, ?_, hru.up (bset_le (hkill.fresh _ h5' hgn))⟩
                    show (cur.toList.take (k.lo + a.off + n * i.size) ++ (news ++ cur.toList.drop (k.lo + a.off + n * i.size + news.length))).toArray[k.lo + a.off + j]? = some u
                    have hjl : j < (us ++ news).length := (List.getElem?_eq_some_iff.1 hu).1
                    rw [List.length_append, hol', hnl] at hjl
                    simp only [List.getElem?_toArray]
                    rw [lay_get cur.toList news (k.lo + a.off + n * i.size) (k.lo + a.off + j) (by rw [hnl]; simp; omega)]
                    rcases Nat.lt_or_ge j (n * i.size) with hj | hj
                    · rw [if_pos (by omega)]
                      rw [List.getElem?_append_left (by omega)] at hu
                      obtain ⟨u2, hu2, hu3⟩ := hr3 j hj
                      rw [hu] at hu3
                      simp only [Option.some.injEq] at hu3
                      subst hu3
                      rw [cell_of_heap hcur] at hu2
                      simpa using hu2
                    · rw [if_neg (by omega), if_pos (by omega)]
                      rw [List.getElem?_append_right (by omega), hol'] at hu
                      rw [← hu]
                      congr 1
                      omega
                · intro c' e'' hce
                  cases hce
                  exact hwd
          · exact grow (H.put a.block .dead) cap k hkill rfl hsp hk rfl (by omega) he
        · omega
    · cases he

theorem appendA_sound (h : WR P F β H w) (hF : ∀ R' w0, F R' w0 → R' ≤ R) (h5 : 512 ≤ H.next) (ts : Array TypeId) (h0 : ts[0]? = some t) (h1 : ts[1]? = some t') {s x s' x' v : Value} {H' : FW} (hs : VR β s s') (hx : VR β x x') (he : appendA P R t t' s x H = some (v, H')) :
    ∃ u w' β', (Builtin.append_ ts ty #[s', x']).run P w = .ok u w' ∧ VR β' v u ∧ BLe β β' ∧ WR P F β' H' w' ∧ H.next ≤ H'.next := by
  unfold appendA at he
  split at he
  · rename_i e td ht ht'
    split at he
    · rename_i i hi htd
      have htd : (∃ u, td = .slice u) ∨ td = .string := by
        split at htd
        · exact .inl ⟨_, rfl⟩
        · exact .inr rfl
        · cases htd
      split at he
      · rename_i z l hz hsrc
        obtain ⟨hg, he⟩ := some_of_cond he
        simp only [Bool.and_eq_true, Nat.blt_eq] at hg
        obtain ⟨hg1, hg2, hg3, hg4⟩ := hg
        have hg1 := Nat.eq_of_beq_eq_true hg1
        have hg4 := Nat.eq_of_beq_eq_true hg4
        obtain ⟨i', zv, hi', hzi, hzc, hzr, _⟩ := zeroA_sound (β := β) hz
        rw [hi] at hi'; simp only [Option.some.injEq] at hi'; subst hi'
        have hzs : zv.cells.size = i.size := by rw [← hg1, ← hzc]; simp
        obtain ⟨news, hsrcof⟩ := srcCells_sound h hx hsrc hg4
        have hnl : news.length = lenV x * i.size := by rw [hsrcof.rel.length, hg4]
        split at he
        · rename_i hl0
          split at he
          · simp only [Option.some.injEq, Prod.mk.injEq] at he
            obtain ⟨rfl, rfl⟩ := he
            have hn0 : news = [] := List.eq_nil_of_length_eq_zero (by rw [hnl, hl0]; simp)
            have : ∃ a' n cap, s' = .slice a' n cap ∧ n ≤ cap := by
              cases hs with
              | snil => exact ⟨_, _, _, rfl, Nat.le_refl _⟩
              | sl _ hn => exact ⟨_, _, _, rfl, hn⟩
              | s1 => exact ⟨_, _, _, rfl, Nat.zero_le _⟩
            obtain ⟨a', n, cap, rfl, hn⟩ := this
            refine ⟨_, w, β, ?_, hs, BLe.refl _, h, Nat.le_refl _⟩
            rw [run_append_roomA ht ht' htd hi hsrcof hnl ts h0 h1 a' n cap (by omega), hn0, hl0]
            cases a' <;> rfl
          · cases he
        · rename_i m hlm
          have hlm' : m + 1 = lenV x := hlm.symm
          rw [hlm'] at he
          split at he
          · obtain ⟨hgg, he⟩ := some_of_cond he
            simp only [Bool.and_eq_true] at hgg
            have hbytes := Nat.le_of_ble_eq_true hgg.1
            have h63 : lenV x ≤ 140737488355328 := Nat.le_trans (Nat.le_mul_of_pos_right _ hg3) hbytes
            cases hs
            have hrun := run_append_growA (ty := ty) ht ht' htd hi hzi hsrcof hnl ts h0 h1 none 0 0 [] (run_firstCells_none ..) (by omega) (by omega) (growslice_fits (by omega) (by rw [Nat.zero_add]; exact hbytes))
            have hge := grownCap_ge w (0 + lenV x) 0 e
            have hcm : grownCap w (0 + lenV x) 0 e ≤ maxLen := grownCap_le_maxLen w (0 + lenV x) 0 e (by simp only [maxLen]; omega)
            obtain ⟨β', hv, hle, hw', hnn⟩ := grownA_sound (lo := []) (olds := []) (W := w.drew) (z := zv.cells) (n := 0 + lenV x) (cap := grownCap w (0 + lenV x) 0 e) (h.up (Below.refl _ _).drew) (by omega) .nil hsrcof.rel
              (by rw [List.nil_append, hg4, cellsOf_eq hi, Nat.zero_add]) (by rw [hzs, cellsOf_eq hi]) hge hcm (by rw [Nat.zero_add]; exact he)
            exact ⟨_, _, β', hrun, hv, hle, hw', hnn⟩
          · exact appendTo_sound h hF h5 ht ht' htd hi hzi hzs hsrcof hg4 (by omega) hg3 ts h0 h1 hs he
          · cases he
      · cases he
    · cases he
  · cases he

theorem copyA_sound (h : WR P F β H w) (hF : ∀ R' w0, F R' w0 → R' ≤ R) (ts : Array TypeId) (h0 : ts[0]? = some t) {d x d' x' v : Value} {H' : FW} (hd : VR β d d') (hx : VR β x x') (he : copyA P R t d x H = some (v, H')) :
    ∃ w', (Builtin.copy_ ts ty #[d', x']).run P w = .ok v w' ∧ VR β v v ∧ WR P F β H' w' ∧ H.next ≤ H'.next := by
  have zero : ∀ {e : TypeId} {i : TypeInfo} {a : Option Addr} {c : Nat} {x'' : Value}, P.underlying t = some (.slice e) → P.info? e = some i → d' = .slice a 0 c → (∀ w', ∃ m, (Builtin.lenOf x'').run P w' = .ok m w') → (∀ w', (Builtin.firstCells i.size 0 x'').run P w' = .ok #[] w') →
      (Builtin.copy_ ts ty #[d', x'']).run P w = .ok (.int .i64 (.ofNat 0)) w := by
    intro e i a c x'' ht hi hd hlen hf
    subst hd
    obtain ⟨m, hm⟩ := hlen w
    have hmin : Nat.min m 0 = 0 := Nat.min_zero m
    cases a <;> simp [Builtin.copy_, h0, run_underlying ht, hm, sizeOf, typeInfo, hi, hmin, hf, storeCells, goInt]
  have dst0 : ∀ {a : Option Addr} {c : Nat}, VR β (.slice a 0 c) d' → ∃ a' c', d' = .slice a' 0 c' := by
    intro a c hd
    cases hd with
    | snil => exact ⟨_, _, rfl⟩
    | sl => exact ⟨_, _, rfl⟩
    | s1 => exact ⟨_, _, rfl⟩
  unfold copyA at he
  split at he
  · rename_i e a c ht
    obtain ⟨a', c', hd'⟩ := dst0 hd
    split at he
    · rename_i i ax nx cx hi
      simp only [Option.some.injEq, Prod.mk.injEq] at he
      obtain ⟨rfl, rfl⟩ := he
      have hx2 : ∃ b m k, x' = .slice b m k := by
        cases hx with
        | snil => exact ⟨_, _, _, rfl⟩
        | sl => exact ⟨_, _, _, rfl⟩
        | s1 => exact ⟨_, _, _, rfl⟩
      obtain ⟨b, m, k, rfl⟩ := hx2
      refine ⟨w, zero ht hi hd' (fun w' => ⟨m, rfl⟩) (fun w' => ?_), .int _ _, h, Nat.le_refl _⟩
      cases b <;> simp [Builtin.firstCells, loadCells, loadCellsFrom]
    · rename_i i sx hi
      simp only [Option.some.injEq, Prod.mk.injEq] at he
      obtain ⟨rfl, rfl⟩ := he
      cases hx
      refine ⟨w, zero ht hi hd' (fun w' => ⟨_, rfl⟩) (fun w' => ?_), .int _ _, h, Nat.le_refl _⟩
      simp only [Builtin.firstCells, Sem.run_pure]
      congr 1
      apply Array.ext'
      have := Lib.extract_data sx 0 0
      simp [this]
    · cases he
  · rename_i e a n c ht
    split at he
    · rename_i i hi
      split at he
      · rename_i l hsrc
        obtain ⟨hg, he⟩ := some_of_cond he
        have hg := Nat.eq_of_beq_eq_true hg
        cases hla : H.lay R a (l.take (min (lenV x) (n + 1) * i.size)) with
        | none => rw [hla] at he; cases he
        | some H1 =>
          rw [hla] at he
          simp only [Option.some.injEq, Prod.mk.injEq] at he
          obtain ⟨rfl, rfl⟩ := he
          obtain ⟨news, hsrcof⟩ := srcCells_sound h hx hsrc hg
          rcases hd.sl_inv with ⟨k, cap, hsp, hk, hn, hc, hevv, h2n, hm, rfl⟩ | ⟨h9, _⟩
          · obtain ⟨_, w', hst, hw', hnx, _⟩ := lay_sound (P := P) h hF (hsrcof.rel.take (min (lenV x) (n + 1) * i.size)) hk hla
            refine ⟨w', ?_, .int _ _, hw', by omega⟩
            have hmin : Nat.min (lenV x) (n + 1) = min (lenV x) (n + 1) := rfl
            have hf := hsrcof.first (min (lenV x) (n + 1)) (Nat.min_le_left _ _) w rfl
            simp [Builtin.copy_, h0, run_underlying ht, hsrcof.len, sizeOf, typeInfo, hi, hmin, hf, hst, goInt]
          · omega
      · cases he
    · cases he
  · cases he

theorem clearA_sound (h : WR P F β H w) (hF : ∀ R' w0, F R' w0 → R' ≤ R) (ts : Array TypeId) (h0 : ts[0]? = some t) {x x' v : Value} {H' : FW} (hx : VR β x x') (he : clearA P R t x H = some (v, H')) :
    ∃ w', (Builtin.clear_ ts ty #[x']).run P w = .ok v w' ∧ VR β v v ∧ WR P F β H' w' ∧ H.next ≤ H'.next := by
  unfold clearA at he
  split at he
  · rename_i e ht
    simp only [Option.some.injEq, Prod.mk.injEq] at he
    obtain ⟨rfl, rfl⟩ := he
    cases hx
    refine ⟨w, ?_, .tuple .nil, h, Nat.le_refl _⟩
    simp [Builtin.clear_, h0, run_underlying ht]
  · rename_i e a c ht
    simp only [Option.some.injEq, Prod.mk.injEq] at he
    obtain ⟨rfl, rfl⟩ := he
    have : ∃ a' cap, x' = .slice (some a') 0 cap := by
      rcases hx.sl_inv with ⟨k, cap, _, _, _, _, _, _, _, rfl⟩ | ⟨_, _, b, j, cap, rfl⟩
      · exact ⟨_, _, rfl⟩
      · exact ⟨_, _, rfl⟩
    obtain ⟨a', cap, rfl⟩ := this
    refine ⟨w, ?_, .tuple .nil, h, Nat.le_refl _⟩
    simp [Builtin.clear_, h0, run_underlying ht]
  · rename_i e a n c ht
    cases hz : zeroA P e with
    | none => rw [hz] at he; cases he
    | some z =>
      rw [hz] at he
      simp only at he
      cases hla : H.lay R a (zerosA z (n + 1)) with
      | none => rw [hla] at he; cases he
      | some H1 =>
        rw [hla] at he
        simp only [Option.some.injEq, Prod.mk.injEq] at he
        obtain ⟨rfl, rfl⟩ := he
        obtain ⟨i', zv, hi', hzi, hzc, hzr, _⟩ := zeroA_sound (β := β) hz
        have hall : ∀ n, VRs β (zerosA z n) (zerosA z n) := by
          intro n
          induction n with
          | zero => exact .nil
          | succ n ih => exact hzr.append ih
        rcases hx.sl_inv with ⟨k, cap, hsp, hk, hn, hc, hevv, h2n, hm, rfl⟩ | ⟨h9, _⟩
        · obtain ⟨_, w', hst, hw', hnx, _⟩ := lay_sound (P := P) h hF (hall (n + 1)) hk hla
          refine ⟨w', ?_, .tuple .nil, hw', by omega⟩
          have hzz : (Builtin.zeroCells zv.cells (n + 1)).toList = zerosA z (n + 1) := by
            have hsz : zv.cells.size = z.length := by rw [← hzc]; simp
            unfold Builtin.zeroCells
            rw [hsz]
            have := zeros_array z (n + 1) zv hzc
            rw [hsz] at this
            rw [this]
          simp [Builtin.clear_, h0, run_underlying ht, run_zeroValue' hi' hzi, hzz, hst]
        · omega
  · cases he
end


/-- A string's bytes, in a row of their own. -/
theorem bytesA_sound (h : WR P F β H w) (h5 : 512 ≤ H.next) {s d : TypeId} (hb : isBytesC P s d = true) {x x' v : Value} {H' : FW} (hx : VR β x x') (he : bytesA P d x H = some (v, H')) :
    ∃ u w' β', (convert s d x').run P w = .ok u w' ∧ VR β' v u ∧ BLe β β' ∧ WR P F β' H' w' ∧ H.next ≤ H'.next := by
  unfold isBytesC at hb
  split at hb
  · rename_i e0 hs hd
    split at hb
    · rename_i he8
      unfold bytesA at he
      split at he
      · rename_i e1 st hd'
        rw [hd] at hd'
        simp only [Option.some.injEq, TypeDesc.slice.injEq] at hd'
        subst hd'
        obtain ⟨hg, he⟩ := some_of_cond he
        simp only [Bool.and_eq_true] at hg
        have hlen := Nat.le_of_ble_eq_true hg.1
        have hone := Nat.eq_of_beq_eq_true hg.2
        cases hx
        have hsz : st.size = st.data.toList.length := by rw [Array.length_toList]; rfl
        have hrun := run_bytes_of_string (P := P) w s d e0 st hs hd he8
        have hcap := grownCap_ge w st.size 0 e0
        have hmax := grownCap_le_maxLen w st.size 0 e0 (by rw [hsz]; simp only [maxLen]; omega)
        generalize grownCap w st.size 0 e0 = cap at hrun hcap hmax
        have hrow : (bytesRow st cap).size = cap := by
          simp only [bytesRow, Array.size_append, Array.size_map, Array.size_replicate]
          have : st.data.size = st.size := rfl
          omega
        have hw1 : WR P F β H w.drew := h.up (Below.refl _ _).drew
        unfold grownA FW.push at he
        cases hgn : H.heap.get H.next with
        | some y => rw [hgn] at he; cases he
        | none =>
          rw [hgn] at he
          simp only at he
          cases hok : okN H.next with
          | false => rw [hok] at he; cases he
          | true =>
            rw [hok] at he
            simp only [cond_true, Option.some.injEq, Prod.mk.injEq] at he
            obtain ⟨rfl, rfl⟩ := he
            obtain ⟨hw, hbl⟩ := hw1.alloc (n := H.next + 1) (x := .cells (st.data.toList.map fun b => .int .u8 b.toNat) e0) (ob := .cells (bytesRow st cap) e0 ((bytesRow st cap).size, (bytesRow st cap).size + 1)) hgn hok h5
              ⟨_, ⟨_, heap_alloc_new w.drew _, fun j _ h2 h => absurd h.1 (Nat.not_le_of_lt h2)⟩, ⟨by show 0 + _ ≤ Array.size _; rw [hrow, List.length_map]; omega, Nat.le_refl _⟩, fun i v hv => by
                have hi : i < st.data.toList.length := by
                  have := (List.getElem?_eq_some_iff.1 hv).1
                  simpa using this
                rw [List.getElem?_map] at hv
                show ∃ u, (bytesRow st cap)[0 + i]? = some u ∧ _
                refine ⟨v, ?_, ?_⟩
                · rw [Nat.zero_add]
                  unfold bytesRow
                  rw [Array.getElem?_append_left (by simpa using hi), Array.getElem?_map, ← Array.getElem?_toList]
                  exact hv
                · cases hq : st.data.toList[i]? with
                  | none => rw [hq] at hv; cases hv
                  | some b =>
                    rw [hq] at hv
                    simp only [Option.map_some, Option.some.injEq] at hv
                    subst hv
                    exact .int _ _⟩ (fun c' e' hce => by cases hce; rfl)
            refine ⟨_, _, _, hrun, ?_, hbl, hw, Nat.le_succ _⟩
            rw [hsz]
            refine .sl (k := newPl P w.drew _) (i := 0) (bset_same _ _ _) (by omega) (by omega) (by omega) (by omega) hmax (fun _ => ?_)
            show 0 + 0 + cap * P.cellsOf e0 ≤ Array.size _
            rw [hrow, hone]; omega
      · cases he
    · cases hb
  · cases hb

end
end Go.Am

set_option linter.unusedVariables false
set_option linter.unusedSimpArgs false
namespace Go.Am
open Go.RowKit

def Up (w w' : World) : Prop := Below w.heap.size w w'

theorem Up.refl (w : World) : Up w w := Below.refl _ _
theorem Up.trans {a b c : World} (h : Up a b) (k : Up b c) : Up a c := Below.trans h (Below.mono k h.size)

/-- The store's numbers. -/
structure Lo (H : FW) : Prop where
  big : 512 ≤ H.next
  out : ∀ o, H.next ≤ o → H.heap.get o = none

section
variable {P : Program} {R : Nat} {F : Nat → World → Prop} {β : Bm} {H : FW} {w : World} {q : Bool}

theorem kind_look {op : Op} {f : Ev → FW → Option Value} (h : compA P op = .look f) : kindA P op = 0 ∨ kindA P op = 1 := by
  by_cases hcv : ∃ s d x, op = .convert s d x
  · obtain ⟨s, d, x, rfl⟩ := hcv
    simp only [compA] at h
    cases hb : isBytesC P s d with
    | true => rw [hb] at h; cases h
    | false => exact .inr (by simp only [kindA, hb, cond_false])
  cases op <;> first | exact absurd ⟨_, _, _, rfl⟩ hcv | (simp only [compA, reduceCtorEq] at h <;> first | (left; rfl) | (right; rfl) | skip)
  rename_i c
  obtain ⟨callee, args, tys⟩ := c
  cases callee with
  | builtin b => cases b <;> simp only [compA, reduceCtorEq] at h <;> first | (left; rfl) | (right; rfl)
  | _ => simp only [compA, reduceCtorEq] at h

theorem kind_make {op : Op} {f : Ev → Option (AObj × (Nat → Value))} (h : compA P op = .make f) : kindA P op = 2 := by
  by_cases hcv : ∃ s d x, op = .convert s d x
  · obtain ⟨s, d, x, rfl⟩ := hcv
    simp only [compA] at h
    cases hb : isBytesC P s d with
    | true => rw [hb] at h; cases h
    | false => rw [hb] at h; cases h
  cases op <;> first | exact absurd ⟨_, _, _, rfl⟩ hcv | (simp only [compA, reduceCtorEq] at h <;> first | rfl | skip)
  rename_i c
  obtain ⟨callee, args, tys⟩ := c
  cases callee with
  | builtin b => cases b <;> simp only [compA, reduceCtorEq] at h
  | _ => simp only [compA, reduceCtorEq] at h

theorem kind_write {op : Op} {f : Nat → Ev → FW → Option (Value × FW)} (h : compA P op = .write f) : kindA P op = 3 := by
  by_cases hcv : ∃ s d x, op = .convert s d x
  · obtain ⟨s, d, x, rfl⟩ := hcv
    simp only [compA] at h
    cases hb : isBytesC P s d with
    | true => simp only [kindA, hb, cond_true]
    | false => rw [hb] at h; cases h
  cases op <;> first | exact absurd ⟨_, _, _, rfl⟩ hcv | (simp only [compA, reduceCtorEq] at h <;> first | rfl | skip)
  rename_i c
  obtain ⟨callee, args, tys⟩ := c
  cases callee with
  | builtin b => cases b <;> simp only [compA, reduceCtorEq] at h <;> rfl
  | _ => simp only [compA, reduceCtorEq] at h

theorem kind_call {op : Op} {f : Ev → Option (FuncId × List Value)} (h : compA P op = .call f) : kindA P op = 4 ∧ ∃ c, op = .call c ∧ f = fun ρ => calleeA P ρ c := by
  by_cases hcv : ∃ s d x, op = .convert s d x
  · obtain ⟨s, d, x, rfl⟩ := hcv
    simp only [compA] at h
    cases hb : isBytesC P s d with
    | true => rw [hb] at h; cases h
    | false => rw [hb] at h; cases h
  cases op <;> first | exact absurd ⟨_, _, _, rfl⟩ hcv | simp only [compA, reduceCtorEq] at h
  rename_i c
  obtain ⟨callee, args, tys⟩ := c
  cases callee with
  | builtin b => cases b <;> simp only [compA, reduceCtorEq] at h
  | _ =>
    simp only [compA, AI.call.injEq] at h
    exact ⟨rfl, _, rfl, h.symm⟩

/-- A write. -/
theorem write_sound (h : WR P F β H w) (hF : ∀ R' w0, F R' w0 → R' ≤ R) (h5 : 512 ≤ H.next) {ρ : Ev} {a : Act} (hv : ∀ x, VR β (ρ x) (a.eval x)) {o : Oper} {f : Nat → Ev → FW → Option (Value × FW)} (hc : compA P o.op = .write f)
    {v : Value} {H' : FW} (he : f R ρ H = some (v, H')) :
    ∃ w' β', ((∃ u, (execOp a.eval o).run P w = .ok (.value u) w' ∧ VR β' v u) ∨ ((execOp a.eval o).run P w = .ok .skip w' ∧ v = undef)) ∧ BLe β β' ∧ WR P F β' H' w' := by
  have unit : ∀ {r : Option FW} {s : Sem Unit}, unit1 r = some (v, H') → (∀ H1, r = some H1 → ∃ w', s.run P w = .ok () w' ∧ WR P F β H1 w') →
      ((execOp a.eval o).run P w = (do s; pure Next.skip : Sem Next).run P w) →
      ∃ w' β', ((∃ u, (execOp a.eval o).run P w = .ok (.value u) w' ∧ VR β' v u) ∨ ((execOp a.eval o).run P w = .ok .skip w' ∧ v = undef)) ∧ BLe β β' ∧ WR P F β' H' w' := by
    intro r s hu hs hrun
    cases r with
    | none => cases hu
    | some H1 =>
      simp only [unit1, Option.some.injEq, Prod.mk.injEq] at hu
      obtain ⟨rfl, rfl⟩ := hu
      obtain ⟨w', h1, h2⟩ := hs _ rfl
      refine ⟨w', β, .inr ⟨?_, rfl⟩, BLe.refl _, h2⟩
      rw [hrun, Sem.run_bind, h1]
      rfl
  cases ho : o.op with
  | store t x y =>
    rw [ho] at hc
    simp only [compA, AI.write.injEq] at hc; subst hc
    exact unit he (fun H1 h1 => storeA_sound h hF (hv x) (hv y) h1) (by unfold execOp; rw [ho])
  | convert s d x =>
    rw [ho] at hc
    simp only [compA] at hc
    cases hb : isBytesC P s d with
    | false => rw [hb] at hc; cases hc
    | true =>
      rw [hb] at hc
      simp only [cond_true, AI.write.injEq] at hc; subst hc
      obtain ⟨u, w', β', h1, hr, hbl, hw, _⟩ := bytesA_sound h h5 hb (hv x) he
      refine ⟨w', β', .inl ⟨u, ?_, hr⟩, hbl, hw⟩
      unfold execOp; rw [ho]
      simp only
      rw [Sem.run_bind, h1]
      rfl
  | mapUpdate t m k x =>
    rw [ho] at hc
    simp only [compA, AI.write.injEq] at hc; subst hc
    exact unit he (fun H1 h1 => by obtain ⟨w', a1, a2, _⟩ := mapUpdateA_sound h hF (hv m) (hv k) (hv x) h1; exact ⟨w', a1, a2⟩) (by unfold execOp; rw [ho])
  | insert t m k x =>
    rw [ho] at hc
    simp only [compA, AI.write.injEq] at hc; subst hc
    exact unit he (fun H1 h1 => by obtain ⟨w', a1, a2, _⟩ := mapUpdateA_sound h hF (hv m) (hv k) (hv x) h1; exact ⟨w', a1, a2⟩) (by unfold execOp; rw [ho])
  | next it s =>
    rw [ho] at hc
    simp only [compA, AI.write.injEq] at hc; subst hc
    obtain ⟨u, w', h1, h2, h3, _⟩ := nextA_sound h hF o.type (hv it) he
    refine ⟨w', β, .inl ⟨u, ?_, h2⟩, BLe.refl _, h3⟩
    unfold execOp; rw [ho]
    simp only
    rw [Sem.run_bind, h1]
    rfl
  | call c =>
    rw [ho] at hc
    obtain ⟨callee, args, tys⟩ := c
    have harg : ∀ (b : Builtin), callee = .builtin b → ∀ w', (execOp a.eval o).run P w' =
        (builtin b tys o.type (args.map fun | .const _ => true | _ => false) (args.map a.eval)).run P w' := by
      intro b hb w'
      subst hb
      unfold execOp; rw [ho]
      rfl
    have two : ∀ {x y : Operand}, args.toList = [x, y] → args.map a.eval = #[a.eval x, a.eval y] := by
      intro x y h2
      have : args = #[x, y] := by apply Array.ext'; simpa using h2
      subst this
      simp
    have one : ∀ {x : Operand}, args.toList = [x] → args.map a.eval = #[a.eval x] := by
      intro x h2
      have : args = #[x] := by apply Array.ext'; simpa using h2
      subst this
      simp
    have ty0 : ∀ {t : TypeId} {r : List TypeId}, tys.toList = t :: r → tys[0]? = some t := by
      intro t r h3
      rw [← Array.getElem?_toList, h3]; rfl
    have ty1 : ∀ {t t' : TypeId} {r : List TypeId}, tys.toList = t :: t' :: r → tys[1]? = some t' := by
      intro t t' r h3
      rw [← Array.getElem?_toList, h3]; rfl
    cases callee with
    | builtin b =>
      cases b with
      | append =>
        simp only [compA, AI.write.injEq] at hc; subst hc
        simp only [callWriteA] at he
        split at he
        · rename_i s x t t' r h2 h3
          obtain ⟨u, w', β', h1, hr, hb, hw, _⟩ := appendA_sound (ty := o.type) h hF h5 tys (ty0 h3) (ty1 h3) (hv s) (hv x) he
          refine ⟨w', β', .inl ⟨u, ?_, hr⟩, hb, hw⟩
          rw [harg .append rfl, two h2]
          show (do pure (Next.value (← Builtin.append_ tys o.type #[a.eval s, a.eval x])) : Sem Next).run P w = _
          rw [Sem.run_bind, h1]
          rfl
        · cases he
      | copy =>
        simp only [compA, AI.write.injEq] at hc; subst hc
        simp only [callWriteA] at he
        split at he
        · rename_i s x t r h2 h3
          obtain ⟨w', h1, hr, hw, _⟩ := copyA_sound (ty := o.type) h hF tys (ty0 h3) (hv s) (hv x) he
          refine ⟨w', β, .inl ⟨v, ?_, hr⟩, BLe.refl _, hw⟩
          rw [harg .copy rfl, two h2]
          show (do pure (Next.value (← Builtin.copy_ tys o.type #[a.eval s, a.eval x])) : Sem Next).run P w = _
          rw [Sem.run_bind, h1]
          rfl
        · cases he
      | clear =>
        simp only [compA, AI.write.injEq] at hc; subst hc
        simp only [callWriteA] at he
        split at he
        · rename_i x t r h2 h3
          obtain ⟨w', h1, hr, hw, _⟩ := clearA_sound (ty := o.type) h hF tys (ty0 h3) (hv x) he
          refine ⟨w', β, .inl ⟨v, ?_, hr⟩, BLe.refl _, hw⟩
          rw [harg .clear rfl, one h2]
          show (do pure (Next.value (← Builtin.clear_ tys o.type #[a.eval x])) : Sem Next).run P w = _
          rw [Sem.run_bind, h1]
          rfl
        · cases he
      | len => simp only [compA, reduceCtorEq] at hc
      | max => simp only [compA, reduceCtorEq] at hc
      | min => simp only [compA, reduceCtorEq] at hc
      | _ =>
        simp only [compA, AI.write.injEq] at hc; subst hc
        simp only [callWriteA, reduceCtorEq] at he
    | _ => simp only [compA, reduceCtorEq] at hc
  | _ =>
    rw [ho] at hc
    simp only [compA, AI.write.injEq, reduceCtorEq] at hc
    try (subst hc; simp only [writeOp, reduceCtorEq] at he)

/-! The store's own numbers. -/

theorem Lo.put {H : FW} (h : Lo H) {r : Nat} {x : AObj} (hok : okN r = true) (hr : (H.heap.get r).isSome = true) : Lo (H.put r x) := by
  refine ⟨h.big, fun o ho => ?_⟩
  have hg : (H.put r x).heap.get o = if o = r then some x else H.heap.get o := T.get_set _ _ _ hok
  rw [hg]
  split
  · rename_i e
    subst e
    have := h.out o ho
    rw [this] at hr; cases hr
  · exact h.out o ho

theorem Lo.lay {H H' : FW} (h : Lo H) {R : Nat} {a : Addr} {l : List Value} (he : H.lay R a l = some H') : Lo H' ∧ H'.next = H.next := by
  unfold FW.lay at he
  split at he
  · cases he
  · obtain ⟨hg, he⟩ := some_of_cond he
    simp only [Bool.and_eq_true] at hg
    split at he
    · rename_i c e hc
      obtain ⟨_, he⟩ := some_of_cond he
      simp only [Option.some.injEq] at he
      subst he
      refine ⟨h.put hg.2 ?_, rfl⟩
      unfold FW.cells at hc
      split at hc
      · rename_i hh; rw [hh]; rfl
      · cases hc
    · cases he

theorem Lo.push {H H' : FW} (h : Lo H) {x : AObj} {id next : Nat} (hn : H.next ≤ next) (hid : id < next) (he : FW.push ⟨H.heap, id⟩ x = some H') : Lo ⟨H'.heap, next⟩ ∧ H'.heap = H.heap.set id x ∧ okN id = true ∧ H.heap.get id = none ∧ H'.next = id + 1 := by
  unfold FW.push at he
  simp only at he
  split at he
  · cases he
  · rename_i hg
    obtain ⟨hok, he⟩ := some_of_cond he
    simp only [Option.some.injEq] at he
    subst he
    refine ⟨⟨Nat.le_trans h.big hn, fun o ho => ?_⟩, rfl, hok, hg, rfl⟩
    have : (H.heap.set id x).get o = if o = id then some x else H.heap.get o := T.get_set _ _ _ hok
    have ho : next ≤ o := ho
    show (H.heap.set id x).get o = none
    rw [this, if_neg (by omega)]
    exact h.out o (by omega)

theorem Lo.grown {H H' : FW} (h : Lo H) {c : List Value} {e n : Nat} {v : Value} (he : grownA H c e n = some (v, H')) : Lo H' ∧ H.next ≤ H'.next := by
  unfold grownA at he
  split at he
  · rename_i H1 hp
    simp only [Option.some.injEq, Prod.mk.injEq] at he
    obtain ⟨_, rfl⟩ := he
    have hp' : FW.push ⟨H.heap, H.next⟩ (.cells c e) = some H1 := hp
    obtain ⟨h1, h2, _, _, h3⟩ := h.push (Nat.le_succ _) (Nat.lt_succ_self _) hp'
    obtain ⟨hp1, n1⟩ := H1
    simp only at h3
    subst h3
    exact ⟨h1, Nat.le_succ _⟩
  · cases he

theorem Lo.appendTo {H H' : FW} (h : Lo H) {R e size bytes n c m : Nat} {a : Addr} {news : List Value} {v : Value} (he : appendTo R e size bytes a n c m news H = some (v, H')) : Lo H' ∧ H.next ≤ H'.next := by
  unfold Am.appendTo at he
  cases hb : Nat.ble (n + m) (c / 2) with
  | true =>
    rw [hb, cond_true] at he
    split at he
    · rename_i H1 hl
      obtain ⟨_, he⟩ := some_of_cond he
      simp only [Option.some.injEq, Prod.mk.injEq] at he
      obtain ⟨_, rfl⟩ := he
      obtain ⟨h1, h2⟩ := h.lay hl
      exact ⟨h1, by omega⟩
    · cases he
  | false =>
    rw [hb, cond_false] at he
    split at he
    · rename_i olds cc e' hrow hcells
      obtain ⟨_, he⟩ := some_of_cond he
      obtain ⟨_, he⟩ := some_of_cond he
      cases hev : Nat.beq (c % 2) 0 with
      | true => rw [hev, cond_true] at he; exact h.grown he
      | false =>
        rw [hev, cond_false] at he
        obtain ⟨hg, he⟩ := some_of_cond he
        simp only [Bool.and_eq_true] at hg
        obtain ⟨_, _, _, hgr, _⟩ := FW.row_cells hrow
        exact (h.put (x := .dead) hg.2.1 (by rw [hgr]; rfl)).grown he
    · cases he

theorem Lo.write {H H' : FW} (h : Lo H) {R : Nat} {ρ : Ev} {op : Op} {f : Nat → Ev → FW → Option (Value × FW)} (hc : compA P op = .write f) {v : Value} (he : f R ρ H = some (v, H')) : Lo H' ∧ H.next ≤ H'.next := by
  have unit : ∀ {r : Option FW}, unit1 r = some (v, H') → r = some H' := by
    intro r hu
    cases r with
    | none => cases hu
    | some H1 => simp only [unit1, Option.some.injEq, Prod.mk.injEq] at hu; rw [hu.2]
  have mapU : ∀ {t m k x}, mapUpdateA P R t m k x H = some H' → Lo H' ∧ H.next ≤ H'.next := by
    intro t m k x he
    unfold mapUpdateA at he
    split at he
    · rename_i kt e r hu
      obtain ⟨hg, he⟩ := some_of_cond he
      simp only [Bool.and_eq_true] at hg
      split at he
      · rename_i kd es clock hkd hmo
        obtain ⟨_, he⟩ := some_of_cond he
        have hs : (H.heap.get r).isSome = true := by
          unfold FW.mapOf at hmo
          split at hmo
          · rename_i hh; rw [hh]; rfl
          · cases hmo
        split at he
        · simp only [Option.some.injEq] at he; subst he; exact ⟨h.put hg.2 hs, Nat.le_refl _⟩
        · simp only [Option.some.injEq] at he; subst he; exact ⟨h.put hg.2 hs, Nat.le_refl _⟩
        · cases he
      · cases he
    · cases he
  cases op with
  | convert s d x =>
    simp only [compA] at hc
    cases hb : isBytesC P s d with
    | false => rw [hb] at hc; cases hc
    | true =>
      rw [hb] at hc
      simp only [cond_true, AI.write.injEq] at hc; subst hc
      unfold bytesA at he
      dsimp only at he
      split at he
      · obtain ⟨_, he⟩ := some_of_cond he
        exact h.grown he
      · cases he
  | store t x y =>
    simp only [compA, AI.write.injEq] at hc; subst hc
    have he := unit he
    unfold storeA at he
    split at he
    · obtain ⟨_, he⟩ := some_of_cond he
      obtain ⟨h1, h2⟩ := h.lay he
      exact ⟨h1, by omega⟩
    · cases he
  | mapUpdate t m k x =>
    simp only [compA, AI.write.injEq] at hc; subst hc
    exact mapU (unit he)
  | insert t m k x =>
    simp only [compA, AI.write.injEq] at hc; subst hc
    exact mapU (unit he)
  | next it s =>
    simp only [compA, AI.write.injEq] at hc; subst hc
    simp only [writeOp] at he
    unfold nextA at he
    split at he
    · split at he
      · rename_i hgr
        obtain ⟨hg, he⟩ := some_of_cond he
        simp only [Bool.and_eq_true] at hg
        rename_i r _ _ bs pos _
        cases hb : Nat.blt pos bs.data.toList.length with
        | true =>
          rw [hb, cond_true] at he
          simp only [Option.some.injEq, Prod.mk.injEq] at he
          obtain ⟨_, rfl⟩ := he
          exact ⟨h.put hg.2 (by rw [hgr]; rfl), Nat.le_refl _⟩
        | false =>
          rw [hb, cond_false] at he
          simp only [Option.some.injEq, Prod.mk.injEq] at he
          obtain ⟨_, rfl⟩ := he
          exact ⟨h, Nat.le_refl _⟩
      · cases he
    · cases he
  | call c =>
    obtain ⟨callee, args, tys⟩ := c
    cases callee with
    | builtin b =>
      cases b with
      | append =>
        simp only [compA, AI.write.injEq] at hc; subst hc
        simp only [callWriteA] at he
        split at he
        · unfold appendA at he
          split at he
          · split at he
            · split at he
              · obtain ⟨_, he⟩ := some_of_cond he
                split at he
                · split at he
                  · simp only [Option.some.injEq, Prod.mk.injEq] at he
                    obtain ⟨_, rfl⟩ := he
                    exact ⟨h, Nat.le_refl _⟩
                  · cases he
                · split at he
                  · obtain ⟨_, he⟩ := some_of_cond he
                    exact h.grown he
                  · exact h.appendTo he
                  · cases he
              · cases he
            · cases he
          · cases he
        · cases he
      | copy =>
        simp only [compA, AI.write.injEq] at hc; subst hc
        simp only [callWriteA] at he
        split at he
        · unfold copyA at he
          split at he
          · split at he
            · simp only [Option.some.injEq, Prod.mk.injEq] at he
              obtain ⟨_, rfl⟩ := he
              exact ⟨h, Nat.le_refl _⟩
            · simp only [Option.some.injEq, Prod.mk.injEq] at he
              obtain ⟨_, rfl⟩ := he
              exact ⟨h, Nat.le_refl _⟩
            · cases he
          · split at he
            · split at he
              · obtain ⟨_, he⟩ := some_of_cond he
                split at he
                · rename_i hl
                  simp only [Option.some.injEq, Prod.mk.injEq] at he
                  obtain ⟨_, rfl⟩ := he
                  obtain ⟨h1, h2⟩ := h.lay hl
                  exact ⟨h1, by omega⟩
                · cases he
              · cases he
            · cases he
          · cases he
        · cases he
      | clear =>
        simp only [compA, AI.write.injEq] at hc; subst hc
        simp only [callWriteA] at he
        split at he
        · unfold clearA at he
          split at he
          · simp only [Option.some.injEq, Prod.mk.injEq] at he
            obtain ⟨_, rfl⟩ := he
            exact ⟨h, Nat.le_refl _⟩
          · simp only [Option.some.injEq, Prod.mk.injEq] at he
            obtain ⟨_, rfl⟩ := he
            exact ⟨h, Nat.le_refl _⟩
          · split at he
            · split at he
              · rename_i hl
                simp only [Option.some.injEq, Prod.mk.injEq] at he
                obtain ⟨_, rfl⟩ := he
                obtain ⟨h1, h2⟩ := h.lay hl
                exact ⟨h1, by omega⟩
              · cases he
            · cases he
          · cases he
        · cases he
      | len => simp only [compA, reduceCtorEq] at hc
      | max => simp only [compA, reduceCtorEq] at hc
      | min => simp only [compA, reduceCtorEq] at hc
      | _ =>
        simp only [compA, AI.write.injEq] at hc; subst hc
        simp only [callWriteA, reduceCtorEq] at he
    | _ => simp only [compA, reduceCtorEq] at hc
  | _ =>
    simp only [compA, AI.write.injEq, reduceCtorEq] at hc
    try (subst hc; simp only [writeOp, reduceCtorEq] at he)

end
end Go.Am

set_option linter.unusedVariables false
set_option linter.unusedSimpArgs false
namespace Go.Am
open Go.RowKit

/-- The slots. -/
structure Fm (lv : Nat → Bool) (β : Bm) (tm : TM) (a : Act) (n : Nat) : Prop where
  vals : ∀ t, VR β (TM.val lv tm t) (a.tmps.getD t undef)
  oks : ∀ p ∈ tm.loc, okN p.1 = true
  size : a.tmps.size = n
  defers : a.defers = []

/-- A frame and a world, by the store. -/
structure SR (P : Program) (F : Nat → World → Prop) (lv : Nat → Bool) (n : Nat) (β : Bm) (tm : TM) (H : FW) (a : Act) (w : World) : Prop where
  fm : Fm lv β tm a n
  wr : WR P F β H w
  lo : Lo H

/-- What is asked of what an operation yields: a value, and a world. -/
def xupon (P : Program) (k : Value → World → Prop) : Result Next → Prop
  | .ok (.value v) w' => k v w'
  | .ok .skip w' => k undef w'
  | .ok (.enter f args) w' => Calls P f args w' fun e w'' => ∃ v, e = .returned v ∧ k v w''
  | _ => False

def xop (P : Program) (o : Oper) (a : Act) (w : World) (k : Value → World → Prop) : Prop := xupon P k ((execOp a.eval o).run P w)

theorem xupon_mono {P : Program} {r : Result Next} {k k' : Value → World → Prop} (h : ∀ v w', k v w' → k' v w') (hx : xupon P k r) : xupon P k' r := by
  cases r with
  | ok n w' =>
    cases n <;> simp only [xupon] at hx ⊢ <;> first
      | exact h _ _ hx
      | exact Calls.mono hx (fun e w'' ⟨v, he, hk⟩ => ⟨v, he, h _ _ hk⟩)
  | halt x w' => simp only [xupon] at hx

theorem xop_mono {P : Program} {o : Oper} {a : Act} {w : World} {k k' : Value → World → Prop} (h : ∀ v w', k v w' → k' v w') (hx : xop P o a w k) : xop P o a w k' := xupon_mono h hx

/-- What is said of frames: none is above; there is one, of which something is known. -/
def FOk (I : World → Prop) (F : Nat → World → Prop) (R : Nat) : Prop := (∀ R' w0, F R' w0 → R' ≤ R) ∧ ∃ R' w0, F R' w0 ∧ I w0

/-- What the store says of calls is true (q: they write to nothing that there was). -/
def CallGood (P : Program) (I : World → Prop) (R : Nat) (q : Bool) (call : CallF) : Prop :=
  ∀ (F : Nat → World → Prop) (β : Bm) (H : FW) (w : World) (g : FuncId) (vs us : List Value) (v : Value) (H' : FW), FOk I F R → R ≤ H.next → Lo H → WR P F β H w → VRs β vs us → call g vs H = some (v, H') →
    (Lo H' ∧ H.next ≤ H'.next) ∧ xupon P (fun u w' => (q = true → Up w w') ∧ ∃ β', VR β' v u ∧ BLe β β' ∧ WR P F β' H' w') ((callFunc g us.toArray).run P w)

section
variable {I : World → Prop} {P : Program} {R n : Nat} {lv : Nat → Bool} {F : Nat → World → Prop} {β : Bm} {tm : TM} {H : FW} {a : Act} {w : World}

theorem ev_rel (h : WR P F β H w) (hf : Fm lv β tm a n) (x : Operand) : VR β (ev lv tm x) (a.eval x) := by
  cases x with
  | tmp t => exact hf.vals t
  | const v => exact cstA_rel v
  | global g =>
    show VR β (bif Nat.blt g 512 then .pointer (some ⟨g, 0, none⟩) else bot) (.pointer (some ⟨g, 0, none⟩))
    cases hb : Nat.blt g 512 with
    | false => exact .any
    | true =>
      have hlt : g < 512 := by simpa [Nat.blt_eq] using hb
      obtain ⟨k, hk, hkb, hkl⟩ := h.gl g hlt
      have := VR.ptr (i := 0) hk
      rw [hkb, hkl] at this
      exact this
  | func f => exact .func .nil .nil

theorem Fm.up {β' : Bm} (hf : Fm lv β tm a n) (hb : BLe β β') : Fm lv β' tm a n := ⟨fun t => (hf.vals t).up hb, hf.oks, hf.size, hf.defers⟩

theorem put_defers (a : Act) (d : Option Tmp) (u : Value) : (a.put d u).defers = a.defers := by cases d <;> rfl

theorem put_val (tm : TM) (t : Nat) (v : Value) (t' : Nat) : TM.val lv (tm.put t v) t' = if t' = t then v else TM.val lv tm t' := by
  show (Bool.rec (motive := fun _ => Value) (scanL tm.loc (outV lv tm.out t') t') v (Nat.beq t t')) = _
  by_cases h : t' = t
  · subst h
    rw [if_pos rfl, show Nat.beq t' t' = true by simp]
  · rw [if_neg h]
    have : Nat.beq t t' = false := by
      cases hb : Nat.beq t t' with
      | false => rfl
      | true => exact absurd (Nat.eq_of_beq_eq_true hb).symm h
    rw [this]
    rfl

theorem putT_sound {tm' : TM} {v u : Value} {d : Option Tmp} (hf : Fm lv β tm a n) (hv : VR β v u) (h : putT tm (clampD n d) v = some tm') : Fm lv β tm' (a.put d u) n := by
  cases d with
  | none =>
    simp only [clampD, putT, Option.some.injEq] at h
    subst h
    exact hf
  | some t =>
    simp only [clampD, putT] at h
    obtain ⟨hok, h⟩ := some_of_cond h
    simp only [Option.some.injEq] at h
    subst h
    have htn : Nat.blt t n = true := by
      cases hb : Nat.blt t n with
      | true => rfl
      | false =>
        have hno : okN 1099511627770 = false := by decide
        rw [hb, cond_false, hno] at hok
        cases hok
    rw [htn, cond_true] at hok ⊢
    have hlt : t < n := by simpa [Nat.blt_eq] using htn
    refine ⟨fun t' => ?_, fun p hp => ?_, ?_, hf.defers⟩
    · rw [put_val]
      show VR β _ ((a.tmps.setIfInBounds t u).getD t' undef)
      by_cases ht : t' = t
      · subst ht
        rw [if_pos rfl, Array.getD_eq_getD_getElem?, Array.getElem?_setIfInBounds, if_pos rfl, if_pos (by rw [hf.size]; exact hlt)]
        exact hv
      · rw [if_neg ht, Array.getD_eq_getD_getElem?, Array.getElem?_setIfInBounds, if_neg (Ne.symm ht), ← Array.getD_eq_getD_getElem?]
        exact hf.vals t'
    · rcases List.mem_cons.1 hp with rfl | hp
      · exact hok
      · exact hf.oks p hp
    · show (a.tmps.setIfInBounds t u).size = n
      simp [hf.size]

theorem flushL_get : ∀ (l : List (Nat × Value)) (o : T Value), (∀ p ∈ l, okN p.1 = true) → ∀ t, outV lv (flushL lv l o) t = bif lv t then scanL l (outV lv o t) t else bot
  | [], o, _, t => by
    show outV lv o t = _
    cases h : lv t with
    | true => rfl
    | false => unfold outV; rw [h]; rfl
  | p :: l, o, hok, t => by
    have ih := flushL_get l o (fun q hq => hok q (List.mem_cons_of_mem _ hq))
    have e1 : flushL lv (p :: l) o = Bool.rec (motive := fun _ => T Value) (flushL lv l o) (T.set (flushL lv l o) p.1 p.2) (lv p.1) := rfl
    have e2 : scanL (p :: l) (outV lv o t) t = Bool.rec (motive := fun _ => Value) (scanL l (outV lv o t) t) p.2 (Nat.beq p.1 t) := rfl
    cases hl : lv t with
    | false => unfold outV; rw [hl]; rfl
    | true =>
      have iht := ih t
      rw [hl, cond_true] at iht
      rw [cond_true, e2]
      by_cases h : p.1 = t
      · have hb : Nat.beq p.1 t = true := by rw [h]; simp
        rw [hb, e1, h, hl]
        have hg : (T.set (flushL lv l o) t p.2).get t = if t = t then some p.2 else (flushL lv l o).get t := T.get_set _ _ _ (by rw [← h]; exact hok p (List.mem_cons_self ..))
        show outV lv (T.set (flushL lv l o) t p.2) t = p.2
        unfold outV
        rw [hl, cond_true, hg, if_pos rfl]
      · have hb : Nat.beq p.1 t = false := by
          cases hb : Nat.beq p.1 t with
          | false => rfl
          | true => exact absurd (Nat.eq_of_beq_eq_true hb) h
        rw [hb, e1]
        show outV lv _ t = scanL l (outV lv o t) t
        rw [← iht]
        cases hp : lv p.1 with
        | false => rfl
        | true =>
          have hg : (T.set (flushL lv l o) p.1 p.2).get t = if t = p.1 then some p.2 else (flushL lv l o).get t := T.get_set _ _ _ (hok p (List.mem_cons_self ..))
          show outV lv (T.set (flushL lv l o) p.1 p.2) t = _
          unfold outV
          rw [hg, if_neg (Ne.symm h)]

theorem Fm.flush (hf : Fm lv β tm a n) : Fm lv β (tm.flush lv) a n := by
  refine ⟨fun t => ?_, fun p hp => (by cases hp), hf.size, hf.defers⟩
  show VR β (outV lv (flushL lv tm.loc tm.out) t) _
  rw [flushL_get _ _ hf.oks]
  cases lv t with
  | true => exact hf.vals t
  | false => exact .any

theorem finT_sound {tm' : TM} {H1 H' : FW} {v u : Value} {d : Option Tmp} (hf : Fm lv β tm a n) (hv : VR β v u) (h : finT tm (clampD n d) v H1 = some (tm', H')) : H' = H1 ∧ Fm lv β tm' (a.put d u) n := by
  unfold finT at h
  split at h
  · rename_i t1 hp
    simp only [Option.some.injEq, Prod.mk.injEq] at h
    obtain ⟨rfl, rfl⟩ := h
    exact ⟨rfl, putT_sound hf hv hp⟩
  · cases h

theorem undef_rel : VR β undef undef := .tuple .nil

theorem guard_sound {ops : Array Oper} {o : Oper} (hf : Fm lv β tm a n) : ((guardOf ops o).holds lv tm = true → Region.wanted o (yielded ops a.tmps) = true) ∧
    ((guardOf ops o).holds lv tm = false → (guardOf ops o).sure lv tm = true → Region.wanted o (yielded ops a.tmps) = false) := by
  unfold guardOf Region.wanted
  cases hg : o.guard with
  | none => exact ⟨fun _ => rfl, fun h => by cases h⟩
  | some p =>
    obtain ⟨j, want⟩ := p
    simp only
    unfold yielded
    cases hd : (ops[j]?).bind (·.dst) with
    | none => exact ⟨fun h => (by cases h), fun _ _ => rfl⟩
    | some t =>
      simp only [Option.bind_some]
      have hv := hf.vals t
      have hget : ∀ b, a.tmps.getD t undef = .bool b → a.tmps[t]? = some (.bool b) := by
        intro b hb
        rw [Array.getD_eq_getD_getElem?] at hb
        cases ht : a.tmps[t]? with
        | none => rw [ht] at hb; cases hb
        | some x => rw [ht] at hb; simp only [Option.getD_some] at hb; rw [hb]
      constructor
      · intro h
        simp only [AG.holds, boolIs] at h
        split at h
        · rename_i b hb
          rw [hb] at hv
          generalize hq : a.tmps.getD t undef = q at hv
          cases hv
          rw [hget b hq]
          cases want <;> cases b <;> first | rfl | cases h
        · cases h
      · intro h hsure
        simp only [AG.sure] at hsure
        simp only [AG.holds, boolIs] at h
        split at h
        · rename_i b hb
          rw [hb] at hv
          generalize hq : a.tmps.getD t undef = q at hv
          cases hv
          rw [hget b hq]
          cases want <;> cases b <;> first | rfl | cases h
        · rename_i hnb
          cases ht : a.tmps[t]? with
          | none => rfl
          | some x =>
            cases x with
            | bool b =>
              exfalso
              have hq : a.tmps.getD t undef = .bool b := by rw [Array.getD_eq_getD_getElem?, ht]; rfl
              rw [hq] at hv
              generalize TM.val lv tm t = y at hv hnb hsure
              cases hv with
              | any => cases hsure
              | bool b => exact hnb b rfl
            | _ => rfl

theorem method_run {t : TypeId} {name : String} {f : FuncId} (h : methodA P t name = some f) (fuel : Nat) (v : Value) (w : World) : (method (fuel + 1) t v name).run P w = .ok (f, v) w := by
  unfold methodA at h
  split at h
  · rename_i i hi
    split at h
    · rename_i m hm
      obtain ⟨hp, h⟩ := some_of_cond h
      have hti : (typeInfo t).run P w = .ok i w := by simp [typeInfo, hi]
      have hpath : m.path.toList = [] := by simpa using hp
      unfold method
      rw [Sem.run_bind, hti, Result.andThen_ok, hm]
      simp only
      rw [hpath]
      split at h
      · rename_i f' e hf hu
        simp only [Option.some.injEq] at h
        subst h
        show (do let x ← (Sem.pure (t, Place.val v) : Sem (TypeId × Place)); _ : Sem (FuncId × Value)).run P w = _
        rw [Sem.run_bind]
        show Result.andThen (.ok (t, Place.val v) w) _ = _
        rw [Result.andThen_ok, hf]
        simp only [receiverAt]
        rw [Sem.run_bind, Sem.run_bind, run_underlying hu, Result.andThen_ok]
        rfl
      · cases h
      · rename_i f' d hnp hf hu
        simp only [Option.some.injEq] at h
        subst h
        show (do let x ← (Sem.pure (t, Place.val v) : Sem (TypeId × Place)); _ : Sem (FuncId × Value)).run P w = _
        rw [Sem.run_bind]
        show Result.andThen (.ok (t, Place.val v) w) _ = _
        rw [Result.andThen_ok, hf]
        simp only [receiverAt]
        rw [Sem.run_bind, Sem.run_bind, run_underlying hu, Result.andThen_ok]
        cases d <;> first | rfl | exact absurd rfl (hnp _)
      · cases h
    · cases h
  · cases h

theorem callee_run {o : Oper} {c : Call} {f : FuncId} {vs : List Value} {ρ : Ev} (hv : ∀ x, VR β (ρ x) (a.eval x)) (ho : o.op = .call c) (h : calleeA P ρ c = some (f, vs)) :
    ∃ us, VRs β vs us ∧ ∀ w, (execOp a.eval o).run P w = (callFunc f us.toArray).run P w := by
  obtain ⟨callee, args, tys⟩ := c
  unfold calleeA at h
  simp only at h
  split at h
  · rename_i x
    split at h
    · rename_i g fs cs hx
      simp only [Option.some.injEq, Prod.mk.injEq] at h
      obtain ⟨rfl, rfl⟩ := h
      have hr := hv x
      rw [hx] at hr
      generalize hq : a.eval x = q at hr
      cases hr with
      | func h1 h2 =>
        rename_i fs0 fs1 cs0 cs1
        refine ⟨fs1 ++ (args.toList.map a.eval ++ cs1), h1.append ((VRs.map _ _ hv _).append h2), fun w => ?_⟩
        unfold execOp
        rw [ho]
        simp only [resolve, hq, Deferred.ofValue]
        have e : ({ toList := fs1 } : Array Value) ++ (Array.map a.eval args ++ { toList := cs1 }) = (fs1 ++ (List.map a.eval args.toList ++ cs1)).toArray := by
          apply Array.ext'; simp
        simp [invoke, e]
    · cases h
  · rename_i recv name
    split at h
    · rename_i t v hx
      split at h
      · rename_i g hm
        simp only [Option.some.injEq, Prod.mk.injEq] at h
        obtain ⟨rfl, rfl⟩ := h
        have hr := hv recv
        rw [hx] at hr
        generalize hq : a.eval recv = q at hr
        cases hr with
        | iface h1 =>
          rename_i v'
          refine ⟨v' :: args.toList.map a.eval, .cons h1 (VRs.map _ _ hv _), fun w => ?_⟩
          unfold execOp
          rw [ho]
          simp only [resolve, hq]
          have e : (#[v'] ++ (#[Value.iface t v'] ++ args.map a.eval).extract 1 (#[Value.iface t v'] ++ args.map a.eval).size) = (v' :: args.toList.map a.eval).toArray := by
            apply Array.ext'
            simp
            exact List.take_of_length_le (by simp)
          have e0 : (#[Value.iface t v'] ++ args.map a.eval)[0]? = some (Value.iface t v') := by
            rw [Array.getElem?_append_left (by simp)]
            rfl
          show (do let d ← (Sem.pure _ : Sem Deferred); invoke d.target d.args : Sem Next).run P w = _
          rw [Sem.run_bind]
          show (invoke (.fn (.method name) #[]) (#[Value.iface t v'] ++ args.map a.eval)).run P w = _
          unfold invoke
          simp only [e0]
          unfold callMethod
          simp only
          rw [Sem.run_bind]
          obtain ⟨k, hk⟩ : ∃ k, P.types.size + Made.depth = k + 1 := ⟨P.types.size + (Made.depth - 1), rfl⟩
          have hm2 : (do let p ← program; method (p.types.size + Made.depth) t v' name : Sem (FuncId × Value)).run P w = .ok (g, v') w := by
            rw [Sem.run_bind, run_program, Result.andThen_ok, hk, method_run hm]
          rw [run_program, Result.andThen_ok, Sem.run_bind, hk, method_run hm, Result.andThen_ok]
          exact congrArg (fun x => (callFunc g x).run P w) e
      · cases h
    · cases h
  · cases h

/-- One operation. -/
theorem stepG_sound {call : CallF} {q : Bool} (hcall : CallGood P I R q call) (hF : FOk I F R) (hR : R ≤ H.next) (hs : SR P F lv n β tm H a w) {id next : Nat} (hid : 512 ≤ id) (hn : H.next ≤ next) (hlt : id < next)
    {ops : Array Oper} {o : Oper} {tm' : TM} {H' : FW} (h : stepG lv R call false (compO P lv n ops o) id next tm H = some (tm', H')) :
    (Lo H' ∧ H.next ≤ H'.next) ∧
    ((Region.wanted o (yielded ops a.tmps) = true ∧ xop P o a w (fun u w' => (kindA P o.op = 1 ∨ kindA P o.op = 2 ∨ (kindA P o.op = 4 ∧ q = true) → Up w w') ∧ ∃ β', BLe β β' ∧ SR P F lv n β' tm' H' (a.put o.dst u) w')) ∨
     (Region.wanted o (yielded ops a.tmps) = false ∧ SR P F lv n β tm' H' (a.put o.dst undef) w)) := by
  have hv := fun x => ev_rel hs.wr hs.fm x
  obtain ⟨hg1, hg2⟩ := guard_sound (ops := ops) (o := o) hs.fm
  unfold stepG compO at h
  simp only at h
  cases hh : (guardOf ops o).holds lv tm with
  | false =>
    rw [hh, cond_false] at h
    obtain ⟨hsure, h⟩ := some_of_cond h
    obtain ⟨rfl, hfm⟩ := finT_sound hs.fm undef_rel h
    exact ⟨⟨hs.lo, Nat.le_refl _⟩, .inr ⟨hg2 hh hsure, hfm, hs.wr, hs.lo⟩⟩
  | true =>
    rw [hh, cond_true] at h
    cases hc : compA P o.op with
    | look f =>
      rw [hc] at h
      simp only [AI.toT] at h
      cases hf : f (ev lv tm) H with
      | none => rw [hf] at h; cases h
      | some v =>
        rw [hf] at h
        obtain ⟨u, hrun, hu⟩ := look_sound hs.wr hv hc hf
        obtain ⟨rfl, hfm⟩ := finT_sound hs.fm hu h
        refine ⟨⟨hs.lo, Nat.le_refl _⟩, .inl ⟨hg1 hh, ?_⟩⟩
        unfold xop
        rw [hrun w (.inr (Below.refl _ _))]
        exact ⟨fun _ => Up.refl w, β, BLe.refl _, hfm, hs.wr, hs.lo⟩
    | make f =>
      rw [hc] at h
      simp only [AI.toT] at h
      cases hf : f (ev lv tm) with
      | none => rw [hf] at h; cases h
      | some p =>
        obtain ⟨x, val⟩ := p
        rw [hf] at h
        simp only [finM] at h
        split at h
        · rename_i H1 hp
          obtain ⟨ob, g, hrun, hob, hlive, hwd⟩ := make_sound (β := β) hv hc hf
          obtain ⟨hlo, hheap, hok, hnone, _⟩ := hs.lo.push hn hlt hp
          obtain ⟨hw, hb⟩ := hs.wr.alloc (n := next) (x := x) (ob := ob) hnone hok hid (hob _ w id (bset_le (hs.wr.fresh _ hid hnone)) (bset_same _ _ _)).1 (hwd w)
          have hval := (hob _ w id (bset_le (hs.wr.fresh _ hid hnone)) (bset_same _ _ _)).2
          obtain ⟨rfl, hfm⟩ := finT_sound (hs.fm.up hb) hval h
          refine ⟨⟨hlo, hn⟩, .inl ⟨hg1 hh, ?_⟩⟩
          unfold xop
          rw [hrun w]
          refine ⟨fun _ => below_alloc w ob, _, hb, hfm, ?_, hlo⟩
          rw [hheap]; exact hw
        · cases h
    | write f =>
      rw [hc] at h
      simp only [AI.toT] at h
      have hk := kind_write hc
      cases hf : f R (ev lv tm) H with
      | none => rw [hf] at h; cases h
      | some p =>
        obtain ⟨v, H1⟩ := p
        rw [hf] at h
        simp only [finW] at h
        obtain ⟨w', β', hrun, hb, hw⟩ := write_sound hs.wr hF.1 hs.lo.big hv hc hf
        have hlo := hs.lo.write hc hf
        rcases hrun with ⟨u, hrun, hu⟩ | ⟨hrun, rfl⟩
        · obtain ⟨rfl, hfm⟩ := finT_sound (hs.fm.up hb) hu h
          refine ⟨hlo, .inl ⟨hg1 hh, ?_⟩⟩
          unfold xop
          rw [hrun]
          exact ⟨fun h => by omega, β', hb, hfm, hw, hlo.1⟩
        · obtain ⟨rfl, hfm⟩ := finT_sound (hs.fm.up hb) undef_rel h
          refine ⟨hlo, .inl ⟨hg1 hh, ?_⟩⟩
          unfold xop
          rw [hrun]
          exact ⟨fun h => by omega, β', hb, hfm, hw, hlo.1⟩
    | call f =>
      rw [hc] at h
      simp only [AI.toT] at h
      obtain ⟨hk, c, ho, rfl⟩ := kind_call hc
      unfold finC at h
      cases hf : calleeA P (ev lv tm) c with
      | none => simp only [hf] at h; cases h
      | some p =>
        obtain ⟨g, vs⟩ := p
        simp only [hf] at h
        cases hcl : call g vs H with
        | none => rw [hcl] at h; cases h
        | some p =>
          obtain ⟨v, H1⟩ := p
          rw [hcl] at h
          simp only [Bool.not_false, Bool.true_or, cond_true, cond_false] at h
          obtain ⟨us, hus, hrun⟩ := callee_run (P := P) hv ho hf
          obtain ⟨hlo, hx⟩ := hcall F β H w g vs us v H1 hF hR hs.lo hs.wr hus hcl
          obtain ⟨rfl, _⟩ : H' = H1 ∧ True := by
            unfold finT at h
            split at h
            · simp only [Option.some.injEq, Prod.mk.injEq] at h; exact ⟨h.2.symm, trivial⟩
            · cases h
          refine ⟨hlo, .inl ⟨hg1 hh, ?_⟩⟩
          unfold xop
          rw [hrun w]
          refine xupon_mono (fun u w' ⟨hq, β', h1, h2, h3⟩ => ?_) hx
          obtain ⟨_, hfm⟩ := finT_sound (hs.fm.up h2) h1 h
          exact ⟨fun h => hq (by rcases h with h | h | h; omega; omega; exact h.2), β', h2, hfm, h3, hlo.1⟩

theorem SR.flush (hs : SR P F lv n β tm H a w) : SR P F lv n β (tm.flush lv) H a w := ⟨hs.fm.flush, hs.wr, hs.lo⟩

theorem SR.up {w' : World} (hs : SR P F lv n β tm H a w) (hw : Up w w') : SR P F lv n β tm H a w' := ⟨hs.fm, hs.wr.up hw, hs.lo⟩

/-- One that looks. -/
theorem stepG_look {call : CallF} {lk : Bool} (hs : SR P F lv n β tm H a w) {ops : Array Oper} {o : Oper} (hk : kindA P o.op = 0 ∨ kindA P o.op = 1) {id next : Nat} {tm' : TM} {H' : FW} (h : stepG lv R call lk (compO P lv n ops o) id next tm H = some (tm', H')) :
    H' = H ∧ ∃ u, ((Region.wanted o (yielded ops a.tmps) = true ∧ ∀ w', (kindA P o.op == 0) = true ∨ Up w w' → (execOp a.eval o).run P w' = .ok (.value u) w') ∨ (Region.wanted o (yielded ops a.tmps) = false ∧ u = undef)) ∧ Fm lv β tm' (a.put o.dst u) n := by
  have hv := fun x => ev_rel hs.wr hs.fm x
  obtain ⟨hg1, hg2⟩ := guard_sound (ops := ops) (o := o) hs.fm
  unfold stepG compO at h
  simp only at h
  cases hh : (guardOf ops o).holds lv tm with
  | false =>
    rw [hh, cond_false] at h
    obtain ⟨hsure, h⟩ := some_of_cond h
    obtain ⟨rfl, hfm⟩ := finT_sound hs.fm undef_rel h
    exact ⟨rfl, undef, .inr ⟨hg2 hh hsure, rfl⟩, hfm⟩
  | true =>
    rw [hh, cond_true] at h
    cases hc : compA P o.op with
    | look f =>
      rw [hc] at h
      simp only [AI.toT] at h
      cases hf : f (ev lv tm) H with
      | none => rw [hf] at h; cases h
      | some v =>
        rw [hf] at h
        obtain ⟨u, hrun, hu⟩ := look_sound hs.wr hv hc hf
        obtain ⟨rfl, hfm⟩ := finT_sound hs.fm hu h
        exact ⟨rfl, u, .inl ⟨hg1 hh, hrun⟩, hfm⟩
    | make f => have := kind_make hc; omega
    | write f => have := kind_write hc; omega
    | call f => have := (kind_call hc).1; omega

theorem flat_eq {v u : Value} (hp : flatC v = true) (h : VR β v u) : u = v := by
  cases h <;> first | rfl | cases hp

theorem flats_eq : ∀ {l us : List Value}, l.all flatC = true → VRs β l us → us = l
  | _, _, _, .nil => rfl
  | _, _, hp, .cons h hs => by
    simp only [List.all_cons, Bool.and_eq_true] at hp
    rw [flat_eq hp.1 h, flats_eq hp.2 hs]

theorem plain_eq {v u : Value} (hp : plainV v = true) (h : VR β v u) : u = v := by
  unfold plainV at hp
  split at hp
  · rename_i vs
    cases h with
    | tuple hl => rw [flats_eq hp hl]
  · rename_i vs
    cases h with
    | agg hl => rw [flats_eq hp hl]
  · exact flat_eq hp h

theorem plain_self {v : Value} (hp : plainV v = true) : VR β v v := by
  unfold plainV at hp
  split at hp
  · exact .tuple (flats_rel hp)
  · exact .agg (flats_rel hp)
  · exact flat_rel hp

/-- A call that looks. -/
theorem stepG_quiet {call : CallF} (hcall : CallGood P I R true call) (hF : FOk I F R) (hR : R ≤ H.next) (hs : SR P F lv n β tm H a w) {ops : Array Oper} {o : Oper} (hk : kindA P o.op = 4) {id next : Nat} {tm' : TM} {H' : FW}
    (h : stepG lv R call true (compO P lv n ops o) id next tm H = some (tm', H')) :
    H' = H ∧ ∃ u, ((Region.wanted o (yielded ops a.tmps) = true ∧ ∀ w', Up w w' → xop P o a w' fun x w'' => x = u ∧ Up w' w'') ∨ (Region.wanted o (yielded ops a.tmps) = false ∧ u = undef)) ∧ Fm lv β tm' (a.put o.dst u) n := by
  have hv := fun x => ev_rel hs.wr hs.fm x
  obtain ⟨hg1, hg2⟩ := guard_sound (ops := ops) (o := o) hs.fm
  unfold stepG compO at h
  simp only at h
  cases hh : (guardOf ops o).holds lv tm with
  | false =>
    rw [hh, cond_false] at h
    obtain ⟨hsure, h⟩ := some_of_cond h
    obtain ⟨rfl, hfm⟩ := finT_sound hs.fm undef_rel h
    exact ⟨rfl, undef, .inr ⟨hg2 hh hsure, rfl⟩, hfm⟩
  | true =>
    rw [hh, cond_true] at h
    cases hc : compA P o.op with
    | look f => have := kind_look hc; omega
    | make f => have := kind_make hc; omega
    | write f => have := kind_write hc; omega
    | call f =>
      rw [hc] at h
      simp only [AI.toT] at h
      obtain ⟨_, c, ho, rfl⟩ := kind_call hc
      unfold finC at h
      cases hf : calleeA P (ev lv tm) c with
      | none => simp only [hf] at h; cases h
      | some p =>
        obtain ⟨g, vs⟩ := p
        simp only [hf] at h
        cases hcl : call g vs H with
        | none => rw [hcl] at h; cases h
        | some p =>
          obtain ⟨v, H1⟩ := p
          rw [hcl] at h
          simp only [Bool.not_true, Bool.false_or, cond_true] at h
          obtain ⟨hpl, h⟩ := some_of_cond h
          obtain ⟨us, hus, hrun⟩ := callee_run (P := P) hv ho hf
          obtain ⟨rfl, hfm⟩ := finT_sound hs.fm (plain_self hpl) h
          refine ⟨rfl, v, .inl ⟨hg1 hh, fun w' hw' => ?_⟩, hfm⟩
          obtain ⟨_, hx⟩ := hcall F β _ w' g vs us v H1 hF hR hs.lo (hs.wr.up hw') hus hcl
          unfold xop
          rw [hrun w']
          exact xupon_mono (fun u w'' ⟨hq, β', h1, _⟩ => ⟨plain_eq hpl h1, hq rfl⟩) hx

/-- Calls that write above what there is only: they write to nothing that there was. -/
theorem quiet_good {call : Nat → CallF} (hcall : ∀ R, CallGood P I R false (call R)) : CallGood P I R true (fun g vs H => call H.next g vs H) := by
  intro F β H w g vs us v H' hF hR hlo hw hus hc
  have hw' : WR P (fun R' w0 => F R' w0 ∨ (R' = H.next ∧ w0 = w)) β H w := by
    refine ⟨hw.gl, hw.fresh, hw.objs, hw.inj, fun R' w0 h o x k hg hl ho hk => ?_, fun R' w0 h => ?_, hw.wide⟩
    · rcases h with h | ⟨rfl, rfl⟩
      · exact hw.mine R' w0 h o x k hg hl ho hk
      · rw [hlo.out o ho] at hg; cases hg
    · rcases h with h | ⟨rfl, rfl⟩
      · exact hw.frame R' w0 h
      · exact Below.refl _ _
  obtain ⟨h1, h2⟩ := hcall H.next _ β H w g vs us v H' ⟨fun R' w0 h => by
    rcases h with h | ⟨rfl, rfl⟩
    · exact Nat.le_trans (hF.1 R' w0 h) hR
    · exact Nat.le_refl _, by obtain ⟨R1, w1, h1, h2⟩ := hF.2; exact ⟨R1, w1, .inl h1, h2⟩⟩ (Nat.le_refl _) hlo hw' hus hc
  refine ⟨h1, xupon_mono (fun u w' ⟨_, β', a1, a2, a3⟩ => ⟨fun _ => a3.frame H.next w (.inr ⟨rfl, rfl⟩), β', a1, a2, ?_⟩) h2⟩
  exact ⟨a3.gl, a3.fresh, a3.objs, a3.inj, fun R' w0 h => a3.mine R' w0 (.inl h), fun R' w0 h => a3.frame R' w0 (.inl h), a3.wide⟩

end
end Go.Am

set_option linter.unusedVariables false
set_option linter.unusedSimpArgs false
namespace Go.Am
open Go.RowKit

section
variable {P : Program} {ops : Array Oper} {md : Region.Mode} {cls : Nat → Nat}

/-- Operation i comes up, and writes to nothing that there is; behind it there may be more blocks. -/
def xOp0 (P : Program) (ops : Array Oper) (i : Nat) (K : Act → World → Prop) (a : Act) (w : World) : Prop :=
  match ops[i]? with
  | none => ∀ w', Up w w' → K a w'
  | some o => if Region.wanted o (yielded ops a.tmps) then xop P o a w fun v w' => Up w w' ∧ ∀ w'', Up w' w'' → K (a.put o.dst v) w''
      else ∀ w', Up w w' → K (a.put o.dst undef) w'

/-- Operation i, by its class: 0: it looks at slots alone; 1: it writes to nothing that there is; else: any. -/
def xOp (P : Program) (ops : Array Oper) (c : Nat) (Q : Exit → Act → World → Prop) (i : Nat) (K : Act → World → Prop) (a : Act) (w : World) : Prop :=
  match c with
  | 0 => ∃ o v, ops[i]? = some o ∧ Yields P ops o v a ∧ K (a.put o.dst v) w
  | 1 => xOp0 P ops i K a w
  | _ => wpOp P ops Q i K a w

def xAny (P : Program) (md : Region.Mode) (ops : Array Oper) (cls : Nat → Nat) (Q : Exit → Act → World → Prop) : Nat → Array Bool → Act → World → Prop
  | 0, listed, a, w => Region.ready md ops listed = [] ∧ Q .normal a w
  | fuel + 1, listed, a, w =>
    (Region.ready md ops listed = [] → Q .normal a w) ∧
    ∀ i ∈ Region.ready md ops listed, xOp P ops (cls i) Q i (xAny P md ops cls Q fuel (listed.setIfInBounds i true)) a w

theorem wpOp_of_x0 {Q : Exit → Act → World → Prop} {i : Nat} {K K' : Act → World → Prop} {a : Act} {w : World} (h : ∀ a w, K a w → K' a w) (hx : xOp0 P ops i K a w) : wpOp P ops Q i K' a w := by
  unfold xOp0 at hx
  unfold wpOp
  split
  · rename_i ho; simp only [ho] at hx; exact h _ _ (hx w (Up.refl w))
  · rename_i o ho
    simp only [ho] at hx
    split
    · rename_i hw
      simp only [hw, if_true] at hx
      left
      unfold xop at hx
      unfold Oper.wp
      generalize (execOp a.eval o).run P w = r at *
      cases r with
      | ok n w' =>
        cases n <;> simp only [xupon] at hx <;> simp only [Oper.upon]
        case value v => exact h _ _ (hx.2 w' (Up.refl _))
        case skip => exact h _ _ (hx.2 w' (Up.refl _))
        case enter f args =>
          refine hx.mono fun e w'' ⟨v, he, hk⟩ => ?_
          subst he
          exact h _ _ (hk.2 w'' (Up.refl _))
      | halt x w' => simp only [xupon] at hx
    · rename_i hw; simp only [hw] at hx; exact h _ _ (hx w (Up.refl w))

theorem wpOp_of_xop {Q : Exit → Act → World → Prop} {i : Nat} {o : Oper} {K : Act → World → Prop} {a : Act} {w : World} (ho : ops[i]? = some o)
    (h : (Region.wanted o (yielded ops a.tmps) = true ∧ xop P o a w fun u w' => K (a.put o.dst u) w') ∨ (Region.wanted o (yielded ops a.tmps) = false ∧ K (a.put o.dst undef) w)) : wpOp P ops Q i K a w := by
  unfold wpOp
  simp only [ho]
  rcases h with ⟨hw, hx⟩ | ⟨hw, hk⟩
  · rw [if_pos hw]
    left
    unfold xop at hx
    unfold Oper.wp
    generalize (execOp a.eval o).run P w = r at *
    cases r with
    | ok n w' =>
      cases n <;> simp only [xupon] at hx <;> simp only [Oper.upon]
      case value v => exact hx
      case skip => exact hx
      case enter f args =>
        refine hx.mono fun e w'' ⟨v, he, hk⟩ => ?_
        subst he
        exact hk
    | halt x w' => simp only [xupon] at hx
  · rw [if_neg (by rw [hw]; simp)]
    exact hk

theorem wpOp_of_x {Q : Exit → Act → World → Prop} {c i : Nat} {K K' : Act → World → Prop} {a : Act} {w : World} (h : ∀ a w, K a w → K' a w) (hx : xOp P ops c Q i K a w) : wpOp P ops Q i K' a w := by
  unfold xOp at hx
  split at hx
  · obtain ⟨o, v, ho, hy, hk⟩ := hx
    exact hy.wpOp ho (h _ _ hk)
  · exact wpOp_of_x0 h hx
  · exact wpOp_mono h hx

theorem wpAny_of_x {Q : Exit → Act → World → Prop} : ∀ (fuel : Nat) (listed : Array Bool) (a : Act) (w : World),
    xAny P md ops cls Q fuel listed a w → wpAny P md ops Q fuel listed a w
  | 0, _, _, _, h => ⟨h.1, h.2⟩
  | fuel + 1, _, _, _, h => ⟨fun h0 => h.1 h0, fun i hi => wpOp_of_x (fun a' w' h' => wpAny_of_x fuel _ a' w' h') (h.2 i hi)⟩

/-- In whatever world with more blocks, this operation yields this value, and leaves what there is. -/
def YQ (P : Program) (ops : Array Oper) (o : Oper) (v : Value) (a : Act) (w : World) : Prop :=
  (Region.wanted o (yielded ops a.tmps) = true ∧ ∀ w2, Up w w2 → xop P o a w2 fun u w3 => u = v ∧ Up w2 w3) ∨
  (Region.wanted o (yielded ops a.tmps) = false ∧ v = undef)

theorem YQ.up {o : Oper} {v : Value} {a : Act} {w w' : World} (h : YQ P ops o v a w) (hw : Up w w') : YQ P ops o v a w' := by
  rcases h with ⟨h1, h2⟩ | h
  · exact .inl ⟨h1, fun w2 h => h2 w2 (hw.trans h)⟩
  · exact .inr h

theorem YQ.of_same {o : Oper} {v : Value} {a a' : Act} {w : World} (hy : YQ P ops o v a w) (he : execOp a'.eval o = execOp a.eval o)
    (hw : Region.wanted o (yielded ops a'.tmps) = Region.wanted o (yielded ops a.tmps)) : YQ P ops o v a' w := by
  unfold YQ xop at *
  rw [he, hw]
  exact hy

theorem Yields.one {o : Oper} {v u : Value} {a : Act} (w : World) (h : Yields P ops o v a) (k : Yields P ops o u a) : u = v := by
  rcases h with ⟨h1, h2⟩ | ⟨h1, rfl⟩ <;> rcases k with ⟨k1, k2⟩ | ⟨k1, rfl⟩
  · have := (h2 w).symm.trans (k2 w)
    simp only [Result.ok.injEq, Next.value.injEq] at this
    exact this.1.symm
  · rw [h1] at k1; cases k1
  · rw [h1] at k1; cases k1
  · rfl

/-- The operation oj, that does not hang on oi, before oi instead of behind it. -/
theorem xOp_put {j : Nat} {oi oj : Oper} {v : Value} (hj : ops[j]? = some oj) (hap : oi.apart ops oj = true)
    (hsj : ∀ cs b, oj.op ≠ .select cs b) {K : Act → World → Prop} {a : Act} {w : World}
    (h : xOp0 P ops j K (a.put oi.dst v) w) : xOp0 P ops j (fun a' w' => Up w w' ∧ (∃ u, a' = a.put oj.dst u) ∧ K (a'.put oi.dst v) w') a w := by
  obtain ⟨h1, h2, _⟩ := Oper.apart_spec hap
  unfold xOp0 at *
  simp only [hj] at *
  rw [wanted_put oj a oi.dst v h1] at h
  split
  · rename_i hw
    simp only [hw, if_true] at h
    unfold xop at *
    rw [execOp_put oj hsj a oi.dst v h1] at h
    generalize (execOp a.eval oj).run P w = r at *
    have hh : ∀ u w', (Up w w' ∧ ∀ w'', Up w' w'' → K ((a.put oi.dst v).put oj.dst u) w'') →
        Up w w' ∧ ∀ w'', Up w' w'' → Up w w'' ∧ (∃ u', a.put oj.dst u = a.put oj.dst u') ∧ K ((a.put oj.dst u).put oi.dst v) w'' := by
      intro u w' ⟨g1, g2⟩
      exact ⟨g1, fun w'' hw'' => ⟨g1.trans hw'', ⟨u, rfl⟩, by rw [← Act.put_comm a v u h2]; exact g2 w'' hw''⟩⟩
    cases r with
    | ok n w' =>
      cases n <;> simp only [xupon] at h ⊢
      case value u => exact hh u w' h
      case skip => exact hh undef w' h
      case enter f args => exact h.mono fun e w'' ⟨u, he, hk⟩ => ⟨u, he, hh u w'' hk⟩
    | halt x w' => simp only [xupon] at h
  · rename_i hw
    simp only [hw] at h
    exact fun w' hw' => ⟨hw', ⟨undef, rfl⟩, by rw [← Act.put_comm a v undef h2]; exact h w' hw'⟩

/-- One of class 0, before oi instead of behind it. -/
theorem yields_put {oi oj : Oper} {u v : Value} (hap : oi.apart ops oj = true) (hsj : ∀ cs b, oj.op ≠ .select cs b) {K : Act → World → Prop} {a : Act} {w : World}
    (hy : Yields P ops oj u (a.put oi.dst v)) (hk : K ((a.put oi.dst v).put oj.dst u) w) : Yields P ops oj u a ∧ K ((a.put oj.dst u).put oi.dst v) w := by
  obtain ⟨h1, h2, _⟩ := Oper.apart_spec hap
  exact ⟨hy.of_same (execOp_put oj hsj a oi.dst v h1).symm (wanted_put oj a oi.dst v h1).symm, by rw [← Act.put_comm a v u h2]; exact hk⟩

/-- What xOp0 gives, in each world with more blocks. -/
theorem x0_step {j : Nat} {oj : Oper} {K K' : Act → World → Prop} {a : Act} {w : World} (hj : ops[j]? = some oj) (h : ∀ u w'', Up w w'' → K (a.put oj.dst u) w'' → K' (a.put oj.dst u) w'')
    (hx : xOp0 P ops j K a w) : xOp0 P ops j K' a w := by
  unfold xOp0 at *
  simp only [hj] at *
  split
  · rename_i hw
    simp only [hw, if_true] at hx
    exact xop_mono (fun u w' ⟨g1, g2⟩ => ⟨g1, fun w'' hw'' => h u w'' (g1.trans hw'') (g2 w'' hw'')⟩) hx
  · rename_i hw
    simp only [hw] at hx
    exact fun w' hw' => h undef w' hw' (hx w' hw')

theorem not_after {i : Nat} {oj : Oper} {listed : Array Bool} (hall : ∀ e ∈ oj.after, Region.binds md e = true → listed.getD e.on false = true) (hr : i ∈ Region.ready md ops listed) :
    ∀ e ∈ oj.after, Region.binds md e = true → e.on ≠ i := fun e he hb heq => by
  have h1 := hall e he hb
  have h0 := (mem_ready.1 hr).1
  rw [heq] at h1
  rcases Nat.lt_or_ge i listed.size with h' | h'
  · simp [h'] at h0 h1; rw [h0] at h1; cases h1
  · simp [Array.getElem?_eq_none h'] at h1

/-- One that looks at slots alone may be taken first, if each other one that is still to come waits for it or is apart from it. -/
theorem xAny_first0 {Q : Exit → Act → World → Prop} (hQ : ∀ c a w, ¬ Q (.panic c) a w) {i : Nat} {oi : Oper} {v : Value} (hi : ops[i]? = some oi) (hsel : ∀ (j : Nat) (o : Oper) cs b, ops[j]? = some o → o.op ≠ .select cs b) (hc : cls i = 0) :
    ∀ (fuel : Nat) (listed : Array Bool) (a : Act) (w : World),
      (∀ j oj, ops[j]? = some oj → j ≠ i → listed.getD j true = false → (∀ e ∈ oj.after, Region.binds md e = true → e.on ≠ i) → oi.apart ops oj = true) →
      i ∈ Region.ready md ops listed → Yields P ops oi v a →
      xAny P md ops cls Q fuel (listed.setIfInBounds i true) (a.put oi.dst v) w → xAny P md ops cls Q (fuel + 1) listed a w := by
  intro fuel
  have self : ∀ (fuel : Nat) (listed : Array Bool) (a : Act) (w : World), Yields P ops oi v a → xAny P md ops cls Q fuel (listed.setIfInBounds i true) (a.put oi.dst v) w →
      xOp P ops (cls i) Q i (xAny P md ops cls Q fuel (listed.setIfInBounds i true)) a w := by
    intro fuel listed a w hy H
    rw [hc]
    exact ⟨oi, v, hi, hy, H⟩
  induction fuel with
  | zero =>
    intro listed a w _ hr hy H
    refine ⟨fun h => (by rw [h] at hr; cases hr), fun j hj => ?_⟩
    by_cases hji : j = i
    · subst hji; exact self _ _ _ _ hy H
    · have := ready_mono hj hji
      rw [H.1] at this
      cases this
  | succ fuel ih =>
    intro listed a w hfree hr hy H
    refine ⟨fun h => (by rw [h] at hr; cases hr), fun j hj => ?_⟩
    by_cases hji : j = i
    · subst hji; exact self _ _ _ _ hy H
    · have h1 := H.2 j (ready_mono hj hji)
      obtain ⟨hjun, oj, hoj, hall⟩ := mem_ready.1 hj
      have hap := hfree j oj hoj hji hjun (not_after hall hr)
      have hfree' : ∀ k ok, ops[k]? = some ok → k ≠ i → (listed.setIfInBounds j true).getD k true = false →
          (∀ e ∈ ok.after, Region.binds md e = true → e.on ≠ i) → oi.apart ops ok = true := fun k ok hk hki hun hno => by
        refine hfree k ok hk hki ?_ hno
        by_cases hjk : j = k
        · subst hjk; exact hjun
        · rw [getD_set_ne true hjk] at hun; exact hun
      obtain ⟨_, _, h3⟩ := Oper.apart_spec hap
      have go : ∀ a' w', Yields P ops oi v a' → xAny P md ops cls Q fuel ((listed.setIfInBounds i true).setIfInBounds j true) (a'.put oi.dst v) w' →
          xAny P md ops cls Q (fuel + 1) (listed.setIfInBounds j true) a' w' := by
        intro a' w' hy' hk
        refine ih (listed.setIfInBounds j true) _ w' hfree' (ready_mono hr (Ne.symm hji)) hy' ?_
        rw [Array.setIfInBounds_comm _ _ hji]
        exact hk
      have keep : ∀ u, Yields P ops oi v (a.put oj.dst u) := fun u =>
        hy.of_same (execOp_put oi (fun cs b => hsel i oi cs b hi) a oj.dst u h3) (wanted_put oi a oj.dst u h3)
      unfold xOp at h1 ⊢
      split at h1
      · obtain ⟨o', u, ho', hyj, hk⟩ := h1
        rw [hoj] at ho'
        simp only [Option.some.injEq] at ho'
        subst ho'
        obtain ⟨y1, k1⟩ := yields_put (K := xAny P md ops cls Q fuel ((listed.setIfInBounds i true).setIfInBounds j true)) hap (fun cs b => hsel j oj cs b hoj) hyj hk
        exact ⟨oj, u, hoj, y1, go _ _ (keep u) k1⟩
      · have h2 := xOp_put hoj hap (fun cs b => hsel j oj cs b hoj) h1
        exact x0_step hoj (fun u w'' _ ⟨_, _, hk⟩ => go _ _ (keep u) hk) h2
      · have h2 := wpOp_put hoj hap (fun cs b => hsel i oi cs b hi) (fun cs b => hsel j oj cs b hoj) (fun c a w h => absurd h (hQ c _ w)) hy h1
        exact wpOp_mono (fun a' w' ⟨hy', hk⟩ => go a' w' hy' hk) h2

/-- One that only looks may be taken first, if each other one that is still to come waits for it, or is apart from it and writes nothing. -/
theorem xAny_first1 {Q : Exit → Act → World → Prop} {i : Nat} {oi : Oper} {v : Value} (hi : ops[i]? = some oi) (hsel : ∀ (j : Nat) (o : Oper) cs b, ops[j]? = some o → o.op ≠ .select cs b) (hc : cls i = 1) :
    ∀ (fuel : Nat) (listed : Array Bool) (a : Act) (w : World),
      (∀ j oj, ops[j]? = some oj → j ≠ i → listed.getD j true = false → (∀ e ∈ oj.after, Region.binds md e = true → e.on ≠ i) → oi.apart ops oj = true ∧ cls j < 2) →
      i ∈ Region.ready md ops listed → YQ P ops oi v a w →
      (∀ w', Up w w' → xAny P md ops cls Q fuel (listed.setIfInBounds i true) (a.put oi.dst v) w') → xAny P md ops cls Q (fuel + 1) listed a w := by
  intro fuel
  have self : ∀ (fuel : Nat) (listed : Array Bool) (a : Act) (w : World), YQ P ops oi v a w → (∀ w', Up w w' → xAny P md ops cls Q fuel (listed.setIfInBounds i true) (a.put oi.dst v) w') →
      xOp P ops (cls i) Q i (xAny P md ops cls Q fuel (listed.setIfInBounds i true)) a w := by
    intro fuel listed a w hy H
    rw [hc]
    show xOp0 P ops i _ a w
    unfold xOp0
    simp only [hi]
    rcases hy with ⟨hw, hv⟩ | ⟨hw, rfl⟩
    · simp only [hw, if_true]
      refine xop_mono (fun u w' ⟨e, hu⟩ => ?_) (hv w (Up.refl w))
      subst e
      exact ⟨hu, fun w'' hw'' => H w'' (hu.trans hw'')⟩
    · simp only [hw, Bool.false_eq_true, if_false]
      exact H
  induction fuel with
  | zero =>
    intro listed a w _ hr hy H
    refine ⟨fun h => (by rw [h] at hr; cases hr), fun j hj => ?_⟩
    by_cases hji : j = i
    · subst hji; exact self _ _ _ _ hy H
    · have := ready_mono hj hji
      rw [(H w (Up.refl w)).1] at this
      cases this
  | succ fuel ih =>
    intro listed a w hfree hr hy H
    refine ⟨fun h => (by rw [h] at hr; cases hr), fun j hj => ?_⟩
    by_cases hji : j = i
    · subst hji; exact self _ _ _ _ hy H
    · obtain ⟨hjun, oj, hoj, hall⟩ := mem_ready.1 hj
      obtain ⟨hap, hcj⟩ := hfree j oj hoj hji hjun (not_after hall hr)
      have hfree' : ∀ k ok, ops[k]? = some ok → k ≠ i → (listed.setIfInBounds j true).getD k true = false →
          (∀ e ∈ ok.after, Region.binds md e = true → e.on ≠ i) → oi.apart ops ok = true ∧ cls k < 2 := fun k ok hk hki hun hno => by
        refine hfree k ok hk hki ?_ hno
        by_cases hjk : j = k
        · subst hjk; exact hjun
        · rw [getD_set_ne true hjk] at hun; exact hun
      obtain ⟨_, _, h3⟩ := Oper.apart_spec hap
      have go : ∀ u w', Up w w' → (∀ w'', Up w' w'' → xAny P md ops cls Q fuel ((listed.setIfInBounds i true).setIfInBounds j true) ((a.put oj.dst u).put oi.dst v) w'') →
          xAny P md ops cls Q (fuel + 1) (listed.setIfInBounds j true) (a.put oj.dst u) w' := by
        intro u w' hw' hk
        refine ih (listed.setIfInBounds j true) _ w' hfree' (ready_mono hr (Ne.symm hji)) ((hy.up hw').of_same (execOp_put oi (fun cs b => hsel i oi cs b hi) a oj.dst u h3) (wanted_put oi a oj.dst u h3)) ?_
        rw [Array.setIfInBounds_comm _ _ hji]
        exact hk
      have h1 := fun w' hw' => (H w' hw').2 j (ready_mono hj hji)
      have hcases : cls j = 0 ∨ cls j = 1 := by omega
      rcases hcases with h0 | h0
      · rw [h0] at h1 ⊢
        obtain ⟨o', u, ho', hyj, _⟩ := h1 w (Up.refl w)
        rw [hoj] at ho'
        simp only [Option.some.injEq] at ho'
        subst ho'
        have hall' : ∀ w', Up w w' → Yields P ops oj u a ∧ xAny P md ops cls Q fuel ((listed.setIfInBounds i true).setIfInBounds j true) ((a.put oj.dst u).put oi.dst v) w' := by
          intro w' hw'
          obtain ⟨o2, u2, ho2, hy2, hk2⟩ := h1 w' hw'
          rw [hoj] at ho2
          simp only [Option.some.injEq] at ho2
          subst ho2
          have := Yields.one w hyj hy2
          subst this
          exact yields_put (K := xAny P md ops cls Q fuel ((listed.setIfInBounds i true).setIfInBounds j true)) hap (fun cs b => hsel j oj cs b hoj) hy2 hk2
        exact ⟨oj, u, hoj, (hall' w (Up.refl w)).1, go u w (Up.refl w) fun w'' hw'' => (hall' w'' hw'').2⟩
      · rw [h0] at h1 ⊢
        have h2 := xOp_put hoj hap (fun cs b => hsel j oj cs b hoj) (h1 w (Up.refl w))
        -- behind j, in each world with more blocks
        have h4 : xOp0 P ops j (fun a' w' => ∀ w'', Up w' w'' → ∃ u, a' = a.put oj.dst u ∧ xAny P md ops cls Q fuel ((listed.setIfInBounds i true).setIfInBounds j true) ((a.put oj.dst u).put oi.dst v) w'') a w := by
          unfold xOp0 at h2 ⊢
          simp only [hoj] at h2 ⊢
          have fin : ∀ u w'', (∀ w3, Up w'' w3 → (∃ u', a.put oj.dst u = a.put oj.dst u') ∧ xAny P md ops cls Q fuel ((listed.setIfInBounds i true).setIfInBounds j true) ((a.put oj.dst u).put oi.dst v) w3) →
              ∀ w3, Up w'' w3 → ∃ u', a.put oj.dst u = a.put oj.dst u' ∧ xAny P md ops cls Q fuel ((listed.setIfInBounds i true).setIfInBounds j true) ((a.put oj.dst u').put oi.dst v) w3 :=
            fun u w'' hk w3 hw3 => ⟨u, rfl, (hk w3 hw3).2⟩
          split
          · rename_i hw
            simp only [hw, if_true] at h2
            exact xop_mono (fun u w' ⟨g1, g2⟩ => ⟨g1, fun w'' hw'' => fin u w'' fun w3 hw3 => (g2 w3 (hw''.trans hw3)).2⟩) h2
          · rename_i hw
            simp only [hw] at h2
            exact fun w' hw' => fin undef w' fun w3 hw3 => (h2 w3 (hw'.trans hw3)).2
        refine x0_step hoj (fun u w'' hw'' hk => go u w'' hw'' fun w3 hw3 => ?_) h4
        obtain ⟨u', he, hx⟩ := hk w3 hw3
        rw [he]
        exact hx

end
end Go.Am

set_option linter.unusedVariables false
set_option linter.unusedSimpArgs false
namespace Go.Am
open Go.RowKit

/-! What is the same is the same. -/

theorem beqA_eq {a b : Option Addr} (h : beqA a b = true) : a = b := by
  unfold beqA at h
  split at h
  · rfl
  · rename_i a b
    simp only [Bool.and_eq_true] at h
    obtain ⟨h1, h2, h3, h4⟩ := h
    have h1 := Nat.eq_of_beq_eq_true h1
    have h2 := Nat.eq_of_beq_eq_true h2
    cases a; cases b
    simp_all
  · cases h

theorem beqL_eq {f : Value → Value → Bool} (hf : ∀ a b, f a b = true → a = b) : ∀ {l m : List Value}, beqL f l m = true → l = m
  | [], [], _ => rfl
  | a :: l, b :: m, h => by
    simp only [beqL, Bool.and_eq_true] at h
    rw [hf _ _ h.1, beqL_eq hf h.2]
  | [], _ :: _, h => by simp [beqL] at h
  | _ :: _, [], h => by simp [beqL] at h

theorem beqV_eq : ∀ (n : Nat) (v v' : Value), beqV n v v' = true → v = v' := by
  intro n
  induction n with
  | zero =>
    intro v v' h
    unfold beqV at h
    split at h <;> first | cases h | skip
    · simp only [beq_iff_eq] at h; rw [h]
    · simp only [Bool.and_eq_true, decide_eq_true_eq] at h; rw [h.1, h.2]
    · simp only [decide_eq_true_eq] at h
      congr 1
      exact ByteArray.ext (Array.ext' h)
    · rw [beqA_eq h]
    · simp only [Bool.and_eq_true] at h
      rw [beqA_eq h.1, Nat.eq_of_beq_eq_true h.2.1, Nat.eq_of_beq_eq_true h.2.2]
    · rfl
    · rw [Nat.eq_of_beq_eq_true h]
    · rfl
    · rfl
    all_goals omega
  | succ n ih =>
    intro v v' h
    have arr : ∀ {a b : Array Value}, beqL (beqV n) a.toList b.toList = true → a = b := fun h => Array.ext' (beqL_eq ih h)
    unfold beqV at h
    split at h <;> first | cases h | skip
    · simp only [beq_iff_eq] at h; rw [h]
    · simp only [Bool.and_eq_true, decide_eq_true_eq] at h; rw [h.1, h.2]
    · simp only [decide_eq_true_eq] at h
      congr 1
      exact ByteArray.ext (Array.ext' h)
    · rw [beqA_eq h]
    · simp only [Bool.and_eq_true] at h
      rw [beqA_eq h.1, Nat.eq_of_beq_eq_true h.2.1, Nat.eq_of_beq_eq_true h.2.2]
    · rfl
    · rw [Nat.eq_of_beq_eq_true h]
    · rfl
    · rfl
    · rename_i k _ _ _ _ _ _ hk
      cases hk
      simp only [Bool.and_eq_true, decide_eq_true_eq] at h
      rw [h.1, arr h.2.1, arr h.2.2]
    · rename_i k _ _ _ _ hk
      cases hk
      simp only [Bool.and_eq_true] at h
      rw [Nat.eq_of_beq_eq_true h.1, ih _ _ h.2]
    · rename_i k _ _ hk
      cases hk
      rw [arr h]
    · rename_i k _ _ hk
      cases hk
      rw [arr h]

theorem beqE_eq : ∀ {l m : List MapEntry}, beqE l m = true → l = m
  | [], [], _ => rfl
  | a :: l, b :: m, h => by
    simp only [beqE, Bool.and_eq_true] at h
    obtain ⟨h1, h2, h3, h4⟩ := h
    rw [beqE_eq h4]
    have e1 := beqV_eq _ _ _ h1
    have e2 := beqV_eq _ _ _ h2
    have e3 := Nat.eq_of_beq_eq_true h3
    cases a; cases b
    simp_all
  | [], _ :: _, h => by simp [beqE] at h
  | _ :: _, [], h => by simp [beqE] at h

theorem beqO_eq {a b : AObj} (h : beqO a b = true) : a = b := by
  unfold beqO at h
  split at h
  · simp only [Bool.and_eq_true] at h
    rw [beqL_eq (beqV_eq 20) h.1, Nat.eq_of_beq_eq_true h.2]
  · simp only [Bool.and_eq_true] at h
    rw [beqE_eq h.1, Nat.eq_of_beq_eq_true h.2]
  · simp only [Bool.and_eq_true, decide_eq_true_eq] at h
    rw [Nat.eq_of_beq_eq_true h.2]
    congr 1
    exact ByteArray.ext (Array.ext' h.1)
  · rfl
  · cases h

theorem beqT_eq {α : Type} {f : α → α → Bool} (hf : ∀ a b, f a b = true → a = b) : ∀ {s t : T α}, beqT f s t = true → s = t
  | .nil, .nil, _ => rfl
  | .node v l r, .node v' l' r', h => by
    simp only [beqT, Bool.and_eq_true] at h
    obtain ⟨h1, h2, h3⟩ := h
    rw [beqT_eq hf h2, beqT_eq hf h3]
    congr 1
    cases v <;> cases v' <;> simp only [beqN] at h1 <;> first | rfl | cases h1 | rw [hf _ _ h1]
  | .nil, .node .., h => by simp [beqT] at h
  | .node .., .nil, h => by simp [beqT] at h

theorem beqS_eq {s s' : St} (h : beqS s s' = true) : s = s' := by
  unfold beqS at h
  simp only [Bool.and_eq_true] at h
  obtain ⟨⟨⟨h0, h0'⟩, h1⟩, h2, h3⟩ := h
  have e1 := beqT_eq (beqV_eq 20) h1
  have e2 := beqT_eq (fun a b => beqO_eq) h2
  have e3 := Nat.eq_of_beq_eq_true h3
  obtain ⟨⟨l, tm⟩, hp, nx⟩ := s
  obtain ⟨⟨l', tm'⟩, hp', nx'⟩ := s'
  simp_all

/-! Orders. -/

theorem sameS.refl' (lv : Nat → Bool) (s : St) (h : s.1.loc = []) : sameS lv s s := ⟨fun _ => rfl, h, fun _ => rfl, rfl⟩

theorem runPlan_loc {lv : Nat → Bool} {step : Nat → Bool → TM → FW → Option St} : ∀ {p : Plan} {tm : TM} {H : FW} {s : St}, runPlan lv step p tm H = some s → s.1.loc = []
  | .done, tm, H, s, h => by
    have h' : some (tm.flush lv, H) = some s := h
    simp only [Option.some.injEq] at h'
    subst h'; rfl
  | .look j r, tm, H, s, h => by
    have h' : goS (step j true tm H) (runPlan lv step r) = some s := h
    cases hs : step j true tm H with
    | none => rw [hs] at h'; cases h'
    | some x =>
      obtain ⟨tm1, H1⟩ := x
      rw [hs] at h'
      exact runPlan_loc (p := r) h'
  | .alt j r other, tm, H, s, h => by
    have h' : altS lv (isStop other) (goS (step j false tm H) (runPlan lv step r)) (runPlan lv step other tm H) = some s := h
    cases hs : goS (step j false tm H) (runPlan lv step r) with
    | none => rw [hs] at h'; cases h'
    | some x =>
      have hx : x = s := by
        rw [hs] at h'
        unfold altS at h'
        simp only at h'
        cases hst : isStop other with
        | true => rw [hst, cond_true] at h'; simpa using h'
        | false =>
          rw [hst, cond_false] at h'
          split at h'
          · obtain ⟨_, h'⟩ := some_of_cond h'; simpa using h'
          · cases h'
      subst hx
      cases hst : step j false tm H with
      | none => rw [hst] at hs; cases hs
      | some y =>
        obtain ⟨tm1, H1⟩ := y
        rw [hst] at hs
        exact runPlan_loc (p := r) hs
  | .stop, _, _, _, h => by cases h

theorem altsOf_run {lv : Nat → Bool} {step : Nat → Bool → TM → FW → Option St} {f : Nat → Option Plan} {tm : TM} {H : FW} {s : St} : ∀ {l : List Nat} {p : Plan}, altsOf f l = some p → runPlan lv step p tm H = some s →
    ∀ j ∈ l, ∃ r s', f j = some r ∧ goS (step j false tm H) (runPlan lv step r) = some s' ∧ sameS lv s s'
  | [], p, h, hr, j, hj => by cases hj
  | i :: l, p, h, hr, j, hj => by
    have hloc := runPlan_loc hr
    unfold altsOf at h
    split at h
    · rename_i r p' hf ha
      simp only [Option.some.injEq] at h
      subst h
      have hr' : altS lv (isStop p') (goS (step i false tm H) (runPlan lv step r)) (runPlan lv step p' tm H) = some s := hr
      unfold altS at hr'
      split at hr'
      · rename_i s1 hs1
        cases hst : isStop p' with
        | true =>
          rw [hst, cond_true] at hr'
          simp only [Option.some.injEq] at hr'
          subst hr'
          have hl : l = [] := by
            cases l with
            | nil => rfl
            | cons i2 l2 =>
              unfold altsOf at ha
              split at ha
              · simp only [Option.some.injEq] at ha
                subst ha
                cases hst
              · cases ha
          subst hl
          have : j = i := by simpa using hj
          subst this
          exact ⟨r, _, hf, hs1, sameS.refl' lv _ hloc⟩
        | false =>
          rw [hst, cond_false] at hr'
          split at hr'
          · rename_i s2 hs2
            obtain ⟨hb, hr'⟩ := some_of_cond hr'
            simp only [Option.some.injEq] at hr'
            have hsame := @of_decide_eq_true _ (Classical.propDecidable _) hb
            subst hr'
            rcases List.mem_cons.1 hj with rfl | hj
            · exact ⟨r, _, hf, hs1, sameS.refl' lv _ hloc⟩
            · obtain ⟨r', s', h1, h2, h3⟩ := altsOf_run ha hs2 j hj
              exact ⟨r', s', h1, h2, fun t => (hsame.1 t).trans (h3.1 t), hloc, fun b => (hsame.2.2.1 b).trans (h3.2.2.1 b), hsame.2.2.2.trans h3.2.2.2⟩
          · cases hr'
      · cases hr'
    · cases h

def clsA (P : Program) (calls : Bool) (ops : Array Oper) (i : Nat) : Nat :=
  match ops[i]? with
  | some o => (match kindA P o.op with
    | 0 => 0
    | 1 => 1
    | 2 => 1
    | 4 => bif calls then 1 else 2
    | _ => 2)
  | none => 2

section
variable {I : World → Prop} {P : Program} {R n : Nat} {F : Nat → World → Prop} {ops : Array Oper} {calls : Bool} {call : CallF}

theorem compL_get {lv : Nat → Bool} {j : Nat} {o : Oper} (ho : ops[j]? = some o) : (compL P lv n ops)[j]? = some (compO P lv n ops o) := by
  unfold compL
  rw [List.getElem?_map, Array.getElem?_toList, ho]
  rfl

/-! Sets of numbers by bits. -/

theorem bitN_eq (t : Nat) : bitN t = 2 ^ t := by
  show 1 <<< t = 2 ^ t
  rw [Nat.one_shiftLeft]

theorem bitN_test (t i : Nat) : (bitN t).testBit i = decide (t = i) := by rw [bitN_eq, Nat.testBit_two_pow]

theorem maskL_test : ∀ (l : List Nat) (i : Nat), (maskL l).testBit i = true ↔ i ∈ l
  | [], i => by
    show (0 : Nat).testBit i = true ↔ _
    simp
  | t :: r, i => by
    show (bitN t ||| maskL r).testBit i = true ↔ _
    rw [Nat.testBit_or, Bool.or_eq_true, bitN_test, maskL_test r i, List.mem_cons, decide_eq_true_eq]
    constructor
    · rintro (h | h)
      · exact .inl h.symm
      · exact .inr h
    · rintro (h | h)
      · exact .inl h.symm
      · exact .inr h

theorem land_zero {a b : Nat} : Nat.beq (Nat.land a b) 0 = true ↔ ∀ i, a.testBit i = true → b.testBit i = false := by
  constructor
  · intro h i hi
    have h0 : a &&& b = 0 := Nat.eq_of_beq_eq_true h
    have := Nat.testBit_and a b i
    rw [h0, Nat.zero_testBit, hi, Bool.true_and] at this
    exact this.symm
  · intro h
    have h0 : a &&& b = 0 := by
      apply Nat.eq_of_testBit_eq
      intro i
      rw [Nat.testBit_and, Nat.zero_testBit]
      cases ha : a.testBit i with
      | false => rfl
      | true => rw [h i ha]; rfl
    have h1 : Nat.land a b = 0 := h0
    rw [h1]
    rfl

theorem land_bit {t m : Nat} : Nat.beq (Nat.land (bitN t) m) 0 = true ↔ m.testBit t = false := by
  rw [land_zero]
  constructor
  · intro h
    exact h t (by rw [bitN_test]; simp)
  · intro h i hi
    rw [bitN_test] at hi
    have : t = i := by simpa using hi
    rw [← this]; exact h

theorem beq_false {a b : Nat} (h : ¬ Nat.beq a b = true) : Nat.beq a b = false := by
  cases hb : Nat.beq a b with
  | false => rfl
  | true => exact absurd hb h

theorem msFrom_mem : ∀ (l : List Oper) (k : Nat) (m : OpM), m ∈ msFrom P ops k l ↔ ∃ i o, l[i]? = some o ∧ m = opM P ops (k + i) o
  | [], k, m => by simp [msFrom]
  | o :: r, k, m => by
    simp only [msFrom, List.mem_cons]
    rw [msFrom_mem r (k + 1) m]
    constructor
    · rintro (h | ⟨i, o', h1, h2⟩)
      · exact ⟨0, o, rfl, by simpa using h⟩
      · exact ⟨i + 1, o', by simpa using h1, by rw [h2]; congr 1; omega⟩
    · rintro ⟨i, o', h1, h2⟩
      cases i with
      | zero =>
        simp only [List.getElem?_cons_zero, Option.some.injEq] at h1
        subst h1
        exact .inl (by simpa using h2)
      | succ i => exact .inr ⟨i, o', by simpa using h1, by rw [h2]; congr 1; omega⟩

/-- The operations that are still to come, by bits. -/
def Rel (rem : Nat) (listed : Array Bool) : Prop := ∀ j, rem.testBit j = !(listed.getD j true)

theorem Rel.step {rem : Nat} {listed : Array Bool} (h : Rel rem listed) {j : Nat} (hj : listed.getD j true = false) : Rel (Nat.xor rem (bitN j)) (listed.setIfInBounds j true) := by
  intro i
  show (rem ^^^ bitN j).testBit i = _
  rw [Nat.testBit_xor, h i, bitN_test]
  by_cases hji : j = i
  · subst hji
    rw [hj]
    have : (listed.setIfInBounds j true).getD j true = true := by
      rw [Array.getD_eq_getD_getElem?, Array.getElem?_setIfInBounds, if_pos rfl]
      by_cases hs : j < listed.size
      · rw [if_pos hs]; rfl
      · rw [if_neg hs]; rfl
    rw [this]
    simp
  · rw [getD_set_ne true hji]
    simp [hji]

/-- What each operation waits for lies in the region. -/
def Inside (ops : Array Oper) : Prop := ∀ (j : Nat) (o : Oper), ops[j]? = some o → ∀ e ∈ o.after, Region.binds .any e = true → e.on < ops.size

theorem after_test {i : Nat} {o : Oper} (k : Nat) : (opM P ops i o).A.testBit k = true ↔ ∃ e ∈ o.after, Region.binds .any e = true ∧ e.on = k := by
  show (maskL _).testBit k = true ↔ _
  rw [maskL_test]
  simp only [List.mem_map, List.mem_filter, Array.mem_toList_iff]
  constructor
  · rintro ⟨e, ⟨h1, h2⟩, h3⟩; exact ⟨e, h1, h2, h3⟩
  · rintro ⟨e, h1, h2, h3⟩; exact ⟨e, ⟨h1, h2⟩, h3⟩

theorem ready_mask {rem : Nat} {listed : Array Bool} (hrel : Rel rem listed) (hin : Inside ops) (hsz : listed.size = ops.size) {j : Nat} :
    j ∈ Region.ready .any ops listed ↔ ∃ o, ops[j]? = some o ∧ opM P ops j o ∈ readyM rem (msFrom P ops 0 ops.toList) := by
  rw [mem_ready]
  have hmem : ∀ o, ops[j]? = some o → opM P ops j o ∈ msFrom P ops 0 ops.toList := fun o ho =>
    (msFrom_mem _ _ _).2 ⟨j, o, by rw [Array.getElem?_toList]; exact ho, by rw [Nat.zero_add]⟩
  have hget : ∀ k, k < ops.size → listed.getD k true = listed.getD k false := fun k hk => by
    have : k < listed.size := by omega
    simp [Array.getD_eq_getD_getElem?, Array.getElem?_eq_getElem this]
  constructor
  · rintro ⟨h1, o, ho, h2⟩
    refine ⟨o, ho, List.mem_filter.2 ⟨hmem o ho, ?_⟩⟩
    rw [Bool.and_eq_true]
    refine ⟨?_, land_zero.2 fun k hk => ?_⟩
    · rw [Bool.not_eq_true']
      refine beq_false fun hb => ?_
      have hb' := land_bit.1 hb
      rw [hrel j, h1] at hb'
      cases hb'
    · obtain ⟨e, he, hb, rfl⟩ := (after_test k).1 hk
      have := h2 e he hb
      rw [hrel, hget _ (hin j o ho e he hb), this]
      rfl
  · rintro ⟨o, ho, hm⟩
    obtain ⟨_, hm⟩ := List.mem_filter.1 hm
    rw [Bool.and_eq_true, Bool.not_eq_true'] at hm
    have h1 : listed.getD j true = false := by
      cases hl : listed.getD j true with
      | false => rfl
      | true =>
        have : Nat.beq (Nat.land (bitN j) rem) 0 = true := land_bit.2 (by rw [hrel, hl]; rfl)
        have h' : Nat.beq (Nat.land (bitN j) rem) 0 = false := hm.1
        rw [this] at h'; cases h'
    refine ⟨h1, o, ho, fun e he hb => ?_⟩
    have h3 := land_zero.1 hm.2 e.on ((after_test e.on).2 ⟨e, he, hb, rfl⟩)
    rw [hrel, hget _ (hin j o ho e he hb)] at h3
    simpa using h3

/-- May this one be taken first? -/
def FirstOk (P : Program) (calls : Bool) (ops : Array Oper) (listed : Array Bool) (j : Nat) : Prop :=
  ∃ o, ops[j]? = some o ∧ (kindA P o.op = 0 ∨ kindA P o.op = 1 ∨ (kindA P o.op = 4 ∧ calls = true)) ∧
    ∀ k ok, ops[k]? = some ok → k ≠ j → listed.getD k true = false → (∀ e ∈ ok.after, Region.binds .any e = true → e.on ≠ j) → o.apart ops ok = true ∧ (kindA P o.op = 0 ∨ wrK calls (kindA P ok.op) = false)

theorem dst_test {o : Oper} {d : Tmp} : (dstM o.dst).testBit d = true ↔ o.dst = some d := by
  cases ho : o.dst with
  | none => simp [dstM]
  | some t => simp [dstM, bitN_test]

theorem firstM_ok {rem : Nat} {listed : Array Bool} (hrel : Rel rem listed) {j : Nat} {o : Oper} (ho : ops[j]? = some o) (h : firstM calls rem (msFrom P ops 0 ops.toList) (opM P ops j o) = true) : FirstOk P calls ops listed j := by
  unfold firstM at h
  rw [Bool.and_eq_true] at h
  obtain ⟨hk, hf⟩ := h
  refine ⟨o, ho, ?_, fun k ok hok hne hun hno => ?_⟩
  · simp only [Bool.or_eq_true, Bool.and_eq_true] at hk
    rcases hk with hk | hk | hk
    · exact .inl (Nat.eq_of_beq_eq_true hk)
    · exact .inr (.inl (Nat.eq_of_beq_eq_true hk))
    · exact .inr (.inr ⟨Nat.eq_of_beq_eq_true hk.2, hk.1⟩)
  · unfold freeM at hf
    rw [List.all_eq_true] at hf
    have hx := hf (opM P ops k ok) ((msFrom_mem _ _ _).2 ⟨k, ok, by rw [Array.getElem?_toList]; exact hok, by rw [Nat.zero_add]⟩)
    simp only [Bool.or_eq_true, Bool.and_eq_true, Bool.not_eq_true'] at hx
    rcases hx with hx | hx | hx | hx
    · have hx' := land_bit.1 hx
      rw [hrel k, hun] at hx'
      cases hx'
    · exact absurd (Nat.eq_of_beq_eq_true hx) hne
    · exfalso
      have : Nat.beq (Nat.land (opM P ops k ok).A (bitN j)) 0 = true := land_zero.2 fun i hi => by
        obtain ⟨e, he, hb, rfl⟩ := (after_test i).1 hi
        rw [bitN_test]
        have := hno e he hb
        simp [Ne.symm this]
      have hx' : Nat.beq (Nat.land (opM P ops k ok).A (bitN j)) 0 = false := hx
      rw [this] at hx'; cases hx'
    · obtain ⟨h1, h2, h3⟩ := hx
      have h1 := land_zero.1 h1
      have h2 := land_zero.1 h2
      refine ⟨?_, ?_⟩
      · unfold Oper.apart
        rw [Bool.and_eq_true]
        constructor
        · cases hd : o.dst with
          | none => rfl
          | some d =>
            have hb := h1 d (dst_test.2 hd)
            have hb' : ((opM P ops k ok).L ||| (opM P ops k ok).D).testBit d = false := hb
            rw [Nat.testBit_or, Bool.or_eq_false_iff] at hb'
            simp only [Bool.and_eq_true, Bool.not_eq_true', bne_iff_ne, ne_eq]
            refine ⟨?_, fun he => ?_⟩
            · cases hc : (ok.looksAt ops).contains d with
              | false => rfl
              | true =>
                have : (maskL (ok.looksAt ops)).testBit d = true := (maskL_test _ _).2 (by simpa using hc)
                have hL : (maskL (ok.looksAt ops)).testBit d = false := hb'.1
                rw [this] at hL; cases hL
            · have hD : (dstM ok.dst).testBit d = false := hb'.2
              rw [dst_test.2 he] at hD; cases hD
        · cases hd : ok.dst with
          | none => rfl
          | some d =>
            simp only [Bool.not_eq_true']
            cases hc : (o.looksAt ops).contains d with
            | false => rfl
            | true =>
              have hl : (opM P ops j o).L.testBit d = true := (maskL_test _ _).2 (by simpa using hc)
              have hD : (dstM ok.dst).testBit d = false := h2 d hl
              rw [dst_test.2 hd] at hD; cases hD
      · rcases h3 with h3 | h3
        · exact .inl (Nat.eq_of_beq_eq_true h3)
        · exact .inr h3

/-- A plan is one of the region's. -/
def PlanOk (P : Program) (calls : Bool) (ops : Array Oper) : Nat → Array Bool → Plan → Prop
  | 0, listed, p => p = .done ∧ Region.ready .any ops listed = []
  | f + 1, listed, p => (p = .done ∧ Region.ready .any ops listed = []) ∨
    (∃ j r, p = .look j r ∧ j ∈ Region.ready .any ops listed ∧ FirstOk P calls ops listed j ∧ PlanOk P calls ops f (listed.setIfInBounds j true) r) ∨
    (Region.ready .any ops listed ≠ [] ∧ ∃ g l, altsOf g l = some p ∧ (∀ j ∈ Region.ready .any ops listed, j ∈ l) ∧ ∀ j ∈ Region.ready .any ops listed, ∀ r, g j = some r → PlanOk P calls ops f (listed.setIfInBounds j true) r)

theorem planM_ok (hin : Inside ops) : ∀ (f rem : Nat) (listed : Array Bool) (p : Plan), Rel rem listed → listed.size = ops.size → planM calls (msFrom P ops 0 ops.toList) f rem = some p → PlanOk P calls ops f listed p
  | 0, rem, listed, p, hrel, hsz, h => by
    unfold planM at h
    obtain ⟨he, h⟩ := some_of_cond h
    simp only [Option.some.injEq] at h
    refine ⟨h.symm, List.eq_nil_iff_forall_not_mem.2 fun j hj => ?_⟩
    obtain ⟨o, _, hm⟩ := (ready_mask hrel hin hsz).1 hj
    have : readyM rem (msFrom P ops 0 ops.toList) = [] := by simpa using he
    rw [this] at hm; cases hm
  | f + 1, rem, listed, p, hrel, hsz, h => by
    unfold planM at h
    have hlt : ∀ j ∈ Region.ready .any ops listed, listed.getD j true = false := fun j hj => (mem_ready.1 hj).1
    cases hl : readyM rem (msFrom P ops 0 ops.toList) with
    | nil =>
      rw [hl] at h
      simp only [Option.some.injEq] at h
      refine .inl ⟨h.symm, List.eq_nil_iff_forall_not_mem.2 fun j hj => ?_⟩
      obtain ⟨o, _, hm⟩ := (ready_mask hrel hin hsz).1 hj
      rw [hl] at hm; cases hm
    | cons x xs =>
      rw [hl] at h
      simp only at h
      have back : ∀ m ∈ x :: xs, ∃ o, ops[m.i]? = some o ∧ m = opM P ops m.i o ∧ m.i ∈ Region.ready .any ops listed := by
        intro m hm
        rw [← hl] at hm
        obtain ⟨i, o, ho, rfl⟩ := (msFrom_mem _ _ _).1 (List.mem_filter.1 hm).1
        rw [Array.getElem?_toList] at ho
        rw [Nat.zero_add] at hm ⊢
        exact ⟨o, ho, rfl, (ready_mask hrel hin hsz).2 ⟨o, ho, hm⟩⟩
      split at h
      · rename_i m hfind
        split at h
        · rename_i r hr
          simp only [Option.some.injEq] at h
          obtain ⟨o, ho, hmo, hrd⟩ := back m (List.mem_of_find?_eq_some hfind)
          have hfirst := List.find?_some hfind
          rw [hmo] at hfirst hr
          exact .inr (.inl ⟨m.i, r, h.symm, hrd, firstM_ok hrel ho hfirst, planM_ok hin f _ _ r (hrel.step (hlt _ hrd)) (by simpa using hsz) hr⟩)
        · cases h
      · refine .inr (.inr ⟨?_, _, _, h, fun j hj => ?_, fun j hj r hr => planM_ok hin f _ _ r (hrel.step (hlt _ hj)) (by simpa using hsz) hr⟩)
        · obtain ⟨_, _, _, hrd⟩ := back x (List.mem_cons_self ..)
          intro h0
          rw [h0] at hrd; cases hrd
        · obtain ⟨o, _, hm⟩ := (ready_mask hrel hin hsz).1 hj
          rw [hl] at hm
          exact List.mem_map.2 ⟨_, hm, rfl⟩

theorem planA_ok {p : Plan} (h : planA P calls ops = some p) : PlanOk P calls ops ops.size (Array.replicate ops.size false) p := by
  unfold planA at h
  obtain ⟨hall, h⟩ := some_of_cond h
  rw [List.all_eq_true] at hall
  refine planM_ok (fun j o ho e he hb => ?_) _ _ _ p (fun j => ?_) (by simp) h
  · have hA := hall (opM P ops j o) ((msFrom_mem _ _ _).2 ⟨j, o, by rw [Array.getElem?_toList]; exact ho, by rw [Nat.zero_add]⟩)
    rw [Nat.blt_eq, bitN_eq] at hA
    have ht := (after_test (P := P) (ops := ops) (i := j) e.on).2 ⟨e, he, hb, rfl⟩
    rcases Nat.lt_or_ge e.on ops.size with h1 | h1
    · exact h1
    · rw [Nat.testBit_lt_two_pow (Nat.lt_of_lt_of_le hA (Nat.pow_le_pow_right (by omega) h1))] at ht
      cases ht
  · rw [bitN_eq, Nat.testBit_two_pow_sub_one, Array.getD_eq_getD_getElem?, Array.getElem?_replicate]
    by_cases hj : j < ops.size
    · simp [hj]
    · simp [hj]

theorem kind_lt (op : Op) : kindA P op < 5 := by
  by_cases hcv : ∃ s d x, op = .convert s d x
  · obtain ⟨s, d, x, rfl⟩ := hcv
    simp only [kindA]
    cases isBytesC P s d
    · exact (by decide : (1 : Nat) < 5)
    · exact (by decide : (3 : Nat) < 5)
  cases op <;> first | exact absurd ⟨_, _, _, rfl⟩ hcv | (simp only [kindA]; omega) | skip
  rename_i c
  obtain ⟨callee, args, tys⟩ := c
  cases callee with
  | builtin b => cases b <;> simp [kindA]
  | _ => simp [kindA]

theorem wr_cls {j : Nat} {o : Oper} (ho : ops[j]? = some o) (h : wrK calls (kindA P o.op) = false) : clsA P calls ops j < 2 := by
  unfold wrK at h
  rw [Bool.or_eq_false_iff] at h
  have h5 := kind_lt (P := P) o.op
  have h3 : kindA P o.op ≠ 3 := by
    intro e
    rw [e] at h
    exact absurd h.1 (by decide)
  unfold clsA
  rw [ho]
  simp only
  have hk : kindA P o.op = 0 ∨ kindA P o.op = 1 ∨ kindA P o.op = 2 ∨ kindA P o.op = 4 := by omega
  rcases hk with hk | hk | hk | hk
  · rw [hk]; exact Nat.zero_lt_two
  · rw [hk]; exact Nat.one_lt_two
  · rw [hk]; exact Nat.one_lt_two
  · rw [hk] at h ⊢
    have : calls = true := by
      have h2 := h.2
      cases calls with
      | true => rfl
      | false => exact absurd h2 (by decide)
    rw [this]
    exact Nat.one_lt_two

theorem sameS.wr {lv : Nat → Bool} {tm tm' : TM} {H H' : FW} {w : World} {β : Bm} (h : sameS lv (tm, H) (tm', H')) (hw : WR P F β H' w) : WR P F β H w := by
  have hg : ∀ b, H.heap.get b = H'.heap.get b := h.2.2.1
  exact ⟨hw.gl, fun o ho hn => hw.fresh o ho (by rw [← hg]; exact hn), fun o x hx => hw.objs o x (by rw [← hg]; exact hx),
    fun o o' x x' k k' hx hx' => hw.inj o o' x x' k k' (by rw [← hg]; exact hx) (by rw [← hg]; exact hx'), fun R w0 hf o x k hx => hw.mine R w0 hf o x k (by rw [← hg]; exact hx), hw.frame,
    fun o c e k hx => hw.wide o c e k (by rw [← hg]; exact hx)⟩

theorem sameS.lo {lv : Nat → Bool} {tm tm' : TM} {H H' : FW} (h : sameS lv (tm, H) (tm', H')) (hl : Lo H') : Lo H := by
  have hg : ∀ b, H.heap.get b = H'.heap.get b := h.2.2.1
  have hn : H.next = H'.next := h.2.2.2
  exact ⟨by rw [hn]; exact hl.big, fun o ho => by rw [hg]; exact hl.out o (by rw [← hn]; exact ho)⟩

theorem sameS.sr {lv : Nat → Bool} {tm tm' : TM} {H H' : FW} {a : Act} {w : World} {β : Bm} (h : sameS lv (tm, H) (tm', H')) (hlo : Lo H) (hs : SR P F lv n β tm' H' a w) : SR P F lv n β tm H a w := by
  refine ⟨⟨fun t => ?_, fun p hp => ?_, hs.fm.size, hs.fm.defers⟩, h.wr hs.wr, hlo⟩
  · have : TM.val lv tm t = TM.val lv tm' t := h.1 t
    rw [this]; exact hs.fm.vals t
  · have : tm.loc = [] := h.2.1
    rw [this] at hp; cases hp

theorem plan_sound {lv : Nat → Bool} (hcall : CallGood P I R calls call) (hF : FOk I F R) (hsel : Region.noSelect ops = true) {Q : Exit → Act → World → Prop} (hQ : ∀ c a w, ¬ Q (.panic c) a w) {base : Nat} (hbase : 512 ≤ base) :
    ∀ (fuel : Nat) (listed : Array Bool) (p : Plan), PlanOk P calls ops fuel listed p → ∀ (tm : TM) (H : FW) (a : Act) (w : World) (β : Bm) (tm' : TM) (H' : FW), SR P F lv n β tm H a w → R ≤ H.next → base + ops.size ≤ H.next →
      runPlan lv (stepX lv R call base (compL P lv n ops)) p tm H = some (tm', H') → (∀ a' w' β', BLe β β' → SR P F lv n β' tm' H' a' w' → Q .normal a' w') →
      (Lo H' ∧ H.next ≤ H'.next) ∧ xAny P .any ops (clsA P calls ops) Q fuel listed a w
  | 0, listed, p, hp, tm, H, a, w, β, tm', H', hs, hR, hb, hrun, hk => by
    obtain ⟨rfl, hrd⟩ := hp
    have hrun' : some (tm.flush lv, H) = some (tm', H') := hrun
    simp only [Option.some.injEq, Prod.mk.injEq] at hrun'
    obtain ⟨rfl, rfl⟩ := hrun'
    exact ⟨⟨hs.lo, Nat.le_refl _⟩, hrd, hk a w β (BLe.refl _) hs.flush⟩
  | fuel + 1, listed, p, hp, tm, H, a, w, β, tm', H', hs, hR, hb, hrun, hk => by
    rcases hp with ⟨rfl, hrd⟩ | ⟨j, r, rfl, hjr, ⟨o, ho, hkind, hsp⟩, hr⟩ | ⟨hne, g, l, hp, hcov, hr⟩
    · have hrun' : some (tm.flush lv, H) = some (tm', H') := hrun
      simp only [Option.some.injEq, Prod.mk.injEq] at hrun'
      obtain ⟨rfl, rfl⟩ := hrun'
      exact ⟨⟨hs.lo, Nat.le_refl _⟩, fun _ => hk a w β (BLe.refl _) hs.flush, fun i hi => by rw [hrd] at hi; cases hi⟩
    · have hrun' : goS (stepX lv R call base (compL P lv n ops) j true tm H) (runPlan lv (stepX lv R call base (compL P lv n ops)) r) = some (tm', H') := hrun
      have hget := compL_get (P := P) (n := n) (lv := lv) ho
      unfold stepX at hrun'
      rw [hget] at hrun'
      simp only at hrun'
      cases hst : stepG lv R call true (compO P lv n ops o) (base + j) H.next tm H with
      | none => rw [hst] at hrun'; cases hrun'
      | some st =>
        obtain ⟨tm1, H1⟩ := st
        rw [hst] at hrun'
        have hrun2 : runPlan lv (stepX lv R call base (compL P lv n ops)) r tm1 H1 = some (tm', H') := hrun'
        have first1 : clsA P calls ops j = 1 → kindA P o.op ≠ 0 → (H1 = H ∧ ∃ u, ((Region.wanted o (yielded ops a.tmps) = true ∧ ∀ w', Up w w' → xop P o a w' fun x w'' => x = u ∧ Up w' w'') ∨ (Region.wanted o (yielded ops a.tmps) = false ∧ u = undef)) ∧ Fm lv β tm1 (a.put o.dst u) n) →
            (Lo H' ∧ H.next ≤ H'.next) ∧ xAny P .any ops (clsA P calls ops) Q (fuel + 1) listed a w := by
          rintro hc hk0 ⟨rfl, u, hy, hfm⟩
          have hnext := fun w' (hw' : Up w w') => plan_sound hcall hF hsel hQ hbase fuel _ r hr tm1 H1 (a.put o.dst u) w' β tm' H' ⟨hfm, hs.wr.up hw', hs.lo⟩ hR hb hrun2 hk
          refine ⟨(hnext w (Up.refl w)).1, ?_⟩
          refine xAny_first1 ho (Region.noSelect_spec hsel) hc fuel listed a w (fun k ok hk' hne hun hno => ?_) hjr hy fun w' hw' => (hnext w' hw').2
          obtain ⟨h1, h2⟩ := hsp k ok hk' hne hun hno
          exact ⟨h1, wr_cls hk' (h2.resolve_left hk0)⟩
        rcases hkind with hk0 | hk1 | ⟨hk4, hkc⟩
        · obtain ⟨rfl, u, hy, hfm⟩ := stepG_look hs (.inl hk0) hst
          have hnext := plan_sound hcall hF hsel hQ hbase fuel _ r hr tm1 H1 (a.put o.dst u) w β tm' H' ⟨hfm, hs.wr, hs.lo⟩ hR hb hrun2 hk
          refine ⟨hnext.1, ?_⟩
          have hyy : Yields P ops o u a := by
            rcases hy with ⟨h1, h2⟩ | h
            · exact .inl ⟨h1, fun w' => h2 w' (.inl (by rw [hk0]; rfl))⟩
            · exact .inr h
          exact xAny_first0 hQ ho (Region.noSelect_spec hsel) (by unfold clsA; rw [ho]; simp only [hk0]) fuel listed a w (fun k ok hk' hne hun hno => (hsp k ok hk' hne hun hno).1) hjr hyy hnext.2
        · refine first1 (by unfold clsA; rw [ho]; simp only [hk1]) (by omega) ?_
          obtain ⟨h1, u, hy, hfm⟩ := stepG_look hs (.inr hk1) hst
          refine ⟨h1, u, ?_, hfm⟩
          rcases hy with ⟨g1, g2⟩ | h
          · refine .inl ⟨g1, fun w' hw' => ?_⟩
            unfold xop
            rw [g2 w' (.inr hw')]
            exact ⟨rfl, Up.refl _⟩
          · exact .inr h
        · subst hkc
          exact first1 (by unfold clsA; rw [ho]; simp only [hk4]; rfl) (by omega) (stepG_quiet hcall hF hR hs hk4 hst)
    · have hrds : ∀ j ∈ Region.ready .any ops listed, (Lo H' ∧ H.next ≤ H'.next) ∧ xOp P ops (clsA P calls ops j) Q j (xAny P .any ops (clsA P calls ops) Q fuel (listed.setIfInBounds j true)) a w := by
        intro j hj
        obtain ⟨hjun, o, ho, _⟩ := mem_ready.1 hj
        obtain ⟨r, ⟨tm2, H2⟩, hgr, hgo, hsm⟩ := altsOf_run hp hrun j (hcov j hj)
        have hnx2 : H'.next = H2.next := hsm.2.2.2
        have hrr := hr j hj r hgr
        have hget := compL_get (P := P) (n := n) (lv := lv) ho
        unfold stepX at hgo
        rw [hget] at hgo
        simp only at hgo
        cases hst : stepG lv R call false (compO P lv n ops o) (base + j) H.next tm H with
        | none => rw [hst] at hgo; cases hgo
        | some st =>
          obtain ⟨tm1, H1⟩ := st
          rw [hst] at hgo
          have hrun2 : runPlan lv (stepX lv R call base (compL P lv n ops)) r tm1 H1 = some (tm2, H2) := hgo
          have hjlt := (Array.getElem?_eq_some_iff.1 ho).1
          obtain ⟨⟨hlo1, hn1⟩, hx⟩ := stepG_sound hcall hF hR hs (id := base + j) (next := H.next) (by omega) (Nat.le_refl _) (by omega) hst
          have hnext := fun a' w' β' hle hs' => plan_sound hcall hF hsel hQ hbase fuel _ r hrr tm1 H1 a' w' β' tm2 H2 hs' (Nat.le_trans hR hn1) (Nat.le_trans hb hn1) hrun2 (fun a2 w2 β2 hb2 hs2 => hk a2 w2 β2 (BLe.trans hle hb2) (hsm.sr (hsm.lo hs2.lo) hs2))
          by_cases hk0 : kindA P o.op = 0
          · obtain ⟨rfl, u, hy, hfm⟩ := stepG_look hs (.inl hk0) hst
            have hc : clsA P calls ops j = 0 := by unfold clsA; rw [ho]; simp only [hk0]
            have hnx := hnext (a.put o.dst u) w β (BLe.refl _) ⟨hfm, hs.wr, hs.lo⟩
            refine ⟨⟨hsm.lo hnx.1.1, by rw [hnx2]; exact Nat.le_trans hn1 hnx.1.2⟩, ?_⟩
            rw [hc]
            refine ⟨o, u, ho, ?_, hnx.2⟩
            rcases hy with ⟨h1, h2⟩ | h
            · exact .inl ⟨h1, fun w' => h2 w' (.inl (by rw [hk0]; rfl))⟩
            · exact .inr h
          · -- the pure part: by any end
            have pure1 : (∀ a' w' β', BLe β β' → SR P F lv n β' tm1 H1 a' w' → (Lo H' ∧ H.next ≤ H'.next)) := fun a' w' β' hle hs' => by
              have := (hnext a' w' β' hle hs').1
              exact ⟨hsm.lo this.1, by rw [hnx2]; exact Nat.le_trans hn1 this.2⟩
            have hpure : Lo H' ∧ H.next ≤ H'.next := by
              rcases hx with ⟨_, hx⟩ | ⟨_, hx⟩
              · unfold xop at hx
                generalize (execOp a.eval o).run P w = rr at hx
                cases rr with
                | ok nn w' =>
                  cases nn <;> simp only [xupon] at hx
                  case value v => obtain ⟨_, β', hle, hs'⟩ := hx; exact pure1 _ _ _ hle hs'
                  case skip => obtain ⟨_, β', hle, hs'⟩ := hx; exact pure1 _ _ _ hle hs'
                  case enter f args =>
                    obtain ⟨e, w'', fr, ⟨v, _, _, β', hle, hs'⟩, _⟩ := hx []
                    exact pure1 _ _ _ hle hs'
                | halt x w' => simp only [xupon] at hx
              · exact pure1 _ _ _ (BLe.refl _) hx
            refine ⟨hpure, ?_⟩
            have hcls : clsA P calls ops j = 1 ∧ (kindA P o.op = 1 ∨ kindA P o.op = 2 ∨ (kindA P o.op = 4 ∧ calls = true)) ∨ clsA P calls ops j = 2 := by
              unfold clsA
              rw [ho]
              simp only
              split
              · rename_i h; exact absurd h hk0
              · rename_i h; exact .inl ⟨rfl, .inl h⟩
              · rename_i h; exact .inl ⟨rfl, .inr (.inl h)⟩
              · rename_i h
                cases calls with
                | true => exact .inl ⟨rfl, .inr (.inr ⟨h, rfl⟩)⟩
                | false => exact .inr rfl
              · exact .inr rfl
            rcases hcls with ⟨hc, hup⟩ | hc
            · rw [hc]
              show xOp0 P ops j _ a w
              unfold xOp0
              simp only [ho]
              rcases hx with ⟨hw, hx⟩ | ⟨hw, hx⟩
              · rw [if_pos hw]
                exact xop_mono (fun u w' ⟨hq, β', hle, hs'⟩ => ⟨hq hup, fun w'' hw'' => (hnext _ _ β' hle (hs'.up hw'')).2⟩) hx
              · rw [if_neg (by rw [hw]; simp)]
                exact fun w' hw' => (hnext _ _ β (BLe.refl _) (hx.up hw')).2
            · rw [hc]
              show wpOp P ops Q j _ a w
              refine wpOp_of_xop ho ?_
              rcases hx with ⟨hw, hx⟩ | ⟨hw, hx⟩
              · exact .inl ⟨hw, xop_mono (fun u w' ⟨_, β', hle, hs'⟩ => (hnext _ _ β' hle hs').2) hx⟩
              · exact .inr ⟨hw, (hnext _ _ β (BLe.refl _) hx).2⟩
      obtain ⟨j, hj⟩ := List.exists_mem_of_ne_nil _ hne
      exact ⟨(hrds j hj).1, fun h0 => (by rw [h0] at hj; cases hj), fun i hi => (hrds i hi).2⟩

end
end Go.Am

set_option linter.unusedVariables false
set_option linter.unusedSimpArgs false
namespace Go.Am
open Go.RowKit

section
variable {I : World → Prop} {P : Program} {R n : Nat} {lv : Nat → Bool} {F : Nat → World → Prop} {ops : Array Oper} {calls : Bool} {call : CallF}

/-- Operations one behind the other. -/
theorem opsA_sound (hcall : CallGood P I R false call) (hF : FOk I F R) {Q : Exit → Act → World → Prop} : ∀ (l : List Oper) (tm : TM) (H : FW) (a : Act) (w : World) (β : Bm) (tm' : TM) (H' : FW), SR P F lv n β tm H a w → R ≤ H.next →
    opsA lv R call (l.map (compO P lv n ops)) tm H = some (tm', H') → (∀ a' w' β', BLe β β' → SR P F lv n β' tm' H' a' w' → Q .normal a' w') → ((Lo H' ∧ H.next ≤ H'.next) ∧ wpList P ops Q l a w)
  | [], tm, H, a, w, β, tm', H', hs, hR, h, hk => by
    have h' : some (tm, H) = some (tm', H') := h
    simp only [Option.some.injEq, Prod.mk.injEq] at h'
    obtain ⟨rfl, rfl⟩ := h'
    exact ⟨⟨hs.lo, Nat.le_refl _⟩, hk a w β (BLe.refl _) hs⟩
  | o :: l, tm, H, a, w, β, tm', H', hs, hR, h, hk => by
    have h' : (match stepA lv R call (compO P lv n ops o) tm H with
      | some (tm', H') => opsA lv R call (l.map (compO P lv n ops)) tm' H'
      | none => none) = some (tm', H') := h
    split at h'
    · rename_i tm1 H1 hst
      unfold stepA at hst
      obtain ⟨⟨hlo1, hn1⟩, hx⟩ := stepG_sound hcall hF hR hs (id := H.next) (next := H.next + 1) hs.lo.big (Nat.le_succ _) (Nat.lt_succ_self _) hst
      have hnext := fun a' w' β' hle hs' => opsA_sound hcall hF (Q := Q) l tm1 H1 a' w' β' tm' H' hs' (Nat.le_trans hR hn1) h' (fun a2 w2 β2 hb2 hs2 => hk a2 w2 β2 (BLe.trans hle hb2) hs2)
      have pure1 : (∀ a' w' β', BLe β β' → SR P F lv n β' tm1 H1 a' w' → (Lo H' ∧ H.next ≤ H'.next)) := fun a' w' β' hle hs' => by
        have := (hnext a' w' β' hle hs').1
        exact ⟨this.1, Nat.le_trans hn1 this.2⟩
      refine ⟨?_, ?_⟩
      · rcases hx with ⟨_, hx⟩ | ⟨_, hx⟩
        · unfold xop at hx
          generalize (execOp a.eval o).run P w = rr at hx
          cases rr with
          | ok nn w' =>
            cases nn <;> simp only [xupon] at hx
            case value v => obtain ⟨_, β', hle, hs'⟩ := hx; exact pure1 _ _ _ hle hs'
            case skip => obtain ⟨_, β', hle, hs'⟩ := hx; exact pure1 _ _ _ hle hs'
            case enter f args =>
              obtain ⟨e, w'', fr, ⟨v, _, _, β', hle, hs'⟩, _⟩ := hx []
              exact pure1 _ _ _ hle hs'
          | halt x w' => simp only [xupon] at hx
        · exact pure1 _ _ _ (BLe.refl _) hx
      · show (if Region.wanted o (yielded ops a.tmps) then o.wp P a w (wpList P ops Q l) Q ∨ (o.asks P a w ∧ LetsOut Q) else wpList P ops Q l (a.put o.dst undef) w)
        rcases hx with ⟨hw, hx⟩ | ⟨hw, hx⟩
        · rw [if_pos hw]
          left
          have hx' := xop_mono (fun u w' ⟨_, β', hle, hs'⟩ => (hnext _ _ β' hle hs').2) hx
          unfold xop at hx'
          unfold Oper.wp
          generalize (execOp a.eval o).run P w = r at hx'
          cases r with
          | ok nn w' =>
            cases nn <;> simp only [xupon] at hx' <;> simp only [Oper.upon]
            case value v => exact hx'
            case skip => exact hx'
            case enter f args =>
              refine hx'.mono fun e w'' ⟨v, he, hk⟩ => ?_
              subst he
              exact hk
          | halt x w' => simp only [xupon] at hx'
        · rw [if_neg (by rw [hw]; simp)]
          exact (hnext _ _ β (BLe.refl _) hx).2
    · cases h'

def exitOf : XO → Exit
  | .norm => .normal
  | .ret => .ret
  | .exit id => .exit id

def PostA (P : Program) (F : Nat → World → Prop) (lv : Nat → Bool) (n : Nat) (β : Bm) (x : XO) (tm : TM) (H : FW) : Exit → Act → World → Prop := fun e a w => e = exitOf x ∧ ∃ β', BLe β β' ∧ SR P F lv n β' tm H a w

theorem PostA.mono {β β' : Bm} {x : XO} {tm : TM} {H : FW} (hb : BLe β β') {e : Exit} {a : Act} {w : World} (h : PostA P F lv n β' x tm H e a w) : PostA P F lv n β x tm H e a w := by
  obtain ⟨h1, β2, h2, h3⟩ := h
  exact ⟨h1, β2, BLe.trans hb h2, h3⟩

theorem regionX_sound (hcall : CallGood P I R calls call) (hF : FOk I F R) (hsel : Region.noSelect ops = true) (hm : P.follows .mixedOrders = true) {p : Plan} (hp : planA P calls ops = some p) {id : Nat} {tm : TM} {H : FW} {a : Act} {w : World} {β : Bm} {tm' : TM} {H' : FW}
    (hs : SR P F lv n β tm H a w) (hR : R ≤ H.next) (h : runPlan lv (stepX lv R call H.next (compL P lv n ops)) p tm ⟨H.heap, H.next + ops.size⟩ = some (tm', H')) :
    (Lo H' ∧ H.next ≤ H'.next) ∧ (Code.region id ops true).wp P (PostA P F lv n β .norm tm' H') a w := by
  have hs' : SR P F lv n β tm ⟨H.heap, H.next + ops.size⟩ a { w with drawn := w.drawn + 1 } :=
    ⟨hs.fm, (hs.wr.up (w' := w.drew) (Below.refl _ _).drew).next, ⟨Nat.le_trans hs.lo.big (Nat.le_add_right _ _), fun o ho => hs.lo.out o (Nat.le_trans (Nat.le_add_right _ _) ho)⟩⟩
  obtain ⟨h1, h2⟩ := plan_sound hcall hF hsel (Q := PostA P F lv n β .norm tm' H') (fun c a w h => by cases h.1) hs.lo.big ops.size _ p (planA_ok hp) tm ⟨H.heap, H.next + ops.size⟩ a _ β tm' H' hs' (Nat.le_trans hR (Nat.le_add_right _ _)) (Nat.le_refl _) h
    (fun a' w' β' hle hs2 => ⟨rfl, β', hle, hs2⟩)
  exact ⟨⟨h1.1, Nat.le_trans (Nat.le_add_right _ _) h1.2⟩, wp_region_any hm (wpAny_of_x _ _ _ _ h2)⟩

theorem wp_witness {c : Code} {Q : Exit → Act → World → Prop} {a : Act} {w : World} (h : c.wp P Q a w) : ∃ e a' w', Q e a' w' := by
  obtain ⟨e, a', w', hq, _⟩ := h default [] []
  exact ⟨e, a', w', hq⟩

variable {cl : Nat → CallF}

/-- What the store's run says of a piece of code. -/
def CodeGood (P : Program) (lv : Nat → Bool) (n : Nat) (cl : Nat → CallF) (R : Nat) (F : Nat → World → Prop) (c : Code) : Prop :=
  ∀ (tm : TM) (H : FW) (a : Act) (w : World) (β : Bm) (x : XO) (tm' : TM) (H' : FW), SR P F lv n β tm H a w → R ≤ H.next → codeA P lv n cl R c tm H = some (x, tm', H') →
    (Lo H' ∧ H.next ≤ H'.next) ∧ c.wp P (PostA P F lv n β x tm' H') a w

theorem CodeGood.witness {c : Code} (hc : CodeGood P lv n cl R F c) {tm : TM} {H : FW} {a : Act} {w : World} {β : Bm} {x : XO} {tm' : TM} {H' : FW} (hs : SR P F lv n β tm H a w) (hR : R ≤ H.next) (h : codeA P lv n cl R c tm H = some (x, tm', H')) :
    ∃ a' w' β', BLe β β' ∧ SR P F lv n β' tm' H' a' w' := by
  obtain ⟨_, h2⟩ := hc tm H a w β x tm' H' hs hR h
  obtain ⟨e, a', w', _, β', h3, h4⟩ := wp_witness h2
  exact ⟨a', w', β', h3, h4⟩

theorem region_good (hcall : ∀ R, CallGood P I R false (cl R)) (hF : FOk I F R) (id : Nat) (ops : Array Oper) (d : Bool) : CodeGood P lv n cl R F (.region id ops d) := by
  intro tm H a w β x tm' H' hs hR h
  have h' : regionS P lv n cl R ops d tm H = some (x, tm', H') := h
  unfold regionS at h'
  cases d with
  | true =>
    rw [cond_true] at h'
    obtain ⟨hg, h'⟩ := some_of_cond h'
    rw [Bool.and_eq_true] at hg
    unfold normS at h'
    split at h'
    · rename_i s hrx
      simp only [Option.some.injEq, Prod.mk.injEq] at h'
      obtain ⟨rfl, rfl⟩ := h'
      unfold regionX at hrx
      split at hrx
      · rename_i p hp
        exact regionX_sound (hcall R) hF hg.2 hg.1 hp hs hR hrx
      · split at hrx
        · rename_i p hp
          exact regionX_sound (quiet_good (R := R) hcall) hF hg.2 hg.1 hp hs hR hrx
        · cases hrx
    · cases h'
  | false =>
    rw [cond_false] at h'
    cases hrx : opsA lv R (cl R) (compL P lv n ops) tm H with
    | none => rw [hrx] at h'; cases h'
    | some s =>
      obtain ⟨tm1, H1⟩ := s
      rw [hrx] at h'
      simp only [flushS, normS, Option.some.injEq, Prod.mk.injEq] at h'
      obtain ⟨rfl, rfl, rfl⟩ := h'
      obtain ⟨h1, h2⟩ := opsA_sound (ops := ops) (hcall R) hF (Q := PostA P F lv n β .norm (tm1.flush lv) H1) ops.toList tm H a w β tm1 H1 hs hR hrx (fun a' w' β' hle hs2 => ⟨rfl, β', hle, hs2.flush⟩)
      exact ⟨h1, wp_region_list h2⟩

theorem seq_good {c d : Code} (hc : CodeGood P lv n cl R F c) (hd : CodeGood P lv n cl R F d) : CodeGood P lv n cl R F (.seq c d) := by
  intro tm H a w β x tm' H' hs hR h
  have h' : seqS (codeA P lv n cl R c tm H) (codeA P lv n cl R d) = some (x, tm', H') := h
  unfold seqS at h'
  cases hca : codeA P lv n cl R c tm H with
  | none => rw [hca] at h'; cases h'
  | some q =>
    obtain ⟨y, tm1, H1⟩ := q
    rw [hca] at h'
    obtain ⟨h1, h2⟩ := hc tm H a w β y tm1 H1 hs hR hca
    cases y with
    | norm =>
      simp only at h'
      obtain ⟨a1, w1, β1, hb1, hs1⟩ := hc.witness hs hR hca
      have hd1 := hd tm1 H1 a1 w1 β1 x tm' H' hs1 (Nat.le_trans hR h1.2) h'
      refine ⟨⟨hd1.1.1, Nat.le_trans h1.2 hd1.1.2⟩, wp_seq (Code.wp_mono (fun e a2 w2 he => ?_) h2)⟩
      obtain ⟨rfl, β2, hb2, hs2⟩ := he
      exact Code.wp_mono (fun e a3 w3 h3 => h3.mono hb2) (hd tm1 H1 a2 w2 β2 x tm' H' hs2 (Nat.le_trans hR h1.2) h').2
    | ret =>
      simp only [Option.some.injEq, Prod.mk.injEq] at h'
      obtain ⟨rfl, rfl, rfl⟩ := h'
      refine ⟨h1, wp_seq (Code.wp_mono (fun e a2 w2 he => ?_) h2)⟩
      obtain ⟨rfl, he⟩ := he
      exact ⟨rfl, he⟩
    | exit id =>
      simp only [Option.some.injEq, Prod.mk.injEq] at h'
      obtain ⟨rfl, rfl, rfl⟩ := h'
      refine ⟨h1, wp_seq (Code.wp_mono (fun e a2 w2 he => ?_) h2)⟩
      obtain ⟨rfl, he⟩ := he
      exact ⟨rfl, he⟩

theorem cond_good {y : Operand} {c d : Code} (hc : CodeGood P lv n cl R F c) (hd : CodeGood P lv n cl R F d) : CodeGood P lv n cl R F (.cond y c d) := by
  intro tm H a w β x tm' H' hs hR h
  have h' : condS (ev lv tm y) (codeA P lv n cl R c tm H) (codeA P lv n cl R d tm H) = some (x, tm', H') := h
  have hv := ev_rel hs.wr hs.fm y
  unfold condS at h'
  split at h'
  · rename_i hy
    rw [hy] at hv
    generalize hq : a.eval y = q at hv
    cases hv
    obtain ⟨h1, h2⟩ := hc tm H a w β x tm' H' hs hR h'
    exact ⟨h1, wp_cond hq (by simpa using h2)⟩
  · rename_i hy
    rw [hy] at hv
    generalize hq : a.eval y = q at hv
    cases hv
    obtain ⟨h1, h2⟩ := hd tm H a w β x tm' H' hs hR h'
    exact ⟨h1, wp_cond hq (by simpa using h2)⟩
  · cases h'

theorem block_good {id : Nat} {c : Code} (hc : CodeGood P lv n cl R F c) : CodeGood P lv n cl R F (.block id c) := by
  intro tm H a w β x tm' H' hs hR h
  have h' : blockS id (codeA P lv n cl R c tm H) = some (x, tm', H') := h
  unfold blockS at h'
  cases hca : codeA P lv n cl R c tm H with
  | none => rw [hca] at h'; cases h'
  | some q =>
    obtain ⟨y, tm1, H1⟩ := q
    rw [hca] at h'
    obtain ⟨h1, h2⟩ := hc tm H a w β y tm1 H1 hs hR hca
    cases y with
    | exit i =>
      simp only at h'
      cases hb : Nat.beq i id with
      | true =>
        rw [hb, cond_true] at h'
        simp only [Option.some.injEq, Prod.mk.injEq] at h'
        obtain ⟨rfl, rfl, rfl⟩ := h'
        have := Nat.eq_of_beq_eq_true hb
        subst this
        refine ⟨h1, wp_block (Code.wp_mono (fun e a2 w2 he => ?_) h2)⟩
        obtain ⟨rfl, he⟩ := he
        show (if i = i then _ else _)
        rw [if_pos rfl]
        exact ⟨rfl, he⟩
      | false =>
        rw [hb, cond_false] at h'
        simp only [Option.some.injEq, Prod.mk.injEq] at h'
        obtain ⟨rfl, rfl, rfl⟩ := h'
        refine ⟨h1, wp_block (Code.wp_mono (fun e a2 w2 he => ?_) h2)⟩
        obtain ⟨rfl, he⟩ := he
        show (if i = id then _ else _)
        rw [if_neg (fun e => by subst e; simp at hb)]
        exact ⟨rfl, he⟩
    | norm =>
      simp only [Option.some.injEq, Prod.mk.injEq] at h'
      obtain ⟨rfl, rfl, rfl⟩ := h'
      refine ⟨h1, wp_block (Code.wp_mono (fun e a2 w2 he => ?_) h2)⟩
      obtain ⟨rfl, he⟩ := he
      exact ⟨rfl, he⟩
    | ret =>
      simp only [Option.some.injEq, Prod.mk.injEq] at h'
      obtain ⟨rfl, rfl, rfl⟩ := h'
      refine ⟨h1, wp_block (Code.wp_mono (fun e a2 w2 he => ?_) h2)⟩
      obtain ⟨rfl, he⟩ := he
      exact ⟨rfl, he⟩

/-- Rounds of a loop. -/
theorem loopP_good {c : Code} (hc : CodeGood P lv n cl R F c) : ∀ (k : Nat) (tm : TM) (H : FW) (a : Act) (w : World) (β : Bm), SR P F lv n β tm H a w → R ≤ H.next → ∀ (y : Option XO) (tm' : TM) (H' : FW), loopP (codeA P lv n cl R c) k tm H = some (y, tm', H') →
    (Lo H' ∧ H.next ≤ H'.next) ∧ (∃ a' w' β', BLe β β' ∧ SR P F lv n β' tm' H' a' w') ∧ y ≠ some .norm ∧
    ∀ (N : Nat) (Q : Exit → Act → World → Prop), (∀ a' w' β', BLe β β' → SR P F lv n β' tm' H' a' w' → (match y with
      | none => Code.rounds P c Q N a' w'
      | some x => Q (exitOf x) a' w')) → Code.rounds P c Q (2 ^ k + N) a w
  | 0, tm, H, a, w, β, hs, hR, y, tm', H', h => by
    have h' : roundS (codeA P lv n cl R c tm H) = some (y, tm', H') := h
    unfold roundS at h'
    cases hca : codeA P lv n cl R c tm H with
    | none => rw [hca] at h'; cases h'
    | some q =>
      obtain ⟨x, tm1, H1⟩ := q
      rw [hca] at h'
      obtain ⟨h1, h2⟩ := hc tm H a w β x tm1 H1 hs hR hca
      have hwit := hc.witness hs hR hca
      have pw : ∀ N, 2 ^ 0 + N = N + 1 := fun N => by omega
      cases x with
      | norm =>
        simp only [Option.some.injEq, Prod.mk.injEq] at h'
        obtain ⟨rfl, rfl, rfl⟩ := h'
        refine ⟨h1, hwit, by simp, fun N Q hk => ?_⟩
        rw [pw, rounds_succ]
        refine Code.wp_mono (fun e a2 w2 he => ?_) h2
        obtain ⟨rfl, β2, hb2, hs2⟩ := he
        exact hk a2 w2 β2 hb2 hs2
      | ret =>
        simp only [Option.some.injEq, Prod.mk.injEq] at h'
        obtain ⟨rfl, rfl, rfl⟩ := h'
        refine ⟨h1, hwit, by simp, fun N Q hk => ?_⟩
        rw [pw, rounds_succ]
        refine Code.wp_mono (fun e a2 w2 he => ?_) h2
        obtain ⟨rfl, β2, hb2, hs2⟩ := he
        exact hk a2 w2 β2 hb2 hs2
      | exit id =>
        simp only [Option.some.injEq, Prod.mk.injEq] at h'
        obtain ⟨rfl, rfl, rfl⟩ := h'
        refine ⟨h1, hwit, by simp, fun N Q hk => ?_⟩
        rw [pw, rounds_succ]
        refine Code.wp_mono (fun e a2 w2 he => ?_) h2
        obtain ⟨rfl, β2, hb2, hs2⟩ := he
        exact hk a2 w2 β2 hb2 hs2
  | k + 1, tm, H, a, w, β, hs, hR, y, tm', H', h => by
    have h' : againS (loopP (codeA P lv n cl R c) k tm H) (loopP (codeA P lv n cl R c) k) = some (y, tm', H') := h
    unfold againS at h'
    have pw : ∀ N, 2 ^ (k + 1) + N = 2 ^ k + (2 ^ k + N) := fun N => by rw [Nat.pow_succ]; omega
    cases hca : loopP (codeA P lv n cl R c) k tm H with
    | none => rw [hca] at h'; cases h'
    | some q =>
      obtain ⟨z, tm1, H1⟩ := q
      rw [hca] at h'
      obtain ⟨h1, ⟨a1, w1, β1, hb1, hs1⟩, hnn, h2⟩ := loopP_good hc k tm H a w β hs hR z tm1 H1 hca
      cases z with
      | none =>
        simp only at h'
        obtain ⟨g1, ⟨a3, w3, β3, hb3, hs3⟩, gn, _⟩ := loopP_good hc k tm1 H1 a1 w1 β1 hs1 (Nat.le_trans hR h1.2) y tm' H' h'
        refine ⟨⟨g1.1, Nat.le_trans h1.2 g1.2⟩, ⟨a3, w3, β3, BLe.trans hb1 hb3, hs3⟩, gn, fun N Q hk => ?_⟩
        rw [pw]
        refine h2 _ Q fun a2 w2 β2 hb2 hs2 => ?_
        obtain ⟨_, _, _, g2⟩ := loopP_good hc k tm1 H1 a2 w2 β2 hs2 (Nat.le_trans hR h1.2) y tm' H' h'
        exact g2 N Q fun a4 w4 β4 hb4 hs4 => hk a4 w4 β4 (BLe.trans hb2 hb4) hs4
      | some x =>
        simp only [Option.some.injEq, Prod.mk.injEq] at h'
        obtain ⟨rfl, rfl, rfl⟩ := h'
        refine ⟨h1, ⟨a1, w1, β1, hb1, hs1⟩, hnn, fun N Q hk => ?_⟩
        rw [pw]
        exact h2 _ Q hk

theorem loop_good {c : Code} (hc : CodeGood P lv n cl R F c) : CodeGood P lv n cl R F (.loop c) := by
  intro tm H a w β x tm' H' hs hR h
  have h' : loopS (loopP (codeA P lv n cl R c) 20 tm H) = some (x, tm', H') := h
  unfold loopS at h'
  split at h'
  · rename_i y s hl
    simp only [Option.some.injEq, Prod.mk.injEq] at h'
    obtain ⟨rfl, rfl⟩ := h'
    obtain ⟨h1, _, _, h2⟩ := loopP_good hc 20 tm H a w β hs hR (some y) tm' H' hl
    exact ⟨h1, wp_loop_rounds _ (h2 0 _ fun a' w' β' hb hs' => ⟨rfl, β', hb, hs'⟩)⟩
  · cases h'

theorem code_good (hcall : ∀ R, CallGood P I R false (cl R)) (hF : FOk I F R) : ∀ c : Code, CodeGood P lv n cl R F c := by
  intro c
  induction c with
  | skip =>
    intro tm H a w β x tm' H' hs hR h
    have h' : some (XO.norm, tm, H) = some (x, tm', H') := h
    simp only [Option.some.injEq, Prod.mk.injEq] at h'
    obtain ⟨rfl, rfl, rfl⟩ := h'
    exact ⟨⟨hs.lo, Nat.le_refl _⟩, wp_skip ⟨rfl, β, BLe.refl _, hs⟩⟩
  | region id ops d => exact region_good hcall hF id ops d
  | seq c d hc hd => exact seq_good hc hd
  | cond y c d hc hd => exact cond_good hc hd
  | block id c hc => exact block_good hc
  | loop c hc => exact loop_good hc
  | exit id =>
    intro tm H a w β x tm' H' hs hR h
    have h' : some (XO.exit id, tm, H) = some (x, tm', H') := h
    simp only [Option.some.injEq, Prod.mk.injEq] at h'
    obtain ⟨rfl, rfl, rfl⟩ := h'
    exact ⟨⟨hs.lo, Nat.le_refl _⟩, wp_exit ⟨rfl, β, BLe.refl _, hs⟩⟩
  | ret =>
    intro tm H a w β x tm' H' hs hR h
    have h' : some (XO.ret, tm, H) = some (x, tm', H') := h
    simp only [Option.some.injEq, Prod.mk.injEq] at h'
    obtain ⟨rfl, rfl, rfl⟩ := h'
    exact ⟨⟨hs.lo, Nat.le_refl _⟩, wp_ret ⟨rfl, β, BLe.refl _, hs⟩⟩
  | _ =>
    intro tm H a w β x tm' H' hs hR h
    cases h

/-! Results. -/

def retOne (a : Act) : ResultVar → Sem Value
  | .tmp t => pure (a.tmps.getD t undef)
  | .cell q t => do loadVar t (← asAddr (a.tmps.getD q undef))

theorem retAllA_sound {tm : TM} {H : FW} {a : Act} {w : World} {β : Bm} (hs : SR P F lv n β tm H a w) : ∀ {rs : List ResultVar} {l : List Value}, retAllA P lv tm H rs = some l →
    ∃ us, (rs.mapM (retOne a)).run P w = .ok us w ∧ VRs β l us ∧ us.length = rs.length
  | [], l, h => by
    simp only [retAllA, Option.some.injEq] at h
    subst h
    exact ⟨[], rfl, .nil, rfl⟩
  | v :: r, l, h => by
    unfold retAllA at h
    split at h
    · rename_i u us h1 h2
      simp only [Option.some.injEq] at h
      subst h
      obtain ⟨vs, g1, g2, g3⟩ := retAllA_sound hs h2
      have key : ∃ x, (retOne a v).run P w = .ok x w ∧ VR β u x := by
        cases v with
        | tmp t =>
          simp only [retOneA, Option.some.injEq] at h1
          subst h1
          exact ⟨_, rfl, hs.fm.vals t⟩
        | cell q t =>
          simp only [retOneA] at h1
          have hq := hs.fm.vals q
          obtain ⟨x, hx, hr⟩ := loadA_sound hs.wr hq h1
          refine ⟨x, ?_, hr⟩
          have hx := hx w (.inr (Below.refl _ _))
          unfold loadA at h1
          split at h1
          · rename_i ad hvq
            rw [hvq] at hq
            obtain ⟨k, _, _, hp⟩ := hq.ptr_inv
            rw [hp] at hx
            simp only [retOne, hp]
            exact hx
          · cases h1
      obtain ⟨x, hx, hr⟩ := key
      refine ⟨x :: vs, ?_, .cons hr g2, by simp [g3]⟩
      rw [List.mapM_cons, Sem.run_bind, hx, Result.andThen_ok, Sem.run_bind, g1]
      rfl
    · cases h

theorem results_sound {tm : TM} {H : FW} {a : Act} {w : World} {β : Bm} (hs : SR P F lv n β tm H a w) {fn : Func} {l : List Value} (h : retAllA P lv tm H fn.results.toList = some l) :
    ∃ v, (results fn a.tmps).run P w = .ok v w ∧ VR β (tupA l) v := by
  obtain ⟨us, h1, h2, h3⟩ := retAllA_sound hs h
  have hres : results fn a.tmps = (do
      let vs ← fn.results.mapM (retOne a)
      pure (if h : vs.size = 1 then vs[0] else .tuple vs)) := by
    unfold results
    congr 1
  have hm : (fn.results.mapM (retOne a)).run P w = .ok us.toArray w := by
    rw [Array.mapM_eq_mapM_toList, Sem.run_map, h1]
    rfl
  rw [hres, Sem.run_bind, hm, Result.andThen_ok]
  cases h2 with
  | nil => exact ⟨_, rfl, .tuple .nil⟩
  | cons hv hvs =>
    cases hvs with
    | nil => exact ⟨_, rfl, hv⟩
    | cons hv' hvs' =>
      refine ⟨.tuple _, ?_, .tuple (.cons hv (.cons hv' hvs'))⟩
      rw [dif_neg (by simp)]
      rfl

/-! Calls. -/

theorem argsT_get : ∀ (vs : List Value) (i : Nat) (tm : TM), ∀ t, TM.val lv (argsT vs i tm) t = if i ≤ t ∧ t < i + vs.length then vs.getD (t - i) undef else TM.val lv tm t
  | [], i, tm, t => by
    rw [if_neg (by simp)]
    rfl
  | v :: r, i, tm, t => by
    simp only [List.length_cons]
    show TM.val lv (argsT r (i + 1) (tm.put i v)) t = _
    rw [argsT_get r (i + 1)]
    by_cases h1 : i + 1 ≤ t ∧ t < i + 1 + r.length
    · rw [if_pos h1, if_pos (by omega), show t - i = (t - (i + 1)) + 1 by omega, List.getD_cons_succ]
    · rw [if_neg h1, put_val]
      by_cases e : t = i
      · subst e
        rw [if_pos rfl, if_pos (by omega)]
        simp
      · rw [if_neg e, if_neg (by omega)]

theorem argsT_oks : ∀ (vs : List Value) (i : Nat) (tm : TM), i + vs.length ≤ 1000000 → (∀ p ∈ tm.loc, okN p.1 = true) → ∀ p ∈ (argsT vs i tm).loc, okN p.1 = true
  | [], _, _, _, h => h
  | v :: r, i, tm, hl, h => by
    simp only [List.length_cons] at hl
    refine argsT_oks r (i + 1) _ (by omega) fun p hp => ?_
    rcases List.mem_cons.1 hp with rfl | hp
    · show Nat.blt i 1099511627770 = true
      rw [Nat.blt_eq]; omega
    · exact h p hp

theorem val_empty (t : Nat) : TM.val lv ⟨[], .nil⟩ t = bot := by
  show outV lv .nil t = bot
  unfold outV
  cases lv t <;> rfl

/-- What is known as a whole of a function is true. -/
def SmGood (P : Program) (I : World → Prop) (R : Nat) (g : FuncId) (s : Sm) : Prop :=
  ∀ (F : Nat → World → Prop) (β : Bm) (H : FW) (w : World) (vs us : List Value) (v : Value) (H' : FW), FOk I F R → R ≤ H.next → Lo H → WR P F β H w → VRs β vs us → s.f R vs H = some (v, H') →
    (Lo H' ∧ H.next ≤ H'.next) ∧ xupon P (fun u w' => (false = true → Up w w') ∧ ∃ β', VR β' v u ∧ BLe β β' ∧ WR P F β' H' w') ((callFunc g us.toArray).run P w)

theorem SmGood.weaken {P : Program} {I J : World → Prop} {R : Nat} {g : FuncId} {s : Sm} (h : SmGood P J R g s) (hij : ∀ w, I w → J w) : SmGood P I R g s :=
  fun F β H w vs us v H' hF => h F β H w vs us v H' ⟨hF.1, by obtain ⟨R1, w1, f1, f2⟩ := hF.2; exact ⟨R1, w1, f1, hij _ f2⟩⟩

/-- What is known of functions is true. -/
structure EnvGood (P : Program) (I : World → Prop) (E : Env) : Prop where
  st : ∀ w w', I w → Below w.heap.size w w' → I w'
  ss : ∀ g s, E.ss g = some s → ∀ R, SmGood P I R g s
  kn : ∀ g vs v, E.kn g vs = some v → vs.all flatC = true ∧ plainV v = true ∧ ∀ w, I w → Calls P g vs.toArray w fun e w' => e = .returned v ∧ Up w w'
  ext : ∀ g vs v, (∃ fn, P.funcs[g]? = some fn ∧ fn.body = none) → extA (E.ext g) vs = some v → ∀ w, (callFunc g vs.toArray).run P w = .ok (.value v) w

theorem extA_rel {k : Nat} {vs us : List Value} {v : Value} {β : Bm} (h : extA k vs = some v) (hr : VRs β vs us) : us = vs ∧ VR β v v := by
  unfold extA at h
  split at h
  · simp only [Option.some.injEq] at h; subst h
    cases hr with
    | cons h1 h2 => cases h2 with
      | cons h2 h3 => cases h3; cases h1; cases h2; exact ⟨rfl, .int _ _⟩
  · simp only [Option.some.injEq] at h; subst h
    cases hr with
    | cons h1 h2 => cases h2 with
      | cons h2 h3 => cases h3; cases h1; cases h2; exact ⟨rfl, .int _ _⟩
  · cases h

theorem run_enter {f : FuncId} {fn : Func} {c : Code} (hf : P.funcs[f]? = some fn) (hname : (fn.name == "runtime.NumGoroutine") = false) (hb : fn.body = some c) (vs : Array Value) (w : World) :
    (callFunc f vs).run P w = .ok (.enter f vs) w := by
  unfold callFunc
  rw [Sem.run_bind, run_program, Result.andThen_ok, hf]
  have h3 : fn.body.isNone = false := by rw [hb]; rfl
  simp only [hname, h3, Bool.false_eq_true, if_false]
  rfl

theorem call_good {E : Env} (hE : EnvGood P I E) (hcl : ∀ R, CallGood P I R false (cl R)) (R : Nat) : CallGood P I R false (fun g vs H => callS P E cl R g vs H) := by
  intro F β H w g vs us v H' hF hR hlo hw hus h
  have h : callS P E cl R g vs H = some (v, H') := h
  unfold callS at h
  cases hss : E.ss g with
  | some s =>
    rw [hss] at h
    exact hE.ss g s hss R F β H w vs us v H' hF hR hlo hw hus h
  | none =>
  rw [hss] at h
  simp only at h
  split at h
  · rename_i fn hfn
    obtain ⟨hname, h⟩ := some_of_cond h
    have hname : (fn.name == "runtime.NumGoroutine") = false := by simpa using hname
    unfold bodyS at h
    cases hb : fn.body with
    | none =>
      rw [hb] at h
      simp only at h
      split at h
      · rename_i u he
        simp only [Option.some.injEq, Prod.mk.injEq] at h
        obtain ⟨rfl, rfl⟩ := h
        obtain ⟨rfl, hv⟩ := extA_rel he hus
        refine ⟨⟨hlo, Nat.le_refl _⟩, ?_⟩
        rw [hE.ext g _ _ ⟨fn, hfn, hb⟩ he w]
        exact ⟨fun h => (by cases h), β, hv, BLe.refl _, hw⟩
      · cases h
    | some c =>
      rw [hb] at h
      simp only at h
      rw [run_enter hfn hname hb]
      cases hkn : E.kn g vs with
      | some u =>
        rw [hkn] at h
        simp only at h
        simp only [Option.some.injEq, Prod.mk.injEq] at h
        obtain ⟨rfl, rfl⟩ := h
        obtain ⟨hfl, hpl, hc⟩ := hE.kn g _ _ hkn
        obtain rfl := flats_eq hfl hus
        have hIw : I w := by obtain ⟨R1, w1, f1, f2⟩ := hF.2; exact hE.st w1 w f2 (hw.frame R1 w1 f1)
        refine ⟨⟨hlo, Nat.le_refl _⟩, (hc w hIw).mono fun e w' ⟨he, hu⟩ => ⟨_, he, fun h => (by cases h), β, plain_self hpl, BLe.refl _, hw.up hu⟩⟩
      | none =>
        rw [hkn] at h
        simp only at h
        obtain ⟨hg, h⟩ := some_of_cond h
        rw [Bool.and_eq_true] at hg
        have hg1 := Nat.le_of_ble_eq_true hg.1
        have hg2 := Nat.le_of_ble_eq_true hg.2
        have hul := hus.length
        have hstart0 : SR P F (lvOf fn c) fn.ntmps β (argsT vs 0 ⟨[], .nil⟩) H { tmps := us.toArray ++ Array.replicate (fn.ntmps - us.toArray.size) undef, defers := [] } w := by
          refine ⟨⟨fun t => ?_, argsT_oks vs 0 _ (by omega) (fun p hp => by cases hp), by simp; omega, rfl⟩, hw, hlo⟩
          rw [argsT_get vs 0]
          by_cases ht : t < vs.length
          · rw [if_pos (by omega), Nat.sub_zero]
            obtain ⟨u, hu, hru⟩ := hus.get (List.getElem?_eq_getElem ht)
            have e1 : vs.getD t undef = vs[t] := by simp [List.getD, List.getElem?_eq_getElem ht]
            have e2 : (us.toArray ++ Array.replicate (fn.ntmps - us.toArray.size) undef).getD t undef = u := by
              rw [Array.getD_eq_getD_getElem?, Array.getElem?_append_left (by simp; omega)]
              simp [hu]
            rw [e1, e2]; exact hru
          · rw [if_neg (by omega), val_empty]
            exact .any
        have hstart := hstart0.flush
        unfold retS at h
        cases hca : codeA P (lvOf fn c) fn.ntmps cl R c ((argsT vs 0 ⟨[], .nil⟩).flush (lvOf fn c)) H with
        | none => rw [hca] at h; cases h
        | some q =>
          obtain ⟨x, tm', H1⟩ := q
          rw [hca] at h
          obtain ⟨h1, h2⟩ := code_good hcl hF c _ H _ w β x tm' H1 hstart hR hca
          have fin : (match retAllA P (lvOf fn c) tm' H1 fn.results.toList with
              | some l => some (tupA l, H1)
              | none => none) = some (v, H') → (exitOf x = .normal ∨ exitOf x = .ret) →
              (Lo H' ∧ H.next ≤ H'.next) ∧ Calls P g us.toArray w fun e w' => ∃ u, e = .returned u ∧ ((false = true → Up w w') ∧ ∃ β', VR β' v u ∧ BLe β β' ∧ WR P F β' H' w') := by
            intro h hx
            split at h
            · rename_i l hl
              simp only [Option.some.injEq, Prod.mk.injEq] at h
              obtain ⟨rfl, rfl⟩ := h
              refine ⟨h1, calls_of_wp hfn hb (Code.wp_mono (fun e a' w' he => ?_) h2)⟩
              obtain ⟨rfl, β', hb', hs'⟩ := he
              obtain ⟨u, hu, hru⟩ := results_sound (P := P) hs' hl
              have hpost : a'.defers = [] ∧ ∃ v', (results fn a'.tmps).run P w' = .ok v' w' ∧ ∃ u, Ending.returned v' = .returned u ∧ ((false = true → Up w w') ∧ ∃ β', VR β' (tupA l) u ∧ BLe β β' ∧ WR P F β' H1 w') :=
                ⟨hs'.fm.defers, u, hu, u, rfl, fun h => (by cases h), β', hru, hb', hs'.wr⟩
              rcases hx with hx | hx <;> rw [hx] <;> exact hpost
            · cases h
          cases x with
          | norm => exact fin h (.inl rfl)
          | ret => exact fin h (.inr rfl)
          | exit id => cases h
  · cases h

/-- Calls are as the store says. -/
theorem callA_good {E : Env} (hE : EnvGood P I E) : ∀ (f R : Nat), CallGood P I R false (callA P E f R)
  | 0, R => by intro F β H w g vs us v H' _ _ _ _ _ h; cases h
  | f + 1, R => call_good hE (fun R => callA_good hE f R) R

/-- A function's call, from a world of which the store says something: what it gives back, by the store; nothing that was there is written. -/
theorem calls_from {E : Env} (hE : EnvGood P I E) {f : Nat} {g : FuncId} {vs us : List Value} {v : Value} {H0 H' : FW} {β0 : Bm} (hc : callA P E f 600 g vs H0 = some (v, H')) (hf : ∃ fn c, P.funcs[g]? = some fn ∧ (fn.name == "runtime.NumGoroutine") = false ∧ fn.body = some c)
    (w : World) (hI : I w) (hlo : Lo H0) (hn : 600 ≤ H0.next) (hw : WR P (fun R' w0 => R' = 600 ∧ w0 = w) β0 H0 w) (hus : VRs β0 vs us) : Calls P g us.toArray w fun e w' => ∃ u, e = .returned u ∧ Up w w' ∧ ∃ β, BLe β0 β ∧ VR β v u ∧ WR P (fun R' w0 => R' = 600 ∧ w0 = w) β H' w' := by
  obtain ⟨fn, c, h1, h2, h3⟩ := hf
  obtain ⟨_, hx⟩ := callA_good hE f 600 _ _ H0 w g vs us v H' ⟨fun R' w0 h => by rw [h.1]; exact Nat.le_refl _, 600, w, ⟨rfl, rfl⟩, hI⟩ hn hlo hw hus hc
  rw [run_enter h1 h2 h3] at hx
  exact Calls.mono hx fun e w' ⟨u, he, _, β', hv, hb, hw'⟩ => ⟨u, he, hw'.frame 600 w ⟨rfl, rfl⟩, β', hb, hv, hw'⟩

/-- A world of which the store says nothing but where its variables lie: how great each is, and its elements' width. -/
def base0 (sz wd : Nat → Nat) : Bm := fun o => if o < 512 then some ⟨o, 0, sz o, wd o⟩ else none

theorem WR.base0 (sz wd : Nat → Nat) (w : World) : WR P (fun R' w0 => R' = 600 ∧ w0 = w) (Am.base0 sz wd) ⟨.nil, 600⟩ w := by
  refine ⟨fun g hg => ⟨⟨g, 0, sz g, wd g⟩, by simp [Am.base0, hg], rfl, rfl⟩, fun o ho _ => by simp [Am.base0]; omega, fun o x h => ?_, fun o o' x x' k k' h => ?_, fun R' w0 _ o x k h => ?_, fun R' w0 h => ?_, fun o c e k h => ?_⟩
  · have h' : none = some x := h
    cases h'
  · have h' : none = some x := h
    cases h'
  · have h' : none = some x := h
    cases h'
  · obtain ⟨_, rfl⟩ := h; exact Below.refl _ _
  · have h' : none = some (AObj.cells c e) := h
    cases h'

/-- One more block that the world holds, to be read. -/
theorem WR.tab {β : Bm} {H : FW} {w : World} {o : Nat} {k : Pl} {x : AObj} (h : WR P (fun R' w0 => R' = 600 ∧ w0 = w) β H w) (ho : H.heap.get o = none) (hlt : o < 600) (hb : β o = none ∧ 512 ≤ o ∨ β o = some k)
    (hno : ∀ o' x' k', H.heap.get o' = some x' → x'.live = true → β o' = some k' → k'.b ≠ k.b) (hx : OR (bset β o k) w k x) (hwd : ∀ c e, x = .cells c e → k.wd = P.cellsOf e) : WR P (fun R' w0 => R' = 600 ∧ w0 = w) (bset β o k) ⟨H.heap.set o x, H.next⟩ w := by
  have hok : okN o = true := by unfold okN; rw [Nat.blt_eq]; omega
  have get : ∀ o', (H.heap.set o x).get o' = if o' = o then some x else H.heap.get o' := fun o' => T.get_set _ _ _ hok
  have old : ∀ o', o' ≠ o → bset β o k o' = β o' := fun o' he => by simp [bset, he]
  have hle : BLe β (bset β o k) := by
    rcases hb with ⟨hb, _⟩ | hb
    · exact bset_le hb
    · intro o' k' hk'
      by_cases e : o' = o
      · subst e; rw [bset_same, ← hb]; exact hk'
      · rw [old _ e]; exact hk'
  refine ⟨fun g hg => ?_, fun o' h5' hg => ?_, fun o' y hy => ?_, ?_, fun R w0 hF o' y k' hy hl hR hk' => ?_, h.frame, fun o' c e k' hy hk' => ?_⟩
  · obtain ⟨kg, h1, h2, h3⟩ := h.gl g hg
    exact ⟨kg, hle _ _ h1, h2, h3⟩
  · simp only [get] at hg
    split at hg
    · cases hg
    · rename_i e; rw [old _ e]; exact h.fresh _ h5' hg
  · simp only [get] at hy
    split at hy
    · rename_i e
      simp only [Option.some.injEq] at hy
      subst hy; subst e
      exact ⟨k, bset_same _ _ _, hx⟩
    · rename_i e
      obtain ⟨k', hk', ho'⟩ := h.objs _ _ hy
      exact ⟨k', by rw [old _ e]; exact hk', ho'.keep hle fun _ => rfl⟩
  · intro o1 o2 x1 x2 k1 k2 g1 g2 l1 l2 hne hk1 hk2
    simp only [get] at g1 g2
    split at g1
    · rename_i e1
      subst e1
      rw [bset_same] at hk1
      simp only [Option.some.injEq] at hk1
      subst hk1
      split at g2
      · rename_i e2; exact absurd e2.symm hne
      · rename_i e2
        rw [old _ e2] at hk2
        exact fun e => hno _ _ _ g2 l2 hk2 e.symm
    · rename_i e1
      rw [old _ e1] at hk1
      split at g2
      · rename_i e2
        subst e2
        rw [bset_same] at hk2
        simp only [Option.some.injEq] at hk2
        subst hk2
        exact hno _ _ _ g1 l1 hk1
      · rename_i e2
        rw [old _ e2] at hk2
        exact h.inj _ _ _ _ _ _ g1 g2 l1 l2 hne hk1 hk2
  · simp only [get] at hy
    split at hy
    · have := hF.1
      omega
    · rename_i e
      rw [old _ e] at hk'
      exact h.mine R w0 hF o' y k' hy hl hR hk'
  · simp only [get] at hy
    split at hy
    · rename_i e1
      subst e1
      rw [bset_same] at hk'
      simp only [Option.some.injEq] at hk' hy
      subst hk'
      exact hwd c e hy
    · rename_i e1
      rw [old _ e1] at hk'
      exact h.wide _ _ _ _ hy hk'

/-- A function's call, from a world: what it gives back, by the store; nothing that was there is written. -/
theorem calls_by {E : Env} (hE : EnvGood P I E) {f : Nat} {g : FuncId} {vs us : List Value} {v : Value} {H' : FW} (hc : callA P E f 600 g vs ⟨.nil, 600⟩ = some (v, H')) (hf : ∃ fn c, P.funcs[g]? = some fn ∧ (fn.name == "runtime.NumGoroutine") = false ∧ fn.body = some c)
    (hus : ∀ β, VRs β vs us) (w : World) (hI : I w) : Calls P g us.toArray w fun e w' => ∃ u, e = .returned u ∧ Up w w' ∧ ∃ β, VR β v u := by
  refine Calls.mono (calls_from hE hc hf w hI ⟨by decide, fun o _ => rfl⟩ (Nat.le_refl _) (WR.base0 (fun _ => 0) (fun _ => 0) w) (hus _)) fun e w' ⟨u, he, hu, β', _, hv, _⟩ => ⟨u, he, hu, β', hv⟩

end
end Go.Am

set_option linter.unusedVariables false
set_option linter.unusedSimpArgs false
namespace Go.Am
open Go.ChangeShapes Go.WideShapes Go.ChangeAt Go.RowKit

theorem post_of_below {P : Program} {H : Type} {enc : TypeId × Value → H} {f : Func} {s : ChangeSpec} {apart fresh handsOn again : Bool} {W W' : World} {args : Array Value} {v : Value} {ds gs : List (DataW H)} {before pa pv : List MemPlace}
    (hW : DataW.Whole enc P f.params.toList s.vars apart W args.toList ds gs before)
    (hres : ∀ (b : Nat) (sp : Nat → Bool) (hd : Bool), DataW.TrodAll enc P W' b sp hd f.resultTypes.toList (v.resultList f.resultTypes.size) (s.fn H (ds ++ gs)).results [])
    (hargs : ∀ sp : Nat → Bool, (∀ p ∈ before, sp p.block = true) → DataW.TrodAll enc P W' 0 sp true f.params.toList args.toList (s.fn H (ds ++ gs)).args pa)
    (hvars : ∀ sp : Nat → Bool, (∀ p ∈ before, sp p.block = true) → DataW.TrodVars enc P W' sp s.vars (s.fn H (ds ++ gs)).vars pv)
    (hps : before = pa ++ pv) (hb : Below W.heap.size W W')
    (hok : ∀ (j : Nat) (t : TypeId) (r : Value), f.resultTypes[j]? = some t → (v.resultList f.resultTypes.size)[j]? = some r → Value.okWide P W' .any 0 t r) :
    s.post enc P f apart fresh handsOn again W args v W' := by
  have hold : ∀ p ∈ before, (fun b => decide (b < W.heap.size)) p.block = true := fun p hp => by simpa using hW.lt p hp
  have hlt := hW.lt
  refine ⟨ds, gs, before, [], pa, pv, hW, hres _ _ _, hargs _ hold, hvars _ hold, World.keptBut_mono (fun p hp => ⟨hp, ?_⟩) (hb.frame (· ∈ before)), fun _ => ?_⟩
  · rw [hps, List.mem_append] at hp
    exact Or.inr hp
  · obtain ⟨_, _, _, _, _, hz, hn⟩ := hW
    refine ⟨hok, _, _, ([] ++ pa) ++ pv, ⟨[] ++ pa, pv, trodAll_append (hargs _ (fun _ _ => rfl)) (hres _ _ _), hvars _ (fun _ _ => rfl), rfl, ?_, ?_⟩, ?_⟩
    · intro b off hp
      have hp' : MemPlace.cell b off ∈ before := by rw [hps]; simpa using hp
      rw [hb.frozen (p := ⟨b, off, none⟩) (hlt _ hp')]
      exact hz b off hp'
    · intro ha
      have := hn ha
      rw [hps] at this
      simpa using this
    · intro p hp _
      rw [hps]
      simpa using hp

/-- The call came to true. -/
def isT : Option (Value × FW) → Bool
  | some (.bool b, _) => b
  | _ => false

theorem isT_spec {r : Option (Value × FW)} (h : isT r = true) : ∃ H, r = some (.bool true, H) := by
  unfold isT at h
  split at h
  · subst h; exact ⟨_, rfl⟩
  · cases h

/-- A call that comes to true by the store comes to true, in every world. -/
theorem calls_true {I : World → Prop} {P : Program} {E : Env} (hE : EnvGood P I E) {f : Nat} {g : FuncId} {vs us : List Value} (hc : isT (callA P E f 600 g vs ⟨.nil, 600⟩) = true) (hf : ∃ fn c, P.funcs[g]? = some fn ∧ (fn.name == "runtime.NumGoroutine") = false ∧ fn.body = some c)
    (hus : ∀ β, VRs β vs us) (w : World) (hI : I w) : Calls P g us.toArray w fun e w' => e = .returned (.bool true) ∧ Up w w' := by
  obtain ⟨H, hc⟩ := isT_spec hc
  refine (calls_by hE hc hf hus w hI).mono fun e w' ⟨u, he, hu, β, hr⟩ => ?_
  cases hr
  exact ⟨he, hu⟩

/-- The same from a world of which the store says something. -/
theorem calls_true_from {I : World → Prop} {P : Program} {E : Env} (hE : EnvGood P I E) {f : Nat} {g : FuncId} {vs us : List Value} {H0 : FW} {β0 : Bm} (hc : isT (callA P E f 600 g vs H0) = true) (hf : ∃ fn c, P.funcs[g]? = some fn ∧ (fn.name == "runtime.NumGoroutine") = false ∧ fn.body = some c)
    (w : World) (hI : I w) (hlo : Lo H0) (hn : 600 ≤ H0.next) (hw : WR P (fun R' w0 => R' = 600 ∧ w0 = w) β0 H0 w) (hus : VRs β0 vs us) : Calls P g us.toArray w fun e w' => e = .returned (.bool true) ∧ Up w w' := by
  obtain ⟨H, hc⟩ := isT_spec hc
  refine (calls_from hE hc hf w hI hlo hn hw hus).mono fun e w' ⟨u, he, hu, β, _, hr, _⟩ => ?_
  cases hr
  exact ⟨he, hu⟩

/-- Nothing is known. -/
def E0 : Env := ⟨fun _ _ => none, fun _ => 0, fun _ => none⟩

theorem extA_zero (vs : List Value) : extA 0 vs = none := by
  unfold extA
  split
  · omega
  · omega
  · rfl

theorem E0_good (P : Program) : EnvGood P (fun _ => True) E0 := by
  refine ⟨fun _ _ _ _ => trivial, fun _ _ h => (by cases h), fun _ _ _ h => (by cases h), fun _ vs v _ h => ?_⟩
  have h' : extA 0 vs = some v := h
  rw [extA_zero] at h'
  cases h'

/-- Of one function without arguments it is known that it comes to true. -/
def E1 (k : FuncId) : Env := ⟨fun g vs => bif Nat.beq g k && vs.isEmpty then some (.bool true) else none, fun _ => 0, fun _ => none⟩

theorem E1_good {P : Program} {I : World → Prop} {k : FuncId} (st : ∀ w w', I w → Below w.heap.size w w' → I w') (h : ∀ w, I w → Calls P k #[] w fun e w' => e = .returned (.bool true) ∧ Up w w') : EnvGood P I (E1 k) := by
  refine ⟨st, fun _ _ h => (by cases h), fun g vs v hk => ?_, (E0_good P).ext⟩
  have hk' : (bif Nat.beq g k && vs.isEmpty then some (Value.bool true) else none) = some v := hk
  obtain ⟨h1, h2⟩ := some_of_cond hk'
  simp only [Bool.and_eq_true] at h1
  simp only [Option.some.injEq] at h2
  subst h2
  have := Nat.eq_of_beq_eq_true h1.1
  subst this
  have : vs = [] := by simpa using h1.2
  subst this
  exact ⟨rfl, rfl, h⟩

end Go.Am
