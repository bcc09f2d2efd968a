/- Operations that look: addresses, parts, cuts, maps, literals. No conditions. -/
import Derived.Test.YthmkdcclmaoonaaDoorA5
set_option linter.unusedVariables false
set_option linter.unusedSimpArgs false
namespace Go.Am
open Go.RowKit
section
variable {P : Program} {R : Nat} {F : Nat → World → Prop} {β : Bm} {H : FW} {w : World} {q : Bool}

theorem unA_sound {op : UnOp} {x x' v : Value} (hx : VR β x x') (h : unA op x = some v) : Sees P q (Op.unary op x') β w v := by
  unfold unA at h
  split at h
  · simp only [Option.some.injEq] at h; subst h
    cases hx
    exact .just (fun _ => by rw [wrapF_eq]; rfl) (.int _ _)
  · simp only [Option.some.injEq] at h; subst h
    cases hx
    exact .just (fun _ => rfl) (.bool _)
  · simp only [Option.some.injEq] at h; subst h
    cases hx
    exact .just (fun _ => rfl) (.int _ _)
  · cases h

theorem bytesOf_sound : ∀ {l us : List Value} {bs : List UInt8}, bytesOf l = some bs → VRs β l us → ∃ ns : List Int, us = ns.map (fun n => .int .u8 n) ∧ bs = ns.map fun n => UInt8.ofNat n.toNat
  | [], us, bs, h, hr => by
    simp only [bytesOf, Option.some.injEq] at h
    subst h
    cases hr
    exact ⟨[], rfl, rfl⟩
  | v :: l, us, bs, h, hr => by
    unfold bytesOf at h
    split at h
    · cases ‹_ :: _ = _›
    · rename_i n r heq
      cases heq
      cases hb : bytesOf l with
      | none => rw [hb] at h; cases h
      | some bs' =>
        rw [hb] at h
        simp only [Option.some.injEq] at h; subst h
        cases hr with
        | cons h1 h2 =>
          cases h1
          obtain ⟨ns, rfl, rfl⟩ := bytesOf_sound hb h2
          exact ⟨n :: ns, rfl, rfl⟩
    · cases h

theorem foldl_push : ∀ (ns : List Int) (r : ByteArray), ns.foldl (fun r n => r.push (UInt8.ofNat n.toNat)) r = ⟨⟨r.data.toList ++ ns.map fun n => UInt8.ofNat n.toNat⟩⟩
  | [], r => by
    obtain ⟨⟨l⟩⟩ := r
    simp
  | n :: ns, r => by
    rw [List.foldl_cons, foldl_push ns]
    obtain ⟨⟨l⟩⟩ := r
    simp [ByteArray.push]

theorem run_bytesToString_of (w : World) (a : Addr) (len cap : Nat) (ns : List Int) (h : (loadCells a len).run P w = .ok (ns.map (fun n => Value.int .u8 n)).toArray w) :
    (Conv.bytesToString (.slice (some a) len cap)).run P w = .ok (.string ⟨⟨ns.map fun n => UInt8.ofNat n.toNat⟩⟩) w := by
  rw [run_bytesToString w a len cap ns h, foldl_push]
  rfl

theorem convA_sound (h : WR P F β H w) {s d : TypeId} {x x' v : Value} (hx : VR β x x') (he : convA P s d x H = some v) : Sees P false (convert s d x') β w v := by
  unfold convA at he
  split at he
  · rename_i k0 k k1 n h1 h2
    simp only [Option.some.injEq] at he; subst he
    cases hx
    refine .just (fun w' => ?_) (.int _ _)
    unfold convert
    rw [Sem.run_bind, run_underlying h1, Result.andThen_ok, Sem.run_bind, run_underlying h2, Result.andThen_ok, wrapF_eq]
    rfl
  · rename_i s' h1 h2
    simp only [Option.some.injEq] at he; subst he
    cases hx
    refine .just (fun w' => ?_) (.string _)
    unfold convert
    rw [Sem.run_bind, run_underlying h1, Result.andThen_ok, Sem.run_bind, run_underlying h2, Result.andThen_ok]
    rfl
  · rename_i e n c h1 h2
    cases hu : P.underlying e with
    | none => rw [hu] at he; cases he
    | some td =>
      rw [hu] at he
      split at he
      · rename_i heq
        simp only [Option.some.injEq] at heq
        subst heq
        simp only [Option.some.injEq] at he; subst he
        cases hx
        refine .just (fun w' => ?_) (.string _)
        unfold convert
        rw [Sem.run_bind, run_underlying h1, Result.andThen_ok, Sem.run_bind, run_underlying h2, Result.andThen_ok]
        simp only
        rw [Sem.run_bind, run_underlying hu, Result.andThen_ok]
        rfl
      · cases he
  · rename_i e a n c h1 h2
    split at he
    · rename_i l hu hl
      cases hb : bytesOf l with
      | none => rw [hb] at he; cases he
      | some bs =>
        rw [hb] at he
        simp only [Option.some.injEq] at he; subst he
        have hrun : ∀ (a' : Addr) (cap : Nat) (w' : World), (convert s d (.slice (some a') n cap)).run P w' = (Conv.bytesToString (.slice (some a') n cap)).run P w' := by
          intro a' cap w'
          unfold convert
          rw [Sem.run_bind, run_underlying h1, Result.andThen_ok, Sem.run_bind, run_underlying h2, Result.andThen_ok]
          simp only
          rw [Sem.run_bind, run_underlying hu, Result.andThen_ok]
        rcases hx.sl_inv with ⟨k, cap, hsp, hk, _, _, _, _, _, rfl⟩ | ⟨rfl, rfl, b, j, cap, rfl⟩
        · have ha : a = ⟨a.block, a.off, none⟩ := by cases a; simp_all
          rw [ha] at hl
          obtain ⟨us, hus, hul, hld⟩ := h.loads (P := P) hk hl
          obtain ⟨ns, rfl, rfl⟩ := bytesOf_sound hb hus
          refine ⟨_, fun w' hw' => ?_, .string _⟩
          rw [hrun]
          have hcells : (loadCells ⟨k.b, k.lo + a.off, none⟩ n).run P w' = .ok (ns.map (fun n => Value.int .u8 n)).toArray w' := hld w' (hw'.resolve_left (by simp))
          exact run_bytesToString_of w' _ n cap ns hcells
        · have : bs = [] := by
            have hl0 : l = [] := by
              unfold FW.row at hl
              split at hl
              · cases hl
              · split at hl
                · obtain ⟨_, hl⟩ := some_of_cond hl
                  simp only [Option.some.injEq] at hl
                  rw [← hl]; simp
                · cases hl
            subst hl0
            simpa [bytesOf] using hb.symm
          subst this
          refine .just (fun w' => ?_) (.string _)
          rw [hrun]
          have hcells : (loadCells ⟨b, j, none⟩ 0).run P w' = .ok ([].map (fun n => Value.int .u8 n)).toArray w' := rfl
          exact run_bytesToString_of w' _ 0 cap [] hcells
    · cases he
  · cases he

theorem fieldAddrA_sound {s : TypeId} {x x' v : Value} {f : Nat} (hx : VR β x x') (he : fieldAddrA P s x f = some v) : Sees P q (Instr.fieldAt s x' f) β w v := by
  unfold fieldAddrA at he
  split at he
  · rename_i fs a hu
    cases hf : fs[f]? with
    | none => simp [hf] at he
    | some fd =>
      cases hi : P.info? fd.type with
      | none => simp [hf, hi] at he
      | some fi =>
        simp only [hf, hi] at he
        obtain ⟨hg, he⟩ := some_of_cond he
        simp only [Bool.and_eq_true, Nat.blt_eq] at hg
        simp only [Option.some.injEq] at he; subst he
        obtain ⟨k, hsp, hk, rfl⟩ := hx.ptr_inv
        refine .just (u := .pointer (some ⟨k.b, k.lo + a.off + fd.offset, none⟩)) (fun w' => ?_) ?_
        · unfold Instr.fieldAt
          rw [Sem.run_bind, run_underlying hu, Result.andThen_ok]
          simp only [hf, Instr.sureAddr, pure_bind]
          rw [Sem.run_bind]
          unfold fieldPlace
          rw [Sem.run_bind, run_sizeOf' hi, Result.andThen_ok, if_neg (by omega), add_lit]
          rfl
        · rw [Nat.add_assoc]; exact .ptr hk
  · cases he

theorem partA_sound {t : TypeId} {cs cs' : List Value} {off : Nat} {v : Value} (hc : VRs β cs cs') (he : partA P t cs off = some v) : Sees P q (part t ⟨cs'⟩ off) β w v := by
  unfold partA at he
  obtain ⟨hs, he⟩ := some_of_cond he
  obtain ⟨d, hd⟩ := Option.isSome_iff_exists.1 hs
  obtain ⟨ti, hti⟩ := info_of_underlying hd
  cases hag : aggT P t with
  | true =>
    rw [hag, cond_true] at he
    obtain ⟨hle, he⟩ := some_of_cond he
    simp only [Option.some.injEq] at he; subst he
    refine .just (u := .agg ⟨(cs'.drop off).take (P.cellsOf t)⟩) (fun w' => ?_) (.agg ((hc.drop off).take _))
    unfold part
    rw [Sem.run_bind, run_isAgg hd, Result.andThen_ok, if_pos hag, Sem.run_bind, run_sizeOf' hti, cellsOf_eq hti]
    simp [List.take_drop, Nat.add_comm]
  | false =>
    rw [hag, cond_false] at he
    obtain ⟨u, hu, hr⟩ := hc.get he
    exact .just (fun w' => run_part hd hag hu w') hr

theorem fieldA_sound {s : TypeId} {x x' v : Value} {f : Nat} (hx : VR β x x') (he : fieldA P s x f = some v) : Sees P q (Instr.field s x' f) β w v := by
  unfold fieldA at he
  split at he
  · rename_i fs cs hu
    cases hf : fs[f]? with
    | none => simp [hf] at he
    | some fd =>
      simp only [hf] at he
      cases hx with
      | agg hl =>
        obtain ⟨u, h1, h2⟩ := partA_sound (P := P) (q := q) (w := w) hl he
        refine ⟨u, fun w' hw' => ?_, h2⟩
        rw [← h1 w' hw']
        unfold Instr.field
        rw [Sem.run_bind, run_underlying hu, Result.andThen_ok]
        simp only [hf]
        rfl
  · cases he

theorem run_indexAt_slice {t e : TypeId} {i : Int} {k : IntKind} {b off n cap : Nat} {ei : TypeInfo} (hu : P.underlying t = some (.slice e)) (hei : P.info? e = some ei) (hb : 0 ≤ i ∧ i < n) (w : World) :
    (Instr.indexAt t (.slice (some ⟨b, off, none⟩) n cap) (.int k i)).run P w = .ok (.pointer (some ⟨b, off + i.toNat * ei.size, none⟩)) w := by
  unfold Instr.indexAt
  simp only [asIntOf, pure_bind]
  rw [Sem.run_bind, run_underlying hu, Result.andThen_ok]
  simp only [pure_bind]
  rw [Sem.run_bind, run_underlying hu, Result.andThen_ok]
  simp only [pure_bind, if_pos hb]
  rw [Sem.run_bind, run_sizeOf' hei, Result.andThen_ok, add_lit]
  rfl

theorem run_indexAt_array {t e : TypeId} {i : Int} {k : IntKind} {b off n : Nat} {ei : TypeInfo} (hu : P.underlying t = some (.array n e)) (hei : P.info? e = some ei) (hb : 0 ≤ i ∧ i < n) (w : World) :
    (Instr.indexAt t (.pointer (some ⟨b, off, none⟩)) (.int k i)).run P w = .ok (.pointer (some ⟨b, off + i.toNat * ei.size, none⟩)) w := by
  unfold Instr.indexAt
  simp only [asIntOf, pure_bind]
  rw [Sem.run_bind, run_underlying hu, Result.andThen_ok]
  simp only [Instr.sureAddr, pure_bind]
  rw [Sem.run_bind, run_underlying hu, Result.andThen_ok]
  simp only [pure_bind, if_pos hb]
  rw [Sem.run_bind, run_sizeOf' hei, Result.andThen_ok, add_lit]
  rfl

theorem indexAddrA_sound {t : TypeId} {x ix x' ix' v : Value} (hx : VR β x x') (hi : VR β ix ix') (he : indexAddrA P t x ix = some v) : Sees P q (Instr.indexAt t x' ix') β w v := by
  unfold indexAddrA at he
  split at he
  · rename_i k i
    cases hi
    split at he
    · rename_i e a n c hu
      cases hei : P.info? e with
      | none => rw [hei] at he; cases he
      | some ei =>
        rw [hei] at he
        simp only at he
        obtain ⟨hg, he⟩ := some_of_cond he
        simp only [Bool.and_eq_true, Nat.blt_eq] at hg
        simp only [Option.some.injEq] at he; subst he
        rcases hx.sl_inv with ⟨k', cap, hsp, hk, _, _, _, _, _, rfl⟩ | ⟨rfl, rfl, b, j, cap, rfl⟩
        · refine .just (fun w' => run_indexAt_slice hu hei ⟨by simp, by simpa using hg.1⟩ w') ?_
          rw [Nat.add_assoc]; exact .ptr hk
        · omega
    · rename_i n e a hu
      cases hei : P.info? e with
      | none => rw [hei] at he; cases he
      | some ei =>
        rw [hei] at he
        simp only at he
        obtain ⟨hg, he⟩ := some_of_cond he
        simp only [Bool.and_eq_true, Nat.blt_eq] at hg
        simp only [Option.some.injEq] at he; subst he
        obtain ⟨k', hsp, hk, rfl⟩ := hx.ptr_inv
        refine .just (fun w' => run_indexAt_array hu hei ⟨by simp, by simpa using hg.1⟩ w') ?_
        rw [Nat.add_assoc]; exact .ptr hk
    · cases he
  · cases he

theorem indexA_sound {t : TypeId} {x ix x' ix' v : Value} (hx : VR β x x') (hi : VR β ix ix') (he : indexA P t x ix = some v) : Sees P q (Instr.index t x' ix') β w v := by
  unfold indexA at he
  split at he
  · rename_i k i
    cases hi
    split at he
    · rename_i s hu
      cases hg : s.data.toList[i]? with
      | none => rw [hg] at he; cases he
      | some b =>
        rw [hg] at he
        simp only [Option.some.injEq] at he; subst he
        cases hx
        refine .just (fun w' => ?_) (.int _ _)
        unfold Instr.index
        simp only [asIntOf, pure_bind]
        rw [Sem.run_bind, run_underlying hu, Result.andThen_ok]
        have hlt : i < s.data.toList.length := (List.getElem?_eq_some_iff.1 hg).1
        have hgs : s[i]? = some b := by
          rw [getElem?_pos s i hlt]
          rw [List.getElem?_eq_getElem hlt] at hg
          simp only [Option.some.injEq] at hg
          rw [← hg]
          rfl
        have e : (Int.ofNat i).toNat = i := rfl
        have h0 : (0 : Int) ≤ Int.ofNat i := by simp
        simp only [if_pos h0, e, hgs]
        rfl
    · rename_i n e cs hu
      cases hei : P.info? e with
      | none => rw [hei] at he; cases he
      | some ei =>
        rw [hei] at he
        simp only at he
        obtain ⟨hg, he⟩ := some_of_cond he
        have hg : i < n := by simpa [Nat.blt_eq] using hg
        cases hx with
        | agg hl =>
          obtain ⟨u, h1, h2⟩ := partA_sound (P := P) (q := q) (w := w) hl he
          refine ⟨u, fun w' hw' => ?_, h2⟩
          rw [← h1 w' hw']
          unfold Instr.index
          simp only [asIntOf, pure_bind]
          rw [Sem.run_bind, run_underlying hu, Result.andThen_ok]
          have hb : (0 : Int) ≤ Int.ofNat i ∧ Int.ofNat i < (n : Int) := ⟨by simp, by simpa using hg⟩
          simp only [if_pos hb]
          rw [Sem.run_bind, run_sizeOf' hei, Result.andThen_ok]
          rfl
    · cases he
  · cases he

theorem extractA_sound {x x' v : Value} {i : Nat} (hx : VR β x x') (he : extractA x i = some v) : Sees P q (Instr.extract x' i) β w v := by
  unfold extractA at he
  split at he
  · cases hx with
    | tuple hl =>
      rename_i l l'
      obtain ⟨u, hu, hr⟩ := hl.get he
      refine .just (fun w' => ?_) hr
      unfold Instr.extract
      have : (⟨l'⟩ : Array Value)[i]? = some u := by simpa using hu
      simp only [this]
      rfl
  · cases he

theorem ifaceA_sound {t : TypeId} {x x' v : Value} (hx : VR β x x') (he : ifaceA P t x = some v) : Sees P q (Instr.makeInterface t x') β w v := by
  unfold ifaceA at he
  split at he
  · cases he
  · rename_i d hne hu
    simp only [Option.some.injEq] at he; subst he
    refine .just (fun w' => ?_) (.iface hx)
    unfold Instr.makeInterface
    rw [Sem.run_bind, run_underlying hu, Result.andThen_ok]
    cases d <;> first | rfl | exact absurd rfl (hne _)
  · cases he

theorem flat_rel {v : Value} (h : flatC v = true) : VR β v v := by
  unfold flatC at h
  split at h
  · exact .bool _
  · exact .int _ _
  · exact .string _
  · exact .nilFunc
  · exact .nilIface
  · exact .pnil
  · exact .mnil
  · exact .snil
  · cases h

theorem flats_rel : ∀ {l : List Value}, l.all flatC = true → VRs β l l
  | [], _ => .nil
  | v :: l, h => by
    simp only [List.all_cons, Bool.and_eq_true] at h
    exact .cons (flat_rel h.1) (flats_rel h.2)

theorem cstA_rel (v : Value) : VR β (cstA v) v := by
  cases v with
  | bool b => exact .bool b
  | int k n => exact .int k n
  | float k b => exact .any
  | complex k x y => exact .any
  | string s => exact .string s
  | pointer a =>
    cases a with
    | none => exact .pnil
    | some a => exact .any
  | slice a n c =>
    cases a with
    | some a => exact .any
    | none =>
      cases n with
      | zero =>
        cases c with
        | zero => exact .snil
        | succ c => exact .any
      | succ n => exact .any
  | map r =>
    cases r with
    | none => exact .mnil
    | some r => exact .any
  | chan r => exact .any
  | func fn fs cs => exact .any
  | nilFunc => exact .nilFunc
  | iface t v => exact .any
  | nilIface => exact .nilIface
  | agg cs =>
    show VR β (bif cs.toList.all flatC then .agg cs else bot) _
    cases hb : cs.toList.all flatC with
    | true => rw [cond_true]; exact .agg (flats_rel hb)
    | false => rw [cond_false]; exact .any
  | tuple cs =>
    show VR β (bif cs.toList.all flatC then .tuple cs else bot) _
    cases hb : cs.toList.all flatC with
    | true => rw [cond_true]; exact .tuple (flats_rel hb)
    | false => rw [cond_false]; exact .any

end
end Go.Am
