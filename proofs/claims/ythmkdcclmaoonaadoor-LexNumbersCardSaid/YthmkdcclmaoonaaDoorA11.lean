/- Operations that write: append, copy, clear. No conditions. -/
import Derived.Test.YthmkdcclmaoonaaDoorA10
import Derived.Laws.Append
import Derived.Laws.IdiomStrings
set_option linter.unusedVariables false
set_option linter.unusedSimpArgs false
namespace Go.Am
open Go.RowKit
section
variable {P : Program} {R : Nat} {F : Nat → World → Prop} {β : Bm} {H : FW} {w : World} {q : Bool}

/-- What is handed over to be appended, or copied. -/
structure SrcOf (P : Program) (β : Bm) (w : World) (size : Nat) (x x' : Value) (l news : List Value) : Prop where
  len : ∀ w', (Builtin.lenOf x').run P w' = .ok (lenV x) w'
  rel : VRs β l news
  first : ∀ n, n ≤ lenV x → ∀ w', w'.heap = w.heap → (Builtin.firstCells size n x').run P w' = .ok (news.take (n * size)).toArray w'

theorem loadCells_none (a : Addr) (w : World) : (loadCells a 0).run P w = .ok #[] w := rfl

theorem cells_at {b i n : Nat} {us : List Value} (hl : us.length = n) (h : ∀ j, j < n → ∃ u, w.cell? ⟨b, i + j, none⟩ = some u ∧ us[j]? = some u) :
    ∀ w' : World, w'.heap = w.heap → ∀ (j : Nat) v, us[j]? = some v → w'.cell? ((⟨b, i, none⟩ : Addr).add j) = some v := by
  intro w' hw j v hv
  have hj : j < n := by rw [← hl]; exact (List.getElem?_eq_some_iff.1 hv).1
  obtain ⟨u, hu, hv2⟩ := h j hj
  rw [hv] at hv2
  simp only [Option.some.injEq] at hv2
  subst hv2
  rw [add_lit, ← hu]
  simp [World.cell?, hw]

theorem srcCells_sound (h : WR P F β H w) {e size : Nat} {x x' : Value} {l : List Value} (hx : VR β x x') (he : srcCells P H e size x = some l) (hlen : l.length = lenV x * size) :
    ∃ news, SrcOf P β w size x x' l news := by
  unfold srcCells at he
  split at he
  · simp only [Option.some.injEq] at he; subst he
    cases hx
    exact ⟨[], fun _ => rfl, .nil, fun n hn w' _ => by
      have : n = 0 := by simpa [lenV] using hn
      subst this
      simp [Builtin.firstCells]⟩
  · rename_i a c
    simp only [Option.some.injEq] at he; subst he
    have : ∃ a' cap, x' = .slice (some a') 0 cap := by
      rcases hx.sl_inv with ⟨k, cap, _, _, _, _, _, _, _, rfl⟩ | ⟨_, _, b, j, cap, rfl⟩
      · exact ⟨_, _, rfl⟩
      · exact ⟨_, _, rfl⟩
    obtain ⟨a', cap, rfl⟩ := this
    exact ⟨[], fun _ => rfl, .nil, fun n hn w' _ => by
      have : n = 0 := by simpa [lenV] using hn
      subst this
      simp [Builtin.firstCells, loadCells, loadCellsFrom]⟩
  · rename_i a n c
    rcases hx.sl_inv with ⟨k, cap, hsp, hk, _, _, _, _, _, rfl⟩ | ⟨h0, _⟩
    · have ha : a = ⟨a.block, a.off, none⟩ := by cases a; simp_all
      rw [ha] at he
      obtain ⟨us, h1, h2, h3⟩ := h.row hk he
      have hl : us.length = (n + 1) * size := by rw [h1.length, h2]
      refine ⟨us, fun _ => rfl, h1, fun m hm w' hw' => ?_⟩
      have hm : m ≤ n + 1 := hm
      have hms : m * size ≤ (n + 1) * size := Nat.mul_le_mul_right _ hm
      have := run_firstCells_some (P := P) w' size m ⟨k.b, k.lo + a.off, none⟩ (n + 1) cap (us.take (m * size)) (by rw [List.length_take]; omega) (fun j v hv => by
        rw [List.getElem?_take] at hv
        split at hv
        · exact cells_at hl h3 w' hw' j v hv
        · cases hv)
      exact this
    · omega
  · rename_i s
    split at he
    · simp only [Option.some.injEq] at he; subst he
      cases hx
      have hz : s.size = s.data.toList.length := rfl
      refine ⟨_, fun w' => ?_, flats_rel (List.all_eq_true.2 fun v hv => by obtain ⟨b, _, rfl⟩ := List.mem_map.1 hv; rfl), fun n hn w' _ => ?_⟩
      · simp only [Builtin.lenOf, lenV, hz]; rfl
      · simp only [Builtin.firstCells, Sem.run_pure]
        congr 1
        apply Array.ext'
        have hn : n ≤ s.data.toList.length := hn
        have hmul : s.data.toList.length = s.data.toList.length * size := by simpa [lenV] using hlen
        have htk : s.data.toList.take (n * size) = s.data.toList.take n := by
          rcases Nat.eq_zero_or_pos s.data.toList.length with h0 | h0
          · have : s.data.toList = [] := List.eq_nil_of_length_eq_zero h0
            simp [this]
          · have : size = 1 := by
              have h1 : s.data.toList.length * size = s.data.toList.length * 1 := by omega
              exact Nat.eq_of_mul_eq_mul_left h0 h1
            rw [this, Nat.mul_one]
        have := Lib.extract_data s 0 n
        rw [← List.map_take, htk]
        simp [this]
    · cases he
  · cases he

section
variable {t t' ty e : TypeId} {td : TypeDesc} {i : TypeInfo}

theorem run_append_roomA (ht : P.underlying t = some (.slice e)) (ht' : P.underlying t' = some td) (htd : (∃ u, td = .slice u) ∨ td = .string)
    (hi : P.info? e = some i) {x x' : Value} {l news : List Value} (hx : SrcOf P β w i.size x x' l news) (hl : news.length = lenV x * i.size)
    (ts : Array TypeId) (h0 : ts[0]? = some t) (h1 : ts[1]? = some t') (a : Option Addr) (n cap : Nat) (hroom : n + lenV x ≤ cap) :
    (Builtin.append_ ts ty #[.slice a n cap, x']).run P w =
      ((match a with
        | some a => storeCells (a.add (n * i.size)) news
        | none => pure ()).run P w).andThen fun _ w' => .ok (.slice a (n + lenV x) cap) w' := by
  have hf := hx.first (lenV x) (Nat.le_refl _) w rfl
  rw [← hl, List.take_length] at hf
  rcases htd with ⟨u, rfl⟩ | rfl <;> cases a <;>
  simp [Builtin.append_, h0, h1, run_underlying ht, run_underlying ht', sizeOf, typeInfo, hi, hx.len, hroom, hf]

theorem run_append_growA (ht : P.underlying t = some (.slice e)) (ht' : P.underlying t' = some td) (htd : (∃ u, td = .slice u) ∨ td = .string)
    (hi : P.info? e = some i) {z : Value} (hz : i.zero = some z) {x x' : Value} {l news : List Value} (hx : SrcOf P β w i.size x x' l news) (hl : news.length = lenV x * i.size)
    (ts : Array TypeId) (h0 : ts[0]? = some t) (h1 : ts[1]? = some t') (base : Option Addr) (n cap : Nat) (olds : List Value)
    (hfo : (Builtin.firstCells i.size n (.slice base n cap)).run P w.drew = .ok olds.toArray w.drew)
    (hg : cap < n + lenV x) (h63 : n + lenV x ≤ 9223372036854775807) (hfit : Builtin.nextslicecap (n + lenV x) cap * i.bytes ≤ 281474976710656) :
    (Builtin.append_ ts ty #[.slice base n cap, x']).run P w =
      .ok (.slice (some ⟨w.heap.size, 0, none⟩) (n + lenV x) (grownCap w (n + lenV x) cap e))
        (w.drew.alloc (.cells (olds.toArray ++ news.toArray ++ Builtin.zeroCells z.cells (grownCap w (n + lenV x) cap e - (n + lenV x))) e)) := by
  have hf := hx.first (lenV x) (Nat.le_refl _) w.drew rfl
  rw [← hl, List.take_length] at hf
  have hn : ¬ (n + lenV x ≤ cap) := by omega
  have h63' : ¬ (9223372036854775807 < ((n : Int) + (lenV x : Int))) := by omega
  have h48' : ¬ (281474976710656 < Builtin.nextslicecap (n + lenV x) cap * i.bytes) := by omega
  rcases htd with ⟨u, rfl⟩ | rfl
  all_goals
    simp [Builtin.append_, h0, h1, run_underlying ht, run_underlying ht', sizeOf, typeInfo, zeroValue, hi, hz, hx.len, hn, h63', h48', Question.forced, hf, hfo, newRow, grownCap]
    congr 2
    apply Array.ext'
    simp [List.append_assoc]

/-- A block that grew. -/
theorem grownA_sound {W : World} {olds news lo ln : List Value} {z : Array Value} {n cap : Nat} {v : Value} {H' : FW} (h : WR P F β H W) (h5 : 512 ≤ H.next) (ho : VRs β lo olds) (hn : VRs β ln news)
    (hl : (lo ++ ln).length = n * P.cellsOf e) (hz : z.size = P.cellsOf e) (hcap : n ≤ cap) (hm : cap ≤ maxLen) (he : grownA H (lo ++ ln) e n = some (v, H')) :
    ∃ β', VR β' v (.slice (some ⟨W.heap.size, 0, none⟩) n cap) ∧ BLe β β' ∧ WR P F β' H' (W.alloc (.cells (olds.toArray ++ news.toArray ++ Builtin.zeroCells z (cap - n)) e)) ∧ H.next ≤ H'.next := by
  unfold grownA FW.push at he
  cases hg : H.heap.get H.next with
  | some x => rw [hg] at he; cases he
  | none =>
    rw [hg] at he
    simp only at he
    cases hok : okN H.next with
    | false => rw [hok] at he; cases he
    | true =>
      rw [hok] at he
      simp only [cond_true, Option.some.injEq, Prod.mk.injEq] at he
      obtain ⟨rfl, rfl⟩ := he
      have hr := ho.append hn
      have hrl := hr.length
      have hsz : (olds.toArray ++ news.toArray ++ Builtin.zeroCells z (cap - n)).size = cap * P.cellsOf e := by
        simp only [Array.size_append, List.size_toArray, size_zeroCells, hz]
        have : olds.length + news.length = n * P.cellsOf e := by rw [← hl, ← hrl, List.length_append]
        rw [this, ← Nat.add_mul]
        congr 1
        omega
      have hnc : n * P.cellsOf e ≤ cap * P.cellsOf e := Nat.mul_le_mul_right _ hcap
      obtain ⟨hw, hb⟩ := h.alloc (n := H.next + 1) (x := .cells (lo ++ ln) e) (ob := .cells (olds.toArray ++ news.toArray ++ Builtin.zeroCells z (cap - n)) e) hg hok h5
        ⟨_, ⟨_, heap_alloc_new W _, .zero _ _⟩, ⟨by show 0 + _ ≤ Array.size _; rw [hsz]; omega, Nat.le_refl _⟩, fun i v hv => by
          have hv' : (lo ++ ln)[i]? = some v := hv
          obtain ⟨u, hu, hr2⟩ := hr.get hv'
          refine ⟨u, ?_, hr2.up (bset_le (h.fresh _ h5 hg))⟩
          have hi : i < (olds ++ news).length := (List.getElem?_eq_some_iff.1 hu).1
          show (olds.toArray ++ news.toArray ++ Builtin.zeroCells z (cap - n))[0 + i]? = some u
          rw [Nat.zero_add, ← Array.getElem?_toList]
          simp only [Array.toList_append]
          rw [List.getElem?_append_left hi]
          exact hu⟩ (fun c' e' hce => by cases hce; rfl)
      refine ⟨_, ?_, hb, hw, Nat.le_succ _⟩
      refine .sl (k := newPl P W _) (i := 0) (bset_same _ _ _) hcap (by omega) (by omega) (by omega) hm (fun _ => ?_)
      show 0 + 0 + cap * P.cellsOf e ≤ Array.size _
      rw [hsz]; omega

theorem FW.row_cells {a : Addr} {n : Nat} {l : List Value} (h : H.row a n = some l) : ∃ c e, H.cells a.block = some (c, e) ∧ H.heap.get a.block = some (.cells c e) ∧ l.length = n := by
  unfold FW.row at h
  split at h
  · cases h
  · cases hc : H.cells a.block with
    | none => rw [hc] at h; cases h
    | some p =>
      obtain ⟨c, e⟩ := p
      rw [hc] at h
      simp only at h
      obtain ⟨hle, h⟩ := some_of_cond h
      have hle := Nat.le_of_ble_eq_true hle
      simp only [Option.some.injEq] at h
      refine ⟨c, e, rfl, ?_, ?_⟩
      · unfold FW.cells at hc
        split at hc
        · rename_i hg
          simp only [Option.some.injEq, Prod.mk.injEq] at hc
          obtain ⟨rfl, rfl⟩ := hc
          exact hg
        · cases hc
      · rw [← h, List.length_take, List.length_drop]; omega

theorem appendTo_sound (h : WR P F β H w) (hF : ∀ R' w0, F R' w0 → R' ≤ R) (h5 : 512 ≤ H.next) (ht : P.underlying t = some (.slice e)) (ht' : P.underlying t' = some td) (htd : (∃ u, td = .slice u) ∨ td = .string)
    (hi : P.info? e = some i) {z : Value} (hz : i.zero = some z) (hzs : z.cells.size = i.size) {x x' : Value} {l news : List Value} (hx : SrcOf P β w i.size x x' l news) (hl : l.length = lenV x * i.size) (hm0 : 0 < lenV x) (hby : 0 < i.bytes)
    (ts : Array TypeId) (h0 : ts[0]? = some t) (h1 : ts[1]? = some t') {a : Addr} {n c : Nat} {s' v : Value} {H' : FW} (hs : VR β (.slice (some a) n c) s') (he : appendTo R e i.size i.bytes a n c (lenV x) l H = some (v, H')) :
    ∃ u w' β', (Builtin.append_ ts ty #[s', x']).run P w = .ok u w' ∧ VR β' v u ∧ BLe β β' ∧ WR P F β' H' w' ∧ H.next ≤ H'.next := by
  have hnl : news.length = lenV x * i.size := by rw [hx.rel.length, hl]
  have hcz : P.cellsOf e = i.size := cellsOf_eq hi
  have hpos : ∀ k, (k + lenV x) * i.bytes ≤ 140737488355328 → k + lenV x ≤ 140737488355328 := fun k hk => Nat.le_trans (Nat.le_mul_of_pos_right _ hby) hk
  unfold appendTo at he
  cases hroom : Nat.ble (n + lenV x) (c / 2) with
  | true =>
    rw [hroom, cond_true] at he
    have hroom := Nat.le_of_ble_eq_true hroom
    rcases hs.sl_inv2 with ⟨k, cap, hsp, hk, hn, hc, hev, h2n, hm, hrr, rfl⟩ | ⟨_, h9, _⟩
    · cases hla : H.lay R (moveA a (n * i.size)) l with
      | none => rw [hla] at he; cases he
      | some H1 =>
        rw [hla] at he
        simp only at he
        obtain ⟨_, he⟩ := some_of_cond he
        simp only [Option.some.injEq, Prod.mk.injEq] at he
        obtain ⟨rfl, rfl⟩ := he
        obtain ⟨_, w', hst, hw', hnx, _⟩ := lay_sound (P := P) h hF hx.rel (a := moveA a (n * i.size)) hk hla
        refine ⟨.slice (some ⟨k.b, k.lo + a.off, none⟩) (n + lenV x) cap, w', β, ?_, ?_, BLe.refl _, hw', by omega⟩
        · rw [run_append_roomA ht ht' htd hi hx hnl ts h0 h1 _ n cap (by omega)]
          simp only [add_lit]
          have : k.lo + a.off + n * i.size = k.lo + (moveA a (n * i.size)).off := by simp [moveA, Nat.add_assoc]
          rw [this, hst]
          rfl
        · have ha : a = ⟨a.block, a.off, none⟩ := by cases a; simp_all
          rw [ha]
          exact .sl hk (by omega) hc hev (by omega) hm hrr
    · omega
  | false =>
    have hroom : ¬ n + lenV x ≤ c / 2 := by
      intro hle
      rw [← Nat.ble_eq] at hle
      rw [hle] at hroom; cases hroom
    rw [show Nat.ble (n + lenV x) (c / 2) = false by assumption, cond_false] at he
    split at he
    · rename_i olds cc e' hrow hcells
      obtain ⟨hee, he⟩ := some_of_cond he
      have hee := Nat.eq_of_beq_eq_true hee
      subst hee
      obtain ⟨hg, he⟩ := some_of_cond he
      simp only [Bool.and_eq_true] at hg
      have hbytes := Nat.le_of_ble_eq_true hg.1
      have h63 := hpos n hbytes
      obtain ⟨c2, e2, hcc2, hgr, hol⟩ := FW.row_cells hrow
      rw [hcells] at hcc2
      simp only [Option.some.injEq, Prod.mk.injEq] at hcc2
      obtain ⟨rfl, rfl⟩ := hcc2
      -- where it must grow
      have grow : ∀ (H1 : FW) (cap : Nat) (k : Pl), WR P F β H1 w → H1.next = H.next → a.spot = none → β a.block = some k → s' = .slice (some ⟨k.b, k.lo + a.off, none⟩) n cap → cap < n + lenV x →
          grownA H1 (olds ++ l) e' (n + lenV x) = some (v, H') →
          ∃ u w' β', (Builtin.append_ ts ty #[s', x']).run P w = .ok u w' ∧ VR β' v u ∧ BLe β β' ∧ WR P F β' H' w' ∧ H.next ≤ H'.next := by
        intro H1 cap k hw1 hnx hsp hk hs' hlt hgn
        subst hs'
        have ha : a = ⟨a.block, a.off, none⟩ := by cases a; simp_all
        rw [ha] at hrow
        obtain ⟨us, hr1, hr2, hr3⟩ := h.row hk hrow
        have hul : us.length = n * i.size := by rw [hr1.length, hr2]
        have hfo := run_firstCells_some (P := P) w.drew i.size n ⟨k.b, k.lo + a.off, none⟩ n cap us hul (cells_at hul hr3 w.drew rfl)
        have hrun := run_append_growA (ty := ty) ht ht' htd hi hz hx hnl ts h0 h1 _ n cap us hfo hlt (by omega) (growslice_fits hlt hbytes)
        have hge := grownCap_ge w (n + lenV x) cap e'
        have hcm : grownCap w (n + lenV x) cap e' ≤ maxLen := grownCap_le_maxLen w (n + lenV x) cap e' (by simp only [maxLen]; omega)
        obtain ⟨β', hv, hle, hw', hnn⟩ := grownA_sound (W := w.drew) (z := z.cells) (cap := grownCap w (n + lenV x) cap e') (hw1.up (Below.refl _ _).drew) (by omega) hr1 hx.rel
          (by rw [List.length_append, hol, hl, hcz, Nat.add_mul]) (by rw [hzs, hcz]) hge hcm hgn
        exact ⟨_, _, β', hrun, hv, hle, hw', by omega⟩
      cases hev : Nat.beq (c % 2) 0 with
      | true =>
        rw [hev, cond_true] at he
        have hev := Nat.eq_of_beq_eq_true hev
        rcases hs.sl_inv2 with ⟨k, cap, hsp, hk, hn, hc, hevv, h2n, hm, hrr, rfl⟩ | ⟨_, h9, _⟩
        · exact grow H cap k h rfl hsp hk rfl (by have := hevv hev; omega) he
        · omega
      | false =>
        rw [hev, cond_false] at he
        have hodd : c % 2 = 1 := by
          have : c % 2 ≠ 0 := by
            intro h0
            rw [h0] at hev
            cases hev
          omega
        obtain ⟨hg2, he⟩ := some_of_cond he
        simp only [Bool.and_eq_true, Nat.blt_eq] at hg2
        have hR := Nat.le_of_ble_eq_true hg2.1
        rcases hs.sl_inv2 with ⟨k, cap, hsp, hk, hn, hc, hevv, h2n, hm, hrr, rfl⟩ | ⟨_, h9, _⟩
        · have hkill := h.kill (o := a.block) (by rw [hgr]; rfl) hg2.2.1
          by_cases hcap : n + lenV x ≤ cap
          · -- there was room
            have ha : a = ⟨a.block, a.off, none⟩ := by cases a; simp_all
            obtain ⟨k2, cur, hk2, _, ⟨fz, hcur, hfz⟩, hsz, hget⟩ := h.block hcells
            rw [hk] at hk2
            simp only [Option.some.injEq] at hk2
            subst hk2
            have hwd := h.wide _ _ _ _ hgr hk
            have hfit := hrr hodd
            rw [hwd, hcz] at hfit
            have hmul : (n + lenV x) * i.size ≤ cap * i.size := Nat.mul_le_mul_right _ hcap
            rw [Nat.add_mul] at hmul
            have hst := storeCells_at P k.b (k.lo + a.off + n * i.size) e' fz news 0 cur w hcur (by omega) (fun j h1 h2 => hfz j (by omega) (by omega)) (ones_rel hx.rel hg.2.2)
            simp only [Nat.add_zero, List.append_assoc] at hst
            have hrun := run_append_roomA (ty := ty) ht ht' htd hi hx hnl ts h0 h1 (some ⟨k.b, k.lo + a.off, none⟩) n cap hcap
            simp only [add_lit] at hrun
            rw [hst, Result.andThen_ok] at hrun
            -- the new one in the old one's place
            unfold grownA FW.push at he
            cases hgn : (H.put a.block .dead).heap.get (H.put a.block .dead).next with
            | some x => rw [hgn] at he; cases he
            | none =>
              rw [hgn] at he
              simp only at he
              cases hok : okN (H.put a.block .dead).next with
              | false => rw [hok] at he; cases he
              | true =>
                rw [hok] at he
                simp only [cond_true, Option.some.injEq, Prod.mk.injEq] at he
                obtain ⟨rfl, rfl⟩ := he
                have h5' : 512 ≤ (H.put a.block .dead).next := h5
                rw [ha] at hrow
                obtain ⟨us, hr1, hr2, hr3⟩ := h.row hk hrow
                have hlive : ∀ o' x'', (H.put a.block .dead).heap.get o' = some x'' → x''.live = true → o' ≠ a.block ∧ H.heap.get o' = some x'' := by
                  intro o' x'' hg' hl'
                  have hgg : (H.put a.block .dead).heap.get o' = if o' = a.block then some .dead else H.heap.get o' := T.get_set _ _ _ hg2.2.1
                  rw [hgg] at hg'
                  split at hg'
                  · simp only [Option.some.injEq] at hg'; subst hg'; cases hl'
                  · rename_i hne; exact ⟨hne, hg'⟩
                have hmine : ∀ R' w0, F R' w0 → w0.heap.size ≤ k.b := fun R' w0 h' => h.mine R' w0 h' _ _ _ hgr rfl (Nat.le_trans (hF R' w0 h') hR) hk
                refine ⟨_, _, bset β (H.put a.block .dead).next ⟨k.b, k.lo + a.off, k.sz, k.wd⟩, hrun, ?_, bset_le (hkill.fresh _ h5' hgn),
                  hkill.add (n := (H.put a.block .dead).next + 1) (x := .cells (olds ++ l) e') (k := ⟨k.b, k.lo + a.off, k.sz, k.wd⟩) hgn hok h5' (fun b _ hb => setRow_other w k.b b _ hb) ?_ hmine ?_ ?_ ?_, Nat.le_succ _⟩
                · refine .sl (i := 0) (bset_same _ _ _) hcap (by omega) (by omega) (by omega) hm (fun _ => ?_)
                  show k.lo + a.off + 0 + cap * k.wd ≤ k.sz
                  have := hrr hodd
                  omega
                · intro R' w0 h'
                  have hf0 := h.frame R' w0 h'
                  have hm0 := hmine R' w0 h'
                  refine ⟨hf0.os, hf0.tape, hf0.output, by rw [setRow_size]; exact hf0.size, fun b hb => ?_⟩
                  rw [setRow_other w k.b b _ (by omega)]
                  exact hf0.block b hb
                · intro o' x'' k' hg' hl' hk'
                  obtain ⟨hne, hg'⟩ := hlive _ _ hg' hl'
                  exact (h.inj _ _ _ _ _ k hg' hgr hl' rfl hne hk' hk : k'.b ≠ k.b)
                · have hol' : us.length = n * i.size := by rw [hr1.length, hr2]
                  refine ⟨_, ⟨_, setRow_heap w k.b cur _ e' fz hcur, fun j h1 h2 => hfz j (Nat.le_trans (Nat.le_add_right _ _) h1) h2⟩, ⟨?_, ?_⟩, fun j v hv => ?_⟩
                  · show k.lo + a.off + (olds ++ l).length ≤ k.sz
                    rw [List.length_append, hol, hl]
                    omega
                  · show k.sz ≤ _
                    simp only [List.size_toArray, List.length_append, List.length_take, List.length_drop, Array.length_toList]
                    omega
                  · have hr := hr1.append hx.rel
                    obtain ⟨u, hu, hru⟩ := hr.get hv
                    refine ⟨u, ?_, hru.up (bset_le (hkill.fresh _ h5' hgn))⟩
                    show (cur.toList.take (k.lo + a.off + n * i.size) ++ (news ++ cur.toList.drop (k.lo + a.off + n * i.size + news.length))).toArray[k.lo + a.off + j]? = some u
                    have hjl : j < (us ++ news).length := (List.getElem?_eq_some_iff.1 hu).1
                    rw [List.length_append, hol', hnl] at hjl
                    simp only [List.getElem?_toArray]
                    rw [lay_get cur.toList news (k.lo + a.off + n * i.size) (k.lo + a.off + j) (by rw [hnl]; simp; omega)]
                    rcases Nat.lt_or_ge j (n * i.size) with hj | hj
                    · rw [if_pos (by omega)]
                      rw [List.getElem?_append_left (by omega)] at hu
                      obtain ⟨u2, hu2, hu3⟩ := hr3 j hj
                      rw [hu] at hu3
                      simp only [Option.some.injEq] at hu3
                      subst hu3
                      rw [cell_of_heap hcur] at hu2
                      simpa using hu2
                    · rw [if_neg (by omega), if_pos (by omega)]
                      rw [List.getElem?_append_right (by omega), hol'] at hu
                      rw [← hu]
                      congr 1
                      omega
                · intro c' e'' hce
                  cases hce
                  exact hwd
          · exact grow (H.put a.block .dead) cap k hkill rfl hsp hk rfl (by omega) he
        · omega
    · cases he

theorem appendA_sound (h : WR P F β H w) (hF : ∀ R' w0, F R' w0 → R' ≤ R) (h5 : 512 ≤ H.next) (ts : Array TypeId) (h0 : ts[0]? = some t) (h1 : ts[1]? = some t') {s x s' x' v : Value} {H' : FW} (hs : VR β s s') (hx : VR β x x') (he : appendA P R t t' s x H = some (v, H')) :
    ∃ u w' β', (Builtin.append_ ts ty #[s', x']).run P w = .ok u w' ∧ VR β' v u ∧ BLe β β' ∧ WR P F β' H' w' ∧ H.next ≤ H'.next := by
  unfold appendA at he
  split at he
  · rename_i e td ht ht'
    split at he
    · rename_i i hi htd
      have htd : (∃ u, td = .slice u) ∨ td = .string := by
        split at htd
        · exact .inl ⟨_, rfl⟩
        · exact .inr rfl
        · cases htd
      split at he
      · rename_i z l hz hsrc
        obtain ⟨hg, he⟩ := some_of_cond he
        simp only [Bool.and_eq_true, Nat.blt_eq] at hg
        obtain ⟨hg1, hg2, hg3, hg4⟩ := hg
        have hg1 := Nat.eq_of_beq_eq_true hg1
        have hg4 := Nat.eq_of_beq_eq_true hg4
        obtain ⟨i', zv, hi', hzi, hzc, hzr, _⟩ := zeroA_sound (β := β) hz
        rw [hi] at hi'; simp only [Option.some.injEq] at hi'; subst hi'
        have hzs : zv.cells.size = i.size := by rw [← hg1, ← hzc]; simp
        obtain ⟨news, hsrcof⟩ := srcCells_sound h hx hsrc hg4
        have hnl : news.length = lenV x * i.size := by rw [hsrcof.rel.length, hg4]
        split at he
        · rename_i hl0
          split at he
          · simp only [Option.some.injEq, Prod.mk.injEq] at he
            obtain ⟨rfl, rfl⟩ := he
            have hn0 : news = [] := List.eq_nil_of_length_eq_zero (by rw [hnl, hl0]; simp)
            have : ∃ a' n cap, s' = .slice a' n cap ∧ n ≤ cap := by
              cases hs with
              | snil => exact ⟨_, _, _, rfl, Nat.le_refl _⟩
              | sl _ hn => exact ⟨_, _, _, rfl, hn⟩
              | s1 => exact ⟨_, _, _, rfl, Nat.zero_le _⟩
            obtain ⟨a', n, cap, rfl, hn⟩ := this
            refine ⟨_, w, β, ?_, hs, BLe.refl _, h, Nat.le_refl _⟩
            rw [run_append_roomA ht ht' htd hi hsrcof hnl ts h0 h1 a' n cap (by omega), hn0, hl0]
            cases a' <;> rfl
          · cases he
        · rename_i m hlm
          have hlm' : m + 1 = lenV x := hlm.symm
          rw [hlm'] at he
          split at he
          · obtain ⟨hgg, he⟩ := some_of_cond he
            simp only [Bool.and_eq_true] at hgg
            have hbytes := Nat.le_of_ble_eq_true hgg.1
            have h63 : lenV x ≤ 140737488355328 := Nat.le_trans (Nat.le_mul_of_pos_right _ hg3) hbytes
            cases hs
            have hrun := run_append_growA (ty := ty) ht ht' htd hi hzi hsrcof hnl ts h0 h1 none 0 0 [] (run_firstCells_none ..) (by omega) (by omega) (growslice_fits (by omega) (by rw [Nat.zero_add]; exact hbytes))
            have hge := grownCap_ge w (0 + lenV x) 0 e
            have hcm : grownCap w (0 + lenV x) 0 e ≤ maxLen := grownCap_le_maxLen w (0 + lenV x) 0 e (by simp only [maxLen]; omega)
            obtain ⟨β', hv, hle, hw', hnn⟩ := grownA_sound (lo := []) (olds := []) (W := w.drew) (z := zv.cells) (n := 0 + lenV x) (cap := grownCap w (0 + lenV x) 0 e) (h.up (Below.refl _ _).drew) (by omega) .nil hsrcof.rel
              (by rw [List.nil_append, hg4, cellsOf_eq hi, Nat.zero_add]) (by rw [hzs, cellsOf_eq hi]) hge hcm (by rw [Nat.zero_add]; exact he)
            exact ⟨_, _, β', hrun, hv, hle, hw', hnn⟩
          · exact appendTo_sound h hF h5 ht ht' htd hi hzi hzs hsrcof hg4 (by omega) hg3 ts h0 h1 hs he
          · cases he
      · cases he
    · cases he
  · cases he

theorem copyA_sound (h : WR P F β H w) (hF : ∀ R' w0, F R' w0 → R' ≤ R) (ts : Array TypeId) (h0 : ts[0]? = some t) {d x d' x' v : Value} {H' : FW} (hd : VR β d d') (hx : VR β x x') (he : copyA P R t d x H = some (v, H')) :
    ∃ w', (Builtin.copy_ ts ty #[d', x']).run P w = .ok v w' ∧ VR β v v ∧ WR P F β H' w' ∧ H.next ≤ H'.next := by
  have zero : ∀ {e : TypeId} {i : TypeInfo} {a : Option Addr} {c : Nat} {x'' : Value}, P.underlying t = some (.slice e) → P.info? e = some i → d' = .slice a 0 c → (∀ w', ∃ m, (Builtin.lenOf x'').run P w' = .ok m w') → (∀ w', (Builtin.firstCells i.size 0 x'').run P w' = .ok #[] w') →
      (Builtin.copy_ ts ty #[d', x'']).run P w = .ok (.int .i64 (.ofNat 0)) w := by
    intro e i a c x'' ht hi hd hlen hf
    subst hd
    obtain ⟨m, hm⟩ := hlen w
    have hmin : Nat.min m 0 = 0 := Nat.min_zero m
    cases a <;> simp [Builtin.copy_, h0, run_underlying ht, hm, sizeOf, typeInfo, hi, hmin, hf, storeCells, goInt]
  have dst0 : ∀ {a : Option Addr} {c : Nat}, VR β (.slice a 0 c) d' → ∃ a' c', d' = .slice a' 0 c' := by
    intro a c hd
    cases hd with
    | snil => exact ⟨_, _, rfl⟩
    | sl => exact ⟨_, _, rfl⟩
    | s1 => exact ⟨_, _, rfl⟩
  unfold copyA at he
  split at he
  · rename_i e a c ht
    obtain ⟨a', c', hd'⟩ := dst0 hd
    split at he
    · rename_i i ax nx cx hi
      simp only [Option.some.injEq, Prod.mk.injEq] at he
      obtain ⟨rfl, rfl⟩ := he
      have hx2 : ∃ b m k, x' = .slice b m k := by
        cases hx with
        | snil => exact ⟨_, _, _, rfl⟩
        | sl => exact ⟨_, _, _, rfl⟩
        | s1 => exact ⟨_, _, _, rfl⟩
      obtain ⟨b, m, k, rfl⟩ := hx2
      refine ⟨w, zero ht hi hd' (fun w' => ⟨m, rfl⟩) (fun w' => ?_), .int _ _, h, Nat.le_refl _⟩
      cases b <;> simp [Builtin.firstCells, loadCells, loadCellsFrom]
    · rename_i i sx hi
      simp only [Option.some.injEq, Prod.mk.injEq] at he
      obtain ⟨rfl, rfl⟩ := he
      cases hx
      refine ⟨w, zero ht hi hd' (fun w' => ⟨_, rfl⟩) (fun w' => ?_), .int _ _, h, Nat.le_refl _⟩
      simp only [Builtin.firstCells, Sem.run_pure]
      congr 1
      apply Array.ext'
      have := Lib.extract_data sx 0 0
      simp [this]
    · cases he
  · rename_i e a n c ht
    split at he
    · rename_i i hi
      split at he
      · rename_i l hsrc
        obtain ⟨hg, he⟩ := some_of_cond he
        have hg := Nat.eq_of_beq_eq_true hg
        cases hla : H.lay R a (l.take (min (lenV x) (n + 1) * i.size)) with
        | none => rw [hla] at he; cases he
        | some H1 =>
          rw [hla] at he
          simp only [Option.some.injEq, Prod.mk.injEq] at he
          obtain ⟨rfl, rfl⟩ := he
          obtain ⟨news, hsrcof⟩ := srcCells_sound h hx hsrc hg
          rcases hd.sl_inv with ⟨k, cap, hsp, hk, hn, hc, hevv, h2n, hm, rfl⟩ | ⟨h9, _⟩
          · obtain ⟨_, w', hst, hw', hnx, _⟩ := lay_sound (P := P) h hF (hsrcof.rel.take (min (lenV x) (n + 1) * i.size)) hk hla
            refine ⟨w', ?_, .int _ _, hw', by omega⟩
            have hmin : Nat.min (lenV x) (n + 1) = min (lenV x) (n + 1) := rfl
            have hf := hsrcof.first (min (lenV x) (n + 1)) (Nat.min_le_left _ _) w rfl
            simp [Builtin.copy_, h0, run_underlying ht, hsrcof.len, sizeOf, typeInfo, hi, hmin, hf, hst, goInt]
          · omega
      · cases he
    · cases he
  · cases he

theorem clearA_sound (h : WR P F β H w) (hF : ∀ R' w0, F R' w0 → R' ≤ R) (ts : Array TypeId) (h0 : ts[0]? = some t) {x x' v : Value} {H' : FW} (hx : VR β x x') (he : clearA P R t x H = some (v, H')) :
    ∃ w', (Builtin.clear_ ts ty #[x']).run P w = .ok v w' ∧ VR β v v ∧ WR P F β H' w' ∧ H.next ≤ H'.next := by
  unfold clearA at he
  split at he
  · rename_i e ht
    simp only [Option.some.injEq, Prod.mk.injEq] at he
    obtain ⟨rfl, rfl⟩ := he
    cases hx
    refine ⟨w, ?_, .tuple .nil, h, Nat.le_refl _⟩
    simp [Builtin.clear_, h0, run_underlying ht]
  · rename_i e a c ht
    simp only [Option.some.injEq, Prod.mk.injEq] at he
    obtain ⟨rfl, rfl⟩ := he
    have : ∃ a' cap, x' = .slice (some a') 0 cap := by
      rcases hx.sl_inv with ⟨k, cap, _, _, _, _, _, _, _, rfl⟩ | ⟨_, _, b, j, cap, rfl⟩
      · exact ⟨_, _, rfl⟩
      · exact ⟨_, _, rfl⟩
    obtain ⟨a', cap, rfl⟩ := this
    refine ⟨w, ?_, .tuple .nil, h, Nat.le_refl _⟩
    simp [Builtin.clear_, h0, run_underlying ht]
  · rename_i e a n c ht
    cases hz : zeroA P e with
    | none => rw [hz] at he; cases he
    | some z =>
      rw [hz] at he
      simp only at he
      cases hla : H.lay R a (zerosA z (n + 1)) with
      | none => rw [hla] at he; cases he
      | some H1 =>
        rw [hla] at he
        simp only [Option.some.injEq, Prod.mk.injEq] at he
        obtain ⟨rfl, rfl⟩ := he
        obtain ⟨i', zv, hi', hzi, hzc, hzr, _⟩ := zeroA_sound (β := β) hz
        have hall : ∀ n, VRs β (zerosA z n) (zerosA z n) := by
          intro n
          induction n with
          | zero => exact .nil
          | succ n ih => exact hzr.append ih
        rcases hx.sl_inv with ⟨k, cap, hsp, hk, hn, hc, hevv, h2n, hm, rfl⟩ | ⟨h9, _⟩
        · obtain ⟨_, w', hst, hw', hnx, _⟩ := lay_sound (P := P) h hF (hall (n + 1)) hk hla
          refine ⟨w', ?_, .tuple .nil, hw', by omega⟩
          have hzz : (Builtin.zeroCells zv.cells (n + 1)).toList = zerosA z (n + 1) := by
            have hsz : zv.cells.size = z.length := by rw [← hzc]; simp
            unfold Builtin.zeroCells
            rw [hsz]
            have := zeros_array z (n + 1) zv hzc
            rw [hsz] at this
            rw [this]
          simp [Builtin.clear_, h0, run_underlying ht, run_zeroValue' hi' hzi, hzz, hst]
        · omega
  · cases he
end


/-- A string's bytes, in a row of their own. -/
theorem bytesA_sound (h : WR P F β H w) (h5 : 512 ≤ H.next) {s d : TypeId} (hb : isBytesC P s d = true) {x x' v : Value} {H' : FW} (hx : VR β x x') (he : bytesA P d x H = some (v, H')) :
    ∃ u w' β', (convert s d x').run P w = .ok u w' ∧ VR β' v u ∧ BLe β β' ∧ WR P F β' H' w' ∧ H.next ≤ H'.next := by
  unfold isBytesC at hb
  split at hb
  · rename_i e0 hs hd
    split at hb
    · rename_i he8
      unfold bytesA at he
      split at he
      · rename_i e1 st hd'
        rw [hd] at hd'
        simp only [Option.some.injEq, TypeDesc.slice.injEq] at hd'
        subst hd'
        obtain ⟨hg, he⟩ := some_of_cond he
        simp only [Bool.and_eq_true] at hg
        have hlen := Nat.le_of_ble_eq_true hg.1
        have hone := Nat.eq_of_beq_eq_true hg.2
        cases hx
        have hsz : st.size = st.data.toList.length := by rw [Array.length_toList]; rfl
        have hrun := run_bytes_of_string (P := P) w s d e0 st hs hd he8
        have hcap := grownCap_ge w st.size 0 e0
        have hmax := grownCap_le_maxLen w st.size 0 e0 (by rw [hsz]; simp only [maxLen]; omega)
        generalize grownCap w st.size 0 e0 = cap at hrun hcap hmax
        have hrow : (bytesRow st cap).size = cap := by
          simp only [bytesRow, Array.size_append, Array.size_map, Array.size_replicate]
          have : st.data.size = st.size := rfl
          omega
        have hw1 : WR P F β H w.drew := h.up (Below.refl _ _).drew
        unfold grownA FW.push at he
        cases hgn : H.heap.get H.next with
        | some y => rw [hgn] at he; cases he
        | none =>
          rw [hgn] at he
          simp only at he
          cases hok : okN H.next with
          | false => rw [hok] at he; cases he
          | true =>
            rw [hok] at he
            simp only [cond_true, Option.some.injEq, Prod.mk.injEq] at he
            obtain ⟨rfl, rfl⟩ := he
            obtain ⟨hw, hbl⟩ := hw1.alloc (n := H.next + 1) (x := .cells (st.data.toList.map fun b => .int .u8 b.toNat) e0) (ob := .cells (bytesRow st cap) e0 ((bytesRow st cap).size, (bytesRow st cap).size + 1)) hgn hok h5
              ⟨_, ⟨_, heap_alloc_new w.drew _, fun j _ h2 h => absurd h.1 (Nat.not_le_of_lt h2)⟩, ⟨by show 0 + _ ≤ Array.size _; rw [hrow, List.length_map]; omega, Nat.le_refl _⟩, fun i v hv => by
                have hi : i < st.data.toList.length := by
                  have := (List.getElem?_eq_some_iff.1 hv).1
                  simpa using this
                rw [List.getElem?_map] at hv
                show ∃ u, (bytesRow st cap)[0 + i]? = some u ∧ _
                refine ⟨v, ?_, ?_⟩
                · rw [Nat.zero_add]
                  unfold bytesRow
                  rw [Array.getElem?_append_left (by simpa using hi), Array.getElem?_map, ← Array.getElem?_toList]
                  exact hv
                · cases hq : st.data.toList[i]? with
                  | none => rw [hq] at hv; cases hv
                  | some b =>
                    rw [hq] at hv
                    simp only [Option.map_some, Option.some.injEq] at hv
                    subst hv
                    exact .int _ _⟩ (fun c' e' hce => by cases hce; rfl)
            refine ⟨_, _, _, hrun, ?_, hbl, hw, Nat.le_succ _⟩
            rw [hsz]
            refine .sl (k := newPl P w.drew _) (i := 0) (bset_same _ _ _) (by omega) (by omega) (by omega) (by omega) hmax (fun _ => ?_)
            show 0 + 0 + cap * P.cellsOf e0 ≤ Array.size _
            rw [hrow, hone]; omega
      · cases he
    · cases hb
  · cases hb

end
end Go.Am
