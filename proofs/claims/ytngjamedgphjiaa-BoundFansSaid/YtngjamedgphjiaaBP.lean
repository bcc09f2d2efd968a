/- Of several codes that may be called: what the printed functions give at such images. Of several codes that may be called: how deep and how high such images are. Of several codes that may be called: the law. No conditions. -/
import Derived.Test.YtngjamedgphjiaaGb
set_option linter.unusedVariables false
set_option linter.unusedSimpArgs false
set_option linter.unusedSectionVars false
namespace Go.Proofs.Ytngjamedgphjiaa
open Go Go.Dl
set_option maxRecDepth 100000
theorem iter_steps {A T : Type} {f : T → Option (A ⊕ T)} {t0 : T} {K : Nat} (s : Nat → T) (n : Nat) (r : A) (h0 : s 0 = t0) (hK : n < K) (h : ∀ k, k < n → f (s k) = some (.inr (s (k + 1)))) (he : f (s n) = some (.inl r)) : iter K f t0 = some r := by
  subst h0
  have key : ∀ (m j K : Nat), j + m = n → m < K → iter K f (s j) = some r := by
    intro m
    induction m with
    | zero =>
      intro j K hj hK
      obtain ⟨K, rfl⟩ : ∃ q, K = q + 1 := ⟨K - 1, by omega⟩
      obtain rfl : j = n := by omega
      unfold iter
      rw [he]
    | succ m ih =>
      intro j K hj hK
      obtain ⟨K, rfl⟩ : ∃ q, K = q + 1 := ⟨K - 1, by omega⟩
      unfold iter
      rw [h j (by omega)]
      exact ih (j + 1) K (by omega) (by omega)
  exact key n 0 K (by omega) hK
def code (s : Int) : S38 := ⟨0, [], [105, 114], false, s, []⟩
def opc (i : Int) : S40 := ⟨23, i, 0⟩
def top (own : Int) (want : List Int) : S38 := ⟨-1, [], [], false, own, want.map opc⟩
def img (ss : List Int) (own : Int) (want : List Int) : S35 := ⟨[], [⟨-1, [], [], [], [], []⟩], ss.map code ++ [top own want], [], [], [], [], [], [], [], 0, 0⟩
theorem img_len (ss : List Int) (own : Int) (want : List Int) : (img ss own want).fCodes.length = ss.length + 1 := by simp [img]
theorem img_at {ss : List Int} {own : Int} {want : List Int} {i : Nat} (h : i < ss.length) : (img ss own want).fCodes.getD i default = code (ss.getD i 0) := by
  simp only [img, List.getD]
  rw [List.getElem?_append_left (by simpa using h), List.getElem?_map, List.getElem?_eq_getElem h]
  simp
theorem img_top {ss : List Int} {own : Int} {want : List Int} : (img ss own want).fCodes.getD ss.length default = top own want := by
  simp [img, List.getD]
structure Wn (n : Nat) (want : List Int) : Prop where
  lo : ∀ x ∈ want, 0 ≤ x
  hi : ∀ x ∈ want, x < n
  up : want.Pairwise (· < ·)
  len : want.length ≤ n
theorem Wn.nil (n : Nat) : Wn n [] := ⟨by simp, by simp, by simp, by simp⟩
theorem getD_mem {l : List Int} {i : Nat} (h : i < l.length) (d : Int) : l.getD i d ∈ l := by
  rw [List.getD, List.getElem?_eq_getElem h]; exact List.getElem_mem h
theorem F18_none {K : Nat} {im : S35} {l : List Int} (hK : l.length < K) (hl : l.length ≤ 1000) (h : ∀ x ∈ l, 0 ≤ x ∧ x < im.fCodes.length) : F18f12 K l im = some (.inl (-1)) := by
  unfold F18f12
  rw [iter_steps (fun k => (k : Int)) l.length (Sum.inl ()) ?_ hK ?_ ?_]
  · rfl
  · rfl
  · intro k hk
    have hm := h _ (getD_mem hk default)
    have h1 : F12 K (l.getD k default) im = some (.inl false) := by
      unfold F12 letV
      rw [decide_eq_false (by omega), decide_eq_false (by show ¬ _ ≥ ((im.fCodes.length : Nat) : Int); omega)]; rfl
    have hw : IntKind.i64.wrap ((k : Int) + 1) = ((k + 1 : Nat) : Int) := by rw [wrap64 (by omega) (by omega)]; omega
    simp only [letV, Int.ofNat_eq_natCast, Int.toNat_natCast, decide_eq_true (show (k : Int) < (l.length : Int) by omega), if_true, inb_nat hk, chk_t, chk_nil, h1, fnS_l, Option.bind_some, Bool.false_eq_true, if_false, blockS_r, bindS_r, hw]
  · simp only [letV, Int.ofNat_eq_natCast, decide_eq_false (show ¬ ((l.length : Int) < (l.length : Int)) by omega), Bool.false_eq_true, if_false]
theorem F11_same {K : Nat} {im : S35} {l : List Int} (hK : l.length < K) (hl : l.length ≤ 1000) (h : ∀ x ∈ l, 0 ≤ x ∧ x < im.fCodes.length) : F11f12w K l im = some (.inl l) := by
  unfold F11f12w
  rw [F18_none hK hl h]
  rfl
theorem F13_same (K : Nat) {l : List Int} (hl : l.length ≤ 1000) (h : l.Pairwise (· < ·)) : F13 K l = some (.inr l) := by
  unfold F13
  rw [if_pos (by omega)]
  congr 2
  refine List.mergeSort_of_pairwise ?_
  exact h.imp fun h => by simp; omega
theorem F14_same {K : Nat} {l : List Int} (hK : l.length < K) (hl : l.length ≤ 1000) (h : l.Pairwise (· < ·)) : F14w K l = some (.inl l) := by
  unfold F14w
  by_cases h2 : l.length < 2
  · rw [if_pos (by simp; omega)]
  · rw [if_neg (by simp; omega)]
    rw [iter_steps (fun k => ((k + 1 : Nat) : Int)) (l.length - 1) (Sum.inl ()) ?_ (by omega) ?_ ?_]
    · rfl
    · rfl
    · intro k hk
      have hne : l.getD (k + 1) default ≠ l.getD k default := by
        have := List.pairwise_iff_getElem.1 h k (k + 1) (by omega) (by omega) (by omega)
        rw [List.getD, List.getD, List.getElem?_eq_getElem (by omega), List.getElem?_eq_getElem (by omega)]
        simp only [Option.getD_some]; omega
      have hw : IntKind.i64.wrap (((k + 1 : Nat) : Int) + 1) = ((k + 1 + 1 : Nat) : Int) := by rw [wrap64 (by omega) (by omega)]; omega
      have hw2 : IntKind.i64.wrap (((k + 1 : Nat) : Int) - 1) = (k : Int) := by rw [wrap64 (by omega) (by omega)]; omega
      simp only [letV, Int.ofNat_eq_natCast, Int.toNat_natCast, decide_eq_true (show ((k + 1 : Nat) : Int) < (l.length : Int) by omega), if_true, hw2, inb_nat (show k + 1 < l.length by omega), inb_nat (show k < l.length by omega), chk_t, chk_nil, beq_eq_false_iff_ne.2 hne, Bool.false_eq_true, if_false, blockS_r, bindS_r, hw]
    · simp only [letV, Int.ofNat_eq_natCast, decide_eq_false (show ¬ (((l.length - 1 + 1 : Nat) : Int) < (l.length : Int)) by omega), Bool.false_eq_true, if_false]
theorem F10_call (K : Nat) (im : S35) (c : S38) (x : Int) : F10 K im c (opc x) = some (.inl [x]) := by
  unfold F10 opc
  rfl
theorem F8_none {K : Nat} {im : S35} {i : Nat} (hi : i < im.fCodes.length) (hs : im.fCodes.length ≤ 1000) (ho : (im.fCodes.getD i default).fOps = []) (hK : 30 ≤ K) : F8 K im i = some (.inl []) := by
  unfold F8
  simp only [letV, Int.ofNat_eq_natCast, Int.toNat_natCast, decide_eq_false (show ¬ ((i : Int) < 0) by omega), decide_eq_false (show ¬ ((i : Int) ≥ (im.fCodes.length : Int)) by omega), Bool.or_false, Bool.false_eq_true, if_false, inb_nat hi, chk_t, chk_nil, ho]
  rw [iter_steps (fun k => (([] : List Int), (k : Int))) 0 (Sum.inl ([] : List Int)) (by rfl) (by omega) (by intro k hk; omega) (by rfl)]
  simp only [Option.map_some, blockS_ll, bindS_r]
  rw [F11_same (by simp; omega) (by simp) (by simp)]
  simp only [fnS_l, Option.bind_some]
  rw [F13_same K (by simp) (by simp)]
  simp only [fnS_r, Option.bind_some, decide_true, chk_t, chk_nil]
  rw [F14_same (by simp; omega) (by simp) (by simp)]
  rfl
theorem F8_top {K : Nat} {ss : List Int} {own : Int} {want : List Int} (hw : Wn ss.length want) (hs : ss.length ≤ 20) (hK : 30 ≤ K) : F8 K (img ss own want) (ss.length : Int) = some (.inl want) := by
  have hl := img_len ss own want
  have hwl := hw.len
  unfold F8
  simp only [letV, Int.ofNat_eq_natCast, Int.toNat_natCast, hl, decide_eq_false (show ¬ ((ss.length : Int) < 0) by omega), decide_eq_false (show ¬ ((ss.length : Int) ≥ ((ss.length + 1 : Nat) : Int)) by omega), Bool.or_false, Bool.false_eq_true, if_false, inb_nat (show ss.length < ss.length + 1 by omega), chk_t, chk_nil, img_top]
  rw [iter_steps (fun k => (want.take k, (k : Int))) want.length (Sum.inl want) ?_ (by omega) ?_ ?_]
  rotate_left
  · rfl
  rotate_left 2
  · simp only [Option.map_some, blockS_ll, bindS_r]
    rw [F11_same (by omega) (by omega) (fun x hx => ⟨hw.lo x hx, by rw [hl]; have := hw.hi x hx; omega⟩)]
    simp only [fnS_l, Option.bind_some]
    rw [F13_same K (by omega) hw.up]
    simp only [fnS_r, Option.bind_some, decide_true, chk_t, chk_nil]
    rw [F14_same (by omega) (by omega) hw.up]
    rfl
  · intro k hk
    have hop : (top own want).fOps.getD k default = opc (want.getD k 0) := by
      simp [top, List.getD, hk]
    have hlen : (top own want).fOps.length = want.length := by simp [top]
    have hwr : IntKind.i64.wrap ((k : Int) + 1) = ((k + 1 : Nat) : Int) := by rw [wrap64 (by omega) (by omega)]; omega
    have ht : want.take k ++ [want.getD k 0] = want.take (k + 1) := by
      rw [List.take_add_one]
      congr 1
      simp [List.getD, hk]
    have hr : room (((want.take k).length + [want.getD k 0].length) * 8) = true := room_le (by simp; omega)
    simp only [hlen, Int.toNat_natCast, decide_eq_true (show (k : Int) < (want.length : Int) by omega), if_true, inb_nat hk, chk_t, chk_nil, hop, F10_call, fnS_l, Option.bind_some, hr, ht, blockS_r, bindS_r, hwr]
  · have hlen : (top own want).fOps.length = want.length := by simp [top]
    simp only [hlen, decide_eq_false (show ¬ ((want.length : Int) < (want.length : Int)) by omega), Bool.false_eq_true, if_false, List.take_length]
end Go.Proofs.Ytngjamedgphjiaa

namespace Go.Proofs.Ytngjamedgphjiaa
open Go Go.Dl
set_option maxRecDepth 100000
abbrev U17 := (List (List Bytes)) × (List S28) × (List S38) × (List Int) × Bytes × (List Int) × (List Int) × (List S105) × (List S105) × (List S107) × Int × Int × (Mp S53) × (Mp Bool) × Int × Int × Bool
abbrev U18 := (List (List Bytes)) × (List S28) × (List S38) × (List Int) × Bytes × (List Int) × (List Int) × (List S105) × (List S105) × (List S107) × Int × Int × (Mp S53) × (Mp Bool) × Int × Int × Bool × Int
abbrev V17 := (List (List Bytes)) × (List S28) × (List S38) × (List Int) × Bytes × (List Int) × (List Int) × (List S105) × (List S105) × (List S107) × Int × Int × (Mp S53) × (Mp Bool) × Int × Int × Int
abbrev t17 (im : S35) (kn : Mp S53) (un : Mp Bool) (c w : Int) (b : Bool) : U17 := (im.fFaces, im.fClasses, im.fCodes, im.fInsts, im.fGlobals, im.fInit, im.fBlocks, im.fIns, im.fOuts, im.fJobs, im.fD, im.fW, kn, un, c, w, b)
abbrev t18 (im : S35) (kn : Mp S53) (un : Mp Bool) (c w : Int) (b : Bool) (k : Int) : U18 := (im.fFaces, im.fClasses, im.fCodes, im.fInsts, im.fGlobals, im.fInit, im.fBlocks, im.fIns, im.fOuts, im.fJobs, im.fD, im.fW, kn, un, c, w, b, k)
abbrev v17 (im : S35) (kn : Mp S53) (un : Mp Bool) (d w k : Int) : V17 := (im.fFaces, im.fClasses, im.fCodes, im.fInsts, im.fGlobals, im.fInit, im.fBlocks, im.fIns, im.fOuts, im.fJobs, im.fD, im.fW, kn, un, d, w, k)
theorem frame_code (K : Nat) {s : Int} (h0 : 0 ≤ s) (h1 : s ≤ 1000) : F15 K (code s) = some (.inl (s + 2)) := by
  unfold F15 letV code
  congr 2
  show IntKind.i64.wrap (IntKind.i64.wrap ((0 : Int) + 2) + s) = s + 2
  rw [wrap64 (x := (0 : Int) + 2) (by omega) (by omega), wrap64 (by omega) (by omega)]; omega
theorem frame_top (K : Nat) {own : Int} (want : List Int) (h0 : 0 ≤ own) (h1 : own ≤ 1000) : F15 K (top own want) = some (.inl own) := by
  unfold F15 letV top
  congr 2
  show IntKind.i64.wrap (IntKind.i64.wrap ((0 : Int) + 0) + own) = own
  rw [wrap64 (x := (0 : Int) + 0) (by omega) (by omega), wrap64 (by omega) (by omega)]; omega
theorem F9_leaf {K : Nat} {im : S35} {i : Nat} {kn : Mp S53} {un : Mp Bool} {f : Int} (hi : i < im.fCodes.length) (hs : im.fCodes.length ≤ 1000) (ho : (im.fCodes.getD i default).fOps = []) (hK : 30 ≤ K)
    (hu : un i = none) (hk : kn i = none) (hf : F15 K (im.fCodes.getD i default) = some (.inl f)) (h0 : 0 ≤ f) (h1 : f ≤ 1000) :
    F9 (K + 1) ⟨im, kn, un⟩ i = some (.inl (⟨1, f, true⟩, ⟨im, mput kn i ⟨1, f, true⟩, mput (mput un i true) i false⟩)) := by
  rw [F9]
  dsimp only
  rw [if_neg (by rw [hu]; decide), if_neg (by rw [hk]; simp), F8_none hi hs ho hK]
  simp only [fnS_l, Option.bind_some]
  rw [iter_steps (fun k => t18 im kn (mput un i true) 0 0 true k) 0 (Sum.inl (t17 im kn (mput un i true) 0 0 true)) (by rfl) (by omega) (by intro k hk; omega) (by rfl)]
  simp only [Option.map_some, blockS_ll, bindS_r]
  rw [chk_t (inb_nat hi), chk_nil, Int.toNat_natCast, hf]
  simp only [fnS_l, condM_t, Option.bind_some, letV]
  rw [wrap64 (x := (0 : Int) + f) (by omega) (by omega), show (0 : Int) + f = f by omega]
  rfl
theorem F9_code {K : Nat} {ss : List Int} {own : Int} {want : List Int} {i : Nat} {kn : Mp S53} {un : Mp Bool} (hi : i < ss.length) (hs : ss.length ≤ 20) (hK : 30 ≤ K)
    (hu : un i = none) (hk : kn i = none) (h0 : 0 ≤ ss.getD i 0) (h1 : ss.getD i 0 ≤ 900) :
    F9 (K + 1) ⟨img ss own want, kn, un⟩ i = some (.inl (⟨1, ss.getD i 0 + 2, true⟩, ⟨img ss own want, mput kn i ⟨1, ss.getD i 0 + 2, true⟩, mput (mput un i true) i false⟩)) :=
  F9_leaf (by rw [img_len]; omega) (by rw [img_len]; omega) (by rw [img_at hi]; rfl) hK hu hk (by rw [img_at hi]; exact frame_code K h0 (by omega)) (by omega) (by omega)
def high (ss : List Int) (l : List Int) : Int := l.foldl (fun h x => if ss.getD x.toNat 0 + 2 > h then ss.getD x.toNat 0 + 2 else h) 0
def knf (ss : List Int) (l : List Int) : Mp S53 := l.foldl (fun m x => mput m x ⟨1, ss.getD x.toNat 0 + 2, true⟩) mno
def unf (u : Mp Bool) (l : List Int) : Mp Bool := l.foldl (fun m x => mput (mput m x true) x false) u
theorem knf_at (ss : List Int) {y : Int} : ∀ (l : List Int) (m : Mp S53), y ∉ l → (l.foldl (fun m x => mput m x (⟨1, ss.getD x.toNat 0 + 2, true⟩ : S53)) m) y = m y
  | [], m, _ => rfl
  | x :: r, m, h => by
    rw [List.foldl_cons, knf_at ss r _ (fun h' => h (List.mem_cons_of_mem _ h')), mput_ne _ _ (fun e => h (by rw [e]; exact List.mem_cons_self ..))]
theorem unf_at {y : Int} : ∀ (l : List Int) (m : Mp Bool), y ∉ l → (l.foldl (fun m x => mput (mput m x true) x false) m) y = m y
  | [], m, _ => rfl
  | x :: r, m, h => by
    rw [List.foldl_cons, unf_at r _ (fun h' => h (List.mem_cons_of_mem _ h')), mput_ne _ _ (fun e => h (by rw [e]; exact List.mem_cons_self ..)), mput_ne _ _ (fun e => h (by rw [e]; exact List.mem_cons_self ..))]
theorem high_bd (ss : List Int) (hb : ∀ x ∈ ss, 0 ≤ x ∧ x ≤ 900) (l : List Int) : 0 ≤ high ss l ∧ high ss l ≤ 1000 := by
  have key : ∀ (l : List Int) (h : Int), 0 ≤ h ∧ h ≤ 1000 → 0 ≤ l.foldl (fun h x => if ss.getD x.toNat 0 + 2 > h then ss.getD x.toNat 0 + 2 else h) h ∧ l.foldl (fun h x => if ss.getD x.toNat 0 + 2 > h then ss.getD x.toNat 0 + 2 else h) h ≤ 1000 := by
    intro l
    induction l with
    | nil => intro h hh; exact hh
    | cons x r ih =>
      intro h hh
      rw [List.foldl_cons]
      refine ih _ ?_
      have : 0 ≤ ss.getD x.toNat 0 ∧ ss.getD x.toNat 0 ≤ 900 := by
        by_cases hx : x.toNat < ss.length
        · exact hb _ (getD_mem hx 0)
        · rw [List.getD, List.getElem?_eq_none (by omega)]; simp
      split <;> omega
  exact key l 0 (by omega)
theorem F9_top {K : Nat} {ss : List Int} {own : Int} {want : List Int} (hw : Wn ss.length want) (hs : ss.length ≤ 20) (hb : ∀ x ∈ ss, 0 ≤ x ∧ x ≤ 900) (hK : 31 ≤ K) (h0 : 0 ≤ own) (h1 : own ≤ 900) :
    ∃ kn un, F9 (K + 1) ⟨img ss own want, mno, mno⟩ (ss.length : Int) = some (.inl (⟨(if want.length = 0 then 0 else 1) + 1, high ss want + own, true⟩, ⟨img ss own want, kn, un⟩)) := by
  obtain ⟨K, rfl⟩ : ∃ q, K = q + 1 := ⟨K - 1, by omega⟩
  have hwl := hw.len
  have hhb := high_bd ss hb want
  refine ⟨mput (knf ss want) ss.length ⟨(if want.length = 0 then 0 else 1) + 1, high ss want + own, true⟩, mput (unf (mput mno ss.length true) want) ss.length false, ?_⟩
  rw [F9]
  dsimp only
  rw [if_neg (by simp [mno]), if_neg (by simp [mno]), F8_top hw hs (by omega)]
  simp only [fnS_l, Option.bind_some]
  rw [iter_steps (fun k => t18 (img ss own want) (knf ss (want.take k)) (unf (mput mno ss.length true) (want.take k)) (if k = 0 then 0 else 1) (high ss (want.take k)) true k) want.length
    (Sum.inl (t17 (img ss own want) (knf ss want) (unf (mput mno ss.length true) want) (if want.length = 0 then 0 else 1) (high ss want) true)) ?_ (by omega) ?_ ?_]
  · simp only [Option.map_some, blockS_ll, bindS_r]
    rw [chk_t (inb_nat (by rw [img_len]; omega)), chk_nil, Int.toNat_natCast, img_top, frame_top (K + 1) want h0 (by omega)]
    simp only [fnS_l, condM_t, Option.bind_some, letV]
    rw [wrap64 (x := high ss want + own) (by omega) (by omega), wrap64 (x := (if want.length = 0 then (0 : Int) else 1) + 1) (by split <;> omega) (by split <;> omega)]
  · rfl
  · intro k hk
    have hx := getD_mem hk 0
    have hxd : want.getD k default = want.getD k 0 := rfl
    obtain ⟨x, hxe⟩ : ∃ x : Nat, want.getD k 0 = (x : Int) := ⟨(want.getD k 0).toNat, by have := hw.lo _ hx; omega⟩
    have hxl : x < ss.length := by have := hw.hi _ hx; omega
    have hnot : (x : Int) ∉ want.take k := by
      intro hmem
      obtain ⟨j, hj, hje⟩ := List.mem_iff_getElem.1 hmem
      simp only [List.length_take] at hj
      have hp := List.pairwise_iff_getElem.1 hw.up j k (by omega) hk (by omega)
      rw [List.getElem_take] at hje
      have : want[k] = (x : Int) := by rw [← hxe, List.getD, List.getElem?_eq_getElem hk]; rfl
      omega
    have ht : want.take (k + 1) = want.take k ++ [(x : Int)] := by
      rw [List.take_add_one, ← hxe]
      congr 1
      simp [List.getD, hk]
    have hc := F9_code (K := K) (own := own) (want := want) (kn := knf ss (want.take k)) (un := unf (mput mno ss.length true) (want.take k)) hxl hs (by omega)
      (by unfold unf; rw [unf_at _ _ hnot, mput_ne _ _ (by omega)]; rfl) (by unfold knf; rw [knf_at _ _ _ hnot]; rfl) (hb _ (getD_mem hxl 0)).1 (hb _ (getD_mem hxl 0)).2
    have hwr : IntKind.i64.wrap ((k : Int) + 1) = ((k + 1 : Nat) : Int) := by rw [wrap64 (by omega) (by omega)]; omega
    dsimp only
    rw [show (decide ((k : Int) < Int.ofNat want.length)) = true from decide_eq_true (by show (k : Int) < (want.length : Int); omega)]
    simp only [letV, if_true]
    rw [chk_t (inb_nat hk), chk_nil, Int.toNat_natCast, hxd, hxe]
    have hc' : F9 (K + 1) ⟨⟨(img ss own want).fFaces, (img ss own want).fClasses, (img ss own want).fCodes, (img ss own want).fInsts, (img ss own want).fGlobals, (img ss own want).fInit, (img ss own want).fBlocks, (img ss own want).fIns, (img ss own want).fOuts, (img ss own want).fJobs, (img ss own want).fD, (img ss own want).fW⟩, knf ss (want.take k), unf (mput mno ss.length true) (want.take k)⟩ (x : Int) = _ := hc
    rw [hc']
    simp only [fnS_l, Option.bind_some, blockS_r, bindS_r, hwr, Bool.and_true]
    congr 2
    rw [ht]
    unfold knf unf high
    simp only [List.foldl_append, List.foldl_cons, List.foldl_nil, Int.toNat_natCast]
    congr 13
    by_cases hk0 : k = 0
    · subst hk0; rfl
    · simp [hk0]
  · dsimp only
    rw [show (decide ((want.length : Int) < Int.ofNat want.length)) = false from decide_eq_false (by show ¬ (want.length : Int) < (want.length : Int); omega)]
    simp only [letV, Bool.false_eq_true, if_false, List.take_length]
theorem F6_img {K : Nat} {ss : List Int} {own : Int} {want : List Int} (hw : Wn ss.length want) (hs : ss.length ≤ 20) (hb : ∀ x ∈ ss, 0 ≤ x ∧ x ≤ 900) (hK : 40 ≤ K) (h0 : 0 ≤ own) (h1 : own ≤ 900) :
    F6 K (img ss own want) = some (.inl ((if want.length = 0 then 0 else 1) + 1, high ss want + own, true)) := by
  obtain ⟨K, rfl⟩ : ∃ q, K = q + 1 := ⟨K - 1, by omega⟩
  obtain ⟨kn, un, ht⟩ := F9_top hw hs hb (show 31 ≤ K by omega) h0 h1
  have hhb := high_bd ss hb want
  unfold F6
  rw [iter_steps (fun k => if k ≤ ss.length then v17 (img ss own want) mno mno 0 0 k else v17 (img ss own want) kn un ((if want.length = 0 then 0 else 1) + 1) (high ss want + own) k) (ss.length + 1)
    (Sum.inl ((if want.length = 0 then 0 else 1) + 1, high ss want + own)) ?_ (by omega) ?_ ?_]
  · rfl
  · rw [if_pos (by omega)]; rfl
  · intro k hk
    have hwr : IntKind.i64.wrap ((k : Int) + 1) = ((k + 1 : Nat) : Int) := by rw [wrap64 (by omega) (by omega)]; omega
    rw [if_pos (by omega)]
    dsimp only
    rw [show (decide ((k : Int) < Int.ofNat (img ss own want).fCodes.length)) = true from decide_eq_true (by rw [img_len]; show (k : Int) < ((ss.length + 1 : Nat) : Int); omega)]
    simp only [letV, if_true]
    rw [chk_t (inb_nat (by rw [img_len]; omega)), chk_nil, Int.toNat_natCast]
    by_cases hkl : k < ss.length
    · rw [img_at hkl, if_pos (by rfl), if_pos (by omega)]
      simp only [blockS_ll, bindS_r, hwr]
    · obtain rfl : k = ss.length := by omega
      have ht' : F9 (K + 1) ⟨⟨(img ss own want).fFaces, (img ss own want).fClasses, (img ss own want).fCodes, (img ss own want).fInsts, (img ss own want).fGlobals, (img ss own want).fInit, (img ss own want).fBlocks, (img ss own want).fIns, (img ss own want).fOuts, (img ss own want).fJobs, (img ss own want).fD, (img ss own want).fW⟩, mno, mno⟩ (ss.length : Int) = _ := ht
      rw [img_top, if_neg (by simp [top]), ht']
      simp only [fnS_l, Option.bind_some, Bool.not_true, Bool.false_eq_true, if_false, blockS_r, bindS_r, hwr, show ¬ (ss.length + 1 ≤ ss.length) by omega]
      have e1 : (if (if want.length = 0 then (0 : Int) else 1) + 1 > 0 then (if want.length = 0 then (0 : Int) else 1) + 1 else 0) = (if want.length = 0 then (0 : Int) else 1) + 1 := by split <;> split <;> omega
      have e2 : (if high ss want + own > 0 then high ss want + own else 0) = high ss want + own := by split <;> omega
      rw [e1, e2]
  · rw [if_neg (by omega)]
    dsimp only
    rw [show (decide (((ss.length + 1 : Nat) : Int) < Int.ofNat (img ss own want).fCodes.length)) = false from decide_eq_false (by rw [img_len]; show ¬ ((ss.length + 1 : Nat) : Int) < ((ss.length + 1 : Nat) : Int); omega)]
    simp only [letV, Bool.false_eq_true, if_false]
end Go.Proofs.Ytngjamedgphjiaa

namespace Go.Proofs.Ytngjamedgphjiaa
open Go Go.Dl
set_option maxRecDepth 100000
def im0 : S35 := ⟨[], [], [⟨-1, [], [105, 105], false, 3, []⟩], [], [], [], [], [], [], [], 0, 0⟩
theorem F6_im0 {K : Nat} (hK : 40 ≤ K) : F6 K im0 = some (.inl (1, 5, true)) := by
  obtain ⟨K, rfl⟩ : ∃ q, K = q + 1 := ⟨K - 1, by omega⟩
  have hl := F9_leaf (K := K) (im := im0) (i := 0) (kn := mno) (un := mno) (f := 5) (by decide) (by decide) (by rfl) (by omega) (by rfl) (by rfl) (by rfl) (by omega) (by omega)
  unfold F6
  rw [iter_steps (fun k => if k = 0 then v17 im0 mno mno 0 0 0 else v17 im0 (mput mno ((0 : Nat) : Int) ⟨1, 5, true⟩) (mput (mput mno ((0 : Nat) : Int) true) ((0 : Nat) : Int) false) 1 5 k) 1 (Sum.inl (1, 5)) ?_ (by omega) ?_ ?_]
  · rfl
  · rfl
  · intro k hk
    obtain rfl : k = 0 := by omega
    have hl' : F9 (K + 1) ⟨⟨im0.fFaces, im0.fClasses, im0.fCodes, im0.fInsts, im0.fGlobals, im0.fInit, im0.fBlocks, im0.fIns, im0.fOuts, im0.fJobs, im0.fD, im0.fW⟩, mno, mno⟩ (0 : Int) = _ := hl
    rw [if_pos rfl]
    dsimp only
    rw [show (decide ((0 : Int) < Int.ofNat im0.fCodes.length)) = true from rfl]
    simp only [letV, if_true]
    rw [chk_t (by rfl), chk_nil, if_neg (by decide), hl']
    simp only [fnS_l, Option.bind_some, Bool.not_true, Bool.false_eq_true, if_false, blockS_r, bindS_r]
    rfl
  · rfl
theorem F4_true {K : Nat} (hK : 40 ≤ K) : F4 K = some (.inl true) := by
  unfold F4
  have h : F6 K (⟨[], [], [(⟨(-1), ([] : Bytes), ([105, 105] : Bytes), false, 3, []⟩ : S38)], [], ([] : Bytes), [], [], [], [], [], 0, 0⟩ : S35) = some (.inl (1, 5, true)) := F6_im0 hK
  rw [h]
  rfl
theorem F7_same {K : Nat} {l : List Int} (hK : l.length < K) (hl : l.length ≤ 1000) : F7 K l l = some (.inl true) := by
  unfold F7
  simp only [letV]
  rw [if_neg (by simp)]
  rw [iter_steps (fun k => (k : Int)) l.length (Sum.inl ()) ?_ hK ?_ ?_]
  · rfl
  · rfl
  · intro k hk
    have hw : IntKind.i64.wrap ((k : Int) + 1) = ((k + 1 : Nat) : Int) := by rw [wrap64 (by omega) (by omega)]; omega
    simp only [Int.ofNat_eq_natCast, Int.toNat_natCast, decide_eq_true (show (k : Int) < (l.length : Int) by omega), if_true, inb_nat hk, chk_t, chk_nil, bne_self_eq_false, Bool.false_eq_true, if_false, blockS_r, bindS_r, hw]
  · simp only [Int.ofNat_eq_natCast, decide_eq_false (show ¬ ((l.length : Int) < (l.length : Int)) by omega), Bool.false_eq_true, if_false]
def low (m a : Int) : Int := IntKind.i64.wrap ((IntKind.u64.wrap a).tmod m)
theorem u64_nonneg (a : Int) : 0 ≤ IntKind.u64.wrap a := by
  unfold IntKind.wrap
  simp only [IntKind.signed, IntKind.bits]
  first | omega | (simp; omega) | (split <;> omega)
theorem low_bd {m : Int} (hm : 0 < m) (h : m ≤ 1000) (a : Int) : 0 ≤ low m a ∧ low m a < m := by
  have h0 := u64_nonneg a
  have h1 := Int.tmod_nonneg m h0
  have h2 := Int.tmod_lt_of_pos (IntKind.u64.wrap a) hm
  unfold low
  rw [wrap64 (by omega) (by omega)]
  exact ⟨h1, h2⟩
theorem F5_low (K : Nat) {m : Int} (a : Int) (hw : IntKind.u64.wrap m = m) (h0 : m ≠ 0) : F5 K a m = some (.inl (low m a)) := by
  unfold F5 letV low
  rw [hw, chk_t (by simp [h0]), chk_nil]
def bt (bits : Int) (k : Int) : Bool := ((IntKind.i64.wrap (BitVec.ofInt IntKind.i64.bits ((bits : Int).fdiv (2 ^ min (k : Int).toNat IntKind.i64.bits)) &&& BitVec.ofInt IntKind.i64.bits 1).toNat) : Int) == 1
def wantf (bits : Int) : Nat → List Int
  | 0 => []
  | k + 1 => if bt bits k = true then wantf bits k ++ [(k : Int)] else wantf bits k
theorem wantf_wn (bits : Int) : ∀ k, Wn k (wantf bits k)
  | 0 => Wn.nil 0
  | k + 1 => by
    have ih := wantf_wn bits k
    unfold wantf
    split
    · refine ⟨?_, ?_, ?_, ?_⟩
      · intro x hx; rcases List.mem_append.1 hx with h | h
        · exact ih.lo x h
        · simp at h; omega
      · intro x hx; rcases List.mem_append.1 hx with h | h
        · have := ih.hi x h; omega
        · simp at h; omega
      · rw [List.pairwise_append]
        refine ⟨ih.up, by simp, fun x hx y hy => ?_⟩
        simp at hy
        have := ih.hi x hx; omega
      · have := ih.len; simp; omega
    · exact ⟨ih.lo, fun x hx => by have := ih.hi x hx; omega, ih.up, by have := ih.len; omega⟩
abbrev L6 := (List S38) × (List S40) × Int × Int × (List Int) × Int
def st6 (ss : List Int) (bits : Int) (k : Nat) : L6 := ((ss.take k).map code, (wantf bits k).map opc, high ss (wantf bits k), (if (wantf bits k).length = 0 then 0 else 1), wantf bits k, (k : Int))
theorem F3_true {K : Nat} (a0 : List Int) (a1 a2 : Int) (hK : 50 ≤ K) : F3 K a0 a1 a2 = some (.inl true) := by
  unfold F3
  simp only [letV]
  by_cases hlen : a0.length > 20
  · rw [if_pos (decide_eq_true (by show ((a0.length : Nat) : Int) > 20; omega)), F4_true (by omega)]
    rfl
  · rw [if_neg (by simp; omega), F5_low K a2 (by rfl) (by decide)]
    simp only [fnS_l, Option.bind_some]
    have hown := low_bd (m := 50) (by omega) (by omega) a2
    generalize low 50 a2 = own at hown
    obtain ⟨ss, hss⟩ : ∃ ss, ss = a0.map (low 60) := ⟨_, rfl⟩
    have hsl : ss.length = a0.length := by rw [hss]; simp
    have hb : ∀ x ∈ ss, 0 ≤ x ∧ x ≤ 900 := by
      intro x hx
      rw [hss] at hx
      obtain ⟨y, _, rfl⟩ := List.mem_map.1 hx
      have := low_bd (m := 60) (by omega) (by omega) y
      omega
    have hsk : ∀ k, k < a0.length → low 60 (a0.getD k default) = ss.getD k 0 := by
      intro k hk
      rw [hss]
      simp [List.getD, hk]
    have hwn := wantf_wn a1 a0.length
    have hwl := hwn.len
    have hhb := high_bd ss hb (wantf a1 a0.length)
    rw [iter_steps (fun k => st6 ss a1 k) a0.length (Sum.inl (ss.map code, (wantf a1 a0.length).map opc, high ss (wantf a1 a0.length), (if (wantf a1 a0.length).length = 0 then 0 else 1), wantf a1 a0.length)) ?_ (by omega) ?_ ?_]
    · simp only [Option.map_some, blockS_ll, bindS_r]
      rw [chk_t (room_le (by simp; omega)), chk_nil]
      have hi : F6 K (⟨[], [(⟨(-1), ([] : Bytes), [], [], [], []⟩ : S28)], (ss.map code ++ [(⟨(-1), ([] : Bytes), ([] : Bytes), false, own, (wantf a1 a0.length).map opc⟩ : S38)]), [], ([] : Bytes), [], [], [], [], [], 0, 0⟩ : S35) = _ :=
        F6_img (ss := ss) (own := own) (want := wantf a1 a0.length) (by rw [hsl]; exact hwn) (by omega) hb (by omega) hown.1 (by omega)
      have h8 : F8 K (⟨[], [(⟨(-1), ([] : Bytes), [], [], [], []⟩ : S28)], (ss.map code ++ [(⟨(-1), ([] : Bytes), ([] : Bytes), false, own, (wantf a1 a0.length).map opc⟩ : S38)]), [], ([] : Bytes), [], [], [], [], [], 0, 0⟩ : S35) (Int.ofNat a0.length) = some (.inl (wantf a1 a0.length)) := by
        have := F8_top (K := K) (ss := ss) (own := own) (want := wantf a1 a0.length) (by rw [hsl]; exact hwn) (by omega) (by omega)
        rw [hsl] at this
        exact this
      rw [hi]
      simp only [fnS_l, Option.bind_some]
      rw [wrap64 (x := (if (wantf a1 a0.length).length = 0 then (0 : Int) else 1) + 1) (by split <;> omega) (by split <;> omega), wrap64 (x := high ss (wantf a1 a0.length) + own) (by omega) (by omega)]
      simp only [beq_self_eq_true, Bool.and_true, chk_t, chk_nil]
      rw [h8]
      simp only [fnS_l, Option.bind_some]
      rw [F7_same (by omega) (by omega), F4_true (by omega)]
      rfl
    · rfl
    · intro k hk
      have hwr : IntKind.i64.wrap ((k : Int) + 1) = ((k + 1 : Nat) : Int) := by rw [wrap64 (by omega) (by omega)]; omega
      have hkb := hb _ (getD_mem (show k < ss.length by omega) 0)
      have hwk := (wantf_wn a1 k).len
      have ht : (ss.take k).map code ++ [code (ss.getD k 0)] = (ss.take (k + 1)).map code := by
        rw [List.take_add_one, List.map_append]
        congr 1
        simp [List.getD, show k < ss.length by omega]
      unfold st6
      dsimp only
      rw [show (decide ((k : Int) < Int.ofNat a0.length)) = true from decide_eq_true (by show (k : Int) < (a0.length : Int); omega)]
      simp only [if_true]
      rw [chk_t (inb_nat hk), chk_nil, Int.toNat_natCast, F5_low K _ (by rfl) (by decide), hsk k hk]
      simp only [fnS_l, Option.bind_some]
      rw [chk_t (decide_eq_true (by omega)), chk_nil]
      have hbt : ((IntKind.i64.wrap (BitVec.ofInt IntKind.i64.bits ((a1 : Int).fdiv (2 ^ min k IntKind.i64.bits)) &&& BitVec.ofInt IntKind.i64.bits 1).toNat : Int) == 1) = bt a1 (k : Int) := rfl
      rw [hbt]
      have hr3 : room ((((ss.take k).map code).length + ([(⟨0, ([] : Bytes), ([105, 114] : Bytes), false, ss.getD k 0, []⟩ : S38)].length)) * 80) = true := room_le (by simp; omega)
      cases hbb : bt a1 (k : Int) with
      | true =>
        have hr1 : room ((((wantf a1 k).map opc).length + ([(⟨23, (k : Int), 0⟩ : S40)].length)) * 24) = true := room_le (by simp; omega)
        have hr2 : room (((wantf a1 k).length + ([(k : Int)].length)) * 8) = true := room_le (by simp; omega)
        have hw1 : wantf a1 (k + 1) = wantf a1 k ++ [(k : Int)] := by rw [wantf, if_pos hbb]
        simp only [if_true, hr1, hr2, hr3, chk_t, chk_nil, bindS_r, blockS_r, hwr, hw1]
        rw [wrap64 (x := ss.getD k 0 + 2) (by omega) (by omega)]
        congr 2
        have hh : high ss (wantf a1 k ++ [(k : Int)]) = if ss.getD k 0 + 2 > high ss (wantf a1 k) then ss.getD k 0 + 2 else high ss (wantf a1 k) := by
          unfold high
          rw [List.foldl_append]
          simp
        rw [hh, List.map_append]
        refine Prod.ext ht (Prod.ext rfl (Prod.ext rfl (Prod.ext ?_ rfl)))
        simp
      | false =>
        have hw1 : wantf a1 (k + 1) = wantf a1 k := by rw [wantf, if_neg (by rw [hbb]; decide)]
        simp only [Bool.false_eq_true, if_false, hr3, chk_t, chk_nil, bindS_r, blockS_r, hwr, hw1]
        congr 2
        exact Prod.ext ht rfl
    · unfold st6
      dsimp only
      rw [show (decide ((a0.length : Int) < Int.ofNat a0.length)) = false from decide_eq_false (by show ¬ (a0.length : Int) < (a0.length : Int); omega)]
      simp only [Bool.false_eq_true, if_false]
      rw [List.take_of_length_le (by omega)]
end Go.Proofs.Ytngjamedgphjiaa
