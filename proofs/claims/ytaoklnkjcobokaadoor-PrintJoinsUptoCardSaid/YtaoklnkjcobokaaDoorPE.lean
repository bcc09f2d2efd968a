/- What print and the document write of a whole. The measures of the statement come to an end. No conditions. -/
import Derived.Test.YtaoklnkjcobokaaDoorPB
import Derived.Test.YtaoklnkjcobokaaDoorPC
set_option linter.unusedVariables false
set_option linter.unusedSimpArgs false
set_option linter.unusedSectionVars false
namespace Go.Proofs.YtaoklnkjcobokaaDoor
open Go Go.Proofs Go.Dl
set_option maxRecDepth 100000
open pr (B J)

theorem text_eq (K : Nat) (t : List Bytes) (h : t ≠ []) (hw : (B t).length ≤ 1000000000) : fnS (F20 K (⟨t⟩ : S62)) = some (J t, ⟨t⟩) := by
  have h1 := J_len h
  have h2 := B_len t
  unfold F20 F38
  rw [if_pos (show (Lib.join t [32]).length ≤ 140737488355328 ∧ t.length ≤ 140737488355328 from ⟨by change (J t).length ≤ _; omega, by omega⟩)]
  rfl
theorem ptype_eq (K : Nat) (t : S29) (hlo : I64 t.fLo) (hhi : I64 t.fHi) (hw : (B (pr.tyT t)).length ≤ 1000000000) : fnS (F12 K t) = some (J (pr.tyT t)) := by
  have h2 := B_len (pr.tyT t)
  unfold F12
  rw [typ_eq K [] t hlo hhi (by simp only [List.length_nil]; omega), Option.bind_some, List.nil_append, text_eq K _ (tyT_ne t) hw]; rfl
theorem pexpr_eq (K : Nat) (e : S27) (ho : pr.okE e) (hK : 20000000 ≤ K) (hs : pr.sz e ≤ 2000000) (hw : (B (pr.tkE e)).length ≤ 1000000000) : fnS (F10 K e) = some (J (pr.tkE e)) := by
  have h2 := B_len (pr.tkE e)
  unfold F10
  rw [expr_eq 2000000 K e [] hs (by omega) (by omega) ho (by simp only [List.length_nil]; omega), Option.bind_some, List.nil_append, text_eq K _ (tk_ne e) hw]; rfl
theorem declT_ne (d : S48) : pr.declT d ≠ [] := by
  unfold pr.declT
  repeat' refine ite_ne ?_ ?_
  all_goals (intro hc; simp at hc)

def okU (l : List S48) : Prop := l.length ≤ 2000000 ∧ ∀ d ∈ l, pr.okD d ∧ pr.fitD d

theorem punit_eq (K : Nat) (hK : 20000000 ≤ K) (u : S24) (ho : okU u.fDecls) (hw : (pr.unitT u.fDecls).length ≤ 800000000) : fnS (F8 K u) = some (pr.unitT u.fDecls) := by
  obtain ⟨l⟩ := u
  dsimp only at ho hw ⊢
  unfold F8
  dsimp only
  unfold pr.unitT at hw ⊢
  have key : ∀ {A : Type} {f : Bool × List UInt8 × Int → Option (((Bool × List UInt8) ⊕ A) ⊕ (Bool × List UInt8 × Int))}, (∀ (i : Nat), i < l.length → ∀ v : List UInt8, v.length + (J (pr.declT (l.getD i default)) ++ [10]).length ≤ 800000000 → f (decide (0 < i), v, (i : Int)) = some (.inr (true, v ++ (J (pr.declT (l.getD i default)) ++ [10]), ((i + 1 : Nat) : Int)))) → (∀ v, f (decide (0 < l.length), v, (l.length : Int)) = some (.inl (.inl (decide (0 < l.length), v)))) →
      iter K f (false, [], 0) = some (.inl (decide (0 < l.length), pr.gat (fun _ d => J (pr.declT d) ++ [10]) 0 l)) := by
    intro A f ha hb
    have := pr.iter_st (f := f) (fun i v => (decide (0 < i), v, (i : Int))) (fun v => Sum.inl (decide (0 < l.length), v)) l (fun _ d => J (pr.declT d) ++ [10]) 800000000 0 (fun i _ hi v hv => by
      have := ha i hi v hv
      have hd : decide (0 < i + 1) = true := by simp
      rw [hd]; exact this) hb l.length 0 K [] (by omega) (by omega) (by have := ho.1; omega) (by simpa using hw)
    simpa using this
  rw [key]
  · simp only [Option.map_some, blockS_ll, bindS_r]; rfl
  · intro i hi v hv
    have hm := pr.getD_mem (l := l) hi
    have h1 := pr.lt_dec hi
    have h2 := inb_nat hi
    have h3 := pr.wrap_succ (i := i) (by have := ho.1; omega)
    rw [Int.toNat_natCast]
    obtain ⟨q1, q2⟩ := ho.2 _ hm
    generalize l.getD i default = d at hv q1 q2 ⊢
    have jl := J_len (declT_ne d)
    have bl := B_len (pr.declT d)
    simp only [List.length_append, List.length_cons, List.length_nil] at hv
    have hd := decl_eq K hK [] d q1 q2 (by simp only [List.length_nil]; omega)
    have ht := text_eq K _ (declT_ne d) (by omega)
    simp only [h1, h2, h3, hd, ht, letV, chk_true, chk_nil, ↓reduceIte, Option.bind_some, List.nil_append]
    rw [chk_t (room_le (by simp only [List.length_cons, List.length_nil]; omega)), chk_nil]
    have hb : ∀ b, fnS (F19 K (⟨b, v⟩ : S59) (J (pr.declT d) ++ [10])) = some (Int.ofNat (J (pr.declT d) ++ [10]).length, none, ⟨true, v ++ (J (pr.declT d) ++ [10])⟩) := by
      intro b
      unfold F19 F37
      simp only [fnS_l, Option.bind_some]
      rw [chk_t (room_le (by simp only [List.length_append, List.length_cons, List.length_nil]; omega)), chk_nil]; rfl
    rw [hb]
    rfl
  · intro v
    simp only [pr.lt_dec0, letV, Bool.false_eq_true, ↓reduceIte]

theorem awake_eq (K : Nat) (hK : 20000000 ≤ K) : fnS (F7 K) = some true := by
  unfold F7
  have i0 : I64 0 := by unfold I64; omega
  have i1 : I64 1 := by unfold I64; omega
  have i3 : I64 3 := by unfold I64; omega
  rw [pexpr_eq K _ ?a hK ?b ?c]
  case a =>
    rw [pr.okE_eq]; refine ⟨i0, ?_⟩
    rw [pr.okL]; refine ⟨?_, by rw [pr.okL]; trivial⟩
    rw [pr.okE_eq]; refine ⟨i1, ?_⟩
    rw [pr.okL]; refine ⟨?_, ?_⟩
    · rw [pr.okE_eq]; exact ⟨i0, by rw [pr.okL]; trivial⟩
    rw [pr.okL]; refine ⟨?_, by rw [pr.okL]; trivial⟩
    rw [pr.okE_eq]; exact ⟨i1, by rw [pr.okL]; trivial⟩
  case b => exact of_decide_eq_true (by kernel_rfl)
  case c => exact of_decide_eq_true (by kernel_rfl)
  have e1 : J (pr.tkE (⟨7, 0, ([] : Bytes), ([] : Bytes), [(⟨9, 1, ([] : Bytes), ([] : Bytes), [(⟨5, 0, ([97] : Bytes), ([] : Bytes), []⟩ : S27), (⟨1, 1, ([] : Bytes), ([] : Bytes), []⟩ : S27)]⟩ : S27)]⟩ : S27)) = [45, 32, 40, 32, 97, 32, 43, 32, 49, 32, 41] := by kernel_rfl
  rw [e1, Option.bind_some, ptype_eq K _ i0 i3 (of_decide_eq_true (by kernel_rfl)), punit_eq K hK _ ?d (of_decide_eq_true (by kernel_rfl))]
  case d =>
    refine ⟨by simp, fun d hd => ?_⟩
    obtain rfl := List.mem_singleton.1 hd
    exact ⟨⟨fun v hv => (by cases hv), fun v hv => (by cases hv), (by rw [pr.okSl]; trivial), i0, i0⟩, ⟨(by simp), (by simp), (by simp), (by rw [pr.szSl]; omega), fun v hv => (by cases hv)⟩⟩
  have e2 : J (pr.tyT (⟨4, 0, 3, ([] : Bytes)⟩ : S29)) = [65, 82, 82, 65, 89, 32, 91, 32, 51, 32, 93, 32, 79, 70, 32, 73, 78, 84] := by kernel_rfl
  have e3 : pr.unitT [(⟨3, ([80] : Bytes), ([] : Bytes), [], false, false, [], [], [], 0, 0⟩ : S48)] = [80, 82, 79, 71, 82, 65, 77, 32, 80, 32, 59, 32, 69, 78, 68, 95, 80, 82, 79, 71, 82, 65, 77, 10] := by kernel_rfl
  rw [e2, e3]
  rfl
end Go.Proofs.YtaoklnkjcobokaaDoor

set_option linter.unusedVariables false
set_option linter.unusedSimpArgs false
set_option linter.unusedSectionVars false
namespace Go.Proofs.YtaoklnkjcobokaaDoor
open Go Go.Proofs Go.Dl
set_option maxRecDepth 100000
open pr (B J)

theorem iter_ex {A T : Type} {f : T → Option (A ⊕ T)} (μ : T → Nat) (Inv : T → Prop)
    (h : ∀ t, Inv t → (∃ t', f t = some (.inr t') ∧ Inv t' ∧ μ t' < μ t) ∨ ∃ a, f t = some (.inl a)) : ∀ (K : Nat) (t : T), Inv t → μ t < K → ∃ a, iter K f t = some a
  | 0, t, _, hk => absurd hk (by omega)
  | K + 1, t, hi, hk => by
    unfold iter
    rcases h t hi with ⟨t', h1, h2, h3⟩ | ⟨a, h1⟩
    · rw [h1]
      simp only
      exact iter_ex μ Inv h K t' h2 (by omega)
    · rw [h1]; exact ⟨a, rfl⟩
/-- Rounds over a list: each ends or goes on. -/
theorem iter_nat {A N : Type} {f : N × Int → Option (A ⊕ (N × Int))} (n : Nat) (h : ∀ (x : N) (i : Nat), i ≤ n → (∃ y, i < n ∧ f (x, (i : Int)) = some (.inr (y, ((i + 1 : Nat) : Int)))) ∨ ∃ a, f (x, (i : Int)) = some (.inl a)) {K : Nat} (hk : n < K) (x : N) : ∃ a, iter K f (x, 0) = some a := by
  refine iter_ex (fun t => n - t.2.toNat) (fun t => ∃ i : Nat, t.2 = (i : Int) ∧ i ≤ n) ?_ K (x, 0) ⟨0, rfl, by omega⟩ (by simp; omega)
  rintro ⟨x, i⟩ ⟨j, hj, hn⟩
  dsimp only at hj
  subst hj
  rcases h x j hn with ⟨y, h1, h2⟩ | ⟨a, h1⟩
  · refine .inl ⟨_, h2, ⟨j + 1, rfl, by omega⟩, ?_⟩
    simp only [Int.toNat_natCast]; omega
  · exact .inr ⟨a, h1⟩
theorem iter_nat0 {A : Type} {f : Int → Option (A ⊕ Int)} (n : Nat) (h : ∀ (i : Nat), i ≤ n → (i < n ∧ f (i : Int) = some (.inr ((i + 1 : Nat) : Int))) ∨ ∃ a, f (i : Int) = some (.inl a)) {K : Nat} (hk : n < K) : ∃ a, iter K f 0 = some a := by
  refine iter_ex (fun t => n - t.toNat) (fun t => ∃ i : Nat, t = (i : Int) ∧ i ≤ n) ?_ K 0 ⟨0, rfl, by omega⟩ (by simp; omega)
  rintro i ⟨j, hj, hn⟩
  subst hj
  rcases h j hn with ⟨h1, h2⟩ | ⟨a, h1⟩
  · refine .inl ⟨_, h2, ⟨j + 1, rfl, by omega⟩, ?_⟩
    simp only [Int.toNat_natCast]; omega
  · exact .inr ⟨a, h1⟩
theorem bindS_ex {A T U : Type} {m : Option (A ⊕ T)} {f : T → Option (A ⊕ U)} (h : ∃ x, m = some x) (hf : ∀ t, ∃ y, f t = some y) : ∃ y, bindS m f = some y := by
  obtain ⟨x, rfl⟩ := h
  cases x with
  | inl a => exact ⟨_, rfl⟩
  | inr t => exact hf t
theorem blockS_ex {A T : Type} {m : Option ((T ⊕ A) ⊕ T)} (h : ∃ x, m = some x) : ∃ y, blockS m = some y := by
  obtain ⟨x, rfl⟩ := h
  rcases x with (t | a) | t <;> exact ⟨_, rfl⟩
theorem map_ex {A C : Type} {m : Option A} {g : A → C} (h : ∃ x, m = some x) : ∃ y, m.map g = some y := by
  obtain ⟨x, rfl⟩ := h; exact ⟨_, rfl⟩
theorem fnS_ex {R : Type} {m : Option (R ⊕ R)} (h : ∃ x, m = some x) : ∃ y, fnS m = some y := by
  obtain ⟨x, rfl⟩ := h
  cases x <;> exact ⟨_, rfl⟩

theorem round_ex {A N : Type} {M : Option (A ⊕ N)} {n i : Nat} {w : Int} (hi : i < n) (hw : w = ((i + 1 : Nat) : Int)) (h : ∃ x, M = some x) : (∃ y, i < n ∧ bindS M (fun u => (some (.inr (u, w)) : Option (A ⊕ (N × Int)))) = some (.inr (y, ((i + 1 : Nat) : Int)))) ∨ ∃ a, bindS M (fun u => (some (.inr (u, w)) : Option (A ⊕ (N × Int)))) = some (.inl a) := by
  subst hw
  obtain ⟨x, rfl⟩ := h
  cases x with
  | inl a => exact .inr ⟨a, rfl⟩
  | inr y => exact .inl ⟨y, hi, rfl⟩

theorem texts_ex (K : Nat) (l : List Bytes) (a b : Int) (hK : l.length < K) (hl : l.length ≤ 2000000) : ∃ r, fnS (F14 K l a b) = some r := by
  unfold F14
  refine fnS_ex (bindS_ex (blockS_ex (map_ex (iter_nat0 l.length ?_ hK))) fun t => ⟨_, rfl⟩)
  intro i hi
  simp only [letV]
  by_cases c : i < l.length ∧ (l.length : Int) ≤ a
  · have h0 : (decide ((i : Int) < Int.ofNat l.length) && decide (Int.ofNat l.length ≤ a)) = true := by simp; omega
    have h2 := inb_nat c.1
    have h3 := pr.wrap_succ (i := i) (by omega)
    rw [if_pos h0, h2, chk_true, chk_nil, h3]
    by_cases d : decide (Int.ofNat (l.getD (i : Int).toNat default).length > b) = true
    · rw [if_pos d]; exact .inr ⟨_, rfl⟩
    · rw [if_neg d]; exact .inl ⟨c.1, rfl⟩
  · have h0 : ¬ (decide ((i : Int) < Int.ofNat l.length) && decide (Int.ofNat l.length ≤ a)) = true := by simp; omega
    rw [if_neg h0]; exact .inr ⟨_, rfl⟩

theorem vars_ex (K : Nat) (l : List S38) (a : Int) (hK : l.length < K) (hl : l.length ≤ 2000000) : ∃ r, fnS (F15 K l a) = some r := by
  unfold F15
  refine fnS_ex (bindS_ex (blockS_ex (map_ex (iter_nat0 l.length ?_ hK))) fun t => ⟨_, rfl⟩)
  intro i hi
  simp only [letV]
  by_cases c : i < l.length ∧ (l.length : Int) ≤ a
  · have h0 : (decide ((i : Int) < Int.ofNat l.length) && decide (Int.ofNat l.length ≤ a)) = true := by simp; omega
    have h2 := inb_nat c.1
    have h3 := pr.wrap_succ (i := i) (by omega)
    rw [if_pos h0, h2, h3]
    simp only [Bool.or_true, chk_true, chk_nil]
    split
    · exact .inr ⟨_, rfl⟩
    · exact .inl ⟨c.1, rfl⟩
  · have h0 : ¬ (decide ((i : Int) < Int.ofNat l.length) && decide (Int.ofNat l.length ≤ a)) = true := by simp; omega
    rw [if_neg h0]; exact .inr ⟨_, rfl⟩

theorem exprs_ex : ∀ (K : Nat) (l : List S27) (a : Int), pr.szl l + 2 ≤ K → pr.szl l ≤ 2000000 → ∃ r, fnS (F17 K l a) = some r
  | 0, l, a, hK, hs => by omega
  | K + 1, l, a, hK, hs => by
    have hll := pr.szl_len l
    rw [F17]
    refine fnS_ex (bindS_ex (blockS_ex (map_ex (iter_nat l.length ?_ (by omega) _))) fun t => ⟨_, rfl⟩)
    intro n i hi
    simp only [letV]
    by_cases c : i < l.length ∧ n ≤ a
    · have h0 : (decide ((i : Int) < Int.ofNat l.length) && decide (n ≤ a)) = true := by simp; omega
      have h2 := inb_nat c.1
      have h3 := pr.wrap_succ (i := i) (by omega)
      have hm := pr.getD_mem (l := l) c.1
      have hz := pr.szl_mem l _ hm
      have hz2 := pr.sz_eq (l.getD i default)
      obtain ⟨r, hr⟩ := exprs_ex K (l.getD i default).fArgs (IntKind.i64.wrap (a - n)) (by omega) (by omega)
      rw [if_pos h0, h2, h3, Int.toNat_natCast, hr]
      simp only [Bool.or_true, chk_true, chk_nil, Option.bind_some]
      split
      · exact .inr ⟨_, rfl⟩
      · exact .inl ⟨_, c.1, rfl⟩
    · have h0 : ¬ (decide ((i : Int) < Int.ofNat l.length) && decide (n ≤ a)) = true := by simp; omega
      rw [if_neg h0]; exact .inr ⟨_, rfl⟩

theorem stmts_ex : ∀ (K : Nat) (l : List S43) (a : Int), pr.szSl l + 4 ≤ K → pr.szSl l ≤ 2000000 → ∃ r, fnS (F16 K l a) = some r
  | 0, l, a, hK, hs => by omega
  | K + 1, l, a, hK, hs => by
    have hll := pr.szSl_len l
    rw [F16]
    refine fnS_ex (bindS_ex (blockS_ex (map_ex (iter_nat l.length ?_ (by omega) _))) fun t => ⟨_, rfl⟩)
    intro n i hi
    by_cases c : i < l.length ∧ n ≤ a
    · have h0 : (decide ((i : Int) < Int.ofNat l.length) && decide (n ≤ a)) = true := by simp; omega
      have h2 := inb_nat c.1
      have h3 := pr.wrap_succ (i := i) (by omega)
      have hm := pr.getD_mem (l := l) c.1
      have hz := pr.szSl_mem l _ hm
      have hz2 := pr.szS_eq (l.getD i default)
      obtain ⟨r, hr⟩ := exprs_ex K (l.getD i default).fExprs (IntKind.i64.wrap (a - n)) (by omega) (by omega)
      have hl1 := pr.szLab_len (l.getD i default).fLabels
      have hl2 := pr.szSll_len (l.getD i default).fBlocks
      dsimp only
      rw [show ∀ {X Y : Type} (v : X) (f : X → Y), letV v f = f v from fun _ _ => rfl, if_pos h0, h2, Int.toNat_natCast, chk_true, chk_nil]
      have hB : ∀ b ∈ (l.getD i default).fBlocks, ∀ a, ∃ r, fnS (F16 K b a) = some r := fun b hb a => stmts_ex K b a (by have := pr.szSll_mem _ b hb; omega) (by have := pr.szSll_mem _ b hb; omega)
      generalize l.getD i default = s at hr hl1 hl2 hB hz hz2 ⊢
      by_cases d : decide (Int.ofNat s.fName.length > 60) = true
      · rw [show ∀ {X Y : Type} (v : X) (f : X → Y), letV v f = f v from fun _ _ => rfl, if_pos d]; exact .inr ⟨_, rfl⟩
      rw [show ∀ {X Y : Type} (v : X) (f : X → Y), letV v f = f v from fun _ _ => rfl, if_neg d, chk_true, chk_nil]
      simp only [letV]
      rw [hr, Option.bind_some]
      refine round_ex c.1 h3 (blockS_ex (bindS_ex (blockS_ex (map_ex (iter_nat s.fLabels.length ?_ (by omega) _))) fun t => bindS_ex (blockS_ex (map_ex (iter_nat s.fBlocks.length ?_ (by omega) _))) fun t => ⟨_, rfl⟩))
      · intro n i hi
        simp only [chk_true, chk_nil]
        by_cases c : i < s.fLabels.length ∧ n ≤ a
        · have h0 : (decide ((i : Int) < Int.ofNat s.fLabels.length) && decide (n ≤ a)) = true := by simp; omega
          have h2 := inb_nat c.1
          have h3 := pr.wrap_succ (i := i) (by omega)
          rw [if_pos h0, h2]
          exact round_ex c.1 h3 ⟨_, rfl⟩
        · have h0 : ¬ (decide ((i : Int) < Int.ofNat s.fLabels.length) && decide (n ≤ a)) = true := by simp; omega
          rw [if_neg h0]; exact .inr ⟨_, rfl⟩
      · intro n i hi
        simp only [chk_true, chk_nil]
        by_cases c : i < s.fBlocks.length ∧ n ≤ a
        · have h0 : (decide ((i : Int) < Int.ofNat s.fBlocks.length) && decide (n ≤ a)) = true := by simp; omega
          have h2 := inb_nat c.1
          have h3 := pr.wrap_succ (i := i) (by omega)
          obtain ⟨r, hr⟩ := hB _ (pr.getD_mem c.1) (IntKind.i64.wrap (a - n))
          rw [if_pos h0, h2, Int.toNat_natCast, hr]
          exact round_ex c.1 h3 ⟨_, rfl⟩
        · have h0 : ¬ (decide ((i : Int) < Int.ofNat s.fBlocks.length) && decide (n ≤ a)) = true := by simp; omega
          rw [if_neg h0]; exact .inr ⟨_, rfl⟩
    · have h0 : ¬ (decide ((i : Int) < Int.ofNat l.length) && decide (n ≤ a)) = true := by simp; omega
      simp only [letV]
      rw [if_neg h0]; exact .inr ⟨_, rfl⟩

theorem greatE_ex (K : Nat) (e : S27) (a : Int) (hK : 20000000 ≤ K) (hs : pr.sz e ≤ 2000000) : ∃ r, fnS (F6 K e a) = some r := by
  unfold F6
  have h : pr.szl [e] = pr.sz e := by rw [pr.szl, pr.szl]; rfl
  obtain ⟨r, hr⟩ := exprs_ex K [e] a (by omega) (by omega)
  rw [condM_t, hr]
  exact ⟨_, rfl⟩

theorem greatU_ex (K : Nat) (u : S24) (a : Int) (hK : 20000000 ≤ K) (ho : okU u.fDecls) : ∃ r, fnS (F5 K u a) = some r := by
  obtain ⟨l⟩ := u
  dsimp only at ho
  unfold F5
  dsimp only
  have hll := ho.1
  refine fnS_ex (bindS_ex (blockS_ex (map_ex (iter_nat l.length ?_ (by omega) _))) fun t => ⟨_, rfl⟩)
  intro n i hi
  by_cases c : i < l.length ∧ (l.length : Int) ≤ 16 ∧ n ≤ a
  · have h0 : ((decide ((i : Int) < Int.ofNat l.length) && decide (Int.ofNat l.length ≤ 16)) && decide (n ≤ a)) = true := by simp; omega
    have h2 := inb_nat c.1
    have h3 := pr.wrap_succ (i := i) (by omega)
    obtain ⟨f1, f2, f3, f4, f5⟩ := (ho.2 _ (pr.getD_mem c.1)).2
    dsimp only
    rw [show ∀ {X Y : Type} (v : X) (f : X → Y), letV v f = f v from fun _ _ => rfl, if_pos h0, h2, Int.toNat_natCast, chk_true, chk_nil]
    generalize l.getD i default = d at f1 f2 f3 f4 f5 ⊢
    refine round_ex c.1 h3 (blockS_ex ?_)
    simp only [letV]
    obtain ⟨r0, hr0⟩ := texts_ex K d.fFaces 8 60 (by omega) (by omega)
    obtain ⟨r1, hr1⟩ := vars_ex K d.fVars a (by omega) (by omega)
    obtain ⟨r2, hr2⟩ := stmts_ex K d.fBody (IntKind.i64.wrap (a - n)) (by omega) (by omega)
    rw [hr0, hr1, hr2]
    have hc : ∀ b, ∃ y, condM b (some r0) default = some y := fun b => by cases b <;> exact ⟨_, rfl⟩
    obtain ⟨y, hy⟩ := hc (!(decide (Int.ofNat d.fName.length > 60) || decide (Int.ofNat d.fBase.length > 60)))
    rw [hy]
    simp only [Option.bind_some, condM_t]
    split
    · exact ⟨_, rfl⟩
    refine bindS_ex (blockS_ex (map_ex (iter_nat d.fMethods.length ?_ (by omega) _))) fun t => ⟨_, rfl⟩
    intro n i hi
    by_cases c : i < d.fMethods.length ∧ n ≤ a
    · have h0 : (decide ((i : Int) < Int.ofNat d.fMethods.length) && decide (n ≤ a)) = true := by simp; omega
      have h2 := inb_nat c.1
      have h3 := pr.wrap_succ (i := i) (by omega)
      obtain ⟨q1, q2, q3⟩ := f5 _ (pr.getD_mem c.1)
      dsimp only
      rw [if_pos h0, h2, Int.toNat_natCast, chk_true, chk_nil]
      generalize d.fMethods.getD i default = m at q1 q2 q3 ⊢
      refine round_ex c.1 h3 (blockS_ex ?_)
      obtain ⟨r1, hr1⟩ := vars_ex K m.fParams a (by omega) (by omega)
      obtain ⟨r2, hr2⟩ := vars_ex K m.fVars a (by omega) (by omega)
      obtain ⟨r3, hr3⟩ := stmts_ex K m.fBody (IntKind.i64.wrap (a - n)) (by omega) (by omega)
      rw [hr1, hr2, hr3]
      simp only [Option.bind_some]
      split <;> exact ⟨_, rfl⟩
    · have h0 : ¬ (decide ((i : Int) < Int.ofNat d.fMethods.length) && decide (n ≤ a)) = true := by simp; omega
      rw [if_neg h0]; exact .inr ⟨_, rfl⟩
  · have h0 : ¬ ((decide ((i : Int) < Int.ofNat l.length) && decide (Int.ofNat l.length ≤ 16)) && decide (n ≤ a)) = true := by simp; omega
    simp only [letV]
    rw [if_neg h0]; exact .inr ⟨_, rfl⟩

end Go.Proofs.YtaoklnkjcobokaaDoor
