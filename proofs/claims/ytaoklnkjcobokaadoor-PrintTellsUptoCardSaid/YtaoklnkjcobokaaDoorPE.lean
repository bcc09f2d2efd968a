/- What the document writes of declarations. What print and the document write of a whole. The measures of the statement come to an end. No conditions. -/
import Derived.Test.YtaoklnkjcobokaaDoorPB
import Derived.Test.YtaoklnkjcobokaaDoorPD
set_option linter.unusedVariables false
set_option linter.unusedSimpArgs false
set_option linter.unusedSectionVars false
namespace Go.Proofs.YtaoklnkjcobokaaDoor
open Go Go.Proofs Go.Dl
set_option maxRecDepth 100000
open pr (B J)

theorem word_eq (K : Nat) (b : Bool) (w : Bytes) (hw : (B (pr.flag b w)).length ≤ 1000000000) : fnS (F41 K b w) = some (B (pr.flag b w)) := by
  unfold F41
  cases b with
  | true =>
    simp only [pr.flag, ↓reduceIte, pr.B_cons, pr.B_nil, List.length_append, List.length_cons, List.length_nil] at hw
    simp (disch := (first | assumption | ((try simp only [List.length_append, List.length_cons, List.length_nil]); omega))) only [pr.flag, ↓reduceIte, pr.B_cons, pr.B_nil, room_le, chk_true, Option.bind_some, Option.map_some, bindS_r, bindS_l, blockS_r, blockS_ll, blockS_lr, fnS_r, fnS_l, letV, condM_t, chk_nil, List.append_assoc, List.cons_append, List.nil_append, List.append_nil, List.length_append, List.length_cons, List.length_nil]
  | false => simp [pr.flag, pr.B_nil, room_le, chk_true, Option.bind_some, Option.map_some, bindS_r, bindS_l, blockS_r, blockS_ll, blockS_lr, fnS_r, fnS_l, letV, condM_t, chk_nil, List.append_assoc, List.cons_append, List.nil_append, List.append_nil, List.length_append, List.length_cons, List.length_nil]

theorem dres_eq (K : Nat) (t : S29) (hK : 30 < K) (hlo : I64 t.fLo) (hhi : I64 t.fHi) (hw : (B (pr.tyT t)).length ≤ 1000000000) : fnS (F40 K t) = some (if t.fKind = 0 then [] else [32, 58, 32] ++ J (pr.tyT t)) := by
  unfold F40
  by_cases h : t.fKind = 0
  · rw [if_pos (by simp [h]), if_pos h]; rfl
  · have := J_len (tyT_ne t)
    rw [if_neg (by simp [h]), if_neg h, dtyp_eq K t hK hlo hhi hw, Option.bind_some, chk_t (room_le (by simp only [List.length_cons, List.length_nil]; omega)), chk_nil]; rfl

theorem dpar_eq (K : Nat) (l : List S38) (hok : ∀ v ∈ l, pr.okV v) (h30 : 30 < K) (hK : l.length < K) (hl : l.length ≤ 1000000000) (hw : (B (pr.parT l)).length ≤ 900000000) : fnS (F39 K l) = some (40 :: 32 :: (B (pr.parT l) ++ [41])) := by
  unfold F39
  unfold pr.parT at hw ⊢
  rw [B_gat] at hw ⊢
  rw [pr.iter_gat Sum.inl l (fun i v => B (pr.com i ++ [v.fName, [58]] ++ pr.tyT v.fType)) 1000000000 hK (w := [40, 32]) (by simp only [List.length_cons, List.length_nil]; omega)]
  · generalize pr.gat (fun i v => B (pr.com i ++ [v.fName, [58]] ++ pr.tyT v.fType)) 0 l = G at hw ⊢
    simp (disch := (first | assumption | ((try simp only [List.length_append, List.length_cons, List.length_nil]); omega))) only [room_le, chk_true, Option.bind_some, Option.map_some, bindS_r, bindS_l, blockS_r, blockS_ll, blockS_lr, fnS_r, fnS_l, letV, condM_t, chk_nil, List.append_assoc, List.cons_append, List.nil_append, List.append_nil, List.length_append, List.length_cons, List.length_nil]
  · intro i hi v hv
    have hm := pr.getD_mem (l := l) hi
    have h1 := pr.lt_dec hi
    have h2 := inb_nat hi
    have h3 := pr.wrap_succ (i := i) (by omega)
    rw [Int.toNat_natCast]
    generalize l.getD i default = x at hm hv ⊢
    obtain ⟨⟨k1, k2⟩, k3, k4⟩ := hok x hm
    have hT := dtyp_eq K x.fType h30 k1 k2
    have jl := J_len (tyT_ne x.fType)
    have n1 := J_app (tyT_ne x.fType)
    have n2 := J_txt (tyT_ne x.fType)
    by_cases h0 : 0 < i
    · have ec : pr.com i = [[44]] := by unfold pr.com; rw [if_pos h0]
      have h5 : decide ((i : Int) > 0) = true := by simp; omega
      simp only [ec, pr.B_app, pr.B_cons, pr.B_nil, List.length_append, List.length_cons, List.length_nil] at hv
      simp (disch := (first | assumption | ((try simp only [List.length_append, List.length_cons, List.length_nil]); omega))) only [h1, h2, h3, h5, hT, ec, n1, n2, ↓reduceIte, pr.B_app, pr.B_cons, pr.B_nil, room_le, chk_true, Option.bind_some, Option.map_some, bindS_r, bindS_l, blockS_r, blockS_ll, blockS_lr, fnS_r, fnS_l, letV, condM_t, chk_nil, List.append_assoc, List.cons_append, List.nil_append, List.append_nil, List.length_append, List.length_cons, List.length_nil]
    · have ec : pr.com i = [] := by unfold pr.com; rw [if_neg h0]
      have h5 : decide ((i : Int) > 0) = false := by simp; omega
      simp only [ec, pr.B_app, pr.B_cons, pr.B_nil, List.length_append, List.length_cons, List.length_nil] at hv
      simp (disch := (first | assumption | ((try simp only [List.length_append, List.length_cons, List.length_nil]); omega))) only [h1, h2, h3, h5, hT, ec, n1, n2, Bool.false_eq_true, ↓reduceIte, pr.B_app, pr.B_cons, pr.B_nil, room_le, chk_true, Option.bind_some, Option.map_some, bindS_r, bindS_l, blockS_r, blockS_ll, blockS_lr, fnS_r, fnS_l, letV, condM_t, chk_nil, List.append_assoc, List.cons_append, List.nil_append, List.append_nil, List.length_append, List.length_cons, List.length_nil]
  · intro v
    simp only [pr.lt_dec0, letV, Bool.false_eq_true, ↓reduceIte]

theorem dvars_eq (K : Nat) (l : List S38) (hok : ∀ v ∈ l, pr.okV v) (h30 : 30 < K) (hK : l.length < K) (hl : l.length ≤ 1000000000) (hw : (B (pr.varsT l)).length ≤ 1000000000) : fnS (F42 K l) = some (B (pr.varsT l)) := by
  unfold F42
  unfold pr.varsT at hw ⊢
  rw [B_gat] at hw ⊢
  rw [pr.iter_gat Sum.inl l (fun i v => B (pr.varT v)) 1000000000 hK (w := []) (by simpa using hw)]
  · simp only [Option.map_some, blockS_ll, bindS_r, fnS_l, List.nil_append]
  · intro i hi v hv
    have hm := pr.getD_mem (l := l) hi
    have h1 := pr.lt_dec hi
    have h2 := inb_nat hi
    have h3 := pr.wrap_succ (i := i) (by omega)
    rw [Int.toNat_natCast]
    generalize l.getD i default = x at hm hv ⊢
    obtain ⟨⟨k1, k2⟩, k3, k4⟩ := hok x hm
    obtain ⟨nm, ty, init, dir, slot⟩ := x
    dsimp only at k1 k2 k3 k4 hv ⊢
    have hT := dtyp_eq K ty h30 k1 k2
    have hI : fnS (F24 K init) = some (J (numT init)) := decimal_eq K init h30 k3
    have hS : fnS (F24 K slot) = some (J (numT slot)) := decimal_eq K slot h30 k4
    have jl := J_len (tyT_ne ty)
    have n1 := J_app (tyT_ne ty)
    have n2 := J_txt (tyT_ne ty)
    have jI := J_len (numT_ne init)
    have i1 := J_app (numT_ne init)
    have i2 := J_txt (numT_ne init)
    have jS := J_len (numT_ne slot)
    have s1 := J_app (numT_ne slot)
    have s2 := J_txt (numT_ne slot)
    by_cases c1 : init = 0 <;> by_cases c2 : dir = 1 <;> by_cases c3 : dir = 2
    · omega
    · subst c1; subst c2; simp only [pr.varT, Int.reduceEq, ↓reduceIte, pr.B_app, pr.B_cons, pr.B_nil, List.length_append, List.length_cons, List.length_nil] at hv
      simp (disch := (first | assumption | ((try simp only [List.length_append, List.length_cons, List.length_nil]); omega))) only [h1, h2, h3, hT, hI, hS, n1, n2, i1, i2, s1, s2, pr.varT, bne_self_eq_false, bne_iff_ne, ne_eq, not_false_eq_true, Bool.false_eq_true, beq_iff_eq, c3, Int.reduceEq, Int.reduceBEq, ↓reduceIte, pr.B_app, pr.B_cons, pr.B_nil, room_le, chk_true, Option.bind_some, Option.map_some, bindS_r, bindS_l, blockS_r, blockS_ll, blockS_lr, fnS_r, fnS_l, letV, condM_t, chk_nil, List.append_assoc, List.cons_append, List.nil_append, List.append_nil, List.length_append, List.length_cons, List.length_nil]
    · subst c1; subst c3; simp only [pr.varT, Int.reduceEq, ↓reduceIte, pr.B_app, pr.B_cons, pr.B_nil, List.length_append, List.length_cons, List.length_nil] at hv
      simp (disch := (first | assumption | ((try simp only [List.length_append, List.length_cons, List.length_nil]); omega))) only [h1, h2, h3, hT, hI, hS, n1, n2, i1, i2, s1, s2, pr.varT, bne_self_eq_false, bne_iff_ne, ne_eq, not_false_eq_true, Bool.false_eq_true, beq_iff_eq, c2, Int.reduceEq, Int.reduceBEq, ↓reduceIte, pr.B_app, pr.B_cons, pr.B_nil, room_le, chk_true, Option.bind_some, Option.map_some, bindS_r, bindS_l, blockS_r, blockS_ll, blockS_lr, fnS_r, fnS_l, letV, condM_t, chk_nil, List.append_assoc, List.cons_append, List.nil_append, List.append_nil, List.length_append, List.length_cons, List.length_nil]
    · subst c1; simp only [pr.varT, c2, c3, Int.reduceEq, ↓reduceIte, pr.B_app, pr.B_cons, pr.B_nil, List.length_append, List.length_cons, List.length_nil] at hv
      simp (disch := (first | assumption | ((try simp only [List.length_append, List.length_cons, List.length_nil]); omega))) only [h1, h2, h3, hT, hI, hS, n1, n2, i1, i2, s1, s2, pr.varT, bne_self_eq_false, bne_iff_ne, ne_eq, not_false_eq_true, Bool.false_eq_true, beq_iff_eq, c2, c3, Int.reduceEq, Int.reduceBEq, ↓reduceIte, pr.B_app, pr.B_cons, pr.B_nil, room_le, chk_true, Option.bind_some, Option.map_some, bindS_r, bindS_l, blockS_r, blockS_ll, blockS_lr, fnS_r, fnS_l, letV, condM_t, chk_nil, List.append_assoc, List.cons_append, List.nil_append, List.append_nil, List.length_append, List.length_cons, List.length_nil]
    · omega
    · subst c2; simp only [pr.varT, c1, Int.reduceEq, ↓reduceIte, pr.B_app, pr.B_cons, pr.B_nil, List.length_append, List.length_cons, List.length_nil] at hv
      simp (disch := (first | assumption | ((try simp only [List.length_append, List.length_cons, List.length_nil]); omega))) only [h1, h2, h3, hT, hI, hS, n1, n2, i1, i2, s1, s2, pr.varT, bne_self_eq_false, bne_iff_ne, ne_eq, not_false_eq_true, Bool.false_eq_true, beq_iff_eq, c1, c3, Int.reduceEq, Int.reduceBEq, ↓reduceIte, pr.B_app, pr.B_cons, pr.B_nil, room_le, chk_true, Option.bind_some, Option.map_some, bindS_r, bindS_l, blockS_r, blockS_ll, blockS_lr, fnS_r, fnS_l, letV, condM_t, chk_nil, List.append_assoc, List.cons_append, List.nil_append, List.append_nil, List.length_append, List.length_cons, List.length_nil]
    · subst c3; simp only [pr.varT, c1, Int.reduceEq, ↓reduceIte, pr.B_app, pr.B_cons, pr.B_nil, List.length_append, List.length_cons, List.length_nil] at hv
      simp (disch := (first | assumption | ((try simp only [List.length_append, List.length_cons, List.length_nil]); omega))) only [h1, h2, h3, hT, hI, hS, n1, n2, i1, i2, s1, s2, pr.varT, bne_self_eq_false, bne_iff_ne, ne_eq, not_false_eq_true, Bool.false_eq_true, beq_iff_eq, c1, c2, Int.reduceEq, Int.reduceBEq, ↓reduceIte, pr.B_app, pr.B_cons, pr.B_nil, room_le, chk_true, Option.bind_some, Option.map_some, bindS_r, bindS_l, blockS_r, blockS_ll, blockS_lr, fnS_r, fnS_l, letV, condM_t, chk_nil, List.append_assoc, List.cons_append, List.nil_append, List.append_nil, List.length_append, List.length_cons, List.length_nil]
    · simp only [pr.varT, c1, c2, c3, Int.reduceEq, ↓reduceIte, pr.B_app, pr.B_cons, pr.B_nil, List.length_append, List.length_cons, List.length_nil] at hv
      simp (disch := (first | assumption | ((try simp only [List.length_append, List.length_cons, List.length_nil]); omega))) only [h1, h2, h3, hT, hI, hS, n1, n2, i1, i2, s1, s2, pr.varT, bne_self_eq_false, bne_iff_ne, ne_eq, not_false_eq_true, Bool.false_eq_true, beq_iff_eq, c1, c2, c3, Int.reduceEq, Int.reduceBEq, ↓reduceIte, pr.B_app, pr.B_cons, pr.B_nil, room_le, chk_true, Option.bind_some, Option.map_some, bindS_r, bindS_l, blockS_r, blockS_ll, blockS_lr, fnS_r, fnS_l, letV, condM_t, chk_nil, List.append_assoc, List.cons_append, List.nil_append, List.append_nil, List.length_append, List.length_cons, List.length_nil]
  · intro v
    simp only [pr.lt_dec0, letV, Bool.false_eq_true, ↓reduceIte]

/-- A method's head behind its name's blank. -/
theorem dhead (m : S54) (y : Bytes) : m.fName ++ 32 :: 40 :: 32 :: (B (pr.parT m.fParams) ++ 41 :: ((if m.fResult.fKind = 0 then ([] : Bytes) else [32, 58, 32] ++ J (pr.tyT m.fResult)) ++ 32 :: 59 :: 32 :: y)) = B (pr.headT m) ++ y := by
  unfold pr.headT
  by_cases c : m.fResult.fKind = 0
  · simp only [c, ↓reduceIte, pr.B_app, pr.B_cons, pr.B_nil, List.append_assoc, List.cons_append, List.nil_append]
  · have n1 := J_app (tyT_ne m.fResult)
    simp only [c, ↓reduceIte, pr.B_app, pr.B_cons, pr.B_nil, n1, List.append_assoc, List.cons_append, List.nil_append]

theorem dres_len (t : S29) : ((if t.fKind = 0 then ([] : Bytes) else [32, 58, 32] ++ J (pr.tyT t)).length) ≤ 2 + (B (if t.fKind = 0 then [] else [[58]] ++ pr.tyT t)).length := by
  by_cases c : t.fKind = 0
  · simp [c]
  · have := J_len (tyT_ne t)
    simp only [c, ↓reduceIte, pr.B_app, pr.B_cons, pr.B_nil, List.length_append, List.length_cons, List.length_nil]; omega

/-- What is written of a result. -/
def resW (t : S29) : Bytes := if t.fKind = 0 then [] else [32, 58, 32] ++ J (pr.tyT t)
theorem head_parts (K : Nat) (hK : 20000000 ≤ K) (m : S54) (ho : pr.okM m) (hf : pr.fitM m) (hw : (B (pr.headT m)).length ≤ 900000000) :
    fnS (F40 K m.fResult) = some (resW m.fResult) ∧ fnS (F39 K m.fParams) = some (40 :: 32 :: (B (pr.parT m.fParams) ++ [41])) ∧ m.fName.length + (B (pr.parT m.fParams)).length + (resW m.fResult).length + 7 = (B (pr.headT m)).length := by
  obtain ⟨q1, q2, q3⟩ := hf
  obtain ⟨r1, ⟨r2, r3⟩, r4, r5⟩ := ho
  have hl := congrArg List.length (dhead m [])
  simp only [List.append_nil, List.length_append, List.length_cons, List.length_nil] at hl
  change m.fName.length + ((B (pr.parT m.fParams)).length + ((resW m.fResult).length + (0 + 1 + 1 + 1) + 1) + 1 + 1 + 1) = _ at hl
  refine ⟨?_, dpar_eq K m.fParams r1 (by omega) (by omega) (by omega) (by omega), by omega⟩
  by_cases c : m.fResult.fKind = 0
  · unfold F40 resW; rw [if_pos (by simp [c]), if_pos c]; rfl
  · have hty : (B (pr.tyT m.fResult)).length ≤ 1000000000 := by
      have := J_len (tyT_ne m.fResult)
      unfold resW at hl
      simp only [c, ↓reduceIte, List.length_append, List.length_cons, List.length_nil] at hl
      omega
    exact dres_eq K _ (by omega) r2 r3 hty
theorem dhead' (m : S54) (y : Bytes) : m.fName ++ 32 :: 40 :: 32 :: (B (pr.parT m.fParams) ++ 41 :: (resW m.fResult ++ 32 :: 59 :: 32 :: y)) = B (pr.headT m) ++ y := dhead m y

theorem ddecl_eq (K : Nat) (hK : 20000000 ≤ K) (d : S48) (ho : pr.okD d) (hf : pr.fitD d) (hw : (B (pr.declT d)).length ≤ 800000000) : fnS (F22 K d) = some (J (pr.declT d)) := by
  obtain ⟨o1, o2, o3, o4, o5⟩ := ho
  obtain ⟨f1, f2, f3, f4, f5⟩ := hf
  have hV := dvars_eq K d.fVars o1 (by omega) (by omega) (by omega)
  have hB : (B (pr.stsT d.fBody)).length ≤ 1000000000 → fnS (F43 K d.fBody) = some (B (pr.stsT d.fBody)) := by
    intro hw
    obtain ⟨K, rfl⟩ : ∃ j, K = j + 1 := ⟨K - 1, by omega⟩
    have := pr.szSl_len d.fBody
    exact dsts_eq K _ (fun x hx hw => dstmt_eq (pr.szSl d.fBody) K x (pr.szSl_mem _ x hx) (by omega) (by omega) (pr.okSl_mem _ o3 x hx) hw) (by omega) (by omega) hw
  have hE : fnS (F24 K d.fEvery) = some (J (numT d.fEvery)) := decimal_eq K _ (by omega) o4
  have hP : fnS (F24 K d.fFirst) = some (J (numT d.fFirst)) := decimal_eq K _ (by omega) o5
  have je := J_len (numT_ne d.fEvery)
  have jp := J_len (numT_ne d.fFirst)
  have e1 := J_app (numT_ne d.fEvery)
  have e2 := J_app (numT_ne d.fFirst)
  unfold F22
  by_cases h1 : d.fKind = 1
  · rw [h1]
    unfold pr.declT at hw ⊢
    rw [if_pos h1] at hw ⊢
    simp only [pr.B_app, B_gat, pr.B_cons, pr.B_nil, List.length_append, List.length_cons, List.length_nil] at hw
    simp only [Int.reduceBEq, ↓reduceIte, letV]
    rw [chk_t (room_le (by simp only [List.length_append, List.length_cons, List.length_nil]; omega)), chk_t (room_le (by simp only [List.length_append, List.length_cons, List.length_nil]; omega)), chk_nil]
    have hT : ([73, 78, 84, 69, 82, 70, 65, 67, 69, 32] ++ d.fName ++ [32, 59, 32]).length + (pr.gat (fun _ m => B (pr.faceT m)) 0 d.fMethods).length ≤ 900000000 := by simp only [List.length_append, List.length_cons, List.length_nil]; omega
    rw [pr.iter_gat Sum.inl d.fMethods (fun _ m => B (pr.faceT m)) 900000000 (by omega) hT]
    rotate_left
    · intro i hi v hv
      have hm := pr.getD_mem (l := d.fMethods) hi
      have h1 := pr.lt_dec hi
      have h2 := inb_nat hi
      have h3 := pr.wrap_succ (i := i) (by omega)
      rw [Int.toNat_natCast]
      have hq := f5 _ hm
      have hr := o2 _ hm
      generalize d.fMethods.getD i default = m at hv hq hr ⊢
      simp only [pr.faceT, pr.B_app, pr.B_cons, pr.B_nil, List.length_append, List.length_cons, List.length_nil] at hv
      obtain ⟨hR, hPa, hl⟩ := head_parts K hK m hr hq (by omega)
      have hd := dhead' m []
      simp only [List.append_nil] at hd
      simp (disch := (first | assumption | ((try simp only [List.length_append, List.length_cons, List.length_nil]); omega))) only [h1, h2, h3, hR, hPa, hd, pr.faceT, pr.B_app, pr.B_cons, pr.B_nil, ↓reduceIte, room_le, chk_true, Option.bind_some, Option.map_some, bindS_r, bindS_l, blockS_r, blockS_ll, blockS_lr, fnS_r, fnS_l, letV, condM_t, chk_nil, List.append_assoc, List.cons_append, List.nil_append, List.append_nil, List.length_append, List.length_cons, List.length_nil]
    · intro v
      simp only [pr.lt_dec0, letV, Bool.false_eq_true, ↓reduceIte]
    simp only [Option.map_some, blockS_ll, bindS_r]
    rw [chk_t (room_le (by simp only [List.length_append, List.length_cons, List.length_nil] at hT ⊢; omega)), chk_nil]
    refine congrArg some (J_of ?_)
    simp only [pr.B_app, B_gat, pr.B_cons, pr.B_nil, List.append_assoc, List.cons_append, List.nil_append, List.append_nil]
  have b1 : (d.fKind == 1) = false := by simpa using h1
  by_cases h2 : d.fKind = 2
  · unfold pr.declT at hw ⊢
    rw [if_neg h1, if_pos h2] at hw ⊢
    rw [h2]
    have W1 := word_eq K d.fAbstract [65, 66, 83, 84, 82, 65, 67, 84]
    have W2 := word_eq K d.fFinal [70, 73, 78, 65, 76]
    have hbase : ∀ {A : Type} (x : Bytes), x.length + (B (if d.fBase = [] then [] else [[69, 88, 84, 69, 78, 68, 83], d.fBase] : List Bytes)).length ≤ 900000000 → (if (!(d.fBase == ([] : Bytes))) = true then (chk [room (x.length + ([69, 88, 84, 69, 78, 68, 83, 32] : Bytes).length), room ((x ++ ([69, 88, 84, 69, 78, 68, 83, 32] : Bytes)).length + d.fBase.length), room (((x ++ ([69, 88, 84, 69, 78, 68, 83, 32] : Bytes)) ++ d.fBase).length + ([32] : Bytes).length)] (letV (((x ++ ([69, 88, 84, 69, 78, 68, 83, 32] : Bytes)) ++ d.fBase) ++ ([32] : Bytes)) (fun (x512 : Bytes) => (some (.inr (x512)) : Option (A ⊕ Bytes))))) else (some (.inr x))) = some (.inr (x ++ B (if d.fBase = [] then [] else [[69, 88, 84, 69, 78, 68, 83], d.fBase]))) := by
      intro A x hx
      by_cases c : d.fBase = []
      · simp [c, pr.B_nil]
      · rw [if_neg c] at hx ⊢
        simp only [pr.B_cons, pr.B_nil, List.length_append, List.length_cons, List.length_nil] at hx
        rw [if_pos (by simp [c])]
        simp (disch := (first | assumption | ((try simp only [List.length_append, List.length_cons, List.length_nil]); omega))) only [pr.B_cons, pr.B_nil, room_le, chk_true, Option.bind_some, Option.map_some, bindS_r, bindS_l, blockS_r, blockS_ll, blockS_lr, fnS_r, fnS_l, letV, condM_t, chk_nil, List.append_assoc, List.cons_append, List.nil_append, List.append_nil, List.length_append, List.length_cons, List.length_nil]
    simp only [pr.B_app, B_gat, pr.B_cons, pr.B_nil, List.length_append, List.length_cons, List.length_nil] at hw
    simp only [Int.reduceBEq, ↓reduceIte, Bool.false_eq_true]
    rw [condM_t, W1 (by omega), Option.bind_some, chk_t (room_le (by simp only [List.length_append, List.length_cons, List.length_nil]; omega)), chk_nil, condM_t, W2 (by omega), Option.bind_some, chk_t (room_le (by simp only [List.length_append, List.length_cons, List.length_nil]; omega)), chk_t (room_le (by simp only [List.length_append, List.length_cons, List.length_nil]; omega)), chk_t (room_le (by simp only [List.length_append, List.length_cons, List.length_nil]; omega)), chk_nil]
    rw [show ∀ {X Y : Type} (v : X) (f : X → Y), letV v f = f v from fun _ _ => rfl]
    rw [hbase _ (by simp only [List.length_append, List.length_cons, List.length_nil]; omega), bindS_r]
    generalize hbs : B (if d.fBase = [] then [] else [[69, 88, 84, 69, 78, 68, 83], d.fBase] : List Bytes) = bs at hw ⊢
    have hT : ([67, 76, 65, 83, 83, 32] ++ B (pr.flag d.fAbstract [65, 66, 83, 84, 82, 65, 67, 84]) ++ B (pr.flag d.fFinal [70, 73, 78, 65, 76]) ++ d.fName ++ [32] ++ bs).length + (pr.gat (X := pr.Bs) (fun i f => B (pr.impT i f)) 0 d.fFaces).length ≤ 900000000 := by simp only [List.length_append, List.length_cons, List.length_nil]; omega
    rw [pr.iter_gat (X := pr.Bs) Sum.inl d.fFaces (fun i f => B (pr.impT i f)) 900000000 (by omega) hT]
    rotate_left
    · intro i hi v hv
      have h1 := pr.lt_dec hi
      have h2 := inb_nat hi
      have h3 := pr.wrap_succ (i := i) (by omega)
      rw [Int.toNat_natCast]
      generalize d.fFaces.getD i default = x at hv ⊢
      by_cases c : i = 0
      · have h5 : ((i : Int) == 0) = true := by simp [c]
        simp only [pr.impT, c, ↓reduceIte, pr.B_cons, pr.B_nil, List.length_append, List.length_cons, List.length_nil] at hv
        simp (disch := (first | assumption | ((try simp only [List.length_append, List.length_cons, List.length_nil]); omega))) only [h1, h2, h3, h5, pr.impT, ↓reduceIte, room_le, chk_true, Option.bind_some, Option.map_some, bindS_r, bindS_l, blockS_r, blockS_ll, blockS_lr, fnS_r, fnS_l, letV, condM_t, chk_nil, List.append_assoc, List.cons_append, List.nil_append, List.append_nil, List.length_append, List.length_cons, List.length_nil]
        simp only [c, ↓reduceIte, pr.B_cons, pr.B_nil, List.append_assoc, List.cons_append, List.nil_append]
      · have h5 : ((i : Int) == 0) = false := by simp [c]
        simp only [pr.impT, c, ↓reduceIte, pr.B_cons, pr.B_nil, List.length_append, List.length_cons, List.length_nil] at hv
        simp (disch := (first | assumption | ((try simp only [List.length_append, List.length_cons, List.length_nil]); omega))) only [h1, h2, h3, h5, pr.impT, Bool.false_eq_true, ↓reduceIte, room_le, chk_true, Option.bind_some, Option.map_some, bindS_r, bindS_l, blockS_r, blockS_ll, blockS_lr, fnS_r, fnS_l, letV, condM_t, chk_nil, List.append_assoc, List.cons_append, List.nil_append, List.append_nil, List.length_append, List.length_cons, List.length_nil]
        simp only [c, ↓reduceIte, pr.B_cons, pr.B_nil, List.append_assoc, List.cons_append, List.nil_append]
    · intro v
      simp only [pr.lt_dec0, letV, Bool.false_eq_true, ↓reduceIte]
    simp only [Option.map_some, blockS_ll, bindS_r]
    rw [chk_t (room_le (by simp only [List.length_append, List.length_cons, List.length_nil]; omega)), chk_nil, hV (by omega), Option.bind_some, chk_t (room_le (by simp only [List.length_append, List.length_cons, List.length_nil]; omega)), chk_nil]
    have hT : ([67, 76, 65, 83, 83, 32] ++ B (pr.flag d.fAbstract [65, 66, 83, 84, 82, 65, 67, 84]) ++ B (pr.flag d.fFinal [70, 73, 78, 65, 76]) ++ d.fName ++ [32] ++ bs ++ pr.gat (X := pr.Bs) (fun i f => B (pr.impT i f)) 0 d.fFaces ++ [59, 32] ++ B (pr.varsT d.fVars)).length + (pr.gat (fun _ m => B (pr.methT m)) 0 d.fMethods).length ≤ 900000000 := by simp only [List.length_append, List.length_cons, List.length_nil]; omega
    rw [pr.iter_gat Sum.inl d.fMethods (fun _ m => B (pr.methT m)) 900000000 (by omega) hT]
    rotate_left
    · intro i hi v hv
      have hm := pr.getD_mem (l := d.fMethods) hi
      have h1 := pr.lt_dec hi
      have h2 := inb_nat hi
      have h3 := pr.wrap_succ (i := i) (by omega)
      rw [Int.toNat_natCast]
      have hq := f5 _ hm
      have hr := o2 _ hm
      generalize d.fMethods.getD i default = m at hv hq hr ⊢
      simp only [pr.methT, pr.B_app, pr.B_cons, pr.B_nil, List.length_append, List.length_cons, List.length_nil] at hv
      obtain ⟨hR, hPa, hl⟩ := head_parts K hK m hr hq (by omega)
      have w1 := word_eq K m.fOver [79, 86, 69, 82, 82, 73, 68, 69]
      have w2 := word_eq K m.fAbstract [65, 66, 83, 84, 82, 65, 67, 84]
      have w3 := word_eq K m.fFinal [70, 73, 78, 65, 76]
      have hvv := dvars_eq K m.fVars hr.2.2.1 (by omega) (by have := hq.2.1; omega) (by have := hq.2.1; omega)
      have hbb : (B (pr.stsT m.fBody)).length ≤ 1000000000 → fnS (F43 K m.fBody) = some (B (pr.stsT m.fBody)) := by
        intro hw
        obtain ⟨K, rfl⟩ : ∃ j, K = j + 1 := ⟨K - 1, by omega⟩
        have h1 := pr.szSl_len m.fBody
        have h2 := hq.2.2
        exact dsts_eq K _ (fun x hx hw => dstmt_eq (pr.szSl m.fBody) K x (pr.szSl_mem _ x hx) (by omega) (by omega) (pr.okSl_mem _ hr.2.2.2 x hx) hw) (by omega) (by omega) hw
      have hd := fun y => dhead' m y
      clear hr hq hm
      simp only [h1, h2, h3, letV, chk_true, ↓reduceIte, condM_t, chk_nil]
      rw [chk_t (room_le (by simp only [List.length_append, List.length_cons, List.length_nil]; omega)), chk_nil, w1 (by omega), Option.bind_some, chk_t (room_le (by simp only [List.length_append, List.length_cons, List.length_nil]; omega)), chk_nil, w2 (by omega), Option.bind_some, chk_t (room_le (by simp only [List.length_append, List.length_cons, List.length_nil]; omega)), chk_nil, w3 (by omega), Option.bind_some, chk_t (room_le (by simp only [List.length_append, List.length_cons, List.length_nil]; omega)), chk_t (room_le (by simp only [List.length_append, List.length_cons, List.length_nil]; omega)), chk_t (room_le (by simp only [List.length_append, List.length_cons, List.length_nil]; omega)), chk_nil,
        hPa, Option.bind_some, chk_t (room_le (by simp only [List.length_append, List.length_cons, List.length_nil]; omega)), chk_nil, hR, Option.bind_some, chk_t (room_le (by simp only [List.length_append, List.length_cons, List.length_nil]; omega)), chk_t (room_le (by simp only [List.length_append, List.length_cons, List.length_nil]; omega)), chk_nil, hvv (by omega), Option.bind_some, chk_t (room_le (by simp only [List.length_append, List.length_cons, List.length_nil]; omega)), chk_nil, hbb (by omega), Option.bind_some, chk_t (room_le (by simp only [List.length_append, List.length_cons, List.length_nil]; omega)), chk_t (room_le (by simp only [List.length_append, List.length_cons, List.length_nil]; omega)), chk_nil, blockS_r, bindS_r]
      simp only [hd, pr.methT, pr.B_app, pr.B_cons, pr.B_nil, List.append_assoc, List.cons_append, List.nil_append, List.append_nil]
    · intro v
      simp only [pr.lt_dec0, letV, Bool.false_eq_true, ↓reduceIte]
    simp only [Option.map_some, blockS_ll, bindS_r]
    simp only [List.length_append, List.length_cons, List.length_nil] at hT
    rw [chk_t (room_le (by simp only [List.length_append, List.length_cons, List.length_nil]; omega)), chk_nil]
    refine congrArg some (J_of ?_)
    simp only [hbs, pr.B_app, B_gat, pr.B_cons, pr.B_nil, List.append_assoc, List.cons_append, List.nil_append, List.append_nil]
  have b2 : (d.fKind == 2) = false := by simpa using h2
  unfold pr.declT at hw ⊢
  rw [if_neg h1, if_neg h2] at hw ⊢
  rw [b1, b2]
  by_cases h3 : d.fKind = 3
  · rw [h3]
    rw [if_pos h3] at hw
    simp only [pr.B_app, pr.B_cons, pr.B_nil, List.length_append, List.length_cons, List.length_nil] at hw
    simp only [Int.reduceBEq, ↓reduceIte, Bool.false_eq_true]
    simp (disch := (first | assumption | ((try simp only [List.length_append, List.length_cons, List.length_nil]); omega))) only [hV, hB, room_le, chk_true, Option.bind_some, Option.map_some, bindS_r, bindS_l, blockS_r, blockS_ll, blockS_lr, fnS_r, fnS_l, letV, condM_t, chk_nil, List.append_assoc, List.cons_append, List.nil_append, List.append_nil, List.length_append, List.length_cons, List.length_nil]
    refine congrArg some (J_of ?_)
    simp only [pr.B_app, pr.B_cons, pr.B_nil, List.append_assoc, List.cons_append, List.nil_append, List.append_nil]
  by_cases h4 : d.fKind = 4
  · rw [h4]
    rw [if_neg h3, if_pos h4] at hw
    simp only [pr.B_app, pr.B_cons, pr.B_nil, List.length_append, List.length_cons, List.length_nil] at hw
    simp only [Int.reduceBEq, ↓reduceIte, Bool.false_eq_true, Int.reduceEq]
    simp (disch := (first | assumption | ((try simp only [List.length_append, List.length_cons, List.length_nil]); omega))) only [hE, hP, room_le, chk_true, Option.bind_some, Option.map_some, bindS_r, bindS_l, blockS_r, blockS_ll, blockS_lr, fnS_r, fnS_l, letV, condM_t, chk_nil, List.append_assoc, List.cons_append, List.nil_append, List.append_nil, List.length_append, List.length_cons, List.length_nil]
    refine congrArg some (J_of ?_)
    simp only [pr.B_app, pr.B_cons, pr.B_nil, e1, e2, List.append_assoc, List.cons_append, List.nil_append, List.append_nil]
  have b3 : (d.fKind == 3) = false := by simpa using h3
  have b4 : (d.fKind == 4) = false := by simpa using h4
  rw [b3, b4, if_neg h3, if_neg h4]
  simp only [Bool.false_eq_true, ↓reduceIte, blockS_r, bindS_r, fnS_l, J_q]
end Go.Proofs.YtaoklnkjcobokaaDoor

set_option linter.unusedVariables false
set_option linter.unusedSimpArgs false
set_option linter.unusedSectionVars false
namespace Go.Proofs.YtaoklnkjcobokaaDoor
open Go Go.Proofs Go.Dl
set_option maxRecDepth 100000
open pr (B J)

theorem text_eq (K : Nat) (t : List Bytes) (h : t ≠ []) (hw : (B t).length ≤ 1000000000) : fnS (F20 K (⟨t⟩ : S62)) = some (J t, ⟨t⟩) := by
  have h1 := J_len h
  have h2 := B_len t
  unfold F20 F38
  rw [if_pos (show (Lib.join t [32]).length ≤ 140737488355328 ∧ t.length ≤ 140737488355328 from ⟨by change (J t).length ≤ _; omega, by omega⟩)]
  rfl
theorem ptype_eq (K : Nat) (t : S29) (hlo : I64 t.fLo) (hhi : I64 t.fHi) (hw : (B (pr.tyT t)).length ≤ 1000000000) : fnS (F12 K t) = some (J (pr.tyT t)) := by
  have h2 := B_len (pr.tyT t)
  unfold F12
  rw [typ_eq K [] t hlo hhi (by simp only [List.length_nil]; omega), Option.bind_some, List.nil_append, text_eq K _ (tyT_ne t) hw]; rfl
theorem pexpr_eq (K : Nat) (e : S27) (ho : pr.okE e) (hK : 20000000 ≤ K) (hs : pr.sz e ≤ 2000000) (hw : (B (pr.tkE e)).length ≤ 1000000000) : fnS (F10 K e) = some (J (pr.tkE e)) := by
  have h2 := B_len (pr.tkE e)
  unfold F10
  rw [expr_eq 2000000 K e [] hs (by omega) (by omega) ho (by simp only [List.length_nil]; omega), Option.bind_some, List.nil_append, text_eq K _ (tk_ne e) hw]; rfl
theorem dexpr_all (K : Nat) (e : S27) (ho : pr.okE e) (hK : 20000000 ≤ K) (hs : pr.sz e ≤ 2000000) (hw : (B (pr.tkE e)).length ≤ 1000000000) : fnS (F11 K e) = some (J (pr.tkE e)) := dexpr_eq 2000000 K e hs (by omega) (by omega) ho hw

theorem declT_ne (d : S48) : pr.declT d ≠ [] := by
  unfold pr.declT
  repeat' refine ite_ne ?_ ?_
  all_goals (intro hc; simp at hc)

def okU (l : List S48) : Prop := l.length ≤ 2000000 ∧ ∀ d ∈ l, pr.okD d ∧ pr.fitD d

theorem dunit_eq (K : Nat) (hK : 20000000 ≤ K) (u : S24) (ho : okU u.fDecls) (hw : (pr.unitT u.fDecls).length ≤ 800000000) : fnS (F9 K u) = some (pr.unitT u.fDecls) := by
  obtain ⟨l⟩ := u
  dsimp only at ho hw ⊢
  unfold F9
  dsimp only
  unfold pr.unitT at hw ⊢
  rw [pr.iter_gat Sum.inl l (fun _ d => J (pr.declT d) ++ [10]) 800000000 (by have := ho.1; omega) (w := []) (by simpa using hw)]
  · simp only [Option.map_some, blockS_ll, bindS_r, fnS_l, List.nil_append]
  · intro i hi v hv
    have hm := pr.getD_mem (l := l) hi
    have h1 := pr.lt_dec hi
    have h2 := inb_nat hi
    have h3 := pr.wrap_succ (i := i) (by have := ho.1; omega)
    rw [Int.toNat_natCast]
    obtain ⟨q1, q2⟩ := ho.2 _ hm
    generalize l.getD i default = d at hv q1 q2 ⊢
    have jl := J_len (declT_ne d)
    simp only [List.length_append, List.length_cons, List.length_nil] at hv
    have hd := ddecl_eq K hK d q1 q2 (by omega)
    simp (disch := (first | assumption | ((try simp only [List.length_append, List.length_cons, List.length_nil]); omega))) only [h1, h2, h3, hd, ↓reduceIte, Nat.mul_one, room_le, chk_true, Option.bind_some, Option.map_some, bindS_r, bindS_l, blockS_r, blockS_ll, blockS_lr, fnS_r, fnS_l, letV, condM_t, chk_nil, List.append_assoc, List.cons_append, List.nil_append, List.append_nil, List.length_append, List.length_cons, List.length_nil]
  · intro v
    simp only [pr.lt_dec0, letV, Bool.false_eq_true, ↓reduceIte]

theorem punit_eq (K : Nat) (hK : 20000000 ≤ K) (u : S24) (ho : okU u.fDecls) (hw : (pr.unitT u.fDecls).length ≤ 800000000) : fnS (F8 K u) = some (pr.unitT u.fDecls) := by
  obtain ⟨l⟩ := u
  dsimp only at ho hw ⊢
  unfold F8
  dsimp only
  unfold pr.unitT at hw ⊢
  have key : ∀ {A : Type} {f : Bool × List UInt8 × Int → Option (((Bool × List UInt8) ⊕ A) ⊕ (Bool × List UInt8 × Int))}, (∀ (i : Nat), i < l.length → ∀ v : List UInt8, v.length + (J (pr.declT (l.getD i default)) ++ [10]).length ≤ 800000000 → f (decide (0 < i), v, (i : Int)) = some (.inr (true, v ++ (J (pr.declT (l.getD i default)) ++ [10]), ((i + 1 : Nat) : Int)))) → (∀ v, f (decide (0 < l.length), v, (l.length : Int)) = some (.inl (.inl (decide (0 < l.length), v)))) →
      iter K f (false, [], 0) = some (.inl (decide (0 < l.length), pr.gat (fun _ d => J (pr.declT d) ++ [10]) 0 l)) := by
    intro A f ha hb
    have := pr.iter_st (f := f) (fun i v => (decide (0 < i), v, (i : Int))) (fun v => Sum.inl (decide (0 < l.length), v)) l (fun _ d => J (pr.declT d) ++ [10]) 800000000 0 (fun i _ hi v hv => by
      have := ha i hi v hv
      have hd : decide (0 < i + 1) = true := by simp
      rw [hd]; exact this) hb l.length 0 K [] (by omega) (by omega) (by have := ho.1; omega) (by simpa using hw)
    simpa using this
  rw [key]
  · simp only [Option.map_some, blockS_ll, bindS_r]; rfl
  · intro i hi v hv
    have hm := pr.getD_mem (l := l) hi
    have h1 := pr.lt_dec hi
    have h2 := inb_nat hi
    have h3 := pr.wrap_succ (i := i) (by have := ho.1; omega)
    rw [Int.toNat_natCast]
    obtain ⟨q1, q2⟩ := ho.2 _ hm
    generalize l.getD i default = d at hv q1 q2 ⊢
    have jl := J_len (declT_ne d)
    have bl := B_len (pr.declT d)
    simp only [List.length_append, List.length_cons, List.length_nil] at hv
    have hd := decl_eq K hK [] d q1 q2 (by simp only [List.length_nil]; omega)
    have ht := text_eq K _ (declT_ne d) (by omega)
    simp only [h1, h2, h3, hd, ht, letV, chk_true, chk_nil, ↓reduceIte, Option.bind_some, List.nil_append]
    rw [chk_t (room_le (by simp only [List.length_cons, List.length_nil]; omega)), chk_nil]
    have hb : ∀ b, fnS (F19 K (⟨b, v⟩ : S59) (J (pr.declT d) ++ [10])) = some (Int.ofNat (J (pr.declT d) ++ [10]).length, none, ⟨true, v ++ (J (pr.declT d) ++ [10])⟩) := by
      intro b
      unfold F19 F37
      simp only [fnS_l, Option.bind_some]
      rw [chk_t (room_le (by simp only [List.length_append, List.length_cons, List.length_nil]; omega)), chk_nil]; rfl
    rw [hb]
    rfl
  · intro v
    simp only [pr.lt_dec0, letV, Bool.false_eq_true, ↓reduceIte]

theorem awake_eq (K : Nat) (hK : 20000000 ≤ K) : fnS (F7 K) = some true := by
  unfold F7
  have i0 : I64 0 := by unfold I64; omega
  have i1 : I64 1 := by unfold I64; omega
  have i3 : I64 3 := by unfold I64; omega
  rw [pexpr_eq K _ ?a hK ?b ?c]
  case a =>
    rw [pr.okE_eq]; refine ⟨i0, ?_⟩
    rw [pr.okL]; refine ⟨?_, by rw [pr.okL]; trivial⟩
    rw [pr.okE_eq]; refine ⟨i1, ?_⟩
    rw [pr.okL]; refine ⟨?_, ?_⟩
    · rw [pr.okE_eq]; exact ⟨i0, by rw [pr.okL]; trivial⟩
    rw [pr.okL]; refine ⟨?_, by rw [pr.okL]; trivial⟩
    rw [pr.okE_eq]; exact ⟨i1, by rw [pr.okL]; trivial⟩
  case b => exact of_decide_eq_true (by kernel_rfl)
  case c => exact of_decide_eq_true (by kernel_rfl)
  have e1 : J (pr.tkE (⟨7, 0, ([] : Bytes), ([] : Bytes), [(⟨9, 1, ([] : Bytes), ([] : Bytes), [(⟨5, 0, ([97] : Bytes), ([] : Bytes), []⟩ : S27), (⟨1, 1, ([] : Bytes), ([] : Bytes), []⟩ : S27)]⟩ : S27)]⟩ : S27)) = [45, 32, 40, 32, 97, 32, 43, 32, 49, 32, 41] := by kernel_rfl
  rw [e1, Option.bind_some, ptype_eq K _ i0 i3 (of_decide_eq_true (by kernel_rfl)), punit_eq K hK _ ?d (of_decide_eq_true (by kernel_rfl))]
  case d =>
    refine ⟨by simp, fun d hd => ?_⟩
    obtain rfl := List.mem_singleton.1 hd
    exact ⟨⟨fun v hv => (by cases hv), fun v hv => (by cases hv), (by rw [pr.okSl]; trivial), i0, i0⟩, ⟨(by simp), (by simp), (by simp), (by rw [pr.szSl]; omega), fun v hv => (by cases hv)⟩⟩
  have e2 : J (pr.tyT (⟨4, 0, 3, ([] : Bytes)⟩ : S29)) = [65, 82, 82, 65, 89, 32, 91, 32, 51, 32, 93, 32, 79, 70, 32, 73, 78, 84] := by kernel_rfl
  have e3 : pr.unitT [(⟨3, ([80] : Bytes), ([] : Bytes), [], false, false, [], [], [], 0, 0⟩ : S48)] = [80, 82, 79, 71, 82, 65, 77, 32, 80, 32, 59, 32, 69, 78, 68, 95, 80, 82, 79, 71, 82, 65, 77, 10] := by kernel_rfl
  rw [e2, e3]
  rfl
end Go.Proofs.YtaoklnkjcobokaaDoor

set_option linter.unusedVariables false
set_option linter.unusedSimpArgs false
set_option linter.unusedSectionVars false
namespace Go.Proofs.YtaoklnkjcobokaaDoor
open Go Go.Proofs Go.Dl
set_option maxRecDepth 100000
open pr (B J)

theorem iter_ex {A T : Type} {f : T → Option (A ⊕ T)} (μ : T → Nat) (Inv : T → Prop)
    (h : ∀ t, Inv t → (∃ t', f t = some (.inr t') ∧ Inv t' ∧ μ t' < μ t) ∨ ∃ a, f t = some (.inl a)) : ∀ (K : Nat) (t : T), Inv t → μ t < K → ∃ a, iter K f t = some a
  | 0, t, _, hk => absurd hk (by omega)
  | K + 1, t, hi, hk => by
    unfold iter
    rcases h t hi with ⟨t', h1, h2, h3⟩ | ⟨a, h1⟩
    · rw [h1]
      simp only
      exact iter_ex μ Inv h K t' h2 (by omega)
    · rw [h1]; exact ⟨a, rfl⟩
/-- Rounds over a list: each ends or goes on. -/
theorem iter_nat {A N : Type} {f : N × Int → Option (A ⊕ (N × Int))} (n : Nat) (h : ∀ (x : N) (i : Nat), i ≤ n → (∃ y, i < n ∧ f (x, (i : Int)) = some (.inr (y, ((i + 1 : Nat) : Int)))) ∨ ∃ a, f (x, (i : Int)) = some (.inl a)) {K : Nat} (hk : n < K) (x : N) : ∃ a, iter K f (x, 0) = some a := by
  refine iter_ex (fun t => n - t.2.toNat) (fun t => ∃ i : Nat, t.2 = (i : Int) ∧ i ≤ n) ?_ K (x, 0) ⟨0, rfl, by omega⟩ (by simp; omega)
  rintro ⟨x, i⟩ ⟨j, hj, hn⟩
  dsimp only at hj
  subst hj
  rcases h x j hn with ⟨y, h1, h2⟩ | ⟨a, h1⟩
  · refine .inl ⟨_, h2, ⟨j + 1, rfl, by omega⟩, ?_⟩
    simp only [Int.toNat_natCast]; omega
  · exact .inr ⟨a, h1⟩
theorem iter_nat0 {A : Type} {f : Int → Option (A ⊕ Int)} (n : Nat) (h : ∀ (i : Nat), i ≤ n → (i < n ∧ f (i : Int) = some (.inr ((i + 1 : Nat) : Int))) ∨ ∃ a, f (i : Int) = some (.inl a)) {K : Nat} (hk : n < K) : ∃ a, iter K f 0 = some a := by
  refine iter_ex (fun t => n - t.toNat) (fun t => ∃ i : Nat, t = (i : Int) ∧ i ≤ n) ?_ K 0 ⟨0, rfl, by omega⟩ (by simp; omega)
  rintro i ⟨j, hj, hn⟩
  subst hj
  rcases h j hn with ⟨h1, h2⟩ | ⟨a, h1⟩
  · refine .inl ⟨_, h2, ⟨j + 1, rfl, by omega⟩, ?_⟩
    simp only [Int.toNat_natCast]; omega
  · exact .inr ⟨a, h1⟩
theorem bindS_ex {A T U : Type} {m : Option (A ⊕ T)} {f : T → Option (A ⊕ U)} (h : ∃ x, m = some x) (hf : ∀ t, ∃ y, f t = some y) : ∃ y, bindS m f = some y := by
  obtain ⟨x, rfl⟩ := h
  cases x with
  | inl a => exact ⟨_, rfl⟩
  | inr t => exact hf t
theorem blockS_ex {A T : Type} {m : Option ((T ⊕ A) ⊕ T)} (h : ∃ x, m = some x) : ∃ y, blockS m = some y := by
  obtain ⟨x, rfl⟩ := h
  rcases x with (t | a) | t <;> exact ⟨_, rfl⟩
theorem map_ex {A C : Type} {m : Option A} {g : A → C} (h : ∃ x, m = some x) : ∃ y, m.map g = some y := by
  obtain ⟨x, rfl⟩ := h; exact ⟨_, rfl⟩
theorem fnS_ex {R : Type} {m : Option (R ⊕ R)} (h : ∃ x, m = some x) : ∃ y, fnS m = some y := by
  obtain ⟨x, rfl⟩ := h
  cases x <;> exact ⟨_, rfl⟩

theorem round_ex {A N : Type} {M : Option (A ⊕ N)} {n i : Nat} {w : Int} (hi : i < n) (hw : w = ((i + 1 : Nat) : Int)) (h : ∃ x, M = some x) : (∃ y, i < n ∧ bindS M (fun u => (some (.inr (u, w)) : Option (A ⊕ (N × Int)))) = some (.inr (y, ((i + 1 : Nat) : Int)))) ∨ ∃ a, bindS M (fun u => (some (.inr (u, w)) : Option (A ⊕ (N × Int)))) = some (.inl a) := by
  subst hw
  obtain ⟨x, rfl⟩ := h
  cases x with
  | inl a => exact .inr ⟨a, rfl⟩
  | inr y => exact .inl ⟨y, hi, rfl⟩

theorem texts_ex (K : Nat) (l : List Bytes) (a b : Int) (hK : l.length < K) (hl : l.length ≤ 2000000) : ∃ r, fnS (F14 K l a b) = some r := by
  unfold F14
  refine fnS_ex (bindS_ex (blockS_ex (map_ex (iter_nat0 l.length ?_ hK))) fun t => ⟨_, rfl⟩)
  intro i hi
  simp only [letV]
  by_cases c : i < l.length ∧ (l.length : Int) ≤ a
  · have h0 : (decide ((i : Int) < Int.ofNat l.length) && decide (Int.ofNat l.length ≤ a)) = true := by simp; omega
    have h2 := inb_nat c.1
    have h3 := pr.wrap_succ (i := i) (by omega)
    rw [if_pos h0, h2, chk_true, chk_nil, h3]
    by_cases d : decide (Int.ofNat (l.getD (i : Int).toNat default).length > b) = true
    · rw [if_pos d]; exact .inr ⟨_, rfl⟩
    · rw [if_neg d]; exact .inl ⟨c.1, rfl⟩
  · have h0 : ¬ (decide ((i : Int) < Int.ofNat l.length) && decide (Int.ofNat l.length ≤ a)) = true := by simp; omega
    rw [if_neg h0]; exact .inr ⟨_, rfl⟩

theorem vars_ex (K : Nat) (l : List S38) (a : Int) (hK : l.length < K) (hl : l.length ≤ 2000000) : ∃ r, fnS (F15 K l a) = some r := by
  unfold F15
  refine fnS_ex (bindS_ex (blockS_ex (map_ex (iter_nat0 l.length ?_ hK))) fun t => ⟨_, rfl⟩)
  intro i hi
  simp only [letV]
  by_cases c : i < l.length ∧ (l.length : Int) ≤ a
  · have h0 : (decide ((i : Int) < Int.ofNat l.length) && decide (Int.ofNat l.length ≤ a)) = true := by simp; omega
    have h2 := inb_nat c.1
    have h3 := pr.wrap_succ (i := i) (by omega)
    rw [if_pos h0, h2, h3]
    simp only [Bool.or_true, chk_true, chk_nil]
    split
    · exact .inr ⟨_, rfl⟩
    · exact .inl ⟨c.1, rfl⟩
  · have h0 : ¬ (decide ((i : Int) < Int.ofNat l.length) && decide (Int.ofNat l.length ≤ a)) = true := by simp; omega
    rw [if_neg h0]; exact .inr ⟨_, rfl⟩

theorem exprs_ex : ∀ (K : Nat) (l : List S27) (a : Int), pr.szl l + 2 ≤ K → pr.szl l ≤ 2000000 → ∃ r, fnS (F17 K l a) = some r
  | 0, l, a, hK, hs => by omega
  | K + 1, l, a, hK, hs => by
    have hll := pr.szl_len l
    rw [F17]
    refine fnS_ex (bindS_ex (blockS_ex (map_ex (iter_nat l.length ?_ (by omega) _))) fun t => ⟨_, rfl⟩)
    intro n i hi
    simp only [letV]
    by_cases c : i < l.length ∧ n ≤ a
    · have h0 : (decide ((i : Int) < Int.ofNat l.length) && decide (n ≤ a)) = true := by simp; omega
      have h2 := inb_nat c.1
      have h3 := pr.wrap_succ (i := i) (by omega)
      have hm := pr.getD_mem (l := l) c.1
      have hz := pr.szl_mem l _ hm
      have hz2 := pr.sz_eq (l.getD i default)
      obtain ⟨r, hr⟩ := exprs_ex K (l.getD i default).fArgs (IntKind.i64.wrap (a - n)) (by omega) (by omega)
      rw [if_pos h0, h2, h3, Int.toNat_natCast, hr]
      simp only [Bool.or_true, chk_true, chk_nil, Option.bind_some]
      split
      · exact .inr ⟨_, rfl⟩
      · exact .inl ⟨_, c.1, rfl⟩
    · have h0 : ¬ (decide ((i : Int) < Int.ofNat l.length) && decide (n ≤ a)) = true := by simp; omega
      rw [if_neg h0]; exact .inr ⟨_, rfl⟩

theorem stmts_ex : ∀ (K : Nat) (l : List S43) (a : Int), pr.szSl l + 4 ≤ K → pr.szSl l ≤ 2000000 → ∃ r, fnS (F16 K l a) = some r
  | 0, l, a, hK, hs => by omega
  | K + 1, l, a, hK, hs => by
    have hll := pr.szSl_len l
    rw [F16]
    refine fnS_ex (bindS_ex (blockS_ex (map_ex (iter_nat l.length ?_ (by omega) _))) fun t => ⟨_, rfl⟩)
    intro n i hi
    by_cases c : i < l.length ∧ n ≤ a
    · have h0 : (decide ((i : Int) < Int.ofNat l.length) && decide (n ≤ a)) = true := by simp; omega
      have h2 := inb_nat c.1
      have h3 := pr.wrap_succ (i := i) (by omega)
      have hm := pr.getD_mem (l := l) c.1
      have hz := pr.szSl_mem l _ hm
      have hz2 := pr.szS_eq (l.getD i default)
      obtain ⟨r, hr⟩ := exprs_ex K (l.getD i default).fExprs (IntKind.i64.wrap (a - n)) (by omega) (by omega)
      have hl1 := pr.szLab_len (l.getD i default).fLabels
      have hl2 := pr.szSll_len (l.getD i default).fBlocks
      dsimp only
      rw [show ∀ {X Y : Type} (v : X) (f : X → Y), letV v f = f v from fun _ _ => rfl, if_pos h0, h2, Int.toNat_natCast, chk_true, chk_nil]
      have hB : ∀ b ∈ (l.getD i default).fBlocks, ∀ a, ∃ r, fnS (F16 K b a) = some r := fun b hb a => stmts_ex K b a (by have := pr.szSll_mem _ b hb; omega) (by have := pr.szSll_mem _ b hb; omega)
      generalize l.getD i default = s at hr hl1 hl2 hB hz hz2 ⊢
      by_cases d : decide (Int.ofNat s.fName.length > 60) = true
      · rw [show ∀ {X Y : Type} (v : X) (f : X → Y), letV v f = f v from fun _ _ => rfl, if_pos d]; exact .inr ⟨_, rfl⟩
      rw [show ∀ {X Y : Type} (v : X) (f : X → Y), letV v f = f v from fun _ _ => rfl, if_neg d, chk_true, chk_nil]
      simp only [letV]
      rw [hr, Option.bind_some]
      refine round_ex c.1 h3 (blockS_ex (bindS_ex (blockS_ex (map_ex (iter_nat s.fLabels.length ?_ (by omega) _))) fun t => bindS_ex (blockS_ex (map_ex (iter_nat s.fBlocks.length ?_ (by omega) _))) fun t => ⟨_, rfl⟩))
      · intro n i hi
        simp only [chk_true, chk_nil]
        by_cases c : i < s.fLabels.length ∧ n ≤ a
        · have h0 : (decide ((i : Int) < Int.ofNat s.fLabels.length) && decide (n ≤ a)) = true := by simp; omega
          have h2 := inb_nat c.1
          have h3 := pr.wrap_succ (i := i) (by omega)
          rw [if_pos h0, h2]
          exact round_ex c.1 h3 ⟨_, rfl⟩
        · have h0 : ¬ (decide ((i : Int) < Int.ofNat s.fLabels.length) && decide (n ≤ a)) = true := by simp; omega
          rw [if_neg h0]; exact .inr ⟨_, rfl⟩
      · intro n i hi
        simp only [chk_true, chk_nil]
        by_cases c : i < s.fBlocks.length ∧ n ≤ a
        · have h0 : (decide ((i : Int) < Int.ofNat s.fBlocks.length) && decide (n ≤ a)) = true := by simp; omega
          have h2 := inb_nat c.1
          have h3 := pr.wrap_succ (i := i) (by omega)
          obtain ⟨r, hr⟩ := hB _ (pr.getD_mem c.1) (IntKind.i64.wrap (a - n))
          rw [if_pos h0, h2, Int.toNat_natCast, hr]
          exact round_ex c.1 h3 ⟨_, rfl⟩
        · have h0 : ¬ (decide ((i : Int) < Int.ofNat s.fBlocks.length) && decide (n ≤ a)) = true := by simp; omega
          rw [if_neg h0]; exact .inr ⟨_, rfl⟩
    · have h0 : ¬ (decide ((i : Int) < Int.ofNat l.length) && decide (n ≤ a)) = true := by simp; omega
      simp only [letV]
      rw [if_neg h0]; exact .inr ⟨_, rfl⟩

theorem greatE_ex (K : Nat) (e : S27) (a : Int) (hK : 20000000 ≤ K) (hs : pr.sz e ≤ 2000000) : ∃ r, fnS (F6 K e a) = some r := by
  unfold F6
  have h : pr.szl [e] = pr.sz e := by rw [pr.szl, pr.szl]; rfl
  obtain ⟨r, hr⟩ := exprs_ex K [e] a (by omega) (by omega)
  rw [condM_t, hr]
  exact ⟨_, rfl⟩

theorem greatU_ex (K : Nat) (u : S24) (a : Int) (hK : 20000000 ≤ K) (ho : okU u.fDecls) : ∃ r, fnS (F5 K u a) = some r := by
  obtain ⟨l⟩ := u
  dsimp only at ho
  unfold F5
  dsimp only
  have hll := ho.1
  refine fnS_ex (bindS_ex (blockS_ex (map_ex (iter_nat l.length ?_ (by omega) _))) fun t => ⟨_, rfl⟩)
  intro n i hi
  by_cases c : i < l.length ∧ (l.length : Int) ≤ 16 ∧ n ≤ a
  · have h0 : ((decide ((i : Int) < Int.ofNat l.length) && decide (Int.ofNat l.length ≤ 16)) && decide (n ≤ a)) = true := by simp; omega
    have h2 := inb_nat c.1
    have h3 := pr.wrap_succ (i := i) (by omega)
    obtain ⟨f1, f2, f3, f4, f5⟩ := (ho.2 _ (pr.getD_mem c.1)).2
    dsimp only
    rw [show ∀ {X Y : Type} (v : X) (f : X → Y), letV v f = f v from fun _ _ => rfl, if_pos h0, h2, Int.toNat_natCast, chk_true, chk_nil]
    generalize l.getD i default = d at f1 f2 f3 f4 f5 ⊢
    refine round_ex c.1 h3 (blockS_ex ?_)
    simp only [letV]
    obtain ⟨r0, hr0⟩ := texts_ex K d.fFaces 8 60 (by omega) (by omega)
    obtain ⟨r1, hr1⟩ := vars_ex K d.fVars a (by omega) (by omega)
    obtain ⟨r2, hr2⟩ := stmts_ex K d.fBody (IntKind.i64.wrap (a - n)) (by omega) (by omega)
    rw [hr0, hr1, hr2]
    have hc : ∀ b, ∃ y, condM b (some r0) default = some y := fun b => by cases b <;> exact ⟨_, rfl⟩
    obtain ⟨y, hy⟩ := hc (!(decide (Int.ofNat d.fName.length > 60) || decide (Int.ofNat d.fBase.length > 60)))
    rw [hy]
    simp only [Option.bind_some, condM_t]
    split
    · exact ⟨_, rfl⟩
    refine bindS_ex (blockS_ex (map_ex (iter_nat d.fMethods.length ?_ (by omega) _))) fun t => ⟨_, rfl⟩
    intro n i hi
    by_cases c : i < d.fMethods.length ∧ n ≤ a
    · have h0 : (decide ((i : Int) < Int.ofNat d.fMethods.length) && decide (n ≤ a)) = true := by simp; omega
      have h2 := inb_nat c.1
      have h3 := pr.wrap_succ (i := i) (by omega)
      obtain ⟨q1, q2, q3⟩ := f5 _ (pr.getD_mem c.1)
      dsimp only
      rw [if_pos h0, h2, Int.toNat_natCast, chk_true, chk_nil]
      generalize d.fMethods.getD i default = m at q1 q2 q3 ⊢
      refine round_ex c.1 h3 (blockS_ex ?_)
      obtain ⟨r1, hr1⟩ := vars_ex K m.fParams a (by omega) (by omega)
      obtain ⟨r2, hr2⟩ := vars_ex K m.fVars a (by omega) (by omega)
      obtain ⟨r3, hr3⟩ := stmts_ex K m.fBody (IntKind.i64.wrap (a - n)) (by omega) (by omega)
      rw [hr1, hr2, hr3]
      simp only [Option.bind_some]
      split <;> exact ⟨_, rfl⟩
    · have h0 : ¬ (decide ((i : Int) < Int.ofNat d.fMethods.length) && decide (n ≤ a)) = true := by simp; omega
      rw [if_neg h0]; exact .inr ⟨_, rfl⟩
  · have h0 : ¬ ((decide ((i : Int) < Int.ofNat l.length) && decide (Int.ofNat l.length ≤ 16)) && decide (n ≤ a)) = true := by simp; omega
    simp only [letV]
    rw [if_neg h0]; exact .inr ⟨_, rfl⟩

/-- The law. -/
theorem tells_law (K : Nat) (hK : 20000000 ≤ K) (u : S24) (e : S27) (t : S29) (hu : okU u.fDecls) (he : pr.okE e) (hes : pr.sz e ≤ 2000000) (ht : pr.okT t) (bu : (pr.unitT u.fDecls).length ≤ 800000000) (be : (B (pr.tkE e)).length ≤ 1000000000) (bt : (B (pr.tyT t)).length ≤ 1000000000) : fnS (F3 K u e t) = some true := by
  unfold F3
  obtain ⟨b1, h1⟩ := greatU_ex K u 200 hK hu
  obtain ⟨b2, h2⟩ := greatE_ex K e 100 hK hes
  have hc : ∃ y, condM (!b1) (fnS (F6 K e 100)) default = some y := by rw [h2]; cases b1 <;> exact ⟨_, rfl⟩
  obtain ⟨y, hy⟩ := hc
  rw [h1, Option.bind_some, hy, Option.bind_some]
  simp only [letV]
  split
  · rw [awake_eq K hK]; rfl
  · rw [punit_eq K hK u hu bu, dunit_eq K hK u hu bu, pexpr_eq K e he hK hes be, dexpr_all K e he hK hes be, ptype_eq K t ht.1 ht.2 bt, dtyp_eq K t (by omega) ht.1 ht.2 bt, awake_eq K hK]
    simp [condM_t, fnS_l]
end Go.Proofs.YtaoklnkjcobokaaDoor
