/- What is written of an expression is read as the same one, or is nested too deep. Operands and expressions as they are written are read as the same ones, or are nested too deep. No conditions. -/
import Derived.Test.YtidjangjfekfjaaGreatDoorGPa
set_option linter.unusedVariables false
set_option linter.unusedSimpArgs false
set_option linter.unusedSectionVars false
namespace Go.Proofs.YtidjangjfekfjaaGreatDoor.ex
open Go Go.Dl
set_option maxHeartbeats 8000000
set_option maxRecDepth 100000
variable {T : List S69} {e : Int} {i : Nat} {k a : Int} {K : Nat}
abbrev stopL : List Bytes := opsL ++ [[91], [46]]
abbrev allKw : List Bytes := opensL ++ (opsL ++ [[78, 79, 84], [41], [91], [93], [44], [46]])
theorem kwA : allKw.all kwb = true := by kernel_rfl
theorem kwm {w : Bytes} (h : w ∈ allKw) : Kw w := kw (List.all_eq_true.1 kwA w h)
def Hd (T : List S69) (i : Nat) : Prop := starts T i = true ∧ hasL T i [[45]] = false ∧ hasL T i [[78, 79, 84]] = false
theorem hd_kw {w : Bytes} (h : Tw T i w) (ho : w ∈ opensL) : Hd T i := by
  have hk : Kw w := kwm (List.mem_append_left _ ho)
  have o1 : ∀ w ∈ opensL, w ∈ startsL ∧ w ∉ ([[45]] : List Bytes) ∧ w ∉ ([[78, 79, 84]] : List Bytes) := by decide
  obtain ⟨o1, o2, o3⟩ := o1 w ho
  refine ⟨?_, by rw [h.hasL hk]; exact decide_eq_false o2, by rw [h.hasL hk]; exact decide_eq_false o3⟩
  unfold starts
  rw [h.hasL hk, decide_eq_true o1, Bool.or_true]
theorem hd_is {w : Bytes} {q n : Int} (h : Tw T i w) (hi : lx.Is q w n) (hq : q = 1 ∨ q = 3) : Hd T i := by
  refine ⟨?_, h.noL hi hq _, h.noL hi hq _⟩
  unfold starts
  rw [h.hasK hi, h.hasK hi]
  rcases hq with rfl | rfl <;> simp
theorem hd_of {x : S25} (hx : Sx x) (h : At T i (opT x)) : Hd T i := by
  cases hp : np x.fKind
  rotate_left
  · rw [opT_n hp] at h
    exact hd_kw h.1 (by decide)
  rw [opT_p hp] at h
  cases hx with
  | num n hn => rw [tk_num] at h; exact hd_is h.1 (dec_is hn) (.inr rfl)
  | lit k hk =>
    rw [tk_lit hk] at h
    refine hd_kw h.1 ?_
    rcases hk with rfl | rfl | rfl <;> decide
  | name w hw => rw [tk_name] at h; exact hd_is h.1 hw (.inl rfl)
  | index w a hw ha => rw [tk_index] at h; exact hd_is h.1 hw (.inl rfl)
  | sign k a hk ha => rcases hk with rfl | rfl <;> cases hp
  | bin n a b h1 h2 ha hb => cases hp
  | of k w hk hw =>
    rw [tk_of w hk] at h
    refine hd_kw h.1 ?_
    rcases hk with rfl | rfl | rfl <;> decide
  | cast w a hw ha => rw [tk_as] at h; exact hd_kw h.1 (by decide)
  | call w wh ag hw hwh hag hl => rw [tk_call] at h; exact hd_is h.1 hw (.inl rfl)
  | own n wh ag hn hwh hag hl =>
    rw [tk_own wh ag hn] at h
    refine hd_kw h.1 ?_
    rcases hn with rfl | rfl <;> decide
theorem st_of {x : S25} (hx : Sx x) (h : At T i (pr.tkE x)) : starts T i = true := by
  cases hp : np x.fKind
  · exact (hd_of hx (by rw [opT_p hp]; exact h)).1
  cases hx with
  | num n hn => cases hp
  | lit k hk => rcases hk with rfl | rfl | rfl <;> cases hp
  | name w hw => cases hp
  | index w a hw ha => cases hp
  | sign k a hk ha =>
    rw [tk_sign a hk] at h
    have h1 := h.1
    unfold starts
    rcases hk with rfl | rfl
    · rw [h1.hasL (kwm (by decide)), Bool.or_eq_true]
      exact .inr (by decide)
    · rw [h1.hasL (kwm (by decide)), Bool.or_eq_true]
      exact .inr (by decide)
  | bin n a b q1 q2 ha hb =>
    rw [tk_bin, List.append_assoc, At.app] at h
    exact (hd_of ha h.1).1
  | of k w hk hw => rcases hk with rfl | rfl | rfl <;> cases hp
  | cast w a hw ha => cases hp
  | call w wh ag hw hwh hag hl => cases hp
  | own n wh ag hn hwh hag hl => cases hp
theorem st_no (s1 : starts T i = true) : hasL T i [[41]] = false := by
  cases hq : hasL T i [[41]]
  · rfl
  · exfalso
    unfold starts at s1
    unfold hasL at hq s1
    unfold hasK at s1
    simp only [Bool.and_eq_true, decide_eq_true_eq, List.mem_singleton, Bool.or_eq_true, beq_iff_eq] at hq s1
    obtain ⟨⟨q1, q2⟩, q3⟩ := hq
    rw [q3] at s1
    rcases s1 with (⟨_, s1⟩ | ⟨_, s1⟩) | ⟨_, s1⟩
    · omega
    · omega
    · exact absurd s1 (by decide)
def RE (x : S25) : Prop := ∀ (T : List S69) (e : Int) (i : Nat) (d : Int) (K : Nat), T.length ≤ 100000 → 1 ≤ d → d ≤ 7 → At T i (pr.tkE x) → hasL T (i + (pr.tkE x).length) stopL = false → 200 + 4 * pr.sz x ≤ K →
  ((nd x : Int) + d ≤ 7 → fnS (F15 K (P T e i) d) = some (x, P T e (i + (pr.tkE x).length))) ∧ (¬ (nd x : Int) + d ≤ 7 → ∃ v j a, fnS (F15 K (P T e i) d) = some (v, PE T e j 4 a))
def RO (b : Nat) (x : S25) : Prop := ∀ (T : List S69) (e : Int) (i : Nat) (d : Int) (K : Nat), T.length ≤ 100000 → 1 ≤ d → d ≤ 6 → At T i (opT x) → hasL T (i + (opT x).length) [[91], [46]] = false → b + 4 * pr.sz x ≤ K →
  ((opN' x : Int) + d ≤ 7 → fnS (F38 (K + 1) (P T e i) d) = some (x, P T e (i + (opT x).length))) ∧ (¬ (opN' x : Int) + d ≤ 7 → ∃ v j a, fnS (F38 (K + 1) (P T e i) d) = some (v, PE T e j 4 a))
theorem within_r {x : S25} (hx : RE x) (hT : T.length ≤ 100000) (d : Int) (l r : Bytes) (hl : Kw l) (hr : Kw r) (hs : r ∉ stopL) (hat : At T i ([l] ++ pr.tkE x ++ [r])) (hd : 1 ≤ d) (hd6 : d ≤ 6) (hK : 200 + 4 * pr.sz x ≤ K) :
    ((nd x : Int) + 1 + d ≤ 7 → fnS (F70 (K + 1) (P T e i) d l r) = some (x, P T e (i + (pr.tkE x).length + 2))) ∧ (¬ (nd x : Int) + 1 + d ≤ 7 → ∃ v j a, fnS (F70 (K + 1) (P T e i) d l r) = some (v, PE T e j 4 a)) := by
  rw [At.app, At.app, At.one, At.one] at hat
  obtain ⟨⟨h1, h2⟩, h3⟩ := hat
  simp only [List.length_append, List.length_cons, List.length_nil] at h2 h3
  have g1 : hasL T i [l] = true := by rw [h1.hasL hl]; simp
  rw [s73 hT (by omega) d l r g1, wrap64 (by omega) (by omega)]
  have h3' : Tw T (i + 1 + (pr.tkE x).length) r := by rw [show i + 1 + (pr.tkE x).length = i + (0 + 1 + (pr.tkE x).length) by omega]; exact h3
  obtain ⟨r1, r2⟩ := hx T e (i + 1) (d + 1) K hT (by omega) (by omega) h2 (by rw [h3'.hasL hr]; exact decide_eq_false hs) hK
  refine ⟨fun h => ?_, fun h => ?_⟩
  · rw [r1 (by omega), Option.bind_some]
    dsimp only
    rw [p93T hT (by omega) (by rw [h3'.hasL hr]; simp), Option.map_some, show i + 1 + (pr.tkE x).length + 1 = i + (pr.tkE x).length + 2 by omega]
  · obtain ⟨v, j, a, hv⟩ := r2 (by omega)
    rw [hv, Option.bind_some]
    dsimp only
    rw [p93e (by omega), Option.map_some]
    exact ⟨_, _, _, rfl⟩
theorem args_r (hT : T.length ≤ 100000) (d : Int) (hd : 1 ≤ d) (hd6 : d ≤ 6) (hK : 150 < K) : ∀ (r : List S25) (x : S25) (l : List S25) (i q : Nat), (∀ y ∈ x :: r, RE y ∧ 200 + 4 * pr.sz y ≤ K) → l.length + r.length + 1 ≤ 3 → r.length + 2 ≤ q → At T i (argT (x :: r) ++ [[41]]) →
    ((∀ y ∈ x :: r, (nd y : Int) + 1 + d ≤ 7) → iter q (body75 K d) (P T e i, l, true) = some (.inl (P T e (i + (argT (x :: r)).length), l ++ x :: r))) ∧
    (¬ (∀ y ∈ x :: r, (nd y : Int) + 1 + d ≤ 7) → ∃ l' j a, iter q (body75 K d) (P T e i, l, true) = some (.inl (PE T e j 4 a, l')))
  | r, x, l, i, q, hR, hl, hq, hat => by
    obtain ⟨q', rfl⟩ : ∃ z, q = z + 2 := ⟨q - 2, by omega⟩
    have hx := hR x (List.mem_cons_self ..)
    have hat' : At T i (pr.tkE x) ∧ At T (i + (pr.tkE x).length) ((r.flatMap fun y => [44] :: pr.tkE y) ++ [[41]]) := by
      unfold argT at hat
      rw [List.append_assoc, At.app] at hat
      exact hat
    obtain ⟨h1, h2⟩ := hat'
    have hfoll : ∃ w, Tw T (i + (pr.tkE x).length) w ∧ (w = [44] ∨ w = [41]) := by
      cases r with
      | nil => exact ⟨_, h2.1, .inr rfl⟩
      | cons y r => rw [List.flatMap_cons] at h2; exact ⟨_, h2.1, .inl rfl⟩
    have hstop : hasL T (i + (pr.tkE x).length) stopL = false := by
      obtain ⟨w, hw, hw'⟩ := hfoll
      rcases hw' with rfl | rfl
      · rw [hw.hasL (kwm (by decide))]; decide
      · rw [hw.hasL (kwm (by decide))]; decide
    obtain ⟨r1, r2⟩ := hx.1 T e i (d + 1) K hT (by omega) (by omega) h1 hstop hx.2
    have hnf : ¬ ((3 ≤ l.length ∧ d < 6) ∧ starts T i = true) := fun g => by omega
    by_cases hok : (nd x : Int) + 1 + d ≤ 7
    · have f1 := r1 (by omega)
      cases r with
      | nil =>
        have hc : hasL T (i + (pr.tkE x).length) [[44]] = false := by
          have : Tw T (i + (pr.tkE x).length) [41] := h2.1
          rw [this.hasL (kwm (by decide))]; decide
        have e1 := body75_ok (T := T) (e := e) (i := i) (K := K) (by omega) hnf ⟨hd, by omega⟩ (by omega) f1 (p39F hT (by omega) hc)
        refine ⟨fun _ => ?_, fun h => absurd (fun y hy => ?_) h⟩
        · unfold iter; rw [e1]; dsimp only; unfold iter; rw [body75_f]
          simp [argT]
        · rw [List.mem_singleton.1 hy]; exact hok
      | cons y r =>
        rw [List.flatMap_cons] at h2
        have h2' : Tw T (i + (pr.tkE x).length) [44] ∧ At T (i + (pr.tkE x).length + 1) (argT (y :: r) ++ [[41]]) := by
          unfold argT
          exact h2
        obtain ⟨c1, c2⟩ := h2'
        have hc : hasL T (i + (pr.tkE x).length) [[44]] = true := by rw [c1.hasL (kwm (by decide))]; decide
        have e1 := body75_ok (T := T) (e := e) (i := i) (K := K) (by omega) hnf ⟨hd, by omega⟩ (by omega) f1 (p39T hT (by omega) hc)
        obtain ⟨z1, z2⟩ := args_r hT d hd hd6 hK r y (l ++ [x]) (i + (pr.tkE x).length + 1) (q' + 1) (fun y' hy => hR y' (List.mem_cons_of_mem _ hy)) (by simp at hl ⊢; omega) (by simp at hq ⊢; omega) c2
        have hlen : (argT (x :: y :: r)).length = (pr.tkE x).length + 1 + (argT (y :: r)).length := by simp [argT]; omega
        refine ⟨fun h => ?_, fun h => ?_⟩
        · have := z1 fun y' hy => h y' (List.mem_cons_of_mem _ hy)
          unfold iter; rw [e1]
          dsimp only
          rw [this, hlen]
          simp [Nat.add_assoc]
        · obtain ⟨l', j, a, hz⟩ := z2 fun g => h fun y' hy => by
            rcases List.mem_cons.1 hy with rfl | hy
            · exact hok
            · exact g y' hy
          refine ⟨l', j, a, ?_⟩
          conv => lhs; unfold iter
          rw [e1]; exact hz
    · obtain ⟨v, j, a, hv⟩ := r2 (by omega)
      have e1 := body75_ok (T := T) (e := e) (i := i) (K := K) (by omega) hnf ⟨hd, by omega⟩ (by omega) hv p39e
      refine ⟨fun h => absurd (h x (List.mem_cons_self ..)) hok, fun _ => ⟨l ++ [v], j, a, ?_⟩⟩
      unfold iter; rw [e1]; dsimp only; unfold iter; rw [body75_f]
  termination_by r => r.length
theorem called_r (hT : T.length ≤ 100000) (d : Int) (hd : 1 ≤ d) (hd6 : d ≤ 6) (hK : 150 < K) (e0 : S25) (hk : e0.fKind = 13) (wh : Bytes) (ag : List S25) (hwh : Wd wh) (hR : ∀ y ∈ ag, RE y ∧ 200 + 4 * pr.sz y ≤ K) (hl : ag.length ≤ 3) (hag : ∀ y ∈ ag, Sx y)
    (hat : At T i ([[46], wh, [40]] ++ argT ag ++ [[41]])) :
    ((∀ y ∈ ag, (nd y : Int) + 1 + d ≤ 7) → fnS (F72 (K + 1) (P T e i) e0 d) = some (⟨13, e0.fN, e0.fName, wh, ag⟩, P T e (i + (argT ag).length + 4))) ∧
    (¬ (∀ y ∈ ag, (nd y : Int) + 1 + d ≤ 7) → ∃ v j a, fnS (F72 (K + 1) (P T e i) e0 d) = some (v, PE T e j 4 a)) := by
  rw [List.append_assoc, List.cons_append, List.cons_append, List.cons_append, List.nil_append] at hat
  obtain ⟨h1, h2, h3, h4⟩ := hat
  have g1 : hasL T i [[46]] = true := by rw [h1.hasL (kwm (by decide))]; decide
  have g2 : hasK T (i + 1) 1 = true := by rw [h2.hasK hwh]; rfl
  have g3 : hasL T (i + 1 + 1) [[40]] = true := by rw [h3.hasL (kwm (by decide))]; decide
  rw [s75 hT (by omega) e0 d hk g1 g2 g3, h2.text]
  unfold tail75
  cases ag with
  | nil =>
    have g4 : hasL T (i + 1 + 1 + 1) [[41]] = true := by
      have : Tw T (i + 1 + 1 + 1) [41] := h4.1
      rw [this.hasL (kwm (by decide))]; decide
    rw [p39T hT (by omega) g4, Option.bind_some]
    simp only [if_true]
    exact ⟨fun _ => by simp [argT, fnS], fun h => absurd (fun y hy => by cases hy) h⟩
  | cons x r =>
    have hat2 : At T (i + 1 + 1 + 1) (pr.tkE x) ∧ At T (i + 1 + 1 + 1 + (pr.tkE x).length) ((r.flatMap fun y => [44] :: pr.tkE y) ++ [[41]]) := by
      unfold argT at h4
      rw [List.append_assoc, At.app] at h4
      exact h4
    have g4 : hasL T (i + 1 + 1 + 1) [[41]] = false := st_no (st_of (hag x (List.mem_cons_self ..)) hat2.1)
    rw [p39F hT (by omega) g4, Option.bind_some]
    simp only [Bool.false_eq_true, if_false]
    obtain ⟨z1, z2⟩ := args_r (T := T) (e := e) hT d hd hd6 hK r x [] (i + 1 + 1 + 1) K hR (by simp at hl ⊢; omega) (by simp at hl; omega) h4
    refine ⟨fun h => ?_, fun h => ?_⟩
    · rw [z1 h]
      simp only [Option.map_some, blockS_ll, bindS_r, List.nil_append]
      have h5 : Tw T (i + 1 + 1 + 1 + (argT (x :: r)).length) [41] := by
        rw [At.app] at h4
        exact h4.2.1
      rw [p93T hT (by omega) (by rw [h5.hasL (kwm (by decide))]; decide)]
      simp only [Option.bind_some, fnS_l]
      rw [show i + 1 + 1 + 1 + (argT (x :: r)).length + 1 = i + (argT (x :: r)).length + 4 by omega]
    · obtain ⟨l', j, a, hz⟩ := z2 h
      rw [hz]
      simp only [Option.map_some, blockS_ll, bindS_r]
      rw [p93e (by omega)]
      exact ⟨_, _, _, rfl⟩
end Go.Proofs.YtidjangjfekfjaaGreatDoor.ex

set_option linter.unusedVariables false
set_option linter.unusedSimpArgs false
set_option linter.unusedSectionVars false
namespace Go.Proofs.YtidjangjfekfjaaGreatDoor.ex
open Go Go.Dl
set_option maxHeartbeats 8000000
set_option maxRecDepth 100000
variable {T : List S69} {e : Int} {i : Nat} {k a : Int} {K : Nat}
theorem sz_arg {k n : Int} {w s : Bytes} {l : List S25} {x : S25} (h : x ∈ l) : pr.sz x + 1 ≤ pr.sz ⟨k, n, w, s, l⟩ := by
  rw [pr.sz_eq ⟨k, n, w, s, l⟩]
  have := pr.szl_mem l x h
  show pr.sz x + 1 ≤ 1 + w.length + s.length + pr.szl l
  omega
theorem o40_kw {w : Bytes} {d : Int} (h : Tw T i w) (hk : Kw w) :
    o40 K T e i d = if w = [84, 82, 85, 69] then some (⟨2, 0, [], [], []⟩, P T e (i + 1))
      else if w = [70, 65, 76, 83, 69] then some (⟨3, 0, [], [], []⟩, P T e (i + 1))
      else if w = [78, 85, 76, 76] then some (⟨4, 0, [], [], []⟩, P T e (i + 1))
      else if w = [82, 69, 70] then (fnS (F68 K (P T e (i + 1)))).map fun r => (⟨10, 0, r.1, [], []⟩, r.2)
      else if w = [68, 79, 78, 69] then (fnS (F68 K (P T e (i + 1)))).map fun r => (⟨11, 0, r.1, [], []⟩, r.2)
      else if w = [67, 79, 85, 78, 84] then (fnS (F68 K (P T e (i + 1)))).map fun r => (⟨12, 0, r.1, [], []⟩, r.2)
      else if w = [65, 83] then
        if hasK T (i + 1) 1 = true then (fnS (F70 K (P T e (i + 1 + 1)) d [40] [41])).map fun q => (⟨14, 0, (tok T e (i + 1)).fText, [], [q.1]⟩, q.2)
        else (fnS (F70 K (PE T e (i + 1) 3 (tok T e (i + 1)).fAt) d [40] [41])).map fun q => (⟨14, 0, [], [], [q.1]⟩, q.2)
      else if w = [40] then fnS (F70 K (P T e i) d [40] [41])
      else if w = [84, 72, 73, 83] ∨ w = [83, 85, 80, 69, 82] then fnS (F71 K (P T e i) d)
      else some (⟨5, 0, (tok T e i).fText, [], []⟩, PE T e i 3 (tok T e i).fAt) := by
  unfold o40
  rw [h.kwK hk (.inr rfl), if_neg (by simp)]
  have hL : ∀ l : List Bytes, (hasL T i l = true) = (w ∈ l) := fun l => by rw [h.hasL hk]; simp
  simp only [hL, List.mem_singleton, List.mem_cons, List.not_mem_nil, or_false]
  rw [h.kwK hk (.inl rfl)]
  simp only [Bool.false_eq_true, if_false]
theorem o40_wd {w : Bytes} {d : Int} (h : Tw T i w) (hw : Wd w) :
    o40 K T e i d = if hasL T (i + 1) [[91]] = true then (fnS (F70 K (P T e (i + 1)) d [91] [93])).map fun q => (⟨6, 0, w, [], [q.1]⟩, q.2)
      else if hasL T (i + 1) [[46]] = true then fnS (F72 K (P T e (i + 1)) ⟨13, 0, w, [], []⟩ d)
      else some (⟨5, 0, w, [], []⟩, P T e (i + 1)) := by
  unfold o40
  have hL : ∀ l : List Bytes, hasL T i l = false := fun l => h.noL hw (.inl rfl) l
  rw [h.hasK hw, h.hasK hw]
  simp only [hL, h.text]
  rfl
theorem prim_r {x : S25} (hx : Sx x) (hp : np x.fKind = false) (IH : ∀ y, pr.sz y < pr.sz x → Sx y → RE y) : RO 198 x := by
  intro T e i d K hT hd hd6 hat hf hK
  rw [opT_p hp] at hat hf
  rw [opT_p hp, opN_p hp, s40 hT (by omega)]
  have hend : i + (pr.tkE x).length ≤ i + (pr.tkE x).length := Nat.le_refl _
  cases hx with
  | num n hn =>
    rw [tk_num] at hat hf ⊢
    have h := hat.1
    rw [nd_one rfl]
    refine ⟨fun _ => ?_, fun g => absurd (by omega) g⟩
    unfold o40
    rw [h.hasK (dec_is hn), if_pos (show ((3 : Int) == 3) = true from rfl), h.num (dec_is hn)]
    rfl
  | lit k hk =>
    rw [tk_lit hk] at hat hf ⊢
    have h := hat.1
    refine ⟨fun _ => ?_, fun g => absurd ?_ g⟩
    · rcases hk with rfl | rfl | rfl
      · rw [o40_kw h (kwm (by decide))]; rfl
      · rw [o40_kw h (kwm (by decide))]; rfl
      · rw [o40_kw h (kwm (by decide))]; rfl
    · rw [nd_one (by rcases hk with rfl | rfl | rfl <;> rfl)]; omega
  | name w hw =>
    rw [tk_name] at hat hf ⊢
    rw [nd_one rfl]
    refine ⟨fun _ => ?_, fun g => absurd (by omega) g⟩
    rw [o40_wd hat.1 hw]
    have f1 : hasL T (i + 1) [[91]] = false := hasL_sub hf (by simp)
    have f2 : hasL T (i + 1) [[46]] = false := hasL_sub hf (by simp)
    rw [f1, f2]; rfl
  | sign k a hk ha => rcases hk with rfl | rfl <;> cases hp
  | bin n a b h1 h2 ha hb => cases hp
  | of k w hk hw =>
    rw [tk_of w hk] at hat hf ⊢
    obtain ⟨h1, h2, h3, h4, _⟩ := hat
    have hb : fnS (F68 K (P T e (i + 1))) = some (w, P T e (i + 4)) := by
      rw [s71 hT (by omega), h2.hasL (kwm (by decide)), h3.hasK hw, h4.hasL (kwm (by decide)), h3.text]
      rfl
    refine ⟨fun _ => ?_, fun g => absurd ?_ g⟩
    · rcases hk with rfl | rfl | rfl
      · rw [o40_kw h1 (kwm (by decide)), hb]; rfl
      · rw [o40_kw h1 (kwm (by decide)), hb]; rfl
      · rw [o40_kw h1 (kwm (by decide)), hb]; rfl
    · rw [nd_one (by rcases hk with rfl | rfl | rfl <;> rfl)]; omega
  | cast w a hw ha =>
    have hsz : pr.sz a + 1 ≤ pr.sz ⟨14, 0, w, [], [a]⟩ := sz_arg (List.mem_singleton.2 rfl)
    obtain ⟨q, rfl⟩ : ∃ z, K = z + 1 := ⟨K - 1, by omega⟩
    rw [tk_as] at hat hf ⊢
    rw [List.append_assoc] at hat
    obtain ⟨h1, h2, h3⟩ := hat
    obtain ⟨z1, z2⟩ := within_r (e := e) (IH a (by omega) ha) hT d [40] [41] (kwm (by decide)) (kwm (by decide)) (by decide) (i := i + 1 + 1) (by rw [List.append_assoc]; exact h3) hd hd6 (K := q) (by omega)
    rw [nd_arg rfl, o40_kw h1 (kwm (by decide)), if_neg (by decide), if_neg (by decide), if_neg (by decide), if_neg (by decide), if_neg (by decide), if_neg (by decide), if_pos rfl, h2.hasK hw, if_pos (show ((1 : Int) == 1) = true from rfl), h2.text]
    refine ⟨fun g => ?_, fun g => ?_⟩
    · rw [z1 (by omega), Option.map_some]
      simp only [List.length_append, List.length_cons, List.length_nil]
      rw [show i + 1 + 1 + (pr.tkE a).length + 2 = i + (0 + 1 + 1 + 1 + (pr.tkE a).length + (0 + 1)) by omega]
    · obtain ⟨v, j, b, hv⟩ := z2 (by omega)
      rw [hv]; exact ⟨_, _, _, rfl⟩
  | index w a hw ha =>
    have hsz : pr.sz a + 1 ≤ pr.sz ⟨6, 0, w, [], [a]⟩ := sz_arg (List.mem_singleton.2 rfl)
    obtain ⟨q, rfl⟩ : ∃ z, K = z + 1 := ⟨K - 1, by omega⟩
    rw [tk_index] at hat hf ⊢
    rw [List.append_assoc] at hat
    obtain ⟨h1, h2⟩ := hat
    obtain ⟨z1, z2⟩ := within_r (e := e) (IH a (by omega) ha) hT d [91] [93] (kwm (by decide)) (kwm (by decide)) (by decide) (i := i + 1) (by rw [List.append_assoc]; exact h2) hd hd6 (K := q) (by omega)
    have h3 : Tw T (i + 1) [91] := h2.1
    rw [nd_arg rfl, o40_wd h1 hw, h3.hasL (kwm (by decide)), if_pos (by decide)]
    refine ⟨fun g => ?_, fun g => ?_⟩
    · rw [z1 (by omega), Option.map_some]
      simp only [List.length_append, List.length_cons, List.length_nil]
      rw [show i + 1 + (pr.tkE a).length + 2 = i + (0 + 1 + 1 + (pr.tkE a).length + (0 + 1)) by omega]
    · obtain ⟨v, j, b, hv⟩ := z2 (by omega)
      rw [hv]; exact ⟨_, _, _, rfl⟩
  | call w wh ag hw hwh hag hl =>
    have hsz : ∀ y ∈ ag, pr.sz y + 1 ≤ pr.sz ⟨13, 0, w, wh, ag⟩ := fun y hy => sz_arg hy
    obtain ⟨q, rfl⟩ : ∃ z, K = z + 1 := ⟨K - 1, by omega⟩
    rw [tk_call] at hat hf ⊢
    rw [List.append_assoc] at hat
    obtain ⟨h1, h2⟩ := hat
    have h3 : Tw T (i + 1) [46] := h2.1
    obtain ⟨z1, z2⟩ := called_r (T := T) (e := e) (i := i + 1) hT d hd hd6 (K := q) (by omega) ⟨13, 0, w, [], []⟩ rfl wh ag hwh (fun y hy => ⟨IH y (by have := hsz y hy; omega) (hag y hy), by have := hsz y hy; omega⟩) hl hag (by rw [List.append_assoc]; exact h2)
    rw [o40_wd h1 hw, h3.hasL (kwm (by decide)), h3.hasL (kwm (by decide)), if_neg (by decide), if_pos (by decide)]
    have hiff : (nd ⟨13, 0, w, wh, ag⟩ : Int) + d ≤ 7 ↔ ∀ y ∈ ag, (nd y : Int) + 1 + d ≤ 7 := by
      have := nd_call (n := 0) (w := w) (s := wh) (ag := ag) (m := (7 - d).toNat)
      constructor
      · intro g y hy
        have := (this.1 (by omega)).2 y hy
        omega
      · intro g
        have := this.2 ⟨by omega, fun y hy => by have := g y hy; omega⟩
        omega
    refine ⟨fun g => ?_, fun g => ?_⟩
    · rw [z1 (hiff.1 g)]
      simp only [List.length_append, List.length_cons, List.length_nil]
      rw [show i + 1 + (argT ag).length + 4 = i + (0 + 1 + 1 + 1 + 1 + (argT ag).length + (0 + 1)) by omega]
    · exact z2 fun g' => g (hiff.2 g')
  | own n wh ag hn hwh hag hl =>
    have hsz : ∀ y ∈ ag, pr.sz y + 1 ≤ pr.sz ⟨13, n, [], wh, ag⟩ := fun y hy => sz_arg hy
    obtain ⟨q, rfl⟩ : ∃ z, K = z + 2 := ⟨K - 2, by omega⟩
    rw [tk_own wh ag hn] at hat hf ⊢
    rw [List.append_assoc] at hat
    obtain ⟨h1, h2⟩ := hat
    obtain ⟨z1, z2⟩ := called_r (T := T) (e := e) (i := i + 1) hT d hd hd6 (K := q) (by omega) ⟨13, n, [], [], []⟩ rfl wh ag hwh (fun y hy => ⟨IH y (by have := hsz y hy; omega) (hag y hy), by have := hsz y hy; omega⟩) hl hag (by rw [List.append_assoc]; exact h2)
    have ho : o40 (q + 2) T e i d = fnS (F72 (q + 1) (P T e (i + 1)) ⟨13, n, [], [], []⟩ d) := by
      rcases hn with rfl | rfl
      · have h1' : Tw T i [84, 72, 73, 83] := h1
        rw [o40_kw h1' (kwm (by decide)), if_neg (by decide), if_neg (by decide), if_neg (by decide), if_neg (by decide), if_neg (by decide), if_neg (by decide), if_neg (by decide), if_neg (by decide), if_pos (by decide)]
        rw [s74 hT (by omega) d (by rw [h1'.hasL (kwm (by decide))]; decide), h1'.hasL (kwm (by decide))]; rfl
      · have h1' : Tw T i [83, 85, 80, 69, 82] := h1
        rw [o40_kw h1' (kwm (by decide)), if_neg (by decide), if_neg (by decide), if_neg (by decide), if_neg (by decide), if_neg (by decide), if_neg (by decide), if_neg (by decide), if_neg (by decide), if_pos (by decide)]
        rw [s74 hT (by omega) d (by rw [h1'.hasL (kwm (by decide))]; decide), h1'.hasL (kwm (by decide))]; rfl
    rw [ho]
    have hiff : (nd ⟨13, n, [], wh, ag⟩ : Int) + d ≤ 7 ↔ ∀ y ∈ ag, (nd y : Int) + 1 + d ≤ 7 := by
      have := nd_call (n := n) (w := []) (s := wh) (ag := ag) (m := (7 - d).toNat)
      constructor
      · intro g y hy
        have := (this.1 (by omega)).2 y hy
        omega
      · intro g
        have := this.2 ⟨by omega, fun y hy => by have := g y hy; omega⟩
        omega
    refine ⟨fun g => ?_, fun g => ?_⟩
    · rw [z1 (hiff.1 g)]
      simp only [List.length_append, List.length_cons, List.length_nil]
      rw [show i + 1 + (argT ag).length + 4 = i + (0 + 1 + 1 + 1 + 1 + (argT ag).length + (0 + 1)) by omega]
    · exact z2 fun g' => g (hiff.2 g')
theorem opd_r {x : S25} (hx : Sx x) (hE : RE x) (IH : ∀ y, pr.sz y < pr.sz x → Sx y → RE y) : RO 202 x := by
  cases hp : np x.fKind
  · intro T e i d K hT hd hd6 hat hf hK
    exact prim_r hx hp IH T e i d K hT hd hd6 hat hf (by omega)
  · intro T e i d K hT hd hd6 hat hf hK
    rw [opT_n hp] at hat hf ⊢
    obtain ⟨q, rfl⟩ : ∃ z, K = z + 1 := ⟨K - 1, by omega⟩
    have h1 : Tw T i [40] := hat.1
    obtain ⟨z1, z2⟩ := within_r (e := e) hE hT d [40] [41] (kwm (by decide)) (kwm (by decide)) (by decide) hat hd hd6 (K := q) (by omega)
    rw [opN_n hp, s40 hT (by omega), o40_kw h1 (kwm (by decide)), if_neg (by decide), if_neg (by decide), if_neg (by decide), if_neg (by decide), if_neg (by decide), if_neg (by decide), if_neg (by decide), if_pos rfl]
    refine ⟨fun g => ?_, fun g => z2 (by omega)⟩
    rw [z1 (by omega)]
    simp only [List.length_append, List.length_cons, List.length_nil]
    rw [show i + (pr.tkE x).length + 2 = i + (0 + 1 + (pr.tkE x).length + (0 + 1)) by omega]
theorem ops_fin : ∀ n : Fin 14, first (fun x => decide (opsL.getD n.val [] ∈ [x])) opsL = n.val + 1 ∧ opsL.getD n.val [] ∈ opsL ∧ opsL.getD n.val [] ∉ ([[91], [46]] : List Bytes) := by decide +kernel
theorem named_ops {n : Nat} (h1 : 1 ≤ n) (h2 : n ≤ 14) : pr.named n pr.ops = opsL.getD (n - 1) [] := by
  unfold pr.named
  have hl : pr.ops.length = 14 := rfl
  rw [if_neg (by rw [hl]; omega), show ((n : Int) - 1).toNat = n - 1 by omega]
  rfl
theorem expr_r {x : S25} (hx : Sx x) (IH : ∀ y, pr.sz y < pr.sz x → Sx y → RE y) : RE x := by
  intro T e i d K hT hd hd7 hat hf hK
  obtain ⟨q, rfl⟩ : ∃ z, K = z + 2 := ⟨K - 2, by omega⟩
  have hst := st_of hx hat
  have hnd := nd_pos x
  rw [s19 hT (by omega)]
  unfold o19
  by_cases hdeep : 6 < d
  · rw [if_pos ⟨hdeep, hst⟩]
    exact ⟨fun g => absurd g (by omega), fun _ => ⟨_, _, _, rfl⟩⟩
  rw [if_neg (fun g => hdeep g.1)]
  have hd6 : d ≤ 6 := by omega
  have sgn : ∀ (z : Int) (a : S25), z = 7 ∨ z = 8 → Sx a → pr.sz a + 1 ≤ pr.sz ⟨z, 0, [], [], [a]⟩ → pr.sz ⟨z, 0, [], [], [a]⟩ ≤ pr.sz x → At T (i + 1) (opT a) → hasL T (i + 1 + (opT a).length) stopL = false →
      ((opN' a : Int) + d ≤ 7 → ((fnS (F38 (q + 1) (P T e (i + 1)) d)).map fun r => ((⟨z, 0, [], [], [r.1]⟩ : S25), r.2)) = some (⟨z, 0, [], [], [a]⟩, P T e (i + 1 + (opT a).length))) ∧
      (¬ (opN' a : Int) + d ≤ 7 → ∃ v j b, ((fnS (F38 (q + 1) (P T e (i + 1)) d)).map fun r => ((⟨z, 0, [], [], [r.1]⟩ : S25), r.2)) = some (v, PE T e j 4 b)) := by
    intro z a hz ha hsz hsz2 h1 h2
    obtain ⟨z1, z2⟩ := opd_r ha (IH a (by omega) ha) (fun y hy => IH y (by omega)) T e (i + 1) d q hT hd hd6 h1 (hasL_sub h2 (by simp)) (by omega)
    refine ⟨fun g => by rw [z1 g]; rfl, fun g => ?_⟩
    obtain ⟨v, j, b, hv⟩ := z2 g
    rw [hv]; exact ⟨_, _, _, rfl⟩
  cases hp : np x.fKind
  · obtain ⟨s1, s2, s3⟩ := hd_of hx (by rw [opT_p hp]; exact hat)
    rw [s2, s3, if_neg (by simp), if_neg (by simp)]
    obtain ⟨z1, z2⟩ := prim_r hx hp IH T e i d q hT hd hd6 (by rw [opT_p hp]; exact hat) (by rw [opT_p hp]; exact hasL_sub hf (by simp)) (by omega)
    rw [opT_p hp, opN_p hp] at z1
    rw [opN_p hp] at z2
    refine ⟨fun g => ?_, fun g => ?_⟩
    · rw [z1 g, Option.bind_some, u19_eq hT (by omega)]
      unfold t19
      rw [hasL_sub (l := opsL) hf (fun y hy => List.mem_append_left _ hy)]
      rfl
    · obtain ⟨v, j, b, hv⟩ := z2 g
      rw [hv, Option.bind_some, u19_e (by omega)]
      exact ⟨_, _, _, rfl⟩
  cases hx with
  | num n hn => cases hp
  | lit k hk => rcases hk with rfl | rfl | rfl <;> cases hp
  | name w hw => cases hp
  | index w a hw ha => cases hp
  | sign k a hk ha =>
    have hsz : pr.sz a + 1 ≤ pr.sz ⟨k, 0, [], [], [a]⟩ := sz_arg (List.mem_singleton.2 rfl)
    rw [tk_sign a hk] at hat hf ⊢
    obtain ⟨h1, h2⟩ := hat
    have hlen : i + ([if k = 7 then [45] else [78, 79, 84]] ++ opT a : List Bytes).length = i + 1 + (opT a).length := by simp; omega
    rw [hlen] at hf ⊢
    rw [nd_sign (by rcases hk with rfl | rfl <;> rfl)]
    rcases hk with rfl | rfl
    · have h1' : Tw T i [45] := h1
      rw [h1'.hasL (kwm (by decide)), if_pos (by decide)]
      exact sgn 7 a (.inl rfl) ha hsz (Nat.le_refl _) h2 hf
    · have h1' : Tw T i [78, 79, 84] := h1
      rw [h1'.hasL (kwm (by decide)), if_neg (by decide), h1'.hasL (kwm (by decide)), if_pos (by decide)]
      exact sgn 8 a (.inr rfl) ha hsz (Nat.le_refl _) h2 hf
  | bin n a b q1 q2 ha hb =>
    have hsa : pr.sz a + 1 ≤ pr.sz ⟨9, n, [], [], [a, b]⟩ := sz_arg (by simp)
    have hsb : pr.sz b + 1 ≤ pr.sz ⟨9, n, [], [], [a, b]⟩ := sz_arg (by simp)
    rw [tk_bin, named_ops q1 q2] at hat hf ⊢
    rw [List.append_assoc, At.app, List.cons_append, List.nil_append] at hat
    obtain ⟨h1, h2, h3⟩ := hat
    obtain ⟨o1, o2, o3⟩ := ops_fin ⟨n - 1, by omega⟩
    dsimp only at o1 o2 o3
    obtain ⟨w, hw⟩ : ∃ w, w = opsL.getD (n - 1) [] := ⟨_, rfl⟩
    rw [← hw] at o1 o2 o3 h2 hf ⊢
    have hkw : Kw w := kwm (List.mem_append_right _ (List.mem_append_left _ o2))
    obtain ⟨s1, s2, s3⟩ := hd_of ha h1
    rw [s2, s3, if_neg (by simp), if_neg (by simp)]
    obtain ⟨z1, z2⟩ := opd_r ha (IH a (by omega) ha) (fun y hy => IH y (by omega)) T e i d q hT hd hd6 h1 (by rw [h2.hasL hkw]; exact decide_eq_false o3) (by omega)
    have hlen : i + (opT a ++ [w] ++ opT b : List Bytes).length = i + (opT a).length + 1 + (opT b).length := by simp; omega
    rw [hlen] at hf ⊢
    obtain ⟨y1, y2⟩ := opd_r hb (IH b (by omega) hb) (fun y hy => IH y (by omega)) T e (i + (opT a).length + 1) d q hT hd hd6 h3 (hasL_sub hf (by simp)) (by omega)
    rw [nd_bin]
    by_cases ga : (opN' a : Int) + d ≤ 7
    · have hop : opN T (i + (opT a).length) = n := by
        unfold opN
        have : (fun x => hasL T (i + (opT a).length) [x]) = fun x => decide (w ∈ [x]) := funext fun x => h2.hasL hkw [x]
        rw [this, o1]; omega
      rw [z1 ga, Option.bind_some, u19_eq hT (by omega)]
      unfold t19
      rw [h2.hasL hkw, if_pos (decide_eq_true o2), hop]
      refine ⟨fun g => ?_, fun g => ?_⟩
      · rw [y1 (by omega)]; rfl
      · obtain ⟨v, j, c, hv⟩ := y2 (by omega)
        rw [hv]; exact ⟨_, _, _, rfl⟩
    · obtain ⟨v, j, c, hv⟩ := z2 ga
      rw [hv, Option.bind_some, u19_e (by omega)]
      exact ⟨fun g => absurd g (by omega), fun _ => ⟨_, _, _, rfl⟩⟩
  | of k w hk hw => rcases hk with rfl | rfl | rfl <;> cases hp
  | cast w a hw ha => cases hp
  | call w wh ag hw hwh hag hl => cases hp
  | own n wh ag hn hwh hag hl => cases hp
theorem all_r : ∀ (n : Nat) (x : S25), pr.sz x ≤ n → Sx x → RE x
  | 0, x, h, _ => by
    have := pr.sz_eq x
    omega
  | n + 1, x, h, hx => expr_r hx fun y hy hs => all_r n y (by omega) hs
end Go.Proofs.YtidjangjfekfjaaGreatDoor.ex
