/- What is written of an expression is tokens again, the same ones. The law of PrintExprs. No conditions. -/
import Derived.Test.YtidjangjfekfjaaGreatDoorGPc
import Derived.Test.YtidjangjfekfjaaGreatDoorLP
import Derived.Test.YtidjangjfekfjaaGreatDoorPP
import Derived.Test.YtidjangjfekfjaaGreatDoorGPb
import Derived.Test.YtidjangjfekfjaaGreatDoorLW
import Derived.Test.YtidjangjfekfjaaGreatDoorSa
set_option linter.unusedVariables false
set_option linter.unusedSimpArgs false
set_option linter.unusedSectionVars false
namespace Go.Proofs.YtidjangjfekfjaaGreatDoor.ex
open Go Go.Dl
set_option maxRecDepth 100000
open pr (B J)
theorem keys13 : lx.keysL.all (fun x => decide (x.length ≤ 13)) = true := by kernel_rfl
theorem is_len {k n : Int} {w : Bytes} (h : lx.Is k w n) : w.length ≤ 13 := by
  have a := lx.step_is h (c := 32) (.inl rfl) []
  generalize w ++ 32 :: [] = l at a
  have hw : lx.wordR l = .tok k w n → w.length ≤ 13 := by
    intro a
    unfold lx.wordR at a
    dsimp only at a
    split at a
    · cases a
    · split at a
      · rename_i hk
        injection a with _ a2 _
        rw [a2] at hk
        have hm : w ∈ lx.keysL := of_decide_eq_true hk
        exact of_decide_eq_true (List.all_eq_true.1 keys13 w hm)
      · split at a
        · cases a
        · rename_i hl
          injection a with _ a2 _
          rw [a2] at hl
          omega
  have hn : lx.numR l = .tok k w n → w.length ≤ 13 := by
    intro a
    unfold lx.numR at a
    dsimp only at a
    split at a
    · split at a
      · cases a
      · rename_i hl
        injection a with _ a2 _
        rw [a2] at hl
        omega
    · cases a
  have hc : lx.comR l = .tok k w n → w.length ≤ 13 := by
    intro a
    unfold lx.comR at a
    split at a <;> cases a
  unfold lx.step at a
  generalize l.headD 0 = b at a
  generalize l.tail.headD 0 = c at a
  unfold lx.stepB at a
  repeat' split at a
  all_goals first
    | (cases a; done)
    | exact hw a
    | exact hn a
    | exact hc a
    | (injection a with _ a2 _; rw [← a2]; simp)
def Tk (w : Bytes) : Prop := ∃ k n : Int, lx.Is k w n
theorem Tk.ne {w : Bytes} (h : Tk w) : w ≠ [] := by
  obtain ⟨k, n, l, hl, hs⟩ := h
  have := lx.fits hl
  rw [hs] at this
  exact this.1
theorem Kw.tk {w : Bytes} (h : Kw w) : Tk w := by
  obtain ⟨q, _, h⟩ := h
  exact ⟨q, 0, h⟩
theorem argT_mem {l : List S25} {w : Bytes} (h : w ∈ argT l) : w = [44] ∨ ∃ x ∈ l, w ∈ pr.tkE x := by
  cases l with
  | nil => simp [argT] at h
  | cons y r =>
    simp only [argT, List.mem_append, List.mem_flatMap, List.mem_cons] at h
    rcases h with h | ⟨z, hz, h⟩
    · exact .inr ⟨y, by simp, h⟩
    · rcases h with h | h
      · exact .inl h
      · exact .inr ⟨z, by simp [hz], h⟩
theorem all_tk {x : S25} (hx : Sx x) : ∀ w ∈ pr.tkE x, Tk w := by
  have k1 : ∀ w ∈ allKw, Tk w := fun w h => (kwm h).tk
  have op : ∀ {a : S25}, (∀ w ∈ pr.tkE a, Tk w) → ∀ w ∈ opT a, Tk w := by
    intro a h w hw
    unfold opT at hw
    split at hw
    · simp only [List.mem_append, List.mem_singleton] at hw
      rcases hw with (rfl | hw) | rfl
      · exact k1 _ (by decide)
      · exact h w hw
      · exact k1 _ (by decide)
    · exact h w hw
  have ar : ∀ {ag : List S25}, (∀ a ∈ ag, ∀ w ∈ pr.tkE a, Tk w) → ∀ w ∈ argT ag, Tk w := by
    intro ag h w hw
    rcases argT_mem hw with rfl | ⟨x, hx, hw⟩
    · exact k1 _ (by decide)
    · exact h x hx w hw
  induction hx with
  | num n hn =>
    rw [tk_num]
    intro w hw
    rw [List.mem_singleton.1 hw]
    exact ⟨3, _, dec_is hn⟩
  | lit k hk =>
    rw [tk_lit hk]
    intro w hw
    rw [List.mem_singleton.1 hw]
    rcases hk with rfl | rfl | rfl <;> exact k1 _ (by decide)
  | name w hw =>
    rw [tk_name]
    intro v hv
    rw [List.mem_singleton.1 hv]
    exact ⟨1, 0, hw⟩
  | index w a hw ha ih =>
    rw [tk_index]
    intro v hv
    simp only [List.mem_append, List.mem_cons, List.not_mem_nil, or_false] at hv
    rcases hv with ((rfl | rfl) | hv) | rfl
    · exact ⟨1, 0, hw⟩
    · exact k1 _ (by decide)
    · exact ih v hv
    · exact k1 _ (by decide)
  | sign k a hk ha ih =>
    rw [tk_sign a hk]
    intro v hv
    simp only [List.mem_append, List.mem_singleton] at hv
    rcases hv with rfl | hv
    · split <;> exact k1 _ (by decide)
    · exact op ih v hv
  | bin n a b h1 h2 ha hb iha ihb =>
    rw [tk_bin, named_ops h1 h2]
    intro v hv
    simp only [List.mem_append, List.mem_singleton] at hv
    rcases hv with (hv | rfl) | hv
    · exact op iha v hv
    · exact k1 _ (List.mem_append_right _ (List.mem_append_left _ (ops_fin ⟨n - 1, by omega⟩).2.1))
    · exact op ihb v hv
  | of k w hk hw =>
    rw [tk_of w hk]
    intro v hv
    simp only [List.mem_cons, List.not_mem_nil, or_false] at hv
    rcases hv with rfl | rfl | rfl | rfl
    · rcases hk with rfl | rfl | rfl <;> exact k1 _ (by decide)
    · exact k1 _ (by decide)
    · exact ⟨1, 0, hw⟩
    · exact k1 _ (by decide)
  | cast w a hw ha ih =>
    rw [tk_as]
    intro v hv
    simp only [List.mem_append, List.mem_cons, List.not_mem_nil, or_false] at hv
    rcases hv with ((rfl | rfl | rfl) | hv) | rfl
    · exact k1 _ (by decide)
    · exact ⟨1, 0, hw⟩
    · exact k1 _ (by decide)
    · exact ih v hv
    · exact k1 _ (by decide)
  | call w wh ag hw hwh hag hl ih =>
    rw [tk_call]
    intro v hv
    simp only [List.mem_append, List.mem_cons, List.not_mem_nil, or_false] at hv
    rcases hv with ((rfl | rfl | rfl | rfl) | hv) | rfl
    · exact ⟨1, 0, hw⟩
    · exact k1 _ (by decide)
    · exact ⟨1, 0, hwh⟩
    · exact k1 _ (by decide)
    · exact ar ih v hv
    · exact k1 _ (by decide)
  | own n wh ag hn hwh hag hl ih =>
    rw [tk_own wh ag hn]
    intro v hv
    simp only [List.mem_append, List.mem_cons, List.not_mem_nil, or_false] at hv
    rcases hv with ((rfl | rfl | rfl | rfl) | hv) | rfl
    · split <;> exact k1 _ (by decide)
    · exact k1 _ (by decide)
    · exact ⟨1, 0, hwh⟩
    · exact k1 _ (by decide)
    · exact ar ih v hv
    · exact k1 _ (by decide)
def Tl : List S69 → List Bytes → Prop
  | [], [] => True
  | x :: r, w :: l => (x.fText = w ∧ lx.Is x.fKind w x.fN) ∧ Tl r l
  | _, _ => False
theorem Tl.len : ∀ {m : List S69} {l : List Bytes}, Tl m l → m.length = l.length
  | [], [], _ => rfl
  | x :: r, w :: l, h => by rw [List.length_cons, List.length_cons, h.2.len]
  | [], _ :: _, h => h.elim
  | _ :: _, [], h => h.elim
theorem Tl.at : ∀ {m : List S69} {l : List Bytes} (p q : List S69), Tl m l → At (p ++ m ++ q) p.length l
  | [], [], p, q, _ => trivial
  | x :: r, w :: l, p, q, h => by
    refine ⟨⟨by simp, ?_⟩, ?_⟩
    · have : (p ++ (x :: r) ++ q).getD p.length default = x := by simp [List.getD]
      rw [this]
      exact h.1
    · have := h.2.at (p ++ [x]) q
      simp only [List.append_assoc, List.length_append, List.length_cons, List.length_nil, List.cons_append, List.nil_append] at this ⊢
      exact this
  | [], _ :: _, _, _, h => h.elim
  | _ :: _, [], _, _, h => h.elim
theorem Tl.at0 {m : List S69} {l : List Bytes} (h : Tl m l) : At m 0 l := by
  have := h.at [] []
  rwa [List.nil_append, List.append_nil] at this
theorem Tl.app : ∀ {m m' : List S69} {l l' : List Bytes}, Tl m l → Tl m' l' → Tl (m ++ m') (l ++ l')
  | [], m', [], l', _, h' => h'
  | x :: r, m', w :: l, l', h, h' => ⟨h.1, h.2.app h'⟩
  | [], _, _ :: _, _, h, _ => h.elim
  | _ :: _, _, [], _, h, _ => h.elim
theorem lex_one {w : Bytes} {k n : Int} (h : lx.Is k w n) (v : Bytes) (hv : lx.Cut (v.headD 0)) (a : Nat) (t : List S69) (ht : t.length < 1500) : lx.lexL (w ++ v) a t = lx.lexL v (a + w.length) (t ++ [⟨k, w, n, (a : Int)⟩]) := by
  have hne : w ≠ [] := Tk.ne ⟨k, n, h⟩
  rw [lx.lexL_tok (by simp [hne]) (lx.step_is0 h v hv), if_neg (by omega)]
  congr 1
  simp
theorem cut32 : lx.Cut 32 := ⟨by decide, by decide, by decide, by decide, by decide, by decide⟩
theorem cut41 : lx.Cut 41 := ⟨by decide, by decide, by decide, by decide, by decide, by decide⟩
theorem lex_gap (v : Bytes) (a : Nat) (t : List S69) : lx.lexL (32 :: v) a t = lx.lexL v (a + 1) t := by
  rw [lx.lexL_skip (n := 1) (by simp) rfl]; rfl
theorem lex_words : ∀ (l : List Bytes) (v : Bytes) (a : Nat) (t : List S69), l ≠ [] → (∀ w ∈ l, Tk w) → lx.Cut (v.headD 0) → t.length + l.length ≤ 1500 →
    ∃ m b, lx.lexL (J l ++ v) a t = lx.lexL v b (t ++ m) ∧ Tl m l
  | [], v, a, t, h, _, _, _ => absurd rfl h
  | [w], v, a, t, _, h, hv, ht => by
    obtain ⟨k, n, hi⟩ := h w (by simp)
    refine ⟨[⟨k, w, n, (a : Int)⟩], a + w.length, ?_, ⟨⟨rfl, hi⟩, trivial⟩⟩
    have : J [w] = w := by simp [J, Lib.join, List.intercalate]
    rw [this]
    exact lex_one hi v hv a t (by simp at ht; omega)
  | w :: y :: r, v, a, t, _, h, hv, ht => by
    obtain ⟨k, n, hi⟩ := h w (by simp)
    simp only [List.length_cons] at ht
    have e : J (w :: y :: r) ++ v = w ++ (32 :: (J (y :: r) ++ v)) := by
      simp [J, Lib.join, List.intercalate, List.intersperse]
    rw [e, lex_one hi (32 :: (J (y :: r) ++ v)) cut32 a t (by omega), lex_gap]
    obtain ⟨m, b, h1, h2⟩ := lex_words (y :: r) v (a + w.length + 1) (t ++ [⟨k, w, n, (a : Int)⟩]) (by simp) (fun x hx => h x (List.mem_cons_of_mem _ hx)) hv (by simp; omega)
    refine ⟨⟨k, w, n, (a : Int)⟩ :: m, b, ?_, ⟨⟨rfl, hi⟩, h2⟩⟩
    rw [h1]; simp
theorem lex_text (l : List Bytes) (h0 : l ≠ []) (h : ∀ w ∈ l, Tk w) (hl : l.length ≤ 1500) : ∃ m, lx.lexL (J l) 0 [] = .inl m ∧ Tl m l := by
  obtain ⟨m, b, h1, h2⟩ := lex_words l [] 0 [] h0 h lx.cut0 (by simpa using hl)
  rw [List.append_nil, List.nil_append] at h1
  exact ⟨m, by rw [h1, lx.lexL_nil], h2⟩
theorem lex_brack (l : List Bytes) (h0 : l ≠ []) (h : ∀ w ∈ l, Tk w) (hl : l.length + 2 ≤ 1500) (hs : (l.headD []).headD 0 ≠ 42) : ∃ m, lx.lexL ([40] ++ J l ++ [41]) 0 [] = .inl m ∧ Tl m ([[40]] ++ l ++ [[41]]) := by
  have i40 : lx.Is 4 [40] 0 := ⟨[40], by simp, rfl⟩
  have i41 : lx.Is 4 [41] 0 := ⟨[41], by simp, rfl⟩
  have hd : (J l ++ [41]).headD 0 = (l.headD []).headD 0 := by
    cases l with
    | nil => exact absurd rfl h0
    | cons w r =>
      have hw : w ≠ [] := (h w (by simp)).ne
      cases w with
      | nil => exact absurd rfl hw
      | cons b w =>
        cases r with
        | nil => simp [J, Lib.join, List.intercalate]
        | cons y r => simp [J, Lib.join, List.intercalate, List.intersperse]
  have st : lx.step (40 :: (J l ++ [41])) = .tok 4 [40] 0 := by
    show lx.stepB 40 ((J l ++ [41]).headD 0) (40 :: (J l ++ [41])) = _
    unfold lx.stepB
    rw [if_neg (by decide), if_pos rfl, if_neg (by rw [hd]; exact hs)]
  have e : ([40] : Bytes) ++ J l ++ [41] = 40 :: (J l ++ [41]) := rfl
  rw [e, lx.lexL_tok (by simp) st, if_neg (by simp)]
  obtain ⟨m, b, h1, h2⟩ := lex_words l [41] (0 + [(40 : UInt8)].length) ([] ++ [⟨4, [40], 0, ((0 : Nat) : Int)⟩]) h0 h cut41 (by simp; omega)
  have h3 := lex_one i41 [] lx.cut0 b ([] ++ [⟨4, [40], 0, ((0 : Nat) : Int)⟩] ++ m) (by have := h2.len; simp; omega)
  rw [List.append_nil, lx.lexL_nil] at h3
  refine ⟨_, (by
    show lx.lexL ((J l ++ [41])) _ _ = _
    rw [h1, h3]), ?_⟩
  have t1 : Tl [(⟨4, [40], 0, ((0 : Nat) : Int)⟩ : S69)] [[40]] := ⟨⟨rfl, i40⟩, trivial⟩
  have t2 : Tl [(⟨4, [41], 0, (b : Int)⟩ : S69)] [[41]] := ⟨⟨rfl, i41⟩, trivial⟩
  exact (t1.app h2).app t2
theorem lex_count : ∀ (l : Bytes) (a : Nat) (t : List S69), (match lx.lexL l a t with
    | .inl t' => t'.length ≤ t.length + l.length
    | .inr _ => True) := by
  refine lx.lexL_rec (fun l a t r => match r with
    | .inl t' => t'.length ≤ t.length + l.length
    | .inr _ => True) ?_ ?_ ?_ ?_ ?_
  · intro a t; exact Nat.le_refl _
  · intro l n a t r hl hst ih
    cases r with
    | inl t' =>
      simp only [List.length_drop] at ih ⊢
      omega
    | inr r => trivial
  · intro l c a t hl hst; trivial
  · intro l q x n a t hl hst h; trivial
  · intro l q x n a t r hl hst h ih
    have hf := lx.fits hl
    rw [hst] at hf
    obtain ⟨f1, _, f3, _⟩ := hf
    have f4 : 1 ≤ x.length := by cases x with | nil => exact absurd rfl f1 | cons b r => simp
    cases r with
    | inl t' =>
      simp only [List.length_drop, List.length_append, List.length_cons, List.length_nil] at ih ⊢
      omega
    | inr r => trivial
theorem B_le : ∀ (l : List Bytes), (∀ w ∈ l, Tk w) → (B l).length ≤ 14 * l.length
  | [], _ => by simp [B, pr.B]
  | w :: r, h => by
    obtain ⟨k, n, hi⟩ := h w (by simp)
    have := is_len hi
    have := B_le r fun x hx => h x (List.mem_cons_of_mem _ hx)
    show (pr.B (w :: r)).length ≤ _
    rw [pr.B_cons]
    simp only [List.length_append, List.length_cons]
    have e : (pr.B r).length = (B r).length := rfl
    omega
theorem J_le {l : List Bytes} (h0 : l ≠ []) (h : ∀ w ∈ l, Tk w) : (J l).length ≤ 14 * l.length := by
  have := J_len h0
  have := B_le l h
  omega
theorem no_star {x : S25} (hx : Sx x) : ((pr.tkE x).headD []).headD 0 ≠ 42 := by
  obtain ⟨m, _, hm⟩ : ∃ m : List S69, True ∧ Tl m (pr.tkE x) := by
    have : ∀ l : List Bytes, (∀ w ∈ l, Tk w) → ∃ m, Tl m l := by
      intro l
      induction l with
      | nil => intro _; exact ⟨[], trivial⟩
      | cons w r ih =>
        intro h
        obtain ⟨m, hm⟩ := ih fun x hx => h x (List.mem_cons_of_mem _ hx)
        obtain ⟨k, n, hi⟩ := h w (by simp)
        exact ⟨⟨k, w, n, 0⟩ :: m, ⟨⟨rfl, hi⟩, hm⟩⟩
    obtain ⟨m, hm⟩ := this _ (all_tk hx)
    exact ⟨m, trivial, hm⟩
  have hat := hm.at0
  have hst := st_of hx hat
  cases hc : pr.tkE x with
  | nil => exact absurd hc (tk_ne x)
  | cons w r =>
    rw [hc] at hat
    intro h42
    have ht : Tw m 0 w := hat.1
    obtain ⟨t1, t2, t3⟩ := ht
    have hw : w.headD 0 = 42 := h42
    have hne : w ≠ [] := Tk.ne ⟨_, _, t3⟩
    have a := lx.step_is t3 (c := 32) (.inl rfl) []
    have hb : (w ++ 32 :: []).headD 0 = 42 := by
      cases w with
      | nil => exact absurd rfl hne
      | cons b w => simpa using hw
    unfold lx.step at a
    rw [hb] at a
    have e : lx.stepB 42 ((w ++ 32 :: []).tail.headD 0) (w ++ 32 :: []) = .tok 4 [42] 0 := rfl
    rw [e] at a
    injection a with a1 a2 a3
    unfold starts hasK hasL at hst
    rw [t2, ← a1, ← a2] at hst
    have : decide ([42] ∈ startsL) = false := by decide
    rw [this] at hst
    simp at hst
end Go.Proofs.YtidjangjfekfjaaGreatDoor.ex

set_option linter.unusedVariables false
set_option linter.unusedSimpArgs false
set_option linter.unusedSectionVars false
namespace Go.Proofs.YtidjangjfekfjaaGreatDoor
open Go Go.Proofs Go.Dl
set_option maxRecDepth 100000
open pr (B J)
theorem ex.ok_all {x : S25} (hx : ex.Sx x) : pr.okE x := by
  have z : ∀ n : Int, 0 ≤ n → n ≤ 32768 → I64 n := fun n h1 h2 => ⟨by omega, by omega⟩
  have z0 : I64 0 := ⟨by decide, by decide⟩
  have ls : ∀ l : List S25, (∀ a ∈ l, pr.okE a) → pr.okL l := by
    intro l
    induction l with
    | nil => intro _; rw [pr.okL]; trivial
    | cons x r ih => intro h; rw [pr.okL]; exact ⟨h x (by simp), ih fun a ha => h a (List.mem_cons_of_mem _ ha)⟩
  induction hx with
  | num n hn => rw [pr.okE_eq]; exact ⟨z n (by omega) (by omega), ls _ (by simp)⟩
  | lit k hk => rw [pr.okE_eq]; exact ⟨z0, ls _ (by simp)⟩
  | name w hw => rw [pr.okE_eq]; exact ⟨z0, ls _ (by simp)⟩
  | index w a hw ha ih => rw [pr.okE_eq]; exact ⟨z0, ls _ (by simpa using ih)⟩
  | sign k a hk ha ih => rw [pr.okE_eq]; exact ⟨z0, ls _ (by simpa using ih)⟩
  | bin n a b h1 h2 ha hb iha ihb => rw [pr.okE_eq]; exact ⟨z n (by omega) (by omega), ls _ (by simpa using ⟨iha, ihb⟩)⟩
  | of k w hk hw => rw [pr.okE_eq]; exact ⟨z0, ls _ (by simp)⟩
  | cast w a hw ha ih => rw [pr.okE_eq]; exact ⟨z0, ls _ (by simpa using ih)⟩
  | call w wh ag hw hwh hag hl ih => rw [pr.okE_eq]; exact ⟨z0, ls _ ih⟩
  | own n wh ag hn hwh hag hl ih => rw [pr.okE_eq]; exact ⟨z n (by omega) (by omega), ls _ ih⟩
theorem ex.B_opT (x : S25) : (B (pr.tkE x)).length ≤ (B (ex.opT x)).length := by
  unfold ex.opT
  split
  · rw [show (B ([[40]] ++ pr.tkE x ++ [[41]])) = B [[40]] ++ B (pr.tkE x) ++ B [[41]] by rw [show (B : List Bytes → Bytes) = pr.B from rfl, pr.B_app, pr.B_app]]
    simp only [List.length_append]
    omega
  · exact Nat.le_refl _
theorem ex.szl_argT : ∀ (l : List S25), (∀ a ∈ l, pr.sz a ≤ (B (pr.tkE a)).length) → pr.szl l ≤ (B (ex.argT l)).length := by
  have hB : (B : List Bytes → Bytes) = pr.B := rfl
  have fl : ∀ (l : List S25), (∀ a ∈ l, pr.sz a ≤ (B (pr.tkE a)).length) → pr.szl l ≤ (B (l.flatMap fun z => [44] :: pr.tkE z)).length := by
    intro l
    induction l with
    | nil => intro _; rw [pr.szl]; exact Nat.zero_le _
    | cons x r ih =>
      intro h
      have h1 := h x (by simp)
      have h2 := ih fun a ha => h a (List.mem_cons_of_mem _ ha)
      rw [pr.szl, List.flatMap_cons, hB, pr.B_app, pr.B_cons]
      rw [hB] at h1 h2
      simp only [List.length_append, List.length_cons]
      omega
  intro l h
  cases l with
  | nil => rw [pr.szl]; exact Nat.zero_le _
  | cons x r =>
    have h1 := h x (by simp)
    have h2 := fl r fun a ha => h a (List.mem_cons_of_mem _ ha)
    rw [pr.szl]
    unfold ex.argT
    rw [hB, pr.B_app]
    rw [hB] at h1 h2
    simp only [List.length_append]
    omega
theorem ex.sz_B {x : S25} (hx : ex.Sx x) : pr.sz x ≤ (B (pr.tkE x)).length := by
  have hB : (B : List Bytes → Bytes) = pr.B := rfl
  have one : ∀ a : S25, pr.szl [a] = pr.sz a := fun a => by rw [pr.szl, pr.szl]; omega
  induction hx with
  | num n hn =>
    have := J_len (tk_ne ⟨1, (n : Int), [], [], []⟩)
    rw [pr.sz_eq, pr.szl]
    show 1 + 0 + 0 + 0 ≤ _
    omega
  | lit k hk => 
    have := J_len (tk_ne ⟨k, 0, [], [], []⟩)
    rw [pr.sz_eq, pr.szl]
    show 1 + 0 + 0 + 0 ≤ _
    omega
  | name w hw =>
    rw [ex.tk_name, pr.sz_eq, pr.szl, hB, pr.B_cons]
    simp; omega
  | index w a hw ha ih =>
    rw [ex.tk_index, pr.sz_eq, one, hB, pr.B_app, pr.B_app, pr.B_cons]
    rw [hB] at ih
    simp only [List.length_append, List.length_cons, List.length_nil]; omega
  | sign k a hk ha ih =>
    have := ex.B_opT a
    rw [ex.tk_sign a hk, pr.sz_eq, one, hB, pr.B_app, pr.B_cons]
    rw [hB] at ih this
    simp only [List.length_append, List.length_cons, List.length_nil]; omega
  | bin n a b h1 h2 ha hb iha ihb =>
    have := ex.B_opT a
    have := ex.B_opT b
    rw [ex.tk_bin, pr.sz_eq, pr.szl, one, hB, pr.B_app, pr.B_app, pr.B_cons]
    rw [hB] at iha ihb this
    rename_i q
    rw [hB] at q
    simp only [List.length_append, List.length_cons, List.length_nil]; omega
  | of k w hk hw =>
    rw [ex.tk_of w hk, pr.sz_eq, pr.szl, hB, pr.B_cons, pr.B_cons, pr.B_cons]
    simp only [List.length_append, List.length_cons, List.length_nil]; omega
  | cast w a hw ha ih =>
    rw [ex.tk_as, pr.sz_eq, one, hB, pr.B_app, pr.B_app, pr.B_cons, pr.B_cons]
    rw [hB] at ih
    simp only [List.length_append, List.length_cons, List.length_nil]; omega
  | call w wh ag hw hwh hag hl ih =>
    have := ex.szl_argT ag ih
    rw [ex.tk_call, pr.sz_eq, hB, pr.B_app, pr.B_app, pr.B_cons, pr.B_cons, pr.B_cons]
    rw [hB] at this
    simp only [List.length_append, List.length_cons, List.length_nil]; omega
  | own n wh ag hn hwh hag hl ih =>
    have := ex.szl_argT ag ih
    rw [ex.tk_own wh ag hn, pr.sz_eq, hB, pr.B_app, pr.B_app, pr.B_cons, pr.B_cons, pr.B_cons]
    rw [hB] at this
    simp only [List.length_append, List.length_cons, List.length_nil]; omega
theorem same_self : ∀ (n K : Nat) (x : S25), pr.sz x ≤ n → 2 * n + 2 ≤ K → n ≤ 100000 → fnS (F8 K x x) = some true
  | 0, K, x, h, _, _ => by have := pr.sz_eq x; omega
  | n + 1, K, x, h, hK, hn => by
    obtain ⟨K, rfl⟩ : ∃ j, K = j + 2 := ⟨K - 2, by omega⟩
    have hs := pr.sz_eq x
    have hl := pr.szl_len x.fArgs
    rw [F8]
    simp only [letV, beq_self_eq_true, Bool.and_self, condM_t]
    have hm : ∀ a ∈ x.fArgs, fnS (F8 K a a) = some true := fun a ha => same_self n K a (by have := pr.szl_mem _ a ha; omega) (by omega) (by omega)
    have h20 : fnS (F20 (K + 1) x.fArgs x.fArgs) = some true := by
      generalize x.fArgs = l at hm hl hs
      rw [F20]
      simp only [letV, bne_self_eq_false, Bool.false_eq_true, if_false]
      have hit : ∀ (q i : Nat), i ≤ l.length → l.length - i < q → iter q (fun (u21 : Int) => (if decide ((u21 : Int) < (Int.ofNat l.length)) = true then (bindS (blockS (chk [inb u21 l.length, inb u21 l.length] ((fnS (F8 K (l.getD (u21 : Int).toNat default) (l.getD (u21 : Int).toNat default))).bind (fun r30 => (if (!r30) = true then (some (.inl (Sum.inr (Sum.inr (false))))) else (some (.inr ()))))))) (fun (u29 : Unit) => (some (.inr ((IntKind.i64.wrap (u21 + 1))))))) else (some (.inl (Sum.inl ()))) : Option ((Unit ⊕ Bool) ⊕ Int))) (i : Int) = some (.inl ()) := by
        intro q
        induction q with
        | zero => intro i h1 h2; omega
        | succ q ih =>
          intro i h1 h2
          unfold iter
          dsimp only
          by_cases hi : i < l.length
          · rw [if_pos (by simp; omega), chk_t (inb_nat hi), chk_t (inb_nat hi), chk_nil, Int.toNat_natCast, hm _ (pr.getD_mem hi), Option.bind_some]
            simp only [Bool.not_true, Bool.false_eq_true, if_false, blockS_r, bindS_r]
            rw [wrap64 (by omega) (by omega), show ((i : Int) + 1) = ((i + 1 : Nat) : Int) by omega]
            exact ih (i + 1) (by omega) (by omega)
          · rw [if_neg (by simp; omega)]
      have h0 := hit K 0 (Nat.zero_le _) (by omega)
      simp only [condM_t]
      rw [show ((0 : Nat) : Int) = 0 from rfl] at h0
      rw [h0]; rfl
    rw [h20]; rfl
theorem F21_eq (K : Nat) (e : Err) : fnS (F21 K e) = some (e.headD (0, 0)) := rfl
theorem code_eq (K : Nat) (e : Err) : fnS (F9 K e) = some (e.headD (0, 0)).1 := by
  unfold F9
  rw [F21_eq]; rfl
theorem allF_le (s : Bytes) (h : s.length ≤ 6000) : lx.allF s = match lx.lexL s 0 [] with
    | .inl t => (t, [])
    | .inr (c, a) => ([], [(c, (a : Int))]) := by
  unfold lx.allF
  rw [if_neg (by omega)]; rfl
theorem begun_ok (K : Nat) (hK : 200000 < K) (s : Bytes) (hs : s.length ≤ 6000) {ts : List S69} (h : lx.lexL s 0 [] = .inl ts) : fnS (F14 K s) = some (ex.P ts s.length 0) := by
  unfold F14
  rw [all_eqA K s hK, allF_le s hs, h]; rfl
theorem read_no (K : Nat) (hK : 200000 < K) (s : Bytes) (hs : s.length ≤ 6000) {r : Int × Nat} (h : lx.lexL s 0 [] = .inr r) : ∃ v e, fnS (F6 K s) = some (v, e) ∧ e ≠ [] := by
  obtain ⟨c, a⟩ := r
  have hp := lx.places s s 0 [] rfl (by omega) (Nat.le_refl _) (by simp)
  rw [h] at hp
  have hc : c = 1 ∨ c = 2 ∨ c = 5 := hp.1
  have h18 : fnS (F14 K s) = some ⟨[], 0, Int.ofNat s.length, [(c, a), (c, a)]⟩ := by
    unfold F14
    rw [all_eqA K s hK, allF_le s hs, h, Option.bind_some]
    have : fnS (F34 K [(c, (a : Int))]) = some [(c, (a : Int)), (c, (a : Int))] := by
      show fnS (if c = 1 ∨ c = 2 ∨ c = 5 then some (.inl [(c, (a : Int)), (c, (a : Int))]) else none : Option (Err ⊕ Err)) = _
      rw [if_pos hc]; rfl
    rw [this]; rfl
  obtain ⟨k, rfl⟩ : ∃ k, K = k + 4 := ⟨K - 4, by omega⟩
  have h19 : ∃ v, fnS (F15 (k + 4) (⟨[], 0, Int.ofNat s.length, [(c, (a : Int)), (c, (a : Int))]⟩ : S56) 1) = some (v, ⟨[], 0, Int.ofNat s.length, [(c, (a : Int)), (c, (a : Int))]⟩) := ⟨_, rfl⟩
  obtain ⟨v, h19⟩ := h19
  refine ⟨⟨0, 0, [], [], []⟩, [(c, (a : Int)), (c, (a : Int))], ?_, by simp⟩
  unfold F6
  rw [h18, Option.bind_some, h19, Option.bind_some]
  rfl
theorem read_er (K : Nat) (hK : 200000 < K) (s : Bytes) (hs : s.length ≤ 6000) {ts : List S69} (h : lx.lexL s 0 [] = .inl ts) {v : S25} {j : Nat} {k a : Int}
    (h15 : fnS (F15 K (ex.P ts s.length 0) 1) = some (v, ex.PE ts s.length j k a)) : ∃ w, fnS (F6 K s) = some (w, [(k, a)]) := by
  refine ⟨⟨0, 0, [], [], []⟩, ?_⟩
  unfold F6
  rw [begun_ok K hK s hs h, Option.bind_some, h15, Option.bind_some]
  simp only [letV]
  by_cases hj : j < ts.length
  · rw [if_pos (by show decide ((j : Int) < (Int.ofNat ts.length)) = true; simp; omega)]
    rfl
  · rw [if_neg (by show ¬ decide ((j : Int) < (Int.ofNat ts.length)) = true; simp; omega)]
    rfl
theorem read_ok (K : Nat) (hK : 200000 < K) (s : Bytes) (hs : s.length ≤ 6000) {ts : List S69} (h : lx.lexL s 0 [] = .inl ts) {v : S25} {j : Nat}
    (h15 : fnS (F15 K (ex.P ts s.length 0) 1) = some (v, ex.P ts s.length j)) : if j < ts.length then ∃ w k a, fnS (F6 K s) = some (w, [(k, a)]) else fnS (F6 K s) = some (v, []) := by
  by_cases hj : j < ts.length
  · rw [if_pos hj]
    have hd : decide ((j : Int) < (Int.ofNat ts.length)) = true := by simp; omega
    refine ⟨⟨0, 0, [], [], []⟩, 3, (ex.tok ts s.length j).fAt, ?_⟩
    unfold F6
    rw [begun_ok K hK s hs h, Option.bind_some, h15, Option.bind_some]
    show fnS (letV (decide ((j : Int) < (Int.ofNat ts.length))) _) = _
    simp only [letV, hd, if_true, ex.p20, Option.bind_some, bindS_r, condM_t, ex.p21e]
    rfl
  · rw [if_neg hj]
    have hd : decide ((j : Int) < (Int.ofNat ts.length)) = false := by simp; omega
    unfold F6
    rw [begun_ok K hK s hs h, Option.bind_some, h15, Option.bind_some]
    show fnS (letV (decide ((j : Int) < (Int.ofNat ts.length))) _) = _
    simp only [letV, hd, Bool.false_eq_true, if_false, bindS_r, condM_t, ex.p21, Option.bind_some]
    rfl
theorem again (K : Nat) (hK : 200000 < K) {x : S25} (hx : ex.Sx x) (hn : ex.nd x ≤ 6) (hl : (pr.tkE x).length ≤ 400) :
    fnS (F7 K x) = some (J (pr.tkE x)) ∧ fnS (F6 K (J (pr.tkE x))) = some (x, []) ∧ ((fnS (F6 K (([40] ++ J (pr.tkE x)) ++ [41])) = some (x, [])) ∨ ∃ w a, fnS (F6 K (([40] ++ J (pr.tkE x)) ++ [41])) = some (w, [(4, a)])) := by
  have htk := ex.all_tk hx
  have hne := tk_ne x
  have hB := ex.B_le (pr.tkE x) htk
  have hJ := ex.J_le hne htk
  have hsz := ex.sz_B hx
  have hRE := ex.all_r _ x (Nat.le_refl _) hx
  refine ⟨?_, ?_, ?_⟩
  · unfold F7
    rw [expr_eq (pr.sz x) K x [] (Nat.le_refl _) (by omega) (by omega) (ex.ok_all hx) (by simp; omega), Option.bind_some, List.nil_append, text_eq K _ hne (by omega)]
    rfl
  · obtain ⟨m, h1, h2⟩ := ex.lex_text (pr.tkE x) hne htk (by omega)
    have hat := h2.at0
    have hlen := h2.len
    have h15 := (hRE m (J (pr.tkE x)).length 0 1 K (by omega) (by omega) (by omega) hat (ex.hasL_end (by simp; omega)) (by omega)).1 (by omega)
    have := read_ok K hK _ (by omega) h1 h15
    rw [if_neg (by omega)] at this
    exact this
  · obtain ⟨m, h1, h2⟩ := ex.lex_brack (pr.tkE x) hne htk (by omega) (ex.no_star hx)
    have hat := h2.at0
    have hlen := h2.len
    simp only [List.length_append, List.length_cons, List.length_nil] at hlen
    have hT : m.length ≤ 100000 := by omega
    have h40 : ex.Tw m 0 [40] := hat.1
    have hk40 : ex.Kw [40] := ex.kwm (by decide)
    have hs0 : ex.starts m 0 = true := by
      unfold ex.starts
      rw [h40.hasL hk40, Bool.or_eq_true]
      exact .inr (by decide)
    obtain ⟨q, rfl⟩ : ∃ q, K = q + 4 := ⟨K - 4, by omega⟩
    obtain ⟨e, he⟩ : ∃ e : Int, e = (((([40] ++ J (pr.tkE x)) ++ [41] : Bytes).length : Nat) : Int) := ⟨_, rfl⟩
    obtain ⟨w1, w2⟩ := ex.within_r (T := m) (e := e) (i := 0) (K := q + 1) hRE hT 1 [40] [41] hk40 (ex.kwm (by decide)) (by decide) hat (by omega) (by omega) (by omega)
    have h15 : fnS (F15 (q + 4) (ex.P m e 0) 1) = (fnS (F70 (q + 1 + 1) (ex.P m e 0) 1 [40] [41])).bind fun r => fnS (ex.u19 (q + 3) 1 r) := by
      rw [ex.s19 hT (by omega)]
      unfold ex.o19
      rw [if_neg (fun g => by omega), h40.hasL hk40, if_neg (by decide), h40.hasL hk40, if_neg (by decide), ex.s40 hT (by omega), ex.o40_kw h40 hk40, if_neg (by decide), if_neg (by decide), if_neg (by decide), if_neg (by decide), if_neg (by decide), if_neg (by decide), if_neg (by decide), if_pos rfl]
    by_cases hd : (ex.nd x : Int) + 1 + 1 ≤ 7
    · left
      rw [w1 hd, Option.bind_some, ex.u19_eq hT (by omega)] at h15
      unfold ex.t19 at h15
      rw [ex.hasL_end (by omega), if_neg (by simp), he] at h15
      have := read_ok (q + 4) hK _ (by simp; omega) h1 h15
      rw [if_neg (by omega)] at this
      exact this
    · right
      obtain ⟨v, j, b, hv⟩ := w2 hd
      rw [hv, Option.bind_some, ex.u19_e (by omega), he] at h15
      obtain ⟨w, hw⟩ := read_er (q + 4) hK _ (by simp; omega) h1 h15
      exact ⟨w, b, hw⟩
theorem exprs_law (K : Nat) (hK : 200000 < K) (hA : fnS (F5 K) = some true) (s : Bytes) : fnS (F3 K s) = some true := by
  by_cases h : s.length > 300
  · unfold F3
    simp only [letV]
    rw [if_pos (by simp; omega), hA]; rfl
  have er : ∀ (v : S25) (e : Err), fnS (F6 K s) = some (v, e) → e ≠ [] → fnS (F3 K s) = some true := by
    intro v e h6 he
    unfold F3
    simp only [letV]
    rw [if_neg (by simp; omega), h6, Option.bind_some]
    have hb : (!(!errS e)) = true := by cases e with | nil => exact absurd rfl he | cons a r => rfl
    dsimp only
    rw [if_pos hb, hA]; rfl
  have hp := lx.places s s 0 [] rfl (by omega) (Nat.le_refl _) (by simp)
  cases hx : lx.lexL s 0 [] with
  | inr r =>
    obtain ⟨v, e, h6, he⟩ := read_no K hK s (by omega) hx
    exact er v e h6 he
  | inl ts =>
    rw [hx] at hp
    have hl : ts.length ≤ 1500 := hp.1
    have hts : ex.Ts ts := fun t ht => lx.tokens_are s 0 [] (by simp) ts hx t ht
    have hcount : ts.length ≤ s.length := by
      have := ex.lex_count s 0 []
      rw [hx] at this
      simpa using this
    obtain ⟨x, h15, hr⟩ := ex.all_p (T := ts) (e := s.length) (by omega) hts ts.length K 0 1 (by omega) (by omega) (by omega) (by omega) (by omega)
    cases hr with
    | er j k a v hk =>
      obtain ⟨w, h6⟩ := read_er K hK s (by omega) hx h15
      exact er w _ h6 (by simp)
    | ok j v hj hj2 hq =>
      have h6 := read_ok K hK s (by omega) hx h15
      by_cases hjl : j < ts.length
      · rw [if_pos hjl] at h6
        obtain ⟨w, k, a, h6⟩ := h6
        exact er w _ h6 (by simp)
      · rw [if_neg hjl] at h6
        obtain ⟨q1, q2, q3⟩ := hq
        obtain ⟨g1, g2, g3⟩ := again K hK q1 (by omega) (by omega)
        have hB := ex.J_le (tk_ne v) (ex.all_tk q1)
        have hsz := ex.sz_B q1
        have hBl := ex.B_le (pr.tkE v) (ex.all_tk q1)
        have hs8 := same_self (pr.sz v) K v (Nat.le_refl _) (by omega) (by omega)
        have e0 : errS ([] : Err) = false := rfl
        unfold F3
        simp only [letV]
        rw [if_neg (by simp; omega), h6, Option.bind_some]
        dsimp only
        rw [if_neg (by decide), g1, Option.bind_some, g2, Option.bind_some, chk_t (room_le (by simp; omega)), chk_t (room_le (by simp; omega)), chk_nil]
        rcases g3 with g3 | ⟨w, a, g3⟩
        · rw [g3, Option.bind_some]
          simp only [e0, Bool.not_false, condM_t, hs8, Option.bind_some, Bool.and_self, Bool.true_and, Bool.not_true, Bool.false_and, condM_f, Bool.true_or, hA]
          rfl
        · rw [g3, Option.bind_some]
          have e4 : errS [((4 : Int), a)] = true := rfl
          simp only [e0, e4, Bool.not_false, condM_t, hs8, Option.bind_some, Bool.and_self, Bool.true_and, Bool.not_true, Bool.false_and, condM_f, Bool.true_or, code_eq, List.headD_cons, beq_self_eq_true, Bool.or_true, hA]
          rfl
end Go.Proofs.YtidjangjfekfjaaGreatDoor
