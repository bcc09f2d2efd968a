/- What the parser says of a text. No conditions. -/
import Derived.Test.YtphnfaabcnciiaaGreatDoorSPe
set_option linter.unusedVariables false
set_option linter.unusedSimpArgs false
set_option linter.unusedSectionVars false
namespace Go.Proofs.YtphnfaabcnciiaaGreatDoor
open Go Go.Proofs Go.Dl
set_option maxRecDepth 100000
theorem allF_le (s : Bytes) (h : s.length ≤ 6000) : lx.allF s = match lx.lexL s 0 [] with
    | .inl t => (t, [])
    | .inr (c, a) => ([], [(c, (a : Int))]) := by
  unfold lx.allF
  rw [if_neg (by omega)]; rfl
theorem lexL_at (s : Bytes) (ts : List S41) (h : lx.lexL s 0 [] = .inl ts) : ts.length ≤ 1500 ∧ ∀ x ∈ ts, ∃ a : Nat, x.fAt = a ∧ a ≤ s.length ∧ x.fText.length ≤ s.length := by
  have hp := lx.places s s 0 [] rfl (by omega) (Nat.le_refl _) (by simp)
  rw [h] at hp
  obtain ⟨h1, e, hg⟩ := hp
  refine ⟨h1, ?_⟩
  have : ∀ (l : List S41) (e0 : Nat), lx.GoodL s e0 l e → ∀ x ∈ l, ∃ a : Nat, x.fAt = a ∧ a ≤ s.length ∧ x.fText.length ≤ s.length := by
    intro l
    induction l with
    | nil => intro _ _ x hx; cases hx
    | cons y r ih =>
      rintro e0 ⟨a, h1, h2, h3⟩ x hx
      rcases List.mem_cons.1 hx with rfl | hx
      · exact ⟨a, h2.at', by have := h2.fit; omega, by have := h2.fit; omega⟩
      · exact ih _ h3 x hx
  exact this ts 0 hg
theorem F10_eq (K : Nat) (e : Err) : fnS (F10 K e) = some (e.headD (0, 0)) := rfl
def sid (T : List S41) (e : Int) : Side := ⟨T, e, [], [], fun x => x, e⟩
theorem sid_good {T : List S41} {e : Int} (h : T.length ≤ 100000) (h0 : ∀ t ∈ T, 0 ≤ t.fAt ∧ t.fAt ≤ e) (he : 0 ≤ e) : (sid T e).Good := ⟨by simpa [sid] using h, fun _ => rfl, h0, he⟩
theorem sid_gone {T : List S41} {e : Int} (p : S65) : ¬ (sid T e).Gone p := fun g => g.1 rfl
abbrev p0 (T : List S41) (e : Int) : S65 := ⟨T, 0, e, []⟩
theorem ok0 {c : Side} {e : Int} (he : e = c.e) : c.Ok (p0 c.T e) := ⟨rfl, he, Int.le_refl _, by show (0 : Int) ≤ c.T.length; omega, .inl rfl, fun _ => .inl rfl⟩
theorem F18_eqS (K : Nat) (hK : 200000 < K) (s : Bytes) {t : List S41} (h : lx.allF s = (t, [])) : fnS (F18 K s) = some (p0 t s.length) := F18_eq K hK s h
theorem F13_run (K : Nat) (s : Bytes) {p q : S65} {w : List S60} {m : List Int} (h : fnS (F18 K s) = some p) (hr : iter K (parB K) (p, [], []) = some (.inl (q, w, m))) :
    fnS (F13 K s) = some (if q.ferr = [] then (⟨w⟩, m, []) else (⟨[]⟩, [], q.ferr)) := by
  rw [F13_eq, h, Option.bind_some, hr]
  simp only [Option.map_some, blockS_ll, bindS_r, condM_t]
  unfold F21
  simp only [fnS_l, Option.bind_some, Side.errS_iff]
  by_cases hq : q.ferr = []
  · simp [hq, fnS]
  · simp [hq, fnS]
theorem lex_cases (s : Bytes) (hs : s.length ≤ 6000) : (∃ ts, lx.lexL s 0 [] = .inl ts ∧ lx.allF s = (ts, [])) ∨ ∃ c a : Int, lx.allF s = ([], [(c, a)]) ∧ (c = 1 ∨ c = 2 ∨ c = 5) ∧ 0 ≤ a ∧ a ≤ s.length := by
  have hp := lx.places s s 0 [] rfl (by omega) (Nat.le_refl _) (by simp)
  rw [allF_le s hs]
  cases h : lx.lexL s 0 [] with
  | inl ts => exact .inl ⟨ts, rfl, rfl⟩
  | inr r =>
    obtain ⟨c, a⟩ := r
    rw [h] at hp
    exact .inr ⟨c, a, rfl, hp.1, by omega, by have := hp.2; omega⟩
theorem F13_lexerr (K : Nat) (hK : 200000 < K) (s : Bytes) {c a : Int} (h : lx.allF s = ([], [(c, a)])) (hc : c = 1 ∨ c = 2 ∨ c = 5) : fnS (F13 K s) = some (⟨[]⟩, [], [(c, a), (c, a)]) := by
  have h18 : fnS (F18 K s) = some ⟨[], 0, Int.ofNat s.length, [(c, a), (c, a)]⟩ := by
    unfold F18
    rw [all_eqA K s hK, h, Option.bind_some]
    have : fnS (F36 K [(c, a)]) = some [(c, a), (c, a)] := by
      show fnS (if c = 1 ∨ c = 2 ∨ c = 5 then some (.inl [(c, a), (c, a)]) else none : Option (Err ⊕ Err)) = _
      rw [if_pos hc]; rfl
    rw [this]; rfl
  have hr : iter K (parB K) ((⟨[], 0, Int.ofNat s.length, [(c, a), (c, a)]⟩ : S65), [], []) = some (.inl ((⟨[], 0, Int.ofNat s.length, [(c, a), (c, a)]⟩ : S65), [], [])) := by
    obtain ⟨k, rfl⟩ : ∃ k, K = k + 1 := ⟨K - 1, by omega⟩
    unfold iter
    rw [Side.parB_end]
    simp
  rw [F13_run K s h18 hr, if_neg (by simp)]
theorem parse_tot (K : Nat) (hK : 200000 < K) (s : Bytes) {ts : List S41} (hx : lx.lexL s 0 [] = .inl ts) (ha : lx.allF s = (ts, [])) :
    ∃ q w m, iter K (parB K) (p0 ts s.length, [], []) = some (.inl (q, w, m)) ∧ w.length = m.length ∧ (sid ts s.length).Ok q ∧ Side.AtEnd q ∧ fnS (F13 K s) = some (if q.ferr = [] then (⟨w⟩, m, []) else (⟨[]⟩, [], q.ferr)) ∧ ∀ a ∈ m, ∃ t ∈ ts, t.fAt = a := by
  obtain ⟨h1, h2⟩ := lexL_at s ts hx
  have g : (sid ts s.length).Good := sid_good (by omega) (fun t ht => by obtain ⟨a, q1, q2, _⟩ := h2 t ht; omega) (by omega)
  have o : (sid ts s.length).Ok (p0 ts s.length) := ok0 (c := sid ts s.length) rfl
  have n1 := Side.nu_T o
  have hT : (sid ts s.length).T.length = ts.length := rfl
  obtain ⟨q, w, m, r1, r2, r3, r4, r5⟩ := Side.tot_loop g (K := K) (by omega) (ts.length + 2) K _ [] [] o (by omega) (by omega) (by simp; omega) (by simp; omega)
  simp only [List.nil_append] at r1
  exact ⟨q, w, m, r1, r2, r3, r4, F13_run K s (F18_eqS K hK s ha) r1, r5⟩
end Go.Proofs.YtphnfaabcnciiaaGreatDoor
