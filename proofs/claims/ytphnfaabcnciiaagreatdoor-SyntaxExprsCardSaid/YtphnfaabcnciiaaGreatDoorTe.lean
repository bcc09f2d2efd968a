/- What lies in memory is not too long: lists in trees. No conditions. -/
import Derived.Test.YtphnfaabcnciiaaGreatDoorSa
set_option linter.unusedVariables false
set_option linter.unusedSimpArgs false
set_option linter.unusedSectionVars false
namespace Go.Proofs.YtphnfaabcnciiaaGreatDoor
open Go Go.Dl
section
variable {α : Type} {E : El α} {l : List α} {S : Mem} {β : Bmap} {v : Value}
theorem tree_len (h : CRel S β (E.tree l) v) : l.length ≤ maxLen := by
  obtain ⟨a, cap, _, h2, h3, _⟩ := h
  omega
theorem tree_cell (h : CRel S β (E.tree l) v) {x : α} (hx : x ∈ l) {j : Nat} (hj : j < E.w) : ∃ u, CRel S noB ((E.cs x).getD j .bot) u := by
  obtain ⟨a, cap, _, h2, h3, h4⟩ := h
  obtain ⟨i, hi, rfl⟩ := List.mem_iff_getElem.1 hx
  rcases h4 with h4 | ⟨b, off, h5, h6⟩
  · omega
  · obtain ⟨u, _, hu⟩ := h6 i j hi hj
    refine ⟨u, ?_⟩
    unfold El.at at hu
    rwa [show l.getD i E.d = l[i] by simp [List.getD, List.getElem?_eq_getElem hi]] at hu
end
inductive T25 : List S25 → Prop
  | mk (l : List S25) (h : l.length ≤ maxLen) (hx : ∀ x ∈ l, T25 x.fArgs) : T25 l
theorem t25 {S : Mem} : ∀ (n : Nat) (l : List S25), SizeOf.sizeOf l < n → ∀ (β : Bmap) (v : Value), CRel S β (E25.tree l) v → T25 l
  | 0, l, hn, _, _, _ => absurd hn (by omega)
  | n + 1, l, hn, β, v, h => by
    refine .mk l (tree_len h) fun x hx => ?_
    obtain ⟨u, hu⟩ := tree_cell h hx (j := 4) (by decide)
    have hs := List.sizeOf_lt_of_mem hx
    have hs2 : SizeOf.sizeOf x.fArgs < SizeOf.sizeOf x := by cases x; simp; omega
    exact t25 n x.fArgs (by omega) noB u (NT25_le x.fArgs _ _ _ hu)
theorem t25' {S : Mem} {l : List S25} {β : Bmap} {v : Value} (h : CRel S β (E25.tree l) v) : T25 l := t25 _ l (Nat.lt_succ_self _) β v h
section
variable {A T U : Type}
theorem loop_t {X : Type} {K n : Nat} (hn : n ≤ maxLen) (hK : n < K) (B : Int → Option (((Unit) ⊕ (Unit ⊕ X)) ⊕ Unit)) (hB : ∀ i : Nat, i < n → B (i : Int) = some (.inr ())) :
    (iter K (fun (u : Int) => (if decide ((u : Int) < (Int.ofNat n)) = true then (bindS (blockS (B u)) (fun (_ : Unit) => (some (.inr ((IntKind.i64.wrap (u + 1))))))) else (some (.inl (Sum.inl ())))) : Int → Option ((Unit ⊕ X) ⊕ Int)) 0) = some (Sum.inl ()) := by
  refine iter_run (fun t : Int => n - t.toNat) (fun _ => Sum.inl ()) (fun t => 0 ≤ t ∧ t.toNat ≤ n) ?_ K 0 (by simp) (by simpa using hK)
  rintro i ⟨g1, g2⟩
  obtain ⟨k, rfl⟩ : ∃ k : Nat, i = (k : Int) := ⟨i.toNat, by omega⟩
  simp only [Int.toNat_natCast] at g2
  have hm : maxLen ≤ 9223372036854775807 := by unfold maxLen; omega
  by_cases hk : k < n
  · left
    rw [if_pos (by simp; omega), hB k hk]
    refine ⟨((k + 1 : Nat) : Int), ?_, ⟨by omega, by simp; omega⟩, by simp; omega, rfl⟩
    rw [blockS_r, bindS_r, wrap64 (by omega) (by omega)]; rfl
  · right
    rw [if_neg (by simp; omega)]
end
theorem ne_self (a : Int) : (a != a) = false := bne_self_eq_false a
def Ev (P : Nat → Prop) : Prop := ∃ N, ∀ K, N ≤ K → P K
theorem Ev.and {P Q : Nat → Prop} (h : Ev P) (k : Ev Q) : Ev fun K => P K ∧ Q K := by
  obtain ⟨n, h⟩ := h
  obtain ⟨m, k⟩ := k
  exact ⟨n + m, fun K hK => ⟨h K (by omega), k K (by omega)⟩⟩
theorem Ev.all {α : Type} {P : α → Nat → Prop} : ∀ (l : List α), (∀ x ∈ l, Ev (P x)) → Ev fun K => ∀ x ∈ l, P x K
  | [], _ => ⟨0, fun K _ x hx => by cases hx⟩
  | a :: l, h => by
    obtain ⟨n, h1⟩ := h a (List.mem_cons_self ..)
    obtain ⟨m, h2⟩ := Ev.all l fun x hx => h x (List.mem_cons_of_mem _ hx)
    exact ⟨n + m, fun K hK x hx => by
      rcases List.mem_cons.1 hx with rfl | hx
      · exact h1 K (by omega)
      · exact h2 K (by omega) x hx⟩
theorem Ev.ge (n : Nat) : Ev fun K => n < K := ⟨n + 1, fun K h => by omega⟩
theorem Ev.mono {P Q : Nat → Prop} (h : Ev P) (k : ∀ K, P K → Q K) : Ev Q := by
  obtain ⟨n, h⟩ := h
  exact ⟨n, fun K hK => k K (h K hK)⟩
theorem Ev.succ {P Q : Nat → Prop} (h : Ev P) (k : ∀ K, P K → Q (K + 1)) : Ev Q := by
  obtain ⟨n, h⟩ := h
  refine ⟨n + 1, fun K hK => ?_⟩
  obtain ⟨m, rfl⟩ : ∃ m, K = m + 1 := ⟨K - 1, by omega⟩
  exact k m (h m (by omega))
theorem getD_mem {α : Type} (l : List α) (d : α) (i : Nat) (h : i < l.length) : l.getD i d ∈ l := by
  simp [List.getD, List.getElem?_eq_getElem h]
theorem same26 {l : List S25} (h : T25 l) : Ev fun K => fnS (F26 K l l) = some true := by
  induction h with
  | mk l hl _ ih =>
    refine Ev.succ (Ev.succ ((Ev.all l ih).and (Ev.ge l.length)) (Q := fun K => (∀ x ∈ l, fnS (F11 K x x) = some true) ∧ l.length < K) fun K ⟨h1, h2⟩ => ⟨fun x hx => ?_, by omega⟩) fun K ⟨h1, h2⟩ => ?_
    · rw [F11]
      simp only [letV, beq_self_eq_true, Bool.and_self, condM, if_true, h1 x hx, Option.bind_some]
      rfl
    · rw [F26]
      simp only [letV, ne_self, Bool.false_eq_true, if_false]
      rw [loop_t hl h2 _ fun i hi => by rw [chk_t (inb_nat hi), chk_t (inb_nat hi), chk_nil, Int.toNat_natCast]; simp only [condM, if_true, h1 _ (getD_mem l default i hi), Option.bind_some, Bool.not_true, Bool.false_eq_true, if_false]]
      rfl
theorem same11 {x : S25} (h : T25 x.fArgs) : Ev fun K => fnS (F11 K x x) = some true := by
  refine Ev.succ (same26 h) fun K h1 => ?_
  rw [F11]
  simp only [letV, beq_self_eq_true, Bool.and_self, condM, if_true, h1, Option.bind_some]
  rfl
open Classical in
noncomputable def F11e (K : Nat) (a0 a1 : S25) : Option (Bool ⊕ Bool) := if a0 = a1 then some (.inl true) else none
theorem F11e_ok (K : Nat) (a0 a1 : S25) : DFun Tryz.prog 11 [.agg (E25.cs a0), .agg (E25.cs a1)] [] (fnS (F11e K a0 a1)) (fun r => .c (.val (.bool r))) (fun r => []) := by
  intro S β w vs hc hv r hr
  unfold F11e at hr
  split at hr
  · rename_i e
    subst e
    obtain rfl : true = r := by simpa [fnS] using hr
    obtain ⟨v0, r0, rfl, h0, h1⟩ := id hv
    obtain ⟨ws, _, hw⟩ := h0
    obtain ⟨w0, l0, _, _, w1, l1, _, _, w2, l2, _, _, w3, l3, _, _, w4, l4, _, hw4, _⟩ := hw
    obtain ⟨N, hN⟩ := same11 (x := a0) (t25' (NT25_le a0.fArgs _ _ _ hw4))
    exact F11_ok N a0 a0 S β w _ hc hv true (hN N (Nat.le_refl _))
  · cases hr
end Go.Proofs.YtphnfaabcnciiaaGreatDoor
