/- What lies in memory is not too long: lists in trees. No conditions. -/
import Derived.Test.YtphnfaabcnciiaaGreatDoorSb
set_option linter.unusedVariables false
set_option linter.unusedSimpArgs false
set_option linter.unusedSectionVars false
namespace Go.Proofs.YtphnfaabcnciiaaGreatDoor
open Go Go.Dl
section
variable {α : Type} {E : El α} {l : List α} {S : Mem} {β : Bmap} {v : Value}
theorem tree_len (h : CRel S β (E.tree l) v) : l.length ≤ maxLen := by
  obtain ⟨a, cap, _, h2, h3, _⟩ := h
  omega
theorem tree_cell (h : CRel S β (E.tree l) v) {x : α} (hx : x ∈ l) {j : Nat} (hj : j < E.w) : ∃ u, CRel S noB ((E.cs x).getD j .bot) u := by
  obtain ⟨a, cap, _, h2, h3, h4⟩ := h
  obtain ⟨i, hi, rfl⟩ := List.mem_iff_getElem.1 hx
  rcases h4 with h4 | ⟨b, off, h5, h6⟩
  · omega
  · obtain ⟨u, _, hu⟩ := h6 i j hi hj
    refine ⟨u, ?_⟩
    unfold El.at at hu
    rwa [show l.getD i E.d = l[i] by simp [List.getD, List.getElem?_eq_getElem hi]] at hu
end
inductive T25 : List S25 → Prop
  | mk (l : List S25) (h : l.length ≤ maxLen) (hx : ∀ x ∈ l, T25 x.fArgs) : T25 l
inductive T122 : List S122 → Prop
  | mk (l : List S122) (h : l.length ≤ maxLen) (hE : ∀ x ∈ l, T25 x.fExprs) (hL : ∀ x ∈ l, x.fLabels.length ≤ maxLen ∧ ∀ y ∈ x.fLabels, y.length ≤ maxLen) (hB : ∀ x ∈ l, x.fBlocks.length ≤ maxLen)
    (hb : ∀ x ∈ l, ∀ b ∈ x.fBlocks, T122 b) : T122 l
structure T93 (x : S93) : Prop where
  p : x.fParams.length ≤ maxLen
  v : x.fVars.length ≤ maxLen
  b : T122 x.fBody
structure T60 (x : S60) : Prop where
  f : x.fFaces.length ≤ maxLen
  v : x.fVars.length ≤ maxLen
  m : x.fMethods.length ≤ maxLen
  ms : ∀ y ∈ x.fMethods, T93 y
  b : T122 x.fBody
structure T44 (x : S44) : Prop where
  l : x.fDecls.length ≤ maxLen
  d : ∀ y ∈ x.fDecls, T60 y
theorem t25 {S : Mem} : ∀ (n : Nat) (l : List S25), SizeOf.sizeOf l < n → ∀ (β : Bmap) (v : Value), CRel S β (E25.tree l) v → T25 l
  | 0, l, hn, _, _, _ => absurd hn (by omega)
  | n + 1, l, hn, β, v, h => by
    refine .mk l (tree_len h) fun x hx => ?_
    obtain ⟨u, hu⟩ := tree_cell h hx (j := 4) (by decide)
    have hs := List.sizeOf_lt_of_mem hx
    have hs2 : SizeOf.sizeOf x.fArgs < SizeOf.sizeOf x := by cases x; simp; omega
    exact t25 n x.fArgs (by omega) noB u (NT25_le x.fArgs _ _ _ hu)
theorem t25' {S : Mem} {l : List S25} {β : Bmap} {v : Value} (h : CRel S β (E25.tree l) v) : T25 l := t25 _ l (Nat.lt_succ_self _) β v h
theorem t122 {S : Mem} : ∀ (n : Nat) (l : List S122), SizeOf.sizeOf l < n → ∀ (β : Bmap) (v : Value), CRel S β (E122.tree l) v → T122 l
  | 0, l, hn, _, _, _ => absurd hn (by omega)
  | n + 1, l, hn, β, v, h => by
    refine .mk l (tree_len h) (fun x hx => ?_) (fun x hx => ?_) (fun x hx => ?_) fun x hx b hb => ?_
    · obtain ⟨u, hu⟩ := tree_cell h hx (j := 3) (by decide)
      exact t25' hu
    · obtain ⟨u, hu⟩ := tree_cell h hx (j := 4) (by decide)
      refine ⟨tree_len (E := E45) hu, fun y hy => ?_⟩
      obtain ⟨u2, hu2⟩ := tree_cell (E := E45) hu hy (j := 0) (by decide)
      exact tree_len (E := E3) hu2
    · obtain ⟨u, hu⟩ := tree_cell h hx (j := 5) (by decide)
      exact tree_len (E := E58) (NTT122_le x.fBlocks _ _ _ hu)
    · obtain ⟨u, hu⟩ := tree_cell h hx (j := 5) (by decide)
      obtain ⟨u2, hu2⟩ := tree_cell (E := E58) (NTT122_le x.fBlocks _ _ _ hu) hb (j := 0) (by decide)
      have hs := List.sizeOf_lt_of_mem hx
      have hs1 := List.sizeOf_lt_of_mem hb
      have hs2 : SizeOf.sizeOf x.fBlocks < SizeOf.sizeOf x := by cases x; simp; omega
      exact t122 n b (by omega) noB u2 hu2
theorem t122' {S : Mem} {l : List S122} {β : Bmap} {v : Value} (h : CRel S β (E122.tree l) v) : T122 l := t122 _ l (Nat.lt_succ_self _) β v h
theorem t44 {S : Mem} {x : S44} {β : Bmap} {v : Value} (h : CRel S β (E60.tree x.fDecls) v) : T44 x := by
  refine ⟨tree_len h, fun y hy => ⟨?_, ?_, ?_, fun z hz => ⟨?_, ?_, ?_⟩, ?_⟩⟩
  · obtain ⟨u, hu⟩ := tree_cell h hy (j := 3) (by decide); exact tree_len (E := E9) hu
  · obtain ⟨u, hu⟩ := tree_cell h hy (j := 6) (by decide); exact tree_len (E := E118) hu
  · obtain ⟨u, hu⟩ := tree_cell h hy (j := 7) (by decide); exact tree_len (E := E93) hu
  · obtain ⟨u, hu⟩ := tree_cell h hy (j := 7) (by decide)
    obtain ⟨u2, hu2⟩ := tree_cell (E := E93) hu hz (j := 4) (by decide); exact tree_len (E := E118) hu2
  · obtain ⟨u, hu⟩ := tree_cell h hy (j := 7) (by decide)
    obtain ⟨u2, hu2⟩ := tree_cell (E := E93) hu hz (j := 9) (by decide); exact tree_len (E := E118) hu2
  · obtain ⟨u, hu⟩ := tree_cell h hy (j := 7) (by decide)
    obtain ⟨u2, hu2⟩ := tree_cell (E := E93) hu hz (j := 10) (by decide); exact t122' hu2
  · obtain ⟨u, hu⟩ := tree_cell h hy (j := 8) (by decide); exact t122' hu
section
variable {A T U : Type}
theorem loop_t {X : Type} {K n : Nat} (hn : n ≤ maxLen) (hK : n < K) (B : Int → Option (((Unit) ⊕ (Unit ⊕ X)) ⊕ Unit)) (hB : ∀ i : Nat, i < n → B (i : Int) = some (.inr ())) :
    (iter K (fun (u : Int) => (if decide ((u : Int) < (Int.ofNat n)) = true then (bindS (blockS (B u)) (fun (_ : Unit) => (some (.inr ((IntKind.i64.wrap (u + 1))))))) else (some (.inl (Sum.inl ())))) : Int → Option ((Unit ⊕ X) ⊕ Int)) 0) = some (Sum.inl ()) := by
  refine iter_run (fun t : Int => n - t.toNat) (fun _ => Sum.inl ()) (fun t => 0 ≤ t ∧ t.toNat ≤ n) ?_ K 0 (by simp) (by simpa using hK)
  rintro i ⟨g1, g2⟩
  obtain ⟨k, rfl⟩ : ∃ k : Nat, i = (k : Int) := ⟨i.toNat, by omega⟩
  simp only [Int.toNat_natCast] at g2
  have hm : maxLen ≤ 9223372036854775807 := by unfold maxLen; omega
  by_cases hk : k < n
  · left
    rw [if_pos (by simp; omega), hB k hk]
    refine ⟨((k + 1 : Nat) : Int), ?_, ⟨by omega, by simp; omega⟩, by simp; omega, rfl⟩
    rw [blockS_r, bindS_r, wrap64 (by omega) (by omega)]; rfl
  · right
    rw [if_neg (by simp; omega)]
end
theorem ne_self (a : Int) : (a != a) = false := bne_self_eq_false a
theorem same33 {l : List Bytes} (h : l.length ≤ maxLen) {K : Nat} (hK : l.length < K) : fnS (F33 K l l) = some true := by
  unfold F33
  simp only [letV, ne_self, Bool.false_eq_true, if_false]
  rw [loop_t h hK _ fun i hi => by rw [chk_t (inb_nat hi), chk_t (inb_nat hi), chk_nil] <;> simp]
  rfl
theorem same34 {l : List S118} (h : l.length ≤ maxLen) {K : Nat} (hK : l.length < K) : fnS (F34 K l l) = some true := by
  unfold F34
  simp only [letV, ne_self, Bool.false_eq_true, if_false]
  rw [loop_t h hK _ fun i hi => by rw [chk_t (inb_nat hi), chk_t (inb_nat hi), chk_nil] <;> simp]
  rfl
theorem same17 {l : List Int} (h : l.length ≤ maxLen) {K : Nat} (hK : l.length < K) : fnS (F17 K l l) = some true := by
  unfold F17
  simp only [letV, ne_self, Bool.false_eq_true, if_false]
  rw [loop_t h hK _ fun i hi => by rw [chk_t (inb_nat hi), chk_t (inb_nat hi), chk_nil] <;> simp]
  rfl
def Ev (P : Nat → Prop) : Prop := ∃ N, ∀ K, N ≤ K → P K
theorem Ev.and {P Q : Nat → Prop} (h : Ev P) (k : Ev Q) : Ev fun K => P K ∧ Q K := by
  obtain ⟨n, h⟩ := h
  obtain ⟨m, k⟩ := k
  exact ⟨n + m, fun K hK => ⟨h K (by omega), k K (by omega)⟩⟩
theorem Ev.all {α : Type} {P : α → Nat → Prop} : ∀ (l : List α), (∀ x ∈ l, Ev (P x)) → Ev fun K => ∀ x ∈ l, P x K
  | [], _ => ⟨0, fun K _ x hx => by cases hx⟩
  | a :: l, h => by
    obtain ⟨n, h1⟩ := h a (List.mem_cons_self ..)
    obtain ⟨m, h2⟩ := Ev.all l fun x hx => h x (List.mem_cons_of_mem _ hx)
    exact ⟨n + m, fun K hK x hx => by
      rcases List.mem_cons.1 hx with rfl | hx
      · exact h1 K (by omega)
      · exact h2 K (by omega) x hx⟩
theorem Ev.ge (n : Nat) : Ev fun K => n < K := ⟨n + 1, fun K h => by omega⟩
theorem Ev.mono {P Q : Nat → Prop} (h : Ev P) (k : ∀ K, P K → Q K) : Ev Q := by
  obtain ⟨n, h⟩ := h
  exact ⟨n, fun K hK => k K (h K hK)⟩
theorem Ev.succ {P Q : Nat → Prop} (h : Ev P) (k : ∀ K, P K → Q (K + 1)) : Ev Q := by
  obtain ⟨n, h⟩ := h
  refine ⟨n + 1, fun K hK => ?_⟩
  obtain ⟨m, rfl⟩ : ∃ m, K = m + 1 := ⟨K - 1, by omega⟩
  exact k m (h m (by omega))
theorem getD_mem {α : Type} (l : List α) (d : α) (i : Nat) (h : i < l.length) : l.getD i d ∈ l := by
  simp [List.getD, List.getElem?_eq_getElem h]
theorem same26 {l : List S25} (h : T25 l) : Ev fun K => fnS (F26 K l l) = some true := by
  induction h with
  | mk l hl _ ih =>
    refine Ev.succ (Ev.succ ((Ev.all l ih).and (Ev.ge l.length)) (Q := fun K => (∀ x ∈ l, fnS (F11 K x x) = some true) ∧ l.length < K) fun K ⟨h1, h2⟩ => ⟨fun x hx => ?_, by omega⟩) fun K ⟨h1, h2⟩ => ?_
    · rw [F11]
      simp only [letV, beq_self_eq_true, Bool.and_self, condM, if_true, h1 x hx, Option.bind_some]
      rfl
    · rw [F26]
      simp only [letV, ne_self, Bool.false_eq_true, if_false]
      rw [loop_t hl h2 _ fun i hi => by rw [chk_t (inb_nat hi), chk_t (inb_nat hi), chk_nil, Int.toNat_natCast]; simp only [condM, if_true, h1 _ (getD_mem l default i hi), Option.bind_some, Bool.not_true, Bool.false_eq_true, if_false]]
      rfl
theorem same35 {l : List S122} (h : T122 l) : Ev fun K => fnS (F35 K l l) = some true := by
  induction h with
  | mk l hl hE hL hB _ ih =>
    have h1 := Ev.all l fun x hx => same26 (hE x hx)
    have h2 := Ev.all l fun x hx => Ev.all x.fBlocks (ih x hx)
    have h3 := Ev.all l fun x hx => Ev.all x.fLabels fun y hy => Ev.ge y.length
    have h4 := Ev.all l fun x hx => Ev.ge x.fLabels.length
    have h5 := Ev.all l fun x hx => Ev.ge x.fBlocks.length
    refine Ev.succ ((((h1.and h2).and h3).and (h4.and h5)).and (Ev.ge l.length)) fun K ⟨⟨⟨⟨g1, g2⟩, g3⟩, g4, g5⟩, g6⟩ => ?_
    rw [F35]
    simp only [letV, ne_self, Bool.false_eq_true, if_false]
    rw [loop_t hl g6 _ fun i hi => ?_]
    · rfl
    · have hm := getD_mem l default i hi
      simp only [Int.toNat_natCast]
      rw [chk_t (inb_nat hi), chk_nil, chk_t (inb_nat hi), chk_nil]
      simp only [beq_self_eq_true, Bool.not_true, Bool.or_self, Bool.not_false, condM, if_true, g1 _ hm, Option.bind_some, Bool.or_false, Bool.false_eq_true, if_false]
      rw [loop_t (hL _ hm).1 (g4 _ hm) _ fun j hj => ?_]
      · simp only [Option.map_some, blockS_ll, bindS_r]
        rw [loop_t (hB _ hm) (g5 _ hm) _ fun j hj => ?_]
        · rfl
        · rw [chk_t (inb_nat hj), chk_t (inb_nat hj), chk_nil]
          simp only [Int.toNat_natCast, condM, if_true, g2 _ hm _ (getD_mem (l.getD i default).fBlocks default j hj), Option.bind_some, Bool.not_true, Bool.false_eq_true, if_false]
      · rw [chk_t (inb_nat hj), chk_t (inb_nat hj), chk_nil]
        have hy := getD_mem (l.getD i default).fLabels default j hj
        simp only [Int.toNat_natCast, condM, if_true, same17 ((hL _ hm).2 _ hy) (g3 _ hm _ hy), Option.bind_some, Bool.not_true, Bool.false_eq_true, if_false]
theorem same15 {u : S44} (h : T44 u) : Ev fun K => fnS (F15 K u u) = some true := by
  have h1 := Ev.all u.fDecls fun x hx => Ev.ge x.fFaces.length
  have h2 := Ev.all u.fDecls fun x hx => Ev.ge x.fVars.length
  have h3 := Ev.all u.fDecls fun x hx => Ev.ge x.fMethods.length
  have h4 := Ev.all u.fDecls fun x hx => same35 (h.d x hx).b
  have h5 := Ev.all u.fDecls fun x hx => Ev.all x.fMethods fun y hy => ((Ev.ge y.fParams.length).and (Ev.ge y.fVars.length)).and (same35 ((h.d x hx).ms y hy).b)
  refine ((((h1.and h2).and (h3.and h4)).and h5).and (Ev.ge u.fDecls.length)).mono fun K ⟨⟨⟨⟨g1, g2⟩, g3, g4⟩, g5⟩, g6⟩ => ?_
  unfold F15
  simp only [letV, ne_self, Bool.false_eq_true, if_false]
  rw [loop_t h.l g6 _ fun i hi => ?_]
  · rfl
  · have hm := getD_mem u.fDecls default i hi
    have ht := h.d _ hm
    simp only [Int.toNat_natCast]
    rw [chk_t (inb_nat hi), chk_nil, chk_t (inb_nat hi), chk_nil]
    simp only [beq_self_eq_true, Bool.not_true, Bool.or_self, Bool.not_false, condM, if_true, same33 ht.f (g1 _ hm), same34 ht.v (g2 _ hm), g4 _ hm, Option.bind_some, Bool.or_false, Bool.false_eq_true, if_false]
    rw [loop_t ht.m (g3 _ hm) _ fun j hj => ?_]
    · rfl
    · have hy := getD_mem (u.fDecls.getD i default).fMethods default j hj
      have hs := ht.ms _ hy
      obtain ⟨⟨q1, q2⟩, q3⟩ := g5 _ hm _ hy
      simp only [Int.toNat_natCast]
      rw [chk_t (inb_nat hj), chk_nil, chk_t (inb_nat hj), chk_nil]
      simp only [beq_self_eq_true, Bool.not_true, Bool.or_self, Bool.not_false, condM, if_true, Bool.and_self, same34 hs.p q1, same34 hs.v q2, q3, Option.bind_some, Bool.or_false, Bool.false_eq_true, if_false]
open Classical in
noncomputable def F15e (K : Nat) (a0 a1 : S44) : Option (Bool ⊕ Bool) := if a0 = a1 then some (.inl true) else none
theorem F15e_ok (K : Nat) (a0 a1 : S44) : DFun Tryz.prog 15 [.agg (E44.cs a0), .agg (E44.cs a1)] [] (fnS (F15e K a0 a1)) (fun r => .c (.val (.bool r))) (fun r => []) := by
  intro S β w vs hc hv r hr
  unfold F15e at hr
  split at hr
  · rename_i e
    subst e
    obtain rfl : true = r := by simpa [fnS] using hr
    obtain ⟨v0, r0, rfl, h0, h1⟩ := id hv
    obtain ⟨ws, _, hw⟩ := h0
    obtain ⟨w0, w1, _, hw0, _⟩ := hw
    obtain ⟨N, hN⟩ := same15 (t44 (x := a0) hw0)
    exact F15_ok N a0 a0 S β w _ hc hv true (hN N (Nat.le_refl _))
  · cases hr
end Go.Proofs.YtphnfaabcnciiaaGreatDoor
