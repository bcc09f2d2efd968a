/- Sixteen-fold nodes, places by digits, and a memory over them: plain structures, for the kernel to compute; what is laid is found again. No conditions. -/
set_option linter.unusedVariables false
set_option linter.unusedSimpArgs false
set_option linter.unusedSectionVars false
set_option linter.constructorNameAsVariable false
namespace Go.Qm
noncomputable section

inductive D where
  | d0
  | d1
  | d2
  | d3
  | d4
  | d5
  | d6
  | d7
  | d8
  | d9
  | d10
  | d11
  | d12
  | d13
  | d14
  | d15

structure N (α : Type) where
  mk :: (c0 c1 c2 c3 c4 c5 c6 c7 c8 c9 c10 c11 c12 c13 c14 c15 : α)

/-- A digit's number. -/
def D.v (d : D) : Nat := D.rec (motive := fun _ => Nat) 0 1 2 3 4 5 6 7 8 9 10 11 12 13 14 15 d

/-- How a digit looks into a node, and lays something into it. -/
structure Tb : Type 1 where
  g : (α : Type) → N α → α
  u : (α : Type) → N α → α → (N α → Bool) → Bool

def tb0 : Tb := ⟨fun _ t => t.c0, fun _ t x k => N.rec (motive := fun _ => Bool) (fun _ c1 c2 c3 c4 c5 c6 c7 c8 c9 c10 c11 c12 c13 c14 c15 => k ⟨x, c1, c2, c3, c4, c5, c6, c7, c8, c9, c10, c11, c12, c13, c14, c15⟩) t⟩
def tb1 : Tb := ⟨fun _ t => t.c1, fun _ t x k => N.rec (motive := fun _ => Bool) (fun c0 _ c2 c3 c4 c5 c6 c7 c8 c9 c10 c11 c12 c13 c14 c15 => k ⟨c0, x, c2, c3, c4, c5, c6, c7, c8, c9, c10, c11, c12, c13, c14, c15⟩) t⟩
def tb2 : Tb := ⟨fun _ t => t.c2, fun _ t x k => N.rec (motive := fun _ => Bool) (fun c0 c1 _ c3 c4 c5 c6 c7 c8 c9 c10 c11 c12 c13 c14 c15 => k ⟨c0, c1, x, c3, c4, c5, c6, c7, c8, c9, c10, c11, c12, c13, c14, c15⟩) t⟩
def tb3 : Tb := ⟨fun _ t => t.c3, fun _ t x k => N.rec (motive := fun _ => Bool) (fun c0 c1 c2 _ c4 c5 c6 c7 c8 c9 c10 c11 c12 c13 c14 c15 => k ⟨c0, c1, c2, x, c4, c5, c6, c7, c8, c9, c10, c11, c12, c13, c14, c15⟩) t⟩
def tb4 : Tb := ⟨fun _ t => t.c4, fun _ t x k => N.rec (motive := fun _ => Bool) (fun c0 c1 c2 c3 _ c5 c6 c7 c8 c9 c10 c11 c12 c13 c14 c15 => k ⟨c0, c1, c2, c3, x, c5, c6, c7, c8, c9, c10, c11, c12, c13, c14, c15⟩) t⟩
def tb5 : Tb := ⟨fun _ t => t.c5, fun _ t x k => N.rec (motive := fun _ => Bool) (fun c0 c1 c2 c3 c4 _ c6 c7 c8 c9 c10 c11 c12 c13 c14 c15 => k ⟨c0, c1, c2, c3, c4, x, c6, c7, c8, c9, c10, c11, c12, c13, c14, c15⟩) t⟩
def tb6 : Tb := ⟨fun _ t => t.c6, fun _ t x k => N.rec (motive := fun _ => Bool) (fun c0 c1 c2 c3 c4 c5 _ c7 c8 c9 c10 c11 c12 c13 c14 c15 => k ⟨c0, c1, c2, c3, c4, c5, x, c7, c8, c9, c10, c11, c12, c13, c14, c15⟩) t⟩
def tb7 : Tb := ⟨fun _ t => t.c7, fun _ t x k => N.rec (motive := fun _ => Bool) (fun c0 c1 c2 c3 c4 c5 c6 _ c8 c9 c10 c11 c12 c13 c14 c15 => k ⟨c0, c1, c2, c3, c4, c5, c6, x, c8, c9, c10, c11, c12, c13, c14, c15⟩) t⟩
def tb8 : Tb := ⟨fun _ t => t.c8, fun _ t x k => N.rec (motive := fun _ => Bool) (fun c0 c1 c2 c3 c4 c5 c6 c7 _ c9 c10 c11 c12 c13 c14 c15 => k ⟨c0, c1, c2, c3, c4, c5, c6, c7, x, c9, c10, c11, c12, c13, c14, c15⟩) t⟩
def tb9 : Tb := ⟨fun _ t => t.c9, fun _ t x k => N.rec (motive := fun _ => Bool) (fun c0 c1 c2 c3 c4 c5 c6 c7 c8 _ c10 c11 c12 c13 c14 c15 => k ⟨c0, c1, c2, c3, c4, c5, c6, c7, c8, x, c10, c11, c12, c13, c14, c15⟩) t⟩
def tb10 : Tb := ⟨fun _ t => t.c10, fun _ t x k => N.rec (motive := fun _ => Bool) (fun c0 c1 c2 c3 c4 c5 c6 c7 c8 c9 _ c11 c12 c13 c14 c15 => k ⟨c0, c1, c2, c3, c4, c5, c6, c7, c8, c9, x, c11, c12, c13, c14, c15⟩) t⟩
def tb11 : Tb := ⟨fun _ t => t.c11, fun _ t x k => N.rec (motive := fun _ => Bool) (fun c0 c1 c2 c3 c4 c5 c6 c7 c8 c9 c10 _ c12 c13 c14 c15 => k ⟨c0, c1, c2, c3, c4, c5, c6, c7, c8, c9, c10, x, c12, c13, c14, c15⟩) t⟩
def tb12 : Tb := ⟨fun _ t => t.c12, fun _ t x k => N.rec (motive := fun _ => Bool) (fun c0 c1 c2 c3 c4 c5 c6 c7 c8 c9 c10 c11 _ c13 c14 c15 => k ⟨c0, c1, c2, c3, c4, c5, c6, c7, c8, c9, c10, c11, x, c13, c14, c15⟩) t⟩
def tb13 : Tb := ⟨fun _ t => t.c13, fun _ t x k => N.rec (motive := fun _ => Bool) (fun c0 c1 c2 c3 c4 c5 c6 c7 c8 c9 c10 c11 c12 _ c14 c15 => k ⟨c0, c1, c2, c3, c4, c5, c6, c7, c8, c9, c10, c11, c12, x, c14, c15⟩) t⟩
def tb14 : Tb := ⟨fun _ t => t.c14, fun _ t x k => N.rec (motive := fun _ => Bool) (fun c0 c1 c2 c3 c4 c5 c6 c7 c8 c9 c10 c11 c12 c13 _ c15 => k ⟨c0, c1, c2, c3, c4, c5, c6, c7, c8, c9, c10, c11, c12, c13, x, c15⟩) t⟩
def tb15 : Tb := ⟨fun _ t => t.c15, fun _ t x k => N.rec (motive := fun _ => Bool) (fun c0 c1 c2 c3 c4 c5 c6 c7 c8 c9 c10 c11 c12 c13 c14 _ => k ⟨c0, c1, c2, c3, c4, c5, c6, c7, c8, c9, c10, c11, c12, c13, c14, x⟩) t⟩
def tab (d : D) : Tb := D.rec (motive := fun _ => Tb) tb0 tb1 tb2 tb3 tb4 tb5 tb6 tb7 tb8 tb9 tb10 tb11 tb12 tb13 tb14 tb15 d

def ng {α : Type} (d : D) (t : N α) : α := (tab d).g α t
def nu {α : Type} (d : D) (t : N α) (x : α) (k : N α → Bool) : Bool := (tab d).u α t x k

/-- A node with one thing changed, as such. -/
def N.set {α : Type} (t : N α) (d : D) (x : α) : N α := ⟨(match d with | .d0 => x | _ => t.c0), (match d with | .d1 => x | _ => t.c1), (match d with | .d2 => x | _ => t.c2), (match d with | .d3 => x | _ => t.c3), (match d with | .d4 => x | _ => t.c4), (match d with | .d5 => x | _ => t.c5), (match d with | .d6 => x | _ => t.c6), (match d with | .d7 => x | _ => t.c7), (match d with | .d8 => x | _ => t.c8), (match d with | .d9 => x | _ => t.c9), (match d with | .d10 => x | _ => t.c10), (match d with | .d11 => x | _ => t.c11), (match d with | .d12 => x | _ => t.c12), (match d with | .d13 => x | _ => t.c13), (match d with | .d14 => x | _ => t.c14), (match d with | .d15 => x | _ => t.c15)⟩

theorem nu_eq {α : Type} (d : D) (t : N α) (x : α) (k : N α → Bool) : nu d t x k = k (t.set d x) := by
  cases t; cases d <;> rfl

theorem ng_set_same {α : Type} (d : D) (t : N α) (x : α) : ng d (t.set d x) = x := by cases d <;> rfl

theorem ng_set_ne {α : Type} {d d' : D} (t : N α) (x : α) (h : d' ≠ d) : ng d' (t.set d x) = ng d' t := by
  cases d <;> cases d' <;> first | rfl | exact absurd rfl h

/-- A node of sixteen alike. -/
def nfill {α : Type} (x : α) : N α := ⟨x, x, x, x, x, x, x, x, x, x, x, x, x, x, x, x⟩

theorem ng_fill {α : Type} (d : D) (x : α) : ng d (nfill x) = x := by cases d <;> rfl

theorem D.v_lt (d : D) : d.v < 16 := by cases d <;> decide
theorem D.v_inj {d d' : D} (h : d.v = d'.v) : d = d' := by cases d <;> cases d' <;> first | rfl | (exact absurd h (by decide))

/-- The digit of a number, as far as it is below 16. -/
def digA (n : Nat) : Bool → Bool → Bool → Bool → D := fun a b c d =>
  Bool.rec (Bool.rec (Bool.rec (Bool.rec .d15 .d14 a) (Bool.rec .d13 .d12 a) b) (Bool.rec (Bool.rec .d11 .d10 a) (Bool.rec .d9 .d8 a) b) c) (Bool.rec (Bool.rec (Bool.rec .d7 .d6 a) (Bool.rec .d5 .d4 a) b) (Bool.rec (Bool.rec .d3 .d2 a) (Bool.rec .d1 .d0 a) b) c) d
def dig (n : Nat) : D := digA n (Nat.beq (Nat.mod n 2) 0) (Nat.beq (Nat.mod (Nat.div n 2) 2) 0) (Nat.beq (Nat.mod (Nat.div n 4) 2) 0) (Nat.beq (Nat.mod (Nat.div n 8) 2) 0)


theorem dig_v (n : Nat) : (dig n).v = n % 16 := by
  have e : dig n = dig (n % 16) := by
    have h1 : n % 16 % 2 = n % 2 := by omega
    have h2 : n % 16 / 2 % 2 = n / 2 % 2 := by omega
    have h3 : n % 16 / 4 % 2 = n / 4 % 2 := by omega
    have h4 : n % 16 / 8 % 2 = n / 8 % 2 := by omega
    show digA n (Nat.beq (n % 2) 0) (Nat.beq (n / 2 % 2) 0) (Nat.beq (n / 4 % 2) 0) (Nat.beq (n / 8 % 2) 0) = digA (n % 16) (Nat.beq (n % 16 % 2) 0) (Nat.beq (n % 16 / 2 % 2) 0) (Nat.beq (n % 16 / 4 % 2) 0) (Nat.beq (n % 16 / 8 % 2) 0)
    rw [h1, h2, h3, h4]
    rfl
  rw [e]
  have : n % 16 < 16 := Nat.mod_lt _ (by decide)
  generalize n % 16 = m at *
  match m, this with
  | 0, _ => rfl
  | 1, _ => rfl
  | 2, _ => rfl
  | 3, _ => rfl
  | 4, _ => rfl
  | 5, _ => rfl
  | 6, _ => rfl
  | 7, _ => rfl
  | 8, _ => rfl
  | 9, _ => rfl
  | 10, _ => rfl
  | 11, _ => rfl
  | 12, _ => rfl
  | 13, _ => rfl
  | 14, _ => rfl
  | 15, _ => rfl
  | n + 16, h => omega

/-- A place: five digits. -/
structure Pt where
  mk :: (a b c d e : D)

def Pt.num (q : Pt) : Nat := (((q.a.v * 16 + q.b.v) * 16 + q.c.v) * 16 + q.d.v) * 16 + q.e.v

theorem Pt.num_inj {p q : Pt} (h : p.num = q.num) : p = q := by
  obtain ⟨a, b, c, d, e⟩ := p
  obtain ⟨a', b', c', d', e'⟩ := q
  have h1 := a.v_lt; have h2 := b.v_lt; have h3 := c.v_lt; have h4 := d.v_lt; have h5 := e.v_lt
  have k1 := a'.v_lt; have k2 := b'.v_lt; have k3 := c'.v_lt; have k4 := d'.v_lt; have k5 := e'.v_lt
  simp only [Pt.num] at h
  obtain rfl := D.v_inj (show a.v = a'.v by omega)
  obtain rfl := D.v_inj (show b.v = b'.v by omega)
  obtain rfl := D.v_inj (show c.v = c'.v by omega)
  obtain rfl := D.v_inj (show d.v = d'.v by omega)
  obtain rfl := D.v_inj (show e.v = e'.v by omega)
  rfl

theorem Pt.num_lt (q : Pt) : q.num < 1048576 := by
  have h1 := q.a.v_lt; have h2 := q.b.v_lt; have h3 := q.c.v_lt; have h4 := q.d.v_lt; have h5 := q.e.v_lt
  simp only [Pt.num]; omega

def Pt.of (n : Nat) : Pt := ⟨dig (n / 65536), dig (n / 4096), dig (n / 256), dig (n / 16), dig n⟩

theorem Pt.of_num {n : Nat} (h : n < 1048576) : (Pt.of n).num = n := by
  simp only [Pt.num, Pt.of, dig_v]
  omega

theorem Pt.of_of (q : Pt) : Pt.of q.num = q := Pt.num_inj (Pt.of_num q.num_lt)

/-- The next digit, or the other thing behind the last one. -/
def dsucc (d : D) (k : D → Bool) (over : Bool) : Bool := D.rec (motive := fun _ => Bool) (k .d1) (k .d2) (k .d3) (k .d4) (k .d5) (k .d6) (k .d7) (k .d8) (k .d9) (k .d10) (k .d11) (k .d12) (k .d13) (k .d14) (k .d15) over d

theorem dsucc_spec {d : D} {k : D → Bool} {over : Bool} (h : dsucc d k over = true) : (∃ d', d'.v = d.v + 1 ∧ k d' = true) ∨ (d.v = 15 ∧ over = true) := by
  cases d
  · exact .inl ⟨.d1, rfl, h⟩
  · exact .inl ⟨.d2, rfl, h⟩
  · exact .inl ⟨.d3, rfl, h⟩
  · exact .inl ⟨.d4, rfl, h⟩
  · exact .inl ⟨.d5, rfl, h⟩
  · exact .inl ⟨.d6, rfl, h⟩
  · exact .inl ⟨.d7, rfl, h⟩
  · exact .inl ⟨.d8, rfl, h⟩
  · exact .inl ⟨.d9, rfl, h⟩
  · exact .inl ⟨.d10, rfl, h⟩
  · exact .inl ⟨.d11, rfl, h⟩
  · exact .inl ⟨.d12, rfl, h⟩
  · exact .inl ⟨.d13, rfl, h⟩
  · exact .inl ⟨.d14, rfl, h⟩
  · exact .inl ⟨.d15, rfl, h⟩
  · exact .inr ⟨rfl, h⟩

/-- The next place. -/
def psucc (q : Pt) (k : Pt → Bool) : Bool := Pt.rec (motive := fun _ => Bool) (fun a b c d e =>
  dsucc e (fun e => k ⟨a, b, c, d, e⟩) (dsucc d (fun d => k ⟨a, b, c, d, .d0⟩) (dsucc c (fun c => k ⟨a, b, c, .d0, .d0⟩) (dsucc b (fun b => k ⟨a, b, .d0, .d0, .d0⟩) (dsucc a (fun a => k ⟨a, .d0, .d0, .d0, .d0⟩) false))))) q

theorem psucc_spec {q : Pt} {k : Pt → Bool} (h : psucc q k = true) : ∃ q', q'.num = q.num + 1 ∧ k q' = true := by
  obtain ⟨a, b, c, d, e⟩ := q
  have z : D.d0.v = 0 := rfl
  rcases dsucc_spec (show dsucc e (fun e => k ⟨a, b, c, d, e⟩) (dsucc d (fun d => k ⟨a, b, c, d, .d0⟩) (dsucc c (fun c => k ⟨a, b, c, .d0, .d0⟩) (dsucc b (fun b => k ⟨a, b, .d0, .d0, .d0⟩) (dsucc a (fun a => k ⟨a, .d0, .d0, .d0, .d0⟩) false)))) = true from h) with ⟨x, hx, hk⟩ | ⟨he, h⟩
  · exact ⟨⟨a, b, c, d, x⟩, by simp only [Pt.num]; omega, hk⟩
  rcases dsucc_spec h with ⟨x, hx, hk⟩ | ⟨hd, h⟩
  · exact ⟨⟨a, b, c, x, .d0⟩, by simp only [Pt.num]; omega, hk⟩
  rcases dsucc_spec h with ⟨x, hx, hk⟩ | ⟨hc, h⟩
  · exact ⟨⟨a, b, x, .d0, .d0⟩, by simp only [Pt.num]; omega, hk⟩
  rcases dsucc_spec h with ⟨x, hx, hk⟩ | ⟨hb, h⟩
  · exact ⟨⟨a, x, .d0, .d0, .d0⟩, by simp only [Pt.num]; omega, hk⟩
  rcases dsucc_spec h with ⟨x, hx, hk⟩ | ⟨_, h⟩
  · exact ⟨⟨x, .d0, .d0, .d0, .d0⟩, by simp only [Pt.num]; omega, hk⟩
  · cases h

/-! A memory: five floors. -/

abbrev N5 (α : Type) := N (N (N (N (N α))))

def hfill {α : Type} (x : α) : N5 α := nfill (nfill (nfill (nfill (nfill x))))

def hg {α : Type} (r : N5 α) (q : Pt) : α := ng q.e (ng q.d (ng q.c (ng q.b (ng q.a r))))

/-- What lies at a place, handed on. -/
def hget {α : Type} (r : N5 α) (q : Pt) (k : α → Bool) : Bool := Pt.rec (motive := fun _ => Bool) (fun a b c d e => k (ng e (ng d (ng c (ng b (ng a r)))))) q

def hset {α : Type} (r : N5 α) (q : Pt) (x : α) (k : N5 α → Bool) : Bool := Pt.rec (motive := fun _ => Bool) (fun a b c d e =>
  nu e (ng d (ng c (ng b (ng a r)))) x fun n1 => nu d (ng c (ng b (ng a r))) n1 fun n2 => nu c (ng b (ng a r)) n2 fun n3 => nu b (ng a r) n3 fun n4 => nu a r n4 k) q

def hs {α : Type} (r : N5 α) (q : Pt) (x : α) : N5 α :=
  r.set q.a ((ng q.a r).set q.b ((ng q.b (ng q.a r)).set q.c ((ng q.c (ng q.b (ng q.a r))).set q.d ((ng q.d (ng q.c (ng q.b (ng q.a r)))).set q.e x))))

theorem hget_eq {α : Type} (r : N5 α) (q : Pt) (k : α → Bool) : hget r q k = k (hg r q) := rfl

theorem hset_eq {α : Type} (r : N5 α) (q : Pt) (x : α) (k : N5 α → Bool) : hset r q x k = k (hs r q x) := by
  obtain ⟨a, b, c, d, e⟩ := q
  simp only [hset, hs, nu_eq]

theorem hg_fill {α : Type} (x : α) (q : Pt) : hg (hfill x) q = x := by simp only [hg, hfill, ng_fill]

theorem hg_same {α : Type} (r : N5 α) (q : Pt) (x : α) : hg (hs r q x) q = x := by simp only [hg, hs, ng_set_same]

theorem hg_ne {α : Type} (r : N5 α) {q q' : Pt} (x : α) (h : q' ≠ q) : hg (hs r q x) q' = hg r q' := by
  obtain ⟨a, b, c, d, e⟩ := q
  obtain ⟨a', b', c', d', e'⟩ := q'
  simp only [hg, hs]
  by_cases ha : a' = a
  · subst ha
    rw [ng_set_same]
    by_cases hb : b' = b
    · subst hb
      rw [ng_set_same]
      by_cases hc : c' = c
      · subst hc
        rw [ng_set_same]
        by_cases hd : d' = d
        · subst hd
          rw [ng_set_same]
          by_cases he : e' = e
          · subst he; exact absurd rfl h
          · rw [ng_set_ne _ _ he]
        · rw [ng_set_ne _ _ hd]
      · rw [ng_set_ne _ _ hc]
    · rw [ng_set_ne _ _ hb]
  · rw [ng_set_ne _ _ ha]

/-! Cells: one, two, three floors or four. -/

inductive Cs (α : Type) where
  | c1 (t : N α)
  | c2 (t : N (N α))
  | c3 (t : N (N (N α)))
  | c4 (t : N (N (N (N α))))

/-- How many there is room for. -/
def Cs.cap {α : Type} (c : Cs α) : Nat := Cs.rec (motive := fun _ => Nat) (fun _ => 16) (fun _ => 256) (fun _ => 4096) (fun _ => 65536) c

def cget {α : Type} (c : Cs α) (i : Nat) : α := Cs.rec (motive := fun _ => α) (fun t => ng (dig i) t) (fun t => ng (dig i) (ng (dig (Nat.div i 16)) t))
  (fun t => ng (dig i) (ng (dig (Nat.div i 16)) (ng (dig (Nat.div i 256)) t))) (fun t => ng (dig i) (ng (dig (Nat.div i 16)) (ng (dig (Nat.div i 256)) (ng (dig (Nat.div i 4096)) t)))) c

def cset {α : Type} (c : Cs α) (i : Nat) (x : α) (k : Cs α → Bool) : Bool := Cs.rec (motive := fun _ => Bool) (fun t => nu (dig i) t x fun t => k (.c1 t))
  (fun t => nu (dig i) (ng (dig (Nat.div i 16)) t) x fun u => nu (dig (Nat.div i 16)) t u fun t => k (.c2 t))
  (fun t => nu (dig i) (ng (dig (Nat.div i 16)) (ng (dig (Nat.div i 256)) t)) x fun u => nu (dig (Nat.div i 16)) (ng (dig (Nat.div i 256)) t) u fun v => nu (dig (Nat.div i 256)) t v fun t => k (.c3 t))
  (fun t => nu (dig i) (ng (dig (Nat.div i 16)) (ng (dig (Nat.div i 256)) (ng (dig (Nat.div i 4096)) t))) x fun u => nu (dig (Nat.div i 16)) (ng (dig (Nat.div i 256)) (ng (dig (Nat.div i 4096)) t)) u fun v => nu (dig (Nat.div i 256)) (ng (dig (Nat.div i 4096)) t) v fun w => nu (dig (Nat.div i 4096)) t w fun t => k (.c4 t)) c

/-- A floor more. -/
def cgrow {α : Type} (z : α) (c : Cs α) (k : Cs α → Bool) : Bool := Cs.rec (motive := fun _ => Bool) (fun t => nu .d0 (nfill (nfill z)) t fun t => k (.c2 t)) (fun t => nu .d0 (nfill (nfill (nfill z))) t fun t => k (.c3 t))
  (fun t => nu .d0 (nfill (nfill (nfill (nfill z)))) t fun t => k (.c4 t)) (fun _ => false) c

theorem dig_eq {i j : Nat} : dig i = dig j ↔ i % 16 = j % 16 := by
  constructor
  · intro h
    rw [← dig_v, ← dig_v, h]
  · intro h
    exact D.v_inj (by rw [dig_v, dig_v, h])

theorem ndiv (a b : Nat) : Nat.div a b = a / b := rfl

theorem cset_spec {α : Type} {c : Cs α} {i : Nat} {x : α} {k : Cs α → Bool} (h : cset c i x k = true) (hi : i < c.cap) :
    ∃ c' : Cs α, k c' = true ∧ c'.cap = c.cap ∧ ∀ j, j < c.cap → cget c' j = if j = i then x else cget c j := by
  cases c with
  | c1 t =>
    simp only [cset, nu_eq] at h
    refine ⟨_, h, rfl, fun j hj => ?_⟩
    simp only [Cs.cap] at hi hj
    simp only [cget]
    by_cases he : j = i
    · subst he; rw [if_pos rfl, ng_set_same]
    · rw [if_neg he, ng_set_ne _ _ (fun e => he (by have := dig_eq.1 e; omega))]
  | c2 t =>
    simp only [cset, nu_eq, ndiv] at h
    refine ⟨_, h, rfl, fun j hj => ?_⟩
    simp only [Cs.cap] at hi hj
    simp only [cget]
    show ng (dig j) (ng (dig (j / 16)) _) = if j = i then x else ng (dig j) (ng (dig (j / 16)) t)
    by_cases h1 : dig (j / 16) = dig (i / 16)
    · rw [h1, ng_set_same]
      by_cases he : j = i
      · subst he; rw [if_pos rfl, ng_set_same]
      · rw [if_neg he, ng_set_ne _ _ (fun e => he (by have := dig_eq.1 e; have := dig_eq.1 h1; omega))]
    · rw [if_neg (fun e => h1 (by rw [e])), ng_set_ne _ _ h1]
  | c3 t =>
    simp only [cset, nu_eq, ndiv] at h
    refine ⟨_, h, rfl, fun j hj => ?_⟩
    simp only [Cs.cap] at hi hj
    simp only [cget]
    show ng (dig j) (ng (dig (j / 16)) (ng (dig (j / 256)) _)) = if j = i then x else ng (dig j) (ng (dig (j / 16)) (ng (dig (j / 256)) t))
    by_cases h2 : dig (j / 256) = dig (i / 256)
    · rw [h2, ng_set_same]
      by_cases h1 : dig (j / 16) = dig (i / 16)
      · rw [h1, ng_set_same]
        by_cases he : j = i
        · subst he; rw [if_pos rfl, ng_set_same]
        · rw [if_neg he, ng_set_ne _ _ (fun e => he (by have := dig_eq.1 e; have := dig_eq.1 h1; have := dig_eq.1 h2; omega))]
      · rw [if_neg (fun e => h1 (by rw [e])), ng_set_ne _ _ h1]
    · rw [if_neg (fun e => h2 (by rw [e])), ng_set_ne _ _ h2]
  | c4 t =>
    simp only [cset, nu_eq, ndiv] at h
    refine ⟨_, h, rfl, fun j hj => ?_⟩
    simp only [Cs.cap] at hi hj
    simp only [cget]
    show ng (dig j) (ng (dig (j / 16)) (ng (dig (j / 256)) (ng (dig (j / 4096)) _))) = if j = i then x else ng (dig j) (ng (dig (j / 16)) (ng (dig (j / 256)) (ng (dig (j / 4096)) t)))
    by_cases h3 : dig (j / 4096) = dig (i / 4096)
    · rw [h3, ng_set_same]
      by_cases h2 : dig (j / 256) = dig (i / 256)
      · rw [h2, ng_set_same]
        by_cases h1 : dig (j / 16) = dig (i / 16)
        · rw [h1, ng_set_same]
          by_cases he : j = i
          · subst he; rw [if_pos rfl, ng_set_same]
          · rw [if_neg he, ng_set_ne _ _ (fun e => he (by have := dig_eq.1 e; have := dig_eq.1 h1; have := dig_eq.1 h2; have := dig_eq.1 h3; omega))]
        · rw [if_neg (fun e => h1 (by rw [e])), ng_set_ne _ _ h1]
      · rw [if_neg (fun e => h2 (by rw [e])), ng_set_ne _ _ h2]
    · rw [if_neg (fun e => h3 (by rw [e])), ng_set_ne _ _ h3]

theorem dig0 : dig 0 = .d0 := rfl

theorem cgrow_spec {α : Type} {z : α} {c : Cs α} {k : Cs α → Bool} (h : cgrow z c k = true) :
    ∃ c' : Cs α, k c' = true ∧ c'.cap = c.cap * 16 ∧ ∀ j, j < c.cap → cget c' j = cget c j := by
  cases c with
  | c1 t =>
    simp only [cgrow, nu_eq] at h
    refine ⟨_, h, by show (256 : Nat) = 16 * 16; decide, fun j hj => ?_⟩
    simp only [Cs.cap] at hj
    simp only [cget]
    rw [show Nat.div j 16 = 0 from by show j / 16 = 0; omega, dig0, ng_set_same]
  | c2 t =>
    simp only [cgrow, nu_eq] at h
    refine ⟨_, h, by show (4096 : Nat) = 256 * 16; decide, fun j hj => ?_⟩
    simp only [Cs.cap] at hj
    simp only [cget]
    rw [show Nat.div j 256 = 0 from by show j / 256 = 0; omega, dig0, ng_set_same]
  | c3 t =>
    simp only [cgrow, nu_eq] at h
    refine ⟨_, h, by show (65536 : Nat) = 4096 * 16; decide, fun j hj => ?_⟩
    simp only [Cs.cap] at hj
    simp only [cget]
    rw [show Nat.div j 4096 = 0 from by show j / 4096 = 0; omega, dig0, ng_set_same]
  | c4 t => cases h

end
end Go.Qm
