/- Two parsers side by side: what one does on tokens, the other does on tokens that bear the same words at other places, with others ahead and behind. The parser's small steps, side by side. The parser's words, names and numbers, side by side. No conditions. -/
import Derived.Test.YtphnfaabcnciiaaGreatDoorGa
set_option linter.unusedVariables false
set_option linter.unusedSimpArgs false
set_option linter.unusedSectionVars false
namespace Go.Proofs.YtphnfaabcnciiaaGreatDoor
open Go Go.Dl
structure Side where
  T : List S41
  e : Int
  pre : List S41
  suf : List S41
  rho : Int → Int
  e' : Int
namespace Side
variable (c : Side)
def tk (t : S41) : S41 := ⟨t.fKind, t.fText, t.fN, c.rho t.fAt⟩
def er (l : Err) : Err := l.map fun x => (x.1, c.rho x.2)
def ph (p : S65) : S65 := ⟨c.pre ++ c.T.map c.tk ++ c.suf, p.fi + c.pre.length, c.e', c.er p.ferr⟩
structure Good : Prop where
  small : c.T.length + c.pre.length + c.suf.length ≤ 100000
  tie : c.suf = [] → c.e' = c.rho c.e
  at0 : ∀ t ∈ c.T, 0 ≤ t.fAt ∧ t.fAt ≤ c.e
  e0 : 0 ≤ c.e
def Gone (p : S65) : Prop := c.suf ≠ [] ∧ p.fi = c.T.length
def Broken (p : S65) : Prop := c.Gone p ∧ p.ferr = [(3, c.e)]
structure Ok (p : S65) : Prop where
  tok : p.ftokens = c.T
  en : p.fend = c.e
  lo : 0 ≤ p.fi
  hi : p.fi ≤ c.T.length
  er : p.ferr = [] ∨ ∃ k a, p.ferr = [(k, a)] ∧ 3 ≤ k ∧ k ≤ 5 ∧ 0 ≤ a ∧ a ≤ c.e
  gone : c.Gone p → p.ferr = [] ∨ p.ferr = [(3, c.e)]
def Act (p : S65) : Prop := p.ferr = [] ∧ p.fi < c.T.length
def nu (p : S65) : Nat := if p.ferr = [] then (c.T.length - p.fi).toNat + 1 else 0
structure Mv (s : Bool) (p0 p : S65) : Prop where
  ok : c.Ok p
  le : p0.fi ≤ p.fi
  er : p0.ferr ≠ [] → p.fi = p0.fi ∧ p.ferr = p0.ferr
  st : s = true → p.ferr = [] → p0.fi < p.fi
end Side
class Par (α : Type) where
  st : α → S65
  up : (S65 → S65) → α → α
instance : Par S65 := ⟨fun p => p, fun g p => g p⟩
instance (priority := 900) {β : Type} : Par (S65 × β) := ⟨fun a => a.1, fun g a => (g a.1, a.2)⟩
instance (priority := 800) {β : Type} : Par (β × S65) := ⟨fun a => a.2, fun g a => (a.1, g a.2)⟩
instance {α β : Type} [Par α] [Par β] : Par (α ⊕ β) := ⟨fun s => match s with
  | .inl a => Par.st a
  | .inr b => Par.st b, fun g s => match s with
  | .inl a => .inl (Par.up g a)
  | .inr b => .inr (Par.up g b)⟩
namespace Side
variable {c : Side}
open Classical in
noncomputable def XX (c : Side) {α : Type} [Par α] (a : α) : Option α := if c.Gone (Par.st a) then none else some (Par.up c.ph a)
def Sim (c : Side) {α : Type} [Par α] (G : S65 → Prop) (Q : α → Prop) (o o' : Option α) : Prop :=
  ∃ a, o = some a ∧ Q a ∧ (¬ G (Par.st a) → o' = some (Par.up c.ph a))
section
variable {α β γ : Type} [Par α] [Par β] {G : S65 → Prop} {Q : β → Prop} {Q1 : α → Prop} {p : S65}
theorem XX_gone {a : α} (h : c.Gone (Par.st a)) : c.XX a = none := by unfold XX; rw [if_pos h]
theorem XX_not {a : α} (h : ¬ c.Gone (Par.st a)) : c.XX a = some (Par.up c.ph a) := by unfold XX; rw [if_neg h]
theorem sim_of_none {o o' : Option β} (h : c.Sim G Q o none) : c.Sim G Q o o' := by
  obtain ⟨b, h1, h2, h3⟩ := h
  exact ⟨b, h1, h2, fun hn => absurd (h3 hn) (by simp)⟩
theorem Sim.mono {G' : S65 → Prop} {Q' : β → Prop} {o o' : Option β} (h : c.Sim G Q o o') (hg : ∀ p, G p → G' p) (hq : ∀ b, Q b → Q' b) : c.Sim G' Q' o o' := by
  obtain ⟨b, h1, h2, h3⟩ := h
  exact ⟨b, h1, hq _ h2, fun hn => h3 fun g => hn (hg _ g)⟩
theorem sim_bind {o o' : Option α} {k k' : α → Option β} (h : c.Sim c.Gone Q1 o o') (hk : ∀ a, Q1 a → c.Sim G Q (k a) ((c.XX a).bind k')) : c.Sim G Q (o.bind k) (o'.bind k') := by
  obtain ⟨a, rfl, h2, h3⟩ := h
  have h4 := hk a h2
  by_cases g : c.Gone (Par.st a)
  · rw [XX_gone g] at h4
    exact sim_of_none h4
  · rw [XX_not g] at h4
    rw [h3 g]
    exact h4
theorem sim_call {o : Option α} {f' : S65 → Option α} {k k' : α → Option β} (h : c.Sim c.Gone Q1 o ((c.XX p).bind f')) (hk : ∀ a, Q1 a → c.Sim G Q (k a) ((c.XX a).bind k')) : c.Sim G Q (o.bind k) ((c.XX p).bind fun q => (f' q).bind k') := by
  rw [← Option.bind_assoc]
  exact sim_bind h hk
theorem sim_start {o : Option β} {g : S65 → Option β} (h1 : c.Gone p → c.Sim G Q o none) (h2 : ¬ c.Gone p → c.Sim G Q o (g (c.ph p))) : c.Sim G Q o ((c.XX p).bind g) := by
  by_cases h : c.Gone p
  · rw [XX_gone (α := S65) h]; exact h1 h
  · rw [XX_not (α := S65) h]; exact h2 h
theorem sim_xx {a : α} {o : Option β} {k' : α → Option β} (h : c.Sim G Q o ((c.XX a).bind k')) : c.Sim G Q o (k' (Par.up c.ph a)) := by
  by_cases g : c.Gone (Par.st a)
  · rw [XX_gone g] at h; exact sim_of_none h
  · rw [XX_not g] at h; exact h
def Eye (c : Side) (p : S65) (f : S65 → Option γ) (b : γ) : Prop := f p = some b ∧ (¬ c.Gone p → f (c.ph p) = some b)
theorem sim_eye {f : S65 → Option γ} {b : γ} {k : γ → Option β} {k' : S65 → γ → Option β} (h : c.Eye p f b) (hk : c.Sim G Q (k b) ((c.XX p).bind fun q => k' q b)) : c.Sim G Q ((f p).bind k) ((c.XX p).bind fun q => (f q).bind (k' q)) := by
  rw [h.1]
  by_cases g : c.Gone p
  · rw [XX_gone (α := S65) g] at hk ⊢; exact hk
  · rw [XX_not (α := S65) g] at hk ⊢
    show c.Sim G Q (k b) ((f (c.ph p)).bind (k' (c.ph p)))
    rw [h.2 g]; exact hk
theorem sim_eyeE {f : S65 → Option Bool} {P : Bool → Prop} {k : Bool → Option β} {k' : S65 → Bool → Option β} (h : ∃ b, c.Eye p f b ∧ P b) (hk : ∀ b, P b → c.Sim G Q (k b) ((c.XX p).bind fun q => k' q b)) : c.Sim G Q ((f p).bind k) ((c.XX p).bind fun q => (f q).bind (k' q)) := by
  obtain ⟨b, h1, h2⟩ := h
  exact sim_eye h1 (hk b h2)
theorem Eye.cond {g : Bool} {f : S65 → Option γ} {b d : γ} (h : c.Eye p f b) : c.Eye p (fun q => condM g (f q) d) (if g = true then b else d) := by
  cases g
  · exact ⟨rfl, fun _ => rfl⟩
  · exact ⟨h.1, h.2⟩
theorem sim_ite {P : Prop} [Decidable P] {A B : Option β} {A' B' : S65 → Option β} (h1 : P → c.Sim G Q A ((c.XX p).bind A')) (h2 : ¬ P → c.Sim G Q B ((c.XX p).bind B')) : c.Sim G Q (if P then A else B) ((c.XX p).bind fun q => if P then A' q else B' q) := by
  by_cases h : P
  · simp only [if_pos h]; exact h1 h
  · simp only [if_neg h]; exact h2 h
theorem sim_ret {b : β} {g : S65 → β} (hq : Q b) (hg : g (c.ph p) = Par.up c.ph b) (hG : c.Gone p → G (Par.st b)) : c.Sim G Q (some b) ((c.XX p).bind fun q => some (g q)) := by
  refine ⟨b, rfl, hq, fun hn => ?_⟩
  rw [XX_not (α := S65) (fun g => hn (hG g)), Option.bind_some, ← hg]
  rfl
theorem sim_letV {X : Type} {v : X} {f : X → Option β} {f' : S65 → X → Option β} (h : ∀ x, c.Sim G Q (f x) ((c.XX p).bind fun q => f' q x)) : c.Sim G Q (letV v f) ((c.XX p).bind fun q => Go.Dl.letV v (f' q)) := h v
theorem sim_chk {b : Bool} {o : Option β} {o' : S65 → Option β} (hb : b = true) (h : c.Sim G Q o ((c.XX p).bind o')) : c.Sim G Q (chk [b] o) ((c.XX p).bind fun q => Go.Dl.chk [b] (o' q)) := by
  subst hb
  exact h
end
section
variable {A T U R : Type} [Par A] [Par T] [Par U] [Par R] {G : S65 → Prop} {p : S65}
def QS {A T : Type} (Qa : A → Prop) (Qt : T → Prop) : A ⊕ T → Prop
  | .inl a => Qa a
  | .inr t => Qt t
theorem sim_bndS {Qa : A → Prop} {Qt : T → Prop} {Q : A ⊕ U → Prop} {o : Option (A ⊕ T)} {o' : S65 → Option (A ⊕ T)} {k k' : T → Option (A ⊕ U)} (h : c.Sim c.Gone (QS Qa Qt) o ((c.XX p).bind o'))
    (ha : ∀ a, Qa a → Q (.inl a) ∧ (c.Gone (Par.st a) → G (Par.st a))) (hk : ∀ t, Qt t → c.Sim G Q (k t) ((c.XX t).bind k')) : c.Sim G Q (bindS o k) ((c.XX p).bind fun q => bindS (o' q) k') := by
  have e : ((c.XX p).bind fun q => bindS (o' q) k') = bindS ((c.XX p).bind o') k' := by cases c.XX p <;> rfl
  rw [e]
  obtain ⟨s, rfl, h2, h3⟩ := h
  cases s with
  | inl a =>
    refine ⟨.inl a, rfl, (ha a h2).1, fun hn => ?_⟩
    rw [h3 fun g => hn ((ha a h2).2 g)]
    rfl
  | inr t =>
    have h4 := hk t h2
    by_cases g : c.Gone (Par.st t)
    · rw [XX_gone g] at h4
      exact sim_of_none h4
    · rw [XX_not g] at h4
      rw [h3 g]
      exact h4
theorem sim_blkS {Qa : A → Prop} {Qt : T → Prop} {o : Option ((T ⊕ A) ⊕ T)} {o' : S65 → Option ((T ⊕ A) ⊕ T)} (h : c.Sim G (QS (QS Qt Qa) Qt) o ((c.XX p).bind o')) : c.Sim G (QS Qa Qt) (blockS o) ((c.XX p).bind fun q => blockS (o' q)) := by
  have e : ((c.XX p).bind fun q => blockS (o' q)) = blockS ((c.XX p).bind o') := by cases c.XX p <;> rfl
  rw [e]
  obtain ⟨s, rfl, h2, h3⟩ := h
  rcases s with (t | a) | t
  · exact ⟨.inr t, rfl, h2, fun hn => by rw [h3 hn]; rfl⟩
  · exact ⟨.inl a, rfl, h2, fun hn => by rw [h3 hn]; rfl⟩
  · exact ⟨.inr t, rfl, h2, fun hn => by rw [h3 hn]; rfl⟩
theorem sim_iter {Qa : A → Prop} {f : T → Option (A ⊕ T)} (μ : T → Nat) (Inv : T → Prop) (h : ∀ t, Inv t → c.Sim c.Gone (QS Qa (fun t' => Inv t' ∧ μ t' < μ t)) (f t) ((c.XX t).bind f)) :
    ∀ (K : Nat) (t : T), Inv t → μ t < K → c.Sim c.Gone Qa (iter K f t) ((c.XX t).bind (Go.Dl.iter K f))
  | 0, t, _, hk => absurd hk (by omega)
  | K + 1, t, hi, hk => by
    obtain ⟨s, h1, h2, h3⟩ := h t hi
    cases s with
    | inl a =>
      refine ⟨a, by unfold Go.Dl.iter; rw [h1], h2, fun hn => ?_⟩
      have h4 := h3 hn
      cases hx : c.XX t with
      | none => rw [hx] at h4; cases h4
      | some x =>
        rw [hx, Option.bind_some] at h4
        rw [Option.bind_some]
        unfold Go.Dl.iter
        rw [h4]
        rfl
    | inr t' =>
      have h2 : Inv t' ∧ μ t' < μ t := h2
      obtain ⟨a, g1, g2, g3⟩ := sim_iter μ Inv h K t' h2.1 (by omega)
      refine ⟨a, by unfold Go.Dl.iter; rw [h1]; exact g1, g2, fun hn => ?_⟩
      have g4 := g3 hn
      by_cases g : c.Gone (Par.st t')
      · rw [XX_gone g] at g4; cases g4
      · have h4 := h3 g
        cases hx : c.XX t with
        | none => rw [hx] at h4; cases h4
        | some x =>
          rw [hx, Option.bind_some] at h4
          rw [XX_not g, Option.bind_some] at g4
          rw [Option.bind_some]
          unfold Go.Dl.iter
          rw [h4]
          exact g4
theorem sim_fnS {Q : R → Prop} {o : Option (R ⊕ R)} {o' : S65 → Option (R ⊕ R)} (h : c.Sim G (QS Q Q) o ((c.XX p).bind o')) : c.Sim G Q (fnS o) ((c.XX p).bind fun q => Go.Dl.fnS (o' q)) := by
  have e : ((c.XX p).bind fun q => Go.Dl.fnS (o' q)) = Go.Dl.fnS ((c.XX p).bind o') := by cases c.XX p <;> rfl
  rw [e]
  obtain ⟨s, rfl, h2, h3⟩ := h
  cases s with
  | inl a => exact ⟨a, rfl, h2, fun hn => by rw [h3 hn]; rfl⟩
  | inr a => exact ⟨a, rfl, h2, fun hn => by rw [h3 hn]; rfl⟩
theorem sim_mapInl {α β : Type} [Par α] [Par β] {Qa : α → Prop} {Qb : β → Prop} {o : Option α} {o' : S65 → Option α} (h : c.Sim G Qa o ((c.XX p).bind o')) : c.Sim G (QS Qa Qb) (o.map Sum.inl) ((c.XX p).bind fun q => (o' q).map Sum.inl) := by
  have e : ((c.XX p).bind fun q => (o' q).map (Sum.inl : α → α ⊕ β)) = ((c.XX p).bind o').map Sum.inl := by cases c.XX p <;> rfl
  rw [e]
  obtain ⟨s, rfl, h2, h3⟩ := h
  exact ⟨.inl s, rfl, h2, fun hn => by rw [h3 hn]; rfl⟩
end
theorem XX_pair {β γ : Type} (p : S65) (b : β) (g : S65 × β → Option γ) : (c.XX (p, b)).bind g = (c.XX p).bind fun q => g (q, b) := by
  by_cases h : c.Gone p
  · rw [XX_gone (α := S65 × β) h, XX_gone (α := S65) h]; rfl
  · rw [XX_not (α := S65 × β) h, XX_not (α := S65) h]; rfl
theorem XX_snd {β γ : Type} (p : S65) (b : β) (g : β × S65 → Option γ) [i : Par (β × S65)] (hi : i = ⟨fun a => a.2, fun g a => (a.1, g a.2)⟩) : (c.XX (b, p)).bind g = (c.XX p).bind fun q => g (b, q) := by
  subst hi
  by_cases h : c.Gone p
  · rw [XX_gone (α := β × S65) h, XX_gone (α := S65) h]; rfl
  · rw [XX_not (α := β × S65) h, XX_not (α := S65) h]; rfl
end Side
end Go.Proofs.YtphnfaabcnciiaaGreatDoor

set_option linter.unusedVariables false
set_option linter.unusedSimpArgs false
set_option linter.unusedSectionVars false
namespace Go.Proofs.YtphnfaabcnciiaaGreatDoor
open Go Go.Dl
namespace Side
variable {c : Side}
section
variable {s s1 s2 : Bool} {p p0 p1 p2 : S65}
theorem Mv.refl (h : c.Ok p) : c.Mv false p p := ⟨h, Int.le_refl _, fun _ => ⟨rfl, rfl⟩, fun h => by cases h⟩
theorem Mv.trans (h1 : c.Mv s1 p0 p1) (h2 : c.Mv s2 p1 p2) : c.Mv (s1 || s2) p0 p2 := by
  refine ⟨h2.ok, Int.le_trans h1.le h2.le, fun he => ?_, fun hs he => ?_⟩
  · obtain ⟨a1, a2⟩ := h1.er he
    obtain ⟨b1, b2⟩ := h2.er (by rw [a2]; exact he)
    exact ⟨b1.trans a1, b2.trans a2⟩
  · have he1 : p1.ferr = [] := by
      by_cases g : p1.ferr = []
      · exact g
      · rw [(h2.er g).2] at he; exact absurd he g
    have l1 := h1.le
    have l2 := h2.le
    rw [Bool.or_eq_true] at hs
    rcases hs with hs | hs
    · have := h1.st hs he1; omega
    · have := h2.st hs he; omega
theorem Mv.weak (h : c.Mv s p0 p) : c.Mv false p0 p := ⟨h.ok, h.le, h.er, fun h => by cases h⟩
theorem Mv.nu (h : c.Mv s p0 p) : c.nu p ≤ c.nu p0 := by
  unfold Side.nu
  by_cases g : p0.ferr = []
  · rw [if_pos g]
    have := h.le
    split <;> omega
  · rw [if_neg (by rw [(h.er g).2]; exact g)]; omega
theorem Mv.nu_lt (h : c.Mv true p0 p) : c.nu p < c.nu p0 ∨ c.nu p0 = 0 ∧ c.nu p = 0 := by
  unfold Side.nu
  by_cases g : p0.ferr = []
  · rw [if_pos g]
    left
    have h1 := h.ok.hi
    split
    · rename_i he
      have := h.st rfl he; omega
    · omega
  · right
    rw [if_neg g, if_neg (by rw [(h.er g).2]; exact g)]
    exact ⟨rfl, rfl⟩
theorem Mv.gone (h : c.Mv s p0 p) (g : c.Gone p0) : c.Gone p := ⟨g.1, by have := h.le; have := h.ok.hi; have := g.2; omega⟩
theorem Act.not_gone (h : c.Act p) : ¬ c.Gone p := fun g => by have := g.2; have := h.2; omega
theorem Act.nu (h : c.Act p) : 2 ≤ c.nu p := by unfold Side.nu; rw [if_pos h.1]; have := h.2; omega
end
noncomputable def cur (c : Side) (p : S65) : S41 := if p.fi < c.T.length then c.T.getD p.fi.toNat default else ⟨0, [], 0, c.e⟩
theorem getD_mid (p : S65) (lo : 0 ≤ p.fi) (h : p.fi < c.T.length) : (c.pre ++ c.T.map c.tk ++ c.suf).getD (p.fi + c.pre.length).toNat default = c.tk (c.T.getD p.fi.toNat default) := by
  have e : (p.fi + c.pre.length).toNat = c.pre.length + p.fi.toNat := by omega
  have hl : p.fi.toNat < c.T.length := by omega
  rw [e, List.append_assoc, List.getD_eq_getElem?_getD, List.getElem?_append_right (by omega), Nat.add_sub_cancel_left, List.getElem?_append_left (by rw [List.length_map]; exact hl), List.getElem?_map, List.getD_eq_getElem?_getD, List.getElem?_eq_getElem hl]
  rfl
theorem tok_p {p : S65} (h : c.Ok p) (K : Nat) : F31 K p = some (.inl (c.cur p)) := by
  unfold F31 letV cur
  dsimp only
  rw [h.tok, h.en]
  have := h.lo
  by_cases hlt : p.fi < c.T.length
  · rw [if_neg (by simp; omega), if_pos hlt, chk_t (by simp [inb]; omega), chk_nil]
  · rw [if_pos (by simp; omega), if_neg hlt]
theorem tok_q {p : S65} (hc : c.Good) (h : c.Ok p) (K : Nat) (hg : ¬ c.Gone p) : F31 K (c.ph p) = some (.inl (c.tk (c.cur p))) := by
  unfold F31 letV cur ph
  dsimp only
  have hlo := h.lo
  have hhi := h.hi
  by_cases hlt : p.fi < c.T.length
  · have hl : (c.pre ++ c.T.map c.tk ++ c.suf).length = c.pre.length + c.T.length + c.suf.length := by simp; omega
    rw [if_neg (by rw [hl]; simp; omega), if_pos hlt, chk_t (by rw [hl]; simp [inb]; omega), chk_nil]
    rw [getD_mid p hlo hlt]
  · have hi : p.fi = c.T.length := by omega
    have hs : c.suf = [] := by
      by_cases g : c.suf = []
      · exact g
      · exact absurd ⟨g, hi⟩ hg
    rw [if_pos (by simp [hs]; omega), if_neg hlt, hc.tie hs]
    rfl
theorem cur_end {p : S65} (h : ¬ p.fi < c.T.length) : c.cur p = ⟨0, [], 0, c.e⟩ := by unfold cur; rw [if_neg h]
section
variable {β : Type} [Par β] {G : S65 → Prop} {Q : β → Prop} {p : S65}
theorem sim_tok {K : Nat} {b : Bool} {d : S41} (hc : c.Good) (h : c.Ok p) {k : S41 → Option β} {k' : S65 → S41 → Option β} (hb : b = true) (hk : c.Sim G Q (k (c.cur p)) ((c.XX p).bind fun q => k' q (c.tk (c.cur p)))) :
    c.Sim G Q ((condM b (fnS (F31 K p)) d).bind k) ((c.XX p).bind fun q => (condM b (fnS (F31 K q)) d).bind (k' q)) := by
  subst hb
  simp only [condM_t]
  rw [tok_p h, fnS_l, Option.bind_some]
  by_cases g : c.Gone p
  · rw [XX_gone (α := S65) g] at hk ⊢; exact hk
  · rw [XX_not (α := S65) g] at hk ⊢
    rw [Option.bind_some] at hk
    rw [Option.bind_some, show Par.up c.ph p = c.ph p from rfl, tok_q hc h K g, fnS_l, Option.bind_some]
    exact hk
end
theorem errS_nil {p : S65} (h : p.ferr = []) : errS p.ferr = false := by rw [h]; rfl
theorem errS_iff (l : Err) : (!errS l) = decide (l = []) := by cases l <;> rfl
theorem er_nil {l : Err} : c.er l = [] ↔ l = [] := by unfold Side.er; simp
theorem ok_eye {p : S65} (K : Nat) : c.Eye p (fun q => fnS (F21 K q)) (decide (p.ferr = [])) := by
  unfold Eye F21
  simp only [fnS_l, errS_iff, ph, er_nil, Option.some.injEq, implies_true, and_self]
theorem kind_eye {p : S65} (hc : c.Good) (h : c.Ok p) (K : Nat) (k : Int) (hk : k ≠ 0) : ∃ b, c.Eye p (fun q => fnS (F69 K q k)) b ∧ (b = true → c.Act p) := by
  refine ⟨decide (p.ferr = []) && ((c.cur p).fKind == k), ⟨?_, fun g => ?_⟩, fun hb => ?_⟩
  · unfold F69
    have e1 := (ok_eye (c := c) (p := p) K).1
    dsimp only at e1 ⊢
    rw [e1]
    by_cases he : p.ferr = []
    · simp only [he, decide_true, Option.bind_some, condM_t, tok_p h, fnS_l, Bool.true_and]
    · simp only [he, decide_false, Option.bind_some, condM_f, Bool.false_and, fnS_l]
  · unfold F69
    have e1 := (ok_eye (c := c) (p := p) K).2 g
    dsimp only at e1 ⊢
    rw [e1]
    by_cases he : p.ferr = []
    · simp only [he, decide_true, Option.bind_some, condM_t, tok_q hc h K g, fnS_l, Bool.true_and]
      rfl
    · simp only [he, decide_false, Option.bind_some, condM_f, Bool.false_and, fnS_l]
  · rw [Bool.and_eq_true, decide_eq_true_eq, beq_iff_eq] at hb
    refine ⟨hb.1, ?_⟩
    by_cases g : p.fi < c.T.length
    · exact g
    · rw [cur_end g] at hb
      exact absurd hb.2.symm hk
theorem idx_it (l : List Bytes) (x : Bytes) (hl : l.length ≤ 100) : ∀ (K : Nat) (u : Nat), u ≤ l.length → l.length - u < K → ∃ r, (iter K (fun (u12 : Int) => (letV (decide ((u12 : Int) < (Int.ofNat l.length))) (fun (x16 : Bool) => (if x16 = true then (bindS (blockS (chk [inb u12 l.length] (if (x == (l.getD (u12 : Int).toNat default)) = true then (some (.inl (Sum.inr (Sum.inr (u12))))) else (some (.inr ()))))) (fun (u17 : Unit) => (some (.inr ((IntKind.i64.wrap (u12 + 1))))))) else (some (.inl (Sum.inl ()))))))) (u : Int) : Option (Unit ⊕ Int)) = some r
  | 0, u, _, hk => absurd hk (by omega)
  | K + 1, u, hu, hk => by
    unfold iter
    by_cases hlt : u < l.length
    · have e0 : decide ((u : Int) < Int.ofNat l.length) = true := by simp; omega
      by_cases hx : (x == l.getD ((u : Nat) : Int).toNat default) = true
      · simp only [letV, e0, if_true, chk_t (inb_nat hlt), chk_nil, hx, blockS_lr, bindS_l]
        exact ⟨_, rfl⟩
      · have e : IntKind.i64.wrap ((u : Int) + 1) = ((u + 1 : Nat) : Int) := by rw [wrap64 (by omega) (by omega)]; omega
        simp only [letV, e0, if_true, chk_t (inb_nat hlt), chk_nil, hx, blockS_r, bindS_r, if_false, e]
        exact idx_it l x hl K (u + 1) hlt (by omega)
    · have e0 : decide ((u : Int) < Int.ofNat l.length) = false := by simp; omega
      simp only [letV, e0, Bool.false_eq_true, if_false]
      exact ⟨_, rfl⟩
theorem idx_some (K : Nat) (l : List Bytes) (x : Bytes) (hl : l.length ≤ 100) (hk : 100 < K) : ∃ v, fnS (F42 K l x) = some v := by
  unfold F42
  obtain ⟨r, hr⟩ := idx_it l x hl K 0 (by omega) (by omega)
  rw [show ((0 : Nat) : Int) = 0 from rfl] at hr
  rw [hr]
  cases r with
  | inl u => exact ⟨_, rfl⟩
  | inr v => exact ⟨_, rfl⟩
theorem has_some (K : Nat) (l : List Bytes) (x : Bytes) (hl : l.length ≤ 100) (hk : 100 < K) : ∃ v, fnS (F60 K l x) = some v := by
  unfold F60
  obtain ⟨v, hv⟩ := idx_some K l x hl hk
  rw [hv]
  exact ⟨_, rfl⟩
theorem is_eye {p : S65} (hc : c.Good) (h : c.Ok p) (K : Nat) (l : List Bytes) (hl : l.length ≤ 100) (hk : 100 < K) : ∃ b, c.Eye p (fun q => fnS (F29 K q l)) b ∧ (b = true → c.Act p) := by
  obtain ⟨v, hv⟩ := has_some K l (c.cur p).fText hl hk
  refine ⟨(decide (p.ferr = []) && (((c.cur p).fKind == 2) || ((c.cur p).fKind == 4))) && (if (decide (p.ferr = []) && (((c.cur p).fKind == 2) || ((c.cur p).fKind == 4))) = true then v else default), ⟨?_, fun g => ?_⟩, fun hb => ?_⟩
  · unfold F29 letV
    have e1 := (ok_eye (c := c) (p := p) K).1
    dsimp only at e1 ⊢
    rw [tok_p h, fnS_l, Option.bind_some, e1, Option.bind_some]
    generalize (decide (p.ferr = []) && (((c.cur p).fKind == 2) || ((c.cur p).fKind == 4))) = b
    cases b
    · rfl
    · rw [condM_t, hv]; rfl
  · unfold F29 letV
    have e1 := (ok_eye (c := c) (p := p) K).2 g
    dsimp only at e1 ⊢
    rw [tok_q hc h K g, fnS_l, Option.bind_some, e1, Option.bind_some]
    show fnS ((condM (decide (p.ferr = []) && (((c.cur p).fKind == 2) || ((c.cur p).fKind == 4))) (fnS (F60 K l (c.cur p).fText)) default).bind fun r4 => some (Sum.inl ((decide (p.ferr = []) && (((c.cur p).fKind == 2) || ((c.cur p).fKind == 4))) && r4))) = _
    generalize (decide (p.ferr = []) && (((c.cur p).fKind == 2) || ((c.cur p).fKind == 4))) = b
    cases b
    · rfl
    · rw [condM_t, hv]; rfl
  · rw [Bool.and_eq_true] at hb
    have hb := hb.1
    rw [Bool.and_eq_true, decide_eq_true_eq] at hb
    refine ⟨hb.1, ?_⟩
    by_cases g : p.fi < c.T.length
    · exact g
    · rw [cur_end g] at hb
      exact absurd hb.2 (by simp)
theorem eye_cond {p : S65} {f : S65 → Option Bool} {g : Bool} (h : ∃ b, c.Eye p f b ∧ (b = true → c.Act p)) : ∃ b, c.Eye p (fun q => condM g (f q) default) b ∧ (b = true → c.Act p) := by
  obtain ⟨b, h1, h2⟩ := h
  refine ⟨_, Eye.cond (d := default) h1, ?_⟩
  cases g
  · intro h; cases h
  · exact h2
theorem eye_or {p : S65} {b1 b2 : Bool} (h1 : b1 = true → c.Act p) (h2 : b2 = true → c.Act p) (h : (b1 || b2) = true) : c.Act p := by
  rw [Bool.or_eq_true] at h
  rcases h with h | h
  · exact h1 h
  · exact h2 h
theorem begins_eye {p : S65} (hc : c.Good) (h : c.Ok p) (K : Nat) (hk : 100 < K) : ∃ b, c.Eye p (fun q => fnS (F113 K q)) b ∧ (b = true → c.Act p) := by
  unfold F113
  obtain ⟨b1, e1, a1⟩ := kind_eye hc h K 1 (by decide)
  obtain ⟨b2, e2, a2⟩ := eye_cond (g := !b1) (is_eye hc h K ([[84, 72, 73, 83], [83, 85, 80, 69, 82], [73, 70], [67, 65, 83, 69], [87, 72, 73, 76, 69], [70, 79, 82], [82, 69, 84, 85, 82, 78], [69, 88, 73, 84], [83, 84, 69, 80]] : List Bytes) (by decide) hk)
  refine ⟨b1 || b2, ⟨?_, fun g => ?_⟩, eye_or a1 a2⟩
  · have h1 := e1.1
    have h2 := e2.1
    dsimp only at h1 h2
    simp only [h1, h2, Option.bind_some, fnS_l]
  · have h1 := e1.2 g
    have h2 := e2.2 g
    dsimp only at h1 h2
    simp only [h1, h2, Option.bind_some, fnS_l]
theorem integer_eye {p : S65} (hc : c.Good) (h : c.Ok p) (K : Nat) (hk : 100 < K) : ∃ b, c.Eye p (fun q => fnS (F114 K q)) b ∧ (b = true → c.Act p) := by
  unfold F114
  obtain ⟨b1, e1, a1⟩ := is_eye hc h K [([45] : Bytes)] (by decide) hk
  obtain ⟨b2, e2, a2⟩ := eye_cond (g := !b1) (kind_eye hc h K 3 (by decide))
  refine ⟨b1 || b2, ⟨?_, fun g => ?_⟩, eye_or a1 a2⟩
  · have h1 := e1.1
    have h2 := e2.1
    dsimp only at h1 h2
    simp only [h1, h2, Option.bind_some, fnS_l]
  · have h1 := e1.2 g
    have h2 := e2.2 g
    dsimp only at h1 h2
    simp only [h1, h2, Option.bind_some, fnS_l]
theorem opens_eye {p : S65} (hc : c.Good) (h : c.Ok p) (K : Nat) (hk : 100 < K) : ∃ b, c.Eye p (fun q => fnS (F37 K q)) b ∧ (b = true → c.Act p) := by
  unfold F37
  obtain ⟨b1, e1, a1⟩ := kind_eye hc h K 1 (by decide)
  obtain ⟨b2, e2, a2⟩ := eye_cond (g := !b1) (kind_eye hc h K 3 (by decide))
  obtain ⟨b3, e3, a3⟩ := eye_cond (g := !(b1 || b2)) (is_eye hc h K ([[84, 82, 85, 69], [70, 65, 76, 83, 69], [78, 85, 76, 76], [84, 72, 73, 83], [83, 85, 80, 69, 82], [82, 69, 70], [68, 79, 78, 69], [67, 79, 85, 78, 84], [65, 83], [40]] : List Bytes) (by decide) hk)
  refine ⟨(b1 || b2) || b3, ⟨?_, fun g => ?_⟩, eye_or (eye_or a1 a2) a3⟩
  · have h1 := e1.1
    have h2 := e2.1
    have h3 := e3.1
    dsimp only at h1 h2 h3
    simp only [h1, h2, h3, Option.bind_some, fnS_l]
  · have h1 := e1.2 g
    have h2 := e2.2 g
    have h3 := e3.2 g
    dsimp only at h1 h2 h3
    simp only [h1, h2, h3, Option.bind_some, fnS_l]
def adv (p : S65) : S65 := ⟨p.ftokens, (IntKind.i64.wrap (p.fi + 1)), p.fend, p.ferr⟩
theorem adv_fi {p : S65} (hc : c.Good) (h : c.Ok p) : (adv p).fi = p.fi + 1 := by
  have := h.lo
  have := h.hi
  have := hc.small
  unfold adv
  rw [wrap64 (by omega) (by omega)]
theorem adv_mv {p : S65} (hc : c.Good) (h : c.Ok p) (ha : c.Act p) : c.Mv true p (adv p) := by
  have e := adv_fi hc h
  refine ⟨⟨h.tok, h.en, by have := h.lo; omega, by have := ha.2; omega, h.er, fun _ => .inl ha.1⟩, by omega, fun g => absurd ha.1 g, fun _ _ => by omega⟩
theorem adv_ph {p : S65} (hc : c.Good) (h : c.Ok p) : adv (c.ph p) = c.ph (adv p) := by
  have e := adv_fi hc h
  have := h.lo
  have := h.hi
  have := hc.small
  unfold ph
  rw [e]
  unfold adv
  dsimp only
  rw [wrap64 (by omega) (by omega)]
  congr 1
  omega
section
variable {β : Type} [Par β] {G : S65 → Prop} {Q : β → Prop} {p : S65}
theorem sim_adv (hc : c.Good) (h : c.Ok p) (ha : c.Act p) {o : Option β} {g : S65 → Option β} (hk : c.Sim G Q o ((c.XX (adv p)).bind g)) : c.Sim G Q o ((c.XX p).bind fun q => g (Side.adv q)) := by
  rw [XX_not (α := S65) ha.not_gone, Option.bind_some, show Par.up c.ph p = c.ph p from rfl, adv_ph hc h]
  exact sim_xx (a := Side.adv p) hk
theorem sim_accept {K : Nat} {t : Bytes} {k : Bool × S65 → Option β} {k' : Bool × S65 → Option β} (hc : c.Good) (h : c.Ok p) (hk : 100 < K)
    (ht : c.Act p → ∀ p1, c.Mv true p p1 → c.Sim G Q (k (true, p1)) ((c.XX p1).bind fun q => k' (true, q)))
    (hf : c.Sim G Q (k (false, p)) ((c.XX p).bind fun q => k' (false, q))) :
    c.Sim G Q ((fnS (F39 K p t)).bind k) ((c.XX p).bind fun q => (fnS (F39 K q t)).bind k') := by
  obtain ⟨b, e, a⟩ := is_eye hc h K [t] (by simp) hk
  have e1 := e.1
  dsimp only at e1
  have hp : fnS (F39 K p t) = some (if b = true then (true, adv p) else (false, p)) := by
    unfold F39
    rw [condM_t, e1, Option.bind_some]
    cases b <;> rfl
  rw [hp, Option.bind_some]
  cases b with
  | true =>
    simp only [if_true]
    have hx := ht (a rfl) (adv p) (adv_mv hc h (a rfl))
    have e2 := e.2 (a rfl).not_gone
    dsimp only at e2
    have hq : fnS (F39 K (c.ph p) t) = some (true, adv (c.ph p)) := by
      unfold F39
      rw [condM_t, e2, Option.bind_some]
      rfl
    rw [XX_not (α := S65) (a rfl).not_gone, Option.bind_some, show Par.up c.ph p = c.ph p from rfl, hq, Option.bind_some, adv_ph hc h]
    exact sim_xx (a := adv p) hx
  | false =>
    simp only [Bool.false_eq_true, if_false]
    refine sim_start (fun g => ?_) (fun g => ?_)
    · rw [XX_gone (α := S65) g] at hf; exact hf
    · have e2 := e.2 g
      dsimp only at e2
      have hq : fnS (F39 K (c.ph p) t) = some (false, c.ph p) := by
        unfold F39
        rw [condM_t, e2, Option.bind_some]
        rfl
      rw [hq, Option.bind_some]
      rw [XX_not (α := S65) g] at hf
      exact hf
end
noncomputable def failed (c : Side) (p : S65) (k : Int) : S65 := if p.ferr = [] then ⟨p.ftokens, p.fi, p.fend, [(k, (c.cur p).fAt)]⟩ else p
theorem fail_p {p : S65} (h : c.Ok p) (K : Nat) (k : Int) : fnS (F20 K p k) = some (c.failed p k) := by
  unfold F20 F27 failed
  by_cases g : p.ferr = []
  · rw [if_pos (by rw [errS_nil g]; rfl), if_pos g, condM_t, tok_p h]; rfl
  · rw [if_neg (by rw [errS_iff]; simp [g]), if_neg g]; rfl
theorem fail_q {p : S65} (hc : c.Good) (h : c.Ok p) (K : Nat) (k : Int) (hg : ¬ c.Gone p) : fnS (F20 K (c.ph p) k) = some (c.ph (c.failed p k)) := by
  unfold F20 F27 failed
  by_cases g : p.ferr = []
  · have g' : (c.ph p).ferr = [] := by show c.er p.ferr = []; rw [g]; rfl
    rw [if_pos (by rw [errS_nil g']; rfl), if_pos g, condM_t, tok_q hc h K hg]; rfl
  · have g' : ¬ (c.ph p).ferr = [] := by show ¬ c.er p.ferr = []; rw [er_nil]; exact g
    rw [if_neg (by rw [errS_iff]; simp [g']), if_neg g]; rfl
theorem cur_at {p : S65} (hc : c.Good) (h : c.Ok p) : 0 ≤ (c.cur p).fAt ∧ (c.cur p).fAt ≤ c.e := by
  unfold cur
  split
  · rename_i hlt
    have := h.lo
    rw [List.getD_eq_getElem?_getD, List.getElem?_eq_getElem (show p.fi.toNat < c.T.length by omega)]
    exact hc.at0 _ (List.getElem_mem _)
  · exact ⟨hc.e0, Int.le_refl _⟩
theorem failed_mv {p : S65} (hc : c.Good) (h : c.Ok p) {k : Int} (h3 : 3 ≤ k) (h5 : k ≤ 5) (hg : k = 3 ∨ ¬ c.Gone p) : c.Mv true p (c.failed p k) ∧ (c.failed p k).ferr ≠ [] := by
  unfold failed
  by_cases g : p.ferr = []
  · rw [if_pos g]
    refine ⟨⟨⟨h.tok, h.en, h.lo, h.hi, .inr ⟨k, _, rfl, h3, h5, cur_at hc h⟩, fun hG => ?_⟩, Int.le_refl _, fun hn => absurd g hn, fun _ he => by cases he⟩, by simp⟩
    rcases hg with rfl | hg
    · right
      have : ¬ p.fi < c.T.length := by have := hG.2; dsimp only at this; omega
      rw [cur_end this]
    · exact absurd hG hg
  · rw [if_neg g]
    exact ⟨⟨h, Int.le_refl _, fun _ => ⟨rfl, rfl⟩, fun _ he => absurd he g⟩, g⟩
theorem failed_broken {p : S65} (hc : c.Good) (h : c.Ok p) (hg : c.Gone p) : c.Broken (c.failed p 3) := by
  have h1 := failed_mv hc h (k := 3) (by decide) (by decide) (.inl rfl)
  have hG := h1.1.gone hg
  rcases h1.1.ok.gone hG with he | he
  · exact absurd he h1.2
  · exact ⟨hG, he⟩
theorem L20 {p : S65} (hc : c.Good) (h : c.Ok p) (K : Nat) : c.Sim c.Broken (fun a => c.Mv true p a ∧ a.ferr ≠ []) (fnS (F20 K p 3)) ((c.XX p).bind fun q => fnS (F20 K q 3)) := by
  refine ⟨_, fail_p h K 3, failed_mv hc h (by decide) (by decide) (.inl rfl), fun hn => ?_⟩
  by_cases g : c.Gone p
  · exact absurd (failed_broken hc h g) hn
  · rw [XX_not (α := S65) g]
    exact fail_q hc h K 3 g
theorem L20' {p : S65} (hc : c.Good) (h : c.Ok p) (K : Nat) (k : Int) (h3 : 3 ≤ k) (h5 : k ≤ 5) (g : ¬ c.Gone p) : c.Sim c.Broken (fun a => c.Mv true p a ∧ a.ferr ≠ []) (fnS (F20 K p k)) ((c.XX p).bind fun q => fnS (F20 K q k)) := by
  refine ⟨_, fail_p h K k, failed_mv hc h h3 h5 (.inr g), fun hn => ?_⟩
  rw [XX_not (α := S65) g]
  exact fail_q hc h K k g
end Side
end Go.Proofs.YtphnfaabcnciiaaGreatDoor

set_option linter.unusedVariables false
set_option linter.unusedSimpArgs false
set_option linter.unusedSectionVars false
namespace Go.Proofs.YtphnfaabcnciiaaGreatDoor
open Go Go.Dl
namespace Side
variable {c : Side}
section
variable {α β : Type} [Par α] [Par β] {G : S65 → Prop} {Q : β → Prop} {Q1 : α → Prop} {p : S65}
theorem sim_last {o : Option α} {f' : S65 → Option α} {k k' : α → Option β} (h : c.Sim G Q1 o ((c.XX p).bind f')) (hk : ∀ a, Q1 a → ∃ b, k a = some b ∧ k' (Par.up c.ph a) = some (Par.up c.ph b) ∧ Q b ∧ Par.st b = Par.st a) :
    c.Sim G Q (o.bind k) ((c.XX p).bind fun q => (f' q).bind k') := by
  rw [← Option.bind_assoc]
  obtain ⟨a, rfl, h2, h3⟩ := h
  obtain ⟨b, e1, e2, hq, hs⟩ := hk a h2
  refine ⟨b, e1, hq, fun hn => ?_⟩
  rw [h3 (by rw [← hs]; exact hn)]
  exact e2
theorem sim_act {b : β} {g : S65 → β} (ha : c.Act p) (hq : Q b) (hg : g (c.ph p) = Par.up c.ph b) : c.Sim G Q (some b) ((c.XX p).bind fun q => some (g q)) := by
  refine ⟨b, rfl, hq, fun _ => ?_⟩
  rw [XX_not (α := S65) ha.not_gone, Option.bind_some, ← hg]
  rfl
theorem sim_map {f : α → β} {o o' : Option α} (h : c.Sim G Q1 o o') (hs : ∀ a, Par.st (f a) = Par.st a) (hu : ∀ a, Par.up c.ph (f a) = f (Par.up c.ph a)) (hq : ∀ a, Q1 a → Q (f a)) : c.Sim G Q (o.map f) (o'.map f) := by
  obtain ⟨a, rfl, h2, h3⟩ := h
  refine ⟨f a, rfl, hq a h2, fun hn => ?_⟩
  rw [h3 (by rw [← hs]; exact hn), hu]
  rfl
end
def wantC (K : Nat) (p : S65) (t : Bytes) : Option S65 := (fnS (F39 K p t)).bind fun r40 => if (!r40.1) = true then fnS (F20 K r40.2 3) else some r40.2
theorem wantC_sim {p : S65} (hc : c.Good) (h : c.Ok p) (K : Nat) (t : Bytes) (hk : 100 < K) : c.Sim c.Broken (fun a => c.Mv true p a) (wantC K p t) ((c.XX p).bind fun q => wantC K q t) := by
  unfold wantC
  obtain ⟨b, e, a⟩ := is_eye hc h K [t] (by simp) hk
  have e1 := e.1
  dsimp only at e1
  have hp : fnS (F39 K p t) = some (if b = true then (true, adv p) else (false, p)) := by
    unfold F39
    rw [condM_t, e1, Option.bind_some]
    cases b <;> rfl
  rw [hp, Option.bind_some]
  cases b with
  | true =>
    have e2 := e.2 (a rfl).not_gone
    dsimp only at e2
    have hq : fnS (F39 K (c.ph p) t) = some (true, adv (c.ph p)) := by
      unfold F39
      rw [condM_t, e2, Option.bind_some]
      rfl
    rw [XX_not (α := S65) (a rfl).not_gone, Option.bind_some, show Par.up c.ph p = c.ph p from rfl, hq, Option.bind_some, adv_ph hc h]
    exact ⟨adv p, rfl, adv_mv hc h (a rfl), fun _ => rfl⟩
  | false =>
    refine (show c.Sim c.Broken (fun a => c.Mv true p a) (fnS (F20 K p 3)) _ from ?_)
    refine sim_start (fun g => ?_) (fun g => ?_)
    · have := (L20 hc h K).mono (fun _ h => h) (fun _ h => h.1)
      rw [XX_gone (α := S65) g] at this
      exact this
    · have e2 := e.2 g
      dsimp only at e2
      have hq : fnS (F39 K (c.ph p) t) = some (false, c.ph p) := by
        unfold F39
        rw [condM_t, e2, Option.bind_some]
        rfl
      rw [hq, Option.bind_some]
      have := (L20 hc h K).mono (fun _ h => h) (fun _ h => h.1)
      rw [XX_not (α := S65) g] at this
      exact this
def wantB (K : Nat) (a1 : List Bytes) (u28 : S65 × Int) : Option ((S65 ⊕ S65) ⊕ (S65 × Int)) := (letV (decide ((u28.2 : Int) < (Int.ofNat a1.length))) (fun (x36 : Bool) => (if x36 = true then (bindS (blockS (chk [inb u28.2 a1.length] ((fnS (F39 K u28.1 (a1.getD (u28.2 : Int).toNat default))).bind (fun r40 => (if (!r40.1) = true then ((fnS (F20 K r40.2 3)).bind (fun r41 => (some (.inr (r41))))) else (some (.inr (r40.2)))))))) (fun (u39 : S65) => (some (.inr (u39, (IntKind.i64.wrap (u28.2 + 1))))))) else (some (.inl (Sum.inl (u28.1)))))))
theorem want_eq (K : Nat) (p : S65) (a1 : List Bytes) : F93 K p a1 = bindS (blockS ((iter K (wantB K a1) (p, 0)).map .inl)) (fun (u21 : S65) => (some (.inr (u21)))) := rfl
theorem wantB_lt (K : Nat) (l : List Bytes) (hl : l.length ≤ 100) (p : S65) (n : Nat) (hn : n < l.length) : wantB K l (p, (n : Int)) = (wantC K p (l.getD n default)).bind fun p' => some (.inr (p', ((n + 1 : Nat) : Int))) := by
  have e0 : decide ((n : Int) < Int.ofNat l.length) = true := by simp; omega
  have e : IntKind.i64.wrap ((n : Int) + 1) = ((n + 1 : Nat) : Int) := by rw [wrap64 (by omega) (by omega)]; omega
  unfold wantB letV wantC
  simp only [e0, if_true, chk_t (inb_nat hn), chk_nil, e, Int.toNat_natCast]
  cases fnS (F39 K p (l.getD n default)) with
  | none => rfl
  | some r =>
    obtain ⟨b, r⟩ := r
    cases b
    · simp only [Option.bind_some, Bool.not_false, if_true]
      cases fnS (F20 K r 3) <;> rfl
    · rfl
theorem wantB_end (K : Nat) (l : List Bytes) (p : S65) (n : Nat) (hn : ¬ n < l.length) : wantB K l (p, (n : Int)) = some (.inl (.inl p)) := by
  have e0 : decide ((n : Int) < Int.ofNat l.length) = false := by simp; omega
  unfold wantB letV
  simp only [e0, Bool.false_eq_true, if_false]
theorem want_it (K : Nat) (l : List Bytes) (hl : l.length ≤ 100) (p : S65) (n : Nat) (hn : n < l.length) (k : Nat) : iter (k + 1) (wantB K l) (p, (n : Int)) = (wantC K p (l.getD n default)).bind fun p' => iter k (wantB K l) (p', ((n + 1 : Nat) : Int)) := by
  conv => lhs; unfold iter
  rw [wantB_lt K l hl p n hn]
  cases wantC K p (l.getD n default) <;> rfl
theorem want_sim (hc : c.Good) (K : Nat) (l : List Bytes) (hl : l.length ≤ 100) (hk : 100 < K) : ∀ (k : Nat) (n : Nat) (p : S65), c.Ok p → n < l.length → l.length - n < k →
    c.Sim c.Broken (fun a => c.Mv true p (Par.st a)) (iter k (wantB K l) (p, (n : Int))) ((c.XX p).bind fun q => iter k (wantB K l) (q, (n : Int)))
  | 0, n, p, h, hn, hk => absurd hk (by omega)
  | k + 1, n, p, h, hn, hkk => by
    have h1 := wantC_sim hc h K (l.getD n default) hk
    simp only [want_it K l hl _ n hn k]
    by_cases hn1 : n + 1 < l.length
    · refine sim_call (h1.mono (fun _ g => g.1) (fun _ g => g)) fun a ha => ?_
      exact (want_sim hc K l hl hk k (n + 1) a ha.ok hn1 (by omega)).mono (fun _ h => h) fun b hb => ha.trans hb
    · have e : ∀ q : S65, iter k (wantB K l) (q, ((n + 1 : Nat) : Int)) = some (.inl q) := fun q => by
        obtain ⟨k', rfl⟩ : ∃ k', k = k' + 1 := ⟨k - 1, by omega⟩
        unfold iter
        rw [wantB_end K l q (n + 1) hn1]
      simp only [e]
      exact sim_last h1 fun a ha => ⟨.inl a, rfl, rfl, ha, rfl⟩
theorem L93 {p : S65} (hc : c.Good) (h : c.Ok p) (K : Nat) (l : List Bytes) (hl : l.length ≤ 100) (h0 : 0 < l.length) (hk : 101 < K) : c.Sim c.Broken (fun a => c.Mv true p a) (fnS (F93 K p l)) ((c.XX p).bind fun q => fnS (F93 K q l)) := by
  have e : ∀ q : S65, fnS (F93 K q l) = (iter K (wantB K l) (q, ((0 : Nat) : Int))).map fun s => match s with
    | .inl a => a
    | .inr a => a := fun q => by
    rw [want_eq]
    show _ = (iter K (wantB K l) (q, (0 : Int))).map _
    cases iter K (wantB K l) (q, (0 : Int)) with
    | none => rfl
    | some s => cases s <;> rfl
  simp only [e]
  have e2 : ((c.XX p).bind fun q => (iter K (wantB K l) (q, ((0 : Nat) : Int))).map fun s => match s with
    | .inl a => a
    | .inr a => a) = ((c.XX p).bind fun q => iter K (wantB K l) (q, ((0 : Nat) : Int))).map fun s => match s with
    | .inl a => a
    | .inr a => a := by cases c.XX p <;> rfl
  rw [e2]
  refine sim_map (want_sim hc K l hl (by omega) K 0 p h h0 (by omega)) (fun s => ?_) (fun s => ?_) (fun s hs => ?_)
  · cases s <;> rfl
  · cases s <;> rfl
  · cases s <;> exact hs
theorem L72 {p : S65} (hc : c.Good) (h : c.Ok p) (K : Nat) : c.Sim c.Broken (fun a => c.Mv true p a.2) (fnS (F72 K p)) ((c.XX p).bind fun q => fnS (F72 K q)) := by
  unfold F72
  refine sim_fnS (sim_tok hc h rfl (sim_eyeE (eye_cond (g := true) (kind_eye hc h K 1 (by decide))) fun b hb => sim_ite (fun hn => ?_) fun hn => ?_))
  · exact sim_last (L20 hc h K) fun a ha => ⟨.inl ([], a), rfl, rfl, ha.1, rfl⟩
  · have ha : c.Act p := hb (by simpa using hn)
    exact sim_act ha (b := Sum.inl ((c.cur p).fText, adv p)) (adv_mv hc h ha) (by show Sum.inl (_, adv (c.ph p)) = _; rw [adv_ph hc h]; rfl)
theorem L70 {p : S65} (hc : c.Good) (h : c.Ok p) (K : Nat) : c.Sim c.Broken (fun a => c.Mv true p a.2) (fnS (F70 K p)) ((c.XX p).bind fun q => fnS (F70 K q)) := by
  unfold F70
  refine sim_fnS (sim_tok hc h rfl (sim_eyeE (eye_cond (g := true) (kind_eye hc h K 3 (by decide))) fun b hb => sim_ite (fun hn => ?_) fun hn => ?_))
  · exact sim_last (L20 hc h K) fun a ha => ⟨.inl (0, a), rfl, rfl, ha.1, rfl⟩
  · have ha : c.Act p := hb (by simpa using hn)
    exact sim_act ha (b := Sum.inl ((c.cur p).fN, adv p)) (adv_mv hc h ha) (by show Sum.inl (_, adv (c.ph p)) = _; rw [adv_ph hc h]; rfl)
theorem L112 {p : S65} (hc : c.Good) (h : c.Ok p) (K : Nat) (hk : 100 < K) : c.Sim c.Broken (fun a => c.Mv true p a.2) (fnS (F112 K p)) ((c.XX p).bind fun q => fnS (F112 K q)) := by
  unfold F112
  refine sim_fnS (sim_accept hc h hk (fun _ p1 h1 => ?_) ?_)
  · exact sim_last (L70 hc h1.ok K) fun a ha => ⟨.inl (_, a.2), rfl, rfl, h1.trans ha, rfl⟩
  · exact sim_last (L70 hc h K) fun a ha => ⟨.inl (a.1, a.2), rfl, rfl, ha, rfl⟩
theorem L71 {p : S65} (hc : c.Good) (h : c.Ok p) (K : Nat) (hk : 101 < K) : c.Sim c.Broken (fun a => c.Mv true p a.2) (fnS (F71 K p)) ((c.XX p).bind fun q => fnS (F71 K q)) := by
  unfold F71
  refine sim_fnS (sim_call ((L93 hc h K _ (by simp) (by simp) hk).mono (fun _ g => g.1) fun _ g => g) fun p1 h1 => ?_)
  refine sim_call ((L72 hc h1.ok K).mono (fun _ g => g.1) fun _ g => g) fun a h2 => ?_
  obtain ⟨n, p2⟩ := a
  rw [XX_snd _ _ _ rfl]
  dsimp only
  exact sim_last (L93 hc h2.ok K _ (by simp) (by simp) hk) fun a ha => ⟨.inl (n, a), rfl, rfl, (h1.trans h2).trans ha, rfl⟩
theorem L30 {p : S65} (hc : c.Good) (h : c.Ok p) (ha : c.Act p) (K : Nat) (m n : Int) : c.Sim c.Gone (fun a => c.Mv false p a) (fnS (F30 K p m n)) ((c.XX p).bind fun q => fnS (F30 K q m n)) := by
  unfold F30
  refine sim_fnS (sim_ite (fun hn => ?_) fun hn => ?_)
  · exact sim_last ((L20' hc h K 5 (by decide) (by decide) ha.not_gone).mono (fun _ g => g.1) fun _ g => g) fun a ha => ⟨(Sum.inr a : S65 ⊕ S65), rfl, rfl, ha.1.weak, rfl⟩
  · exact sim_ret (b := (Sum.inr p : S65 ⊕ S65)) (Mv.refl h) rfl (fun g => g)
theorem L38 {p : S65} (hc : c.Good) (h : c.Ok p) (ha : c.Act p) (K : Nat) (m : Int) : c.Sim c.Gone (fun a => c.Mv false p a) (fnS (F38 K p m)) ((c.XX p).bind fun q => fnS (F38 K q m)) := by
  unfold F38
  refine sim_fnS (sim_ite (fun hn => ?_) fun hn => ?_)
  · exact sim_last ((L20' hc h K 4 (by decide) (by decide) ha.not_gone).mono (fun _ g => g.1) fun _ g => g) fun a ha => ⟨(Sum.inr a : S65 ⊕ S65), rfl, rfl, ha.1.weak, rfl⟩
  · exact sim_ret (b := (Sum.inr p : S65 ⊕ S65)) (Mv.refl h) rfl (fun g => g)
end Side
end Go.Proofs.YtphnfaabcnciiaaGreatDoor
