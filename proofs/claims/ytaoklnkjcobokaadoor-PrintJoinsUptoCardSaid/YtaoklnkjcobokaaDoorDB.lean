/- What is kept of a state; and how code does what a plain function says: sequences, tests, blocks, loops. Counted loops; states that say less; what is known to be small. What a function does, by a plain function; calls of it. Calls by contract. A row that nobody writes any more; calls that only look; regions whose order is open and that only look. Regions whose order is open: what only looks may be taken first. Regions whose order is open, by the evaluator. Calls that only look, in a region whose order is open. The rules in a form that a program can print: all side conditions are computed. Slices of values of one Go type, as lists. A state in other words: in general; a nil slice as a slice of the call's own. What the printed texts name. No conditions. -/
import Derived.Test.YtaoklnkjcobokaaDoorDA
import Derived.LoopN
import Derived.Still
import Derived.KernelRfl
namespace Go.Dl
set_option linter.unusedVariables false
set_option linter.unusedSimpArgs false
set_option linter.unusedSectionVars false
variable [WInv]
section
variable {P : Program} {Γ : Ctx} {S : Mem} {β : Bmap} {w : World} {n : Nat}

theorem indexN_some : ∀ {om : List Nat} {o i k : Nat}, indexN o om k = some i → k ≤ i ∧ om[i - k]? = some o
  | [], _, _, _, h => by cases h
  | x :: r, o, i, k, h => by
    unfold indexN at h
    cases hb : Nat.beq x o with
    | true =>
      rw [hb, cond_true] at h
      simp only [Option.some.injEq] at h
      subst h
      have := Nat.eq_of_beq_eq_true hb
      subst this
      simp
    | false =>
      rw [hb, cond_false] at h
      obtain ⟨h1, h2⟩ := indexN_some h
      refine ⟨by omega, ?_⟩
      rw [show i - k = (i - (k + 1)) + 1 by omega, List.getElem?_cons_succ]
      exact h2

/-- The objects' places by new numbers. -/
def bren (β : Bmap) (om : List Nat) : Bmap := fun i => (om[i]?).bind β

theorem C.ren_rel {om : List Nat} : ∀ {c : C} {β : Bmap} {v : Value}, CRel S β c v → CRel S (bren β om) (c.ren om) v := by
  intro c
  induction c with
  | own o m =>
    intro β v hv
    simp only [C.ren]
    cases hi : indexN o om 0 with
    | none => trivial
    | some i =>
      have hb : bren β om i = β o := by
        have := (indexN_some hi).2
        simp only [Nat.sub_zero] at this
        simp [bren, this]
      simp only [Option.elim, CRel, hb]
      exact hv
  | ptr o i j =>
    intro β v hv
    simp only [C.ren]
    cases hi : indexN o om 0 with
    | none => trivial
    | some q =>
      have hb : bren β om q = β o := by
        have := (indexN_some hi).2
        simp only [Nat.sub_zero] at this
        simp [bren, this]
      simp only [Option.elim, CRel, hb]
      exact hv
  | self t b o =>
    intro β v hv
    simp only [C.ren]
    cases hi : indexN o om 0 with
    | none => trivial
    | some q =>
      have hb : bren β om q = β o := by
        have := (indexN_some hi).2
        simp only [Nat.sub_zero] at this
        simp [bren, this]
      simp only [Option.elim, CRel, hb]
      exact hv
  | opt b c ih =>
    intro β v hv
    simp only [C.ren, CRel] at hv ⊢
    split at hv
    · rename_i h; rw [if_pos h]; exact ih hv
    · rename_i h; rw [if_neg h]; exact hv
  | iface b t c ih =>
    intro β v hv
    simp only [C.ren, CRel] at hv ⊢
    split at hv
    · rename_i h; rw [if_pos h]; obtain ⟨u, hu, hr⟩ := hv; exact ⟨u, hu, ih hr⟩
    · rename_i h; rw [if_neg h]; exact hv
  | func fn k cap ih =>
    rintro β v ⟨vs, h1, h2, h3⟩
    refine ⟨vs, h1, h2, fun i hi => ?_⟩
    have : (((List.range k).map fun i => (cap i).ren om).getD i .bot) = (cap i).ren om := by
      simp [List.getD, hi]
    show CRel S (bren β om) (((List.range k).map fun i => (cap i).ren om).getD i .bot) _
    rw [this]
    exact ih i (h3 i hi)
  | cond b c ih =>
    intro β v hv hb
    exact ih (hv hb)
  | _ => intro β v hv; exact hv

theorem LRel.map {β β' : Bmap} {S S' : Mem} (f : C → C) (hf : ∀ c v, CRel S β c v → CRel S' β' (f c) v) : ∀ {l : List C} {us : List Value}, LRel S β l us → LRel S' β' (l.map f) us
  | [], _, h => h
  | _ :: _, _, ⟨v, r, h1, h2, h3⟩ => ⟨v, r, h1, hf _ _ h2, LRel.map f hf h3⟩

theorem D1.ren_rel {om : List Nat} {d : D1} {v : Value} (h : D1Rel S β d v) : D1Rel S (bren β om) (d.ren om) v := by
  cases d with
  | c x => exact C.ren_rel h
  | agg l => obtain ⟨vs, h1, h2⟩ := h; exact ⟨vs, h1, h2.map _ fun _ _ h => C.ren_rel h⟩

theorem TRel.map {β β' : Bmap} {S S' : Mem} (f : D1 → D1) (hf : ∀ c v, D1Rel S β c v → D1Rel S' β' (f c) v) : ∀ {l : List D1} {us : List Value}, TRel S β l us → TRel S' β' (l.map f) us
  | [], _, h => h
  | _ :: _, _, ⟨v, r, h1, h2, h3⟩ => ⟨v, r, h1, hf _ _ h2, TRel.map f hf h3⟩

theorem D.ren_rel {om : List Nat} {d : D} {v : Value} (h : DRel S β d v) : DRel S (bren β om) (d.ren om) v := by
  cases d with
  | c x => exact C.ren_rel h
  | agg l => obtain ⟨vs, h1, h2⟩ := h; exact ⟨vs, h1, h2.map _ fun _ _ h => C.ren_rel h⟩
  | tup l => obtain ⟨vs, h1, h2⟩ := h; exact ⟨vs, h1, h2.map _ fun _ _ h => D1.ren_rel h⟩

theorem nodupN_inj : ∀ {om : List Nat}, nodupN om = true → ∀ {i j o : Nat}, om[i]? = some o → om[j]? = some o → i = j
  | [], _, i, j, o, h, _ => by simp at h
  | x :: r, hn, i, j, o, hi, hj => by
    simp only [nodupN, Bool.and_eq_true, Bool.not_eq_true', List.any_eq_false] at hn
    obtain ⟨h1, h2⟩ := hn
    cases i with
    | zero =>
      cases j with
      | zero => rfl
      | succ j =>
        simp only [List.getElem?_cons_zero, Option.some.injEq] at hi
        subst hi
        simp only [List.getElem?_cons_succ] at hj
        have := h1 x (List.mem_of_getElem? hj)
        simp at this
    | succ i =>
      cases j with
      | zero =>
        simp only [List.getElem?_cons_zero, Option.some.injEq] at hj
        subst hj
        simp only [List.getElem?_cons_succ] at hi
        have := h1 x (List.mem_of_getElem? hi)
        simp at this
      | succ j =>
        simp only [List.getElem?_cons_succ] at hi hj
        rw [nodupN_inj h2 hi hj]

theorem ren_live {x : Obj} {om : List Nat} : (x.ren om).live = x.live := by cases x <;> rfl

theorem ORel.ren {om : List Nat} {o i : Nat} {x : Obj} (h : ORel S β w o x) (hi : om[i]? = some o) : ORel S (bren β om) w i (x.ren om) := by
  have hb : bren β om i = β o := by simp [bren, hi]
  cases x with
  | dead => trivial
  | cells l =>
    obtain ⟨k, h1, h2, h3, h4, vs, h5, h6, h7⟩ := h
    exact ⟨k, by rw [hb]; exact h1, by rw [h2]; simp, h3, h4, vs, h5, h6.map _ fun _ _ h => C.ren_rel h, h7⟩
  | row e wd m get =>
    rcases h with ⟨h1, h2⟩ | ⟨k, h1, h2⟩
    · exact .inl ⟨by rw [hb]; exact h1, h2⟩
    · exact .inr ⟨k, by rw [hb]; exact h1, h2⟩

/-- The objects, some of them, by new numbers. -/
theorem Core.ren {xs : List Obj} (h : Core Γ S β w xs) {om : List Nat} (hn : nodupN om = true) :
    Core Γ S (bren β om) w (om.map fun o => (xs.getD o .dead).ren om) := by
  have get : ∀ i y, (om.map fun o => (xs.getD o .dead).ren om)[i]? = some y → y.live = true → ∃ o x, om[i]? = some o ∧ xs[o]? = some x ∧ x.live = true ∧ y = x.ren om ∧ bren β om i = β o := by
    intro i y hy hl
    rw [List.getElem?_map] at hy
    cases ho : om[i]? with
    | none => simp [ho] at hy
    | some o =>
      simp only [ho, Option.map_some, Option.some.injEq] at hy
      subst hy
      rw [ren_live] at hl
      cases hx : xs[o]? with
      | none => simp [List.getD, hx, Obj.live] at hl
      | some x =>
        refine ⟨o, x, rfl, hx, ?_, ?_, by simp [bren, ho]⟩
        · simpa [List.getD, hx] using hl
        · simp [List.getD, hx]
  refine ⟨h.frame, h.holds, ?_, ?_, ?_, ?_, ?_⟩
  · intro i y hy
    cases hl : y.live with
    | false => cases y <;> first | trivial | cases hl
    | true =>
      obtain ⟨o, x, ho, hx, _, rfl, _⟩ := get i y hy hl
      exact (h.objs o x hx).ren ho
  · intro i hi
    have : om[i]? = none := List.getElem?_eq_none (by simpa using hi)
    simp [bren, this]
  · intro i j k k' y y' hy hy' hl hl' hk hk' hne
    obtain ⟨o, x, ho, hx, hxl, _, hb⟩ := get i y hy hl
    obtain ⟨o', x', ho', hx', hxl', _, hb'⟩ := get j y' hy' hl'
    rw [hb] at hk; rw [hb'] at hk'
    refine h.inj o o' k k' x x' hx hx' hxl hxl' hk hk' fun e => hne ?_
    subst e
    exact nodupN_inj hn ho ho'
  · intro i k y hy hl hk
    obtain ⟨o, x, ho, hx, hxl, _, hb⟩ := get i y hy hl
    rw [hb] at hk
    exact h.sep o k x hx hxl hk
  · intro i k y hy hl hk
    obtain ⟨o, x, ho, hx, hxl, _, hb⟩ := get i y hy hl
    rw [hb] at hk
    exact h.mine o k x hx hxl hk

theorem lookup_map (f : Nat → D) (t : Nat) : ∀ (l : List Nat), lookupT (D.c .bot) (l.map fun t => (t, f t)) t = bif l.any (Nat.beq t) then f t else .c .bot
  | [] => rfl
  | x :: r => by
    rw [List.map_cons, List.any_cons]
    simp only [lookupT]
    cases hb : Nat.beq x t with
    | true =>
      have := Nat.eq_of_beq_eq_true hb
      subst this
      simp
    | false =>
      have : Nat.beq t x = false := by
        cases hq : Nat.beq t x with
        | false => rfl
        | true => have := Nat.eq_of_beq_eq_true hq; subst this; simp at hb
      rw [cond_false, this, Bool.false_or]
      exact lookup_map f t r

theorem ren_bool {d : D} {om : List Nat} {b : Bool} (h : d.ren om = .c (.val (.bool b))) : d = .c (.val (.bool b)) := by
  cases d with
  | c x =>
    simp only [D.ren, D.c.injEq] at h
    cases x with
    | val u => simp only [C.ren] at h; rw [h]
    | own o m => simp only [C.ren] at h; cases hi : indexN o om 0 <;> simp [hi] at h
    | ptr o i j => simp only [C.ren] at h; cases hi : indexN o om 0 <;> simp [hi] at h
    | self t b o => simp only [C.ren] at h; cases hi : indexN o om 0 <;> simp [hi] at h
    | _ => simp only [C.ren] at h; cases h
  | agg l => cases h
  | tup l => cases h

theorem startsN_get : ∀ {k i : Nat} {om : List Nat}, startsN k i om = true → ∀ {o : Nat}, o < k → om[o]? = some (i + o)
  | 0, _, _, _, _, h => by omega
  | k + 1, i, [], h, _, _ => by cases h
  | k + 1, i, x :: r, h, o, ho => by
    simp only [startsN, Bool.and_eq_true] at h
    have hx := Nat.eq_of_beq_eq_true h.1
    subst hx
    cases o with
    | zero => simp
    | succ o =>
      rw [List.getElem?_cons_succ, startsN_get h.2 (by omega)]
      congr 1
      omega

theorem keep_sound {a : Act} {st st' : St} {l om : List Nat} (h : RR Γ S β a w n st) (hk : st.keep l om = some st') : RR Γ S (bren β om) a w n st' := by
  unfold St.keep at hk
  dsimp only at hk
  obtain ⟨hg, hk⟩ := some_of_cond hk
  simp only [Option.some.injEq] at hk
  subst hk
  simp only [Bool.and_eq_true] at hg
  obtain ⟨hg, hn, hst⟩ := hg
  have get' : ∀ t, St.get ⟨l.map fun t => (t, (st.get t).ren om), om.map fun o => (st.objs.getD o .dead).ren om, st.gd.filter (fun p => l.any (Nat.beq p.1)), st.h⟩ t = bif l.any (Nat.beq t) then (st.get t).ren om else .c .bot :=
    fun t => lookup_map (fun t => (st.get t).ren om) t l
  have gof' : ∀ t, St.gof ⟨l.map fun t => (t, (st.get t).ren om), om.map fun o => (st.objs.getD o .dead).ren om, st.gd.filter (fun p => l.any (Nat.beq p.1)), st.h⟩ t = bif l.any (Nat.beq t) then st.gof t else [] := by
    intro t
    unfold St.gof
    simp only
    rw [lookup_filter (fun i => l.any (Nat.beq i))]
  have hkeep : ∀ t, l.any (Nat.beq t) = true → ∀ q ∈ st.gof t, l.any (Nat.beq q.1) = true := by
    intro t ht q hq
    -- the guard of t lies in what is kept
    have : ∃ p ∈ st.gd.filter (fun p => l.any (Nat.beq p.1)), q ∈ p.2 := by
      have hq' : q ∈ St.gof ⟨l.map fun t => (t, (st.get t).ren om), om.map fun o => (st.objs.getD o .dead).ren om, st.gd.filter (fun p => l.any (Nat.beq p.1)), st.h⟩ t := by
        rw [gof' t, ht, cond_true]; exact hq
      exact gof_mem hq'
    obtain ⟨p, hp, hqp⟩ := this
    rw [List.all_eq_true] at hg
    have := hg p hp
    rw [List.all_eq_true] at this
    exact this q hqp
  have hold : ∀ t, l.any (Nat.beq t) = true → (St.holds ⟨l.map fun t => (t, (st.get t).ren om), om.map fun o => (st.objs.getD o .dead).ren om, st.gd.filter (fun p => l.any (Nat.beq p.1)), st.h⟩ (st.gof t) ↔ st.holds (st.gof t)) := by
    intro t ht
    unfold St.holds
    constructor
    · intro hh q hq
      have := hh q hq
      rw [get' q.1, hkeep t ht q hq, cond_true] at this
      exact ren_bool this
    · intro hh q hq
      rw [get' q.1, hkeep t ht q hq, cond_true, hh q hq]
      rfl
  refine ⟨h.core.ren hn, fun t hh => ?_, fun t hh => ?_, h.size, h.defers, fun o k ho hB => ?_⟩
  · rw [get' t]
    cases ht : l.any (Nat.beq t) with
    | false => trivial
    | true =>
      rw [cond_true]
      rw [gof' t, ht, cond_true, hold t ht] at hh
      exact D.ren_rel (h.tm t hh)
  · cases ht : l.any (Nat.beq t) with
    | false =>
      rw [gof' t, ht, cond_false] at hh
      exact absurd (fun q hq => by cases hq) hh
    | true =>
      rw [gof' t, ht, cond_true, hold t ht] at hh
      exact h.un t hh
  · have := startsN_get hst ho
    rw [Nat.zero_add] at this
    simp only [bren, this, Option.bind_some]
    exact h.hand o k ho hB

end

/-- All tests hold, or there is nothing. -/
def chk {α : Type} : List Bool → Option α → Option α
  | [], m => m
  | v :: vs, m => if v = true then chk vs m else none

theorem chk_some {α : Type} : ∀ {vs : List Bool} {m : Option α} {x : α}, chk vs m = some x → (∀ b ∈ vs, b = true) ∧ m = some x
  | [], _, _, h => ⟨(fun b hb => by cases hb), h⟩
  | v :: vs, m, x, h => by
    unfold chk at h
    split at h
    · rename_i hv
      obtain ⟨h1, h2⟩ := chk_some h
      refine ⟨fun b hb => ?_, h2⟩
      rcases List.mem_cons.1 hb with rfl | hb
      · exact hv
      · exact h1 b hb
    · cases h

/-- How code may end: by leaving (inl), or at its end (inr). -/
def bindS {A T U : Type} (m : Option (A ⊕ T)) (f : T → Option (A ⊕ U)) : Option (A ⊕ U) :=
  match m with
  | none => none
  | some (.inl a) => some (.inl a)
  | some (.inr t) => f t

def blockS {A T : Type} (m : Option ((T ⊕ A) ⊕ T)) : Option (A ⊕ T) :=
  match m with
  | none => none
  | some (.inl (.inl t)) => some (.inr t)
  | some (.inl (.inr a)) => some (.inl a)
  | some (.inr t) => some (.inr t)

/-- Rounds, as many as there is fuel. -/
def iter {A T : Type} : Nat → (T → Option (A ⊕ T)) → T → Option A
  | 0, _, _ => none
  | k + 1, f, t =>
    match f t with
    | none => none
    | some (.inl a) => some a
    | some (.inr t') => iter k f t'

/-- The ways to leave. -/
inductive Ex where
  | ret
  | exit (id : Nat)

def Ex.out : Ex → Exit
  | .ret => .ret
  | .exit id => .exit id

def Post (Γ : Ctx) (n : Nat) {A T : Type} (go : T → St) (ab : A → Ex × St) (x : A ⊕ T) : Exit → Act → World → Prop := fun e a w =>
  match x with
  | .inl t => e = (ab t).1.out ∧ ∃ S β, RR Γ S β a w n (ab t).2
  | .inr t => e = .normal ∧ ∃ S β, RR Γ S β a w n (go t)

/-- Pieces of code, one behind the other. -/
def wpL (P : Program) : List Code → (Exit → Act → World → Prop) → Act → World → Prop
  | [], Q, a, w => Q .normal a w
  | c :: cs, Q, a, w => c.wp P (Exit.then (wpL P cs Q) Q) a w

/-- Code does what a plain function says. -/
def Ref (P : Program) (n : Nat) {A T : Type} (cs : List Code) (st : St) (m : Option (A ⊕ T)) (go : T → St) (ab : A → Ex × St) : Prop :=
  ∀ Γ S β a w, RR Γ S β a w n st → ∀ x, m = some x → wpL P cs (Post Γ n go ab x) a w

/-- The rest of a region, and the code behind it. -/
def RefR (P : Program) (n : Nat) (ops : Array Oper) {A T : Type} (l : List Oper) (cs : List Code) (st : St) (m : Option (A ⊕ T)) (go : T → St) (ab : A → Ex × St) : Prop :=
  ∀ Γ S β a w, RR Γ S β a w n st → ∀ x, m = some x → wpList P ops (Exit.then (wpL P cs (Post Γ n go ab x)) (Post Γ n go ab x)) l a w

section
variable {P : Program} {n : Nat} {A T U : Type} {go : T → St} {ab : A → Ex × St} {st : St} {m : Option (A ⊕ T)} {cs : List Code}

theorem Ref.region {id : Nat} {ops : Array Oper} (h : RefR P n ops ops.toList cs st m go ab) : Ref P n (.region id ops false :: cs) st m go ab :=
  fun Γ S β a w hr x hx => wp_region_list (h Γ S β a w hr x hx)

theorem RefR.ev (j : Nat) (keep om : List Nat) {ops : Array Oper} {l : List Oper} {vs : List Bool} {st' : St}
    (he : run1 P n ops (l.take j) st keep om = some (vs, st')) (h : RefR P n ops (l.drop j) cs st' m go ab) : RefR P n ops l cs st (chk vs m) go ab := by
  intro Γ S β a w hr x hx
  obtain ⟨hvs, hm⟩ := chk_some hx
  unfold run1 at he
  split at he
  · rename_i vs2 st2 h2
    cases hk : st2.keep keep om with
    | none => rw [hk] at he; cases he
    | some st3 =>
      rw [hk] at he
      simp only [Option.map_some, Option.some.injEq, Prod.mk.injEq] at he
      obtain ⟨rfl, rfl⟩ := he
      have := evOps_sound (Q := Exit.then (wpL P cs (Post Γ n go ab x)) (Post Γ n go ab x)) (rest := l.drop j) hr h2 hvs fun a' w' S' β' h' => h Γ S' (bren β' om) a' w' (keep_sound h' hk) x hm
      rwa [List.take_append_drop] at this
  · cases he

theorem RefR.nil {ops : Array Oper} (h : Ref P n cs st m go ab) : RefR P n ops [] cs st m go ab :=
  fun Γ S β a w hr x hx => h Γ S β a w hr x hx

theorem Ref.nil {t : T} (h : go t = st) : Ref P n [] st (some (.inr t)) go ab := by
  intro Γ S β a w hr x hx
  simp only [Option.some.injEq] at hx
  subst hx
  exact ⟨rfl, S, β, by rw [h]; exact hr⟩

theorem Ref.seq {x y : Code} (h : Ref P n (x :: y :: cs) st m go ab) : Ref P n (.seq x y :: cs) st m go ab := by
  intro Γ S β a w hr q hq
  refine wp_seq (Code.wp_mono (fun e a w he => ?_) (h Γ S β a w hr q hq))
  cases e <;> exact he

theorem Ref.skip (h : Ref P n cs st m go ab) : Ref P n (.skip :: cs) st m go ab :=
  fun Γ S β a w hr x hx => wp_skip (h Γ S β a w hr x hx)

theorem Ref.ret {t : A} (h : ab t = (.ret, st)) : Ref P n (.ret :: cs) st (some (.inl t)) go ab := by
  intro Γ S β a w hr x hx
  simp only [Option.some.injEq] at hx
  subst hx
  refine wp_ret ?_
  show Post Γ n go ab (.inl t) .ret a w
  simp only [Post, h]
  exact ⟨rfl, S, β, hr⟩

theorem Ref.exit {id : Nat} {t : A} (h : ab t = (.exit id, st)) : Ref P n (.exit id :: cs) st (some (.inl t)) go ab := by
  intro Γ S β a w hr x hx
  simp only [Option.some.injEq] at hx
  subst hx
  refine wp_exit ?_
  show Post Γ n go ab (.inl t) (.exit id) a w
  simp only [Post, h]
  exact ⟨rfl, S, β, hr⟩

theorem lv_bool {Γ : Ctx} {S : Mem} {β : Bmap} {a : Act} {w : World} (hr : RR Γ S β a w n st) {c : Operand} {b : Bool} (hg : st.gd = []) (h : st.lv c = .c (.val (.bool b))) : a.eval c = .bool b := by
  have := see_rel hr (g := []) (fun q hq => by cases hq) c
  have hs : st.see [] = st := by unfold St.see; rw [hg]; rfl
  rw [hs, h] at this
  exact this

theorem Ref.cond {c : Operand} {x y : Code} {b : Bool} {m1 m2 : Option (A ⊕ T)} (hb : st.lv c = .c (.val (.bool b))) (hg : st.gd = []) (h1 : b = true → Ref P n (x :: cs) st m1 go ab) (h2 : b = false → Ref P n (y :: cs) st m2 go ab) :
    Ref P n (.cond c x y :: cs) st (if b = true then m1 else m2) go ab := by
  intro Γ S β a w hr q hq
  have he := lv_bool hr hg hb
  refine wp_cond he ?_
  cases b with
  | true =>
    rw [if_pos rfl] at hq
    exact h1 rfl Γ S β a w hr q hq
  | false =>
    rw [if_neg (by simp)] at hq
    exact h2 rfl Γ S β a w hr q hq

theorem Ref.bind {x : Code} {go1 : U → St} {m1 : Option (A ⊕ U)} {m2 : U → Option (A ⊕ T)} (h1 : Ref P n [x] st m1 go1 ab) (h2 : ∀ t, Ref P n cs (go1 t) (m2 t) go ab) :
    Ref P n (x :: cs) st (bindS m1 m2) go ab := by
  intro Γ S β a w hr q hq
  cases hm : m1 with
  | none => rw [hm] at hq; cases hq
  | some z =>
    rw [hm] at hq
    refine Code.wp_mono (fun e a' w' he => ?_) (h1 Γ S β a w hr z hm)
    cases z with
    | inl t =>
      simp only [bindS, Option.some.injEq] at hq
      subst hq
      have he' : Post Γ n go1 ab (.inl t) e a' w' := by
        cases e <;> exact he
      cases e with
      | normal =>
        have := he'.1
        cases hx : (ab t).1 <;> rw [hx] at this <;> cases this
      | _ => exact he'
    | inr u =>
      simp only [bindS] at hq
      have he' : Post Γ n go1 ab (.inr u) e a' w' := by
        cases e <;> exact he
      obtain ⟨rfl, S', β', hr'⟩ := he'
      exact h2 u Γ S' β' a' w' hr' q hq


theorem Ref.block {id : Nat} {c : Code} {U : Type} {go1 : U → St} {m1 : Option ((U ⊕ A) ⊕ U)} {m2 : U → Option (A ⊕ T)}
    (h1 : Ref P n [c] st m1 go1 (fun x => match x with | .inl t => (.exit id, go1 t) | .inr a => ab a)) (hid : ∀ a, (ab a).1 ≠ .exit id)
    (h2 : ∀ t, Ref P n cs (go1 t) (m2 t) go ab) : Ref P n (.block id c :: cs) st (bindS (blockS m1) m2) go ab := by
  intro Γ S β a w hr q hq
  cases hm : m1 with
  | none => rw [hm] at hq; cases hq
  | some z =>
    rw [hm] at hq
    refine wp_block (Code.wp_mono (fun e a' w' he => ?_) (h1 Γ S β a w hr z hm))
    have he' : Post Γ n go1 (fun x => match x with | .inl t => (.exit id, go1 t) | .inr a => ab a) z e a' w' := by
      cases e <;> exact he
    cases z with
    | inl t =>
      cases t with
      | inl u =>
        simp only [blockS, bindS] at hq
        obtain ⟨rfl, S', β', hr'⟩ := he'
        show Exit.inBlock id _ (.exit id) a' w'
        simp only [Exit.inBlock, if_true]
        exact h2 u Γ S' β' a' w' hr' q hq
      | inr t =>
        simp only [blockS, bindS, Option.some.injEq] at hq
        subst hq
        obtain ⟨h1e, S', β', hr'⟩ := he'
        have h1e : e = (ab t).1.out := h1e
        have hpost : Post Γ n go ab (.inl t) e a' w' := ⟨h1e, S', β', hr'⟩
        cases hx : (ab t).1 with
        | ret =>
          rw [hx] at h1e
          subst h1e
          exact hpost
        | exit id' =>
          rw [hx] at h1e
          subst h1e
          show Exit.inBlock id _ (.exit id') a' w'
          simp only [Exit.inBlock]
          rw [if_neg (fun e => hid t (by rw [hx, e]))]
          exact hpost
    | inr u =>
      simp only [blockS, bindS] at hq
      obtain ⟨rfl, S', β', hr'⟩ := he'
      exact h2 u Γ S' β' a' w' hr' q hq

theorem iter_rounds {body : Code} {hd : T → St} {f : T → Option (A ⊕ T)} {Γ : Ctx} {go : U → St} (hb : ∀ t, Ref P n [body] (hd t) (f t) hd ab) :
    ∀ (k : Nat) (t : T) (x : A) (S : Mem) (β : Bmap) (a : Act) (w : World), RR Γ S β a w n (hd t) → iter k f t = some x → Code.rounds P body (Post Γ n go ab (.inl x)) k a w
  | 0, t, x, S, β, a, w, hr, h => by cases h
  | k + 1, t, x, S, β, a, w, hr, h => by
    unfold iter at h
    rw [rounds_succ]
    cases hf : f t with
    | none => rw [hf] at h; cases h
    | some z =>
      rw [hf] at h
      refine Code.wp_mono (fun e a' w' he => ?_) (hb t Γ S β a w hr z hf)
      have he' : Post Γ n hd ab z e a' w' := by
        cases e <;> exact he
      cases z with
      | inl y =>
        simp only [Option.some.injEq] at h
        subst h
        obtain ⟨h1e, S', β', hr'⟩ := he'
        have hpost : Post Γ n go ab (.inl y) e a' w' := ⟨h1e, S', β', hr'⟩
        cases hx : (ab y).1 <;> (rw [hx] at h1e; subst h1e; exact hpost)
      | inr t' =>
        obtain ⟨rfl, S', β', hr'⟩ := he'
        exact iter_rounds hb k t' x S' β' a' w' hr' h

theorem Ref.loop {body : Code} {hd : U → St} {f : U → Option (A ⊕ U)} (k : Nat) (t0 : U) (h0 : hd t0 = st) (hb : ∀ t, Ref P n [body] (hd t) (f t) hd ab) :
    Ref P n (.loop body :: cs) st ((iter k f t0).map .inl) go ab := by
  intro Γ S β a w hr q hq
  cases hi : iter k f t0 with
  | none => rw [hi] at hq; cases hq
  | some x =>
    rw [hi] at hq
    simp only [Option.map_some, Option.some.injEq] at hq
    subst hq
    subst h0
    refine Code.wp_mono (fun e a' w' he => ?_) (wp_loop_rounds k (iter_rounds (go := go) hb k t0 x S β a w hr hi))
    obtain ⟨h1e, S', β', hr'⟩ := he
    have hpost : Post Γ n go ab (.inl x) e a' w' := ⟨h1e, S', β', hr'⟩
    cases hx : (ab x).1 <;> (rw [hx] at h1e; subst h1e; exact hpost)

/-- Rounds with a counter, from i on, as many as told. -/
def upTo {A T : Type} : Nat → Int → (Int → T → Option (A ⊕ T)) → T → Option (A ⊕ T)
  | 0, _, _, t => some (.inr t)
  | k + 1, i, f, t =>
    match f i t with
    | none => none
    | some (.inl a) => some (.inl a)
    | some (.inr t') => upTo k (i + 1) f t'

end
end Go.Dl

namespace Go.Dl
set_option linter.unusedVariables false
set_option linter.unusedSimpArgs false
set_option linter.unusedSectionVars false
variable [WInv]

/-- Two lists, member by member. -/
inductive All2 {α β : Type} (R : α → β → Prop) : List α → List β → Prop where
  | nil : All2 R [] []
  | cons {a : α} {b : β} {l : List α} {l' : List β} : R a b → All2 R l l' → All2 R (a :: l) (b :: l')

theorem All2.length_eq {α β : Type} {R : α → β → Prop} : ∀ {l : List α} {l' : List β}, All2 R l l' → l.length = l'.length
  | _, _, .nil => rfl
  | _, _, .cons _ h => by simp [h.length_eq]

/-- What one says, the other says too. -/
def CLe (c c' : C) : Prop := ∀ S β v, CRel S β c v → CRel S β c' v
def DLe (d d' : D) : Prop := ∀ S β v, DRel S β d v → DRel S β d' v
def OLe (x x' : Obj) : Prop := x.live = x'.live ∧ ∀ S β w o, ORel S β w o x → ORel S β w o x'
def StLe (n : Nat) (st st' : St) : Prop := ∀ Γ S β a w, RR Γ S β a w n st → RR Γ S β a w n st'

/-- A number is small in every world of which the state tells. -/
def Bd (n : Nat) (st : St) (N : Int) : Prop := ∀ Γ S β a w, RR Γ S β a w n st → N ≤ 9223372036854775807

section
variable {P : Program} {n : Nat} {A T U : Type} {go : T → St} {ab : A → Ex × St} {st st' : St} {m : Option (A ⊕ T)} {cs : List Code}

theorem Ref.keep (l om : List Nat) (hk : st.keep l om = some st') (h : Ref P n cs st' m go ab) : Ref P n cs st m go ab :=
  fun Γ S β a w hr x hx => h Γ S _ a w (keep_sound hr hk) x hx

theorem Ref.le (hl : StLe n st st') (h : Ref P n cs st' m go ab) : Ref P n cs st m go ab :=
  fun Γ S β a w hr x hx => h Γ S β a w (hl Γ S β a w hr) x hx

theorem RefR.keep {ops : Array Oper} {l : List Oper} (lt om : List Nat) (hk : st.keep lt om = some st') (h : RefR P n ops l cs st' m go ab) : RefR P n ops l cs st m go ab :=
  fun Γ S β a w hr x hx => h Γ S _ a w (keep_sound hr hk) x hx

theorem RefR.le {ops : Array Oper} {l : List Oper} (hl : StLe n st st') (h : RefR P n ops l cs st' m go ab) : RefR P n ops l cs st m go ab :=
  fun Γ S β a w hr x hx => h Γ S β a w (hl Γ S β a w hr) x hx

theorem Ref.chk {vs : List Bool} (h : (∀ b ∈ vs, b = true) → Ref P n cs st m go ab) : Ref P n cs st (chk vs m) go ab := by
  intro Γ S β a w hr x hx
  obtain ⟨h1, h2⟩ := chk_some hx
  exact h h1 Γ S β a w hr x h2

theorem CLe.refl (c : C) : CLe c c := fun _ _ _ h => h
theorem DLe.refl (d : D) : DLe d d := fun _ _ _ h => h
theorem OLe.refl (x : Obj) : OLe x x := ⟨rfl, fun _ _ _ _ h => h⟩

/-- States that tell of the same slots, and of the same objects, the second one less. -/
theorem StLe.mk {l : List (Nat × D)} {l' : List (Nat × D)} {xs xs' : List Obj} (hs : All2 (fun p q => p.1 = q.1 ∧ DLe p.2 q.2) l l') (ho : All2 OLe xs xs') (h0 : Nat) :
    StLe n ⟨l, xs, [], h0⟩ ⟨l', xs', [], h0⟩ := by
  intro Γ S β a w h
  have hlen : xs.length = xs'.length := ho.length_eq
  have get : ∀ (o : Nat) (x' : Obj), xs'[o]? = some x' → ∃ x, xs[o]? = some x ∧ OLe x x' := by
    intro o x' hx
    clear hlen h
    induction ho generalizing o with
    | nil => simp at hx
    | cons h1 _ ih =>
      cases o with
      | zero => simp only [List.getElem?_cons_zero, Option.some.injEq] at hx; subst hx; exact ⟨_, rfl, h1⟩
      | succ o => simp only [List.getElem?_cons_succ] at hx ⊢; exact ih o hx
  have tm : ∀ t v, DRel S β (lookupT (.c .bot) l t) v → DRel S β (lookupT (.c .bot) l' t) v := by
    intro t v hv
    clear get hlen h
    induction hs with
    | nil => exact hv
    | cons h1 _ ih =>
      rename_i p q _ _ _
      obtain ⟨i, d⟩ := p
      obtain ⟨j, d'⟩ := q
      obtain ⟨e, hd⟩ := h1
      simp only at e hd
      subst e
      simp only [lookupT] at hv ⊢
      cases hb : Nat.beq i t with
      | true => rw [hb, cond_true] at hv; rw [cond_true]; exact hd _ _ _ hv
      | false => rw [hb, cond_false] at hv; rw [cond_false]; exact ih hv
  refine ⟨⟨h.core.frame, h.core.holds, ?_, ?_, ?_, ?_, ?_⟩, fun t _ => tm t _ (h.tm t (fun q hq => by cases hq)), fun t hh => absurd (fun q hq => by cases hq) hh, h.size, h.defers, h.hand⟩
  · intro o x' hx'
    obtain ⟨x, hx, hle⟩ := get o x' hx'
    exact hle.2 _ _ _ _ (h.core.objs o x hx)
  · intro o ho'
    exact h.core.out o (by show xs.length ≤ o; have : xs'.length ≤ o := ho'; omega)
  · intro o o' k k' y y' hy hy' hl hl'
    obtain ⟨x, hx, hle⟩ := get o y hy
    obtain ⟨x', hx', hle'⟩ := get o' y' hy'
    exact h.core.inj o o' k k' x x' hx hx' (by rw [hle.1]; exact hl) (by rw [hle'.1]; exact hl')
  · intro o k y hy hl
    obtain ⟨x, hx, hle⟩ := get o y hy
    exact h.core.sep o k x hx (by rw [hle.1]; exact hl)
  · intro o k y hy hl
    obtain ⟨x, hx, hle⟩ := get o y hy
    exact h.core.mine o k x hx (by rw [hle.1]; exact hl)

theorem CLe.tree {w m m' : Nat} {g g' : Nat → Nat → C} (hm : m = m') (h : ∀ i j, i < m → j < w → CLe (g i j) (g' i j)) : CLe (.tree w m g) (.tree w m' g') := by
  subst hm
  rintro S β v ⟨a, cap, h1, h2, h3, h4⟩
  refine ⟨a, cap, h1, h2, h3, ?_⟩
  rcases h4 with h4 | ⟨b, off, h5, h6⟩
  · exact .inl h4
  · refine .inr ⟨b, off, h5, fun i j hi hj => ?_⟩
    obtain ⟨u, hu, hr⟩ := h6 i j hi hj
    exact ⟨u, hu, h i j hi hj _ _ _ hr⟩

theorem OLe.row {e w m m' : Nat} {g g' : Nat → Nat → C} (hm : m = m') (h : ∀ i j, i < m → j < w → CLe (g i j) (g' i j)) : OLe (.row e w m g) (.row e w m' g') := by
  subst hm
  refine ⟨rfl, fun S β ww o ho => ?_⟩
  rcases ho with ho | ⟨k, h1, h2, h3, h4, h5, h6, cur, h7, h8, h9⟩
  · exact .inl ho
  · refine .inr ⟨k, h1, h2, h3, h4, h5, h6, cur, h7, h8, fun i j hi hj => ?_⟩
    obtain ⟨u, hu, ho1, hr⟩ := h9 i j hi hj
    exact ⟨u, hu, ho1, h i j hi hj _ _ _ hr⟩

theorem OLe.cells {l l' : List C} (h : All2 CLe l l') : OLe (.cells l) (.cells l') := by
  refine ⟨rfl, fun S β ww o ho => ?_⟩
  obtain ⟨k, h1, h2, h3, h4, us, h5, h6, h7⟩ := ho
  refine ⟨k, h1, by rw [h2, h.length_eq], h3, h4, us, h5, ?_, h7⟩
  clear h2 h5 h7
  induction h generalizing us with
  | nil => exact h6
  | cons hc _ ih =>
    obtain ⟨v, r, rfl, q1, q2⟩ := h6
    exact ⟨v, r, rfl, hc _ _ _ q1, ih r q2⟩

theorem Bd.le {N : Int} (h : N ≤ 9223372036854775807) : Bd n st N := fun _ _ _ _ _ _ => h

theorem Bd.tree (t : Nat) {w m : Nat} {g : Nat → Nat → C} (h : st.get t = .c (.tree w m g)) (hg : st.gd = []) : Bd n st m := by
  intro Γ S β a w' hr
  have := hr.tm t (by unfold St.gof; rw [hg]; intro q hq; cases hq)
  rw [h] at this
  obtain ⟨_, cap, _, h1, h2, _⟩ := this
  simp only [maxLen] at h2
  omega

theorem Bd.str (t : Nat) {l : List UInt8} (h : st.get t = .c (.str l)) (hg : st.gd = []) : Bd n st l.length := by
  intro Γ S β a w' hr
  have := hr.tm t (by unfold St.gof; rw [hg]; intro q hq; cases hq)
  rw [h] at this
  obtain ⟨_, h2⟩ := this
  simp only [maxLen] at h2
  omega

theorem Bd.cell_tree (o j : Nat) {l : List C} {w m : Nat} {g : Nat → Nat → C} (ho : st.objs[o]? = some (.cells l)) (h : l[j]? = some (.tree w m g)) : Bd n st m := by
  intro Γ S β a w' hr
  obtain ⟨k, _, _, _, _, us, _, hl, _⟩ := hr.core.objs o _ ho
  obtain ⟨u, _, hu⟩ := hl.get j _ h
  obtain ⟨_, cap, _, h1, h2, _⟩ := hu
  simp only [maxLen] at h2
  omega

theorem Bd.cell_str (o j : Nat) {l : List C} {s : List UInt8} (ho : st.objs[o]? = some (.cells l)) (h : l[j]? = some (.str s)) : Bd n st s.length := by
  intro Γ S β a w' hr
  obtain ⟨k, _, _, _, _, us, _, hl, _⟩ := hr.core.objs o _ ho
  obtain ⟨u, _, hu⟩ := hl.get j _ h
  obtain ⟨_, h2⟩ := hu
  simp only [maxLen] at h2
  omega

theorem Bd.row (o : Nat) {e w m : Nat} {g : Nat → Nat → C} (ho : st.objs[o]? = some (.row e w m g)) : Bd n st m := by
  intro Γ S β a w' hr
  rcases hr.core.objs o _ ho with ⟨_, h⟩ | ⟨k, _, _, _, _, h1, h2, _⟩
  · omega
  · simp only [maxLen] at h2
    omega

theorem wrap_small {i : Int} (h0 : 0 ≤ i) (h1 : i ≤ 9223372036854775807) : IntKind.i64.wrap i = i := by
  have hm : i % (2 ^ 64 : Int) = i := Int.emod_eq_of_lt h0 (by omega)
  simp only [IntKind.wrap, IntKind.bits, IntKind.signed, hm]
  rw [if_neg]
  simp only [Bool.true_and, decide_eq_true_eq, Int.not_le]
  omega

/-- Code that comes to its end, and code behind it. -/
theorem Ref.then {x : Code} {A' U' : Type} {go1 : U' → St} {ab1 : A' → Ex × St} {u : U'} (h1 : Ref P n [x] st (some (.inr u)) go1 ab1) (h2 : Ref P n cs (go1 u) m go ab) : Ref P n (x :: cs) st m go ab := by
  intro Γ S β a w hr q hq
  refine Code.wp_mono (fun e a' w' he => ?_) (h1 Γ S β a w hr (.inr u) rfl)
  have he' : Post Γ n go1 ab1 (.inr u) e a' w' := by
    cases e <;> exact he
  obtain ⟨rfl, S', β', hr'⟩ := he'
  exact h2 Γ S' β' a' w' hr' q hq

/-- The rounds of a counted loop. -/
theorem upTo_rounds {body : Code} {hd : Int → T → St} {f : Int → T → Option (A ⊕ T)} {N : Int} {Γ : Ctx} {goU : U → St} {ab' : (T ⊕ A) → Ex × St}
    (hb : ∀ i t, 0 ≤ i → i < N → Ref P n [body] (hd i t) (match f i t with | none => none | some (.inl a) => some (.inl (.inr a)) | some (.inr t) => some (.inr (i + 1, t)))
        (fun (p : Int × T) => hd p.1 p.2) ab')
    (he : ∀ t, Ref P n [body] (hd N t) (some (.inl (.inl t))) (fun (p : Int × T) => hd p.1 p.2) ab') :
    ∀ (k : Nat) (i : Int) (t : T) (x : A ⊕ T) (S : Mem) (β : Bmap) (a : Act) (w : World), 0 ≤ i → (N - i).toNat = k → i ≤ N → RR Γ S β a w n (hd i t) → upTo k i f t = some x →
      Code.rounds P body (Post Γ n goU ab' (match x with | .inl a => .inl (.inr a) | .inr t => .inl (.inl t))) (k + 1) a w
  | 0, i, t, x, S, β, a, w, h0, hk, hle, hr, h => by
    have hi : i = N := by omega
    subst hi
    simp only [upTo, Option.some.injEq] at h
    subst h
    rw [rounds_succ]
    refine Code.wp_mono (fun e a' w' hq => ?_) (he t Γ S β a w hr _ rfl)
    have hq' : Post Γ n (fun (p : Int × T) => hd p.1 p.2) ab' (.inl (.inl t)) e a' w' := by
      cases e <;> exact hq
    obtain ⟨h1e, S', β', hr'⟩ := hq'
    have hpost : Post Γ n goU ab' (.inl (.inl t)) e a' w' := ⟨h1e, S', β', hr'⟩
    cases hx : (ab' (.inl t)).1 <;> (rw [hx] at h1e; subst h1e; exact hpost)
  | k + 1, i, t, x, S, β, a, w, h0, hk, hle, hr, h => by
    have hlt : i < N := by omega
    unfold upTo at h
    rw [rounds_succ]
    have hbody := hb i t h0 hlt Γ S β a w hr
    cases hf : f i t with
    | none => rw [hf] at h; cases h
    | some z =>
      rw [hf] at h hbody
      cases z with
      | inl y =>
        simp only [Option.some.injEq] at h
        subst h
        refine Code.wp_mono (fun e a' w' hq => ?_) (hbody _ rfl)
        have hq' : Post Γ n (fun (p : Int × T) => hd p.1 p.2) ab' (.inl (.inr y)) e a' w' := by
          cases e <;> exact hq
        obtain ⟨h1e, S', β', hr'⟩ := hq'
        have hpost : Post Γ n goU ab' (.inl (.inr y)) e a' w' := ⟨h1e, S', β', hr'⟩
        cases hx : (ab' (.inr y)).1 <;> (rw [hx] at h1e; subst h1e; exact hpost)
      | inr t' =>
        refine Code.wp_mono (fun e a' w' hq => ?_) (hbody _ rfl)
        have hq' : Post Γ n (fun (p : Int × T) => hd p.1 p.2) ab' (.inr (i + 1, t')) e a' w' := by
          cases e <;> exact hq
        obtain ⟨rfl, S', β', hr'⟩ := hq'
        exact upTo_rounds hb he k (i + 1) t' x S' β' a' w' (by omega) (by omega) (by omega) hr' h

/-- A counted loop: a test region (its slot tc says whether the counter is below N), the body in a block, a region that counts. -/
theorem Ref.count {id id2 r1 r2 tc : Nat} {ops1 ops2 : Array Oper} {B : Code} {hd hd1 hd2 : Int → T → St} {f : Int → T → Option ((T ⊕ A) ⊕ T)} {N : Int} {i0 : Int} {t0 : T} {aft : T → St}
    {goU : U → St} {m2 : T → Option (A ⊕ U)} (lt om : List Nat)
    (h0 : hd i0 t0 = st) (hi0 : 0 ≤ i0) (hle : i0 ≤ N) (hN : Bd n st N)
    (hA : ∀ i t, Ref P n (A := Empty) [.region r1 ops1 false] (hd i t) (some (.inr ())) (fun _ => hd1 i t) (fun e => Empty.elim e))
    (htc : ∀ i t, (hd1 i t).get tc = .c (.val (.bool (decide (i < N)))))
    (hg : ∀ i t, (hd1 i t).gd = [])
    (hX : ∀ t, (hd1 N t).keep lt om = some (aft t))
    (hB : ∀ i t, 0 ≤ i → i < N → Ref P n [B] (hd1 i t) (f i t) (fun t' => hd2 i t') (fun x => match x with | .inl t' => (.exit id2, hd2 i t') | .inr a => ab a))
    (hC : ∀ i t, Ref P n (A := Empty) [.region r2 ops2 false] (hd2 i t) (some (.inr ())) (fun _ => hd (IntKind.i64.wrap (i + 1)) t) (fun e => Empty.elim e))
    (hne : id ≠ id2) (hid : ∀ a, (ab a).1 ≠ .exit id) (hid2 : ∀ a, (ab a).1 ≠ .exit id2)
    (h2 : ∀ t, Ref P n cs (aft t) (m2 t) goU ab) :
    Ref P n (.block id (.loop (.seq (.region r1 ops1 false) (.seq (.cond (.tmp tc) .skip (.exit id)) (.seq (.block id2 B) (.region r2 ops2 false))))) :: cs) st
      (bindS (upTo (N - i0).toNat i0 (fun i t => blockS (f i t)) t0) m2) goU ab := by
  intro Γ S β a w hr q hq
  have hsmall := hN Γ S β a w hr
  subst h0
  let ab' : (T ⊕ A) → Ex × St := fun x => match x with | .inl t => (.exit id, aft t) | .inr a => ab a
  have hbody : ∀ i t, 0 ≤ i → i < N → Ref P n [.seq (.region r1 ops1 false) (.seq (.cond (.tmp tc) .skip (.exit id)) (.seq (.block id2 B) (.region r2 ops2 false)))] (hd i t)
      (match blockS (f i t) with | none => none | some (.inl a) => some (.inl (.inr a)) | some (.inr t) => some (.inr (i + 1, t))) (fun (p : Int × T) => hd p.1 p.2) ab' := by
    intro i t hi hlt
    refine Ref.seq (Ref.then (hA i t) (Ref.seq ?_))
    have hdec : decide (i < N) = true := by simpa using hlt
    have key : Ref P n [.seq (.block id2 B) (.region r2 ops2 false)] (hd1 i t)
        (match blockS (f i t) with | none => none | some (.inl a) => some (.inl (.inr a)) | some (.inr t) => some (.inr (i + 1, t))) (fun (p : Int × T) => hd p.1 p.2) ab' := by
      have hblk : Ref P n [.block id2 B, .region r2 ops2 false] (hd1 i t)
          (bindS (blockS (match f i t with | none => none | some (.inl (.inl t)) => some (.inl (.inl t)) | some (.inl (.inr a)) => some (.inl (.inr (.inr a))) | some (.inr t) => some (.inr t))) fun t' => some (.inr (i + 1, t')))
          (fun (p : Int × T) => hd p.1 p.2) ab' := by
        refine Ref.block (go1 := fun t' => hd2 i t') ?_ ?_ fun t' => ?_
        · intro Γ S β a w hr x hx
          cases hf : f i t with
          | none => rw [hf] at hx; cases hx
          | some z =>
            rw [hf] at hx
            refine Code.wp_mono (fun e a' w' he => ?_) (hB i t hi hlt Γ S β a w hr z hf)
            rcases z with (t1 | a1) | t1
            · simp only [Option.some.injEq] at hx; subst hx; cases e <;> exact he
            · simp only [Option.some.injEq] at hx; subst hx; cases e <;> exact he
            · simp only [Option.some.injEq] at hx; subst hx; cases e <;> exact he
        · intro x
          rcases x with t | a
          · show Ex.exit id ≠ Ex.exit id2
            simpa using hne
          · exact hid2 a
        · intro Γ S β a w hr x hx
          simp only [Option.some.injEq] at hx
          subst hx
          refine Code.wp_mono (fun e a' w' he => ?_) (hC i t' Γ S β a w hr (.inr ()) rfl)
          rw [wrap_small (by omega) (by omega)] at he
          cases e <;> exact he
      have e1 : (bindS (blockS (match f i t with | none => none | some (.inl (.inl t)) => some (.inl (.inl t)) | some (.inl (.inr a)) => some (.inl (.inr (.inr a))) | some (.inr t) => some (.inr t))) fun t' => some (.inr (i + 1, t')) : Option ((T ⊕ A) ⊕ (Int × T))) =
          (match blockS (f i t) with | none => none | some (.inl a) => some (.inl (.inr a)) | some (.inr t) => some (.inr (i + 1, t))) := by
        rcases f i t with _ | ((t1 | a1) | t1) <;> rfl
      rw [e1] at hblk
      exact Ref.seq hblk
    have hc := Ref.cond (cs := [.seq (.block id2 B) (.region r2 ops2 false)]) (x := .skip) (y := .exit id) (m1 := (match blockS (f i t) with | none => none | some (.inl a) => some (.inl (.inr a)) | some (.inr t) => some (.inr (i + 1, t))))
      (m2 := none) (go := fun (p : Int × T) => hd p.1 p.2) (ab := ab') (P := P) (n := n) (st := hd1 i t) (c := .tmp tc) (b := decide (i < N)) (htc i t) (hg i t) (fun _ => Ref.skip key) (fun hf => by rw [hdec] at hf; cases hf)
    rw [if_pos hdec] at hc
    exact hc
  have hend : ∀ t, Ref P n [.seq (.region r1 ops1 false) (.seq (.cond (.tmp tc) .skip (.exit id)) (.seq (.block id2 B) (.region r2 ops2 false)))] (hd N t)
      (some (.inl (.inl t))) (fun (p : Int × T) => hd p.1 p.2) ab' := by
    intro t
    refine Ref.seq (Ref.then (hA N t) (Ref.seq ?_))
    have hdec : ¬ (decide (N < N) = true) := by simp
    have hc := Ref.cond (cs := [.seq (.block id2 B) (.region r2 ops2 false)]) (x := .skip) (y := .exit id) (m1 := none)
      (m2 := some (.inl (.inl t))) (go := fun (p : Int × T) => hd p.1 p.2) (ab := ab') (P := P) (n := n) (st := hd1 N t) (c := .tmp tc) (b := decide (N < N)) (htc N t) (hg N t) (fun hf => absurd hf hdec)
      (fun _ => Ref.keep lt om (hX t) (Ref.exit rfl))
    rw [if_neg hdec] at hc
    exact hc
  cases hu : upTo (N - i0).toNat i0 (fun i t => blockS (f i t)) t0 with
  | none => rw [hu] at hq; cases hq
  | some x =>
    rw [hu] at hq
    have hround := upTo_rounds (goU := goU) hbody hend (N - i0).toNat i0 t0 x S β a w hi0 rfl hle hr hu
    refine wp_block (Code.wp_mono (fun e a' w' he => ?_) (wp_loop_rounds _ hround))
    cases x with
    | inl y =>
      simp only [bindS, Option.some.injEq] at hq
      subst hq
      obtain ⟨h1e, S', β', hr'⟩ := he
      have h1e : e = (ab y).1.out := h1e
      have hpost : Post Γ n goU ab (.inl y) e a' w' := ⟨h1e, S', β', hr'⟩
      cases hx : (ab y).1 with
      | ret =>
        rw [hx] at h1e
        subst h1e
        exact hpost
      | exit id' =>
        rw [hx] at h1e
        subst h1e
        show Exit.inBlock id _ (.exit id') a' w'
        simp only [Exit.inBlock]
        rw [if_neg (fun e => hid y (by rw [hx, e]))]
        exact hpost
    | inr t =>
      simp only [bindS] at hq
      obtain ⟨rfl, S', β', hr'⟩ := he
      show Exit.inBlock id _ (.exit id) a' w'
      simp only [Exit.inBlock, if_true]
      exact h2 t Γ S' β' a' w' hr' q hq

end
end Go.Dl

namespace Go.Dl
set_option linter.unusedVariables false
set_option linter.unusedSimpArgs false
set_option linter.unusedSectionVars false
variable [WInv]

/-- The blocks of the objects that are handed over. -/
def Mof (β : Bmap) (xs : List Obj) : Nat → Prop := fun b => ∃ o k x, xs[o]? = some x ∧ x.live = true ∧ β o = some (some k) ∧ k.b = b

theorem Core.inv {Γ : Ctx} {S : Mem} {β : Bmap} {w : World} {xs : List Obj} (h : Core Γ S β w xs) : WInv.I w :=
  WInv.keep _ _ h.frame.size (fun b hb => h.frame.block b (Nat.lt_of_lt_of_le hb (WInv.size _ h.frame.inv)) fun hM => absurd (h.frame.glob b hM) (by omega)) h.frame.inv

theorem Core.globs {Γ : Ctx} {S : Mem} {β : Bmap} {w : World} {xs : List Obj} (h : Core Γ S β w xs) : ∀ b, Mof β xs b → WInv.N ≤ b := by
  rintro b ⟨o, k, x, hx, hl, hk, rfl⟩
  have hm := (h.mine o k x hx hl hk).2
  have hz := WInv.size _ h.frame.inv
  rcases Nat.lt_or_ge k.b Γ.w.heap.size with h1 | h1
  · exact h.frame.glob _ (hm h1)
  · omega

/-- A function's call comes to what a plain function says. -/
def DFun (P : Program) (f : FuncId) {R : Type} (args : List D) (xs : List Obj) (m : Option R) (res : R → D) (out : R → List Obj) : Prop :=
  ∀ S β w vs, Core ⟨S, w, Mof β xs, β⟩ S β w xs → VRel S β args vs → ∀ r, m = some r →
    Calls P f vs.toArray w fun e w' => ∃ v S' β', e = .returned v ∧ DRel S' β' (res r) v ∧ (∀ o k, o < xs.length → β o = some k → β' o = some k) ∧ Core ⟨S, w, Mof β xs, β⟩ S' β' w' (out r)

def fnS {R : Type} (m : Option (R ⊕ R)) : Option R :=
  match m with
  | none => none
  | some (.inl r) => some r
  | some (.inr r) => some r

def numT : List D → Nat → List (Nat × D)
  | [], _ => []
  | d :: ds, i => (i, d) :: numT ds (i + 1)

def retOne (a : Act) : ResultVar → Sem Value
  | .tmp t => pure (a.tmps.getD t undef)
  | .cell q t => do loadVar t (← asAddr (a.tmps.getD q undef))

/-- What a function hands back. -/
def retV (P : Program) (st : St) : ResultVar → Option D
  | .tmp t => some (st.get t)
  | .cell q t =>
    bif (P.underlying t).isSome then
      (match st.get q with
      | .c (.ptr o i j) => (evLoad P t (.c (.ptr o i j)) st.objs).map fun r => r.2.1
      | _ => none)
    else none

def retT (P : Program) (st : St) : List ResultVar → Option (List D1)
  | [] => some []
  | v :: r => (match (retV P st v).bind D1.ofD, retT P st r with
    | some d, some l => some (d :: l)
    | _, _ => none)

def retD (P : Program) (st : St) (rs : List ResultVar) : Option D :=
  match rs with
  | [v] => retV P st v
  | rs => (retT P st rs).map .tup

section
variable {P : Program} {n : Nat}

theorem numT_get : ∀ (ds : List D) (i t : Nat), lookupT (D.c .bot) (numT ds i) t = if i ≤ t ∧ t < i + ds.length then ds.getD (t - i) (.c .bot) else .c .bot
  | [], i, t => by simp only [numT, lookupT, List.length_nil]; rw [if_neg (by omega)]
  | d :: ds, i, t => by
    simp only [numT, lookupT, List.length_cons]
    cases hb : Nat.beq i t with
    | true =>
      have := Nat.eq_of_beq_eq_true hb
      subst this
      rw [cond_true, if_pos (by omega)]
      simp
    | false =>
      have hne : i ≠ t := by
        intro e
        subst e
        simp at hb
      rw [cond_false, numT_get ds (i + 1) t]
      by_cases h : i + 1 ≤ t ∧ t < i + 1 + ds.length
      · rw [if_pos h, if_pos (by omega), show t - i = (t - (i + 1)) + 1 by omega, List.getD_cons_succ]
      · rw [if_neg h, if_neg (by omega)]

theorem VRel.get {S : Mem} {β : Bmap} : ∀ {ds : List D} {vs : List Value}, VRel S β ds vs → vs.length = ds.length ∧ ∀ (i : Nat) (d : D), ds[i]? = some d → ∃ v, vs[i]? = some v ∧ DRel S β d v
  | [], _, h => by obtain rfl := h; exact ⟨rfl, fun i d hd => by simp at hd⟩
  | _ :: _, _, ⟨v, r, h1, h2, h3⟩ => by
    subst h1
    obtain ⟨hl, hg⟩ := VRel.get h3
    refine ⟨by simp [hl], fun i d hd => ?_⟩
    cases i with
    | zero => simp only [List.getElem?_cons_zero, Option.some.injEq] at hd; subst hd; exact ⟨v, rfl, h2⟩
    | succ i => simp only [List.getElem?_cons_succ] at hd ⊢; exact hg i d hd

theorem retV_sound {Γ : Ctx} {S : Mem} {β : Bmap} {a : Act} {w : World} {st : St} (h : RR Γ S β a w n st) (hg : st.gd = []) {v : ResultVar} {d : D} (hv : retV P st v = some d) :
    ∃ u, (retOne a v).run P w = .ok u w ∧ DRel S β d u := by
  have tm : ∀ t, DRel S β (st.get t) (a.tmps.getD t undef) := fun t => h.tm t (by unfold St.gof; rw [hg]; intro q hq; cases hq)
  cases v with
  | tmp t =>
    simp only [retV, Option.some.injEq] at hv
    subst hv
    exact ⟨_, rfl, tm t⟩
  | cell q t =>
    simp only [retV] at hv
    obtain ⟨hu, hv⟩ := some_of_cond hv
    split at hv
    · rename_i o i j hq
      cases he : evLoad P t (.c (.ptr o i j)) st.objs with
      | none => rw [he] at hv; cases hv
      | some r =>
        rw [he] at hv
        simp only [Option.map_some, Option.some.injEq] at hv
        subst hv
        have hq' := tm q
        rw [hq] at hq'
        obtain ⟨u, hrun, hd, _⟩ := evLoad_sound (vs := r.1) (d' := r.2.1) (xs' := r.2.2) (Option.isSome_iff_exists.1 hu) h.core hq' he
        refine ⟨u, ?_, hd⟩
        have hr := hrun w (.inr (Up.refl w))
        obtain ⟨k, _, _, _, hp⟩ := hq'
        rw [hp] at hr
        simp only [retOne, hp]
        exact hr
    · cases hv

theorem retT_sound {Γ : Ctx} {S : Mem} {β : Bmap} {a : Act} {w : World} {st : St} (h : RR Γ S β a w n st) (hg : st.gd = []) : ∀ {rs : List ResultVar} {l : List D1}, retT P st rs = some l →
    ∃ us, (rs.mapM (retOne a)).run P w = .ok us w ∧ TRel S β l us ∧ us.length = rs.length
  | [], l, hl => by
    simp only [retT, Option.some.injEq] at hl
    subst hl
    exact ⟨[], rfl, rfl, rfl⟩
  | v :: r, l, hl => by
    unfold retT at hl
    split at hl
    · rename_i d l' hd hr
      simp only [Option.some.injEq] at hl
      subst hl
      obtain ⟨us, h1, h2, h3⟩ := retT_sound h hg hr
      cases hv : retV P st v with
      | none => rw [hv] at hd; cases hd
      | some dd =>
        rw [hv, Option.bind_some] at hd
        obtain ⟨u, hu, hdu⟩ := retV_sound h hg hv
        refine ⟨u :: us, ?_, ⟨_, _, rfl, ?_, h2⟩, by simp [h3]⟩
        · rw [List.mapM_cons, Sem.run_bind, hu, Result.andThen_ok, Sem.run_bind, h1]
          rfl
        · cases dd with
          | c x => simp only [D1.ofD, Option.some.injEq] at hd; subst hd; exact hdu
          | agg x => simp only [D1.ofD, Option.some.injEq] at hd; subst hd; exact hdu
          | tup x => cases hd
    · cases hl

theorem results_one {fn : Func} {v : ResultVar} (hrs : fn.results = #[v]) (a : Act) (w : World) {u : Value} (hu : (retOne a v).run P w = .ok u w) : (results fn a.tmps).run P w = .ok u w := by
  have hres : results fn a.tmps = (do
      let vs ← fn.results.mapM (retOne a)
      pure (if h : vs.size = 1 then vs[0] else .tuple vs)) := by
    unfold results
    congr 1
  rw [hres, hrs, Sem.run_bind, Array.mapM_eq_mapM_toList, Sem.run_map]
  show (((List.mapM (retOne a) [v]).run P w).andThen _).andThen _ = _
  rw [List.mapM_cons, Sem.run_bind, hu]
  rfl

theorem retD_sound {Γ : Ctx} {S : Mem} {β : Bmap} {a : Act} {w : World} {st : St} (h : RR Γ S β a w n st) (hg : st.gd = []) {fn : Func} {d : D} (hr : retD P st fn.results.toList = some d) :
    ∃ v, (results fn a.tmps).run P w = .ok v w ∧ DRel S β d v := by
  unfold retD at hr
  split at hr
  · rename_i t ht
    have hrs : fn.results = #[t] := by apply Array.ext'; simpa using ht
    obtain ⟨u, hu, hd⟩ := retV_sound h hg hr
    exact ⟨u, results_one hrs a w hu, hd⟩
  · rename_i rs hne
    cases hl : retT P st fn.results.toList with
    | none => rw [hl] at hr; cases hr
    | some l =>
      rw [hl] at hr
      simp only [Option.map_some, Option.some.injEq] at hr
      subst hr
      obtain ⟨us, h1, h2, h3⟩ := retT_sound (P := P) h hg hl
      refine ⟨.tuple us.toArray, ?_, us, rfl, h2⟩
      have hres : results fn a.tmps = (do
          let vs ← fn.results.mapM (retOne a)
          pure (if h : vs.size = 1 then vs[0] else .tuple vs)) := by
        unfold results
        congr 1
      rw [hres, Sem.run_bind]
      have : (fn.results.mapM (retOne a)).run P w = .ok us.toArray w := by
        rw [Array.mapM_eq_mapM_toList, Sem.run_map, h1]
        rfl
      rw [this, Result.andThen_ok]
      rw [dif_neg]
      · rfl
      · intro hone
        have hlen : fn.results.toList.length = 1 := by rw [← h3]; simpa using hone
        obtain ⟨x, hx⟩ := List.length_eq_one_iff.1 hlen
        exact hne x hx

/-- A function's contract, out of its text. -/
theorem DFun.intro {f : FuncId} {fn : Func} {c : Code} {R : Type} {args : List D} {xs : List Obj} {m : Option (R ⊕ R)} {rs : R → St} {res : R → D} {out : R → List Obj}
    (hf : P.funcs[f]? = some fn) (hb : fn.body = some c) (hn : Nat.ble args.length fn.ntmps = true)
    (href : Ref P fn.ntmps [c] ⟨numT args 0, xs, [], xs.length⟩ m rs (fun r => (.ret, rs r)))
    (hres : ∀ r, retD P (rs r) fn.results.toList = some (res r)) (hout : ∀ r, (rs r).objs = out r) (hgd : ∀ r, (rs r).gd = []) (hh : ∀ r, (rs r).h = xs.length) :
    DFun P f args xs (fnS m) res out := by
  intro S β w vs hc hv r hr
  have hn := Nat.le_of_ble_eq_true hn
  obtain ⟨hvl, hvg⟩ := hv.get
  refine calls_of_wp hf hb ?_
  have hstart : RR ⟨S, w, Mof β xs, β⟩ S β { tmps := vs.toArray ++ Array.replicate (fn.ntmps - vs.toArray.size) undef, defers := [] } w fn.ntmps ⟨numT args 0, xs, [], xs.length⟩ := by
    refine ⟨hc, fun t _ => ?_, fun t ht => absurd (fun q hq => by cases hq) ht, by simp; omega, rfl, fun o k _ h => h⟩
    unfold St.get
    simp only
    rw [numT_get]
    by_cases ht : t < args.length
    · rw [if_pos (by omega)]
      obtain ⟨u, hu, hru⟩ := hvg t _ (List.getElem?_eq_getElem ht)
      have e1 : args.getD (t - 0) (.c .bot) = args[t] := by simp [List.getD, List.getElem?_eq_getElem ht]
      have e2 : (vs.toArray ++ Array.replicate (fn.ntmps - vs.toArray.size) undef).getD t undef = u := by
        rw [Array.getD_eq_getD_getElem?, Array.getElem?_append_left (by simp; omega)]
        simp [hu]
      rw [e1, e2]; exact hru
    · rw [if_neg (by omega)]; trivial
  have key : ∀ z, m = some z → (match z with | .inl r => r | .inr r => r) = r → c.wp P (bodyPost P fn fun e w' => ∃ v S' β', e = .returned v ∧ DRel S' β' (res r) v ∧ (∀ o k, o < xs.length → β o = some k → β' o = some k) ∧ Core ⟨S, w, Mof β xs, β⟩ S' β' w' (out r))
      { tmps := vs.toArray ++ Array.replicate (fn.ntmps - vs.toArray.size) undef, defers := [] } w := by
    intro z hz hzr
    refine Code.wp_mono (fun e a' w' he => ?_) (href _ S β _ w hstart z hz)
    have he' : Post ⟨S, w, Mof β xs, β⟩ fn.ntmps rs (fun r => (.ret, rs r)) z e a' w' := by
      cases e <;> exact he
    have fin : ∀ r', r' = r → (∃ S' β', RR ⟨S, w, Mof β xs, β⟩ S' β' a' w' fn.ntmps (rs r')) → a'.defers = [] ∧ ∃ v, (results fn a'.tmps).run P w' = .ok v w' ∧
        ∃ v' S' β', Ending.returned v = .returned v' ∧ DRel S' β' (res r) v' ∧ (∀ o k, o < xs.length → β o = some k → β' o = some k) ∧ Core ⟨S, w, Mof β xs, β⟩ S' β' w' (out r) := by
      rintro r' rfl ⟨S', β', hr'⟩
      obtain ⟨v, hv1, hv2⟩ := retD_sound (P := P) hr' (hgd r') (hres r')
      refine ⟨hr'.defers, v, hv1, v, S', β', rfl, hv2, fun o k ho hk => hr'.hand o k (by rw [hh r']; exact ho) hk, ?_⟩
      rw [← hout r']; exact hr'.core
    cases z with
    | inl r' =>
      obtain ⟨rfl, hex⟩ := he'
      exact fin r' hzr hex
    | inr r' =>
      obtain ⟨rfl, hex⟩ := he'
      exact fin r' hzr hex
  cases m with
  | none => cases hr
  | some z =>
    cases z with
    | inl r' => simp only [fnS, Option.some.injEq] at hr; subst hr; exact key _ rfl rfl
    | inr r' => simp only [fnS, Option.some.injEq] at hr; subst hr; exact key _ rfl rfl

theorem DFun.congr {f : FuncId} {R : Type} {args : List D} {xs : List Obj} {m m' : Option R} {res : R → D} {out : R → List Obj} (h : DFun P f args xs m res out) (he : m' = m) : DFun P f args xs m' res out := he ▸ h

end
end Go.Dl

namespace Go.Dl
set_option linter.unusedVariables false
set_option linter.unusedSimpArgs false
set_option linter.unusedSectionVars false
variable [WInv]

/-- A callee's number of an object, as the caller's. -/
def fwdN (om : List Nat) (base i : Nat) : Nat := (om[i]?).getD (base + (i - om.length))

def C.fwd (om : List Nat) (base : Nat) : C → C
  | .own o n => .own (fwdN om base o) n
  | .ptr o i j => .ptr (fwdN om base o) i j
  | .self t b o => .self t b (fwdN om base o)
  | .opt b c => .opt b (c.fwd om base)
  | .iface b t c => .iface b t (c.fwd om base)
  | .cond b c => .cond b (c.fwd om base)
  | .func fn k cap =>
    let l := (List.range k).map fun i => (cap i).fwd om base
    .func fn k fun i => l.getD i .bot
  | c => c

def D1.fwd (om : List Nat) (base : Nat) : D1 → D1
  | .c x => .c (x.fwd om base)
  | .agg l => .agg (l.map (C.fwd om base))

def D.fwd (om : List Nat) (base : Nat) : D → D
  | .c x => .c (x.fwd om base)
  | .agg l => .agg (l.map (C.fwd om base))
  | .tup l => .tup (l.map (D1.fwd om base))

def Obj.fwd (om : List Nat) (base : Nat) : Obj → Obj
  | .cells l => .cells (l.map (C.fwd om base))
  | x => x

def mergeO (om : List Nat) (base : Nat) (out : List Obj) : List Obj → Nat → List Obj
  | [], _ => []
  | x :: r, o => ((indexN o om 0).elim x fun i => (out.getD i .dead).fwd om base) :: mergeO om base out r (o + 1)

/-- The objects behind a call. -/
def afterO (om : List Nat) (out : List Obj) (xs : List Obj) : List Obj :=
  mergeO om xs.length out xs 0 ++ (out.drop om.length).map (Obj.fwd om xs.length)

def capsD (k : Nat) (cap : Nat → C) : List D := (List.range k).map fun i => .c (cap i)

/-- What a call hands over: the callee's arguments, by the callee's numbers. -/
def callArgs (st : St) (x : Operand) (args : List Operand) (om : List Nat) : Option (FuncId × List D) :=
  match (st.see []).lv x with
  | .c (.func (.func f) k cap) => some (f, (args.map (st.see []).lv).map (D.ren om) ++ (capsD k cap).map (D.ren om))
  | _ => none

def callObjs (st : St) (om : List Nat) : List Obj := om.map fun o => (st.objs.getD o .dead).ren om

/-- May such a call be made: the function is one with a body. -/
def callable (P : Program) (f : FuncId) : Bool :=
  match P.funcs[f]? with
  | some fn => !(fn.name == "runtime.NumGoroutine") && fn.body.isSome
  | none => false

section
variable {P : Program} {n : Nat} {A T R : Type} {go : T → St} {ab : A → Ex × St} {st : St} {cs : List Code}

theorem run_callFunc {f : FuncId} (h : callable P f = true) (vs : Array Value) (w : World) : (callFunc f vs).run P w = .ok (.enter f vs) w := by
  unfold callable at h
  unfold callFunc
  rw [Sem.run_bind, run_program, Result.andThen_ok]
  cases hf : P.funcs[f]? with
  | none => rw [hf] at h; cases h
  | some fn =>
    rw [hf] at h
    simp only [Bool.and_eq_true, Bool.not_eq_true'] at h
    obtain ⟨h1, h2⟩ := h
    have h3 : fn.body.isNone = false := by cases hb : fn.body <;> simp_all
    simp only [h1, h3, Bool.false_eq_true, if_false]
    rfl

theorem VRel.append {S : Mem} {β : Bmap} : ∀ {l m : List D} {us vs : List Value}, VRel S β l us → VRel S β m vs → VRel S β (l ++ m) (us ++ vs)
  | [], _, _, _, h, k => by obtain rfl := h; exact k
  | _ :: _, _, _, _, ⟨v, r, h1, h2, h3⟩, k => by subst h1; exact ⟨v, r ++ _, rfl, h2, VRel.append h3 k⟩

theorem VRel.ren {S : Mem} {β : Bmap} {om : List Nat} : ∀ {l : List D} {us : List Value}, VRel S β l us → VRel S (bren β om) (l.map (D.ren om)) us
  | [], _, h => h
  | _ :: _, _, ⟨v, r, h1, h2, h3⟩ => ⟨v, r, h1, D.ren_rel h2, VRel.ren h3⟩

theorem caps_rel {S : Mem} {β : Bmap} {fn : Fn} {k : Nat} {cap : Nat → C} {v : Value} (h : CRel S β (.func fn k cap) v) : ∃ vs : Array Value, v = .func fn #[] vs ∧ VRel S β (capsD k cap) vs.toList := by
  obtain ⟨vs, h1, h2, h3⟩ := h
  refine ⟨vs, h1, ?_⟩
  unfold capsD
  have key : ∀ (l : List Nat) (us : List Value), us.length = l.length → (∀ (i j : Nat), l[i]? = some j → ∃ u, us[i]? = some u ∧ CRel S β (cap j) u) → VRel S β (l.map fun i => D.c (cap i)) us := by
    intro l
    induction l with
    | nil => intro us hl _; simpa [VRel] using hl
    | cons x r ih =>
      intro us hl hh
      cases us with
      | nil => simp at hl
      | cons u us =>
        refine ⟨u, us, rfl, ?_, ih us (by simpa using hl) fun i j hij => ?_⟩
        · obtain ⟨u', hu', hr⟩ := hh 0 x rfl
          simp only [List.getElem?_cons_zero, Option.some.injEq] at hu'
          subst hu'; exact hr
        · obtain ⟨u', hu', hr⟩ := hh (i + 1) j (by simpa using hij)
          exact ⟨u', by simpa using hu', hr⟩
  refine key _ _ (by simp [h2]) fun i j hij => ?_
  have hi : i < k := by
    rcases Nat.lt_or_ge i k with h | h
    · exact h
    · rw [List.getElem?_eq_none (by simpa using h)] at hij; cases hij
  rw [List.getElem?_range hi] at hij
  simp only [Option.some.injEq] at hij
  subst hij
  have hlt : i < vs.size := by omega
  refine ⟨vs[i], by simp [hlt], ?_⟩
  have := h3 i hi
  rwa [Array.getD_eq_getD_getElem?, Array.getElem?_eq_getElem hlt, Option.getD_some] at this

theorem VRel.map_see {Γ : Ctx} {S : Mem} {β : Bmap} {a : Act} {w : World} (h : RR Γ S β a w n st) : ∀ (l : List Operand), VRel S β (l.map (st.see []).lv) (l.map a.eval)
  | [] => rfl
  | x :: l => ⟨_, _, rfl, see_rel h (fun q hq => by cases hq) x, VRel.map_see h l⟩

/-- The caller's places behind a call. -/
def bfwd (β : Bmap) (om : List Nat) (base : Nat) (βc : Bmap) : Bmap := fun o =>
  match indexN o om 0 with
  | some i => βc i
  | none => if o < base then β o else βc (om.length + (o - base))

theorem indexN_of : ∀ {om : List Nat} {i k o : Nat}, nodupN om = true → om[i]? = some o → indexN o om k = some (k + i)
  | [], i, k, o, _, h => by simp at h
  | x :: r, i, k, o, hn, h => by
    unfold indexN
    cases i with
    | zero =>
      simp only [List.getElem?_cons_zero, Option.some.injEq] at h
      subst h
      simp
    | succ i =>
      simp only [List.getElem?_cons_succ] at h
      have hne : Nat.beq x o = false := by
        cases hb : Nat.beq x o with
        | false => rfl
        | true =>
          have := Nat.eq_of_beq_eq_true hb
          subst this
          have := nodupN_inj hn (i := 0) (j := i + 1) (o := x) (by simp) (by simpa using h)
          omega
      simp only [nodupN, Bool.and_eq_true] at hn
      rw [hne, cond_false, indexN_of hn.2 h]
      congr 1
      omega

theorem indexN_none {om : List Nat} {o : Nat} (hall : ∀ x ∈ om, x ≠ o) (k : Nat) : indexN o om k = none := by
  induction om generalizing k with
  | nil => rfl
  | cons x r ih =>
    unfold indexN
    have hne : Nat.beq x o = false := by
      cases hb : Nat.beq x o with
      | false => rfl
      | true => exact absurd (Nat.eq_of_beq_eq_true hb) (hall x (by simp))
    rw [hne, cond_false]
    exact ih (fun y hy => hall y (by simp [hy])) _

theorem bfwd_at {β : Bmap} {om : List Nat} {base : Nat} {βc : Bmap} (hn : nodupN om = true) (hlt : ∀ x ∈ om, x < base) (i : Nat) : bfwd β om base βc (fwdN om base i) = βc i := by
  unfold bfwd fwdN
  cases ho : om[i]? with
  | some o =>
    simp only [Option.getD_some]
    rw [indexN_of hn ho]
    simp
  | none =>
    simp only [Option.getD_none]
    have hge : om.length ≤ i := by
      rcases Nat.lt_or_ge i om.length with h | h
      · rw [List.getElem?_eq_getElem h] at ho; cases ho
      · exact h
    rw [indexN_none (fun x hx => by have := hlt x hx; omega)]
    simp only
    rw [if_neg (by omega)]
    congr 1
    omega

theorem C.fwd_rel {S : Mem} {β βc : Bmap} {om : List Nat} {base : Nat} (hb : ∀ i, β (fwdN om base i) = βc i) : ∀ {c : C} {v : Value}, CRel S βc c v → CRel S β (c.fwd om base) v := by
  intro c
  induction c with
  | own o m => intro v hv; simp only [C.fwd, CRel, hb] at hv ⊢; exact hv
  | ptr o i j => intro v hv; simp only [C.fwd, CRel, hb] at hv ⊢; exact hv
  | self t b o => intro v hv; simp only [C.fwd, CRel, hb] at hv ⊢; exact hv
  | opt b c ih =>
    intro v hv
    simp only [C.fwd, CRel] at hv ⊢
    split at hv
    · rename_i h; rw [if_pos h]; exact ih hv
    · rename_i h; rw [if_neg h]; exact hv
  | iface b t c ih =>
    intro v hv
    simp only [C.fwd, CRel] at hv ⊢
    split at hv
    · rename_i h; rw [if_pos h]; obtain ⟨u, hu, hr⟩ := hv; exact ⟨u, hu, ih hr⟩
    · rename_i h; rw [if_neg h]; exact hv
  | func fn k cap ih =>
    rintro v ⟨vs, h1, h2, h3⟩
    refine ⟨vs, h1, h2, fun i hi => ?_⟩
    have : (((List.range k).map fun i => (cap i).fwd om base).getD i .bot) = (cap i).fwd om base := by
      simp [List.getD, hi]
    show CRel S β (((List.range k).map fun i => (cap i).fwd om base).getD i .bot) _
    rw [this]
    exact ih i (h3 i hi)
  | cond b c ih =>
    intro v hv hbb
    exact ih (hv hbb)
  | _ => intro v hv; exact hv

theorem D1.fwd_rel {S : Mem} {β βc : Bmap} {om : List Nat} {base : Nat} (hb : ∀ i, β (fwdN om base i) = βc i) {d : D1} {v : Value} (h : D1Rel S βc d v) : D1Rel S β (d.fwd om base) v := by
  cases d with
  | c x => exact C.fwd_rel hb h
  | agg l => obtain ⟨vs, h1, h2⟩ := h; exact ⟨vs, h1, h2.map _ fun _ _ h => C.fwd_rel hb h⟩

theorem D.fwd_rel {S : Mem} {β βc : Bmap} {om : List Nat} {base : Nat} (hb : ∀ i, β (fwdN om base i) = βc i) {d : D} {v : Value} (h : DRel S βc d v) : DRel S β (d.fwd om base) v := by
  cases d with
  | c x => exact C.fwd_rel hb h
  | agg l => obtain ⟨vs, h1, h2⟩ := h; exact ⟨vs, h1, h2.map _ fun _ _ h => C.fwd_rel hb h⟩
  | tup l => obtain ⟨vs, h1, h2⟩ := h; exact ⟨vs, h1, h2.map _ fun _ _ h => D1.fwd_rel hb h⟩

theorem fwd_live {x : Obj} {om : List Nat} {base : Nat} : (x.fwd om base).live = x.live := by cases x <;> rfl

theorem ORel.fwd {S : Mem} {β βc : Bmap} {w : World} {om : List Nat} {base i : Nat} (hb : ∀ i, β (fwdN om base i) = βc i) {x : Obj} (h : ORel S βc w i x) : ORel S β w (fwdN om base i) (x.fwd om base) := by
  cases x with
  | dead => trivial
  | cells l =>
    obtain ⟨k, h1, h2, h3, h4, vs, h5, h6, h7⟩ := h
    exact ⟨k, by rw [hb]; exact h1, by rw [h2]; simp, h3, h4, vs, h5, h6.map _ fun _ _ h => C.fwd_rel hb h, h7⟩
  | row e wd m get =>
    rcases h with ⟨h1, h2⟩ | ⟨k, h1, h2⟩
    · exact .inl ⟨by rw [hb]; exact h1, h2⟩
    · exact .inr ⟨k, by rw [hb]; exact h1, h2⟩

theorem mergeO_length {om : List Nat} {base : Nat} {out : List Obj} : ∀ (xs : List Obj) (o : Nat), (mergeO om base out xs o).length = xs.length
  | [], _ => rfl
  | _ :: r, o => by simp [mergeO, mergeO_length r (o + 1)]

theorem mergeO_get {om : List Nat} {base : Nat} {out : List Obj} : ∀ (xs : List Obj) (o q : Nat), (mergeO om base out xs o)[q]? = (xs[q]?).map fun x => (indexN (o + q) om 0).elim x fun i => (out.getD i .dead).fwd om base
  | [], _, _ => by simp [mergeO]
  | x :: r, o, 0 => by simp [mergeO]
  | x :: r, o, q + 1 => by
    simp only [mergeO, List.getElem?_cons_succ]
    rw [mergeO_get r (o + 1) q, show o + 1 + q = o + (q + 1) by omega]

/-- An object behind a call: one of the callee's, or one that was not handed over. -/
theorem afterO_get {om : List Nat} {out xs : List Obj} (hlt : ∀ x ∈ om, x < xs.length) {q : Nat} {y : Obj} (h : (afterO om out xs)[q]? = some y) (hl : y.live = true) :
    (∃ i x, out[i]? = some x ∧ q = fwdN om xs.length i ∧ y = x.fwd om xs.length ∧ x.live = true ∧ (i < om.length ∨ om.length ≤ i)) ∨ (indexN q om 0 = none ∧ xs[q]? = some y ∧ q < xs.length) := by
  unfold afterO at h
  rcases Nat.lt_or_ge q xs.length with hq | hq
  · rw [List.getElem?_append_left (by rw [mergeO_length]; exact hq), mergeO_get, Nat.zero_add] at h
    cases hx : xs[q]? with
    | none => rw [hx] at h; cases h
    | some x =>
      rw [hx] at h
      simp only [Option.map_some, Option.some.injEq] at h
      cases hi : indexN q om 0 with
      | none =>
        rw [hi] at h
        simp only [Option.elim] at h
        subst h
        exact .inr ⟨rfl, rfl, hq⟩
      | some i =>
        rw [hi] at h
        simp only [Option.elim] at h
        subst h
        rw [fwd_live] at hl
        obtain ⟨_, hom⟩ := indexN_some hi
        simp only [Nat.sub_zero] at hom
        cases ho : out[i]? with
        | none => simp [List.getD, ho, Obj.live] at hl
        | some x' =>
          left
          have hgd : out.getD i .dead = x' := by simp [List.getD, ho]
          rw [hgd] at hl
          refine ⟨i, x', ho, by simp [fwdN, hom], by rw [hgd], hl, ?_⟩
          rcases Nat.lt_or_ge i om.length with h | h
          · exact .inl h
          · exact .inr h
  · rw [List.getElem?_append_right (by rw [mergeO_length]; exact hq), mergeO_length, List.getElem?_map, List.getElem?_drop] at h
    cases ho : out[om.length + (q - xs.length)]? with
    | none => rw [ho] at h; cases h
    | some x =>
      rw [ho] at h
      simp only [Option.map_some, Option.some.injEq] at h
      subst h
      rw [fwd_live] at hl
      left
      refine ⟨om.length + (q - xs.length), x, ho, ?_, rfl, hl, .inr (by omega)⟩
      have : om[om.length + (q - xs.length)]? = none := List.getElem?_eq_none (by omega)
      simp only [fwdN, this, Option.getD_none]
      omega

/-- The description behind a call. -/
theorem Core.after {Γ : Ctx} {S S' : Mem} {β βc : Bmap} {w w' : World} {xs out : List Obj} {om : List Nat} (h : Core Γ S β w xs) (hn : nodupN om = true) (hlt : ∀ x ∈ om, x < xs.length)
    (hc : Core ⟨S, w, Mof (bren β om) (om.map fun o => (xs.getD o .dead).ren om), bren β om⟩ S' βc w' out) (hB : ∀ o k, o < om.length → bren β om o = some k → βc o = some k) :
    Core Γ S' (bfwd β om xs.length βc) w' (afterO om out xs) ∧ BLe β (bfwd β om xs.length βc) := by
  have hat := fun i => bfwd_at (β := β) (βc := βc) hn hlt i
  -- the blocks that are handed over
  have hM : ∀ b, Mof (bren β om) (om.map fun o => (xs.getD o .dead).ren om) b → ∃ o k x, o ∈ om ∧ xs[o]? = some x ∧ x.live = true ∧ β o = some (some k) ∧ k.b = b := by
    rintro b ⟨i, k, y, hy, hl, hk, hb⟩
    rw [List.getElem?_map] at hy
    cases ho : om[i]? with
    | none => rw [ho] at hy; cases hy
    | some o =>
      rw [ho] at hy
      simp only [Option.map_some, Option.some.injEq] at hy
      subst hy
      rw [ren_live] at hl
      cases hx : xs[o]? with
      | none => simp [List.getD, hx, Obj.live] at hl
      | some x =>
        refine ⟨o, k, x, List.mem_of_getElem? ho, hx, by simpa [List.getD, hx] using hl, ?_, hb⟩
        simpa [bren, ho] using hk
  have hMΓ : ∀ b, b < Γ.w.heap.size → ¬ Γ.M b → ¬ Mof (bren β om) (om.map fun o => (xs.getD o .dead).ren om) b := by
    intro b hb hnm hm
    obtain ⟨o, k, x, _, hx, hl, hk, rfl⟩ := hM b hm
    exact hnm ((h.mine o k x hx hl hk).2 hb)
  -- an object that is not handed over keeps its block
  have hother : ∀ o k x, indexN o om 0 = none → xs[o]? = some x → x.live = true → β o = some (some k) → ¬ Mof (bren β om) (om.map fun o => (xs.getD o .dead).ren om) k.b := by
    intro o k x hi hx hl hk hm
    obtain ⟨o', k', x', ho', hx', hl', hk', hb⟩ := hM _ hm
    by_cases e : o' = o
    · subst e
      obtain ⟨i, hi'⟩ := List.getElem?_of_mem ho'
      rw [indexN_of hn hi'] at hi
      cases hi
    · exact h.inj o' o k' k x' x hx' hx hl' hl hk' hk e hb
  have hle : BLe β (bfwd β om xs.length βc) := by
    intro o k hk
    unfold bfwd
    cases hi : indexN o om 0 with
    | some i =>
      obtain ⟨_, hom⟩ := indexN_some hi
      simp only [Nat.sub_zero] at hom
      have hil : i < om.length := by
        rcases Nat.lt_or_ge i om.length with h | h
        · exact h
        · rw [List.getElem?_eq_none h] at hom; cases hom
      exact hB i k hil (by simpa [bren, hom] using hk)
    | none =>
      simp only
      rw [if_pos]
      · exact hk
      · rcases Nat.lt_or_ge o xs.length with h1 | h1
        · exact h1
        · rw [h.out o h1] at hk; cases hk
  have hold : ∀ o, indexN o om 0 = none → o < xs.length → bfwd β om xs.length βc o = β o := by
    intro o hi ho
    unfold bfwd
    rw [hi]
    simp only
    rw [if_pos ho]
  have hlow : ∀ i k x, out[i]? = some x → x.live = true → βc i = some (some k) → k.b < w.heap.size → Mof (bren β om) (om.map fun o => (xs.getD o .dead).ren om) k.b := fun i k x hx hl hk => (hc.mine i k x hx hl hk).2
  refine ⟨⟨?_, hc.holds, ?_, ?_, ?_, ?_, ?_⟩, hle⟩
  · refine ⟨hc.frame.os.trans h.frame.os, hc.frame.tape.trans h.frame.tape, hc.frame.output.trans h.frame.output, Nat.le_trans h.frame.size hc.frame.size, fun b hb hnm => ?_, fun b i hb hnm => ?_, h.frame.le.trans hc.frame.le, h.frame.glob, h.frame.inv⟩
    · exact (hc.frame.block b (Nat.lt_of_lt_of_le hb h.frame.size) (hMΓ b hb hnm)).trans (h.frame.block b hb hnm)
    · exact (hc.frame.mem b i (Nat.lt_of_lt_of_le hb h.frame.size) (hMΓ b hb hnm)).trans (h.frame.mem b i hb hnm)
  · intro q y hy
    cases hl : y.live with
    | false => cases y <;> first | trivial | cases hl
    | true =>
      rcases afterO_get hlt hy hl with ⟨i, x, hx, rfl, rfl, hxl, _⟩ | ⟨hi, hx, hq⟩
      · exact (hc.objs i x hx).fwd hat
      · exact (h.objs q y hx).keep hc.frame.le hle fun k hl hk => hc.frame.block k.b (h.mine q k y hx hl hk).1 (hother q k y hi hx hl hk)
  · intro q hq
    have hlen : (afterO om out xs).length = xs.length + (out.length - om.length) := by
      unfold afterO
      rw [List.length_append, mergeO_length, List.length_map, List.length_drop]
    rw [hlen] at hq
    unfold bfwd
    rw [indexN_none (fun x hx => by have := hlt x hx; omega)]
    simp only
    rw [if_neg (by omega)]
    exact hc.out _ (by omega)
  · intro q q' k k' y y' hy hy' hl hl' hk hk' hne
    rcases afterO_get hlt hy hl with ⟨i, x, hx, rfl, rfl, hxl, _⟩ | ⟨hi, hx, hq⟩
    · rw [hat] at hk
      rcases afterO_get hlt hy' hl' with ⟨i', x', hx', rfl, rfl, hxl', _⟩ | ⟨hi', hx', hq'⟩
      · rw [hat] at hk'
        exact hc.inj i i' k k' x x' hx hx' hxl hxl' hk hk' fun e => hne (by rw [e])
      · rw [hold q' hi' hq'] at hk'
        intro e
        have hlt' := (h.mine q' k' y' hx' hl' hk').1
        exact hother q' k' y' hi' hx' hl' hk' (e ▸ hlow i k x hx hxl hk (by omega))
    · rw [hold q hi hq] at hk
      rcases afterO_get hlt hy' hl' with ⟨i', x', hx', rfl, rfl, hxl', _⟩ | ⟨hi', hx', hq'⟩
      · rw [hat] at hk'
        intro e
        have hlt' := (h.mine q k y hx hl hk).1
        exact hother q k y hi hx hl hk (e ▸ hlow i' k' x' hx' hxl' hk' (by omega))
      · rw [hold q' hi' hq'] at hk'
        exact h.inj q q' k k' y y' hx hx' hl hl' hk hk' hne
  · intro q k y hy hl hk j
    rcases afterO_get hlt hy hl with ⟨i, x, hx, rfl, rfl, hxl, _⟩ | ⟨hi, hx, hq⟩
    · rw [hat] at hk
      exact hc.sep i k x hx hxl hk j
    · rw [hold q hi hq] at hk
      rw [hc.frame.mem k.b j (h.mine q k y hx hl hk).1 (hother q k y hi hx hl hk)]
      exact h.sep q k y hx hl hk j
  · intro q k y hy hl hk
    rcases afterO_get hlt hy hl with ⟨i, x, hx, rfl, rfl, hxl, _⟩ | ⟨hi, hx, hq⟩
    · rw [hat] at hk
      refine ⟨(hc.mine i k x hx hxl hk).1, fun hb => ?_⟩
      obtain ⟨o', k', x', _, hx', hl', hk', hb'⟩ := hM _ (hlow i k x hx hxl hk (Nat.lt_of_lt_of_le hb h.frame.size))
      rw [← hb']
      exact (h.mine o' k' x' hx' hl' hk').2 (by rw [hb']; exact hb)
    · rw [hold q hi hq] at hk
      have := h.mine q k y hx hl hk
      exact ⟨Nat.lt_of_lt_of_le this.1 hc.frame.size, this.2⟩

/-- A call of a function, by its contract. -/
theorem RefR.call {ops : Array Oper} {o : Oper} {rest : List Oper} {x : Operand} {args : Array Operand} {tys : Array TypeId} {t : Nat} {f : FuncId} {om : List Nat} {cargs : List D} {cxs : List Obj}
    {mc : Option R} {res : R → D} {out : R → List Obj} {m : R → Option (A ⊕ T)}
    (hfun : DFun P f cargs cxs mc res out) (hgd : o.guard = none) (ho : o.op = .call ⟨.value x, args, tys⟩) (hdst : o.dst = some t)
    (hcall : callArgs st x args.toList om = some (f, cargs)) (hobj : callObjs st om = cxs) (hf : callable P f = true)
    (hn : (nodupN om && (om.all (fun o => Nat.blt o st.objs.length) && (Nat.blt t n && freeOf st t))) = true)
    (h : ∀ r, RefR P n ops rest cs (st.put (some t) ((res r).fwd om st.objs.length) (afterO om (out r) st.objs) []) (m r) go ab) :
    RefR P n ops (o :: rest) cs st (mc.bind m) go ab := by
  intro Γ S β a w hr q hq
  simp only [Bool.and_eq_true, List.all_eq_true, Nat.blt_eq] at hn
  obtain ⟨hnd, hlt, htn, hfree⟩ := hn
  cases hm : mc with
  | none => rw [hm] at hq; cases hq
  | some r =>
    rw [hm, Option.bind_some] at hq
    simp only [wpList, Region.wanted, hgd, if_true]
    left
    unfold callArgs at hcall
    split at hcall
    · rename_i f' k cap hx
      simp only [Option.some.injEq, Prod.mk.injEq] at hcall
      obtain ⟨rfl, hcargs⟩ := hcall
      have hxr := see_rel hr (g := []) (fun q hq => by cases hq) x
      rw [hx] at hxr
      obtain ⟨vs, hxv, hcaps⟩ := caps_rel hxr
      have hrun : (execOp a.eval o).run P w = .ok (.enter f' (args.map a.eval ++ vs)) w := by
        unfold execOp
        rw [ho]
        simp only [resolve, hxv, Deferred.ofValue, pure_bind, invoke]
        rw [run_callFunc hf]
        simp
      simp only [Oper.wp, Oper.upon, hrun]
      have hargs : VRel S (bren β om) cargs (args.map a.eval ++ vs).toList := by
        rw [← hcargs]
        have e : (args.map a.eval ++ vs).toList = args.toList.map a.eval ++ vs.toList := by simp
        rw [e]
        exact (VRel.ren (VRel.map_see hr args.toList)).append (VRel.ren hcaps)
      have hcore := hr.core.ren hnd
      subst hobj
      have hcore' : Core ⟨S, w, Mof (bren β om) (callObjs st om), bren β om⟩ S (bren β om) w (callObjs st om) := by
        refine ⟨⟨rfl, rfl, rfl, Nat.le_refl _, fun _ _ _ => rfl, fun _ _ _ _ => rfl, MLe.refl _, hcore.globs, hcore.inv⟩, hcore.holds, hcore.objs, hcore.out, hcore.inj, hcore.sep, fun o k y hy hl hk => ⟨(hcore.mine o k y hy hl hk).1, fun _ => ⟨o, k, y, hy, hl, hk, rfl⟩⟩⟩
      have := hfun S (bren β om) w (args.map a.eval ++ vs).toList hcore' hargs r hm
      have e2 : (args.map a.eval ++ vs).toList.toArray = args.map a.eval ++ vs := by simp
      rw [e2] at this
      refine this.mono fun e w' he => ?_
      obtain ⟨v, S', βc, rfl, hres, hB, hco⟩ := he
      obtain ⟨hnew, hle⟩ := hr.core.after hnd hlt hco (fun o k ho hk => hB o k (by simpa [callObjs] using ho) hk)
      have hres' : DRel S' (bfwd β om st.objs.length βc) ((res r).fwd om st.objs.length) v := D.fwd_rel (fun i => bfwd_at hnd hlt i) hres
      have hput := hr.put hnew hco.frame.le hle htn hfree (g := []) (fun q hq => by cases hq) (fun _ => hres') (fun hno => absurd (fun q hq => by cases hq) hno)
      rw [hdst]
      exact h r Γ S' _ _ w' hput q hq
    · cases hcall

end
end Go.Dl

namespace Go.Dl
set_option linter.unusedVariables false
set_option linter.unusedSimpArgs false
set_option linter.unusedSectionVars false
variable [WInv]

/-- What names an object, by something else. -/
def C.sub (f : C → C) : C → C
  | .own o n => f (.own o n)
  | .ptr o i j => f (.ptr o i j)
  | .opt b c => .opt b (c.sub f)
  | .iface b t c => .iface b t (c.sub f)
  | .cond b c => .cond b (c.sub f)
  | .func fn k cap =>
    let l := (List.range k).map fun i => (cap i).sub f
    .func fn k fun i => l.getD i .bot
  | c => c

def D1.sub (f : C → C) : D1 → D1
  | .c x => .c (x.sub f)
  | .agg l => .agg (l.map (C.sub f))

def D.sub (f : C → C) : D → D
  | .c x => .c (x.sub f)
  | .agg l => .agg (l.map (C.sub f))
  | .tup l => .tup (l.map (D1.sub f))

def Obj.sub (f : C → C) : Obj → Obj
  | .cells l => .cells (l.map (C.sub f))
  | x => x

/-- A slice over an object, as a slice that nobody writes; a pointer into one, as a pointer to what nobody writes. -/
def subRow (o w : Nat) (get : Nat → Nat → C) : C → C
  | .own o' n => bif Nat.beq o' o then .tree w n get else .own o' n
  | c => c

def subCells (o : Nat) (l : List C) : C → C
  | .ptr o' i j => bif Nat.beq o' o then .eptr l.length (fun j => l.getD j .bot) j else .ptr o' i j
  | c => c

/-- The object o is nobody's to write any more. -/
def St.freeze (st : St) (o : Nat) : Option St :=
  match st.objs[o]? with
  | some (.row _ w _ get) => some ⟨st.tmps.map fun p => (p.1, p.2.sub (subRow o w get)), (st.objs.set o .dead).map (Obj.sub (subRow o w get)), st.gd, st.h⟩
  | some (.cells l) => bif l.all C.shut then some ⟨st.tmps.map fun p => (p.1, p.2.sub (subCells o l)), (st.objs.set o .dead).map (Obj.sub (subCells o l)), st.gd, st.h⟩ else none
  | _ => none

/-- Says a description nothing of memory? -/
def C.flat : C → Bool
  | .val _ | .str _ | .nil => true
  | _ => false
def D1.flat : D1 → Bool
  | .c x => x.flat
  | .agg l => l.all C.flat
def D.flat : D → Bool
  | .c x => x.flat
  | .agg l => l.all C.flat
  | .tup l => l.all D1.flat

def D.shut : D → Bool
  | .c x => x.shut
  | .agg l => l.all C.shut
  | .tup _ => false

def St.freezes (st : St) : List Nat → Option St
  | [] => some st
  | o :: r =>
    match st.freeze o with
    | some st' => st'.freezes r
    | none => none

/-- What a call that only looks hands over. -/
def lookArgs (st : St) (g : List (Nat × Bool)) (x : Operand) (args : List Operand) : Option (FuncId × List D) :=
  match (st.see g).lv x with
  | .c (.func (.func f) k cap) => some (f, args.map (st.see g).lv ++ capsD k cap)
  | _ => none

section
variable {P : Program} {n : Nat} {A T R : Type} {go : T → St} {ab : A → Ex × St} {st st' : St} {cs : List Code} {m : Option (A ⊕ T)}

/-- Memory with a row more that nobody writes. -/
def mext (S : Mem) (w : World) (b k : Nat) : Mem := fun b' i => if b' = b then (if i < k then w.cell? ⟨b, i, none⟩ else none) else S b' i

theorem mext_le {S : Mem} {w : World} {b k : Nat} (h : ∀ i, S b i = none) : MLe S (mext S w b k) := by
  intro b' i v hv
  unfold mext
  split
  · rename_i e; subst e; rw [h i] at hv; cases hv
  · exact hv

theorem C.sub_rel {S S' : Mem} {β : Bmap} {f : C → C} (hs : MLe S S') (h1 : ∀ o m v, CRel S β (.own o m) v → CRel S' β (f (.own o m)) v) (h2 : ∀ o i j v, CRel S β (.ptr o i j) v → CRel S' β (f (.ptr o i j)) v) :
    ∀ {c : C} {v : Value}, CRel S β c v → CRel S' β (c.sub f) v := by
  intro c
  induction c with
  | own o' m => intro v hv; exact h1 _ _ _ hv
  | ptr o' i j => intro v hv; exact h2 _ _ _ _ hv
  | opt b c ih =>
    intro v hv
    simp only [C.sub, CRel] at hv ⊢
    split at hv
    · rename_i h; rw [if_pos h]; exact ih hv
    · rename_i h; rw [if_neg h]; exact hv
  | iface b t c ih =>
    intro v hv
    simp only [C.sub, CRel] at hv ⊢
    split at hv
    · rename_i h; rw [if_pos h]; obtain ⟨u, hu, hr⟩ := hv; exact ⟨u, hu, ih hr⟩
    · rename_i h; rw [if_neg h]; exact hv
  | func fn k cap ih =>
    rintro v ⟨vs, q1, q2, q3⟩
    refine ⟨vs, q1, q2, fun i hi => ?_⟩
    have : (((List.range k).map fun i => (cap i).sub f).getD i .bot) = (cap i).sub f := by
      simp [List.getD, hi]
    show CRel S' β (((List.range k).map fun i => (cap i).sub f).getD i .bot) _
    rw [this]
    exact ih i (q3 i hi)
  | cond b c ih =>
    intro v hv hb
    exact ih (hv hb)
  | _ => intro v hv; exact CRel.mono hs _ _ _ hv

theorem D1.sub_rel {S S' : Mem} {β : Bmap} {f : C → C} (hs : MLe S S') (h1 : ∀ o m v, CRel S β (.own o m) v → CRel S' β (f (.own o m)) v) (h2 : ∀ o i j v, CRel S β (.ptr o i j) v → CRel S' β (f (.ptr o i j)) v)
    {d : D1} {v : Value} (h : D1Rel S β d v) : D1Rel S' β (d.sub f) v := by
  cases d with
  | c x => exact C.sub_rel hs h1 h2 h
  | agg l => obtain ⟨vs, q1, q2⟩ := h; exact ⟨vs, q1, q2.map _ fun _ _ h => C.sub_rel hs h1 h2 h⟩

theorem D.sub_rel {S S' : Mem} {β : Bmap} {f : C → C} (hs : MLe S S') (h1 : ∀ o m v, CRel S β (.own o m) v → CRel S' β (f (.own o m)) v) (h2 : ∀ o i j v, CRel S β (.ptr o i j) v → CRel S' β (f (.ptr o i j)) v)
    {d : D} {v : Value} (h : DRel S β d v) : DRel S' β (d.sub f) v := by
  cases d with
  | c x => exact C.sub_rel hs h1 h2 h
  | agg l => obtain ⟨vs, q1, q2⟩ := h; exact ⟨vs, q1, q2.map _ fun _ _ h => C.sub_rel hs h1 h2 h⟩
  | tup l => obtain ⟨vs, q1, q2⟩ := h; exact ⟨vs, q1, q2.map _ fun _ _ h => D1.sub_rel hs h1 h2 h⟩

/-- Memory, with a row that is nobody's to write any more. -/
theorem freeze_mem {Γ : Ctx} {S : Mem} {β : Bmap} {w : World} {xs : List Obj} (h : Core Γ S β w xs) {o : Nat} {e : TypeId} {wd m : Nat} {get : Nat → Nat → C} (hx : xs[o]? = some (.row e wd m get)) :
    ∃ S', MLe S S' ∧ Holds S' w ∧ (∀ q v, CRel S β (.own o q) v → CRel S' β (.tree wd q get) v) ∧
      ((S' = S) ∨ ∃ k, β o = some (some k) ∧ ∀ b i, b ≠ k.b → S' b i = S b i) := by
  rcases h.objs o _ hx with ⟨hn, hm⟩ | ⟨k, hk, he, hw, hn, hcap, hml, cur, hh, hsz, hcell⟩
  · refine ⟨S, MLe.refl _, h.holds, fun q v hv => ?_, .inl rfl⟩
    simp only [CRel, hn] at hv
    obtain ⟨rfl, rfl⟩ := hv
    exact ⟨none, 0, rfl, Nat.le_refl _, Nat.zero_le _, .inl rfl⟩
  · have hsep := h.sep o k _ hx rfl hk
    refine ⟨mext S w k.b (m * wd), mext_le hsep, ?_, fun q v hv => ?_, .inr ⟨k, hk, fun b i hb => ?_⟩⟩
    · intro b i v hv
      unfold mext at hv
      split at hv
      · rename_i e'
        subst e'
        split at hv
        · rename_i hi
          refine ⟨hv, ?_⟩
          have hwd : 0 < wd := by
            rcases Nat.eq_zero_or_pos wd with hz | hz
            · rw [hz] at hi; omega
            · exact hz
          have h1 : i / wd < m := by rw [Nat.div_lt_iff_lt_mul hwd]; exact hi
          obtain ⟨u, hu, ho1, _⟩ := hcell (i / wd) (i % wd) h1 (Nat.mod_lt _ hwd)
          rw [Nat.mul_comm, Nat.div_add_mod] at hu
          rw [cell_of_heap hh, hu] at hv
          simp only [Option.some.injEq] at hv
          rw [← hv]; exact ho1
        · cases hv
      · exact h.holds b i v hv
    · simp only [CRel, hk] at hv
      obtain ⟨h1, h2, rfl⟩ := hv
      refine ⟨_, _, rfl, h2, hml, ?_⟩
      by_cases hq : q = 0
      · exact .inl hq
      · refine .inr ⟨k.b, 0, rfl, fun i j hi hj => ?_⟩
        obtain ⟨u, hu, _, hr⟩ := hcell i j (by omega) hj
        refine ⟨u, ?_, CRel.mono (mext_le hsep) _ _ _ hr⟩
        unfold mext
        rw [if_pos rfl, Nat.zero_add, if_pos, cell_of_heap hh, hu]
        have : (i + 1) * wd ≤ m * wd := Nat.mul_le_mul_right _ (by omega)
        rw [Nat.add_mul] at this
        omega
    · unfold mext
      rw [if_neg hb]

/-- Memory, with an object's cells that are nobody's to write any more. -/
theorem freeze_cells {Γ : Ctx} {S : Mem} {β : Bmap} {w : World} {xs : List Obj} (h : Core Γ S β w xs) {o : Nat} {l : List C} (hx : xs[o]? = some (.cells l)) (hsh : l.all C.shut = true) :
    ∃ S', MLe S S' ∧ Holds S' w ∧ (∀ i j v, CRel S β (.ptr o i j) v → CRel S' β (.eptr l.length (fun j => l.getD j .bot) j) v) ∧
      ((S' = S) ∨ ∃ k, β o = some (some k) ∧ ∀ b i, b ≠ k.b → S' b i = S b i) := by
  obtain ⟨k, hk, hw, hn, hcap, us, hh, hl, h1⟩ := h.objs o _ hx
  have hsep := h.sep o k _ hx rfl hk
  refine ⟨mext S w k.b l.length, mext_le hsep, ?_, fun i j v hv => ?_, .inr ⟨k, hk, fun b i hb => ?_⟩⟩
  · intro b i v hv
    unfold mext at hv
    split at hv
    · rename_i e'
      subst e'
      split at hv
      · rename_i hi
        refine ⟨hv, ?_⟩
        rw [cell_of_heap hh] at hv
        have : us[i]? = some v := by simpa using hv
        exact h1 v (List.mem_of_getElem? this)
      · cases hv
    · exact h.holds b i v hv
  · obtain ⟨k', hk', hi, hj, rfl⟩ := hv
    rw [hk] at hk'; simp only [Option.some.injEq] at hk'; subst hk'
    have hi0 : i = 0 := by omega
    subst hi0
    refine ⟨k.b, 0, by simp, fun j' hj' => ?_⟩
    obtain ⟨u, hu, hr⟩ := hl.get j' _ (List.getElem?_eq_getElem hj')
    refine ⟨u, ?_, ?_⟩
    · unfold mext
      rw [if_pos rfl, Nat.zero_add, if_pos hj', cell_of_heap hh]
      simpa using hu
    · have hsj : (l[j']).shut = true := by rw [List.all_eq_true] at hsh; exact hsh _ (List.getElem_mem hj')
      have e : l.getD j' .bot = l[j'] := by simp [List.getD, List.getElem?_eq_getElem hj']
      show CRel _ noB (l.getD j' .bot) u
      rw [e]
      exact CRel.mono (mext_le hsep) _ _ _ (shut_rel hsj hr)
  · unfold mext
    rw [if_neg hb]

theorem sub_live {x : Obj} {f : C → C} : (x.sub f).live = x.live := by cases x <;> rfl

/-- A state in which an object's name stands for something else. -/
theorem sub_sound {Γ : Ctx} {S S' : Mem} {β : Bmap} {a : Act} {w : World} {o : Nat} {ob : Obj} {f : C → C} (h : RR Γ S β a w n st) (hx : st.objs[o]? = some ob) (hol : ob.live = true) (hs : MLe S S') (hh : Holds S' w)
    (h1 : ∀ o m v, CRel S β (.own o m) v → CRel S' β (f (.own o m)) v) (h2 : ∀ o i j v, CRel S β (.ptr o i j) v → CRel S' β (f (.ptr o i j)) v)
    (hf : ∀ o m b, f (.own o m) ≠ .val (.bool b)) (hf2 : ∀ o i j b, f (.ptr o i j) ≠ .val (.bool b))
    (hch : (S' = S) ∨ ∃ k, β o = some (some k) ∧ ∀ b i, b ≠ k.b → S' b i = S b i) :
    RR Γ S' β a w n ⟨st.tmps.map fun p => (p.1, p.2.sub f), (st.objs.set o .dead).map (Obj.sub f), st.gd, st.h⟩ := by
  have get' : ∀ t, St.get ⟨st.tmps.map fun p => (p.1, p.2.sub f), (st.objs.set o .dead).map (Obj.sub f), st.gd, st.h⟩ t = (st.get t).sub f := by
    intro t
    unfold St.get
    simp only
    generalize st.tmps = l
    induction l with
    | nil => rfl
    | cons p r ih =>
      obtain ⟨i, d⟩ := p
      simp only [List.map_cons, lookupT]
      cases Nat.beq i t with
      | true => rfl
      | false => exact ih
  have sub_bool : ∀ {d : D} {b : Bool}, d.sub f = .c (.val (.bool b)) ↔ d = .c (.val (.bool b)) := by
    intro d b
    constructor
    · intro hd
      cases d with
      | c x =>
        simp only [D.sub, D.c.injEq] at hd
        cases x with
        | val u => simp only [C.sub] at hd; rw [hd]
        | own o' q => exact absurd hd (hf _ _ _)
        | ptr o' i j => exact absurd hd (hf2 _ _ _ _)
        | _ => simp only [C.sub] at hd; cases hd
      | agg l => cases hd
      | tup l => cases hd
    · rintro rfl; rfl
  have hold : ∀ g, St.holds ⟨st.tmps.map fun p => (p.1, p.2.sub f), (st.objs.set o .dead).map (Obj.sub f), st.gd, st.h⟩ g ↔ st.holds g := by
    intro g
    unfold St.holds
    constructor
    · intro hh q hq
      have := hh q hq
      rw [get', sub_bool] at this
      exact this
    · intro hh q hq
      rw [get', sub_bool]
      exact hh q hq
  have getx : ∀ q y, ((st.objs.set o .dead).map (Obj.sub f))[q]? = some y → y.live = true → ∃ x, q ≠ o ∧ st.objs[q]? = some x ∧ x.live = true ∧ y = x.sub f := by
    intro q y hy hl
    rw [List.getElem?_map] at hy
    cases hq : (st.objs.set o .dead)[q]? with
    | none => rw [hq] at hy; cases hy
    | some x =>
      rw [hq] at hy
      simp only [Option.map_some, Option.some.injEq] at hy
      subst hy
      rw [sub_live] at hl
      obtain ⟨h1, h2⟩ := set_get hq hl
      exact ⟨x, h1, h2, hl, rfl⟩
  have hne : ∀ k, β o = some (some k) → ∀ q x k', q ≠ o → st.objs[q]? = some x → x.live = true → β q = some (some k') → k'.b ≠ k.b :=
    fun k hk q x k' hq hxq hl hk' => h.core.inj q o k' k x _ hxq hx hl hol hk' hk hq
  refine ⟨⟨?_, hh, ?_, ?_, ?_, ?_, ?_⟩, fun t ht => ?_, fun t ht => ?_, h.size, h.defers, h.hand⟩
  · refine ⟨h.core.frame.os, h.core.frame.tape, h.core.frame.output, h.core.frame.size, h.core.frame.block, fun b i hb hnm => ?_, h.core.frame.le.trans hs, h.core.frame.glob, h.core.frame.inv⟩
    rcases hch with rfl | ⟨k, hk, hch⟩
    · exact h.core.frame.mem b i hb hnm
    · by_cases e : b = k.b
      · subst e
        exact absurd ((h.core.mine o k _ hx hol hk).2 hb) hnm
      · rw [hch b i e]; exact h.core.frame.mem b i hb hnm
  · intro q y hy
    cases hl : y.live with
    | false => cases y <;> first | trivial | cases hl
    | true =>
      obtain ⟨x, hq, hxq, hxl, rfl⟩ := getx q y hy hl
      have ho := h.core.objs q x hxq
      cases x with
      | dead => cases hxl
      | cells l =>
        obtain ⟨k, h1', h2', h3, h4, vs, h5, h6, h7⟩ := ho
        exact ⟨k, h1', by rw [h2']; simp, h3, h4, vs, h5, h6.map _ fun _ _ hc => C.sub_rel hs h1 h2 hc, h7⟩
      | row e2 wd2 m2 get2 => exact ho.keep hs (BLe.refl _) fun _ _ _ => rfl
  · intro q hq
    exact h.core.out q (by simpa using hq)
  · intro q q' k k' y y' hy hy' hl hl'
    obtain ⟨x, _, hxq, hxl, _⟩ := getx q y hy hl
    obtain ⟨x', _, hxq', hxl', _⟩ := getx q' y' hy' hl'
    exact h.core.inj q q' k k' x x' hxq hxq' hxl hxl'
  · intro q k y hy hl hk i
    obtain ⟨x, hq, hxq, hxl, _⟩ := getx q y hy hl
    rcases hch with rfl | ⟨k0, hk0, hch⟩
    · exact h.core.sep q k x hxq hxl hk i
    · rw [hch k.b i (hne k0 hk0 q x k hq hxq hxl hk)]
      exact h.core.sep q k x hxq hxl hk i
  · intro q k y hy hl hk
    obtain ⟨x, _, hxq, hxl, _⟩ := getx q y hy hl
    exact h.core.mine q k x hxq hxl hk
  · rw [get']
    have ht' : st.holds (st.gof t) := (hold _).1 ht
    exact D.sub_rel hs h1 h2 (h.tm t ht')
  · exact h.un t fun hh => ht ((hold _).2 hh)

theorem freeze_sound {Γ : Ctx} {S : Mem} {β : Bmap} {a : Act} {w : World} {o : Nat} (h : RR Γ S β a w n st) (hf : st.freeze o = some st') : ∃ S', RR Γ S' β a w n st' ∧ ∀ g, st'.holds g ↔ st.holds g := by
  have holdx : ∀ (f : C → C), (∀ o m b, f (.own o m) ≠ .val (.bool b)) → (∀ o i j b, f (.ptr o i j) ≠ .val (.bool b)) → ∀ g, St.holds ⟨st.tmps.map fun p => (p.1, p.2.sub f), (st.objs.set o .dead).map (Obj.sub f), st.gd, st.h⟩ g ↔ st.holds g := by
    intro f hf1 hf2 g
    have get' : ∀ t, St.get ⟨st.tmps.map fun p => (p.1, p.2.sub f), (st.objs.set o .dead).map (Obj.sub f), st.gd, st.h⟩ t = (st.get t).sub f := by
      intro t
      unfold St.get
      simp only
      generalize st.tmps = l
      induction l with
      | nil => rfl
      | cons p r ih =>
        obtain ⟨i, d⟩ := p
        simp only [List.map_cons, lookupT]
        cases Nat.beq i t with
        | true => rfl
        | false => exact ih
    have sub_bool : ∀ {d : D} {b : Bool}, d.sub f = .c (.val (.bool b)) ↔ d = .c (.val (.bool b)) := by
      intro d b
      constructor
      · intro hd
        cases d with
        | c x =>
          simp only [D.sub, D.c.injEq] at hd
          cases x with
          | val u => simp only [C.sub] at hd; rw [hd]
          | own o' q => exact absurd hd (hf1 _ _ _)
          | ptr o' i j => exact absurd hd (hf2 _ _ _ _)
          | _ => simp only [C.sub] at hd; cases hd
        | agg l => cases hd
        | tup l => cases hd
      · rintro rfl; rfl
    unfold St.holds
    constructor
    · intro hh q hq
      have := hh q hq
      rw [get', sub_bool] at this
      exact this
    · intro hh q hq
      rw [get', sub_bool]
      exact hh q hq
  unfold St.freeze at hf
  split at hf
  · rename_i e wd m get hx
    simp only [Option.some.injEq] at hf
    subst hf
    obtain ⟨S', hs, hh, hown, hch⟩ := freeze_mem h.core hx
    have f1 : ∀ o' m' b, subRow o wd get (.own o' m') ≠ .val (.bool b) := by
      intro o' m' b
      simp only [subRow]
      cases Nat.beq o' o <;> simp
    have f2 : ∀ o' i j b, subRow o wd get (.ptr o' i j) ≠ .val (.bool b) := by
      intro o' i j b
      simp [subRow]
    refine ⟨S', sub_sound h hx rfl hs hh (fun o' m' v hv => ?_) (fun o' i j v hv => ?_) f1 f2 hch, holdx _ f1 f2⟩
    · simp only [subRow]
      cases hb : Nat.beq o' o with
      | true =>
        have := Nat.eq_of_beq_eq_true hb
        subst this
        exact hown m' v hv
      | false => rw [cond_false]; exact CRel.mono hs _ _ _ hv
    · exact CRel.mono hs _ _ _ hv
  · rename_i l hx
    obtain ⟨hsh, hf⟩ := some_of_cond hf
    simp only [Option.some.injEq] at hf
    subst hf
    obtain ⟨S', hs, hh, hptr, hch⟩ := freeze_cells h.core hx hsh
    have f1 : ∀ o' m' b, subCells o l (.own o' m') ≠ .val (.bool b) := by
      intro o' m' b
      simp [subCells]
    have f2 : ∀ o' i j b, subCells o l (.ptr o' i j) ≠ .val (.bool b) := by
      intro o' i j b
      simp only [subCells]
      cases Nat.beq o' o <;> simp
    refine ⟨S', sub_sound h hx rfl hs hh (fun o' m' v hv => ?_) (fun o' i j v hv => ?_) f1 f2 hch, holdx _ f1 f2⟩
    · exact CRel.mono hs _ _ _ hv
    · simp only [subCells]
      cases hb : Nat.beq o' o with
      | true =>
        have := Nat.eq_of_beq_eq_true hb
        subst this
        exact hptr i j v hv
      | false => rw [cond_false]; exact CRel.mono hs _ _ _ hv
  · cases hf

theorem Ref.freeze (o : Nat) (hf : st.freeze o = some st') (h : Ref P n cs st' m go ab) : Ref P n cs st m go ab := by
  intro Γ S β a w hr x hx
  obtain ⟨S', hr', _⟩ := freeze_sound hr hf
  exact h Γ S' β a w hr' x hx

theorem RefR.freeze (o : Nat) {ops : Array Oper} {l : List Oper} (hf : st.freeze o = some st') (h : RefR P n ops l cs st' m go ab) : RefR P n ops l cs st m go ab := by
  intro Γ S β a w hr x hx
  obtain ⟨S', hr', _⟩ := freeze_sound hr hf
  exact h Γ S' β a w hr' x hx

theorem flatC {S S' : Mem} {β β' : Bmap} {c : C} {v : Value} (hf : c.flat = true) (h : CRel S β c v) : CRel S' β' c v := by
  cases c <;> first | exact h | cases hf

theorem flatL {S S' : Mem} {β β' : Bmap} : ∀ {l : List C} {vs : List Value}, l.all C.flat = true → LRel S β l vs → LRel S' β' l vs
  | [], _, _, h => h
  | _ :: _, _, hf, ⟨v, r, h1, h2, h3⟩ => by
    simp only [List.all_cons, Bool.and_eq_true] at hf
    exact ⟨v, r, h1, flatC hf.1 h2, flatL hf.2 h3⟩

theorem flatD1 {S S' : Mem} {β β' : Bmap} {d : D1} {v : Value} (hf : d.flat = true) (h : D1Rel S β d v) : D1Rel S' β' d v := by
  cases d with
  | c x => exact flatC hf h
  | agg l => obtain ⟨vs, h1, h2⟩ := h; exact ⟨vs, h1, flatL hf h2⟩

theorem flatT {S S' : Mem} {β β' : Bmap} : ∀ {l : List D1} {vs : List Value}, l.all D1.flat = true → TRel S β l vs → TRel S' β' l vs
  | [], _, _, h => h
  | _ :: _, _, hf, ⟨v, r, h1, h2, h3⟩ => by
    simp only [List.all_cons, Bool.and_eq_true] at hf
    exact ⟨v, r, h1, flatD1 hf.1 h2, flatT hf.2 h3⟩

theorem flatD {S S' : Mem} {β β' : Bmap} {d : D} {v : Value} (hf : d.flat = true) (h : DRel S β d v) : DRel S' β' d v := by
  cases d with
  | c x => exact flatC hf h
  | agg l => obtain ⟨vs, h1, h2⟩ := h; exact ⟨vs, h1, flatL hf h2⟩
  | tup l => obtain ⟨vs, h1, h2⟩ := h; exact ⟨vs, h1, flatT hf h2⟩

theorem freezes_sound {Γ : Ctx} {β : Bmap} {a : Act} {w : World} : ∀ {l : List Nat} {st st' : St} {S : Mem}, RR Γ S β a w n st → st.freezes l = some st' → ∃ S', RR Γ S' β a w n st' ∧ ∀ g, st'.holds g ↔ st.holds g
  | [], st, st', S, h, hf => by
    simp only [St.freezes, Option.some.injEq] at hf
    subst hf
    exact ⟨S, h, fun _ => Iff.rfl⟩
  | o :: r, st, st', S, h, hf => by
    unfold St.freezes at hf
    cases h1 : st.freeze o with
    | none => rw [h1] at hf; cases hf
    | some st1 =>
      rw [h1] at hf
      obtain ⟨S1, hr1, hg1⟩ := freeze_sound h h1
      obtain ⟨S2, hr2, hg2⟩ := freezes_sound hr1 hf
      exact ⟨S2, hr2, fun g => (hg2 g).trans (hg1 g)⟩

theorem guardB_holds {st : St} : ∀ {g : List (Nat × Bool)}, guardB st g = some true → st.holds g
  | [], _ => fun q hq => by cases hq
  | (t, want) :: r, h => by
    unfold guardB at h
    cases ht : st.get t with
    | c x =>
      cases x with
      | val u =>
        cases u with
        | bool b =>
          cases hr : guardB st r with
          | none => rw [ht, hr] at h; cases h
          | some x =>
            rw [ht, hr] at h
            simp only at h
            have hb : (bif want then b else !b) = true ∧ x = true := by
              split at h
              · simp only [Option.some.injEq] at h
                simp only [guardB, Option.some.injEq] at hr
                exact ⟨h, hr.symm⟩
              · simp only [Option.some.injEq, Bool.and_eq_true] at h
                exact h
            obtain ⟨h1, rfl⟩ := hb
            have ih := guardB_holds hr
            intro q hq
            rcases List.mem_cons.1 hq with rfl | hq
            · show st.get t = _
              rw [ht]
              cases want <;> cases b <;> simp_all
            · exact ih q hq
        | _ => rw [ht] at h; cases h
      | _ => rw [ht] at h; cases h
    | _ => rw [ht] at h; cases h

/-- A world that differs in new blocks alone. -/
theorem Core.newer {Γ : Ctx} {S : Mem} {β : Bmap} {w w' : World} {xs : List Obj} (h : Core Γ S β w xs) (ho : w'.os = w.os) (ht : w'.tape = w.tape) (hu : w'.output = w.output)
    (hz : w.heap.size ≤ w'.heap.size) (hb : ∀ b, b < w.heap.size → w'.heap[b]? = w.heap[b]?) : Core Γ S β w' xs :=
  ⟨h.frame.ext ho ht hu hz fun b hb1 _ => hb b (Nat.lt_of_lt_of_le hb1 h.frame.size), h.holds.keep fun b ⟨_, hi⟩ => hb b (h.holds.lt hi),
    fun o x hx => (h.objs o x hx).keep (MLe.refl _) (BLe.refl _) fun k hl hk => hb k.b (h.mine o k x hx hl hk).1, h.out, h.inj, h.sep,
    fun o k x hx hl hk => ⟨Nat.lt_of_lt_of_le (h.mine o k x hx hl hk).1 hz, (h.mine o k x hx hl hk).2⟩⟩

theorem LRel.shut {S : Mem} {β : Bmap} : ∀ {l : List C} {vs : List Value}, l.all C.shut = true → LRel S β l vs → LRel S noB l vs
  | [], _, _, h => h
  | _ :: _, _, hf, ⟨v, r, h1, h2, h3⟩ => by
    simp only [List.all_cons, Bool.and_eq_true] at hf
    exact ⟨v, r, h1, shut_rel hf.1 h2, LRel.shut hf.2 h3⟩

theorem VRel.shut {S : Mem} {β : Bmap} : ∀ {l : List D} {vs : List Value}, l.all D.shut = true → VRel S β l vs → VRel S noB l vs
  | [], _, _, h => h
  | d :: _, _, hf, ⟨v, r, h1, h2, h3⟩ => by
    simp only [List.all_cons, Bool.and_eq_true] at hf
    refine ⟨v, r, h1, ?_, VRel.shut hf.2 h3⟩
    cases d with
    | c x => exact shut_rel hf.1 h2
    | agg l => obtain ⟨us, q1, q2⟩ := h2; exact ⟨us, q1, LRel.shut hf.1 q2⟩
    | tup l => cases hf.1

def condM {R : Type} (b : Bool) (mc : Option R) (r0 : R) : Option R := if b = true then mc else some r0

/-- A call that only looks, under guards or under none: its result says nothing of memory. -/
theorem RefR.look {ops : Array Oper} {o : Oper} {rest : List Oper} {x : Operand} {args : Array Operand} {tys : Array TypeId} {t : Nat} {f : FuncId} {cargs : List D} {g : List (Nat × Bool)} {b : Bool}
    {mc : Option R} {res : R → D} {m : R → Option (A ⊕ T)} {st2 : St} (bo : List Nat) (r0 : R)
    (hfun : DFun P f cargs [] mc res (fun _ => [])) (hg : guardOf ops o st = some g) (hb : guardB st g = some b) (ho : o.op = .call ⟨.value x, args, tys⟩) (hdst : o.dst = some t)
    (hfr : st.freezes bo = some st2) (hcall : lookArgs st2 g x args.toList = some (f, cargs)) (hf : callable P f = true)
    (hn : (Nat.blt t n && (freeOf st t && g.all fun q => !Nat.beq q.1 t)) = true) (hflat : ∀ r, (res r).flat = true) (hshut : cargs.all D.shut = true)
    (h : ∀ r, RefR P n ops rest cs (st.put (some t) (res r) st.objs g) (m r) go ab) :
    RefR P n ops (o :: rest) cs st ((condM b mc r0).bind m) go ab := by
  intro Γ S β a w hr q hq
  simp only [Bool.and_eq_true, List.all_eq_true, Nat.blt_eq] at hn
  obtain ⟨htn, hfree, hgt⟩ := hn
  have hgt' : ∀ q ∈ g, q.1 ≠ t := fun q hq e => by
    have := hgt q hq
    rw [e] at this
    simp at this
  by_cases hh : st.holds g
  · have hbt := guardB_true hb hh
    subst hbt
    simp only [condM, if_true] at hq
    have hwanted : Region.wanted o (yielded ops a.tmps) = true := by
      unfold guardOf at hg
      cases hgd : o.guard with
      | none => simp [Region.wanted, hgd]
      | some jw =>
        obtain ⟨j, want⟩ := jw
        rw [hgd] at hg
        dsimp only at hg
        cases htj : (ops[j]?).bind (·.dst) with
        | none => rw [htj] at hg; cases hg
        | some tj =>
          rw [htj] at hg
          simp only [Option.some.injEq] at hg
          subst hg
          have hrel := hr.tm tj (fun q hq => hh q (List.mem_cons_of_mem _ hq))
          have hxw := hh (tj, want) (by simp)
          simp only at hxw
          rw [hxw] at hrel
          have hval : a.tmps.getD tj undef = .bool want := hrel
          have hsome : a.tmps[tj]? = some (.bool want) := by
            rw [Array.getD_eq_getD_getElem?] at hval
            cases hq : a.tmps[tj]? with
            | none => rw [hq] at hval; cases hval
            | some u => rw [hq] at hval; simp only [Option.getD_some] at hval; rw [hval]
          have hyield : yielded ops a.tmps j = some want := by
            unfold yielded
            rw [htj]
            show (match a.tmps[tj]? with | some (.bool b) => some b | _ => none) = some want
            rw [hsome]
          simp only [Region.wanted, hgd, hyield]
          simp
    cases hm : mc with
    | none => rw [hm] at hq; cases hq
    | some r =>
      rw [hm, Option.bind_some] at hq
      obtain ⟨S2, hr2, hgd2⟩ := freezes_sound hr hfr
      simp only [wpList, hwanted, if_true]
      left
      unfold lookArgs at hcall
      split at hcall
      · rename_i f' k cap hx
        simp only [Option.some.injEq, Prod.mk.injEq] at hcall
        obtain ⟨rfl, hcargs⟩ := hcall
        have hh2 : st2.holds g := (hgd2 g).2 hh
        have hxr := see_rel hr2 hh2 x
        rw [hx] at hxr
        obtain ⟨vs, hxv, hcaps⟩ := caps_rel hxr
        have hrun : (execOp a.eval o).run P w = .ok (.enter f' (args.map a.eval ++ vs)) w := by
          unfold execOp
          rw [ho]
          simp only [resolve, hxv, Deferred.ofValue, pure_bind, invoke]
          rw [run_callFunc hf]
          simp
        simp only [Oper.wp, Oper.upon, hrun]
        have hvm : ∀ (l : List Operand), VRel S2 β (l.map (st2.see g).lv) (l.map a.eval) := by
          intro l
          induction l with
          | nil => rfl
          | cons x l ih => exact ⟨_, _, rfl, see_rel hr2 hh2 x, ih⟩
        have hargs : VRel S2 β cargs (args.map a.eval ++ vs).toList := by
          rw [← hcargs]
          have e : (args.map a.eval ++ vs).toList = args.toList.map a.eval ++ vs.toList := by simp
          rw [e]
          exact (hvm args.toList).append hcaps
        have hclosed : VRel S2 noB cargs (args.map a.eval ++ vs).toList := VRel.shut hshut hargs
        have hco : Core ⟨S2, w, Mof noB [], noB⟩ S2 noB w [] :=
          ⟨⟨rfl, rfl, rfl, Nat.le_refl _, fun _ _ _ => rfl, fun _ _ _ _ => rfl, MLe.refl _, fun b hb => by obtain ⟨o, k, x, hx, _⟩ := hb; simp at hx, hr2.core.inv⟩, hr2.core.holds, fun o x hx => by simp at hx, fun _ _ => rfl,
            fun o o' k k' x x' hx => by simp at hx, fun o k x hx => by simp at hx, fun o k x hx => by simp at hx⟩
        have := hfun S2 noB w (args.map a.eval ++ vs).toList hco hclosed r hm
        have e2 : (args.map a.eval ++ vs).toList.toArray = args.map a.eval ++ vs := by simp
        rw [e2] at this
        refine this.mono fun e w' he => ?_
        obtain ⟨v, S', βc, rfl, hres, _, hco'⟩ := he
        have hnm : ∀ b, ¬ Mof noB [] b := by
          rintro b ⟨o, k, x, hx, _⟩
          simp at hx
        have hnew := hr.core.newer hco'.frame.os hco'.frame.tape hco'.frame.output hco'.frame.size fun b hb => hco'.frame.block b hb (hnm b)
        have hput := hr.put hnew (MLe.refl _) (BLe.refl _) htn hfree hgt' (fun _ => flatD (hflat r) hres) (fun hno => absurd hh hno)
        rw [hdst]
        exact h r Γ S _ _ w' hput q hq
      · cases hcall
  · have hb0 : b = false := by
      cases b with
      | false => rfl
      | true => exact absurd (guardB_holds hb) hh
    subst hb0
    simp only [condM, Bool.false_eq_true, if_false, Option.bind_some] at hq
    have hwt : Region.wanted o (yielded ops a.tmps) = false := by
      unfold guardOf at hg
      cases hgd : o.guard with
      | none =>
        rw [hgd] at hg
        simp only [Option.some.injEq] at hg
        subst hg
        exact absurd (fun q hq => by cases hq) hh
      | some jw =>
        obtain ⟨j, want⟩ := jw
        rw [hgd] at hg
        dsimp only at hg
        cases htj : (ops[j]?).bind (·.dst) with
        | none => rw [htj] at hg; cases hg
        | some tj =>
          rw [htj] at hg
          simp only [Option.some.injEq] at hg
          subst hg
          obtain ⟨x0, hx0⟩ := guardB_head hb
          have hwant : ∀ (yl : Option Bool), yielded ops a.tmps j = yl → Region.wanted o (yielded ops a.tmps) = (yl == some want) := by
            intro yl hy
            simp only [Region.wanted, hgd, hy]
          have hyield : yielded ops a.tmps j = match a.tmps[tj]? with | some (.bool b) => some b | _ => none := by
            unfold yielded
            rw [htj]
            rfl
          by_cases hrr : st.holds (st.gof tj)
          · have hrel := hr.tm tj hrr
            rw [hx0] at hrel
            have hval : a.tmps.getD tj undef = .bool x0 := hrel
            have hsome : a.tmps[tj]? = some (.bool x0) := by
              rw [Array.getD_eq_getD_getElem?] at hval
              cases hq : a.tmps[tj]? with
              | none => rw [hq] at hval; cases hval
              | some u => rw [hq] at hval; simp only [Option.getD_some] at hval; rw [hval]
            rw [hwant (some x0) (by rw [hyield, hsome])]
            have hne : x0 ≠ want := by
              intro e
              subst e
              refine hh fun q hq => ?_
              rcases List.mem_cons.1 hq with rfl | hq
              · exact hx0
              · exact hrr q hq
            simpa using hne
          · have hun := hr.un tj hrr
            have hnone : yielded ops a.tmps j = none := by
              rw [hyield]
              rw [Array.getD_eq_getD_getElem?] at hun
              cases hq : a.tmps[tj]? with
              | none => rfl
              | some u =>
                rw [hq] at hun
                simp only [Option.getD_some] at hun
                rw [hun]; rfl
            rw [hwant none hnone]
            rfl
    simp only [wpList, hwt, Bool.false_eq_true, if_false]
    have hput := hr.put (d := res r0) (v := undef) hr.core (MLe.refl _) (BLe.refl _) htn hfree hgt' (fun hy => absurd hy hh) (fun _ => rfl)
    rw [hdst]
    exact h r0 Γ S _ _ w hput q hq

/-- A call that only looks, under no guard. -/
theorem RefR.look0 {ops : Array Oper} {o : Oper} {rest : List Oper} {x : Operand} {args : Array Operand} {tys : Array TypeId} {t : Nat} {f : FuncId} {cargs : List D}
    {mc : Option R} {res : R → D} {m : R → Option (A ⊕ T)} {st2 : St} (bo : List Nat)
    (hfun : DFun P f cargs [] mc res (fun _ => [])) (hg : o.guard = none) (ho : o.op = .call ⟨.value x, args, tys⟩) (hdst : o.dst = some t)
    (hfr : st.freezes bo = some st2) (hcall : lookArgs st2 [] x args.toList = some (f, cargs)) (hf : callable P f = true)
    (hn : (Nat.blt t n && freeOf st t) = true) (hflat : ∀ r, (res r).flat = true) (hshut : cargs.all D.shut = true)
    (h : ∀ r, RefR P n ops rest cs (st.put (some t) (res r) st.objs []) (m r) go ab) :
    RefR P n ops (o :: rest) cs st (mc.bind m) go ab := by
  intro Γ S β a w hr q hq
  cases hm : mc with
  | none => rw [hm] at hq; cases hq
  | some r =>
    have := RefR.look (b := true) (m := m) (go := go) (ab := ab) (cs := cs) (rest := rest) bo r hfun (by unfold guardOf; rw [hg]) rfl ho hdst hfr hcall hf (by simpa using hn) hflat hshut h
    exact this Γ S β a w hr q (by simpa [condM] using hq)

end
end Go.Dl

namespace Go.Dl
set_option linter.unusedVariables false
set_option linter.unusedSimpArgs false
set_option linter.unusedSectionVars false
variable [WInv]
open Go.RowKit

section
variable {P : Program} {ops : Array Oper} {md : Region.Mode} {W : Nat → Bool}

/-- What is asked of what an operation yields: a value, and a world. -/
def xupon (P : Program) (k : Value → World → Prop) : Result Next → Prop
  | .ok (.value v) w' => k v w'
  | .ok .skip w' => k undef w'
  | .ok (.enter f args) w' => Calls P f args w' fun e w'' => ∃ v, e = .returned v ∧ k v w''
  | _ => False

def xop (P : Program) (o : Oper) (a : Act) (w : World) (k : Value → World → Prop) : Prop := xupon P k ((execOp a.eval o).run P w)

theorem xop_mono {o : Oper} {a : Act} {w : World} {k k' : Value → World → Prop} (h : ∀ v w', k v w' → k' v w') (hx : xop P o a w k) : xop P o a w k' := by
  unfold xop at *
  generalize (execOp a.eval o).run P w = r at *
  cases r with
  | ok n w' =>
    cases n <;> simp only [xupon] at hx ⊢ <;> first
      | exact h _ _ hx
      | exact Calls.mono hx (fun e w'' ⟨v, he, hk⟩ => ⟨v, he, h _ _ hk⟩)
  | halt x w' => simp only [xupon] at hx

/-- Operation i comes up, and writes to nothing that there is; behind it there may be more blocks. -/
def xOp0 (P : Program) (ops : Array Oper) (i : Nat) (K : Act → World → Prop) (a : Act) (w : World) : Prop :=
  match ops[i]? with
  | none => ∀ w', Up w w' → K a w'
  | some o => if Region.wanted o (yielded ops a.tmps) then xop P o a w fun v w' => Up w w' ∧ ∀ w'', Up w' w'' → K (a.put o.dst v) w''
      else ∀ w', Up w w' → K (a.put o.dst undef) w'

/-- W: which ones may write. -/
def xOp (P : Program) (ops : Array Oper) (W : Nat → Bool) (Q' : Exit → Act → World → Prop) (i : Nat) (K : Act → World → Prop) (a : Act) (w : World) : Prop :=
  bif W i then wpOp P ops Q' i K a w else xOp0 P ops i K a w

def xAny (P : Program) (md : Region.Mode) (ops : Array Oper) (W : Nat → Bool) (Q' : Exit → Act → World → Prop) : Nat → Array Bool → Act → World → Prop
  | 0, listed, a, w => Region.ready md ops listed = [] ∧ Q' .normal a w
  | fuel + 1, listed, a, w =>
    (Region.ready md ops listed = [] → Q' .normal a w) ∧
    ∀ i ∈ Region.ready md ops listed, xOp P ops W Q' i (xAny P md ops W Q' fuel (listed.setIfInBounds i true)) a w

theorem wpOp_of_x0 {Q' : Exit → Act → World → Prop} {i : Nat} {K K' : Act → World → Prop} {a : Act} {w : World} (h : ∀ a w, K a w → K' a w) (hx : xOp0 P ops i K a w) : wpOp P ops Q' i K' a w := by
  unfold xOp0 at hx
  unfold wpOp
  split
  · rename_i ho; simp only [ho] at hx; exact h _ _ (hx w (Up.refl w))
  · rename_i o ho
    simp only [ho] at hx
    split
    · rename_i hw
      simp only [hw, if_true] at hx
      left
      unfold xop at hx
      unfold Oper.wp
      generalize (execOp a.eval o).run P w = r at *
      cases r with
      | ok n w' =>
        cases n <;> simp only [xupon] at hx <;> simp only [Oper.upon]
        case value v => exact h _ _ (hx.2 w' (Up.refl _))
        case skip => exact h _ _ (hx.2 w' (Up.refl _))
        case enter f args =>
          refine hx.mono fun e w'' ⟨v, he, hk⟩ => ?_
          subst he
          exact h _ _ (hk.2 w'' (Up.refl _))
      | halt x w' => simp only [xupon] at hx
    · rename_i hw; simp only [hw] at hx; exact h _ _ (hx w (Up.refl w))

theorem wpOp_of_x {Q' : Exit → Act → World → Prop} {i : Nat} {K K' : Act → World → Prop} {a : Act} {w : World} (h : ∀ a w, K a w → K' a w) (hx : xOp P ops W Q' i K a w) : wpOp P ops Q' i K' a w := by
  unfold xOp at hx
  cases hW : W i with
  | true => rw [hW, cond_true] at hx; exact wpOp_mono h hx
  | false => rw [hW, cond_false] at hx; exact wpOp_of_x0 h hx

theorem wpAny_of_x {Q' : Exit → Act → World → Prop} : ∀ (fuel : Nat) (listed : Array Bool) (a : Act) (w : World),
    xAny P md ops W Q' fuel listed a w → wpAny P md ops Q' fuel listed a w
  | 0, _, _, _, h => ⟨h.1, h.2⟩
  | fuel + 1, _, _, _, h => ⟨fun h0 => h.1 h0, fun i hi => wpOp_of_x (fun a' w' h' => wpAny_of_x fuel _ a' w' h') (h.2 i hi)⟩

/-- In whatever world with more blocks, this operation yields this value, and leaves what there is. -/
def YQ (P : Program) (ops : Array Oper) (o : Oper) (v : Value) (a : Act) (w : World) : Prop :=
  (Region.wanted o (yielded ops a.tmps) = true ∧ ∀ w2, Up w w2 → xop P o a w2 fun u w3 => u = v ∧ Up w2 w3) ∨
  (Region.wanted o (yielded ops a.tmps) = false ∧ v = undef)

theorem YQ.up {o : Oper} {v : Value} {a : Act} {w w' : World} (h : YQ P ops o v a w) (hw : Up w w') : YQ P ops o v a w' := by
  rcases h with ⟨h1, h2⟩ | h
  · exact .inl ⟨h1, fun w2 h => h2 w2 (hw.trans h)⟩
  · exact .inr h

theorem YQ.of_same {o : Oper} {v : Value} {a a' : Act} {w : World} (hy : YQ P ops o v a w) (he : execOp a'.eval o = execOp a.eval o)
    (hw : Region.wanted o (yielded ops a'.tmps) = Region.wanted o (yielded ops a.tmps)) : YQ P ops o v a' w := by
  unfold YQ xop at *
  rw [he, hw]
  exact hy

/-- The operation oj, that does not hang on oi, before oi instead of behind it. -/
theorem xOp_put {j : Nat} {oi oj : Oper} {v : Value} (hj : ops[j]? = some oj) (hap : oi.apart ops oj = true)
    (hsj : ∀ cs b, oj.op ≠ .select cs b) {K : Act → World → Prop} {a : Act} {w : World}
    (h : xOp0 P ops j K (a.put oi.dst v) w) : xOp0 P ops j (fun a' w' => Up w w' ∧ (∃ u, a' = a.put oj.dst u) ∧ K (a'.put oi.dst v) w') a w := by
  obtain ⟨h1, h2, _⟩ := Oper.apart_spec hap
  unfold xOp0 at *
  simp only [hj] at *
  rw [wanted_put oj a oi.dst v h1] at h
  split
  · rename_i hw
    simp only [hw, if_true] at h
    unfold xop at *
    rw [execOp_put oj hsj a oi.dst v h1] at h
    generalize (execOp a.eval oj).run P w = r at *
    have hh : ∀ u w', (Up w w' ∧ ∀ w'', Up w' w'' → K ((a.put oi.dst v).put oj.dst u) w'') →
        Up w w' ∧ ∀ w'', Up w' w'' → Up w w'' ∧ (∃ u', a.put oj.dst u = a.put oj.dst u') ∧ K ((a.put oj.dst u).put oi.dst v) w'' := by
      intro u w' ⟨g1, g2⟩
      exact ⟨g1, fun w'' hw'' => ⟨g1.trans hw'', ⟨u, rfl⟩, by rw [← Act.put_comm a v u h2]; exact g2 w'' hw''⟩⟩
    cases r with
    | ok n w' =>
      cases n <;> simp only [xupon] at h ⊢
      case value u => exact hh u w' h
      case skip => exact hh undef w' h
      case enter f args => exact h.mono fun e w'' ⟨u, he, hk⟩ => ⟨u, he, hh u w'' hk⟩
    | halt x w' => simp only [xupon] at h
  · rename_i hw
    simp only [hw] at h
    exact fun w' hw' => ⟨hw', ⟨undef, rfl⟩, by rw [← Act.put_comm a v undef h2]; exact h w' hw'⟩

/-- All others that are still to come wait for i, directly or through others that do, or are apart from it and write nothing. -/
structure Free (md : Region.Mode) (ops : Array Oper) (W : Nat → Bool) (listed : Array Bool) (i : Nat) (oi : Oper) (D : Nat → Bool) : Prop where
  close : ∀ k ok, ops[k]? = some ok → D k = true → ∃ e ∈ ok.after, Region.binds md e = true ∧ (e.on = i ∨ D e.on = true)
  open_ : ∀ k, D k = true → listed.getD k true = false
  rest : ∀ j oj, ops[j]? = some oj → j ≠ i → listed.getD j true = false → D j = false → oi.apart ops oj = true ∧ W j = false

/-- An operation that may come up now, and only looks, may be taken first, if each other one that is still to come waits for it, or is apart from it and writes nothing. -/
theorem xAny_first {Q : Exit → Act → World → Prop} {i : Nat} {oi : Oper} {v : Value} (hi : ops[i]? = some oi) (hsel : ∀ (j : Nat) (o : Oper) cs b, ops[j]? = some o → o.op ≠ .select cs b) (hWi : W i = false) :
    ∀ (fuel : Nat) (listed : Array Bool) (a : Act) (w : World),
      (∃ D, Free md ops W listed i oi D) →
      i ∈ Region.ready md ops listed → YQ P ops oi v a w →
      (∀ w', Up w w' → xAny P md ops W Q fuel (listed.setIfInBounds i true) (a.put oi.dst v) w') → xAny P md ops W Q (fuel + 1) listed a w := by
  intro fuel
  have self : ∀ (fuel : Nat) (listed : Array Bool) (a : Act) (w : World), YQ P ops oi v a w → (∀ w', Up w w' → xAny P md ops W Q fuel (listed.setIfInBounds i true) (a.put oi.dst v) w') →
      xOp P ops W Q i (xAny P md ops W Q fuel (listed.setIfInBounds i true)) a w := by
    intro fuel listed a w hy H
    unfold xOp
    rw [hWi, cond_false]
    unfold xOp0
    simp only [hi]
    rcases hy with ⟨hw, hv⟩ | ⟨hw, rfl⟩
    · simp only [hw, if_true]
      refine xop_mono (fun u w' ⟨e, hu⟩ => ?_) (hv w (Up.refl w))
      subst e
      exact ⟨hu, fun w'' hw'' => H w'' (hu.trans hw'')⟩
    · simp only [hw, Bool.false_eq_true, if_false]
      exact H
  induction fuel with
  | zero =>
    intro listed a w _ hr hy H
    refine ⟨fun h => (by rw [h] at hr; cases hr), fun j hj => ?_⟩
    by_cases hji : j = i
    · subst hji; exact self _ _ _ _ hy H
    · have := ready_mono hj hji
      rw [(H w (Up.refl w)).1] at this
      cases this
  | succ fuel ih =>
    intro listed a w hfree hr hy H
    refine ⟨fun h => (by rw [h] at hr; cases hr), fun j hj => ?_⟩
    by_cases hji : j = i
    · subst hji; exact self _ _ _ _ hy H
    · have h1 := (H w (Up.refl w)).2 j (ready_mono hj hji)
      obtain ⟨hjun, oj, hoj, hall⟩ := mem_ready.1 hj
      obtain ⟨D, hF⟩ := hfree
      have clash : ∀ k, listed.getD k true = false → listed.getD k false = true → False := fun k h0 h1 => by
        rcases Nat.lt_or_ge k listed.size with h' | h'
        · simp [h'] at h0 h1; rw [h0] at h1; cases h1
        · simp [Array.getElem?_eq_none h'] at h1
      have hDj : D j = false := by
        cases hd : D j with
        | false => rfl
        | true =>
          exfalso
          obtain ⟨e, he, hb, heq⟩ := hF.close j oj hoj hd
          have h1 := hall e he hb
          rcases heq with heq | heq
          · rw [heq] at h1; exact clash i (mem_ready.1 hr).1 h1
          · exact clash _ (hF.open_ _ heq) h1
      obtain ⟨hap, hWj⟩ := hF.rest j oj hoj hji hjun hDj
      unfold xOp at h1 ⊢
      rw [hWj, cond_false] at h1 ⊢
      have h2 := xOp_put hoj hap (fun cs b => hsel j oj cs b hoj) h1
      have hfree' : ∃ D, Free md ops W (listed.setIfInBounds j true) i oi D := by
        refine ⟨D, hF.close, fun k hk => ?_, fun k ok hk hki hun hd => ?_⟩
        · have hjk : j ≠ k := fun e => by rw [e, hk] at hDj; cases hDj
          rw [getD_set_ne true hjk]
          exact hF.open_ k hk
        · refine hF.rest k ok hk hki ?_ hd
          by_cases hjk : j = k
          · subst hjk; exact hjun
          · rw [getD_set_ne true hjk] at hun; exact hun
      obtain ⟨_, _, h3⟩ := Oper.apart_spec hap
      -- after j, in each world with more blocks
      have h4 : xOp0 P ops j (xAny P md ops W Q (fuel + 1) (listed.setIfInBounds j true)) a w := by
        unfold xOp0 at h2 ⊢
        simp only [hoj] at h2 ⊢
        have step : ∀ u w', (∀ w'', Up w' w'' → Up w w'' ∧ (∃ u', a.put oj.dst u = a.put oj.dst u') ∧ xAny P md ops W Q fuel ((listed.setIfInBounds i true).setIfInBounds j true) ((a.put oj.dst u).put oi.dst v) w'') →
            ∀ w'', Up w' w'' → xAny P md ops W Q (fuel + 1) (listed.setIfInBounds j true) (a.put oj.dst u) w'' := by
          intro u w' hk w'' hw''
          refine ih (listed.setIfInBounds j true) _ w'' hfree' (ready_mono hr (Ne.symm hji)) ?_ ?_
          · exact (hy.up (hk w'' hw'').1).of_same (execOp_put oi (fun cs b => hsel i oi cs b hi) a oj.dst u h3) (wanted_put oi a oj.dst u h3)
          · intro w3 hw3
            rw [Array.setIfInBounds_comm _ _ (Ne.symm (Ne.symm hji))]
            exact (hk w3 (hw''.trans hw3)).2.2
        split
        · rename_i hw
          simp only [hw, if_true] at h2
          exact xop_mono (fun u w' ⟨g1, g2⟩ => ⟨g1, step u w' g2⟩) h2
        · rename_i hw
          simp only [hw] at h2
          exact step undef w h2
      exact h4

end
end Go.Dl

namespace Go.Dl
set_option linter.unusedVariables false
set_option linter.unusedSimpArgs false
set_option linter.unusedSectionVars false
variable [WInv]
open Go.RowKit

def inW (l : List Nat) (i : Nat) : Bool := l.any (Nat.beq i)

/-- Those that are still to come and wait for i, directly or through others that do. -/
def waitsD (md : Region.Mode) (ops : Array Oper) (listed : Array Bool) (i : Nat) : List Nat → List Nat → List Nat
  | [], d => d
  | j :: r, d => waitsD md ops listed i r (bif !listed.getD j true && (ops[j]?).elim false fun oj => oj.after.any fun e => Region.binds md e && (e.on == i || d.any (Nat.beq e.on)) then j :: d else d)

/-- Each other operation that is still to come waits for i, or is apart from it and writes nothing. -/
def freeW (md : Region.Mode) (ops : Array Oper) (W : Nat → Bool) (listed : Array Bool) (i : Nat) : Bool :=
  match ops[i]? with
  | none => false
  | some oi =>
    let d := waitsD md ops listed i (List.range ops.size) []
    (List.range ops.size).all fun j => j == i || listed.getD j true || d.any (Nat.beq j) || match ops[j]? with
      | some oj => oi.apart ops oj && !W j
      | none => true

/-- These may come first, one behind the other. -/
def firsts (md : Region.Mode) (ops : Array Oper) (W : Nat → Bool) : Array Bool → List Nat → Option (Array Bool)
  | listed, [] => some listed
  | listed, i :: r =>
    bif (Region.ready md ops listed).contains i && (freeW md ops W listed i && (!W i && (ops[i]?).elim false fun o => quietOp o.op)) then firsts md ops W (listed.setIfInBounds i true) r else none

/-- From here on the order is this one. -/
def seqL (md : Region.Mode) (ops : Array Oper) : Array Bool → List Nat → Bool
  | listed, [] => (Region.ready md ops listed).isEmpty
  | listed, j :: r => decide (Region.ready md ops listed = [j]) && seqL md ops (listed.setIfInBounds j true) r

def opsOf (ops : Array Oper) (l : List Nat) : List Oper := l.filterMap fun i => ops[i]?

/-- A region in its course, and the code behind it. -/
def RefX (P : Program) (n : Nat) (ops : Array Oper) (W : Nat → Bool) {A T : Type} (fuel : Nat) (listed : Array Bool) (cs : List Code) (st : St) (m : Option (A ⊕ T)) (go : T → St) (ab : A → Ex × St) : Prop :=
  ∀ Γ S β a w, RR Γ S β a w n st → ∀ x, m = some x → xAny P .any ops W (Exit.then (wpL P cs (Post Γ n go ab x)) (Post Γ n go ab x)) fuel listed a w

section
variable {P : Program} {n : Nat} {ops : Array Oper} {W : Nat → Bool} {md : Region.Mode}

theorem waitsD_spec {i : Nat} {listed : Array Bool} : ∀ (l d : List Nat),
    (∀ k ∈ d, listed.getD k true = false ∧ ∀ ok, ops[k]? = some ok → ∃ e ∈ ok.after, Region.binds md e = true ∧ (e.on = i ∨ e.on ∈ d)) →
    ∀ k ∈ waitsD md ops listed i l d, listed.getD k true = false ∧ ∀ ok, ops[k]? = some ok → ∃ e ∈ ok.after, Region.binds md e = true ∧ (e.on = i ∨ e.on ∈ waitsD md ops listed i l d)
  | [], d, h => h
  | j :: r, d, h => by
    unfold waitsD
    refine waitsD_spec r _ ?_
    intro k hk
    cases hc : (!listed.getD j true && (ops[j]?).elim false fun oj => oj.after.any fun e => Region.binds md e && (e.on == i || d.any (Nat.beq e.on))) with
    | false =>
      rw [hc, cond_false] at hk
      rw [cond_false]
      exact h k hk
    | true =>
      rw [hc, cond_true] at hk
      rw [cond_true]
      rcases List.mem_cons.1 hk with rfl | hk
      · simp only [Bool.and_eq_true, Bool.not_eq_true'] at hc
        refine ⟨hc.1, fun ok hok => ?_⟩
        have h2 := hc.2
        rw [hok] at h2
        simp only [Option.elim] at h2
        obtain ⟨e, he, hb⟩ := Array.any_eq_true'.1 h2
        simp only [Bool.and_eq_true, Bool.or_eq_true, beq_iff_eq, List.any_eq_true] at hb
        refine ⟨e, he, hb.1, ?_⟩
        rcases hb.2 with h3 | ⟨x, hx, h3⟩
        · exact .inl h3
        · right
          have := Nat.eq_of_beq_eq_true h3
          rw [this]
          exact List.mem_cons_of_mem _ hx
      · obtain ⟨h1, h2⟩ := h k hk
        refine ⟨h1, fun ok hok => ?_⟩
        obtain ⟨e, he, hb, h3⟩ := h2 ok hok
        exact ⟨e, he, hb, h3.imp id (List.mem_cons_of_mem _)⟩

theorem freeW_spec {i : Nat} {oi : Oper} {listed : Array Bool} (hi : ops[i]? = some oi) (h : freeW md ops W listed i = true) : ∃ D, Free md ops W listed i oi D := by
  have hs := waitsD_spec (md := md) (ops := ops) (i := i) (listed := listed) (List.range ops.size) [] (fun k hk => by cases hk)
  simp only [freeW, hi, List.all_eq_true, List.mem_range] at h
  generalize waitsD md ops listed i (List.range ops.size) [] = d at *
  have hmem : ∀ k, d.any (Nat.beq k) = true ↔ k ∈ d := fun k => by
    rw [List.any_eq_true]
    constructor
    · rintro ⟨x, hx, hb⟩
      rw [Nat.eq_of_beq_eq_true hb]; exact hx
    · intro hk; exact ⟨k, hk, by simp⟩
  refine ⟨fun k => d.any (Nat.beq k), fun k ok hok hk => ?_, fun k hk => (hs k ((hmem k).1 hk)).1, fun j oj hj hne hun hd => ?_⟩
  · obtain ⟨e, he, hb, h3⟩ := (hs k ((hmem k).1 hk)).2 ok hok
    exact ⟨e, he, hb, h3.imp id fun h => (hmem _).2 h⟩
  · have h1 := h j (Array.getElem?_eq_some_iff.1 hj).1
    rw [hd] at h1
    simp only [hj, Bool.or_eq_true, beq_iff_eq, hne, false_or, hun, Bool.false_eq_true] at h1
    simpa using h1

theorem RR.up {Γ : Ctx} {S : Mem} {β : Bmap} {a : Act} {w w' : World} {st : St} (h : RR Γ S β a w n st) (hu : Up w w') : RR Γ S β a w' n st :=
  ⟨h.core.newer hu.os hu.tape hu.output hu.size hu.block, h.tm, h.un, h.size, h.defers, h.hand⟩

theorem xAny_evs {Q : Exit → Act → World → Prop} {Γ : Ctx} {S : Mem} {β : Bmap} {fuel : Nat} {listed' : Array Bool} {st2 : St} (hsel : Region.noSelect ops = true) : ∀ {is : List Nat} {listed : Array Bool} {st : St} {vs : List Bool} {a : Act} {w : World},
    RR Γ S β a w n st → firsts md ops W listed is = some listed' → evOps P n ops (opsOf ops is) st = some (vs, st2) → (∀ b ∈ vs, b = true) →
    (∀ a' w', RR Γ S β a' w' n st2 → xAny P md ops W Q fuel listed' a' w') → xAny P md ops W Q (is.length + fuel) listed a w
  | [], listed, st, vs, a, w, hr, hf, he, hvs, hk => by
    simp only [firsts, Option.some.injEq] at hf
    subst hf
    simp only [opsOf, List.filterMap_nil, evOps, Option.some.injEq, Prod.mk.injEq] at he
    obtain ⟨_, rfl⟩ := he
    rw [List.length_nil, Nat.zero_add]
    exact hk a w hr
  | i :: r, listed, st, vs, a, w, hr, hf, he, hvs, hk => by
    unfold firsts at hf
    obtain ⟨hc, hf⟩ := some_of_cond hf
    simp only [Bool.and_eq_true, Bool.not_eq_true'] at hc
    obtain ⟨hrd, hfree, hWi, hq⟩ := hc
    cases ho : ops[i]? with
    | none => rw [ho] at hq; cases hq
    | some o =>
      rw [ho] at hq
      simp only [Option.elim] at hq
      have hops : opsOf ops (i :: r) = o :: opsOf ops r := by simp [opsOf, ho]
      rw [hops] at he
      unfold evOps at he
      split at he
      · rename_i v st1 h1
        split at he
        · rename_i vs2 st3 h2
          simp only [Option.some.injEq, Prod.mk.injEq] at he
          obtain ⟨rfl, rfl⟩ := he
          have hv1 : ∀ b ∈ v, b = true := fun b hb => hvs b (List.mem_append_left _ hb)
          have hv2 : ∀ b ∈ vs2, b = true := fun b hb => hvs b (List.mem_append_right _ hb)
          rw [List.length_cons, show r.length + 1 + fuel = (r.length + fuel) + 1 by omega]
          have key : ∀ u, YQ P ops o u a w → RR Γ S β (a.put o.dst u) w n st1 → xAny P md ops W Q (r.length + fuel + 1) listed a w := by
            intro u hy hrr
            exact xAny_first ho (Region.noSelect_spec hsel) hWi _ listed a w (freeW_spec ho hfree) (by simpa using hrd) hy
              fun w' hw' => xAny_evs hsel (hrr.up hw') hf h2 hv2 hk
          rcases evStep_cases hr h1 hv1 with ⟨hw, u, w', S', β', _, hrr, hqq⟩ | ⟨hw, hrr⟩
          · obtain ⟨rfl, rfl, rfl, hrun⟩ := hqq hq
            refine key u (.inl ⟨hw, fun w2 hw2 => ?_⟩) hrr
            unfold xop
            rw [hrun w2 (.inr hw2)]
            exact ⟨rfl, Up.refl _⟩
          · exact key undef (.inr ⟨hw, rfl⟩) hrr
        · cases he
      · cases he

theorem xAny_of_seq {Q' : Exit → Act → World → Prop} : ∀ (js : List Nat) (listed : Array Bool) (a : Act) (w : World), seqL md ops listed js = true → (js.all fun j => W j && (ops[j]?).isSome) = true →
    wpList P ops Q' (opsOf ops js) a w → xAny P md ops W Q' js.length listed a w
  | [], listed, a, w, hs, _, h => ⟨by simpa [seqL] using hs, h⟩
  | j :: r, listed, a, w, hs, hW, h => by
    simp only [seqL, Bool.and_eq_true, decide_eq_true_eq] at hs
    simp only [List.all_cons, Bool.and_eq_true] at hW
    refine ⟨fun h1 => (by rw [hs.1] at h1; cases h1), fun i hi => ?_⟩
    rw [hs.1] at hi
    have hik : i = j := by simpa using hi
    subst hik
    obtain ⟨o, ho⟩ := Option.isSome_iff_exists.1 hW.1.2
    have hops : opsOf ops (i :: r) = o :: opsOf ops r := by simp [opsOf, ho]
    rw [hops] at h
    unfold xOp
    rw [hW.1.1, cond_true]
    have hw : wpOp P ops Q' i (wpList P ops Q' (opsOf ops r)) a w := by unfold wpOp; simp only [ho]; exact h
    exact wpOp_mono (fun a' w' h' => xAny_of_seq r _ a' w' hs.2 (by rw [List.all_eq_true]; simpa using hW.2) h') hw

variable {A T : Type} {go : T → St} {ab : A → Ex × St} {st : St} {m : Option (A ⊕ T)} {cs : List Code}

theorem Ref.drawn {id : Nat} (W : List Nat) (hm : P.follows .mixedOrders = true) (h : RefX P n ops (inW W) ops.size (Array.replicate ops.size false) cs st m go ab) : Ref P n (.region id ops true :: cs) st m go ab := by
  intro Γ S β a w hr x hx
  refine wp_region_any hm (wpAny_of_x _ _ _ _ (h Γ S β a _ ?_ x hx))
  exact ⟨hr.core.drew, hr.tm, hr.un, hr.size, hr.defers, hr.hand⟩

/-- Some that only look, first. -/
theorem RefX.ev (is keep om : List Nat) {fuel fuel' : Nat} {listed listed' : Array Bool} {vs : List Bool} {st' : St} (hfu : fuel = is.length + fuel')
    (hf : (bif Region.noSelect ops then firsts .any ops W listed is else none) = some listed') (he : run1 P n ops (opsOf ops is) st keep om = some (vs, st'))
    (h : RefX P n ops W fuel' listed' cs st' m go ab) : RefX P n ops W fuel listed cs st (chk vs m) go ab := by
  intro Γ S β a w hr x hx
  obtain ⟨hvs, hm⟩ := chk_some hx
  obtain ⟨hsel, hf⟩ := some_of_cond hf
  subst hfu
  unfold run1 at he
  split at he
  · rename_i vs2 st2 h2
    cases hk : st2.keep keep om with
    | none => rw [hk] at he; cases he
    | some st3 =>
      rw [hk] at he
      simp only [Option.map_some, Option.some.injEq, Prod.mk.injEq] at he
      obtain ⟨rfl, rfl⟩ := he
      exact xAny_evs hsel hr hf h2 hvs fun a' w' h' => h Γ S (bren β om) a' w' (keep_sound h' hk) x hm
  · cases he

/-- What is left has one order. -/
theorem RefX.tail (js : List Nat) {fuel : Nat} {listed : Array Bool} (hfu : fuel = js.length) (hs : (seqL .any ops listed js && js.all fun j => W j && (ops[j]?).isSome) = true)
    (h : RefR P n ops (opsOf ops js) cs st m go ab) : RefX P n ops W fuel listed cs st m go ab := by
  intro Γ S β a w hr x hx
  rw [Bool.and_eq_true] at hs
  subst hfu
  exact xAny_of_seq js listed a w hs.1 hs.2 (h Γ S β a w hr x hx)

theorem RefX.done {listed : Array Bool} (hs : (Region.ready .any ops listed).isEmpty = true) (h : Ref P n cs st m go ab) : RefX P n ops W 0 listed cs st m go ab :=
  fun Γ S β a w hr x hx => ⟨by simpa using hs, h Γ S β a w hr x hx⟩

end
end Go.Dl

namespace Go.Dl
set_option linter.unusedVariables false
set_option linter.unusedSimpArgs false
set_option linter.unusedSectionVars false
variable [WInv]
open Go.RowKit

/-- The one value of which this is true, if there is just one. -/
def C.exact : C → Option Value
  | .val v => some v
  | .str l => some (.string ⟨l.toArray⟩)
  | .nil => some (.slice none 0 0)
  | .iface b t c => match c.exact with
    | some u => some (if b = true then .iface t u else .nilIface)
    | none => none
  | _ => none

def exactL : List C → Option (List Value)
  | [] => some []
  | c :: r => match c.exact, exactL r with
    | some u, some us => some (u :: us)
    | _, _ => none

def D1.exact : D1 → Option Value
  | .c x => x.exact
  | .agg l => match exactL l with
    | some us => some (.agg us.toArray)
    | none => none

def exactT : List D1 → Option (List Value)
  | [] => some []
  | c :: r => match c.exact, exactT r with
    | some u, some us => some (u :: us)
    | _, _ => none

def D.exact : D → Option Value
  | .c x => x.exact
  | .agg l => match exactL l with
    | some us => some (.agg us.toArray)
    | none => none
  | .tup l => match exactT l with
    | some us => some (.tuple us.toArray)
    | none => none

theorem C.exact_eq : ∀ {c : C} {u v : Value} {S : Mem} {β : Bmap}, c.exact = some u → CRel S β c v → v = u
  | .val _, _, _, _, _, h, hr => by simp only [C.exact, Option.some.injEq] at h; subst h; exact hr
  | .str _, _, _, _, _, h, hr => by simp only [C.exact, Option.some.injEq] at h; subst h; exact hr.1
  | .nil, _, _, _, _, h, hr => by simp only [C.exact, Option.some.injEq] at h; subst h; exact hr
  | .iface b t c, u, v, S, β, h, hr => by
    unfold C.exact at h
    split at h
    · rename_i z hz
      simp only [Option.some.injEq] at h
      subst h
      simp only [CRel] at hr
      cases b with
      | true =>
        simp only [if_true] at hr ⊢
        obtain ⟨z', rfl, hz'⟩ := hr
        rw [C.exact_eq hz hz']
      | false =>
        simp only [Bool.false_eq_true, if_false] at hr ⊢
        exact hr
    · cases h

theorem exactL_eq {S : Mem} {β : Bmap} : ∀ {l : List C} {us vs : List Value}, exactL l = some us → LRel S β l vs → vs = us
  | [], _, _, h, hr => by simp only [exactL, Option.some.injEq] at h; subst h; exact hr
  | c :: l, us, vs, h, hr => by
    unfold exactL at h
    split at h
    · rename_i u us' hu hus
      simp only [Option.some.injEq] at h
      subst h
      obtain ⟨v, r, rfl, h1, h2⟩ := hr
      rw [C.exact_eq hu h1, exactL_eq hus h2]
    · cases h

theorem D1.exact_eq {S : Mem} {β : Bmap} {d : D1} {u v : Value} (h : d.exact = some u) (hr : D1Rel S β d v) : v = u := by
  cases d with
  | c x => exact C.exact_eq h hr
  | agg l =>
    simp only [D1.exact] at h
    cases hus : exactL l with
    | none => rw [hus] at h; cases h
    | some us =>
      rw [hus] at h
      simp only [Option.some.injEq] at h
      subst h
      obtain ⟨vs, rfl, h2⟩ := hr
      rw [exactL_eq hus h2]

theorem exactT_eq {S : Mem} {β : Bmap} : ∀ {l : List D1} {us vs : List Value}, exactT l = some us → TRel S β l vs → vs = us
  | [], _, _, h, hr => by simp only [exactT, Option.some.injEq] at h; subst h; exact hr
  | c :: l, us, vs, h, hr => by
    unfold exactT at h
    split at h
    · rename_i u us' hu hus
      simp only [Option.some.injEq] at h
      subst h
      obtain ⟨v, r, rfl, h1, h2⟩ := hr
      rw [D1.exact_eq hu h1, exactT_eq hus h2]
    · cases h

theorem D.exact_eq {S : Mem} {β : Bmap} {d : D} {u v : Value} (h : d.exact = some u) (hr : DRel S β d v) : v = u := by
  cases d with
  | c x => exact C.exact_eq h hr
  | agg l =>
    simp only [D.exact] at h
    cases hus : exactL l with
    | none => rw [hus] at h; cases h
    | some us =>
      rw [hus] at h
      simp only [Option.some.injEq] at h
      subst h
      obtain ⟨vs, rfl, h2⟩ := hr
      rw [exactL_eq hus h2]
  | tup l =>
    simp only [D.exact] at h
    cases hus : exactT l with
    | none => rw [hus] at h; cases h
    | some us =>
      rw [hus] at h
      simp only [Option.some.injEq] at h
      subst h
      obtain ⟨vs, rfl, h2⟩ := hr
      rw [exactT_eq hus h2]

section
variable {P : Program} {n : Nat} {ops : Array Oper} {W : Nat → Bool} {A T R : Type} {go : T → St} {ab : A → Ex × St} {st : St} {cs : List Code}

/-- Is an operation wanted? Just if its guards hold. -/
theorem guard_cases {Γ : Ctx} {S : Mem} {β : Bmap} {a : Act} {w : World} {o : Oper} {g : List (Nat × Bool)} {b : Bool} (hr : RR Γ S β a w n st) (hg : guardOf ops o st = some g) (hb : guardB st g = some b) :
    (b = true ∧ st.holds g ∧ Region.wanted o (yielded ops a.tmps) = true) ∨ (b = false ∧ ¬ st.holds g ∧ Region.wanted o (yielded ops a.tmps) = false) := by
  by_cases hh : st.holds g
  · left
    have hbt := guardB_true hb hh
    subst hbt
    have hwanted : Region.wanted o (yielded ops a.tmps) = true := by
      unfold guardOf at hg
      cases hgd : o.guard with
      | none => simp [Region.wanted, hgd]
      | some jw =>
        obtain ⟨j, want⟩ := jw
        rw [hgd] at hg
        dsimp only at hg
        cases htj : (ops[j]?).bind (·.dst) with
        | none => rw [htj] at hg; cases hg
        | some tj =>
          rw [htj] at hg
          simp only [Option.some.injEq] at hg
          subst hg
          have hrel := hr.tm tj (fun q hq => hh q (List.mem_cons_of_mem _ hq))
          have hxw := hh (tj, want) (by simp)
          simp only at hxw
          rw [hxw] at hrel
          have hval : a.tmps.getD tj undef = .bool want := hrel
          have hsome : a.tmps[tj]? = some (.bool want) := by
            rw [Array.getD_eq_getD_getElem?] at hval
            cases hq : a.tmps[tj]? with
            | none => rw [hq] at hval; cases hval
            | some u => rw [hq] at hval; simp only [Option.getD_some] at hval; rw [hval]
          have hyield : yielded ops a.tmps j = some want := by
            unfold yielded
            rw [htj]
            show (match a.tmps[tj]? with | some (.bool b) => some b | _ => none) = some want
            rw [hsome]
          simp only [Region.wanted, hgd, hyield]
          simp
    exact ⟨rfl, hh, hwanted⟩
  · right
    have hb0 : b = false := by
      cases b with
      | false => rfl
      | true => exact absurd (guardB_holds hb) hh
    subst hb0
    have hwt : Region.wanted o (yielded ops a.tmps) = false := by
      unfold guardOf at hg
      cases hgd : o.guard with
      | none =>
        rw [hgd] at hg
        simp only [Option.some.injEq] at hg
        subst hg
        exact absurd (fun q hq => by cases hq) hh
      | some jw =>
        obtain ⟨j, want⟩ := jw
        rw [hgd] at hg
        dsimp only at hg
        cases htj : (ops[j]?).bind (·.dst) with
        | none => rw [htj] at hg; cases hg
        | some tj =>
          rw [htj] at hg
          simp only [Option.some.injEq] at hg
          subst hg
          obtain ⟨x0, hx0⟩ := guardB_head hb
          have hwant : ∀ (yl : Option Bool), yielded ops a.tmps j = yl → Region.wanted o (yielded ops a.tmps) = (yl == some want) := by
            intro yl hy
            simp only [Region.wanted, hgd, hy]
          have hyield : yielded ops a.tmps j = match a.tmps[tj]? with | some (.bool b) => some b | _ => none := by
            unfold yielded
            rw [htj]
            rfl
          by_cases hrr : st.holds (st.gof tj)
          · have hrel := hr.tm tj hrr
            rw [hx0] at hrel
            have hval : a.tmps.getD tj undef = .bool x0 := hrel
            have hsome : a.tmps[tj]? = some (.bool x0) := by
              rw [Array.getD_eq_getD_getElem?] at hval
              cases hq : a.tmps[tj]? with
              | none => rw [hq] at hval; cases hval
              | some u => rw [hq] at hval; simp only [Option.getD_some] at hval; rw [hval]
            rw [hwant (some x0) (by rw [hyield, hsome])]
            have hne : x0 ≠ want := by
              intro e
              subst e
              refine hh fun q hq => ?_
              rcases List.mem_cons.1 hq with rfl | hq
              · exact hx0
              · exact hrr q hq
            simpa using hne
          · have hun := hr.un tj hrr
            have hnone : yielded ops a.tmps j = none := by
              rw [hyield]
              rw [Array.getD_eq_getD_getElem?] at hun
              cases hq : a.tmps[tj]? with
              | none => rfl
              | some u =>
                rw [hq] at hun
                simp only [Option.getD_some] at hun
                rw [hun]; rfl
            rw [hwant none hnone]
            rfl
    exact ⟨rfl, hh, hwt⟩

theorem xop_wit {o : Oper} {a : Act} {w : World} {k : Value → World → Prop} (h : xop P o a w k) : ∃ v w', k v w' := by
  unfold xop at h
  generalize (execOp a.eval o).run P w = r at *
  cases r with
  | ok n w' =>
    cases n <;> simp only [xupon] at h
    case value v => exact ⟨v, w', h⟩
    case skip => exact ⟨undef, w', h⟩
    case enter f args =>
      obtain ⟨e, w', fr, ⟨v, _, hk⟩, _⟩ := h []
      exact ⟨v, w', hk⟩
  | halt x w' => simp only [xupon] at h

/-- A call that only looks. -/
theorem look_run {Γ : Ctx} {S : Mem} {β : Bmap} {a : Act} {w : World} {o : Oper} {x : Operand} {args : Array Operand} {tys : Array TypeId} {f : FuncId} {cargs : List D} {g : List (Nat × Bool)}
    {mc : Option R} {res : R → D} {st2 : St} {bo : List Nat} {r : R} (hr : RR Γ S β a w n st)
    (hfun : DFun P f cargs [] mc res (fun _ => [])) (hh : st.holds g) (ho : o.op = .call ⟨.value x, args, tys⟩)
    (hfr : st.freezes bo = some st2) (hcall : lookArgs st2 g x args.toList = some (f, cargs)) (hf : callable P f = true)
    (hshut : cargs.all D.shut = true) (hm : mc = some r) : xop P o a w fun v w' => (∃ S' β', DRel S' β' (res r) v) ∧ Up w w' := by
  obtain ⟨S2, hr2, hgd2⟩ := freezes_sound hr hfr
  unfold lookArgs at hcall
  split at hcall
  · rename_i f' k cap hx
    simp only [Option.some.injEq, Prod.mk.injEq] at hcall
    obtain ⟨rfl, hcargs⟩ := hcall
    have hh2 : st2.holds g := (hgd2 g).2 hh
    have hxr := see_rel hr2 hh2 x
    rw [hx] at hxr
    obtain ⟨vs, hxv, hcaps⟩ := caps_rel hxr
    have hrun : (execOp a.eval o).run P w = .ok (.enter f' (args.map a.eval ++ vs)) w := by
      unfold execOp
      rw [ho]
      simp only [resolve, hxv, Deferred.ofValue, pure_bind, invoke]
      rw [run_callFunc hf]
      simp
    unfold xop
    simp only [hrun, xupon]
    have hvm : ∀ (l : List Operand), VRel S2 β (l.map (st2.see g).lv) (l.map a.eval) := by
      intro l
      induction l with
      | nil => rfl
      | cons x l ih => exact ⟨_, _, rfl, see_rel hr2 hh2 x, ih⟩
    have hargs : VRel S2 β cargs (args.map a.eval ++ vs).toList := by
      rw [← hcargs]
      have e : (args.map a.eval ++ vs).toList = args.toList.map a.eval ++ vs.toList := by simp
      rw [e]
      exact (hvm args.toList).append hcaps
    have hclosed : VRel S2 noB cargs (args.map a.eval ++ vs).toList := VRel.shut hshut hargs
    have hco : Core ⟨S2, w, Mof noB [], noB⟩ S2 noB w [] :=
      ⟨⟨rfl, rfl, rfl, Nat.le_refl _, fun _ _ _ => rfl, fun _ _ _ _ => rfl, MLe.refl _, fun b hb => by obtain ⟨o, k, x, hx, _⟩ := hb; simp at hx, hr2.core.inv⟩, hr2.core.holds, fun o x hx => by simp at hx, fun _ _ => rfl,
        fun o o' k k' x x' hx => by simp at hx, fun o k x hx => by simp at hx, fun o k x hx => by simp at hx⟩
    have := hfun S2 noB w (args.map a.eval ++ vs).toList hco hclosed r hm
    have e2 : (args.map a.eval ++ vs).toList.toArray = args.map a.eval ++ vs := by simp
    rw [e2] at this
    refine this.mono fun e w' he => ?_
    obtain ⟨v, S', βc, rfl, hres, _, hco'⟩ := he
    have hnm : ∀ b, ¬ Mof noB [] b := by
      rintro b ⟨o, k, x, hx, _⟩
      simp at hx
    exact ⟨v, rfl, ⟨S', βc, hres⟩, ⟨hco'.frame.os, hco'.frame.tape, hco'.frame.output, hco'.frame.size, fun b hb => hco'.frame.block b hb (hnm b)⟩⟩
  · cases hcall

/-- May this one come first? -/
def firstW (ops : Array Oper) (W : Nat → Bool) (listed : Array Bool) (i : Nat) : Bool :=
  Region.noSelect ops && ((Region.ready .any ops listed).contains i && (freeW .any ops W listed i && !W i))

/-- A call that only looks, and whose result is one value, first. -/
theorem RefX.look {o : Oper} {x : Operand} {args : Array Operand} {tys : Array TypeId} {t : Nat} {f : FuncId} {cargs : List D} {g : List (Nat × Bool)} {b : Bool}
    {mc : Option R} {res : R → D} {m : R → Option (A ⊕ T)} {st2 : St} {fuel : Nat} {listed : Array Bool} (i : Nat) (bo : List Nat) (r0 : R)
    (hfun : DFun P f cargs [] mc res (fun _ => [])) (hi : ops[i]? = some o) (hfirst : firstW ops W listed i = true)
    (hg : guardOf ops o st = some g) (hb : guardB st g = some b) (ho : o.op = .call ⟨.value x, args, tys⟩) (hdst : o.dst = some t)
    (hfr : st.freezes bo = some st2) (hcall : lookArgs st2 g x args.toList = some (f, cargs)) (hf : callable P f = true)
    (hn : (Nat.blt t n && (freeOf st t && g.all fun q => !Nat.beq q.1 t)) = true) (hex : ∀ r, (res r).exact.isSome = true) (hflat : ∀ r, (res r).flat = true) (hshut : cargs.all D.shut = true)
    (h : ∀ r, RefX P n ops W fuel (listed.setIfInBounds i true) cs (st.put (some t) (res r) st.objs g) (m r) go ab) :
    RefX P n ops W (fuel + 1) listed cs st ((condM b mc r0).bind m) go ab := by
  intro Γ S β a w hr q hq
  simp only [Bool.and_eq_true, List.all_eq_true, Nat.blt_eq] at hn
  obtain ⟨htn, hfree, hgt⟩ := hn
  have hgt' : ∀ q ∈ g, q.1 ≠ t := fun q hq e => by
    have := hgt q hq
    rw [e] at this
    simp at this
  simp only [firstW, Bool.and_eq_true, Bool.not_eq_true'] at hfirst
  obtain ⟨hsel, hrd, hfw, hWi⟩ := hfirst
  rcases guard_cases hr hg hb with ⟨rfl, hh, hw⟩ | ⟨rfl, hh, hw⟩
  · simp only [condM, if_true] at hq
    cases hm : mc with
    | none => rw [hm] at hq; cases hq
    | some r =>
      rw [hm, Option.bind_some] at hq
      obtain ⟨u, hu⟩ := Option.isSome_iff_exists.1 (hex r)
      have hy : YQ P ops o u a w := by
        refine .inl ⟨hw, fun w2 hw2 => ?_⟩
        exact xop_mono (fun v w' ⟨⟨S', β', hv⟩, hup⟩ => ⟨D.exact_eq hu hv, hup⟩) (look_run (hr.up hw2) hfun hh ho hfr hcall hf hshut hm)
      have hrel : DRel S β (res r) u := by
        obtain ⟨v, w', ⟨S', β', hv⟩, _⟩ := xop_wit (look_run hr hfun hh ho hfr hcall hf hshut hm)
        have := D.exact_eq hu hv
        subst this
        exact flatD (hflat r) hv
      refine xAny_first hi (Region.noSelect_spec hsel) hWi _ listed a w (freeW_spec hi hfw) (by simpa using hrd) hy fun w' hw' => ?_
      have hput := (hr.up hw').put (hr.up hw').core (MLe.refl _) (BLe.refl _) htn hfree hgt' (fun _ => hrel) (fun hno => absurd hh hno)
      rw [hdst]
      exact h r Γ S β _ w' hput q hq
  · simp only [condM, Bool.false_eq_true, if_false, Option.bind_some] at hq
    refine xAny_first hi (Region.noSelect_spec hsel) hWi _ listed a w (freeW_spec hi hfw) (by simpa using hrd) (.inr ⟨hw, rfl⟩) fun w' hw' => ?_
    have hput := (hr.up hw').put (d := res r0) (v := undef) (hr.up hw').core (MLe.refl _) (BLe.refl _) htn hfree hgt' (fun hy => absurd hy hh) (fun _ => rfl)
    rw [hdst]
    exact h r0 Γ S β _ w' hput q hq

end
end Go.Dl

namespace Go.Dl
set_option linter.unusedVariables false
set_option linter.unusedSimpArgs false
set_option linter.unusedSectionVars false
variable [WInv]

/-- A piece of code, by its path. -/
def cd : Code → List Nat → Code
  | c, [] => c
  | .seq a b, i :: p => bif Nat.beq i 0 then cd a p else cd b p
  | .cond _ a b, i :: p => bif Nat.beq i 0 then cd a p else cd b p
  | .block _ c, _ :: p => cd c p
  | .loop c, _ :: p => cd c p
  | c, _ :: _ => c

def bd (f : Func) : Code := f.body.getD .skip
def rg : Code → Array Oper
  | .region _ ops _ => ops
  | _ => #[]

def noOper : Oper := ⟨none, .move (.func 0), 0, "", #[], none⟩
def opAt (l : List Oper) (k : Nat) : Oper := l.getD k noOper

/-- A call's function, arguments and slot. -/
def callInfo (P : Program) (n : Nat) (o : Oper) (st : St) (om : List Nat) : Option (FuncId × List D × Nat) :=
  match o.guard, o.op, o.dst with
  | none, .call ⟨.value x, args, _⟩, some t =>
    (match callArgs st x args.toList om with
    | some (f, cargs) => bif callable P f && (nodupN om && (om.all (fun o => Nat.blt o st.objs.length) && (Nat.blt t n && freeOf st t))) then some (f, cargs, t) else none
    | none => none)
  | _, _, _ => none

structure LookInfo where
  f : FuncId
  cargs : List D
  t : Nat
  g : List (Nat × Bool)
  b : Bool

/-- The same of a call that only looks. -/
def lookInfo (P : Program) (n : Nat) (ops : Array Oper) (o : Oper) (st : St) (bo : List Nat) : Option LookInfo :=
  match o.op, o.dst, guardOf ops o st, st.freezes bo with
  | .call ⟨.value x, args, _⟩, some t, some g, some st2 =>
    (match guardB st g, lookArgs st2 g x args.toList with
    | some b, some (f, cargs) => bif callable P f && (cargs.all D.shut && (Nat.blt t n && (freeOf st t && g.all fun q => !Nat.beq q.1 t))) then some ⟨f, cargs, t, g, b⟩ else none
    | _, _ => none)
  | _, _, _, _ => none

section
variable {P : Program} {n : Nat} {A T U R : Type} {go : T → St} {ab : A → Ex × St} {st st' : St} {m : Option (A ⊕ T)} {cs : List Code} {c : Code}

theorem Ref.codeEq {c' : Code} (h : c = c') (hr : Ref P n (c' :: cs) st m go ab) : Ref P n (c :: cs) st m go ab := h ▸ hr

theorem Ref.seqC (a b : Code) (h : c = .seq a b) (hr : Ref P n (a :: b :: cs) st m go ab) : Ref P n (c :: cs) st m go ab := by
  subst h; exact Ref.seq hr

theorem Ref.skipC (h : c = .skip) (hr : Ref P n cs st m go ab) : Ref P n (c :: cs) st m go ab := by
  subst h; exact Ref.skip hr

theorem Ref.regionC (id : Nat) (h : c = .region id (rg c) false) (hr : RefR P n (rg c) ((rg c).toList.drop 0) cs st m go ab) : Ref P n (c :: cs) st m go ab := by
  rw [h]; exact Ref.region hr

theorem Ref.drawnC (id : Nat) (W : List Nat) (h : c = .region id (rg c) true) (hm : P.follows .mixedOrders = true)
    (hr : RefX P n (rg c) (inW W) (rg c).size (Array.replicate (rg c).size false) cs st m go ab) : Ref P n (c :: cs) st m go ab := by
  rw [h]; exact Ref.drawn W hm hr

theorem Ref.condC (x : Operand) (b : Bool) {m1 m2 : Option (A ⊕ T)} (h : c = .cond x (cd c [0]) (cd c [1])) (hb : (st.gd.isEmpty && true) = true) (hl : st.lv x = .c (.val (.bool b)))
    (h1 : b = true → Ref P n (cd c [0] :: cs) st m1 go ab) (h2 : b = false → Ref P n (cd c [1] :: cs) st m2 go ab) : Ref P n (c :: cs) st (if b = true then m1 else m2) go ab := by
  rw [h]
  refine Ref.cond hl (by simpa using hb) h1 h2

theorem Ref.retC {t : A} (h : c = .ret) (hab : ab t = (.ret, st)) : Ref P n (c :: cs) st (some (.inl t)) go ab := by
  subst h; exact Ref.ret hab

theorem Ref.exitC (id : Nat) {t : A} (h : c = .exit id) (hab : ab t = (.exit id, st)) : Ref P n (c :: cs) st (some (.inl t)) go ab := by
  subst h; exact Ref.exit hab

/-- The operations from the k-th to the k'-th. -/
theorem RefR.evC (k j k' : Nat) (keep om : List Nat) {ops : Array Oper} {l : List Oper} {vs : List Bool} (hk : k' = k + j)
    (he : run1 P n ops ((l.drop k).take j) st keep om = some (vs, st')) (h : RefR P n ops (l.drop k') cs st' m go ab) : RefR P n ops (l.drop k) cs st (chk vs m) go ab := by
  refine RefR.ev j keep om he ?_
  rw [List.drop_drop, ← hk]
  exact h

theorem RefR.nilC (k : Nat) {ops : Array Oper} {l : List Oper} (hk : Nat.ble l.length k = true) (h : Ref P n cs st m go ab) : RefR P n ops (l.drop k) cs st m go ab := by
  rw [List.drop_eq_nil_of_le (Nat.le_of_ble_eq_true hk)]
  exact RefR.nil h

theorem drop_opAt {l : List Oper} {k : Nat} (hk : Nat.blt k l.length = true) : l.drop k = opAt l k :: l.drop (k + 1) := by
  have hk : k < l.length := by simpa [Nat.blt_eq] using hk
  rw [List.drop_eq_getElem_cons hk]
  simp [opAt, List.getD, List.getElem?_eq_getElem hk]

/-- A call of a function. -/
theorem RefR.callC (k k' : Nat) (om : List Nat) {ops : Array Oper} {l : List Oper} {f : FuncId} {cargs : List D} {t : Nat} {mc : Option R} {res : R → D} {out : R → List Obj} {m : R → Option (A ⊕ T)}
    (hk : (Nat.blt k l.length && Nat.beq k' (k + 1)) = true) (hi : callInfo P n (opAt l k) st om = some (f, cargs, t)) (hfun : DFun P f cargs (callObjs st om) mc res out)
    (h : ∀ r, RefR P n ops (l.drop k') cs (st.put (some t) ((res r).fwd om st.objs.length) (afterO om (out r) st.objs) []) (m r) go ab) : RefR P n ops (l.drop k) cs st (mc.bind m) go ab := by
  rw [Bool.and_eq_true] at hk
  obtain ⟨hk, hk'⟩ := hk
  have hk' := Nat.eq_of_beq_eq_true hk'
  subst hk'
  rw [drop_opAt hk]
  unfold callInfo at hi
  split at hi
  · rename_i x args tys t' hg hop hd
    split at hi
    · rename_i f' cargs' hca
      obtain ⟨hc, hi⟩ := some_of_cond hi
      simp only [Option.some.injEq, Prod.mk.injEq] at hi
      obtain ⟨rfl, rfl, rfl⟩ := hi
      rw [Bool.and_eq_true] at hc
      exact RefR.call hfun hg hop hd hca rfl hc.1 hc.2 h
    · cases hi
  · cases hi

/-- A call that only looks. -/
theorem RefR.lookC (k k' : Nat) (bo : List Nat) {ops : Array Oper} {l : List Oper} {f : FuncId} {cargs : List D} {t : Nat} {g : List (Nat × Bool)} {b : Bool} {mc : Option R} {res : R → D} {m : R → Option (A ⊕ T)} (r0 : R)
    (hk : (Nat.blt k l.length && Nat.beq k' (k + 1)) = true) (hi : lookInfo P n ops (opAt l k) st bo = some ⟨f, cargs, t, g, b⟩) (hfun : DFun P f cargs [] mc res (fun _ => [])) (hflat : ∀ r, (res r).flat = true)
    (h : ∀ r, RefR P n ops (l.drop k') cs (st.put (some t) (res r) st.objs g) (m r) go ab) : RefR P n ops (l.drop k) cs st ((condM b mc r0).bind m) go ab := by
  rw [Bool.and_eq_true] at hk
  obtain ⟨hk, hk'⟩ := hk
  have hk' := Nat.eq_of_beq_eq_true hk'
  subst hk'
  rw [drop_opAt hk]
  unfold lookInfo at hi
  split at hi
  · rename_i x args tys t' g' st2 hop hd hg hfr
    split at hi
    · rename_i b' f' cargs' hb hca
      obtain ⟨hc, hi⟩ := some_of_cond hi
      simp only [Option.some.injEq, LookInfo.mk.injEq] at hi
      obtain ⟨rfl, rfl, rfl, rfl, rfl⟩ := hi
      simp only [Bool.and_eq_true] at hc
      exact RefR.look bo r0 hfun hg hb hop hd hfr hca hc.1 (by simp only [Bool.and_eq_true]; exact hc.2.2) hflat hc.2.1 h
    · cases hi
  · cases hi

/-- The same in a region whose order is open. -/
theorem RefX.lookC (i : Nat) (bo : List Nat) {ops : Array Oper} {W : Nat → Bool} {fuel fuel' : Nat} {listed : Array Bool} {f : FuncId} {cargs : List D} {t : Nat} {g : List (Nat × Bool)} {b : Bool} {mc : Option R} {res : R → D} {m : R → Option (A ⊕ T)} (r0 : R)
    (hfu : fuel = fuel' + 1) (hfirst : (firstW ops W listed i && Nat.blt i ops.size) = true) (hi : lookInfo P n ops (opAt ops.toList i) st bo = some ⟨f, cargs, t, g, b⟩) (hfun : DFun P f cargs [] mc res (fun _ => []))
    (hflat : ∀ r, ((res r).flat && (res r).exact.isSome) = true)
    (h : ∀ r, RefX P n ops W fuel' (listed.setIfInBounds i true) cs (st.put (some t) (res r) st.objs g) (m r) go ab) : RefX P n ops W fuel listed cs st ((condM b mc r0).bind m) go ab := by
  rw [Bool.and_eq_true] at hfirst
  subst hfu
  unfold lookInfo at hi
  split at hi
  · rename_i x args tys t' g' st2 hop hd hg hfr
    split at hi
    · rename_i b' f' cargs' hb hca
      obtain ⟨hc, hi⟩ := some_of_cond hi
      simp only [Option.some.injEq, LookInfo.mk.injEq] at hi
      obtain ⟨rfl, rfl, rfl, rfl, rfl⟩ := hi
      simp only [Bool.and_eq_true] at hc
      have hlt : i < ops.size := by simpa [Nat.blt_eq] using hfirst.2
      have hat : ops[i]? = some (opAt ops.toList i) := by
        simp [opAt, List.getD, hlt]
      exact RefX.look i bo r0 hfun hat hfirst.1 hg hb hop hd hfr hca hc.1 (by simp only [Bool.and_eq_true]; exact hc.2.2)
        (fun r => by have := hflat r; rw [Bool.and_eq_true] at this; exact this.2) (fun r => by have := hflat r; rw [Bool.and_eq_true] at this; exact this.1) hc.2.1 h
    · cases hi
  · cases hi

theorem RefX.tailC (js : List Nat) {ops : Array Oper} {W : Nat → Bool} {fuel : Nat} {listed : Array Bool} (hfu : fuel = js.length) (hs : (seqL .any ops listed js && js.all fun j => W j && (ops[j]?).isSome) = true)
    (h : RefR P n ops ((opsOf ops js).drop 0) cs st m go ab) : RefX P n ops W fuel listed cs st m go ab := RefX.tail js hfu hs h

/-- An object, told in other words. -/
def St.setObj (st : St) (o : Nat) (x : Obj) : St := ⟨st.tmps, st.objs.set o x, st.gd, st.h⟩

theorem setObj_le (o : Nat) (x : Obj) (h : OLe (st.objs.getD o .dead) x) (hx : Nat.blt o st.objs.length = true) : StLe n st (st.setObj o x) := by
  intro Γ S β a w hr
  have hlt : o < st.objs.length := by simpa [Nat.blt_eq] using hx
  have h0 : st.objs[o]? = some (st.objs.getD o .dead) := by simp [List.getD, List.getElem?_eq_getElem hlt]
  have get : ∀ (i : Nat) (y : Obj), (st.objs.set o x)[i]? = some y → ∃ y' : Obj, st.objs[i]? = some y' ∧ y.live = y'.live ∧ ∀ S β w o', ORel S β w o' y' → ORel S β w o' y := by
    intro i y hy
    by_cases hi : i = o
    · subst hi
      rw [List.getElem?_set_self hlt] at hy
      simp only [Option.some.injEq] at hy
      subst hy
      exact ⟨_, h0, h.1.symm, h.2⟩
    · rw [List.getElem?_set_ne (Ne.symm hi)] at hy
      exact ⟨y, hy, rfl, fun _ _ _ _ h => h⟩
  refine ⟨⟨hr.core.frame, hr.core.holds, ?_, ?_, ?_, ?_, ?_⟩, hr.tm, hr.un, hr.size, hr.defers, hr.hand⟩
  · intro i y hy
    obtain ⟨y', h1, _, h3⟩ := get i y hy
    exact h3 _ _ _ _ (hr.core.objs i y' h1)
  · intro i hi
    exact hr.core.out i (by simpa [St.setObj] using hi)
  · intro i i' k k' y y' hy hy' hl hl' hk hk' hne
    obtain ⟨z, h1, h2, _⟩ := get i y hy
    obtain ⟨z', h1', h2', _⟩ := get i' y' hy'
    exact hr.core.inj i i' k k' z z' h1 h1' (h2 ▸ hl) (h2' ▸ hl') hk hk' hne
  · intro i k y hy hl hk
    obtain ⟨z, h1, h2, _⟩ := get i y hy
    exact hr.core.sep i k z h1 (h2 ▸ hl) hk
  · intro i k y hy hl hk
    obtain ⟨z, h1, h2, _⟩ := get i y hy
    exact hr.core.mine i k z h1 (h2 ▸ hl) hk

theorem Ref.obj (o : Nat) (x : Obj) (h : OLe (st.objs.getD o .dead) x) (hx : Nat.blt o st.objs.length = true) (hr : Ref P n cs (st.setObj o x) m go ab) : Ref P n cs st m go ab :=
  Ref.le (setObj_le o x h hx) hr

theorem RefR.obj (o : Nat) (x : Obj) {ops : Array Oper} {l : List Oper} (h : OLe (st.objs.getD o .dead) x) (hx : Nat.blt o st.objs.length = true) (hr : RefR P n ops l cs (st.setObj o x) m go ab) : RefR P n ops l cs st m go ab :=
  RefR.le (setObj_le o x h hx) hr

end
end Go.Dl

namespace Go.Dl
set_option linter.unusedVariables false
set_option linter.unusedSimpArgs false
set_option linter.unusedSectionVars false
variable [WInv]

/-- A Go type of elements, as a Lean type: the type's number, its cells. -/
structure El (α : Type) where
  ty : TypeId
  w : Nat
  cs : α → List C
  d : α

variable {α : Type}

def El.at (E : El α) (l : List α) (i j : Nat) : C := (E.cs (l.getD i E.d)).getD j .bot
def El.tree (E : El α) (l : List α) : C := .tree E.w l.length (E.at l)
def El.row (E : El α) (l : List α) : Obj := .row E.ty E.w l.length (E.at l)

theorem getD_lt {β : Type} {l : List β} {i : Nat} (d d' : β) (h : i < l.length) : l.getD i d = l.getD i d' := by
  simp [List.getD, List.getElem?_eq_getElem h]

theorem getD_append_l {β : Type} (l m : List β) (d : β) (i : Nat) (h : i < l.length) : (l ++ m).getD i d = l.getD i d := by
  simp [List.getD, List.getElem?_append_left h]

theorem getD_append_r {β : Type} (l m : List β) (d : β) (i : Nat) (h : l.length ≤ i) : (l ++ m).getD i d = m.getD (i - l.length) d := by
  simp [List.getD, List.getElem?_append_right h]

theorem El.row_append (E : El α) (xs ys : List α) {n m : Nat} (hn : n = xs.length) (hm : m = ys.length) :
    OLe (.row E.ty E.w (n + m) fun i j => bif Nat.blt i n then E.at xs i j else E.at ys (i - n) j) (E.row (xs ++ ys)) := by
  subst hn hm
  refine OLe.row (by simp) fun i j hi hj => ?_
  unfold El.at
  rcases Nat.lt_or_ge i xs.length with h | h
  · have hb : Nat.blt i xs.length = true := by simpa [Nat.blt_eq] using h
    rw [hb, cond_true, getD_append_l _ _ _ _ h]
    exact CLe.refl _
  · have hb : Nat.blt i xs.length = false := by
      cases hq : Nat.blt i xs.length with
      | false => rfl
      | true => rw [Nat.blt_eq] at hq; omega
    rw [hb, cond_false, getD_append_r _ _ _ _ h]
    exact CLe.refl _

theorem El.row_build (E : El α) (l : List α) {n : Nat} {ll : List (List C)} (hn : n = l.length) (h : ll = l.map E.cs) : OLe (.row E.ty E.w n (tbl ll)) (E.row l) := by
  subst hn h
  refine OLe.row rfl fun i j hi _ => ?_
  unfold tbl El.at
  have : (l.map E.cs).getD i [] = E.cs (l.getD i E.d) := by
    simp [List.getD, List.getElem?_eq_getElem hi]
  rw [this]
  exact CLe.refl _

theorem El.row_make (E : El α) (x : α) {n : Nat} {z : List C} (h : z = E.cs x) : OLe (.row E.ty E.w n fun _ j => z.getD j .bot) (E.row (List.replicate n x)) := by
  subst h
  refine OLe.row (by simp) fun i j hi _ => ?_
  unfold El.at
  have : (List.replicate n x).getD i E.d = x := by simp [List.getD, hi]
  rw [this]
  exact CLe.refl _

/-- A store into an element: the element that results has the cells that result. -/
theorem El.row_set (E : El α) (l : List α) (x : α) {i j : Nat} {cl : List C} (hi : i < l.length) (hlen : ∀ y, (E.cs y).length = E.w) (hj : j + cl.length ≤ E.w)
    (h : E.cs x = setL (E.cs (l.getD i E.d)) j cl) : OLe (.row E.ty E.w l.length (setRow (E.at l) i j cl)) (E.row (l.set i x)) := by
  refine OLe.row (by simp) fun i' j' hi' hj' => ?_
  unfold setRow El.at
  by_cases hii : i' = i
  · subst hii
    have e : (l.set i' x).getD i' E.d = x := by simp [List.getD, List.getElem?_set, hi]
    rw [e, h]
    have hb : Nat.beq i' i' = true := Nat.beq_refl i'
    rw [hb, Bool.true_and]
    have hl0 := hlen (l.getD i' E.d)
    generalize E.cs (l.getD i' E.d) = cs at *
    unfold setL
    cases hc : (Nat.ble j j' && Nat.blt j' (j + cl.length)) with
    | true =>
      rw [Bool.and_eq_true, Nat.blt_eq] at hc
      have h1 := Nat.le_of_ble_eq_true hc.1
      rw [cond_true, getD_append_r _ _ _ _ (by simp; omega), getD_append_l _ _ _ _ (by simp; omega)]
      have : j' - (cs.take j).length = j' - j := by simp; omega
      rw [this]
      exact CLe.refl _
    | false =>
      rw [cond_false]
      rw [Bool.and_eq_false_iff] at hc
      rcases Nat.lt_or_ge j' j with h1 | h1
      · rw [getD_append_l _ _ _ _ (by simp; omega)]
        have : (cs.take j).getD j' C.bot = cs.getD j' .bot := by simp [List.getD, List.getElem?_take, h1]
        rw [this]; exact CLe.refl _
      · have h2 : j + cl.length ≤ j' := by
          rcases hc with hc | hc
          · have := Nat.ble_eq_true_of_le h1; rw [this] at hc; cases hc
          · rcases Nat.lt_or_ge j' (j + cl.length) with h3 | h3
            · rw [← Nat.blt_eq] at h3; rw [h3] at hc; cases hc
            · exact h3
        rw [getD_append_r _ _ _ _ (by simp; omega), getD_append_r _ _ _ _ (by simp; omega)]
        have : (cs.drop (j + cl.length)).getD (j' - (cs.take j).length - cl.length) C.bot = cs.getD j' .bot := by
          simp only [List.getD, List.getElem?_drop, List.length_take]
          congr 2
          omega
        rw [this]; exact CLe.refl _
  · have hb : Nat.beq i' i = false := by
      cases hq : Nat.beq i' i with
      | false => rfl
      | true => exact absurd (Nat.eq_of_beq_eq_true hq) hii
    rw [hb, Bool.false_and, cond_false]
    have : (l.set i x).getD i' E.d = l.getD i' E.d := by simp [List.getD, List.getElem?_set_ne (Ne.symm hii)]
    rw [this]
    exact CLe.refl _

theorem El.tree_slice (E : El α) (xs : List α) {l h : Nat} (hh : h ≤ xs.length) : CLe (.tree E.w (h - l) fun i j => E.at xs (l + i) j) (E.tree ((xs.drop l).take (h - l))) := by
  refine CLe.tree (by simp; omega) fun i j hi _ => ?_
  unfold El.at
  have : ((xs.drop l).take (h - l)).getD i E.d = xs.getD (l + i) E.d := by
    simp [List.getD, List.getElem?_take, hi, List.getElem?_drop]
  rw [this]
  exact CLe.refl _

theorem El.tree_take (E : El α) (xs : List α) {h : Nat} (hh : h ≤ xs.length) : CLe (.tree E.w h (E.at xs)) (E.tree (xs.take h)) := by
  refine CLe.tree (by simp; omega) fun i j hi _ => ?_
  unfold El.at
  have : (xs.take h).getD i E.d = xs.getD i E.d := by simp [List.getD, List.getElem?_take, hi]
  rw [this]
  exact CLe.refl _

theorem El.tree_nil (E : El α) : CLe .nil (E.tree []) := by
  intro S β v hv
  exact ⟨none, 0, hv, Nat.le_refl _, Nat.zero_le _, .inl rfl⟩

/-- A slot, told in other words. -/
def St.setSlot (st : St) (t : Nat) (d : D) : St := ⟨(t, d) :: eraseT t st.tmps, st.objs, st.gd, st.h⟩

section
variable {P : Program} {n : Nat} {A T : Type} {go : T → St} {ab : A → Ex × St} {st : St} {m : Option (A ⊕ T)} {cs : List Code}

theorem setSlot_get (t : Nat) (d : D) (t' : Nat) : (st.setSlot t d).get t' = if t' = t then d else st.get t' := by
  unfold St.setSlot St.get
  simp only [lookupT]
  by_cases h : t' = t
  · subst h
    rw [Nat.beq_refl, cond_true, if_pos rfl]
  · have hb : Nat.beq t t' = false := by
      cases hq : Nat.beq t t' with
      | false => rfl
      | true => exact absurd (Nat.eq_of_beq_eq_true hq).symm h
    rw [hb, cond_false, if_neg h, lookup_erase h]

theorem setSlot_le (t : Nat) (d : D) (h : DLe (st.get t) d) (hg : st.gd.isEmpty = true) : StLe n st (st.setSlot t d) := by
  intro Γ S β a w hr
  have hgd : st.gd = [] := by simpa using hg
  have hall : ∀ t', St.gof (st.setSlot t d) t' = [] := by
    intro t'; unfold St.gof St.setSlot; rw [hgd]; rfl
  have hall' : ∀ t', st.gof t' = [] := by intro t'; unfold St.gof; rw [hgd]; rfl
  refine ⟨hr.core, fun t' _ => ?_, fun t' hn => ?_, hr.size, hr.defers, hr.hand⟩
  · have hx := hr.tm t' (by rw [hall' t']; intro q hq; cases hq)
    rw [setSlot_get]
    split
    · rename_i e; subst e; exact h _ _ _ hx
    · exact hx
  · rw [hall t'] at hn
    exact absurd (fun q hq => by cases hq) hn

theorem Ref.slot (t : Nat) (d : D) (h : DLe (st.get t) d) (hg : st.gd.isEmpty = true) (hr : Ref P n cs (st.setSlot t d) m go ab) : Ref P n cs st m go ab := Ref.le (setSlot_le t d h hg) hr

theorem RefR.slot (t : Nat) (d : D) {ops : Array Oper} {l : List Oper} (h : DLe (st.get t) d) (hg : st.gd.isEmpty = true) (hr : RefR P n ops l cs (st.setSlot t d) m go ab) : RefR P n ops l cs st m go ab :=
  RefR.le (setSlot_le t d h hg) hr

/-- Some operations, and then what is known of their tests. -/
theorem RefR.evH (k j k' : Nat) (keep om : List Nat) {st' : St} {ops : Array Oper} {l : List Oper} {vs : List Bool} (hk : k' = k + j)
    (he : run1 P n ops ((l.drop k).take j) st keep om = some (vs, st')) (h : (∀ b ∈ vs, b = true) → RefR P n ops (l.drop k') cs st' m go ab) : RefR P n ops (l.drop k) cs st (chk vs m) go ab := by
  intro Γ S β a w hr x hx
  obtain ⟨hvs, _⟩ := chk_some hx
  exact RefR.evC k j k' keep om hk he (h hvs) Γ S β a w hr x hx

end
end Go.Dl

namespace Go.Dl
set_option linter.unusedVariables false
set_option linter.unusedSimpArgs false
set_option linter.unusedSectionVars false
variable [WInv]

/-- Each memory of which the first state tells is one of which the second tells. -/
def Conv (n : Nat) (st st' : St) : Prop := ∀ Γ S β a w, RR Γ S β a w n st → ∃ S' β', RR Γ S' β' a w n st'

section
variable {P : Program} {n : Nat} {A T : Type} {go : T → St} {ab : A → Ex × St} {st st' st'' : St} {m : Option (A ⊕ T)} {cs : List Code}

theorem Conv.refl : Conv n st st := fun _ S β _ _ h => ⟨S, β, h⟩
theorem Conv.trans (h : Conv n st st') (k : Conv n st' st'') : Conv n st st'' := fun Γ S β a w hr => by
  obtain ⟨S', β', h'⟩ := h Γ S β a w hr
  exact k Γ S' β' a w h'
theorem Conv.le (h : StLe n st st') : Conv n st st' := fun Γ S β a w hr => ⟨S, β, h Γ S β a w hr⟩
theorem Conv.keep (l om : List Nat) (hk : st.keep l om = some st') : Conv n st st' := fun Γ S β a w hr => ⟨S, bren β om, keep_sound hr hk⟩
theorem Conv.freeze (o : Nat) (hf : st.freeze o = some st') : Conv n st st' := fun Γ S β a w hr => by
  obtain ⟨S', h, _⟩ := freeze_sound hr hf
  exact ⟨S', β, h⟩
theorem Conv.obj (o : Nat) (x : Obj) (h : OLe (st.objs.getD o .dead) x) (hx : Nat.blt o st.objs.length = true) : Conv n st (st.setObj o x) := Conv.le (setObj_le o x h hx)
theorem Conv.slot (t : Nat) (d : D) (h : DLe (st.get t) d) (hg : st.gd.isEmpty = true) : Conv n st (st.setSlot t d) := Conv.le (setSlot_le t d h hg)

theorem Ref.conv (hc : Conv n st st') (h : Ref P n cs st' m go ab) : Ref P n cs st m go ab := fun Γ S β a w hr x hx => by
  obtain ⟨S', β', h'⟩ := hc Γ S β a w hr
  exact h Γ S' β' a w h' x hx

theorem RefR.conv {ops : Array Oper} {l : List Oper} (hc : Conv n st st') (h : RefR P n ops l cs st' m go ab) : RefR P n ops l cs st m go ab := fun Γ S β a w hr x hx => by
  obtain ⟨S', β', h'⟩ := hc Γ S β a w hr
  exact h Γ S' β' a w h' x hx

theorem RefX.conv {ops : Array Oper} {W : Nat → Bool} {fuel : Nat} {listed : Array Bool} (hc : Conv n st st') (h : RefX P n ops W fuel listed cs st' m go ab) : RefX P n ops W fuel listed cs st m go ab := fun Γ S β a w hr x hx => by
  obtain ⟨S', β', h'⟩ := hc Γ S β a w hr
  exact h Γ S' β' a w h' x hx

/-- A row with no elements, and with no block. -/
theorem core_row0 {Γ : Ctx} {S : Mem} {β : Bmap} {w : World} {xs : List Obj} (h : Core Γ S β w xs) (e : TypeId) (wd : Nat) (get : Nat → Nat → C) :
    Core Γ S (bset β xs.length none) w (xs ++ [.row e wd 0 get]) ∧ BLe β (bset β xs.length none) :=
  h.push default (.row e wd 0 get) none (.inl ⟨rfl, rfl⟩) (.inl ⟨by unfold bset; simp, rfl⟩)

/-- A slot that holds a nil slice, as one that holds a slice of the call's own. -/
def St.adopt (st : St) (t : Nat) (x : Obj) : St := ⟨(t, .c (.own st.objs.length 0)) :: eraseT t st.tmps, st.objs ++ [x], st.gd, st.h⟩

def isNilD : D → Bool
  | .c .nil => true
  | _ => false

theorem Conv.adopt (t : Nat) (e : TypeId) (wd : Nat) (get : Nat → Nat → C) (hs : isNilD (st.get t) = true) (hg : st.gd.isEmpty = true) (hh : Nat.ble st.h st.objs.length = true) : Conv n st (st.adopt t (.row e wd 0 get)) := by
  intro Γ S β a w hr
  have hnil : st.get t = .c .nil := by
    generalize st.get t = d at hs
    cases d with
    | c x => cases x <;> first | rfl | cases hs
    | _ => cases hs
  have hgd : st.gd = [] := by simpa using hg
  obtain ⟨hc, hb⟩ := core_row0 hr.core e wd get
  have hle : StLe n ⟨st.tmps, st.objs ++ [.row e wd 0 get], st.gd, st.h⟩ ⟨st.tmps, st.objs ++ [.row e wd 0 get], st.gd, st.h⟩ := fun _ _ _ _ _ h => h
  have gof0 : ∀ (l : List (Nat × D)) (xs : List Obj) (t' : Nat), St.gof ⟨l, xs, st.gd, st.h⟩ t' = [] := by
    intro l xs t'; unfold St.gof; rw [hgd]; rfl
  refine ⟨S, bset β st.objs.length none, hc, fun t' _ => ?_, fun t' hn => ?_, hr.size, hr.defers, fun o k ho hB => hb _ _ (hr.hand o k ho hB)⟩
  · have hx := hr.tm t' (by
      have : st.gof t' = [] := gof0 st.tmps st.objs t'
      rw [this]; intro q hq; cases hq)
    have hget : (st.adopt t (.row e wd 0 get)).get t' = if t' = t then .c (.own st.objs.length 0) else st.get t' := setSlot_get (st := st) t (.c (.own st.objs.length 0)) t'
    rw [hget]
    split
    · rename_i e'
      subst e'
      rw [hnil] at hx
      have hv : a.tmps.getD t' undef = .slice none 0 0 := hx
      rw [hv]
      show CRel S (bset β st.objs.length none) (.own st.objs.length 0) _
      have : bset β st.objs.length none st.objs.length = some none := by unfold bset; simp
      simp only [CRel, this]
      exact ⟨trivial, trivial⟩
    · exact DRel.up (MLe.refl _) hb hx
  · have : St.gof (st.adopt t (.row e wd 0 get)) t' = [] := gof0 _ _ t'
    rw [this] at hn
    exact absurd (fun q hq => by cases hq) hn

theorem LRel.set {S : Mem} {β : Bmap} {l : List C} {us : List Value} {j : Nat} {c : C} (h : LRel S β l us) (hc : ∀ u, us[j]? = some u → CRel S β c u) : LRel S β (l.set j c) us := by
  refine LRel.of_get (by rw [List.length_set]; exact h.length) fun i x hx => ?_
  by_cases hi : i = j
  · subst hi
    have hlt : i < l.length := by
      rcases Nat.lt_or_ge i l.length with h1 | h1
      · exact h1
      · rw [List.getElem?_eq_none (by simpa using h1)] at hx; cases hx
    rw [List.getElem?_set_self hlt] at hx
    simp only [Option.some.injEq] at hx
    subst hx
    obtain ⟨u, hu, _⟩ := h.get i _ (List.getElem?_eq_getElem hlt)
    exact ⟨u, hu, hc u hu⟩
  · rw [List.getElem?_set_ne (Ne.symm hi)] at hx
    exact h.get i x hx

/-- The same of a cell of an object. -/
def St.adoptCell (st : St) (o j : Nat) (x : Obj) : Option St :=
  match st.objs[o]? with
  | some (.cells l) => (match l[j]? with
    | some .nil => some ⟨st.tmps, st.objs.set o (.cells (l.set j (.own st.objs.length 0))) ++ [x], st.gd, st.h⟩
    | _ => none)
  | _ => none

theorem Conv.adoptCell (o j : Nat) (e : TypeId) (wd : Nat) (get : Nat → Nat → C) (hs : st.adoptCell o j (.row e wd 0 get) = some st') : Conv n st st' := by
  intro Γ S β a w hr
  unfold St.adoptCell at hs
  split at hs
  · rename_i l ho
    split at hs
    · rename_i hj
      simp only [Option.some.injEq] at hs
      subst hs
      obtain ⟨hc, hb⟩ := core_row0 hr.core e wd get
      have hlt : o < st.objs.length := by
        rcases Nat.lt_or_ge o st.objs.length with h1 | h1
        · exact h1
        · rw [List.getElem?_eq_none h1] at ho; cases ho
      have hn : bset β st.objs.length none st.objs.length = some none := by unfold bset; simp
      have h1 : RR Γ S (bset β st.objs.length none) a w n ⟨st.tmps, st.objs ++ [.row e wd 0 get], st.gd, st.h⟩ :=
        ⟨hc, fun t ht => DRel.up (MLe.refl _) hb (hr.tm t ht), fun t ht => hr.un t ht, hr.size, hr.defers, fun o k ho hB => hb _ _ (hr.hand o k ho hB)⟩
      refine ⟨S, bset β st.objs.length none, ?_⟩
      have hset : st.objs.set o (.cells (l.set j (.own st.objs.length 0))) ++ [Obj.row e wd 0 get] = (st.objs ++ [Obj.row e wd 0 get]).set o (.cells (l.set j (.own st.objs.length 0))) := by
        rw [List.set_append_left _ _ hlt]
      rw [hset]
      have h0 : (st.objs ++ [Obj.row e wd 0 get])[o]? = some (.cells l) := by rw [List.getElem?_append_left hlt]; exact ho
      have get' : ∀ (i : Nat) (y : Obj), ((st.objs ++ [Obj.row e wd 0 get]).set o (.cells (l.set j (.own st.objs.length 0))))[i]? = some y →
          ∃ y' : Obj, (st.objs ++ [Obj.row e wd 0 get])[i]? = some y' ∧ y.live = y'.live ∧ (ORel S (bset β st.objs.length none) w i y' → ORel S (bset β st.objs.length none) w i y) := by
        intro i y hy
        by_cases hi : i = o
        · subst hi
          rw [List.getElem?_set_self (by simp; omega)] at hy
          simp only [Option.some.injEq] at hy
          subst hy
          refine ⟨_, h0, rfl, ?_⟩
          rintro ⟨k, q1, q2, q3, q4, us, q5, q6, q7⟩
          refine ⟨k, q1, by rw [List.length_set]; exact q2, q3, q4, us, q5, q6.set fun u hu => ?_, q7⟩
          obtain ⟨u', hu', hr'⟩ := q6.get j _ hj
          rw [hu] at hu'
          simp only [Option.some.injEq] at hu'
          subst hu'
          have hv : u = .slice none 0 0 := hr'
          subst hv
          simp only [CRel, hn]
          exact ⟨trivial, trivial⟩
        · rw [List.getElem?_set_ne (Ne.symm hi)] at hy
          exact ⟨y, hy, rfl, id⟩
      refine ⟨⟨h1.core.frame, h1.core.holds, ?_, ?_, ?_, ?_, ?_⟩, h1.tm, h1.un, h1.size, h1.defers, h1.hand⟩
      · intro i y hy
        obtain ⟨y', g1, _, g3⟩ := get' i y hy
        exact g3 (h1.core.objs i y' g1)
      · intro i hi
        exact h1.core.out i (by simpa using hi)
      · intro i i' k k' y y' hy hy' hl hl' hk hk' hne
        obtain ⟨z, g1, g2, _⟩ := get' i y hy
        obtain ⟨z', g1', g2', _⟩ := get' i' y' hy'
        exact h1.core.inj i i' k k' z z' g1 g1' (g2 ▸ hl) (g2' ▸ hl') hk hk' hne
      · intro i k y hy hl hk
        obtain ⟨z, g1, g2, _⟩ := get' i y hy
        exact h1.core.sep i k z g1 (g2 ▸ hl) hk
      · intro i k y hy hl hk
        obtain ⟨z, g1, g2, _⟩ := get' i y hy
        exact h1.core.mine i k z g1 (g2 ▸ hl) hk
    · cases hs
  · cases hs

end
end Go.Dl

namespace Go.Dl
set_option linter.unusedVariables false
set_option linter.unusedSimpArgs false
set_option linter.unusedSectionVars false
variable [WInv]

abbrev Bytes := List UInt8

variable {α : Type}

/-- A pointer into an element that nobody writes. -/
def El.ep (E : El α) (x : α) (j : Nat) : C := .eptr E.w (fun j => (E.cs x).getD j .bot) j

section
variable {P : Program} {n : Nat} {A T : Type} {go : T → St} {ab : A → Ex × St} {st st' : St} {m : Option (A ⊕ T)} {cs : List Code}

/-- Some operations with no tests. -/
theorem RefR.ev0 (k j k' : Nat) (keep om : List Nat) {ops : Array Oper} {l : List Oper} (hk : k' = k + j)
    (he : run1 P n ops ((l.drop k).take j) st keep om = some ([], st')) (h : RefR P n ops (l.drop k') cs st' m go ab) : RefR P n ops (l.drop k) cs st m go ab := by
  intro Γ S β a w hr x hx
  exact RefR.evC (vs := []) k j k' keep om hk he h Γ S β a w hr x hx

theorem DLe.c {c c' : C} (h : CLe c c') : DLe (.c c) (.c c') := fun S β v hv => h S β v hv

theorem LRel.le {S : Mem} {β : Bmap} : ∀ {l l' : List C} {us : List Value}, All2 CLe l l' → LRel S β l us → LRel S β l' us
  | _, _, _, .nil, h => h
  | _, _, _, .cons hc hr, ⟨v, r, h1, h2, h3⟩ => ⟨v, r, h1, hc _ _ _ h2, LRel.le hr h3⟩

theorem DLe.agg {l l' : List C} (h : All2 CLe l l') : DLe (.agg l) (.agg l') := fun _ _ _ ⟨vs, h1, h2⟩ => ⟨vs, h1, LRel.le h h2⟩

theorem CLe.own {o k k' : Nat} (h : k = k') : CLe (.own o k) (.own o k') := h ▸ CLe.refl _

end
end Go.Dl
