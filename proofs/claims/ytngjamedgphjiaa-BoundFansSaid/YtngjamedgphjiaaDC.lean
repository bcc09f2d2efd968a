/- Bytes and texts; operations by rules of their own; functions that are known by the kit's contracts. Regions whose order is open: what looks at slots alone may be taken first, whatever the others write. More rules that a program prints: open regions that look at memory; handed objects that move; pointers to oneself. An error as data: a code and a place. strings.Builder: a struct that names itself. A function that is known by a contract and hands back a slice of its own making. Functions that are known by a contract; a function at the start of a call. A test that is known to hold; an operation whose guard holds. Values that are in themselves: their cells as they lie in one, and as elements. Regions whose order is open: an operation that makes a block, alone in its turn. A place that was tested. The rules in short: what is decided by computing stands behind. Regions whose order is open: one of several that are ready, each in its turn. Rows of bytes that come of a text: the conversion, and bytes put behind. A literal row under a guard; a function's results without what it leaves in memory. Regions whose order is open: calls that write what they are handed; what is behind the region, once for all orders. Steps whose state is not told. Regions whose order is open: what only looks and may come at any time is told once, as if it came first. Regions of open order: what is told of tests; a guard that is said to hold. Regions of open order: a guard that holds, what hangs on it stands under none. More rules in short. Rules of regions in short. Rules for maps, for rows that are cut, cleared, or come back behind a call. slices.Sort of numbers: the kit's contract in D's words. No conditions. -/
import Derived.Test.YtngjamedgphjiaaDB
import Derived.Laws.BytesString
import Derived.KernelRfl
import Derived.Laws.IdiomStrings
import Derived.Laws.CopyRow
import Derived.Sort.Grow
set_option linter.unusedVariables false
set_option linter.unusedSimpArgs false
set_option linter.unusedSectionVars false
set_option linter.constructorNameAsVariable false
namespace Go.Dl
variable [WInv]
structure IsB (e : Int) : Prop where
  lo : 0 ≤ e
  hi : e < 256
theorem IsB.wrap (x : Int) : IsB (IntKind.u8.wrap x) := by
  constructor
  · show 0 ≤ x % 256; omega
  · show x % 256 < 256; omega
theorem IsB.tmod {a b : Int} (h : IsB a) : IsB (a.tmod b) := by
  obtain ⟨h1, h2⟩ := h
  refine ⟨Int.tmod_nonneg _ h1, ?_⟩
  have : a.tmod b ≤ a := by
    obtain ⟨n, rfl⟩ := Int.eq_ofNat_of_zero_le h1
    rcases Int.natAbs_eq b with hb | hb
    · rw [hb, ← Int.ofNat_tmod]; exact_mod_cast Nat.mod_le _ _
    · rw [hb, Int.tmod_neg, ← Int.ofNat_tmod]; exact_mod_cast Nat.mod_le _ _
  omega
theorem IsB.const (n : Nat) (h : Nat.blt n 256 = true) : IsB (Int.ofNat n) := ⟨Int.natCast_nonneg _, by rw [Nat.blt_eq] at h; show (n : Int) < 256; omega⟩
def bAt (l : Bytes) (i j : Nat) : C := ([.val (.int .u8 (Int.ofNat (l.getD i 0).toNat))] : List C).getD j .bot
section
variable {P : Program} {n : Nat} {A T R : Type} {go : T → St} {ab : A → Ex × St} {st st' : St} {m : Option (A ⊕ T)} {cs : List Code}
def isBytes (xs : List Obj) (d : D) (l : Bytes) : Prop :=
  (∃ o e, d = .c (.own o l.length) ∧ xs[o]? = some (.row e 1 l.length (bAt l))) ∨ d = .c (.tree 1 l.length (bAt l)) ∨ (d = .c .nil ∧ l = [])
theorem isBytes.own {xs : List Obj} {d : D} {l : Bytes} (o : Nat) (e : TypeId) (h1 : d = .c (.own o l.length)) (h2 : xs[o]? = some (.row e 1 l.length (bAt l))) : isBytes xs d l := .inl ⟨o, e, h1, h2⟩
theorem isBytes.tree {xs : List Obj} {d : D} {l : Bytes} (h : d = .c (.tree 1 l.length (bAt l))) : isBytes xs d l := .inr (.inl h)
theorem isBytes.nil {xs : List Obj} {d : D} (h : d = .c .nil) : isBytes xs d [] := .inr (.inr ⟨h, rfl⟩)
end
end Go.Dl

namespace Go.Dl
variable [WInv]
def firstsP (ops : Array Oper) : Array Bool → List Nat → Option (Array Bool)
  | listed, [] => some listed
  | listed, i :: r =>
    bif (Region.ready .any ops listed).contains i && (Region.free .any ops listed i && (ops[i]?).elim false fun o => pureOp o.op && quietOp o.op) then firstsP ops (listed.setIfInBounds i true) r else none
def RefY (P : Program) (n : Nat) (ops : Array Oper) {A T : Type} (fuel : Nat) (listed : Array Bool) (cs : List Code) (st : St) (m : Option (A ⊕ T)) (go : T → St) (ab : A → Ex × St) : Prop :=
  ∀ Γ S β a w, RR Γ S β a w n st → ∀ x, m = some x → wpAny P .any ops (Exit.then (wpL P cs (Post Γ n go ab x)) (Post Γ n go ab x)) fuel listed a w
section
variable {P : Program} {n : Nat} {ops : Array Oper}
theorem wpAny_evs {Q : Exit → Act → World → Prop} {Γ : Ctx} {S : Mem} {β : Bmap} {w : World} {fuel : Nat} {listed' : Array Bool} {st2 : St} (hQ : ∀ c a w, ¬ Q (.panic c) a w) (hsel : Region.noSelect ops = true) :
    ∀ {is : List Nat} {listed : Array Bool} {st : St} {vs : List Bool} {a : Act},
    RR Γ S β a w n st → firstsP ops listed is = some listed' → evOps P n ops (opsOf ops is) st = some (vs, st2) → (∀ b ∈ vs, b = true) →
    (∀ a', RR Γ S β a' w n st2 → wpAny P .any ops Q fuel listed' a' w) → wpAny P .any ops Q (is.length + fuel) listed a w
  | [], listed, st, vs, a, hr, hf, he, hvs, hk => by
    simp only [firstsP, Option.some.injEq] at hf
    subst hf
    simp only [opsOf, List.filterMap_nil, evOps, Option.some.injEq, Prod.mk.injEq] at he
    obtain ⟨_, rfl⟩ := he
    rw [List.length_nil, Nat.zero_add]
    exact hk a hr
  | i :: r, listed, st, vs, a, hr, hf, he, hvs, hk => by
    unfold firstsP at hf
    obtain ⟨hc, hf⟩ := some_of_cond hf
    simp only [Bool.and_eq_true] at hc
    obtain ⟨hrd, hfree, hq⟩ := hc
    cases ho : ops[i]? with
    | none => rw [ho] at hq; cases hq
    | some o =>
      rw [ho] at hq
      simp only [Option.elim, Bool.and_eq_true] at hq
      obtain ⟨hp, hq⟩ := hq
      have hops : opsOf ops (i :: r) = o :: opsOf ops r := by simp [opsOf, ho]
      rw [hops] at he
      unfold evOps at he
      split at he
      · rename_i v st1 h1
        split at he
        · rename_i vs2 st3 h2
          simp only [Option.some.injEq, Prod.mk.injEq] at he
          obtain ⟨rfl, rfl⟩ := he
          have hv1 : ∀ b ∈ v, b = true := fun b hb => hvs b (List.mem_append_left _ hb)
          have hv2 : ∀ b ∈ vs2, b = true := fun b hb => hvs b (List.mem_append_right _ hb)
          rw [List.length_cons, show r.length + 1 + fuel = (r.length + fuel) + 1 by omega]
          rcases evStep_cases hr h1 hv1 with ⟨hw, u, w', S', β', _, hrr, hqq⟩ | ⟨hw, hrr⟩
          · obtain ⟨rfl, rfl, rfl, hrun⟩ := hqq hq
            exact wpAny_take ho hsel hfree hrd (fun c a w h => absurd h (hQ c _ w)) (.inl ⟨hw, fun w2 => hrun w2 (.inl hp)⟩) (wpAny_evs hQ hsel hrr hf h2 hv2 hk)
          · exact wpAny_take ho hsel hfree hrd (fun c a w h => absurd h (hQ c _ w)) (.inr ⟨hw, rfl⟩) (wpAny_evs hQ hsel hrr hf h2 hv2 hk)
        · cases he
      · cases he
theorem wpAny_of_seq {Q' : Exit → Act → World → Prop} : ∀ (js : List Nat) (listed : Array Bool) (a : Act) (w : World), seqL .any ops listed js = true → (js.all fun j => (ops[j]?).isSome) = true →
    wpList P ops Q' (opsOf ops js) a w → wpAny P .any ops Q' js.length listed a w
  | [], listed, a, w, hs, _, h => ⟨by simpa [seqL] using hs, h⟩
  | j :: r, listed, a, w, hs, hW, h => by
    simp only [seqL, Bool.and_eq_true, decide_eq_true_eq] at hs
    simp only [List.all_cons, Bool.and_eq_true] at hW
    refine ⟨fun h1 => (by rw [hs.1] at h1; cases h1), fun i hi => ?_⟩
    rw [hs.1] at hi
    have hik : i = j := by simpa using hi
    subst hik
    obtain ⟨o, ho⟩ := Option.isSome_iff_exists.1 hW.1
    have hops : opsOf ops (i :: r) = o :: opsOf ops r := by simp [opsOf, ho]
    rw [hops] at h
    have hw : wpOp P ops Q' i (wpList P ops Q' (opsOf ops r)) a w := by unfold wpOp; simp only [ho]; exact h
    exact wpOp_mono (fun a' w' h' => wpAny_of_seq r _ a' w' hs.2 (by rw [List.all_eq_true]; simpa using hW.2) h') hw
variable {A T : Type} {go : T → St} {ab : A → Ex × St} {st : St} {m : Option (A ⊕ T)} {cs : List Code} {c : Code}
theorem Post.no_panic {Γ : Ctx} {x : A ⊕ T} {K : Act → World → Prop} : ∀ c a w, ¬ Exit.then K (Post Γ n go ab x) (.panic c) a w := by
  intro c a w h
  have h' : Post Γ n go ab x (.panic c) a w := h
  cases x with
  | inl t =>
    have := h'.1
    cases hx : (ab t).1 <;> rw [hx] at this <;> cases this
  | inr t => cases h'.1
theorem Ref.drawnY (id : Nat) (h : c = .region id (rg c) true) (hm : P.follows .mixedOrders = true)
    (hr : RefY P n (rg c) (rg c).size (Array.replicate (rg c).size false) cs st m go ab) : Ref P n (c :: cs) st m go ab := by
  rw [h]
  intro Γ S β a w hrr x hx
  refine wp_region_any hm (hr Γ S β a _ ?_ x hx)
  exact ⟨hrr.core.drew, hrr.tm, hrr.un, hrr.size, hrr.defers, hrr.hand⟩
theorem RefY.ev (is keep om : List Nat) {fuel fuel' : Nat} {listed listed' : Array Bool} {vs : List Bool} {st' : St} (hfu : fuel = is.length + fuel')
    (hf : (bif Region.noSelect ops then firstsP ops listed is else none) = some listed') (he : run1 P n ops (opsOf ops is) st keep om = some (vs, st'))
    (h : RefY P n ops fuel' listed' cs st' m go ab) : RefY P n ops fuel listed cs st (chk vs m) go ab := by
  intro Γ S β a w hr x hx
  obtain ⟨hvs, hm⟩ := chk_some hx
  obtain ⟨hsel, hf⟩ := some_of_cond hf
  subst hfu
  unfold run1 at he
  split at he
  · rename_i vs2 st2 h2
    cases hk : st2.keep keep om with
    | none => rw [hk] at he; cases he
    | some st3 =>
      rw [hk] at he
      simp only [Option.map_some, Option.some.injEq, Prod.mk.injEq] at he
      obtain ⟨rfl, rfl⟩ := he
      exact wpAny_evs Post.no_panic hsel hr hf h2 hvs fun a' h' => h Γ S (bren β om) a' w (keep_sound h' hk) x hm
  · cases he
theorem RefY.evC (is keep om : List Nat) {fuel fuel' : Nat} {listed : Array Bool} {vs : List Bool} {st' : St} (hfu : fuel = is.length + fuel')
    (hf : (Region.noSelect ops && (firstsP ops listed is).isSome) = true) (he : run1 P n ops (opsOf ops is) st keep om = some (vs, st'))
    (h : RefY P n ops fuel' ((firstsP ops listed is).getD listed) cs st' m go ab) : RefY P n ops fuel listed cs st (chk vs m) go ab := by
  rw [Bool.and_eq_true] at hf
  obtain ⟨l', hl⟩ := Option.isSome_iff_exists.1 hf.2
  rw [hl] at h
  exact RefY.ev is keep om hfu (by rw [hf.1, cond_true]; exact hl) he h
theorem RefY.evC0 (is keep om : List Nat) {fuel fuel' : Nat} {listed : Array Bool} {st' : St} (hfu : fuel = is.length + fuel')
    (hf : (Region.noSelect ops && (firstsP ops listed is).isSome) = true) (he : run1 P n ops (opsOf ops is) st keep om = some ([], st'))
    (h : RefY P n ops fuel' ((firstsP ops listed is).getD listed) cs st' m go ab) : RefY P n ops fuel listed cs st m go ab :=
  fun Γ S β a w hr x hx => RefY.evC (vs := []) is keep om hfu hf he h Γ S β a w hr x hx
theorem RefY.tail (js : List Nat) {fuel : Nat} {listed : Array Bool} (hfu : fuel = js.length) (hs : (seqL .any ops listed js && js.all fun j => (ops[j]?).isSome) = true)
    (h : RefR P n ops ((opsOf ops js).drop 0) cs st m go ab) : RefY P n ops fuel listed cs st m go ab := by
  intro Γ S β a w hr x hx
  rw [Bool.and_eq_true] at hs
  subst hfu
  exact wpAny_of_seq js listed a w hs.1 hs.2 (h Γ S β a w hr x hx)
theorem RefY.toX (W : List Nat) {fuel : Nat} {listed : Array Bool} (h : RefX P n ops (inW W) fuel listed cs st m go ab) : RefY P n ops fuel listed cs st m go ab :=
  fun Γ S β a w hr x hx => wpAny_of_x _ _ _ _ (h Γ S β a w hr x hx)
theorem RefY.done {listed : Array Bool} (hs : (Region.ready .any ops listed).isEmpty = true) (h : Ref P n cs st m go ab) : RefY P n ops 0 listed cs st m go ab :=
  fun Γ S β a w hr x hx => ⟨by simpa using hs, h Γ S β a w hr x hx⟩
def letV {X Y : Type} (v : X) (f : X → Y) : Y := f v
theorem RefR.letC {X : Type} {v : X} {l : List Oper} {stf : X → St} {mf : X → Option (A ⊕ T)} (h0 : stf v = st) (h : ∀ x, RefR P n ops l cs (stf x) (mf x) go ab) : RefR P n ops l cs st (letV v mf) go ab := h0 ▸ h v
theorem bndOk_le {n : Nat} {l h : Int} (hb : bndOk n l h = true) : h.toNat ≤ n := by
  simp only [bndOk, Bool.and_eq_true, decide_eq_true_eq] at hb
  omega
end
end Go.Dl

namespace Go.Dl
variable [WInv]
section
variable {P : Program} {n : Nat} {ops : Array Oper} {W : Nat → Bool} {A T R : Type} {go : T → St} {ab : A → Ex × St} {st st' : St} {m : Option (A ⊕ T)} {cs : List Code} {c : Code}
theorem RefX.evC (is keep om : List Nat) {fuel fuel' : Nat} {listed : Array Bool} {vs : List Bool} {st' : St} (hfu : fuel = is.length + fuel')
    (hf : (Region.noSelect ops && (firsts .any ops W listed is).isSome) = true) (he : run1 P n ops (opsOf ops is) st keep om = some (vs, st'))
    (h : RefX P n ops W fuel' ((firsts .any ops W listed is).getD listed) cs st' m go ab) : RefX P n ops W fuel listed cs st (chk vs m) go ab := by
  rw [Bool.and_eq_true] at hf
  obtain ⟨l', hl⟩ := Option.isSome_iff_exists.1 hf.2
  rw [hl] at h
  exact RefX.ev is keep om hfu (by rw [hf.1, cond_true]; exact hl) he h
theorem RefX.evC0 (is keep om : List Nat) {fuel fuel' : Nat} {listed : Array Bool} {st' : St} (hfu : fuel = is.length + fuel')
    (hf : (Region.noSelect ops && (firsts .any ops W listed is).isSome) = true) (he : run1 P n ops (opsOf ops is) st keep om = some ([], st'))
    (h : RefX P n ops W fuel' ((firsts .any ops W listed is).getD listed) cs st' m go ab) : RefX P n ops W fuel listed cs st m go ab :=
  fun Γ S β a w hr x hx => RefX.evC (vs := []) is keep om hfu hf he h Γ S β a w hr x hx
theorem RefX.letC {X : Type} {v : X} {fuel : Nat} {listed : Array Bool} {stf : X → St} {mf : X → Option (A ⊕ T)} (h0 : stf v = st) (h : ∀ x, RefX P n ops W fuel listed cs (stf x) (mf x) go ab) : RefX P n ops W fuel listed cs st (letV v mf) go ab := h0 ▸ h v
def moveC (o o' : Nat) : C → C
  | .own q n => bif Nat.beq q o then .own o' n else .own q n
  | c => c
def St.move (st : St) (o : Nat) : Option St :=
  match st.objs[o]? with
  | some (.row e w k get) => some ⟨st.tmps.map fun p => (p.1, p.2.sub (moveC o st.objs.length)), (st.objs.set o .dead).map (Obj.sub (moveC o st.objs.length)) ++ [.row e w k get], st.gd, st.h⟩
  | _ => none
theorem C.move_rel {S : Mem} {β β' : Bmap} {o o' : Nat} (hle : BLe β β') (ho : β' o' = β o) : ∀ {c : C} {v : Value}, CRel S β c v → CRel S β' (c.sub (moveC o o')) v := by
  intro c
  induction c with
  | own q k =>
    intro v hv
    simp only [C.sub, moveC]
    cases hb : Nat.beq q o with
    | true =>
      have := Nat.eq_of_beq_eq_true hb
      subst this
      rw [cond_true]
      simp only [CRel, ho] at hv ⊢
      exact hv
    | false => rw [cond_false]; exact CRel.grow _ hle _ hv
  | ptr q i j => intro v hv; exact CRel.grow _ hle _ hv
  | self t b q => intro v hv; exact CRel.grow (.self t b q) hle _ hv
  | map q => intro v hv; exact CRel.grow (.map q) hle _ hv
  | tail q lo k => intro v hv; exact CRel.grow (.tail q lo k) hle _ hv
  | opt b c ih =>
    intro v hv
    simp only [C.sub, CRel] at hv ⊢
    split at hv
    · rename_i h; rw [if_pos h]; exact ih hv
    · rename_i h; rw [if_neg h]; exact hv
  | iface b t c ih =>
    intro v hv
    simp only [C.sub, CRel] at hv ⊢
    split at hv
    · rename_i h; rw [if_pos h]; obtain ⟨u, hu, hr⟩ := hv; exact ⟨u, hu, ih hr⟩
    · rename_i h; rw [if_neg h]; exact hv
  | func fn k cap ih =>
    rintro v ⟨vs, h1, h2, h3⟩
    refine ⟨vs, h1, h2, fun i hi => ?_⟩
    have : (((List.range k).map fun i => (cap i).sub (moveC o o')).getD i .bot) = (cap i).sub (moveC o o') := by
      simp [List.getD, hi]
    show CRel S β' (((List.range k).map fun i => (cap i).sub (moveC o o')).getD i .bot) _
    rw [this]
    exact ih i (h3 i hi)
  | cond b c ih =>
    intro v hv hb
    exact ih (hv hb)
  | _ => intro v hv; exact hv
theorem D1.move_rel {S : Mem} {β β' : Bmap} {o o' : Nat} (hle : BLe β β') (ho : β' o' = β o) {d : D1} {v : Value} (h : D1Rel S β d v) : D1Rel S β' (d.sub (moveC o o')) v := by
  cases d with
  | c x => exact C.move_rel hle ho h
  | agg l => obtain ⟨vs, h1, h2⟩ := h; exact ⟨vs, h1, h2.map _ fun _ _ h => C.move_rel hle ho h⟩
theorem D.move_rel {S : Mem} {β β' : Bmap} {o o' : Nat} (hle : BLe β β') (ho : β' o' = β o) {d : D} {v : Value} (h : DRel S β d v) : DRel S β' (d.sub (moveC o o')) v := by
  cases d with
  | c x => exact C.move_rel hle ho h
  | agg l => obtain ⟨vs, h1, h2⟩ := h; exact ⟨vs, h1, h2.map _ fun _ _ h => C.move_rel hle ho h⟩
  | tup l => obtain ⟨vs, h1, h2⟩ := h; exact ⟨vs, h1, h2.map _ fun _ _ h => D1.move_rel hle ho h⟩
theorem lookup_sub (f : C → C) (t : Nat) : ∀ (l : List (Nat × D)), lookupT (D.c .bot) (l.map fun p => (p.1, p.2.sub f)) t = (lookupT (D.c .bot) l t).sub f
  | [] => rfl
  | (i, d) :: r => by
    rw [List.map_cons]
    simp only [lookupT]
    cases hb : Nat.beq i t with
    | true => rfl
    | false => rw [cond_false, cond_false]; exact lookup_sub f t r
theorem sub_bool {d : D} {f : C → C} {b : Bool} (hf : ∀ q n, f (.own q n) ≠ .val (.bool b)) (hp : ∀ q i j, f (.ptr q i j) ≠ .val (.bool b)) : d.sub f = .c (.val (.bool b)) ↔ d = .c (.val (.bool b)) := by
  constructor
  · intro h
    cases d with
    | c x =>
      simp only [D.sub, D.c.injEq] at h
      cases x with
      | val u => simp only [C.sub] at h; rw [h]
      | own o m => simp only [C.sub] at h; exact absurd h (hf _ _)
      | ptr o i j => simp only [C.sub] at h; exact absurd h (hp _ _ _)
      | _ => simp only [C.sub] at h; cases h
    | agg l => cases h
    | tup l => cases h
  · rintro rfl; rfl
theorem Conv.move (o : Nat) (hm : st.move o = some st') (hh : Nat.ble st.h st.objs.length = true) : Conv n st st' := by
  have hh := Nat.le_of_ble_eq_true hh
  intro Γ S β a w hr
  unfold St.move at hm
  split at hm
  · rename_i e wd k get ho
    simp only [Option.some.injEq] at hm
    subst hm
    have hlt : o < st.objs.length := by
      rcases Nat.lt_or_ge o st.objs.length with h1 | h1
      · exact h1
      · rw [List.getElem?_eq_none h1] at ho; cases ho
    have hrow := hr.core.objs o _ ho
    obtain ⟨x, hx⟩ : ∃ x, β o = some x := by
      rcases hrow with ⟨h1, _⟩ | ⟨k, h1, _⟩
      · exact ⟨_, h1⟩
      · exact ⟨_, h1⟩
    have hle : BLe β (bset β st.objs.length x) := BLe.bset (hr.core.out _ (Nat.le_refl _))
    have hnew : bset β st.objs.length x st.objs.length = β o := by unfold bset; rw [if_pos rfl, hx]
    have hold : ∀ q, q < st.objs.length → bset β st.objs.length x q = β q := fun q hq => by unfold bset; rw [if_neg (by omega)]
    have get' : ∀ (q : Nat) (y : Obj), ((st.objs.set o .dead).map (Obj.sub (moveC o st.objs.length)) ++ [Obj.row e wd k get])[q]? = some y → y.live = true →
        ∃ q0 y0, st.objs[q0]? = some y0 ∧ y0.live = true ∧ bset β st.objs.length x q = β q0 ∧ (q = st.objs.length ∧ q0 = o ∧ y = .row e wd k get ∨ q = q0 ∧ q ≠ o ∧ y = y0.sub (moveC o st.objs.length)) := by
      intro q y hy hl
      rcases getElem?_concat _ _ _ _ hy with hy | ⟨h1, rfl⟩
      · rw [List.getElem?_map] at hy
        by_cases hq : q = o
        · subst hq
          rw [List.getElem?_set_self hlt] at hy
          simp only [Option.map_some, Option.some.injEq] at hy
          subst hy
          cases hl
        · rw [List.getElem?_set_ne (Ne.symm hq)] at hy
          cases hz : st.objs[q]? with
          | none => rw [hz] at hy; cases hy
          | some z =>
            rw [hz] at hy
            simp only [Option.map_some, Option.some.injEq] at hy
            subst hy
            have hql : q < st.objs.length := by
              rcases Nat.lt_or_ge q st.objs.length with h1 | h1
              · exact h1
              · rw [List.getElem?_eq_none h1] at hz; cases hz
            refine ⟨q, z, hz, ?_, hold q hql, .inr ⟨rfl, hq, rfl⟩⟩
            cases z <;> first | rfl | exact hl
      · simp only [List.length_map, List.length_set] at h1
        subst h1
        exact ⟨o, _, ho, rfl, hnew, .inl ⟨rfl, rfl, rfl⟩⟩
    have hgd : ∀ t, St.gof ⟨st.tmps.map fun p => (p.1, p.2.sub (moveC o st.objs.length)), (st.objs.set o .dead).map (Obj.sub (moveC o st.objs.length)) ++ [.row e wd k get], st.gd, st.h⟩ t = st.gof t := fun t => rfl
    have hget : ∀ t, St.get ⟨st.tmps.map fun p => (p.1, p.2.sub (moveC o st.objs.length)), (st.objs.set o .dead).map (Obj.sub (moveC o st.objs.length)) ++ [.row e wd k get], st.gd, st.h⟩ t = (st.get t).sub (moveC o st.objs.length) := fun t => lookup_sub _ t _
    have hholds : ∀ g, St.holds ⟨st.tmps.map fun p => (p.1, p.2.sub (moveC o st.objs.length)), (st.objs.set o .dead).map (Obj.sub (moveC o st.objs.length)) ++ [.row e wd k get], st.gd, st.h⟩ g ↔ st.holds g := by
      intro g
      unfold St.holds
      constructor
      · intro h q hq
        have := h q hq
        rw [hget q.1] at this
        refine (sub_bool (fun q n => ?_) (fun q i j => ?_)).1 this
        · simp only [moveC]; cases Nat.beq q o <;> simp
        · simp [moveC]
      · intro h q hq
        rw [hget q.1, h q hq]; rfl
    refine ⟨S, bset β st.objs.length x, ⟨hr.core.frame, hr.core.holds, ?_, ?_, ?_, ?_, ?_⟩, fun t hh => ?_, fun t hh => ?_, hr.size, hr.defers, fun q k hq hB => hle _ _ (hr.hand q k hq hB)⟩
    · intro q y hy
      cases hl : y.live with
      | false => cases y <;> first | trivial | cases hl
      | true =>
        obtain ⟨q0, y0, hy0, hl0, hb, hc⟩ := get' q y hy hl
        have hr0 := hr.core.objs q0 y0 hy0
        rcases hc with ⟨rfl, rfl, rfl⟩ | ⟨rfl, hne, rfl⟩
        · rw [ho] at hy0
          simp only [Option.some.injEq] at hy0
          subst hy0
          rcases hr0 with ⟨h1, h2⟩ | ⟨k, h1, h2⟩
          · exact .inl ⟨by rw [hb]; exact h1, h2⟩
          · exact .inr ⟨k, by rw [hb]; exact h1, h2⟩
        · cases y0 with
          | dead => trivial
          | cells l =>
            obtain ⟨k, h1, h2, h3, h4, vs, h5, h6, h7⟩ := hr0
            exact ⟨k, by rw [hb]; exact h1, by rw [h2]; simp, h3, h4, vs, h5, h6.map _ fun _ _ h => C.move_rel hle hnew h, h7⟩
          | mrow e' bs =>
            obtain ⟨k, h1, h2⟩ := hr0
            exact ⟨k, by rw [hb]; exact h1, h2⟩
          | map z has get =>
            obtain ⟨k, h1, h2⟩ := hr0
            exact ⟨k, by rw [hb]; exact h1, h2⟩
          | row e' w' k' g' =>
            rcases hr0 with ⟨h1, h2⟩ | ⟨k, h1, h2⟩
            · exact .inl ⟨by rw [hb]; exact h1, h2⟩
            · exact .inr ⟨k, by rw [hb]; exact h1, h2⟩
    · intro q hq
      simp only [List.length_append, List.length_map, List.length_set, List.length_cons, List.length_nil] at hq
      unfold bset
      rw [if_neg (by omega)]
      exact hr.core.out q (by omega)
    · intro q q' k1 k2 y y' hy hy' hl hl' h1 h2 hno
      obtain ⟨q0, y0, hy0, hl0, hb, hc⟩ := get' q y hy hl
      obtain ⟨q0', y0', hy0', hl0', hb', hc'⟩ := get' q' y' hy' hl'
      rw [hb] at h1; rw [hb'] at h2
      refine hr.core.inj q0 q0' k1 k2 y0 y0' hy0 hy0' hl0 hl0' h1 h2 fun e => hno ?_
      rcases hc with ⟨h3, h4, _⟩ | ⟨h3, h4, _⟩ <;> rcases hc' with ⟨h5, h6, _⟩ | ⟨h5, h6, _⟩ <;> omega
    · intro q k1 y hy hl h1
      obtain ⟨q0, y0, hy0, hl0, hb, hc⟩ := get' q y hy hl
      rw [hb] at h1
      exact hr.core.sep q0 k1 y0 hy0 hl0 h1
    · intro q k1 y hy hl h1
      obtain ⟨q0, y0, hy0, hl0, hb, hc⟩ := get' q y hy hl
      rw [hb] at h1
      exact hr.core.mine q0 k1 y0 hy0 hl0 h1
    · rw [hget t]
      rw [hgd t, hholds] at hh
      exact D.move_rel hle hnew (hr.tm t hh)
    · rw [hgd t, hholds] at hh
      exact hr.un t hh
  · cases hm
end
end Go.Dl

namespace Go.Dl
end Go.Dl

namespace Go.Dl
variable [WInv]
section
variable {P : Program} {n : Nat} {A T R : Type} {go : T → St} {ab : A → Ex × St} {st st' : St} {m : Option (A ⊕ T)} {cs : List Code}
structure ButB (g : Nat) (w w' : World) : Prop where
  os : w'.os = w.os
  tape : w'.tape = w.tape
  output : w'.output = w.output
  size : w.heap.size ≤ w'.heap.size
  block : ∀ c, c < w.heap.size → c ≠ g → w'.heap[c]? = w.heap[c]?
end
end Go.Dl

namespace Go.Dl
variable [WInv]
section
variable {P : Program} {α R : Type}
def mnew (S : Mem) (b : Nat) (l : List Value) : Mem := fun b' i => if b' = b then l[i]? else S b' i
theorem DFun.fresh {f : FuncId} {args : List D} {mr : Option R} {lst : R → List α} {E : El α} {ty : TypeId} (val : α → Value) (hw : E.w = 1)
    (hval : ∀ r, mr = some r → ∀ x ∈ lst r, (val x).oneCell' = true ∧ ∀ S, CRel S noB ((E.cs x).getD 0 .bot) (val x))
    (h : ∀ S β w vs, WInv.I w → VRel S β args vs → ∀ r, mr = some r → (lst r).length ≤ maxLen ∧ Calls P f vs.toArray w fun e w' =>
      e = .returned (.slice (some ⟨w.heap.size, 0, none⟩) (lst r).length (lst r).length) ∧ w' = w.alloc (.cells ((lst r).map val).toArray ty)) :
    DFun P f args [] mr (fun r => .c (E.tree (lst r))) (fun _ => []) := by
  intro S β w vs hc hv r hr
  obtain ⟨hlen, hcall⟩ := h S β w vs hc.inv hv r hr
  refine hcall.mono fun e w' ⟨he, hw'⟩ => ?_
  subst hw'
  have hnone : ∀ i, S w.heap.size i = none := by
    intro i
    cases hs : S w.heap.size i with
    | none => rfl
    | some v =>
      have := hc.holds.lt (b := w.heap.size) (i := i) (by simp [hs])
      omega
  have hle : MLe S (mnew S w.heap.size ((lst r).map val)) := by
    intro b i v hv
    unfold mnew
    by_cases hb : b = w.heap.size
    · subst hb; rw [hnone] at hv; cases hv
    · rw [if_neg hb]; exact hv
  have hold : ∀ b, b < w.heap.size → (w.alloc (.cells ((lst r).map val).toArray ty)).heap[b]? = w.heap[b]? := fun b hb => heap_alloc_old w _ b hb
  have hnew : (w.alloc (.cells ((lst r).map val).toArray ty)).heap[w.heap.size]? = some (.cells ((lst r).map val).toArray ty (0, 0)) := heap_alloc_new w _
  refine ⟨_, mnew S w.heap.size ((lst r).map val), β, he, ?_, fun o k ho _ => by simp at ho, ?_⟩
  · refine ⟨some ⟨w.heap.size, 0, none⟩, (lst r).length, rfl, Nat.le_refl _, hlen, ?_⟩
    rcases Nat.eq_zero_or_pos (lst r).length with h0 | h0
    · exact .inl h0
    · refine .inr ⟨w.heap.size, 0, rfl, fun i j hi hj => ?_⟩
      rw [hw] at hj ⊢
      obtain rfl : j = 0 := by omega
      refine ⟨val (lst r)[i], ?_, ?_⟩
      · unfold mnew
        rw [if_pos rfl]
        simp [List.getElem?_eq_getElem hi]
      · unfold El.at
        have : (lst r).getD i E.d = (lst r)[i] := by simp [List.getD, List.getElem?_eq_getElem hi]
        rw [this]
        exact (hval r hr _ (List.getElem_mem hi)).2 _
  · refine ⟨⟨rfl, rfl, rfl, by simp, fun b hb _ => hold b hb, fun b i hb _ => ?_, hle, hc.frame.glob, hc.frame.inv⟩, ?_, fun o x hx => by simp at hx, hc.out, fun o o' k k' x x' hx => by simp at hx, fun o k x hx => by simp at hx, fun o k x hx => by simp at hx⟩
    · unfold mnew
      have : b < w.heap.size := hb
      rw [if_neg (by omega)]
    · intro b i v hv
      unfold mnew at hv
      by_cases hb : b = w.heap.size
      · subst hb
        rw [if_pos rfl] at hv
        refine ⟨by rw [cell_of_heap hnew, List.getElem?_toArray]; exact hv, ?_⟩
        rw [List.getElem?_map] at hv
        cases hx : (lst r)[i]? with
        | none => rw [hx] at hv; cases hv
        | some x =>
          rw [hx] at hv
          simp only [Option.map_some, Option.some.injEq] at hv
          subst hv
          exact (hval r hr x (List.mem_of_getElem? hx)).1
      · rw [if_neg hb] at hv
        obtain ⟨h1, h2⟩ := hc.holds b i v hv
        refine ⟨?_, h2⟩
        have hlt := hc.holds.lt (b := b) (i := i) (by simp [hv])
        have : (w.alloc (.cells ((lst r).map val).toArray ty)).cell? ⟨b, i, none⟩ = w.cell? ⟨b, i, none⟩ := World.cell?_of_block (w := w) (hold b hlt)
        rw [this]; exact h1
end
end Go.Dl

namespace Go.Dl
variable [WInv]
section
variable {P : Program} {R : Type}
theorem DFun.top {f : FuncId} {args : List D} {r : R} {res : R → D} {S : Mem} {W : World} {vs : List Value} (h : DFun P f args [] (some r) res (fun _ => [])) (hI : WInv.I W) (hS : Holds S W) (hv : VRel S noB args vs) :
    Calls P f vs.toArray W fun e W' => ∃ v S' β', e = .returned v ∧ DRel S' β' (res r) v ∧ Go.RowKit.Below W.heap.size W W' := by
  have hno : ∀ b, ¬ Mof noB ([] : List Obj) b := by rintro b ⟨o, k, x, hx, _⟩; simp at hx
  have hc : Core ⟨S, W, Mof noB [], noB⟩ S noB W [] :=
    ⟨⟨rfl, rfl, rfl, Nat.le_refl _, fun _ _ _ => rfl, fun _ _ _ _ => rfl, MLe.refl _, fun b hb => absurd hb (hno b), hI⟩, hS,
      fun o x hx => by simp at hx, fun _ _ => rfl, fun o o' k k' x x' hx => by simp at hx, fun o k x hx => by simp at hx, fun o k x hx => by simp at hx⟩
  refine (h S noB W vs hc hv r rfl).mono fun e w' ⟨v, S', β', he, hd, _, hc'⟩ => ⟨v, S', β', he, hd, hc'.frame.os, hc'.frame.tape, hc'.frame.output, hc'.frame.size, fun b hb => hc'.frame.block b hb (hno b)⟩
end
end Go.Dl

namespace Go.Dl
variable [WInv]
section
variable {P : Program} {n : Nat} {A T R : Type} {go : T → St} {ab : A → Ex × St} {st st' : St} {m : Option (A ⊕ T)} {cs : List Code}
theorem RefR.assumeC {ops : Array Oper} {l : List Oper} {b : Bool} {stf : Bool → St} (h0 : stf b = st) (h : RefR P n ops l cs (stf true) m go ab) : RefR P n ops l cs st (chk [b] m) go ab := by
  intro Γ S β a w hr x hx
  obtain ⟨hv, hm⟩ := chk_some hx
  have hb : b = true := hv b (List.mem_cons_self ..)
  subst hb
  rw [← h0] at hr
  exact h Γ S β a w hr x hm
def gdHold (st : St) : Bool := st.gd.all fun p => p.2.all fun q => match st.get q.1 with
  | .c (.val (.bool b)) => b == q.2
  | _ => false
theorem lookup_mem : ∀ (l : List (Nat × List (Nat × Bool))) (t : Nat), lookupT [] l t = [] ∨ ∃ g, (t, g) ∈ l ∧ lookupT [] l t = g
  | [], t => .inl rfl
  | (i, g) :: r, t => by
    unfold lookupT
    cases hb : Nat.beq i t with
    | true =>
      obtain rfl := Nat.eq_of_beq_eq_true hb
      exact .inr ⟨g, List.mem_cons_self .., rfl⟩
    | false =>
      rw [cond_false]
      rcases lookup_mem r t with h | ⟨g', h1, h2⟩
      · exact .inl h
      · exact .inr ⟨g', List.mem_cons_of_mem _ h1, h2⟩
theorem gdHold_holds {st : St} (h : gdHold st = true) (t : Nat) : st.holds (st.gof t) := by
  unfold St.gof
  rcases lookup_mem st.gd t with h1 | ⟨g, h1, h2⟩
  · rw [h1]; intro q hq; cases hq
  · rw [h2]
    intro q hq
    unfold gdHold at h
    have h3 := List.all_eq_true.1 (List.all_eq_true.1 h _ h1) q hq
    split at h3
    · rename_i b hb
      have : b = q.2 := by simpa using h3
      rw [hb, this]
    · cases h3
theorem Conv.clear (h : gdHold st = true) : Conv n st ⟨st.tmps, st.objs, [], st.h⟩ := by
  intro Γ S β a w hr
  exact ⟨S, β, hr.core, fun t _ => hr.tm t (gdHold_holds h t), fun t hn => absurd (fun q hq => by cases hq) hn, hr.size, hr.defers, hr.hand⟩
def Oper.free (o : Oper) : Oper := { o with guard := none }
def guardHolds (ops : Array Oper) (o : Oper) (st : St) : Bool :=
  match o.guard with
  | none => false
  | some (j, want) =>
    (match (ops[j]?).bind (·.dst) with
    | some t =>
      (match st.gof t, st.get t with
      | [], .c (.val (.bool b)) => b == want
      | _, _ => false)
    | none => false)
theorem RefR.unguard (k : Nat) {ops : Array Oper} {l : List Oper} (hk : Nat.blt k l.length = true) (hi : guardHolds ops (opAt l k) st = true)
    (h : RefR P n ops ((l.set k (Oper.free (opAt l k))).drop k) cs st m go ab) : RefR P n ops (l.drop k) cs st m go ab := by
  have hlt : k < l.length := by simpa [Nat.blt_eq] using hk
  have hset : (l.set k (Oper.free (opAt l k))).drop k = Oper.free (opAt l k) :: l.drop (k + 1) := by
    rw [List.drop_eq_getElem_cons (by simpa using hlt), List.getElem_set_self, List.drop_set_of_lt (by omega)]
  rw [hset] at h
  rw [drop_opAt hk]
  intro Γ S β a w hr x hx
  have h1 := h Γ S β a w hr x hx
  have hw : Region.wanted (opAt l k) (yielded ops a.tmps) = true := by
    unfold guardHolds at hi
    split at hi
    · cases hi
    · rename_i j want hgd
      split at hi
      · rename_i t ht
        split at hi
        · rename_i b hg hb
          have hbw : b = want := by simpa using hi
          subst hbw
          have hd := hr.tm t (by unfold St.holds; rw [hg]; intro q hq; cases hq)
          rw [hb] at hd
          have hv : a.tmps.getD t undef = .bool b := hd
          have hsome : a.tmps[t]? = some (.bool b) := by
            rw [Array.getD_eq_getD_getElem?] at hv
            cases hq : a.tmps[t]? with
            | none => rw [hq] at hv; cases hv
            | some u => rw [hq] at hv; simp only [Option.getD_some] at hv; rw [hv]
          have hy : yielded ops a.tmps j = some b := by
            unfold yielded
            rw [ht]
            show (match a.tmps[t]? with | some (.bool b) => some b | _ => none) = some b
            rw [hsome]
          simp only [Region.wanted, hgd, hy]
          simp
        · cases hi
      · cases hi
  simp only [wpList] at h1 ⊢
  rw [hw, if_pos rfl]
  have hw' : Region.wanted (Oper.free (opAt l k)) (yielded ops a.tmps) = true := rfl
  rw [hw', if_pos rfl] at h1
  exact h1
end
end Go.Dl

namespace Go.Dl
variable [WInv] {α : Type}
omit [WInv] in theorem NT_at (E : El α) (ct : α → List C) (h : ∀ x, ct x = E.cs x) (l : List α) {i : Nat} (hi : i < l.length) (j : Nat) : tbl (l.map ct) i j = E.at l i j := by
  unfold tbl El.at
  have : (l.map ct).getD i [] = E.cs (l.getD i E.d) := by
    simp [List.getD, List.getElem?_map, List.getElem?_eq_getElem hi, h]
  rw [this]
theorem NT_le (E : El α) (ct : α → List C) (h : ∀ x, ct x = E.cs x) (l : List α) : CLe (.tree E.w l.length (tbl (l.map ct))) (E.tree l) :=
  CLe.tree rfl fun i j hi _ => by rw [NT_at E ct h l hi]; exact CLe.refl _
omit [WInv] in theorem NTT_at (Q : El (List α)) (nt : List α → C) (l : List (List α)) {i : Nat} (hi : i < l.length) : tbl (l.map fun b => [nt b]) i 0 = nt (l.getD i Q.d) := by
  unfold tbl
  simp [List.getD, List.getElem?_map, List.getElem?_eq_getElem hi]
end Go.Dl

namespace Go.Dl
variable [WInv]
open Go.RowKit
section
variable {P : Program} {n : Nat} {ops : Array Oper} {W : Nat → Bool} {A T : Type} {go : T → St} {ab : A → Ex × St} {st st' : St} {m : Option (A ⊕ T)} {cs : List Code}
def makesOp : Op → Bool
  | .buildSlice _ _ _ => true
  | _ => false
theorem up_alloc0 (w : World) (o : Go.Obj) : Up w (w.alloc o) := (Below.refl _ _).alloc (Nat.le_refl _) o
def Still (P : Program) {X : Type} (s : Sem X) : Prop := ∀ w a w', s.run P w = .ok a w' → w' = w
theorem still_underlying (t : TypeId) : Still P (underlying t) := by
  intro w a w' h
  cases hu : P.underlying t with
  | none => simp [underlying, hu] at h
  | some d => rw [run_underlying hu] at h; cases h; rfl
theorem still_typeInfo (t : TypeId) : Still P (typeInfo t) := by
  intro w a w' h
  cases hu : P.info? t with
  | none => simp [typeInfo, hu] at h
  | some d => simp [typeInfo, hu] at h; exact h.2.symm
theorem still_sizeOf (t : TypeId) : Still P (sizeOf t) := by
  intro w a w' h
  unfold sizeOf at h
  rw [Sem.run_bind] at h
  cases hr : (typeInfo t).run P w with
  | halt x y => rw [hr] at h; cases h
  | ok i w1 =>
    rw [hr] at h
    obtain rfl := still_typeInfo t w _ _ hr
    cases h; rfl
theorem still_zeroValue (t : TypeId) : Still P (zeroValue t) := by
  intro w a w' h
  unfold zeroValue at h
  rw [Sem.run_bind] at h
  cases hr : (typeInfo t).run P w with
  | halt x y => rw [hr] at h; cases h
  | ok i w1 =>
    rw [hr] at h
    obtain rfl := still_typeInfo t w _ _ hr
    simp only [Result.andThen_ok] at h
    split at h
    · cases h; rfl
    · cases h
theorem up_newRow {e : TypeId} {cs : Array Value} {w w' : World} {a : Addr} (h : (newRow e cs).run P w = .ok a w') : Up w w' := by
  simp [newRow] at h
  rw [← h.2]
  exact up_alloc0 _ _
def Mk (P : Program) {X : Type} (s : Sem X) : Prop := ∀ w a w', s.run P w = .ok a w' → Up w w'
theorem Mk.bind {X Y : Type} {s : Sem X} {f : X → Sem Y} (h : Mk P s) (hf : ∀ x, Mk P (f x)) : Mk P (s >>= f) := by
  intro w a w' hr
  rw [Sem.run_bind] at hr
  cases h1 : s.run P w with
  | halt x y => rw [h1] at hr; cases hr
  | ok x w1 => rw [h1] at hr; exact (h w x w1 h1).trans (hf x w1 a w' hr)
theorem Mk.pure {X : Type} (x : X) : Mk P (Pure.pure x : Sem X) := by
  intro w a w' h
  cases h; exact Up.refl _
theorem Mk.still {X : Type} {s : Sem X} (h : Still P s) : Mk P s := fun w a w' hr => by rw [h w a w' hr]; exact Up.refl _
theorem Mk.stuck {X : Type} (m : String) : Mk P (Go.stuck m : Sem X) := fun w a w' h => by cases h
theorem Mk.unsupported {X : Type} (m : Unsupported) : Mk P (Go.unsupported m : Sem X) := fun w a w' h => by cases h
theorem mk_buildSlice (t : TypeId) (len : Nat) (parts : Array (Nat × Value)) : Mk P (Instr.buildSlice t len parts) := by
  unfold Instr.buildSlice
  refine Mk.bind (Mk.still (still_underlying t)) fun td => ?_
  split
  · refine Mk.bind (Mk.still (still_sizeOf _)) fun sz => ?_
    have fin : ∀ (e : TypeId) (z : Array Value), Mk P (match Instr.fill (fun i => some (i * sz, sz)) (Array.map (fun x => z[x % z.size]!) (Array.range (len * sz))) parts.toList with
        | some cells => do
          let a ← newRow e cells
          Pure.pure (Value.slice (some a) len len)
        | _ => Go.stuck "buildSlice: a part of the wrong size" : Sem Value) := by
      intro e z
      split
      · exact Mk.bind (fun w a w' h => up_newRow h) fun a => Mk.pure _
      · exact Mk.stuck _
    dsimp only
    split
    · exact Mk.bind (Mk.unsupported _) fun x => by
        split
        · exact Mk.bind (Mk.pure _) fun z => fin _ z
        · exact Mk.bind (Mk.still (still_zeroValue _)) fun z => Mk.bind (Mk.pure _) fun z => fin _ z
    · split
      · exact Mk.bind (Mk.pure _) fun z => fin _ z
      · exact Mk.bind (Mk.still (still_zeroValue _)) fun z => Mk.bind (Mk.pure _) fun z => fin _ z
  · exact Mk.stuck _
theorem up_makes {o : Oper} {ρ : Operand → Value} {w w' : World} {x : Next} (hm : makesOp o.op = true) (h : (execOp ρ o).run P w = .ok x w') : Up w w' ∧ ∃ v, x = .value v := by
  unfold makesOp at hm
  split at hm
  · rename_i t len parts hop
    unfold execOp at h
    rw [hop] at h
    dsimp only at h
    rw [Sem.run_bind] at h
    cases hr : (Instr.buildSlice t len (parts.map fun (i, x) => (i, ρ x))).run P w with
    | halt a b => rw [hr] at h; cases h
    | ok a w1 =>
      rw [hr] at h
      have := mk_buildSlice _ _ _ _ _ _ hr
      cases h
      exact ⟨this, _, rfl⟩
  · cases hm
end
end Go.Dl

namespace Go.Dl
theorem inb_lt {i : Int} {n : Nat} (h : inb i n = true) : i.toNat < n := by
  unfold inb at h
  simp only [Bool.and_eq_true, decide_eq_true_eq] at h
  omega
end Go.Dl

namespace Go.Dl
variable [WInv]
abbrev sI (k : Nat) (x : Int) : Nat × D := (k, .c (.val (.int .i64 x)))
section
variable {P : Program} {n : Nat} {A T : Type} {go : T → St} {ab : A → Ex × St} {st st' : St} {m : Option (A ⊕ T)} {cs : List Code} {c : Code}
theorem Ref.n0 {t : T} (h : go t = st := by kernel_rfl) : Ref P n [] st (some (.inr t)) go ab := Ref.nil h
theorem RefR.e0 (k j k' : Nat) (keep om : List Nat) {ops : Array Oper} {l : List Oper} (h : RefR P n ops (l.drop k') cs st' m go ab) (hk : k' = k + j := by rfl) (he : run1 P n ops ((l.drop k).take j) st keep om = some ([], st') := by kernel_rfl) : RefR P n ops (l.drop k) cs st m go ab := RefR.ev0 k j k' keep om hk he h
end
end Go.Dl

namespace Go.Dl
variable [WInv]
open Go.RowKit
section
variable {P : Program} {n : Nat} {ops : Array Oper} {W : Nat → Bool} {A T : Type} {go : T → St} {ab : A → Ex × St} {st st' : St} {m : Option (A ⊕ T)} {cs : List Code}
def isNilConst : Operand → Bool
  | .const (.slice none 0 0) => true
  | _ => false
def addsOp : Op → Bool
  | .buildSlice _ _ _ => true
  | .alloc _ => true
  | .call c => (match c.callee, c.args.toList with
    | .builtin .append, [x, _] => isNilConst x
    | _, _ => false)
  | _ => false
theorem mk_alloc (t : TypeId) (v : Value) : Mk P (Instr.alloc t true v) := by
  unfold Instr.alloc
  refine Mk.bind (Mk.still (still_zeroValue t)) fun z => ?_
  dsimp only
  refine Mk.bind (fun w a w' h => ?_) fun a => Mk.pure _
  exact up_newRow h
theorem up_append_nil {t t' ty : TypeId} {td : TypeDesc} {Γ : Ctx} {S : Mem} {β : Bmap} {w w' : World} {xs xs' : List Obj} {src d' : D} {x v' : Value} {vs : List Bool} (ht' : P.underlying t' = some td) (htd : (∃ u, td = .slice u) ∨ td = .string)
    (ts : Array TypeId) (h0 : ts[0]? = some t) (h1 : ts[1]? = some t') (hc : Core Γ S β w xs) (hx : DRel S β src x) (h : evAppend P t (.c .nil) src xs = some (vs, d', xs')) (hvs : ∀ b ∈ vs, b = true)
    (hr : (Builtin.append_ ts ty #[.slice none 0 0, x]).run P w = .ok v' w') : Up w w' := by
  unfold evAppend at h
  cases ht : P.underlying t with
  | none => simp [ht] at h
  | some tdd =>
    cases tdd with
    | slice e =>
      simp only [ht] at h
      cases hi : P.info? e with
      | none => simp [hi] at h
      | some i =>
        simp only [hi] at h
        cases hz : i.zero with
        | none => simp [hz] at h
        | some z =>
          simp only [hz] at h
          have h2 := some_of_cond h
          clear h
          obtain ⟨hg, h⟩ := h2
          simp only [Bool.and_eq_true, Nat.blt_eq] at hg
          obtain ⟨hzs, hsz, hby⟩ := hg
          have hzs := Nat.eq_of_beq_eq_true hzs
          cases hsr : srcRow P e i.size src xs with
          | none => simp [hsr] at h
          | some p =>
            obtain ⟨m, g2⟩ := p
            simp only [hsr] at h
            obtain ⟨news, hsrc⟩ := srcRow_sound hsz hc hx hsr
            simp only [Option.some.injEq, Prod.mk.injEq] at h
            obtain ⟨rfl, _, _⟩ := h
            have hrm : room (m * i.bytes) = true := hvs _ (by simp)
            have hrm' : (0 + m) * i.bytes ≤ 140737488355328 := by rw [Nat.zero_add]; simpa [room] using hrm
            have hm : 0 + m ≤ 140737488355328 := Nat.le_trans (Nat.le_mul_of_pos_right _ hby) hrm'
            obtain ⟨v2, w2, hr2, _, hgrow, _⟩ := run_append_any (ty := ty) ht ht' htd hi hz hzs (World.ownsRow_nil w 0 e i.size) hsrc (by simp only [maxLen]; omega) hrm' ts h0 h1
            rw [hr] at hr2
            obtain ⟨rfl, rfl⟩ : v' = v2 ∧ w' = w2 := by cases hr2; exact ⟨rfl, rfl⟩
            exact ⟨hgrow.os, hgrow.tape, hgrow.output, hgrow.size, fun b hb => hgrow.block b hb (by simp [Value.ownBlock])⟩
    | _ => simp [ht] at h
theorem up_adds {Γ : Ctx} {S : Mem} {β : Bmap} {a : Act} {w w' : World} {o : Oper} {x : Next} {vs : List Bool} (hm : addsOp o.op = true) (hgd : o.guard = none) (hr : RR Γ S β a w n st) (he : evStep P n ops o st = some (vs, st')) (hvs : ∀ b ∈ vs, b = true)
    (h : (execOp a.eval o).run P w = .ok x w') : Up w w' ∧ ∃ v, x = .value v := by
  unfold addsOp at hm
  split at hm
  · rename_i t len parts hop
    exact up_makes (by rw [hop]; rfl) h
  · rename_i t hop
    unfold execOp at h
    rw [hop] at h
    dsimp only at h
    rw [Sem.run_bind] at h
    cases hq : (Instr.alloc t true (.tuple #[])).run P w with
    | halt a b => rw [hq] at h; cases h
    | ok a w1 =>
      rw [hq] at h
      have := mk_alloc _ _ _ _ _ hq
      cases h
      exact ⟨this, _, rfl⟩
  · rename_i c hop
    obtain ⟨callee, args, tys⟩ := c
    dsimp only at hm
    split at hm
    · rename_i x0 y ha
      have ha' : args = #[x0, y] := by apply Array.ext'; simpa using ha
      subst ha'
      unfold evStep at he
      unfold guardOf at he
      rw [hgd] at he
      dsimp only at he
      obtain ⟨_, he⟩ := some_of_cond he
      split at he
      · rename_i vs' d xs hev
        simp only [Option.some.injEq, Prod.mk.injEq] at he
        obtain ⟨rfl, rfl⟩ := he
        have h0 : st.holds [] := fun q hq => by cases hq
        have hv := see_rel hr h0
        unfold evSee at hev
        rw [hop] at hev
        dsimp only at hev
        obtain ⟨_, hev⟩ := some_of_cond hev
        unfold evOp at hev
        rw [hop] at hev
        dsimp only at hev
        have hnil : x0 = .const (.slice none 0 0) := by
          unfold isNilConst at hm
          split at hm
          · rfl
          · cases hm
        subst hnil
        have harg : ((do let dd ← resolve a.eval ⟨.builtin .append, #[.const (.slice none 0 0), y], tys⟩ o.type; invoke dd.target dd.args) : Sem Next).run P =
            (builtin .append tys o.type (#[Operand.const (.slice none 0 0), y].map fun | .const _ => true | _ => false) (#[Operand.const (.slice none 0 0), y].map a.eval)).run P := rfl
        have hrun : (execOp a.eval o).run P w = ((do let v ← Builtin.append_ tys o.type #[.slice none 0 0, a.eval y]; pure (Next.value v)) : Sem Next).run P w := by
          unfold execOp
          rw [hop]
          dsimp only
          rw [harg, show Array.map a.eval #[Operand.const (.slice none 0 0), y] = #[.slice none 0 0, a.eval y] by simp; rfl]
          rfl
        rw [hrun, Sem.run_bind] at h
        cases hq : (Builtin.append_ tys o.type #[.slice none 0 0, a.eval y]).run P w with
        | halt u v => rw [hq] at h; cases h
        | ok u w1 =>
          rw [hq] at h
          cases h
          refine ⟨?_, _, rfl⟩
          split at hev
          · rename_i heq _ _
            simp at heq
          · rename_i t t' r e1 h2 h3
            simp only [List.cons.injEq, and_true] at h2
            obtain ⟨rfl, rfl⟩ := h2
            have h0 : tys[0]? = some t := by rw [← Array.getElem?_toList, h3]; rfl
            have h1' : tys[1]? = some t' := by rw [← Array.getElem?_toList, h3]; rfl
            split at hev
            · rename_i u hu
              exact up_append_nil hu (.inl ⟨_, rfl⟩) tys h0 h1' (by rw [see_objs]; exact hr.core) (hv y) hev hvs hq
            · rename_i hu
              exact up_append_nil hu (.inr rfl) tys h0 h1' (by rw [see_objs]; exact hr.core) (hv y) hev hvs hq
            · cases hev
          all_goals simp_all
      · cases he
    · cases hm
  · cases hm
def RefXi (P : Program) (n : Nat) (ops : Array Oper) (W : Nat → Bool) {A T : Type} (i fuel : Nat) (listed : Array Bool) (cs : List Code) (st : St) (m : Option (A ⊕ T)) (go : T → St) (ab : A → Ex × St) : Prop :=
  ∀ Γ S β a w, RR Γ S β a w n st → ∀ x, m = some x → xOp P ops W (Exit.then (wpL P cs (Post Γ n go ab x)) (Post Γ n go ab x)) i (xAny P .any ops W (Exit.then (wpL P cs (Post Γ n go ab x)) (Post Γ n go ab x)) fuel (listed.setIfInBounds i true)) a w
theorem RefX.fork {fuel fuel' : Nat} {listed : Array Bool} (l : List Nat) (hl : (Nat.beq fuel (fuel' + 1) && (decide (Region.ready .any ops listed = l) && !l.isEmpty)) = true) (h : ∀ i ∈ l, RefXi P n ops W i fuel' listed cs st m go ab) : RefX P n ops W fuel listed cs st m go ab := by
  intro Γ S β a w hr x hx
  simp only [Bool.and_eq_true, decide_eq_true_eq] at hl
  obtain ⟨hf, hrd, hne⟩ := hl
  have hf := Nat.eq_of_beq_eq_true hf
  subst hf
  refine ⟨fun h0 => ?_, fun i hi => ?_⟩
  · rw [hrd] at h0; subst h0; cases hne
  · rw [hrd] at hi; exact h i hi Γ S β a w hr x hx
theorem RefXi.adds (j : Nat) (keep om : List Nat) {fuel : Nat} {listed : Array Bool} {vs : List Bool} {st' : St}
    (hf : (!W j && (ops[j]?).elim false fun o => o.guard.isNone && (addsOp o.op || quietOp o.op)) = true) (he : run1 P n ops (opsOf ops [j]) st keep om = some (vs, st'))
    (h : RefX P n ops W fuel (listed.setIfInBounds j true) cs st' m go ab) : RefXi P n ops W j fuel listed cs st (chk vs m) go ab := by
  intro Γ S β a w hr x hx
  obtain ⟨hvs, hm⟩ := chk_some hx
  simp only [Bool.and_eq_true, Bool.not_eq_true'] at hf
  obtain ⟨hWj, hmk⟩ := hf
  cases ho : ops[j]? with
  | none => rw [ho] at hmk; cases hmk
  | some o =>
    rw [ho] at hmk
    have hmk : (o.guard.isNone && (addsOp o.op || quietOp o.op)) = true := hmk
    rw [Bool.and_eq_true] at hmk
    obtain ⟨hgd, hmk⟩ := hmk
    have hgd : o.guard = none := by simpa using hgd
    have hops : opsOf ops [j] = [o] := by simp [opsOf, ho]
    rw [hops] at he
    unfold run1 at he
    split at he
    · rename_i vs2 st2 h2
      cases hk : st2.keep keep om with
      | none => rw [hk] at he; cases he
      | some st3 =>
        rw [hk] at he
        simp only [Option.map_some, Option.some.injEq, Prod.mk.injEq] at he
        obtain ⟨rfl, rfl⟩ := he
        unfold evOps at h2
        split at h2
        · rename_i v st1 h1
          simp only [evOps] at h2
          simp only [Option.some.injEq, Prod.mk.injEq] at h2
          obtain ⟨rfl, rfl⟩ := h2
          have hv1 : ∀ b ∈ v, b = true := fun b hb => hvs b (by simpa using hb)
          unfold xOp
          rw [hWj, cond_false]
          unfold xOp0
          simp only [ho]
          rcases evStep_cases hr h1 hv1 with ⟨hw, u, w', S', β', hrun, hrr, hq⟩ | ⟨hw, hrr⟩
          · simp only [hw, if_true]
            unfold xop
            have hup : ∀ {y : Next}, (execOp a.eval o).run P w = .ok y w' → Up w w' ∧ ∃ v, y = .value v := by
              intro y hy
              rw [Bool.or_eq_true] at hmk
              rcases hmk with hmk | hmk
              · exact up_adds hmk hgd hr h1 hv1 hy
              · obtain ⟨rfl, rfl, rfl, hq2⟩ := hq hmk
                have := hq2 w' (.inr (Up.refl _))
                rw [hy] at this
                cases this
                exact ⟨Up.refl _, _, rfl⟩
            rcases hrun with hrun | ⟨hrun, _⟩
            · rw [hrun]
              exact ⟨(hup hrun).1, fun w'' hw'' => h Γ S' (bren β' om) _ w'' (keep_sound (hrr.up hw'') hk) x hm⟩
            · obtain ⟨_, v, hv⟩ := hup hrun
              cases hv
          · simp only [hw, Bool.false_eq_true, if_false]
            exact fun w' hw' => h Γ S (bren β om) _ w' (keep_sound (hrr.up hw') hk) x hm
        · cases h2
    · cases he
theorem RefXi.writes (j : Nat) (keep om : List Nat) {fuel : Nat} {listed : Array Bool} {vs : List Bool} {st' : St}
    (hf : (W j && (ops[j]?).isSome) = true) (he : run1 P n ops (opsOf ops [j]) st keep om = some (vs, st'))
    (h : RefX P n ops W fuel (listed.setIfInBounds j true) cs st' m go ab) : RefXi P n ops W j fuel listed cs st (chk vs m) go ab := by
  intro Γ S β a w hr x hx
  obtain ⟨hvs, hm⟩ := chk_some hx
  simp only [Bool.and_eq_true] at hf
  obtain ⟨hWj, hso⟩ := hf
  obtain ⟨o, ho⟩ := Option.isSome_iff_exists.1 hso
  have hops : opsOf ops [j] = [o] := by simp [opsOf, ho]
  rw [hops] at he
  unfold run1 at he
  split at he
  · rename_i vs2 st2 h2
    cases hk : st2.keep keep om with
    | none => rw [hk] at he; cases he
    | some st3 =>
      rw [hk] at he
      simp only [Option.map_some, Option.some.injEq, Prod.mk.injEq] at he
      obtain ⟨rfl, rfl⟩ := he
      unfold xOp
      rw [hWj, cond_true]
      unfold wpOp
      rw [ho]
      unfold evOps at h2
      split at h2
      · rename_i v st1 h1
        simp only [evOps] at h2
        simp only [Option.some.injEq, Prod.mk.injEq] at h2
        obtain ⟨rfl, rfl⟩ := h2
        have hv1 : ∀ b ∈ v, b = true := fun b hb => hvs b (by simpa using hb)
        dsimp only
        rcases evStep_cases hr h1 hv1 with ⟨hw, u, w', S', β', hrun, hrr, _⟩ | ⟨hw, hrr⟩
        · simp only [hw, if_true]
          left
          have hrest := h Γ S' (bren β' om) _ w' (keep_sound hrr hk) x hm
          rcases hrun with hrun | ⟨hrun, rfl⟩
          · simp only [Oper.wp, Oper.upon, hrun]
            exact hrest
          · simp only [Oper.wp, Oper.upon, hrun]
            exact hrest
        · simp only [hw, Bool.false_eq_true, if_false]
          exact h Γ S (bren β om) _ w (keep_sound hrr hk) x hm
      · cases h2
  · cases he
theorem RefXi.adds0 (j : Nat) (keep om : List Nat) {fuel : Nat} {listed : Array Bool} {st' : St}
    (hf : (!W j && (ops[j]?).elim false fun o => o.guard.isNone && (addsOp o.op || quietOp o.op)) = true) (he : run1 P n ops (opsOf ops [j]) st keep om = some ([], st'))
    (h : RefX P n ops W fuel (listed.setIfInBounds j true) cs st' m go ab) : RefXi P n ops W j fuel listed cs st m go ab :=
  fun Γ S β a w hr x hx => RefXi.adds (vs := []) j keep om hf he h Γ S β a w hr x hx
end
end Go.Dl

namespace Go.Dl
open Go.RowKit
variable [WInv]
section
variable {P : Program} {n : Nat} {A T R : Type} {go : T → St} {ab : A → Ex × St} {st st' : St} {m : Option (A ⊕ T)} {cs : List Code}
end
end Go.Dl

namespace Go.Dl
variable [WInv]
def El.o {α : Type} (E : El α) (x : α) : Obj := .cells (E.cs x)
section
variable {P : Program} {n : Nat} {A T R : Type} {go : T → St} {ab : A → Ex × St} {st st' : St} {cs : List Code} {m : Option (A ⊕ T)}
theorem wanted_of {Γ : Ctx} {S : Mem} {β : Bmap} {a : Act} {w : World} {ops : Array Oper} {o : Oper} {g : List (Nat × Bool)} (hr : RR Γ S β a w n st) (hg : guardOf ops o st = some g) (hh : st.holds g) :
    Region.wanted o (yielded ops a.tmps) = true := by
  unfold guardOf at hg
  cases hgd : o.guard with
  | none => simp [Region.wanted, hgd]
  | some jw =>
    obtain ⟨j, want⟩ := jw
    rw [hgd] at hg
    dsimp only at hg
    cases htj : (ops[j]?).bind (·.dst) with
    | none => rw [htj] at hg; cases hg
    | some tj =>
      rw [htj] at hg
      simp only [Option.some.injEq] at hg
      subst hg
      have hrel := hr.tm tj (fun q hq => hh q (List.mem_cons_of_mem _ hq))
      have hxw := hh (tj, want) (by simp)
      simp only at hxw
      rw [hxw] at hrel
      have hval : a.tmps.getD tj undef = .bool want := hrel
      have hsome : a.tmps[tj]? = some (.bool want) := by
        rw [Array.getD_eq_getD_getElem?] at hval
        cases hq : a.tmps[tj]? with
        | none => rw [hq] at hval; cases hval
        | some u => rw [hq] at hval; simp only [Option.getD_some] at hval; rw [hval]
      have hyield : yielded ops a.tmps j = some want := by
        unfold yielded
        rw [htj]
        show (match a.tmps[tj]? with | some (.bool b) => some b | _ => none) = some want
        rw [hsome]
      simp only [Region.wanted, hgd, hyield]
      simp
theorem unwanted_of {Γ : Ctx} {S : Mem} {β : Bmap} {a : Act} {w : World} {ops : Array Oper} {o : Oper} {g : List (Nat × Bool)} {b : Bool} (hr : RR Γ S β a w n st) (hg : guardOf ops o st = some g) (hb : guardB st g = some b) (hh : ¬ st.holds g) :
    Region.wanted o (yielded ops a.tmps) = false := by
  unfold guardOf at hg
  cases hgd : o.guard with
  | none =>
    rw [hgd] at hg
    simp only [Option.some.injEq] at hg
    subst hg
    exact absurd (fun q hq => by cases hq) hh
  | some jw =>
    obtain ⟨j, want⟩ := jw
    rw [hgd] at hg
    dsimp only at hg
    cases htj : (ops[j]?).bind (·.dst) with
    | none => rw [htj] at hg; cases hg
    | some tj =>
      rw [htj] at hg
      simp only [Option.some.injEq] at hg
      subst hg
      obtain ⟨x0, hx0⟩ := guardB_head hb
      have hwant : ∀ (yl : Option Bool), yielded ops a.tmps j = yl → Region.wanted o (yielded ops a.tmps) = (yl == some want) := by
        intro yl hy
        simp only [Region.wanted, hgd, hy]
      have hyield : yielded ops a.tmps j = match a.tmps[tj]? with | some (.bool b) => some b | _ => none := by
        unfold yielded
        rw [htj]
        rfl
      by_cases hrr : st.holds (st.gof tj)
      · have hrel := hr.tm tj hrr
        rw [hx0] at hrel
        have hval : a.tmps.getD tj undef = .bool x0 := hrel
        have hsome : a.tmps[tj]? = some (.bool x0) := by
          rw [Array.getD_eq_getD_getElem?] at hval
          cases hq : a.tmps[tj]? with
          | none => rw [hq] at hval; cases hval
          | some u => rw [hq] at hval; simp only [Option.getD_some] at hval; rw [hval]
        rw [hwant (some x0) (by rw [hyield, hsome])]
        have hne : x0 ≠ want := by
          intro e
          subst e
          refine hh fun q hq => ?_
          rcases List.mem_cons.1 hq with rfl | hq
          · exact hx0
          · exact hrr q hq
        simpa using hne
      · have hun := hr.un tj hrr
        have hnone : yielded ops a.tmps j = none := by
          rw [hyield]
          rw [Array.getD_eq_getD_getElem?] at hun
          cases hq : a.tmps[tj]? with
          | none => rfl
          | some u =>
            rw [hq] at hun
            simp only [Option.getD_some] at hun
            rw [hun]; rfl
        rw [hwant none hnone]
        rfl
def litInfo (P : Program) (n : Nat) (ops : Array Oper) (o : Oper) (st : St) : Option (Nat × List (Nat × Bool) × C × List Obj) :=
  match o.op, o.dst, guardOf ops o st with
  | .buildSlice t len parts, some d, some g =>
    (match guardB st g, evBuildSlice P t len parts.toList (st.see g) with
    | some _, some ([], .c (.own k m), xs) =>
      (match xs[k]? with
      | some (.row _ wd _ get) =>
        bif Nat.blt d n && (freeOf st d && g.all (fun q => !Nat.beq q.1 d)) then some (d, g, .tree wd m get, (xs.set k .dead).map (Obj.sub (subRow k wd get))) else none
      | _ => none)
    | _, _ => none)
  | _, _, _ => none
theorem core_dead {Γ : Ctx} {S : Mem} {β : Bmap} {w : World} {xs : List Obj} (h : Core Γ S β w xs) : Core Γ S β w (xs ++ [.dead]) := by
  have old : ∀ {o : Nat} {x : Obj}, (xs ++ [.dead])[o]? = some x → x.live = true → xs[o]? = some x := by
    intro o x hx hl
    by_cases ho : o < xs.length
    · rwa [List.getElem?_append_left ho] at hx
    · rw [List.getElem?_append_right (by omega)] at hx
      cases hq : o - xs.length with
      | zero => rw [hq] at hx; simp at hx; rw [← hx] at hl; cases hl
      | succ q => rw [hq] at hx; simp at hx
  refine ⟨h.frame, h.holds, fun o x hx => ?_, fun o ho => h.out o (by simp at ho; omega), fun o o' k k' x x' hx hx' hl hl' => h.inj o o' k k' x x' (old hx hl) (old hx' hl') hl hl', fun o k x hx hl => h.sep o k x (old hx hl) hl, fun o k x hx hl => h.mine o k x (old hx hl) hl⟩
  cases hl : x.live with
  | true => exact h.objs o x (old hx hl)
  | false => cases x <;> first | trivial | cases hl
theorem RefR.litC (k k' : Nat) {ops : Array Oper} {l : List Oper} {t : Nat} {g : List (Nat × Bool)} {x x' : C} (hle : CLe x x') (hk : (Nat.blt k l.length && Nat.beq k' (k + 1)) = true)
    (hi : litInfo P n ops (opAt l k) st = some (t, g, x, st.objs ++ [.dead])) (h : RefR P n ops (l.drop k') cs (st.put (some t) (.c x') (st.objs ++ [.dead]) g) m go ab) : RefR P n ops (l.drop k) cs st m go ab := by
  rw [Bool.and_eq_true] at hk
  obtain ⟨hk, hk'⟩ := hk
  have hk' := Nat.eq_of_beq_eq_true hk'
  subst hk'
  rw [drop_opAt hk]
  unfold litInfo at hi
  split at hi
  · rename_i ty len parts d g' ho hdst hg
    split at hi
    · rename_i b ko mo xs hb hev
      split at hi
      · rename_i e wd n0 get hx
        obtain ⟨hc, hi⟩ := some_of_cond hi
        simp only [Option.some.injEq, Prod.mk.injEq] at hi
        obtain ⟨rfl, rfl, rfl, hob⟩ := hi
        simp only [Bool.and_eq_true, List.all_eq_true, Nat.blt_eq] at hc
        obtain ⟨htn, hfree, hgt⟩ := hc
        have hgt' : ∀ q ∈ g', q.1 ≠ d := fun q hq e => by
          have := hgt q hq
          rw [e] at this
          simp at this
        intro Γ S β a w hr q hq
        by_cases hh : st.holds g'
        · have hw := wanted_of hr hg hh
          simp only [wpList, hw, if_true]
          left
          obtain ⟨v, w', S1, β1, hrun, hd, hs1, hb1, hco⟩ := evBuildSlice_sound (Γ := Γ) (a := a) (fun y => see_rel hr hh y) (by rw [see_objs]; exact hr.core) hev
          have hrun2 : (execOp a.eval (opAt l k)).run P w = .ok (.value v) w' := by
            unfold execOp
            rw [ho]
            simp only
            rw [Sem.run_bind, hrun]; rfl
          simp only [Oper.wp, Oper.upon, hrun2]
          obtain ⟨S2, hs2, hh2, hown, hch⟩ := freeze_mem hco hx
          have hr1 := hr.put hco hs1 hb1 htn hfree (g := []) (fun q hq => by cases hq) (fun _ => hd) (fun hno => absurd (fun q hq => by cases hq) hno)
          have hr2 := sub_sound (f := subRow ko wd get) hr1 hx rfl hs2 hh2 (fun o' m' v hv => by
              simp only [subRow]
              cases hb : Nat.beq o' ko with
              | true =>
                have := Nat.eq_of_beq_eq_true hb
                subst this
                exact hown m' v hv
              | false => rw [cond_false]; exact CRel.mono hs2 _ _ _ hv) (fun o' i j v hv => CRel.mono hs2 _ _ _ hv)
            (fun o' m' b => by simp only [subRow]; cases Nat.beq o' ko <;> simp) (fun o' i j b => by simp [subRow]) hch
          have hcore : Core Γ S2 β1 w' (st.objs ++ [.dead]) := by
            have := hr2.core
            rw [← hob]
            exact this
          rw [hdst]
          exact h Γ S2 β1 _ w' (hr.put hcore (MLe.trans hs1 hs2) hb1 htn hfree hgt' (fun _ => hle _ _ _ (hown _ _ hd)) (fun hno => absurd hh hno)) q hq
        · have hw := unwanted_of hr hg hb hh
          simp only [wpList, hw, Bool.false_eq_true, if_false]
          rw [hdst]
          exact h Γ S β _ w (hr.put (core_dead hr.core) (MLe.refl _) (BLe.refl _) htn hfree hgt' (fun hy => absurd hy hh) (fun _ => rfl)) q hq
      · cases hi
    · cases hi
  · cases hi
theorem RefR.lit {α : Type} (E : El α) (lst : List α) (k k' : Nat) {ops : Array Oper} {l : List Oper} {t : Nat} {g : List (Nat × Bool)} (hk : (Nat.blt k l.length && Nat.beq k' (k + 1)) = true)
    (hi : litInfo P n ops (opAt l k) st = some (t, g, .tree E.w lst.length (tbl (lst.map E.cs)), st.objs ++ [.dead])) (h : RefR P n ops (l.drop k') cs (st.put (some t) (.c (E.tree lst)) (st.objs ++ [.dead]) g) m go ab) : RefR P n ops (l.drop k) cs st m go ab :=
  RefR.litC k k' (NT_le E E.cs (fun _ => rfl) lst) hk hi h
end
end Go.Dl

namespace Go.Dl
variable [WInv]
open Go.RowKit
section
variable {P : Program} {n : Nat} {ops : Array Oper} {W : Nat → Bool} {A T R : Type} {go : T → St} {ab : A → Ex × St} {st st' : St} {cs : List Code}
end
end Go.Dl

namespace Go.Dl
variable [WInv]
def stepSt (P : Program) (n : Nat) (ops : Array Oper) (l : List Oper) (st : St) (keep om : List Nat) : St := match run1 P n ops l st keep om with
  | some (_, s) => s
  | none => st
def stepOk (P : Program) (n : Nat) (ops : Array Oper) (l : List Oper) (st : St) (keep om : List Nat) : Bool := match run1 P n ops l st keep om with
  | some ([], _) => true
  | _ => false
section
variable {P : Program} {n : Nat} {A T : Type} {go : T → St} {ab : A → Ex × St} {st : St} {cs : List Code} {m : Option (A ⊕ T)}
theorem RefR.e1 (k j k' : Nat) (keep om : List Nat) {ops : Array Oper} {l : List Oper} (h : RefR P n ops (l.drop k') cs (stepSt P n ops ((l.drop k).take j) st keep om) m go ab) (hk : k' = k + j := by rfl)
    (he : stepOk P n ops ((l.drop k).take j) st keep om = true := by kernel_rfl) : RefR P n ops (l.drop k) cs st m go ab := by
  unfold stepOk at he
  unfold stepSt at h
  split at he
  · rename_i s hs
    rw [hs] at h
    exact RefR.ev0 k j k' keep om hk hs h
  · cases he
end
def stepVs (P : Program) (n : Nat) (ops : Array Oper) (l : List Oper) (st : St) (keep om : List Nat) : Option (List Bool) := (run1 P n ops l st keep om).map (·.1)
theorem step_of {P : Program} {n : Nat} {ops : Array Oper} {l : List Oper} {st : St} {keep om : List Nat} {vs : List Bool} (h : stepVs P n ops l st keep om = some vs) : run1 P n ops l st keep om = some (vs, stepSt P n ops l st keep om) := by
  unfold stepVs at h
  unfold stepSt
  cases hr : run1 P n ops l st keep om with
  | none => rw [hr] at h; cases h
  | some x =>
    obtain ⟨v, s⟩ := x
    rw [hr] at h
    simp only [Option.map_some, Option.some.injEq] at h
    subst h
    rfl
section
variable {P : Program} {n : Nat} {ops : Array Oper} {W : Nat → Bool} {A T : Type} {go : T → St} {ab : A → Ex × St} {st : St} {cs : List Code} {m : Option (A ⊕ T)}
theorem RefX.v1 (vs : List Bool) (is keep om : List Nat) {fuel fuel' : Nat} {listed : Array Bool}
    (h : RefX P n ops W fuel' ((firsts .any ops W listed is).getD listed) cs (stepSt P n ops (opsOf ops is) st keep om) m go ab) (hfu : fuel = is.length + fuel' := by rfl)
    (hf : (Region.noSelect ops && (firsts .any ops W listed is).isSome) = true := by kernel_rfl) (he : stepVs P n ops (opsOf ops is) st keep om = some vs := by kernel_rfl) : RefX P n ops W fuel listed cs st (chk vs m) go ab :=
  RefX.evC is keep om hfu hf (step_of he) h
theorem RefX.v0 (is keep om : List Nat) {fuel fuel' : Nat} {listed : Array Bool}
    (h : RefX P n ops W fuel' ((firsts .any ops W listed is).getD listed) cs (stepSt P n ops (opsOf ops is) st keep om) m go ab) (hfu : fuel = is.length + fuel' := by rfl)
    (hf : (Region.noSelect ops && (firsts .any ops W listed is).isSome) = true := by kernel_rfl) (he : stepVs P n ops (opsOf ops is) st keep om = some [] := by kernel_rfl) : RefX P n ops W fuel listed cs st m go ab :=
  RefX.evC0 is keep om hfu hf (step_of he) h
theorem RefXi.a1 (vs : List Bool) (j : Nat) (keep om : List Nat) {fuel : Nat} {listed : Array Bool}
    (h : RefX P n ops W fuel (listed.setIfInBounds j true) cs (stepSt P n ops (opsOf ops [j]) st keep om) m go ab)
    (hf : (!W j && (ops[j]?).elim false fun o => o.guard.isNone && (addsOp o.op || quietOp o.op)) = true := by kernel_rfl) (he : stepVs P n ops (opsOf ops [j]) st keep om = some vs := by kernel_rfl) : RefXi P n ops W j fuel listed cs st (chk vs m) go ab :=
  RefXi.adds j keep om hf (step_of he) h
theorem RefXi.a0 (j : Nat) (keep om : List Nat) {fuel : Nat} {listed : Array Bool}
    (h : RefX P n ops W fuel (listed.setIfInBounds j true) cs (stepSt P n ops (opsOf ops [j]) st keep om) m go ab)
    (hf : (!W j && (ops[j]?).elim false fun o => o.guard.isNone && (addsOp o.op || quietOp o.op)) = true := by kernel_rfl) (he : stepVs P n ops (opsOf ops [j]) st keep om = some [] := by kernel_rfl) : RefXi P n ops W j fuel listed cs st m go ab :=
  RefXi.adds0 j keep om hf (step_of he) h
theorem RefXi.w1 (vs : List Bool) (j : Nat) (keep om : List Nat) {fuel : Nat} {listed : Array Bool}
    (h : RefX P n ops W fuel (listed.setIfInBounds j true) cs (stepSt P n ops (opsOf ops [j]) st keep om) m go ab)
    (hf : (W j && (ops[j]?).isSome) = true := by kernel_rfl) (he : stepVs P n ops (opsOf ops [j]) st keep om = some vs := by kernel_rfl) : RefXi P n ops W j fuel listed cs st (chk vs m) go ab :=
  RefXi.writes j keep om hf (step_of he) h
end
end Go.Dl

namespace Go.Dl
variable [WInv]
open Go.RowKit
abbrev iC (x : Int) : C := .val (.int .i64 x)
def St.rm (st : St) (t : Nat) : St := ⟨eraseT t st.tmps, st.objs, st.gd, st.h⟩
def St.rms (st : St) : List (Nat × Nat) → St
  | [] => st
  | p :: u => (st.rms u).rm p.2
def unl (listed : Array Bool) : List (Nat × Nat) → Array Bool
  | [] => listed
  | p :: u => (unl listed u).setIfInBounds p.1 false
def lst (listed : Array Bool) : List (Nat × Nat) → Array Bool
  | [] => listed
  | p :: u => (lst listed u).setIfInBounds p.1 true
def RefXq (us : List (List (Nat × Nat))) (cv : List (Nat × List Bool)) (P : Program) (n : Nat) (ops : Array Oper) (W : Nat → Bool) {A T : Type} (fuel : Nat) (listed : Array Bool) (cs : List Code) (st : St) (m : Option (A ⊕ T)) (go : T → St) (ab : A → Ex × St) : Prop :=
  (∀ p ∈ cv, ∀ b ∈ p.2, b = true) → ∀ u ∈ us, RefX P n ops W (fuel + u.length) (unl listed u) cs (st.rms u) m go ab
def evs (us : List (List (Nat × Nat))) : List (List (Nat × Nat) × (Nat × Nat)) := us.flatMap fun u => (u.filter fun p => us.contains (u.erase p)).map fun p => (u, p)
def quietQ (ops : Array Oper) (W : Nat → Bool) (us : List (List (Nat × Nat))) : Bool := us.all fun u => u.all fun p => !W p.1 && (ops[p.1]?).elim false fun o => o.guard.isNone && (addsOp o.op || quietOp o.op)
def readyQ (ops : Array Oper) (us bs : List (List (Nat × Nat))) (listed : Array Bool) (l : List Nat) : Bool :=
  (evs us).all (fun q => decide ((unl listed q.1).setIfInBounds q.2.1 true = unl listed (q.1.erase q.2))) && us.all fun u => bs.contains u || (!(Region.ready .any ops (unl listed u)).isEmpty && (Region.ready .any ops (unl listed u)).all fun x => l.any (Nat.beq x) || u.any fun p => Nat.beq x p.1 && us.contains (u.erase p))
section
variable {P : Program} {n : Nat} {ops : Array Oper} {W : Nat → Bool} {A T R : Type} {go : T → St} {ab : A → Ex × St} {st st' st2 : St} {m : Option (A ⊕ T)} {cs : List Code} {j fuel fuel' : Nat} {listed : Array Bool} {us : List (List (Nat × Nat))} {cv : List (Nat × List Bool)}
theorem RefXq.core (bs : List (List (Nat × Nat))) (h0 : ∀ u ∈ bs, RefX P n ops W (fuel + u.length) (unl listed u) cs (st.rms u) m go ab) (l : List Nat) (hl : ∀ j ∈ l, ∀ u ∈ us, u ∉ bs → RefXi P n ops W j (fuel + u.length - 1) (unl listed u) cs (st.rms u) m go ab)
    (hz : bs.contains [] = true) (hr : readyQ ops us bs listed l = true) (hq : quietQ ops W us = true) (hcv : ∀ p ∈ cv, ∀ b ∈ p.2, b = true)
    (he : (evs us).map (fun q => run1 P n ops (opsOf ops [q.2.1]) (st.rms q.1) ((st.rms (q.1.erase q.2)).tmps.map Prod.fst) (List.range st.objs.length)) = (evs us).map fun q => some (lookupT [] cv q.2.1, st.rms (q.1.erase q.2))) :
    ∀ (k : Nat), ∀ u ∈ us, u.length ≤ k → RefX P n ops W (fuel + u.length) (unl listed u) cs (st.rms u) m go ab
  | k, [], hu, _ => h0 [] (by simpa using hz)
  | 0, p :: u, hu, hk => absurd hk (by simp)
  | k + 1, p :: u, hu, hk => by
    have hr' := hr
    unfold readyQ at hr
    rw [Bool.and_eq_true, List.all_eq_true, List.all_eq_true] at hr
    obtain ⟨hse, hr⟩ := hr
    by_cases hbs : (p :: u) ∈ bs
    · exact h0 _ hbs
    have h1 := hr _ hu
    have hbs' : bs.contains (p :: u) = false := by simpa using hbs
    simp only [hbs', Bool.false_or, Bool.and_eq_true, Bool.not_eq_true'] at h1
    obtain ⟨hne, h1⟩ := h1
    refine RefX.fork (fuel' := fuel + u.length) (Region.ready .any ops (unl listed (p :: u))) ?_ fun x hx => ?_
    · simp only [Bool.and_eq_true, decide_true, Bool.true_and, hne, Bool.not_false, and_true]
      simp [Nat.add_assoc]
    · rw [List.all_eq_true] at h1
      have h2 := h1 x hx
      rw [Bool.or_eq_true] at h2
      rcases h2 with h2 | h2
      · rw [List.any_eq_true] at h2
        obtain ⟨y, hy, hxy⟩ := h2
        obtain rfl := Nat.eq_of_beq_eq_true hxy
        exact hl x hy _ hu hbs
      · rw [List.any_eq_true] at h2
        obtain ⟨q, hqu, hxq⟩ := h2
        rw [Bool.and_eq_true] at hxq
        have hxq1 := Nat.eq_of_beq_eq_true hxq.1
        subst hxq1
        have hmem : (p :: u).erase q ∈ us := by simpa using hxq.2
        have hev : ((p :: u), q) ∈ evs us := by
          unfold evs
          rw [List.mem_flatMap]
          refine ⟨_, hu, ?_⟩
          rw [List.mem_map]
          exact ⟨q, List.mem_filter.2 ⟨hqu, by simpa using hmem⟩, rfl⟩
        have hst := List.map_inj_left.1 he _ hev
        dsimp only at hst
        have hlen : ((p :: u).erase q).length = u.length := by rw [List.length_erase_of_mem hqu]; simp
        have ih := RefXq.core bs h0 l hl hz hr' hq hcv he k _ hmem (by rw [hlen]; simpa using hk)
        rw [hlen] at ih
        unfold quietQ at hq
        rw [List.all_eq_true] at hq
        have hq1 := hq _ hu
        rw [List.all_eq_true] at hq1
        have hb : ∀ b ∈ lookupT [] cv q.1, b = true := by
          have : ∀ (l : List (Nat × List Bool)), (∀ p ∈ l, ∀ b ∈ p.2, b = true) → ∀ b ∈ lookupT [] l q.1, b = true := by
            intro l
            induction l with
            | nil => intro _ b hb; cases hb
            | cons z r ihh =>
              intro hz b hb
              unfold lookupT at hb
              cases hzq : Nat.beq z.1 q.1 with
              | true => rw [hzq, cond_true] at hb; exact hz z (by simp) b hb
              | false => rw [hzq, cond_false] at hb; exact ihh (fun p hp => hz p (by simp [hp])) b hb
          exact this cv hcv
        have hset : RefX P n ops W (fuel + u.length) ((unl listed (p :: u)).setIfInBounds q.1 true) cs (st.rms ((p :: u).erase q)) m go ab := by
          have hes : (unl listed (p :: u)).setIfInBounds q.1 true = unl listed ((p :: u).erase q) := by
            simpa using hse _ hev
          rw [hes]; exact ih
        have := RefXi.adds (W := W) (cs := cs) (m := m) (go := go) (ab := ab) q.1 _ _ (hq1 _ hqu) hst hset
        intro Γ S β a w hr x hx
        refine this Γ S β a w hr x ?_
        have hall : (lookupT [] cv q.1).all (fun b => b) = true := by
          rw [List.all_eq_true]; exact hb
        have hc : ∀ (l : List Bool), (l.all fun b => b) = true → chk l m = m := by
          intro l
          induction l with
          | nil => intro _; rfl
          | cons v r ih => intro h; rw [List.all_cons, Bool.and_eq_true] at h; unfold chk; rw [if_pos h.1, ih h.2]
        rw [hc _ hall]
        exact hx
theorem RefXq.close (h : RefX P n ops W fuel listed cs st m go ab) (hr : (readyQ ops us [[]] listed [] && quietQ ops W us) = true := by kernel_rfl)
    (he : (evs us).map (fun q => run1 P n ops (opsOf ops [q.2.1]) (st.rms q.1) ((st.rms (q.1.erase q.2)).tmps.map Prod.fst) (List.range st.objs.length)) = (evs us).map fun q => some (lookupT [] cv q.2.1, st.rms (q.1.erase q.2)) := by kernel_rfl) : RefXq us cv P n ops W fuel listed cs st m go ab := by
  rw [Bool.and_eq_true] at hr
  exact fun hcv u hu => RefXq.core [[]] (fun u hu => by obtain rfl := List.mem_singleton.1 hu; exact h) [] (fun j hj => by cases hj) (by simp) hr.1 hr.2 hcv he u.length u hu (Nat.le_refl _)
def keepQ (keep : List Nat) (u : List (Nat × Nat)) : List Nat := keep.filter fun x => u.all fun p => !Nat.beq x p.2
def Conv2 (us : List (List (Nat × Nat))) (n : Nat) (st st' : St) : Prop := ∀ u ∈ us, Conv n (st.rms u) (st'.rms u)
theorem Conv2.keep (l om : List Nat) (hk : st.keep l om = some st') (h2 : us.map (fun u => (st.rms u).keep (keepQ l u) om) = us.map (fun u => some (st'.rms u)) := by kernel_rfl) : Conv2 us n st st' := fun u hu => Conv.keep _ om (List.map_inj_left.1 h2 u hu)
theorem Conv2.freeze (o : Nat) (hf : st.freeze o = some st') (h2 : us.map (fun u => (st.rms u).freeze o) = us.map (fun u => some (st'.rms u)) := by kernel_rfl) : Conv2 us n st st' := fun u hu => Conv.freeze o (List.map_inj_left.1 h2 u hu)
end
end Go.Dl

namespace Go.Dl
variable [WInv]
section
variable {P : Program} {n : Nat} {ops : Array Oper} {W : Nat → Bool} {A T : Type} {go : T → St} {ab : A → Ex × St} {st : St} {m : Option (A ⊕ T)} {cs : List Code}
end
end Go.Dl

namespace Go.Dl
variable [WInv]
section
variable {P : Program} {ops : Array Oper} {W : Nat → Bool} {j t : Nat}
end
section
variable {P : Program} {n : Nat} {ops : Array Oper} {W : Nat → Bool} {A T : Type} {go : T → St} {ab : A → Ex × St} {st : St} {m : Option (A ⊕ T)} {cs : List Code}
end
end Go.Dl

namespace Go.Dl
variable [WInv]
section
variable {P : Program} {n : Nat} {A T : Type} {go : T → St} {ab : A → Ex × St} {st st' : St} {m : Option (A ⊕ T)} {cs : List Code} {c : Code}
theorem RefR.cc (t k k' : Nat) (om : List Nat) {ops : Array Oper} {l : List Oper} {f : FuncId} {cargs : List D} {R : Type} {mc : Option R} {res : R → D} {out : R → List Obj} {m : R → Option (A ⊕ T)} (hfun : DFun P f cargs (callObjs st om) mc res out)
    (h : ∀ r, RefR P n ops (l.drop k') cs (st.put (some t) ((res r).fwd om st.objs.length) (afterO om (out r) st.objs) []) (m r) go ab) (hk : (Nat.blt k l.length && Nat.beq k' (k + 1)) = true := by rfl) (hi : callInfo P n (opAt l k) st om = some (f, cargs, t) := by kernel_rfl) :
    RefR P n ops (l.drop k) cs st (mc.bind m) go ab := RefR.callC k k' om hk hi hfun h
theorem Conv.ob (o : Nat) (x : Go.Dl.Obj) (h : OLe (st.objs.getD o .dead) x) (hx : Nat.blt o st.objs.length = true := by kernel_rfl) : Conv n st (st.setObj o x) := Conv.obj o x h hx
end
end Go.Dl

namespace Go.Dl
abbrev gd {α : Type} [Inhabited α] (l : List α) (i : Int) : α := l.getD i.toNat default
variable [WInv]
section
variable {P : Program} {n : Nat} {A T : Type} {go : T → St} {ab : A → Ex × St} {st : St} {m : Option (A ⊕ T)} {cs : List Code} {c : Code}
theorem Ref.kn (l om : List Nat) {t : T} (hk : st.keep l om = some (go t) := by kernel_rfl) : Ref P n [] st (some (.inr t)) go ab := Ref.conv (Conv.keep l om hk) (Ref.nil rfl)
theorem All2.nth {R : C → C → Prop} (hR : ∀ x, R x x) {x y : C} (h : R x y) : ∀ (k : Nat) (l : List C), l[k]? = some x → All2 R l (l.set k y)
  | _, [], e => by simp at e
  | 0, z :: r, e => by
    obtain rfl : z = x := by simpa using e
    refine All2.cons h ?_
    clear e
    induction r with
    | nil => exact All2.nil
    | cons w r ih => exact All2.cons (hR w) ih
  | k + 1, z :: r, e => All2.cons (hR z) (All2.nth hR h k r (by simpa using e))
def Obj.cellsL : Obj → List C
  | .cells l => l
  | _ => []
theorem Conv.on (o k : Nat) {x y : C} (h : CLe x y) (hd : st.objs.getD o .dead = .cells (st.objs.getD o .dead).cellsL := by kernel_rfl) (hk : (st.objs.getD o .dead).cellsL[k]? = some x := by kernel_rfl) (hx : Nat.blt o st.objs.length = true := by kernel_rfl) : Conv n st (st.setObj o (.cells ((st.objs.getD o .dead).cellsL.set k y))) :=
  Conv.obj o _ (by rw [hd]; exact OLe.cells (All2.nth CLe.refl h k _ hk)) hx
end
end Go.Dl

namespace Go.Dl
abbrev Mp (α : Type) := Int → Option α
def mput {α : Type} (m : Mp α) (i : Int) (v : α) : Mp α := fun i' => bif decide (i' = i) then some v else m i'
def mno {α : Type} : Mp α := fun _ => none
theorem mput_ne {α : Type} (m : Mp α) {i j : Int} (v : α) (h : j ≠ i) : mput m i v j = m j := by simp [mput, h]
def clearL {α : Type} (l : List α) (lo n : Nat) (z : α) : List α := (List.range l.length).map fun i => bif Nat.ble lo i && Nat.blt i (lo + n) then z else l.getD i z
@[simp] theorem clearL_length {α : Type} (l : List α) (lo n : Nat) (z : α) : (clearL l lo n z).length = l.length := by simp [clearL]
variable [WInv]
variable {α : Type}
def El.mp (E : El α) (z : Value) (m : Mp α) : Obj := .map z (fun i => (m i).isSome) (fun i j => (E.cs ((m i).getD E.d)).getD j .bot)
theorem OLe.of_eq {x y : Obj} (h : x = y) : OLe x y := h ▸ OLe.refl _
theorem El.mp_no (E : El α) (z : Value) (h : (fun j => (E.cs E.d).getD j .bot) = zc z) : OLe (.map z (fun _ => false) (fun _ => zc z)) (E.mp z mno) := by
  refine OLe.of_eq ?_
  unfold El.mp mno
  rw [← h]
  rfl
theorem El.mp_put (E : El α) (z : Value) (m : Mp α) (i : Int) (v : α) {l : List C} (h : l = E.cs v) :
    OLe (.map z (fun i' => decide (i' = i) || (m i').isSome) (fun i' => bif decide (i' = i) then (fun j => l.getD j .bot) else (fun j => (E.cs ((m i').getD E.d)).getD j .bot))) (E.mp z (mput m i v)) := by
  subst h
  refine OLe.of_eq ?_
  unfold El.mp mput
  congr 1
  · funext i'
    by_cases hi : i' = i
    · subst hi; simp
    · simp [hi]
  · funext i' j
    by_cases hi : i' = i
    · subst hi; simp
    · simp [hi]
theorem El.row_clear (E : El α) (l : List α) {lo n : Nat} {z : List C} (hz : z = E.cs E.d) :
    OLe (.row E.ty E.w l.length fun i j => bif Nat.ble lo i && Nat.blt i (lo + n) then z.getD j .bot else E.at l i j) (E.row (clearL l lo n E.d)) := by
  subst hz
  refine OLe.row (clearL_length l _ _ _).symm fun i j hi _ => ?_
  have e : (clearL l lo n E.d).getD i E.d = bif Nat.ble lo i && Nat.blt i (lo + n) then E.d else l.getD i E.d := by
    unfold clearL
    rw [List.getD, List.getElem?_map, List.getElem?_range hi]
    rfl
  unfold El.at
  rw [e]
  cases hc : (Nat.ble lo i && Nat.blt i (lo + n)) with
  | true => exact CLe.refl _
  | false => exact CLe.refl _
theorem El.row_take (E : El α) (xs : List α) {h : Nat} (hh : h ≤ xs.length) : OLe (.row E.ty E.w h (E.at xs)) (E.row (xs.take h)) := by
  refine OLe.row (by simp; omega) fun i j hi _ => ?_
  unfold El.at
  have : (xs.take h).getD i E.d = xs.getD i E.d := by simp [List.getD, List.getElem?_take, hi]
  rw [this]
  exact CLe.refl _
theorem take_len {xs : List α} {h : Nat} (hh : h ≤ xs.length) : h = (xs.take h).length := by simp; omega
theorem Core.cut {Γ : Ctx} {S : Mem} {β : Bmap} {w : World} {xs : List Obj} (h : Core Γ S β w xs) {o e wd n m : Nat} {get : Nat → Nat → C} {v : Value} (ho : xs[o]? = some (.row e wd n get)) (hv : CRel S β (.own o m) v) :
    ∃ x, BLe β (bset β xs.length x) ∧ Core Γ S (bset β xs.length x) w (xs.set o .dead ++ [.row e wd m get]) ∧ CRel S (bset β xs.length x) (.own xs.length m) v := by
  have hlen : (xs.set o .dead).length = xs.length := by simp
  have hk := h.kill o
  have hrow := h.objs o _ ho
  simp only [CRel] at hv
  rcases hrow with ⟨h1, h2⟩ | ⟨k, h1, h2, h3, h4, h5, h6, cur, h7, h8, h9⟩
  · rw [h1] at hv
    obtain ⟨rfl, rfl⟩ := hv
    have := hk.push (.map #[] 0) (.row e wd 0 get) none (.inl ⟨rfl, rfl⟩) (by rw [hlen]; exact .inl ⟨bset_same _ _ _, rfl⟩)
    rw [hlen] at this
    refine ⟨none, this.2, this.1, ?_⟩
    simp [CRel, bset_same]
  · rw [h1] at hv
    obtain ⟨hm, hc, rfl⟩ := hv
    have hb := h.mine o k _ ho rfl h1
    have := hk.join (.row e wd m get) { k with n := m } rfl rfl rfl (Nat.le_refl _) (fun _ _ _ => rfl) hb.1 hb.2 (fun q => h.sep o k _ ho rfl h1 q)
      (fun o' k' y hy hl hk' => by
        have hne : o' ≠ o := by
          rintro rfl
          have hlt : o' < xs.length := (List.getElem?_eq_some_iff.1 ho).1
          rw [List.getElem?_set_self hlt] at hy
          simp only [Option.some.injEq] at hy
          subst hy
          cases hl
        rw [List.getElem?_set_ne (Ne.symm hne)] at hy
        exact h.inj o' o k' k y _ hy ho hl rfl hk' h1 hne)
      (by
        rw [hlen]
        refine .inr ⟨{ k with n := m }, bset_same _ _ _, h2, h3, rfl, hc, h6, cur, h7, h8, fun i j hi hj => h9 i j (by omega) hj⟩)
    rw [hlen] at this
    refine ⟨_, this.2, this.1, ?_⟩
    simp only [CRel, bset_same]
    exact ⟨Nat.le_refl _, hc, trivial⟩
section
variable {P : Program} {n : Nat} {ops : Array Oper} {W : Nat → Bool} {A T R : Type} {go : T → St} {ab : A → Ex × St} {st st' : St} {m : Option (A ⊕ T)} {cs : List Code} {c : Code}
def St.cut (st : St) (t : Nat) : Option St :=
  match st.get t with
  | .c (.own o m) =>
    (match st.objs[o]? with
    | some (.row e w _ get) => bif Nat.ble st.h st.objs.length && st.gd.isEmpty then some ⟨(t, .c (.own st.objs.length m)) :: eraseT t st.tmps, st.objs.set o .dead ++ [.row e w m get], [], st.h⟩ else none
    | _ => none)
  | _ => none
theorem Conv.cut (t : Nat) (hm : st.cut t = some st') : Conv n st st' := by
  intro Γ S β a w hr
  unfold St.cut at hm
  split at hm
  · rename_i o m hg
    split at hm
    · rename_i e wd k get ho
      obtain ⟨hc, hm⟩ := some_of_cond hm
      simp only [Option.some.injEq] at hm
      subst hm
      simp only [Bool.and_eq_true] at hc
      have hh := Nat.le_of_ble_eq_true hc.1
      have hgd : st.gd = [] := by simpa using hc.2
      have tm : ∀ q, DRel S β (st.get q) (a.tmps.getD q undef) := fun q => hr.tm q (by unfold St.gof; rw [hgd]; intro x hx; cases hx)
      have hv := tm t
      rw [hg] at hv
      obtain ⟨x, hle, hco, hr2⟩ := hr.core.cut ho hv
      refine ⟨S, _, hco, fun q _ => ?_, fun q hq => absurd (fun x hx => by cases hx) hq, hr.size, hr.defers, fun q k hq hB => hle _ _ (hr.hand q k hq hB)⟩
      have hget : St.get ⟨(t, .c (.own st.objs.length m)) :: eraseT t st.tmps, st.objs.set o .dead ++ [.row e wd m get], [], st.h⟩ q = if q = t then .c (.own st.objs.length m) else st.get q := by
        unfold St.get
        simp only [lookupT]
        by_cases h : q = t
        · subst h
          rw [Nat.beq_refl, cond_true, if_pos rfl]
        · have hb : Nat.beq t q = false := by
            cases hq : Nat.beq t q with
            | false => rfl
            | true => exact absurd (Nat.eq_of_beq_eq_true hq).symm h
          rw [hb, cond_false, if_neg h, lookup_erase h]
      rw [hget]
      by_cases h : q = t
      · subst h; rw [if_pos rfl]; exact hr2
      · rw [if_neg h]; exact DRel.up (MLe.refl _) hle (tm q)
    · cases hm
  · cases hm
end
end Go.Dl

namespace Go.Dl
variable [WInv]
section
variable {P : Program} {n : Nat} {A T : Type} {go : T → St} {ab : A → Ex × St} {st : St} {m : Option (A ⊕ T)} {cs : List Code}
theorem RefR.testC (b : Bool) {ops : Array Oper} {l : List Oper} (h : b = true → RefR P n ops l cs st m go ab) : RefR P n ops l cs st (chk [b] m) go ab := by
  intro Γ S β a w hr x hx
  obtain ⟨hb, hm⟩ := chk_some hx
  exact h (hb b (by simp)) Γ S β a w hr x hm
end
theorem DFun.sortInts {P : Program} {f : FuncId} (E : El Int) (hE : E.cs = fun x => [.val (.int .i64 x)]) (hw : E.w = 1)
    (h1 : ∀ (blk off cap : Nat) (zs : List Int) (w : World), Sort.Holds (Value.int .i64) w blk off zs.toArray → blk < w.heap.size → zs.length < 4611686018427387904 →
      Calls P f #[.slice (some ⟨blk, off, none⟩) zs.length cap] w fun e w' => e = .returned (.tuple #[]) ∧ ∃ n os, w' = Sort.grow (Sort.putRow (Value.int .i64) (Sort.ahead w n) blk off (zs.mergeSort fun x y => decide (x ≤ y)).toArray) os)
    (h0 : ∀ (p : Option Addr) (cap : Nat) (w : World), Calls P f #[.slice p 0 cap] w fun e w' => e = .returned (.tuple #[]) ∧ w' = w) (a : List Int) :
    DFun P f [.c (.own 0 a.length)] [E.row a] (if a.length < 4611686018427387904 then some (a.mergeSort fun x y => decide (x ≤ y)) else none) (fun _ => .tup []) (fun r => [E.row r]) := by
  intro S β w vs hc hv r hr
  split at hr
  · rename_i hlen
    simp only [Option.some.injEq] at hr
    subst hr
    obtain ⟨v, rest, rfl, hv, hrest⟩ := hv
    obtain rfl : rest = [] := hrest
    have hrow := hc.objs 0 _ rfl
    simp only [DRel, CRel] at hv
    rcases hrow with ⟨hk, hn⟩ | ⟨k, hk, h2, h3, h4, h5, h6, cur, h7, h8, h9⟩
    · rw [hk] at hv
      obtain ⟨_, rfl⟩ := hv
      have ha : a = [] := List.length_eq_zero_iff.1 hn
      subst ha
      refine (h0 none 0 w).mono fun e w' he => ?_
      obtain ⟨rfl, rfl⟩ := he
      refine ⟨_, S, β, rfl, ⟨[], rfl, rfl⟩, fun _ _ _ h => h, ?_⟩
      simpa using hc
    · rw [hk] at hv
      obtain ⟨_, hcap, rfl⟩ := hv
      have hb := hc.mine 0 k _ rfl rfl hk
      have hw1 : k.w = 1 := h3.trans hw
      have hcell : ∀ j, j < a.length → cur[j]? = some (.int .i64 (a.getD j 0)) := by
        intro j hj
        obtain ⟨u, hu, _, hr⟩ := h9 j 0 hj (by rw [hw]; omega)
        rw [hw] at hu
        simp only [El.at, hE, CRel, List.getD_cons_zero] at hr
        subst hr
        rw [show j * 1 + 0 = j by omega] at hu
        rw [hu, getD_lt (l := a) E.d 0 hj]
      have hH : Sort.Holds (Value.int .i64) w k.b 0 a.toArray := by
        intro j hj
        simp at hj
        have hlt : j < cur.size := by rw [h8, hw]; omega
        refine ⟨?_, by simp [World.frozen?, h7]⟩
        have := hcell j hj
        simp only [World.cell?, h7, Nat.zero_add, this]
        congr 1
        simp [List.getD, hj]
      refine (h1 k.b 0 k.cap a w hH hb.1 hlen).mono fun e w' he => ?_
      obtain ⟨rfl, n, os, rfl⟩ := he
      have hsz : (a.mergeSort fun x y => decide (x ≤ y)).length = a.length := List.length_mergeSort _
      have hheap : ∀ b, (Sort.putRow (Value.int .i64) (Sort.ahead w n) k.b 0 (a.mergeSort fun x y => decide (x ≤ y)).toArray).heap[b]? = if b = k.b then some (.cells (Sort.putCells (Value.int .i64) 0 (a.mergeSort fun x y => decide (x ≤ y)).toArray cur) E.ty (0, 0)) else w.heap[b]? := by
        intro b
        unfold Sort.putRow Sort.mapBlock
        simp only [Sort.heap_ahead, Array.getElem?_modify]
        by_cases h : k.b = b
        · subst h; simp [h7, Sort.onCells]
        · rw [if_neg h, if_neg (Ne.symm h)]
      have hw2 : Core ⟨S, w, Mof β [E.row a], β⟩ S β (Sort.putRow (Value.int .i64) (Sort.ahead w n) k.b 0 (a.mergeSort fun x y => decide (x ≤ y)).toArray) [E.row (a.mergeSort fun x y => decide (x ≤ y))] := by
        refine hc.write 0 (E.row a) (E.row _) k rfl rfl hk rfl rfl rfl (by simp) (fun b hb => by rw [hheap, if_neg hb]) ?_
        refine .inr ⟨k, hk, h2, h3, by rw [h4, hsz], by rw [hsz]; exact h5, h6, _, by rw [hheap, if_pos rfl], by simp [Sort.putCells, h8], fun i j hi hj => ?_⟩
        rw [hw] at hj
        obtain rfl : j = 0 := by omega
        rw [hsz] at hi
        have hlt : i < cur.size := by rw [h8, hw]; omega
        refine ⟨.int .i64 ((a.mergeSort fun x y => decide (x ≤ y)).getD i 0), ?_, rfl, ?_⟩
        · rw [hw, show i * 1 + 0 = i by omega]
          unfold Sort.putCells
          rw [Array.getElem?_mapIdx, Array.getElem?_eq_getElem hlt]
          simp only [Option.map_some, Nat.zero_le, true_and, Nat.zero_add, List.size_toArray, hsz, hi, if_true, Nat.sub_zero]
          congr 2
          simp [List.getD, hsz, hi]
        · simp only [El.at, hE, CRel, List.getD_cons_zero]
          rw [getD_lt (l := a.mergeSort fun x y => decide (x ≤ y)) E.d 0 (by omega)]
      refine ⟨_, S, β, rfl, ⟨[], rfl, rfl⟩, fun _ _ _ h => h, ?_⟩
      exact hw2.newer rfl rfl rfl (by simp) fun b hb => Sort.heap_grow_old _ _ hb
  · cases hr
end Go.Dl
