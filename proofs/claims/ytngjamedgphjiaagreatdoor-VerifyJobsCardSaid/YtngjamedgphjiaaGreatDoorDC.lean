/- Bytes and texts; operations by rules of their own; functions that are known by the kit's contracts. Regions whose order is open: what looks at slots alone may be taken first, whatever the others write. More rules that a program prints: open regions that look at memory; handed objects that move; pointers to oneself. An error as data: a code and a place. strings.Builder: a struct that names itself. A function that is known by a contract and hands back a slice of its own making. Functions that are known by a contract; a function at the start of a call. A test that is known to hold; an operation whose guard holds. Values that are in themselves: their cells as they lie in one, and as elements. Regions whose order is open: an operation that makes a block, alone in its turn. A place that was tested. The rules in short: what is decided by computing stands behind. Regions whose order is open: one of several that are ready, each in its turn. Rows of bytes that come of a text: the conversion, and bytes put behind. A literal row under a guard; a function's results without what it leaves in memory. Regions whose order is open: calls that write what they are handed; what is behind the region, once for all orders. Steps whose state is not told. Regions whose order is open: what only looks and may come at any time is told once, as if it came first. Regions of open order: what is told of tests; a guard that is said to hold. Regions of open order: a guard that holds, what hangs on it stands under none. More rules in short. Rules of regions in short. Rules for maps, for rows that are cut, cleared, or come back behind a call. slices.Sort of numbers: the kit's contract in D's words. No conditions. -/
import Derived.Test.YtngjamedgphjiaaGreatDoorDB
import Derived.Laws.BytesString
import Derived.KernelRfl
import Derived.Laws.IdiomStrings
import Derived.Laws.CopyRow
import Derived.Sort.Grow
set_option linter.unusedVariables false
set_option linter.unusedSimpArgs false
set_option linter.unusedSectionVars false
set_option linter.constructorNameAsVariable false
namespace Go.Dl
variable [WInv]
structure IsB (e : Int) : Prop where
  lo : 0 ≤ e
  hi : e < 256
section
variable {P : Program} {n : Nat} {A T R : Type} {go : T → St} {ab : A → Ex × St} {st st' : St} {m : Option (A ⊕ T)} {cs : List Code}
theorem DFun.of_calls {f : FuncId} {args : List D} {mr : Option R} {res : R → D}
    (h : ∀ S β w vs, WInv.I w → VRel S β args vs → ∀ r, mr = some r → Calls P f vs.toArray w fun e w' => ∃ v, e = .returned v ∧ DRel S β (res r) v ∧ Up w w') : DFun P f args [] mr res (fun _ => []) := by
  intro S β w vs hc hv r hr
  refine (h S β w vs hc.inv hv r hr).mono fun e w' ⟨v, he, hd, hu⟩ => ⟨v, S, β, he, hd, fun o k ho _ => by simp at ho, hc.newer hu.os hu.tape hu.output hu.size hu.block⟩
end
end Go.Dl

namespace Go.Dl
variable [WInv]
def firstsP (ops : Array Oper) : Array Bool → List Nat → Option (Array Bool)
  | listed, [] => some listed
  | listed, i :: r =>
    bif (Region.ready .any ops listed).contains i && (Region.free .any ops listed i && (ops[i]?).elim false fun o => pureOp o.op && quietOp o.op) then firstsP ops (listed.setIfInBounds i true) r else none
def RefY (P : Program) (n : Nat) (ops : Array Oper) {A T : Type} (fuel : Nat) (listed : Array Bool) (cs : List Code) (st : St) (m : Option (A ⊕ T)) (go : T → St) (ab : A → Ex × St) : Prop :=
  ∀ Γ S β a w, RR Γ S β a w n st → ∀ x, m = some x → wpAny P .any ops (Exit.then (wpL P cs (Post Γ n go ab x)) (Post Γ n go ab x)) fuel listed a w
section
variable {P : Program} {n : Nat} {ops : Array Oper}
theorem wpAny_evs {Q : Exit → Act → World → Prop} {Γ : Ctx} {S : Mem} {β : Bmap} {w : World} {fuel : Nat} {listed' : Array Bool} {st2 : St} (hQ : ∀ c a w, ¬ Q (.panic c) a w) (hsel : Region.noSelect ops = true) :
    ∀ {is : List Nat} {listed : Array Bool} {st : St} {vs : List Bool} {a : Act},
    RR Γ S β a w n st → firstsP ops listed is = some listed' → evOps P n ops (opsOf ops is) st = some (vs, st2) → (∀ b ∈ vs, b = true) →
    (∀ a', RR Γ S β a' w n st2 → wpAny P .any ops Q fuel listed' a' w) → wpAny P .any ops Q (is.length + fuel) listed a w
  | [], listed, st, vs, a, hr, hf, he, hvs, hk => by
    simp only [firstsP, Option.some.injEq] at hf
    subst hf
    simp only [opsOf, List.filterMap_nil, evOps, Option.some.injEq, Prod.mk.injEq] at he
    obtain ⟨_, rfl⟩ := he
    rw [List.length_nil, Nat.zero_add]
    exact hk a hr
  | i :: r, listed, st, vs, a, hr, hf, he, hvs, hk => by
    unfold firstsP at hf
    obtain ⟨hc, hf⟩ := some_of_cond hf
    simp only [Bool.and_eq_true] at hc
    obtain ⟨hrd, hfree, hq⟩ := hc
    cases ho : ops[i]? with
    | none => rw [ho] at hq; cases hq
    | some o =>
      rw [ho] at hq
      simp only [Option.elim, Bool.and_eq_true] at hq
      obtain ⟨hp, hq⟩ := hq
      have hops : opsOf ops (i :: r) = o :: opsOf ops r := by simp [opsOf, ho]
      rw [hops] at he
      unfold evOps at he
      split at he
      · rename_i v st1 h1
        split at he
        · rename_i vs2 st3 h2
          simp only [Option.some.injEq, Prod.mk.injEq] at he
          obtain ⟨rfl, rfl⟩ := he
          have hv1 : ∀ b ∈ v, b = true := fun b hb => hvs b (List.mem_append_left _ hb)
          have hv2 : ∀ b ∈ vs2, b = true := fun b hb => hvs b (List.mem_append_right _ hb)
          rw [List.length_cons, show r.length + 1 + fuel = (r.length + fuel) + 1 by omega]
          rcases evStep_cases hr h1 hv1 with ⟨hw, u, w', S', β', _, hrr, hqq⟩ | ⟨hw, hrr⟩
          · obtain ⟨rfl, rfl, rfl, hrun⟩ := hqq hq
            exact wpAny_take ho hsel hfree hrd (fun c a w h => absurd h (hQ c _ w)) (.inl ⟨hw, fun w2 => hrun w2 (.inl hp)⟩) (wpAny_evs hQ hsel hrr hf h2 hv2 hk)
          · exact wpAny_take ho hsel hfree hrd (fun c a w h => absurd h (hQ c _ w)) (.inr ⟨hw, rfl⟩) (wpAny_evs hQ hsel hrr hf h2 hv2 hk)
        · cases he
      · cases he
theorem wpAny_of_seq {Q' : Exit → Act → World → Prop} : ∀ (js : List Nat) (listed : Array Bool) (a : Act) (w : World), seqL .any ops listed js = true → (js.all fun j => (ops[j]?).isSome) = true →
    wpList P ops Q' (opsOf ops js) a w → wpAny P .any ops Q' js.length listed a w
  | [], listed, a, w, hs, _, h => ⟨by simpa [seqL] using hs, h⟩
  | j :: r, listed, a, w, hs, hW, h => by
    simp only [seqL, Bool.and_eq_true, decide_eq_true_eq] at hs
    simp only [List.all_cons, Bool.and_eq_true] at hW
    refine ⟨fun h1 => (by rw [hs.1] at h1; cases h1), fun i hi => ?_⟩
    rw [hs.1] at hi
    have hik : i = j := by simpa using hi
    subst hik
    obtain ⟨o, ho⟩ := Option.isSome_iff_exists.1 hW.1
    have hops : opsOf ops (i :: r) = o :: opsOf ops r := by simp [opsOf, ho]
    rw [hops] at h
    have hw : wpOp P ops Q' i (wpList P ops Q' (opsOf ops r)) a w := by unfold wpOp; simp only [ho]; exact h
    exact wpOp_mono (fun a' w' h' => wpAny_of_seq r _ a' w' hs.2 (by rw [List.all_eq_true]; simpa using hW.2) h') hw
variable {A T : Type} {go : T → St} {ab : A → Ex × St} {st : St} {m : Option (A ⊕ T)} {cs : List Code} {c : Code}
theorem Post.no_panic {Γ : Ctx} {x : A ⊕ T} {K : Act → World → Prop} : ∀ c a w, ¬ Exit.then K (Post Γ n go ab x) (.panic c) a w := by
  intro c a w h
  have h' : Post Γ n go ab x (.panic c) a w := h
  cases x with
  | inl t =>
    have := h'.1
    cases hx : (ab t).1 <;> rw [hx] at this <;> cases this
  | inr t => cases h'.1
theorem Ref.drawnY (id : Nat) (h : c = .region id (rg c) true) (hm : P.follows .mixedOrders = true)
    (hr : RefY P n (rg c) (rg c).size (Array.replicate (rg c).size false) cs st m go ab) : Ref P n (c :: cs) st m go ab := by
  rw [h]
  intro Γ S β a w hrr x hx
  refine wp_region_any hm (hr Γ S β a _ ?_ x hx)
  exact ⟨hrr.core.drew, hrr.tm, hrr.un, hrr.size, hrr.defers, hrr.hand⟩
theorem RefY.ev (is keep om : List Nat) {fuel fuel' : Nat} {listed listed' : Array Bool} {vs : List Bool} {st' : St} (hfu : fuel = is.length + fuel')
    (hf : (bif Region.noSelect ops then firstsP ops listed is else none) = some listed') (he : run1 P n ops (opsOf ops is) st keep om = some (vs, st'))
    (h : RefY P n ops fuel' listed' cs st' m go ab) : RefY P n ops fuel listed cs st (chk vs m) go ab := by
  intro Γ S β a w hr x hx
  obtain ⟨hvs, hm⟩ := chk_some hx
  obtain ⟨hsel, hf⟩ := some_of_cond hf
  subst hfu
  unfold run1 at he
  split at he
  · rename_i vs2 st2 h2
    cases hk : st2.keep keep om with
    | none => rw [hk] at he; cases he
    | some st3 =>
      rw [hk] at he
      simp only [Option.map_some, Option.some.injEq, Prod.mk.injEq] at he
      obtain ⟨rfl, rfl⟩ := he
      exact wpAny_evs Post.no_panic hsel hr hf h2 hvs fun a' h' => h Γ S (bren β om) a' w (keep_sound h' hk) x hm
  · cases he
theorem RefY.evC (is keep om : List Nat) {fuel fuel' : Nat} {listed : Array Bool} {vs : List Bool} {st' : St} (hfu : fuel = is.length + fuel')
    (hf : (Region.noSelect ops && (firstsP ops listed is).isSome) = true) (he : run1 P n ops (opsOf ops is) st keep om = some (vs, st'))
    (h : RefY P n ops fuel' ((firstsP ops listed is).getD listed) cs st' m go ab) : RefY P n ops fuel listed cs st (chk vs m) go ab := by
  rw [Bool.and_eq_true] at hf
  obtain ⟨l', hl⟩ := Option.isSome_iff_exists.1 hf.2
  rw [hl] at h
  exact RefY.ev is keep om hfu (by rw [hf.1, cond_true]; exact hl) he h
theorem RefY.evC0 (is keep om : List Nat) {fuel fuel' : Nat} {listed : Array Bool} {st' : St} (hfu : fuel = is.length + fuel')
    (hf : (Region.noSelect ops && (firstsP ops listed is).isSome) = true) (he : run1 P n ops (opsOf ops is) st keep om = some ([], st'))
    (h : RefY P n ops fuel' ((firstsP ops listed is).getD listed) cs st' m go ab) : RefY P n ops fuel listed cs st m go ab :=
  fun Γ S β a w hr x hx => RefY.evC (vs := []) is keep om hfu hf he h Γ S β a w hr x hx
theorem RefY.tail (js : List Nat) {fuel : Nat} {listed : Array Bool} (hfu : fuel = js.length) (hs : (seqL .any ops listed js && js.all fun j => (ops[j]?).isSome) = true)
    (h : RefR P n ops ((opsOf ops js).drop 0) cs st m go ab) : RefY P n ops fuel listed cs st m go ab := by
  intro Γ S β a w hr x hx
  rw [Bool.and_eq_true] at hs
  subst hfu
  exact wpAny_of_seq js listed a w hs.1 hs.2 (h Γ S β a w hr x hx)
theorem RefY.toX (W : List Nat) {fuel : Nat} {listed : Array Bool} (h : RefX P n ops (inW W) fuel listed cs st m go ab) : RefY P n ops fuel listed cs st m go ab :=
  fun Γ S β a w hr x hx => wpAny_of_x _ _ _ _ (h Γ S β a w hr x hx)
def letV {X Y : Type} (v : X) (f : X → Y) : Y := f v
theorem RefR.letC {X : Type} {v : X} {l : List Oper} {stf : X → St} {mf : X → Option (A ⊕ T)} (h0 : stf v = st) (h : ∀ x, RefR P n ops l cs (stf x) (mf x) go ab) : RefR P n ops l cs st (letV v mf) go ab := h0 ▸ h v
theorem bndOk_le {n : Nat} {l h : Int} (hb : bndOk n l h = true) : h.toNat ≤ n := by
  simp only [bndOk, Bool.and_eq_true, decide_eq_true_eq] at hb
  omega
end
end Go.Dl

namespace Go.Dl
variable [WInv]
section
variable {P : Program} {n : Nat} {ops : Array Oper} {W : Nat → Bool} {A T R : Type} {go : T → St} {ab : A → Ex × St} {st st' : St} {m : Option (A ⊕ T)} {cs : List Code} {c : Code}
theorem RefX.evC (is keep om : List Nat) {fuel fuel' : Nat} {listed : Array Bool} {vs : List Bool} {st' : St} (hfu : fuel = is.length + fuel')
    (hf : (Region.noSelect ops && (firsts .any ops W listed is).isSome) = true) (he : run1 P n ops (opsOf ops is) st keep om = some (vs, st'))
    (h : RefX P n ops W fuel' ((firsts .any ops W listed is).getD listed) cs st' m go ab) : RefX P n ops W fuel listed cs st (chk vs m) go ab := by
  rw [Bool.and_eq_true] at hf
  obtain ⟨l', hl⟩ := Option.isSome_iff_exists.1 hf.2
  rw [hl] at h
  exact RefX.ev is keep om hfu (by rw [hf.1, cond_true]; exact hl) he h
theorem RefX.evC0 (is keep om : List Nat) {fuel fuel' : Nat} {listed : Array Bool} {st' : St} (hfu : fuel = is.length + fuel')
    (hf : (Region.noSelect ops && (firsts .any ops W listed is).isSome) = true) (he : run1 P n ops (opsOf ops is) st keep om = some ([], st'))
    (h : RefX P n ops W fuel' ((firsts .any ops W listed is).getD listed) cs st' m go ab) : RefX P n ops W fuel listed cs st m go ab :=
  fun Γ S β a w hr x hx => RefX.evC (vs := []) is keep om hfu hf he h Γ S β a w hr x hx
theorem RefX.letC {X : Type} {v : X} {fuel : Nat} {listed : Array Bool} {stf : X → St} {mf : X → Option (A ⊕ T)} (h0 : stf v = st) (h : ∀ x, RefX P n ops W fuel listed cs (stf x) (mf x) go ab) : RefX P n ops W fuel listed cs st (letV v mf) go ab := h0 ▸ h v
def moveC (o o' : Nat) : C → C
  | .own q n => bif Nat.beq q o then .own o' n else .own q n
  | c => c
def St.move (st : St) (o : Nat) : Option St :=
  match st.objs[o]? with
  | some (.row e w k get) => some ⟨st.tmps.map fun p => (p.1, p.2.sub (moveC o st.objs.length)), (st.objs.set o .dead).map (Obj.sub (moveC o st.objs.length)) ++ [.row e w k get], st.gd, st.h⟩
  | _ => none
theorem C.move_rel {S : Mem} {β β' : Bmap} {o o' : Nat} (hle : BLe β β') (ho : β' o' = β o) : ∀ {c : C} {v : Value}, CRel S β c v → CRel S β' (c.sub (moveC o o')) v := by
  intro c
  induction c with
  | own q k =>
    intro v hv
    simp only [C.sub, moveC]
    cases hb : Nat.beq q o with
    | true =>
      have := Nat.eq_of_beq_eq_true hb
      subst this
      rw [cond_true]
      simp only [CRel, ho] at hv ⊢
      exact hv
    | false => rw [cond_false]; exact CRel.grow _ hle _ hv
  | ptr q i j => intro v hv; exact CRel.grow _ hle _ hv
  | self t b q => intro v hv; exact CRel.grow (.self t b q) hle _ hv
  | map q => intro v hv; exact CRel.grow (.map q) hle _ hv
  | tail q lo k => intro v hv; exact CRel.grow (.tail q lo k) hle _ hv
  | opt b c ih =>
    intro v hv
    simp only [C.sub, CRel] at hv ⊢
    split at hv
    · rename_i h; rw [if_pos h]; exact ih hv
    · rename_i h; rw [if_neg h]; exact hv
  | iface b t c ih =>
    intro v hv
    simp only [C.sub, CRel] at hv ⊢
    split at hv
    · rename_i h; rw [if_pos h]; obtain ⟨u, hu, hr⟩ := hv; exact ⟨u, hu, ih hr⟩
    · rename_i h; rw [if_neg h]; exact hv
  | func fn k cap ih =>
    rintro v ⟨vs, h1, h2, h3⟩
    refine ⟨vs, h1, h2, fun i hi => ?_⟩
    have : (((List.range k).map fun i => (cap i).sub (moveC o o')).getD i .bot) = (cap i).sub (moveC o o') := by
      simp [List.getD, hi]
    show CRel S β' (((List.range k).map fun i => (cap i).sub (moveC o o')).getD i .bot) _
    rw [this]
    exact ih i (h3 i hi)
  | cond b c ih =>
    intro v hv hb
    exact ih (hv hb)
  | _ => intro v hv; exact hv
theorem D1.move_rel {S : Mem} {β β' : Bmap} {o o' : Nat} (hle : BLe β β') (ho : β' o' = β o) {d : D1} {v : Value} (h : D1Rel S β d v) : D1Rel S β' (d.sub (moveC o o')) v := by
  cases d with
  | c x => exact C.move_rel hle ho h
  | agg l => obtain ⟨vs, h1, h2⟩ := h; exact ⟨vs, h1, h2.map _ fun _ _ h => C.move_rel hle ho h⟩
theorem D.move_rel {S : Mem} {β β' : Bmap} {o o' : Nat} (hle : BLe β β') (ho : β' o' = β o) {d : D} {v : Value} (h : DRel S β d v) : DRel S β' (d.sub (moveC o o')) v := by
  cases d with
  | c x => exact C.move_rel hle ho h
  | agg l => obtain ⟨vs, h1, h2⟩ := h; exact ⟨vs, h1, h2.map _ fun _ _ h => C.move_rel hle ho h⟩
  | tup l => obtain ⟨vs, h1, h2⟩ := h; exact ⟨vs, h1, h2.map _ fun _ _ h => D1.move_rel hle ho h⟩
theorem lookup_sub (f : C → C) (t : Nat) : ∀ (l : List (Nat × D)), lookupT (D.c .bot) (l.map fun p => (p.1, p.2.sub f)) t = (lookupT (D.c .bot) l t).sub f
  | [] => rfl
  | (i, d) :: r => by
    rw [List.map_cons]
    simp only [lookupT]
    cases hb : Nat.beq i t with
    | true => rfl
    | false => rw [cond_false, cond_false]; exact lookup_sub f t r
theorem sub_bool {d : D} {f : C → C} {b : Bool} (hf : ∀ q n, f (.own q n) ≠ .val (.bool b)) (hp : ∀ q i j, f (.ptr q i j) ≠ .val (.bool b)) : d.sub f = .c (.val (.bool b)) ↔ d = .c (.val (.bool b)) := by
  constructor
  · intro h
    cases d with
    | c x =>
      simp only [D.sub, D.c.injEq] at h
      cases x with
      | val u => simp only [C.sub] at h; rw [h]
      | own o m => simp only [C.sub] at h; exact absurd h (hf _ _)
      | ptr o i j => simp only [C.sub] at h; exact absurd h (hp _ _ _)
      | _ => simp only [C.sub] at h; cases h
    | agg l => cases h
    | tup l => cases h
  · rintro rfl; rfl
theorem Conv.move (o : Nat) (hm : st.move o = some st') (hh : Nat.ble st.h st.objs.length = true) : Conv n st st' := by
  have hh := Nat.le_of_ble_eq_true hh
  intro Γ S β a w hr
  unfold St.move at hm
  split at hm
  · rename_i e wd k get ho
    simp only [Option.some.injEq] at hm
    subst hm
    have hlt : o < st.objs.length := by
      rcases Nat.lt_or_ge o st.objs.length with h1 | h1
      · exact h1
      · rw [List.getElem?_eq_none h1] at ho; cases ho
    have hrow := hr.core.objs o _ ho
    obtain ⟨x, hx⟩ : ∃ x, β o = some x := by
      rcases hrow with ⟨h1, _⟩ | ⟨k, h1, _⟩
      · exact ⟨_, h1⟩
      · exact ⟨_, h1⟩
    have hle : BLe β (bset β st.objs.length x) := BLe.bset (hr.core.out _ (Nat.le_refl _))
    have hnew : bset β st.objs.length x st.objs.length = β o := by unfold bset; rw [if_pos rfl, hx]
    have hold : ∀ q, q < st.objs.length → bset β st.objs.length x q = β q := fun q hq => by unfold bset; rw [if_neg (by omega)]
    have get' : ∀ (q : Nat) (y : Obj), ((st.objs.set o .dead).map (Obj.sub (moveC o st.objs.length)) ++ [Obj.row e wd k get])[q]? = some y → y.live = true →
        ∃ q0 y0, st.objs[q0]? = some y0 ∧ y0.live = true ∧ bset β st.objs.length x q = β q0 ∧ (q = st.objs.length ∧ q0 = o ∧ y = .row e wd k get ∨ q = q0 ∧ q ≠ o ∧ y = y0.sub (moveC o st.objs.length)) := by
      intro q y hy hl
      rcases getElem?_concat _ _ _ _ hy with hy | ⟨h1, rfl⟩
      · rw [List.getElem?_map] at hy
        by_cases hq : q = o
        · subst hq
          rw [List.getElem?_set_self hlt] at hy
          simp only [Option.map_some, Option.some.injEq] at hy
          subst hy
          cases hl
        · rw [List.getElem?_set_ne (Ne.symm hq)] at hy
          cases hz : st.objs[q]? with
          | none => rw [hz] at hy; cases hy
          | some z =>
            rw [hz] at hy
            simp only [Option.map_some, Option.some.injEq] at hy
            subst hy
            have hql : q < st.objs.length := by
              rcases Nat.lt_or_ge q st.objs.length with h1 | h1
              · exact h1
              · rw [List.getElem?_eq_none h1] at hz; cases hz
            refine ⟨q, z, hz, ?_, hold q hql, .inr ⟨rfl, hq, rfl⟩⟩
            cases z <;> first | rfl | exact hl
      · simp only [List.length_map, List.length_set] at h1
        subst h1
        exact ⟨o, _, ho, rfl, hnew, .inl ⟨rfl, rfl, rfl⟩⟩
    have hgd : ∀ t, St.gof ⟨st.tmps.map fun p => (p.1, p.2.sub (moveC o st.objs.length)), (st.objs.set o .dead).map (Obj.sub (moveC o st.objs.length)) ++ [.row e wd k get], st.gd, st.h⟩ t = st.gof t := fun t => rfl
    have hget : ∀ t, St.get ⟨st.tmps.map fun p => (p.1, p.2.sub (moveC o st.objs.length)), (st.objs.set o .dead).map (Obj.sub (moveC o st.objs.length)) ++ [.row e wd k get], st.gd, st.h⟩ t = (st.get t).sub (moveC o st.objs.length) := fun t => lookup_sub _ t _
    have hholds : ∀ g, St.holds ⟨st.tmps.map fun p => (p.1, p.2.sub (moveC o st.objs.length)), (st.objs.set o .dead).map (Obj.sub (moveC o st.objs.length)) ++ [.row e wd k get], st.gd, st.h⟩ g ↔ st.holds g := by
      intro g
      unfold St.holds
      constructor
      · intro h q hq
        have := h q hq
        rw [hget q.1] at this
        refine (sub_bool (fun q n => ?_) (fun q i j => ?_)).1 this
        · simp only [moveC]; cases Nat.beq q o <;> simp
        · simp [moveC]
      · intro h q hq
        rw [hget q.1, h q hq]; rfl
    refine ⟨S, bset β st.objs.length x, ⟨hr.core.frame, hr.core.holds, ?_, ?_, ?_, ?_, ?_⟩, fun t hh => ?_, fun t hh => ?_, hr.size, hr.defers, fun q k hq hB => hle _ _ (hr.hand q k hq hB)⟩
    · intro q y hy
      cases hl : y.live with
      | false => cases y <;> first | trivial | cases hl
      | true =>
        obtain ⟨q0, y0, hy0, hl0, hb, hc⟩ := get' q y hy hl
        have hr0 := hr.core.objs q0 y0 hy0
        rcases hc with ⟨rfl, rfl, rfl⟩ | ⟨rfl, hne, rfl⟩
        · rw [ho] at hy0
          simp only [Option.some.injEq] at hy0
          subst hy0
          rcases hr0 with ⟨h1, h2⟩ | ⟨k, h1, h2⟩
          · exact .inl ⟨by rw [hb]; exact h1, h2⟩
          · exact .inr ⟨k, by rw [hb]; exact h1, h2⟩
        · cases y0 with
          | dead => trivial
          | cells l =>
            obtain ⟨k, h1, h2, h3, h4, vs, h5, h6, h7⟩ := hr0
            exact ⟨k, by rw [hb]; exact h1, by rw [h2]; simp, h3, h4, vs, h5, h6.map _ fun _ _ h => C.move_rel hle hnew h, h7⟩
          | mrow e' bs =>
            obtain ⟨k, h1, h2⟩ := hr0
            exact ⟨k, by rw [hb]; exact h1, h2⟩
          | map z has get =>
            obtain ⟨k, h1, h2⟩ := hr0
            exact ⟨k, by rw [hb]; exact h1, h2⟩
          | row e' w' k' g' =>
            rcases hr0 with ⟨h1, h2⟩ | ⟨k, h1, h2⟩
            · exact .inl ⟨by rw [hb]; exact h1, h2⟩
            · exact .inr ⟨k, by rw [hb]; exact h1, h2⟩
    · intro q hq
      simp only [List.length_append, List.length_map, List.length_set, List.length_cons, List.length_nil] at hq
      unfold bset
      rw [if_neg (by omega)]
      exact hr.core.out q (by omega)
    · intro q q' k1 k2 y y' hy hy' hl hl' h1 h2 hno
      obtain ⟨q0, y0, hy0, hl0, hb, hc⟩ := get' q y hy hl
      obtain ⟨q0', y0', hy0', hl0', hb', hc'⟩ := get' q' y' hy' hl'
      rw [hb] at h1; rw [hb'] at h2
      refine hr.core.inj q0 q0' k1 k2 y0 y0' hy0 hy0' hl0 hl0' h1 h2 fun e => hno ?_
      rcases hc with ⟨h3, h4, _⟩ | ⟨h3, h4, _⟩ <;> rcases hc' with ⟨h5, h6, _⟩ | ⟨h5, h6, _⟩ <;> omega
    · intro q k1 y hy hl h1
      obtain ⟨q0, y0, hy0, hl0, hb, hc⟩ := get' q y hy hl
      rw [hb] at h1
      exact hr.core.sep q0 k1 y0 hy0 hl0 h1
    · intro q k1 y hy hl h1
      obtain ⟨q0, y0, hy0, hl0, hb, hc⟩ := get' q y hy hl
      rw [hb] at h1
      exact hr.core.mine q0 k1 y0 hy0 hl0 h1
    · rw [hget t]
      rw [hgd t, hholds] at hh
      exact D.move_rel hle hnew (hr.tm t hh)
    · rw [hgd t, hholds] at hh
      exact hr.un t hh
  · cases hm
end
end Go.Dl

namespace Go.Dl
abbrev Err := Option (Int × Int)
def errC' (t : TypeId) (e : Err) : C := .iface e.isSome t (.eptr 3 (fun j => ([.val (.int .i64 (e.getD (0, 0)).1), .val (.int .i64 (e.getD (0, 0)).2), .val .nilIface] : List C).getD j .bot) 0)
theorem errC_nil' {t : TypeId} : CLe (.val .nilIface) (errC' t none) := by
  intro S β v hv
  show if false = true then _ else v = .nilIface
  rw [if_neg (by simp)]
  exact hv
end Go.Dl

namespace Go.Dl
variable [WInv]
section
variable {P : Program} {n : Nat} {A T R : Type} {go : T → St} {ab : A → Ex × St} {st st' : St} {m : Option (A ⊕ T)} {cs : List Code}
structure ButB (g : Nat) (w w' : World) : Prop where
  os : w'.os = w.os
  tape : w'.tape = w.tape
  output : w'.output = w.output
  size : w.heap.size ≤ w'.heap.size
  block : ∀ c, c < w.heap.size → c ≠ g → w'.heap[c]? = w.heap[c]?
end
end Go.Dl

namespace Go.Dl
variable [WInv]
section
variable {P : Program} {α R : Type}
end
end Go.Dl

namespace Go.Dl
variable [WInv]
section
variable {P : Program} {R : Type}
theorem DFun.of_callsH {f : FuncId} {args : List D} {mr : Option R} {res : R → D}
    (h : ∀ S β w vs, WInv.I w → Holds S w → VRel S β args vs → ∀ r, mr = some r → Calls P f vs.toArray w fun e w' => ∃ v, e = .returned v ∧ DRel S β (res r) v ∧ Up w w') : DFun P f args [] mr res (fun _ => []) := by
  intro S β w vs hc hv r hr
  refine (h S β w vs hc.inv hc.holds hv r hr).mono fun e w' ⟨v, he, hd, hu⟩ => ⟨v, S, β, he, hd, fun o k ho _ => by simp at ho, hc.newer hu.os hu.tape hu.output hu.size hu.block⟩
end
end Go.Dl

namespace Go.Dl
variable [WInv]
section
variable {P : Program} {n : Nat} {A T R : Type} {go : T → St} {ab : A → Ex × St} {st st' : St} {m : Option (A ⊕ T)} {cs : List Code}
theorem RefR.assumeC {ops : Array Oper} {l : List Oper} {b : Bool} {stf : Bool → St} (h0 : stf b = st) (h : RefR P n ops l cs (stf true) m go ab) : RefR P n ops l cs st (chk [b] m) go ab := by
  intro Γ S β a w hr x hx
  obtain ⟨hv, hm⟩ := chk_some hx
  have hb : b = true := hv b (List.mem_cons_self ..)
  subst hb
  rw [← h0] at hr
  exact h Γ S β a w hr x hm
def gdHold (st : St) : Bool := st.gd.all fun p => p.2.all fun q => match st.get q.1 with
  | .c (.val (.bool b)) => b == q.2
  | _ => false
theorem lookup_mem : ∀ (l : List (Nat × List (Nat × Bool))) (t : Nat), lookupT [] l t = [] ∨ ∃ g, (t, g) ∈ l ∧ lookupT [] l t = g
  | [], t => .inl rfl
  | (i, g) :: r, t => by
    unfold lookupT
    cases hb : Nat.beq i t with
    | true =>
      obtain rfl := Nat.eq_of_beq_eq_true hb
      exact .inr ⟨g, List.mem_cons_self .., rfl⟩
    | false =>
      rw [cond_false]
      rcases lookup_mem r t with h | ⟨g', h1, h2⟩
      · exact .inl h
      · exact .inr ⟨g', List.mem_cons_of_mem _ h1, h2⟩
theorem gdHold_holds {st : St} (h : gdHold st = true) (t : Nat) : st.holds (st.gof t) := by
  unfold St.gof
  rcases lookup_mem st.gd t with h1 | ⟨g, h1, h2⟩
  · rw [h1]; intro q hq; cases hq
  · rw [h2]
    intro q hq
    unfold gdHold at h
    have h3 := List.all_eq_true.1 (List.all_eq_true.1 h _ h1) q hq
    split at h3
    · rename_i b hb
      have : b = q.2 := by simpa using h3
      rw [hb, this]
    · cases h3
theorem Conv.clear (h : gdHold st = true) : Conv n st ⟨st.tmps, st.objs, [], st.h⟩ := by
  intro Γ S β a w hr
  exact ⟨S, β, hr.core, fun t _ => hr.tm t (gdHold_holds h t), fun t hn => absurd (fun q hq => by cases hq) hn, hr.size, hr.defers, hr.hand⟩
def Oper.free (o : Oper) : Oper := { o with guard := none }
def guardHolds (ops : Array Oper) (o : Oper) (st : St) : Bool :=
  match o.guard with
  | none => false
  | some (j, want) =>
    (match (ops[j]?).bind (·.dst) with
    | some t =>
      (match st.gof t, st.get t with
      | [], .c (.val (.bool b)) => b == want
      | _, _ => false)
    | none => false)
theorem RefR.unguard (k : Nat) {ops : Array Oper} {l : List Oper} (hk : Nat.blt k l.length = true) (hi : guardHolds ops (opAt l k) st = true)
    (h : RefR P n ops ((l.set k (Oper.free (opAt l k))).drop k) cs st m go ab) : RefR P n ops (l.drop k) cs st m go ab := by
  have hlt : k < l.length := by simpa [Nat.blt_eq] using hk
  have hset : (l.set k (Oper.free (opAt l k))).drop k = Oper.free (opAt l k) :: l.drop (k + 1) := by
    rw [List.drop_eq_getElem_cons (by simpa using hlt), List.getElem_set_self, List.drop_set_of_lt (by omega)]
  rw [hset] at h
  rw [drop_opAt hk]
  intro Γ S β a w hr x hx
  have h1 := h Γ S β a w hr x hx
  have hw : Region.wanted (opAt l k) (yielded ops a.tmps) = true := by
    unfold guardHolds at hi
    split at hi
    · cases hi
    · rename_i j want hgd
      split at hi
      · rename_i t ht
        split at hi
        · rename_i b hg hb
          have hbw : b = want := by simpa using hi
          subst hbw
          have hd := hr.tm t (by unfold St.holds; rw [hg]; intro q hq; cases hq)
          rw [hb] at hd
          have hv : a.tmps.getD t undef = .bool b := hd
          have hsome : a.tmps[t]? = some (.bool b) := by
            rw [Array.getD_eq_getD_getElem?] at hv
            cases hq : a.tmps[t]? with
            | none => rw [hq] at hv; cases hv
            | some u => rw [hq] at hv; simp only [Option.getD_some] at hv; rw [hv]
          have hy : yielded ops a.tmps j = some b := by
            unfold yielded
            rw [ht]
            show (match a.tmps[t]? with | some (.bool b) => some b | _ => none) = some b
            rw [hsome]
          simp only [Region.wanted, hgd, hy]
          simp
        · cases hi
      · cases hi
  simp only [wpList] at h1 ⊢
  rw [hw, if_pos rfl]
  have hw' : Region.wanted (Oper.free (opAt l k)) (yielded ops a.tmps) = true := rfl
  rw [hw', if_pos rfl] at h1
  exact h1
end
end Go.Dl

namespace Go.Dl
variable [WInv] {α : Type}
omit [WInv] in theorem NT_at (E : El α) (ct : α → List C) (h : ∀ x, ct x = E.cs x) (l : List α) {i : Nat} (hi : i < l.length) (j : Nat) : tbl (l.map ct) i j = E.at l i j := by
  unfold tbl El.at
  have : (l.map ct).getD i [] = E.cs (l.getD i E.d) := by
    simp [List.getD, List.getElem?_map, List.getElem?_eq_getElem hi, h]
  rw [this]
omit [WInv] in theorem NTT_at (Q : El (List α)) (nt : List α → C) (l : List (List α)) {i : Nat} (hi : i < l.length) : tbl (l.map fun b => [nt b]) i 0 = nt (l.getD i Q.d) := by
  unfold tbl
  simp [List.getD, List.getElem?_map, List.getElem?_eq_getElem hi]
end Go.Dl

namespace Go.Dl
variable [WInv]
open Go.RowKit
section
variable {P : Program} {n : Nat} {ops : Array Oper} {W : Nat → Bool} {A T : Type} {go : T → St} {ab : A → Ex × St} {st st' : St} {m : Option (A ⊕ T)} {cs : List Code}
def makesOp : Op → Bool
  | .buildSlice _ _ _ => true
  | _ => false
theorem up_alloc0 (w : World) (o : Go.Obj) : Up w (w.alloc o) := (Below.refl _ _).alloc (Nat.le_refl _) o
def Still (P : Program) {X : Type} (s : Sem X) : Prop := ∀ w a w', s.run P w = .ok a w' → w' = w
theorem still_underlying (t : TypeId) : Still P (underlying t) := by
  intro w a w' h
  cases hu : P.underlying t with
  | none => simp [underlying, hu] at h
  | some d => rw [run_underlying hu] at h; cases h; rfl
theorem still_typeInfo (t : TypeId) : Still P (typeInfo t) := by
  intro w a w' h
  cases hu : P.info? t with
  | none => simp [typeInfo, hu] at h
  | some d => simp [typeInfo, hu] at h; exact h.2.symm
theorem still_sizeOf (t : TypeId) : Still P (sizeOf t) := by
  intro w a w' h
  unfold sizeOf at h
  rw [Sem.run_bind] at h
  cases hr : (typeInfo t).run P w with
  | halt x y => rw [hr] at h; cases h
  | ok i w1 =>
    rw [hr] at h
    obtain rfl := still_typeInfo t w _ _ hr
    cases h; rfl
theorem still_zeroValue (t : TypeId) : Still P (zeroValue t) := by
  intro w a w' h
  unfold zeroValue at h
  rw [Sem.run_bind] at h
  cases hr : (typeInfo t).run P w with
  | halt x y => rw [hr] at h; cases h
  | ok i w1 =>
    rw [hr] at h
    obtain rfl := still_typeInfo t w _ _ hr
    simp only [Result.andThen_ok] at h
    split at h
    · cases h; rfl
    · cases h
theorem up_newRow {e : TypeId} {cs : Array Value} {w w' : World} {a : Addr} (h : (newRow e cs).run P w = .ok a w') : Up w w' := by
  simp [newRow] at h
  rw [← h.2]
  exact up_alloc0 _ _
def Mk (P : Program) {X : Type} (s : Sem X) : Prop := ∀ w a w', s.run P w = .ok a w' → Up w w'
theorem Mk.bind {X Y : Type} {s : Sem X} {f : X → Sem Y} (h : Mk P s) (hf : ∀ x, Mk P (f x)) : Mk P (s >>= f) := by
  intro w a w' hr
  rw [Sem.run_bind] at hr
  cases h1 : s.run P w with
  | halt x y => rw [h1] at hr; cases hr
  | ok x w1 => rw [h1] at hr; exact (h w x w1 h1).trans (hf x w1 a w' hr)
theorem Mk.pure {X : Type} (x : X) : Mk P (Pure.pure x : Sem X) := by
  intro w a w' h
  cases h; exact Up.refl _
theorem Mk.still {X : Type} {s : Sem X} (h : Still P s) : Mk P s := fun w a w' hr => by rw [h w a w' hr]; exact Up.refl _
theorem Mk.stuck {X : Type} (m : String) : Mk P (Go.stuck m : Sem X) := fun w a w' h => by cases h
theorem Mk.unsupported {X : Type} (m : Unsupported) : Mk P (Go.unsupported m : Sem X) := fun w a w' h => by cases h
theorem mk_buildSlice (t : TypeId) (len : Nat) (parts : Array (Nat × Value)) : Mk P (Instr.buildSlice t len parts) := by
  unfold Instr.buildSlice
  refine Mk.bind (Mk.still (still_underlying t)) fun td => ?_
  split
  · refine Mk.bind (Mk.still (still_sizeOf _)) fun sz => ?_
    have fin : ∀ (e : TypeId) (z : Array Value), Mk P (match Instr.fill (fun i => some (i * sz, sz)) (Array.map (fun x => z[x % z.size]!) (Array.range (len * sz))) parts.toList with
        | some cells => do
          let a ← newRow e cells
          Pure.pure (Value.slice (some a) len len)
        | _ => Go.stuck "buildSlice: a part of the wrong size" : Sem Value) := by
      intro e z
      split
      · exact Mk.bind (fun w a w' h => up_newRow h) fun a => Mk.pure _
      · exact Mk.stuck _
    dsimp only
    split
    · exact Mk.bind (Mk.unsupported _) fun x => by
        split
        · exact Mk.bind (Mk.pure _) fun z => fin _ z
        · exact Mk.bind (Mk.still (still_zeroValue _)) fun z => Mk.bind (Mk.pure _) fun z => fin _ z
    · split
      · exact Mk.bind (Mk.pure _) fun z => fin _ z
      · exact Mk.bind (Mk.still (still_zeroValue _)) fun z => Mk.bind (Mk.pure _) fun z => fin _ z
  · exact Mk.stuck _
theorem up_makes {o : Oper} {ρ : Operand → Value} {w w' : World} {x : Next} (hm : makesOp o.op = true) (h : (execOp ρ o).run P w = .ok x w') : Up w w' ∧ ∃ v, x = .value v := by
  unfold makesOp at hm
  split at hm
  · rename_i t len parts hop
    unfold execOp at h
    rw [hop] at h
    dsimp only at h
    rw [Sem.run_bind] at h
    cases hr : (Instr.buildSlice t len (parts.map fun (i, x) => (i, ρ x))).run P w with
    | halt a b => rw [hr] at h; cases h
    | ok a w1 =>
      rw [hr] at h
      have := mk_buildSlice _ _ _ _ _ _ hr
      cases h
      exact ⟨this, _, rfl⟩
  · cases hm
theorem RefX.madeC (j : Nat) (keep om : List Nat) {fuel fuel' : Nat} {listed : Array Bool} {vs : List Bool} {st' : St} (hfu : fuel = 1 + fuel')
    (hf : (decide (Region.ready .any ops listed = [j]) && (!W j && (ops[j]?).elim false fun o => makesOp o.op)) = true) (he : run1 P n ops (opsOf ops [j]) st keep om = some (vs, st'))
    (h : RefX P n ops W fuel' (listed.setIfInBounds j true) cs st' m go ab) : RefX P n ops W fuel listed cs st (chk vs m) go ab := by
  intro Γ S β a w hr x hx
  obtain ⟨hvs, hm⟩ := chk_some hx
  simp only [Bool.and_eq_true, decide_eq_true_eq, Bool.not_eq_true'] at hf
  obtain ⟨hrd, hWj, hmk⟩ := hf
  cases ho : ops[j]? with
  | none => rw [ho] at hmk; cases hmk
  | some o =>
    rw [ho] at hmk
    have hmk : makesOp o.op = true := hmk
    have hops : opsOf ops [j] = [o] := by simp [opsOf, ho]
    rw [hops] at he
    subst hfu
    rw [Nat.add_comm]
    unfold run1 at he
    split at he
    · rename_i vs2 st2 h2
      cases hk : st2.keep keep om with
      | none => rw [hk] at he; cases he
      | some st3 =>
        rw [hk] at he
        simp only [Option.map_some, Option.some.injEq, Prod.mk.injEq] at he
        obtain ⟨rfl, rfl⟩ := he
        unfold evOps at h2
        split at h2
        · rename_i v st1 h1
          simp only [evOps] at h2
          simp only [Option.some.injEq, Prod.mk.injEq] at h2
          obtain ⟨rfl, rfl⟩ := h2
          have hv1 : ∀ b ∈ v, b = true := fun b hb => hvs b (by simpa using hb)
          refine ⟨fun h0 => (by rw [h0] at hrd; cases hrd), fun i hi => ?_⟩
          rw [hrd] at hi
          obtain rfl : i = j := by simpa using hi
          unfold xOp
          rw [hWj, cond_false]
          unfold xOp0
          simp only [ho]
          rcases evStep_cases hr h1 hv1 with ⟨hw, u, w', S', β', hrun, hrr, _⟩ | ⟨hw, hrr⟩
          · simp only [hw, if_true]
            unfold xop
            rcases hrun with hrun | ⟨hrun, _⟩
            · rw [hrun]
              have hup := (up_makes hmk hrun).1
              exact ⟨hup, fun w'' hw'' => h Γ S' (bren β' om) _ w'' (keep_sound (hrr.up hw'') hk) x hm⟩
            · obtain ⟨_, v, hv⟩ := up_makes hmk hrun
              cases hv
          · simp only [hw, Bool.false_eq_true, if_false]
            exact fun w' hw' => h Γ S (bren β om) _ w' (keep_sound (hrr.up hw') hk) x hm
        · cases h2
    · cases he
theorem RefX.madeC0 (j : Nat) (keep om : List Nat) {fuel fuel' : Nat} {listed : Array Bool} {st' : St} (hfu : fuel = 1 + fuel')
    (hf : (decide (Region.ready .any ops listed = [j]) && (!W j && (ops[j]?).elim false fun o => makesOp o.op)) = true) (he : run1 P n ops (opsOf ops [j]) st keep om = some ([], st'))
    (h : RefX P n ops W fuel' (listed.setIfInBounds j true) cs st' m go ab) : RefX P n ops W fuel listed cs st m go ab :=
  fun Γ S β a w hr x hx => RefX.madeC (vs := []) j keep om hfu hf he h Γ S β a w hr x hx
end
end Go.Dl

namespace Go.Dl
end Go.Dl

namespace Go.Dl
variable [WInv]
abbrev sI (k : Nat) (x : Int) : Nat × D := (k, .c (.val (.int .i64 x)))
abbrev sB (k : Nat) (x : Bool) : Nat × D := (k, .c (.val (.bool x)))
abbrev sS (k : Nat) (x : Bytes) : Nat × D := (k, .c (.str x))
abbrev sP (k a b c : Nat) : Nat × D := (k, .c (.ptr a b c))
section
variable {P : Program} {n : Nat} {A T : Type} {go : T → St} {ab : A → Ex × St} {st st' : St} {m : Option (A ⊕ T)} {cs : List Code} {c : Code}
theorem Ref.sq (hr : Ref P n (cd c [0] :: cd c [1] :: cs) st m go ab) (h : c = .seq (cd c [0]) (cd c [1]) := by kernel_rfl) : Ref P n (c :: cs) st m go ab := Ref.seqC _ _ h hr
theorem Ref.sk (hr : Ref P n cs st m go ab) (h : c = .skip := by kernel_rfl) : Ref P n (c :: cs) st m go ab := Ref.skipC h hr
theorem Ref.rn (id : Nat) (hr : RefR P n (rg c) ((rg c).toList.drop 0) cs st m go ab) (h : c = .region id (rg c) false := by kernel_rfl) : Ref P n (c :: cs) st m go ab := Ref.regionC id h hr
theorem Ref.cn (x : Operand) (b : Bool) {m1 m2 : Option (A ⊕ T)} (h1 : b = true → Ref P n (cd c [0] :: cs) st m1 go ab) (h2 : b = false → Ref P n (cd c [1] :: cs) st m2 go ab) (h : c = .cond x (cd c [0]) (cd c [1]) := by kernel_rfl) (hb : (st.gd.isEmpty && true) = true := by rfl) (hl : st.lv x = .c (.val (.bool b)) := by kernel_rfl) : Ref P n (c :: cs) st (if b = true then m1 else m2) go ab := Ref.condC x b h hb hl h1 h2
theorem Ref.rt {t : A} (h : c = .ret := by kernel_rfl) (hab : ab t = (.ret, st) := by kernel_rfl) : Ref P n (c :: cs) st (some (.inl t)) go ab := Ref.retC h hab
theorem Ref.xt (id : Nat) {t : A} (h : c = .exit id := by kernel_rfl) (hab : ab t = (.exit id, st) := by kernel_rfl) : Ref P n (c :: cs) st (some (.inl t)) go ab := Ref.exitC id h hab
theorem Ref.n0 {t : T} (h : go t = st := by kernel_rfl) : Ref P n [] st (some (.inr t)) go ab := Ref.nil h
theorem RefR.nl (k : Nat) {ops : Array Oper} {l : List Oper} (h : Ref P n cs st m go ab) (hk : Nat.ble l.length k = true := by kernel_rfl) : RefR P n ops (l.drop k) cs st m go ab := RefR.nilC k hk h
theorem RefR.e0 (k j k' : Nat) (keep om : List Nat) {ops : Array Oper} {l : List Oper} (h : RefR P n ops (l.drop k') cs st' m go ab) (hk : k' = k + j := by rfl) (he : run1 P n ops ((l.drop k).take j) st keep om = some ([], st') := by kernel_rfl) : RefR P n ops (l.drop k) cs st m go ab := RefR.ev0 k j k' keep om hk he h
end
end Go.Dl

namespace Go.Dl
variable [WInv]
open Go.RowKit
section
variable {P : Program} {n : Nat} {ops : Array Oper} {W : Nat → Bool} {A T : Type} {go : T → St} {ab : A → Ex × St} {st st' : St} {m : Option (A ⊕ T)} {cs : List Code}
def isNilConst : Operand → Bool
  | .const (.slice none 0 0) => true
  | _ => false
def addsOp : Op → Bool
  | .buildSlice _ _ _ => true
  | .alloc _ => true
  | .makeSlice _ _ _ => true
  | .call c => (match c.callee, c.args.toList with
    | .builtin .append, [x, _] => isNilConst x
    | _, _ => false)
  | _ => false
theorem mk_alloc (t : TypeId) (v : Value) : Mk P (Instr.alloc t true v) := by
  unfold Instr.alloc
  refine Mk.bind (Mk.still (still_zeroValue t)) fun z => ?_
  dsimp only
  refine Mk.bind (fun w a w' h => ?_) fun a => Mk.pure _
  exact up_newRow h
theorem up_append_nil {t t' ty : TypeId} {td : TypeDesc} {Γ : Ctx} {S : Mem} {β : Bmap} {w w' : World} {xs xs' : List Obj} {src d' : D} {x v' : Value} {vs : List Bool} (ht' : P.underlying t' = some td) (htd : (∃ u, td = .slice u) ∨ td = .string)
    (ts : Array TypeId) (h0 : ts[0]? = some t) (h1 : ts[1]? = some t') (hc : Core Γ S β w xs) (hx : DRel S β src x) (h : evAppend P t (.c .nil) src xs = some (vs, d', xs')) (hvs : ∀ b ∈ vs, b = true)
    (hr : (Builtin.append_ ts ty #[.slice none 0 0, x]).run P w = .ok v' w') : Up w w' := by
  unfold evAppend at h
  cases ht : P.underlying t with
  | none => simp [ht] at h
  | some tdd =>
    cases tdd with
    | slice e =>
      simp only [ht] at h
      cases hi : P.info? e with
      | none => simp [hi] at h
      | some i =>
        simp only [hi] at h
        cases hz : i.zero with
        | none => simp [hz] at h
        | some z =>
          simp only [hz] at h
          have h2 := some_of_cond h
          clear h
          obtain ⟨hg, h⟩ := h2
          simp only [Bool.and_eq_true, Nat.blt_eq] at hg
          obtain ⟨hzs, hsz, hby⟩ := hg
          have hzs := Nat.eq_of_beq_eq_true hzs
          cases hsr : srcRow P e i.size src xs with
          | none => simp [hsr] at h
          | some p =>
            obtain ⟨m, g2⟩ := p
            simp only [hsr] at h
            obtain ⟨news, hsrc⟩ := srcRow_sound hsz hc hx hsr
            simp only [Option.some.injEq, Prod.mk.injEq] at h
            obtain ⟨rfl, _, _⟩ := h
            have hrm : room (m * i.bytes) = true := hvs _ (by simp)
            have hrm' : (0 + m) * i.bytes ≤ 140737488355328 := by rw [Nat.zero_add]; simpa [room] using hrm
            have hm : 0 + m ≤ 140737488355328 := Nat.le_trans (Nat.le_mul_of_pos_right _ hby) hrm'
            obtain ⟨v2, w2, hr2, _, hgrow, _⟩ := run_append_any (ty := ty) ht ht' htd hi hz hzs (World.ownsRow_nil w 0 e i.size) hsrc (by simp only [maxLen]; omega) hrm' ts h0 h1
            rw [hr] at hr2
            obtain ⟨rfl, rfl⟩ : v' = v2 ∧ w' = w2 := by cases hr2; exact ⟨rfl, rfl⟩
            exact ⟨hgrow.os, hgrow.tape, hgrow.output, hgrow.size, fun b hb => hgrow.block b hb (by simp [Value.ownBlock])⟩
    | _ => simp [ht] at h
theorem up_adds {Γ : Ctx} {S : Mem} {β : Bmap} {a : Act} {w w' : World} {o : Oper} {x : Next} {vs : List Bool} (hm : addsOp o.op = true) (hgd : o.guard = none) (hr : RR Γ S β a w n st) (he : evStep P n ops o st = some (vs, st')) (hvs : ∀ b ∈ vs, b = true)
    (h : (execOp a.eval o).run P w = .ok x w') : Up w w' ∧ ∃ v, x = .value v := by
  unfold addsOp at hm
  split at hm
  · rename_i t len parts hop
    exact up_makes (by rw [hop]; rfl) h
  · rename_i t hop
    unfold execOp at h
    rw [hop] at h
    dsimp only at h
    rw [Sem.run_bind] at h
    cases hq : (Instr.alloc t true (.tuple #[])).run P w with
    | halt a b => rw [hq] at h; cases h
    | ok a w1 =>
      rw [hq] at h
      have := mk_alloc _ _ _ _ _ hq
      cases h
      exact ⟨this, _, rfl⟩
  · rename_i t l c hop
    unfold evStep at he
    unfold guardOf at he
    rw [hgd] at he
    dsimp only at he
    obtain ⟨_, he⟩ := some_of_cond he
    split at he
    · rename_i vs' d xs hev
      simp only [Option.some.injEq, Prod.mk.injEq] at he
      obtain ⟨rfl, rfl⟩ := he
      have h0 : st.holds [] := fun q hq => by cases hq
      have hv := see_rel hr h0
      unfold evSee at hev
      rw [hop] at hev
      dsimp only at hev
      obtain ⟨_, hev⟩ := some_of_cond hev
      unfold evOp at hev
      rw [hop] at hev
      dsimp only at hev
      obtain ⟨v2, w2, _, _, hr2, _, _, _, _, hup⟩ := evMakeSlice_run (by rw [see_objs]; exact hr.core) (hv l) (hv c) hev hvs
      have hrun : (execOp a.eval o).run P w = ((do let v ← Instr.makeSlice t (a.eval l) (a.eval c); pure (Next.value v)) : Sem Next).run P w := by
        unfold execOp
        rw [hop]
      rw [hrun, Sem.run_bind, hr2] at h
      cases h
      exact ⟨hup, _, rfl⟩
    · cases he
  · rename_i c hop
    obtain ⟨callee, args, tys⟩ := c
    dsimp only at hm
    split at hm
    · rename_i x0 y ha
      have ha' : args = #[x0, y] := by apply Array.ext'; simpa using ha
      subst ha'
      unfold evStep at he
      unfold guardOf at he
      rw [hgd] at he
      dsimp only at he
      obtain ⟨_, he⟩ := some_of_cond he
      split at he
      · rename_i vs' d xs hev
        simp only [Option.some.injEq, Prod.mk.injEq] at he
        obtain ⟨rfl, rfl⟩ := he
        have h0 : st.holds [] := fun q hq => by cases hq
        have hv := see_rel hr h0
        unfold evSee at hev
        rw [hop] at hev
        dsimp only at hev
        obtain ⟨_, hev⟩ := some_of_cond hev
        unfold evOp at hev
        rw [hop] at hev
        dsimp only at hev
        have hnil : x0 = .const (.slice none 0 0) := by
          unfold isNilConst at hm
          split at hm
          · rfl
          · cases hm
        subst hnil
        have harg : ((do let dd ← resolve a.eval ⟨.builtin .append, #[.const (.slice none 0 0), y], tys⟩ o.type; invoke dd.target dd.args) : Sem Next).run P =
            (builtin .append tys o.type (#[Operand.const (.slice none 0 0), y].map fun | .const _ => true | _ => false) (#[Operand.const (.slice none 0 0), y].map a.eval)).run P := rfl
        have hrun : (execOp a.eval o).run P w = ((do let v ← Builtin.append_ tys o.type #[.slice none 0 0, a.eval y]; pure (Next.value v)) : Sem Next).run P w := by
          unfold execOp
          rw [hop]
          dsimp only
          rw [harg, show Array.map a.eval #[Operand.const (.slice none 0 0), y] = #[.slice none 0 0, a.eval y] by simp; rfl]
          rfl
        rw [hrun, Sem.run_bind] at h
        cases hq : (Builtin.append_ tys o.type #[.slice none 0 0, a.eval y]).run P w with
        | halt u v => rw [hq] at h; cases h
        | ok u w1 =>
          rw [hq] at h
          cases h
          refine ⟨?_, _, rfl⟩
          split at hev
          · rename_i heq _ _
            simp at heq
          · rename_i t t' r e1 h2 h3
            simp only [List.cons.injEq, and_true] at h2
            obtain ⟨rfl, rfl⟩ := h2
            have h0 : tys[0]? = some t := by rw [← Array.getElem?_toList, h3]; rfl
            have h1' : tys[1]? = some t' := by rw [← Array.getElem?_toList, h3]; rfl
            split at hev
            · rename_i u hu
              exact up_append_nil hu (.inl ⟨_, rfl⟩) tys h0 h1' (by rw [see_objs]; exact hr.core) (hv y) hev hvs hq
            · rename_i hu
              exact up_append_nil hu (.inr rfl) tys h0 h1' (by rw [see_objs]; exact hr.core) (hv y) hev hvs hq
            · cases hev
          all_goals simp_all
      · cases he
    · cases hm
  · cases hm
def RefXi (P : Program) (n : Nat) (ops : Array Oper) (W : Nat → Bool) {A T : Type} (i fuel : Nat) (listed : Array Bool) (cs : List Code) (st : St) (m : Option (A ⊕ T)) (go : T → St) (ab : A → Ex × St) : Prop :=
  ∀ Γ S β a w, RR Γ S β a w n st → ∀ x, m = some x → xOp P ops W (Exit.then (wpL P cs (Post Γ n go ab x)) (Post Γ n go ab x)) i (xAny P .any ops W (Exit.then (wpL P cs (Post Γ n go ab x)) (Post Γ n go ab x)) fuel (listed.setIfInBounds i true)) a w
theorem RefX.fork {fuel fuel' : Nat} {listed : Array Bool} (l : List Nat) (hl : (Nat.beq fuel (fuel' + 1) && (decide (Region.ready .any ops listed = l) && !l.isEmpty)) = true) (h : ∀ i ∈ l, RefXi P n ops W i fuel' listed cs st m go ab) : RefX P n ops W fuel listed cs st m go ab := by
  intro Γ S β a w hr x hx
  simp only [Bool.and_eq_true, decide_eq_true_eq] at hl
  obtain ⟨hf, hrd, hne⟩ := hl
  have hf := Nat.eq_of_beq_eq_true hf
  subst hf
  refine ⟨fun h0 => ?_, fun i hi => ?_⟩
  · rw [hrd] at h0; subst h0; cases hne
  · rw [hrd] at hi; exact h i hi Γ S β a w hr x hx
theorem RefX.fork1 {fuel fuel' : Nat} {listed : Array Bool} (i : Nat) (hl : (Nat.beq fuel (fuel' + 1) && (decide (Region.ready .any ops listed = [i]) && ![i].isEmpty)) = true) (h : RefXi P n ops W i fuel' listed cs st m go ab) : RefX P n ops W fuel listed cs st m go ab :=
  RefX.fork [i] hl fun j hj => by obtain rfl := List.mem_singleton.1 hj; exact h
theorem RefX.fork2 {fuel fuel' : Nat} {listed : Array Bool} (i j : Nat) (hl : (Nat.beq fuel (fuel' + 1) && (decide (Region.ready .any ops listed = [i, j]) && ![i, j].isEmpty)) = true) (h1 : RefXi P n ops W i fuel' listed cs st m go ab) (h2 : RefXi P n ops W j fuel' listed cs st m go ab) : RefX P n ops W fuel listed cs st m go ab :=
  RefX.fork [i, j] hl fun k hk => by
    rcases List.mem_cons.1 hk with rfl | hk
    · exact h1
    · obtain rfl := List.mem_singleton.1 hk; exact h2
theorem RefXi.adds (j : Nat) (keep om : List Nat) {fuel : Nat} {listed : Array Bool} {vs : List Bool} {st' : St}
    (hf : (!W j && (ops[j]?).elim false fun o => o.guard.isNone && (addsOp o.op || quietOp o.op)) = true) (he : run1 P n ops (opsOf ops [j]) st keep om = some (vs, st'))
    (h : RefX P n ops W fuel (listed.setIfInBounds j true) cs st' m go ab) : RefXi P n ops W j fuel listed cs st (chk vs m) go ab := by
  intro Γ S β a w hr x hx
  obtain ⟨hvs, hm⟩ := chk_some hx
  simp only [Bool.and_eq_true, Bool.not_eq_true'] at hf
  obtain ⟨hWj, hmk⟩ := hf
  cases ho : ops[j]? with
  | none => rw [ho] at hmk; cases hmk
  | some o =>
    rw [ho] at hmk
    have hmk : (o.guard.isNone && (addsOp o.op || quietOp o.op)) = true := hmk
    rw [Bool.and_eq_true] at hmk
    obtain ⟨hgd, hmk⟩ := hmk
    have hgd : o.guard = none := by simpa using hgd
    have hops : opsOf ops [j] = [o] := by simp [opsOf, ho]
    rw [hops] at he
    unfold run1 at he
    split at he
    · rename_i vs2 st2 h2
      cases hk : st2.keep keep om with
      | none => rw [hk] at he; cases he
      | some st3 =>
        rw [hk] at he
        simp only [Option.map_some, Option.some.injEq, Prod.mk.injEq] at he
        obtain ⟨rfl, rfl⟩ := he
        unfold evOps at h2
        split at h2
        · rename_i v st1 h1
          simp only [evOps] at h2
          simp only [Option.some.injEq, Prod.mk.injEq] at h2
          obtain ⟨rfl, rfl⟩ := h2
          have hv1 : ∀ b ∈ v, b = true := fun b hb => hvs b (by simpa using hb)
          unfold xOp
          rw [hWj, cond_false]
          unfold xOp0
          simp only [ho]
          rcases evStep_cases hr h1 hv1 with ⟨hw, u, w', S', β', hrun, hrr, hq⟩ | ⟨hw, hrr⟩
          · simp only [hw, if_true]
            unfold xop
            have hup : ∀ {y : Next}, (execOp a.eval o).run P w = .ok y w' → Up w w' ∧ ∃ v, y = .value v := by
              intro y hy
              rw [Bool.or_eq_true] at hmk
              rcases hmk with hmk | hmk
              · exact up_adds hmk hgd hr h1 hv1 hy
              · obtain ⟨rfl, rfl, rfl, hq2⟩ := hq hmk
                have := hq2 w' (.inr (Up.refl _))
                rw [hy] at this
                cases this
                exact ⟨Up.refl _, _, rfl⟩
            rcases hrun with hrun | ⟨hrun, _⟩
            · rw [hrun]
              exact ⟨(hup hrun).1, fun w'' hw'' => h Γ S' (bren β' om) _ w'' (keep_sound (hrr.up hw'') hk) x hm⟩
            · obtain ⟨_, v, hv⟩ := hup hrun
              cases hv
          · simp only [hw, Bool.false_eq_true, if_false]
            exact fun w' hw' => h Γ S (bren β om) _ w' (keep_sound (hrr.up hw') hk) x hm
        · cases h2
    · cases he
theorem RefXi.writes (j : Nat) (keep om : List Nat) {fuel : Nat} {listed : Array Bool} {vs : List Bool} {st' : St}
    (hf : (W j && (ops[j]?).isSome) = true) (he : run1 P n ops (opsOf ops [j]) st keep om = some (vs, st'))
    (h : RefX P n ops W fuel (listed.setIfInBounds j true) cs st' m go ab) : RefXi P n ops W j fuel listed cs st (chk vs m) go ab := by
  intro Γ S β a w hr x hx
  obtain ⟨hvs, hm⟩ := chk_some hx
  simp only [Bool.and_eq_true] at hf
  obtain ⟨hWj, hso⟩ := hf
  obtain ⟨o, ho⟩ := Option.isSome_iff_exists.1 hso
  have hops : opsOf ops [j] = [o] := by simp [opsOf, ho]
  rw [hops] at he
  unfold run1 at he
  split at he
  · rename_i vs2 st2 h2
    cases hk : st2.keep keep om with
    | none => rw [hk] at he; cases he
    | some st3 =>
      rw [hk] at he
      simp only [Option.map_some, Option.some.injEq, Prod.mk.injEq] at he
      obtain ⟨rfl, rfl⟩ := he
      unfold xOp
      rw [hWj, cond_true]
      unfold wpOp
      rw [ho]
      unfold evOps at h2
      split at h2
      · rename_i v st1 h1
        simp only [evOps] at h2
        simp only [Option.some.injEq, Prod.mk.injEq] at h2
        obtain ⟨rfl, rfl⟩ := h2
        have hv1 : ∀ b ∈ v, b = true := fun b hb => hvs b (by simpa using hb)
        dsimp only
        rcases evStep_cases hr h1 hv1 with ⟨hw, u, w', S', β', hrun, hrr, _⟩ | ⟨hw, hrr⟩
        · simp only [hw, if_true]
          left
          have hrest := h Γ S' (bren β' om) _ w' (keep_sound hrr hk) x hm
          rcases hrun with hrun | ⟨hrun, rfl⟩
          · simp only [Oper.wp, Oper.upon, hrun]
            exact hrest
          · simp only [Oper.wp, Oper.upon, hrun]
            exact hrest
        · simp only [hw, Bool.false_eq_true, if_false]
          exact h Γ S (bren β om) _ w (keep_sound hrr hk) x hm
      · cases h2
  · cases he
theorem RefXi.adds0 (j : Nat) (keep om : List Nat) {fuel : Nat} {listed : Array Bool} {st' : St}
    (hf : (!W j && (ops[j]?).elim false fun o => o.guard.isNone && (addsOp o.op || quietOp o.op)) = true) (he : run1 P n ops (opsOf ops [j]) st keep om = some ([], st'))
    (h : RefX P n ops W fuel (listed.setIfInBounds j true) cs st' m go ab) : RefXi P n ops W j fuel listed cs st m go ab :=
  fun Γ S β a w hr x hx => RefXi.adds (vs := []) j keep om hf he h Γ S β a w hr x hx
theorem RefXi.writes0 (j : Nat) (keep om : List Nat) {fuel : Nat} {listed : Array Bool} {st' : St}
    (hf : (W j && (ops[j]?).isSome) = true) (he : run1 P n ops (opsOf ops [j]) st keep om = some ([], st'))
    (h : RefX P n ops W fuel (listed.setIfInBounds j true) cs st' m go ab) : RefXi P n ops W j fuel listed cs st m go ab :=
  fun Γ S β a w hr x hx => RefXi.writes (vs := []) j keep om hf he h Γ S β a w hr x hx
end
end Go.Dl

namespace Go.Dl
open Go.RowKit
variable [WInv]
section
variable {P : Program} {n : Nat} {A T R : Type} {go : T → St} {ab : A → Ex × St} {st st' : St} {m : Option (A ⊕ T)} {cs : List Code}
end
end Go.Dl

namespace Go.Dl
variable [WInv]
section
variable {P : Program} {n : Nat} {A T R : Type} {go : T → St} {ab : A → Ex × St} {st st' : St} {cs : List Code} {m : Option (A ⊕ T)}
end
end Go.Dl

namespace Go.Dl
variable [WInv]
open Go.RowKit
section
variable {P : Program} {n : Nat} {ops : Array Oper} {W : Nat → Bool} {A T R : Type} {go : T → St} {ab : A → Ex × St} {st st' : St} {cs : List Code}
theorem RefXi.conv {i fuel : Nat} {listed : Array Bool} {m : Option (A ⊕ T)} (hc : Conv n st st') (h : RefXi P n ops W i fuel listed cs st' m go ab) : RefXi P n ops W i fuel listed cs st m go ab := fun Γ S β a w hr x hx => by
  obtain ⟨S', β', h'⟩ := hc Γ S β a w hr
  exact h Γ S' β' a w h' x hx
theorem RefX.withK0 (stf : St) (mf : Option (A ⊕ T)) {fuel : Nat} {listed : Array Bool} {m : Option (A ⊕ T)} (h1 : Ref P n cs stf mf go ab)
    (h2 : Ref P n cs stf mf go ab → RefX P n ops W fuel listed cs st m go ab) : RefX P n ops W fuel listed cs st m go ab := h2 h1
end
end Go.Dl

namespace Go.Dl
variable [WInv]
def stepSt (P : Program) (n : Nat) (ops : Array Oper) (l : List Oper) (st : St) (keep om : List Nat) : St := match run1 P n ops l st keep om with
  | some (_, s) => s
  | none => st
def stepOk (P : Program) (n : Nat) (ops : Array Oper) (l : List Oper) (st : St) (keep om : List Nat) : Bool := match run1 P n ops l st keep om with
  | some ([], _) => true
  | _ => false
section
variable {P : Program} {n : Nat} {A T : Type} {go : T → St} {ab : A → Ex × St} {st : St} {cs : List Code} {m : Option (A ⊕ T)}
theorem RefR.e1 (k j k' : Nat) (keep om : List Nat) {ops : Array Oper} {l : List Oper} (h : RefR P n ops (l.drop k') cs (stepSt P n ops ((l.drop k).take j) st keep om) m go ab) (hk : k' = k + j := by rfl)
    (he : stepOk P n ops ((l.drop k).take j) st keep om = true := by kernel_rfl) : RefR P n ops (l.drop k) cs st m go ab := by
  unfold stepOk at he
  unfold stepSt at h
  split at he
  · rename_i s hs
    rw [hs] at h
    exact RefR.ev0 k j k' keep om hk hs h
  · cases he
end
def stepVs (P : Program) (n : Nat) (ops : Array Oper) (l : List Oper) (st : St) (keep om : List Nat) : Option (List Bool) := (run1 P n ops l st keep om).map (·.1)
theorem step_of {P : Program} {n : Nat} {ops : Array Oper} {l : List Oper} {st : St} {keep om : List Nat} {vs : List Bool} (h : stepVs P n ops l st keep om = some vs) : run1 P n ops l st keep om = some (vs, stepSt P n ops l st keep om) := by
  unfold stepVs at h
  unfold stepSt
  cases hr : run1 P n ops l st keep om with
  | none => rw [hr] at h; cases h
  | some x =>
    obtain ⟨v, s⟩ := x
    rw [hr] at h
    simp only [Option.map_some, Option.some.injEq] at h
    subst h
    rfl
section
variable {P : Program} {n : Nat} {ops : Array Oper} {W : Nat → Bool} {A T : Type} {go : T → St} {ab : A → Ex × St} {st : St} {cs : List Code} {m : Option (A ⊕ T)}
theorem RefX.v1 (vs : List Bool) (is keep om : List Nat) {fuel fuel' : Nat} {listed : Array Bool}
    (h : RefX P n ops W fuel' ((firsts .any ops W listed is).getD listed) cs (stepSt P n ops (opsOf ops is) st keep om) m go ab) (hfu : fuel = is.length + fuel' := by rfl)
    (hf : (Region.noSelect ops && (firsts .any ops W listed is).isSome) = true := by kernel_rfl) (he : stepVs P n ops (opsOf ops is) st keep om = some vs := by kernel_rfl) : RefX P n ops W fuel listed cs st (chk vs m) go ab :=
  RefX.evC is keep om hfu hf (step_of he) h
theorem RefX.v0 (is keep om : List Nat) {fuel fuel' : Nat} {listed : Array Bool}
    (h : RefX P n ops W fuel' ((firsts .any ops W listed is).getD listed) cs (stepSt P n ops (opsOf ops is) st keep om) m go ab) (hfu : fuel = is.length + fuel' := by rfl)
    (hf : (Region.noSelect ops && (firsts .any ops W listed is).isSome) = true := by kernel_rfl) (he : stepVs P n ops (opsOf ops is) st keep om = some [] := by kernel_rfl) : RefX P n ops W fuel listed cs st m go ab :=
  RefX.evC0 is keep om hfu hf (step_of he) h
theorem RefXi.a1 (vs : List Bool) (j : Nat) (keep om : List Nat) {fuel : Nat} {listed : Array Bool}
    (h : RefX P n ops W fuel (listed.setIfInBounds j true) cs (stepSt P n ops (opsOf ops [j]) st keep om) m go ab)
    (hf : (!W j && (ops[j]?).elim false fun o => o.guard.isNone && (addsOp o.op || quietOp o.op)) = true := by kernel_rfl) (he : stepVs P n ops (opsOf ops [j]) st keep om = some vs := by kernel_rfl) : RefXi P n ops W j fuel listed cs st (chk vs m) go ab :=
  RefXi.adds j keep om hf (step_of he) h
theorem RefXi.a0 (j : Nat) (keep om : List Nat) {fuel : Nat} {listed : Array Bool}
    (h : RefX P n ops W fuel (listed.setIfInBounds j true) cs (stepSt P n ops (opsOf ops [j]) st keep om) m go ab)
    (hf : (!W j && (ops[j]?).elim false fun o => o.guard.isNone && (addsOp o.op || quietOp o.op)) = true := by kernel_rfl) (he : stepVs P n ops (opsOf ops [j]) st keep om = some [] := by kernel_rfl) : RefXi P n ops W j fuel listed cs st m go ab :=
  RefXi.adds0 j keep om hf (step_of he) h
theorem RefXi.w0 (j : Nat) (keep om : List Nat) {fuel : Nat} {listed : Array Bool}
    (h : RefX P n ops W fuel (listed.setIfInBounds j true) cs (stepSt P n ops (opsOf ops [j]) st keep om) m go ab)
    (hf : (W j && (ops[j]?).isSome) = true := by kernel_rfl) (he : stepVs P n ops (opsOf ops [j]) st keep om = some [] := by kernel_rfl) : RefXi P n ops W j fuel listed cs st m go ab :=
  RefXi.writes0 j keep om hf (step_of he) h
end
end Go.Dl

namespace Go.Dl
variable [WInv]
open Go.RowKit
abbrev iC (x : Int) : C := .val (.int .i64 x)
abbrev bC (x : Bool) : C := .val (.bool x)
def St.rm (st : St) (t : Nat) : St := ⟨eraseT t st.tmps, st.objs, st.gd, st.h⟩
def St.rms (st : St) : List (Nat × Nat) → St
  | [] => st
  | p :: u => (st.rms u).rm p.2
def unl (listed : Array Bool) : List (Nat × Nat) → Array Bool
  | [] => listed
  | p :: u => (unl listed u).setIfInBounds p.1 false
def lst (listed : Array Bool) : List (Nat × Nat) → Array Bool
  | [] => listed
  | p :: u => (lst listed u).setIfInBounds p.1 true
def RefXq (us : List (List (Nat × Nat))) (cv : List (Nat × List Bool)) (P : Program) (n : Nat) (ops : Array Oper) (W : Nat → Bool) {A T : Type} (fuel : Nat) (listed : Array Bool) (cs : List Code) (st : St) (m : Option (A ⊕ T)) (go : T → St) (ab : A → Ex × St) : Prop :=
  (∀ p ∈ cv, ∀ b ∈ p.2, b = true) → ∀ u ∈ us, RefX P n ops W (fuel + u.length) (unl listed u) cs (st.rms u) m go ab
def RefXqi (us : List (List (Nat × Nat))) (cv : List (Nat × List Bool)) (P : Program) (n : Nat) (ops : Array Oper) (W : Nat → Bool) {A T : Type} (j fuel : Nat) (listed : Array Bool) (cs : List Code) (st : St) (m : Option (A ⊕ T)) (go : T → St) (ab : A → Ex × St) : Prop :=
  (∀ p ∈ cv, ∀ b ∈ p.2, b = true) → ∀ u ∈ us, RefXi P n ops W j (fuel + u.length) (unl listed u) cs (st.rms u) m go ab
def evs (us : List (List (Nat × Nat))) : List (List (Nat × Nat) × (Nat × Nat)) := us.flatMap fun u => (u.filter fun p => us.contains (u.erase p)).map fun p => (u, p)
def quietQ (ops : Array Oper) (W : Nat → Bool) (us : List (List (Nat × Nat))) : Bool := us.all fun u => u.all fun p => !W p.1 && (ops[p.1]?).elim false fun o => o.guard.isNone && (addsOp o.op || quietOp o.op)
def readyQ (ops : Array Oper) (us bs : List (List (Nat × Nat))) (listed : Array Bool) (l : List Nat) : Bool :=
  (evs us).all (fun q => decide ((unl listed q.1).setIfInBounds q.2.1 true = unl listed (q.1.erase q.2))) && us.all fun u => bs.contains u || (!(Region.ready .any ops (unl listed u)).isEmpty && (Region.ready .any ops (unl listed u)).all fun x => l.any (Nat.beq x) || u.any fun p => Nat.beq x p.1 && us.contains (u.erase p))
section
variable {P : Program} {n : Nat} {ops : Array Oper} {W : Nat → Bool} {A T R : Type} {go : T → St} {ab : A → Ex × St} {st st' st2 : St} {m : Option (A ⊕ T)} {cs : List Code} {j fuel fuel' : Nat} {listed : Array Bool} {us : List (List (Nat × Nat))} {cv : List (Nat × List Bool)}
theorem St.rms_objs : ∀ u : List (Nat × Nat), (st.rms u).objs = st.objs
  | [] => rfl
  | p :: u => St.rms_objs u
theorem St.rms_gd : ∀ u : List (Nat × Nat), (st.rms u).gd = st.gd
  | [] => rfl
  | p :: u => St.rms_gd u
theorem unl_set : ∀ (u : List (Nat × Nat)), u.all (fun p => !Nat.beq p.1 j) = true → (unl listed u).setIfInBounds j true = unl (listed.setIfInBounds j true) u
  | [], _ => rfl
  | p :: u, h => by
    rw [List.all_cons, Bool.and_eq_true] at h
    have hne : p.1 ≠ j := fun e => by have := h.1; rw [e] at this; simp at this
    unfold unl
    rw [← unl_set u h.2, Array.setIfInBounds_comm _ _ hne]
theorem RefXq.core (bs : List (List (Nat × Nat))) (h0 : ∀ u ∈ bs, RefX P n ops W (fuel + u.length) (unl listed u) cs (st.rms u) m go ab) (l : List Nat) (hl : ∀ j ∈ l, ∀ u ∈ us, u ∉ bs → RefXi P n ops W j (fuel + u.length - 1) (unl listed u) cs (st.rms u) m go ab)
    (hz : bs.contains [] = true) (hr : readyQ ops us bs listed l = true) (hq : quietQ ops W us = true) (hcv : ∀ p ∈ cv, ∀ b ∈ p.2, b = true)
    (he : (evs us).map (fun q => run1 P n ops (opsOf ops [q.2.1]) (st.rms q.1) ((st.rms (q.1.erase q.2)).tmps.map Prod.fst) (List.range st.objs.length)) = (evs us).map fun q => some (lookupT [] cv q.2.1, st.rms (q.1.erase q.2))) :
    ∀ (k : Nat), ∀ u ∈ us, u.length ≤ k → RefX P n ops W (fuel + u.length) (unl listed u) cs (st.rms u) m go ab
  | k, [], hu, _ => h0 [] (by simpa using hz)
  | 0, p :: u, hu, hk => absurd hk (by simp)
  | k + 1, p :: u, hu, hk => by
    have hr' := hr
    unfold readyQ at hr
    rw [Bool.and_eq_true, List.all_eq_true, List.all_eq_true] at hr
    obtain ⟨hse, hr⟩ := hr
    by_cases hbs : (p :: u) ∈ bs
    · exact h0 _ hbs
    have h1 := hr _ hu
    have hbs' : bs.contains (p :: u) = false := by simpa using hbs
    simp only [hbs', Bool.false_or, Bool.and_eq_true, Bool.not_eq_true'] at h1
    obtain ⟨hne, h1⟩ := h1
    refine RefX.fork (fuel' := fuel + u.length) (Region.ready .any ops (unl listed (p :: u))) ?_ fun x hx => ?_
    · simp only [Bool.and_eq_true, decide_true, Bool.true_and, hne, Bool.not_false, and_true]
      simp [Nat.add_assoc]
    · rw [List.all_eq_true] at h1
      have h2 := h1 x hx
      rw [Bool.or_eq_true] at h2
      rcases h2 with h2 | h2
      · rw [List.any_eq_true] at h2
        obtain ⟨y, hy, hxy⟩ := h2
        obtain rfl := Nat.eq_of_beq_eq_true hxy
        exact hl x hy _ hu hbs
      · rw [List.any_eq_true] at h2
        obtain ⟨q, hqu, hxq⟩ := h2
        rw [Bool.and_eq_true] at hxq
        have hxq1 := Nat.eq_of_beq_eq_true hxq.1
        subst hxq1
        have hmem : (p :: u).erase q ∈ us := by simpa using hxq.2
        have hev : ((p :: u), q) ∈ evs us := by
          unfold evs
          rw [List.mem_flatMap]
          refine ⟨_, hu, ?_⟩
          rw [List.mem_map]
          exact ⟨q, List.mem_filter.2 ⟨hqu, by simpa using hmem⟩, rfl⟩
        have hst := List.map_inj_left.1 he _ hev
        dsimp only at hst
        have hlen : ((p :: u).erase q).length = u.length := by rw [List.length_erase_of_mem hqu]; simp
        have ih := RefXq.core bs h0 l hl hz hr' hq hcv he k _ hmem (by rw [hlen]; simpa using hk)
        rw [hlen] at ih
        unfold quietQ at hq
        rw [List.all_eq_true] at hq
        have hq1 := hq _ hu
        rw [List.all_eq_true] at hq1
        have hb : ∀ b ∈ lookupT [] cv q.1, b = true := by
          have : ∀ (l : List (Nat × List Bool)), (∀ p ∈ l, ∀ b ∈ p.2, b = true) → ∀ b ∈ lookupT [] l q.1, b = true := by
            intro l
            induction l with
            | nil => intro _ b hb; cases hb
            | cons z r ihh =>
              intro hz b hb
              unfold lookupT at hb
              cases hzq : Nat.beq z.1 q.1 with
              | true => rw [hzq, cond_true] at hb; exact hz z (by simp) b hb
              | false => rw [hzq, cond_false] at hb; exact ihh (fun p hp => hz p (by simp [hp])) b hb
          exact this cv hcv
        have hset : RefX P n ops W (fuel + u.length) ((unl listed (p :: u)).setIfInBounds q.1 true) cs (st.rms ((p :: u).erase q)) m go ab := by
          have hes : (unl listed (p :: u)).setIfInBounds q.1 true = unl listed ((p :: u).erase q) := by
            simpa using hse _ hev
          rw [hes]; exact ih
        have := RefXi.adds (W := W) (cs := cs) (m := m) (go := go) (ab := ab) q.1 _ _ (hq1 _ hqu) hst hset
        intro Γ S β a w hr x hx
        refine this Γ S β a w hr x ?_
        have hall : (lookupT [] cv q.1).all (fun b => b) = true := by
          rw [List.all_eq_true]; exact hb
        have hc : ∀ (l : List Bool), (l.all fun b => b) = true → chk l m = m := by
          intro l
          induction l with
          | nil => intro _; rfl
          | cons v r ih => intro h; rw [List.all_cons, Bool.and_eq_true] at h; unfold chk; rw [if_pos h.1, ih h.2]
        rw [hc _ hall]
        exact hx
theorem RefX.pend (us : List (List (Nat × Nat))) (cv : List (Nat × List Bool)) (u0 : List (Nat × Nat)) (keep om : List Nat) (st' : St) (h : RefXq us cv P n ops W fuel' (lst listed u0) cs st' m go ab)
    (hu : (us.contains u0 && (Nat.beq fuel (fuel' + u0.length) && decide (unl (lst listed u0) u0 = listed))) = true := by kernel_rfl) (hk : st.keep keep om = some (st'.rms u0) := by kernel_rfl) : RefX P n ops W fuel listed cs st (chk (cv.flatMap fun p => p.2) m) go ab := by
  simp only [Bool.and_eq_true, decide_eq_true_eq] at hu
  obtain ⟨h1, h2, h3⟩ := hu
  have h2 := Nat.eq_of_beq_eq_true h2
  intro Γ S β a w hr x hx
  obtain ⟨hvs, hm⟩ := chk_some hx
  have := h (fun p hp b hb => hvs b (List.mem_flatMap.2 ⟨p, hp, hb⟩)) u0 (by simpa using h1)
  rw [h3, ← h2] at this
  exact RefX.conv (Conv.keep keep om hk) this Γ S β a w hr x hm
theorem RefX.pend0 (us : List (List (Nat × Nat))) (u0 : List (Nat × Nat)) (keep om : List Nat) (st' : St) (h : RefXq us [] P n ops W fuel' (lst listed u0) cs st' m go ab)
    (hu : (us.contains u0 && (Nat.beq fuel (fuel' + u0.length) && decide (unl (lst listed u0) u0 = listed))) = true := by kernel_rfl) (hk : st.keep keep om = some (st'.rms u0) := by kernel_rfl) : RefX P n ops W fuel listed cs st m go ab :=
  RefX.pend us [] u0 keep om st' h hu hk
theorem RefXq.close (h : RefX P n ops W fuel listed cs st m go ab) (hr : (readyQ ops us [[]] listed [] && quietQ ops W us) = true := by kernel_rfl)
    (he : (evs us).map (fun q => run1 P n ops (opsOf ops [q.2.1]) (st.rms q.1) ((st.rms (q.1.erase q.2)).tmps.map Prod.fst) (List.range st.objs.length)) = (evs us).map fun q => some (lookupT [] cv q.2.1, st.rms (q.1.erase q.2)) := by kernel_rfl) : RefXq us cv P n ops W fuel listed cs st m go ab := by
  rw [Bool.and_eq_true] at hr
  exact fun hcv u hu => RefXq.core [[]] (fun u hu => by obtain rfl := List.mem_singleton.1 hu; exact h) [] (fun j hj => by cases hj) (by simp) hr.1 hr.2 hcv he u.length u hu (Nat.le_refl _)
theorem RefXq.fork (l : List Nat) (h : ∀ j ∈ l, RefXqi us cv P n ops W j fuel' listed cs st m go ab) (hfu : Nat.beq fuel (fuel' + 1) = true) (hr0 : (decide (Region.ready .any ops listed = l) && !l.isEmpty) = true) (hr : (readyQ ops us [[]] listed l && quietQ ops W us) = true)
    (hn : us.contains [] = true) (he : (evs us).map (fun q => run1 P n ops (opsOf ops [q.2.1]) (st.rms q.1) ((st.rms (q.1.erase q.2)).tmps.map Prod.fst) (List.range st.objs.length)) = (evs us).map fun q => some (lookupT [] cv q.2.1, st.rms (q.1.erase q.2))) : RefXq us cv P n ops W fuel listed cs st m go ab := by
  rw [Bool.and_eq_true] at hr
  obtain rfl := Nat.eq_of_beq_eq_true hfu
  intro hcv
  have h0 : RefX P n ops W (fuel' + 1) listed cs st m go ab := RefX.fork (fuel' := fuel') l (by rw [hr0]; simp) fun j hj => h j hj hcv [] (by simpa using hn)
  refine fun u hu => RefXq.core [[]] (fun u hu => by obtain rfl := List.mem_singleton.1 hu; exact h0) l (fun j hj u hu hne => ?_) (by simp) hr.1 hr.2 hcv he u.length u hu (Nat.le_refl _)
  rw [show fuel' + 1 + u.length - 1 = fuel' + u.length by omega]
  exact h j hj hcv u hu
theorem RefXq.fork1 (j : Nat) (h : RefXqi us cv P n ops W j fuel' listed cs st m go ab) (hfu : Nat.beq fuel (fuel' + 1) = true := by kernel_rfl) (hr0 : (decide (Region.ready .any ops listed = [j]) && ![j].isEmpty) = true := by kernel_rfl) (hr : (readyQ ops us [[]] listed [j] && quietQ ops W us) = true := by kernel_rfl)
    (hn : us.contains [] = true := by kernel_rfl) (he : (evs us).map (fun q => run1 P n ops (opsOf ops [q.2.1]) (st.rms q.1) ((st.rms (q.1.erase q.2)).tmps.map Prod.fst) (List.range st.objs.length)) = (evs us).map fun q => some (lookupT [] cv q.2.1, st.rms (q.1.erase q.2)) := by kernel_rfl) : RefXq us cv P n ops W fuel listed cs st m go ab :=
  RefXq.fork [j] (fun x hx => by obtain rfl := List.mem_singleton.1 hx; exact h) hfu hr0 hr hn he
theorem RefXq.fork2 (j k : Nat) (h1 : RefXqi us cv P n ops W j fuel' listed cs st m go ab) (h2 : RefXqi us cv P n ops W k fuel' listed cs st m go ab) (hfu : Nat.beq fuel (fuel' + 1) = true := by kernel_rfl) (hr0 : (decide (Region.ready .any ops listed = [j, k]) && ![j, k].isEmpty) = true := by kernel_rfl) (hr : (readyQ ops us [[]] listed [j, k] && quietQ ops W us) = true := by kernel_rfl)
    (hn : us.contains [] = true := by kernel_rfl) (he : (evs us).map (fun q => run1 P n ops (opsOf ops [q.2.1]) (st.rms q.1) ((st.rms (q.1.erase q.2)).tmps.map Prod.fst) (List.range st.objs.length)) = (evs us).map fun q => some (lookupT [] cv q.2.1, st.rms (q.1.erase q.2)) := by kernel_rfl) : RefXq us cv P n ops W fuel listed cs st m go ab :=
  RefXq.fork [j, k] (fun x hx => by
    rcases List.mem_cons.1 hx with rfl | hx
    · exact h1
    · obtain rfl := List.mem_singleton.1 hx; exact h2) hfu hr0 hr hn he
def keepQ (keep : List Nat) (u : List (Nat × Nat)) : List Nat := keep.filter fun x => u.all fun p => !Nat.beq x p.2
def notQ (us : List (List (Nat × Nat))) (j : Nat) : Bool := us.all fun u => u.all fun p => !Nat.beq p.1 j
theorem notQ_all (h : notQ us j = true) {u : List (Nat × Nat)} (hu : u ∈ us) : u.all (fun p => !Nat.beq p.1 j) = true := by
  unfold notQ at h
  rw [List.all_eq_true] at h
  exact h u hu
theorem RefXqi.adds (j : Nat) (keep om : List Nat) {vs : List Bool} (hf : (!W j && (ops[j]?).elim false fun o => o.guard.isNone && (addsOp o.op || quietOp o.op)) = true) (he : run1 P n ops (opsOf ops [j]) st keep om = some (vs, st'))
    (h : RefXq us cv P n ops W fuel (listed.setIfInBounds j true) cs st' m go ab) (hij : notQ us j = true := by kernel_rfl) (he2 : us.map (fun u => run1 P n ops (opsOf ops [j]) (st.rms u) (keepQ keep u) om) = us.map (fun u => some (vs, st'.rms u)) := by kernel_rfl) : RefXqi us cv P n ops W j fuel listed cs st (chk vs m) go ab := by
  intro hcv u hu
  refine RefXi.adds j (keepQ keep u) om hf (List.map_inj_left.1 he2 u hu) ?_
  rw [unl_set u (notQ_all hij hu)]
  exact h hcv u hu
theorem RefXqi.writes (j : Nat) (keep om : List Nat) {vs : List Bool} (hf : (W j && (ops[j]?).isSome) = true) (he : run1 P n ops (opsOf ops [j]) st keep om = some (vs, st'))
    (h : RefXq us cv P n ops W fuel (listed.setIfInBounds j true) cs st' m go ab) (hij : notQ us j = true := by kernel_rfl) (he2 : us.map (fun u => run1 P n ops (opsOf ops [j]) (st.rms u) (keepQ keep u) om) = us.map (fun u => some (vs, st'.rms u)) := by kernel_rfl) : RefXqi us cv P n ops W j fuel listed cs st (chk vs m) go ab := by
  intro hcv u hu
  refine RefXi.writes j (keepQ keep u) om hf (List.map_inj_left.1 he2 u hu) ?_
  rw [unl_set u (notQ_all hij hu)]
  exact h hcv u hu
theorem RefXqi.adds0 (j : Nat) (keep om : List Nat) (hf : (!W j && (ops[j]?).elim false fun o => o.guard.isNone && (addsOp o.op || quietOp o.op)) = true) (he : run1 P n ops (opsOf ops [j]) st keep om = some ([], st'))
    (h : RefXq us cv P n ops W fuel (listed.setIfInBounds j true) cs st' m go ab) (hij : notQ us j = true := by kernel_rfl) (he2 : us.map (fun u => run1 P n ops (opsOf ops [j]) (st.rms u) (keepQ keep u) om) = us.map (fun u => some ([], st'.rms u)) := by kernel_rfl) : RefXqi us cv P n ops W j fuel listed cs st m go ab :=
  RefXqi.adds (vs := []) j keep om hf he h hij he2
theorem RefXqi.writes0 (j : Nat) (keep om : List Nat) (hf : (W j && (ops[j]?).isSome) = true) (he : run1 P n ops (opsOf ops [j]) st keep om = some ([], st'))
    (h : RefXq us cv P n ops W fuel (listed.setIfInBounds j true) cs st' m go ab) (hij : notQ us j = true := by kernel_rfl) (he2 : us.map (fun u => run1 P n ops (opsOf ops [j]) (st.rms u) (keepQ keep u) om) = us.map (fun u => some ([], st'.rms u)) := by kernel_rfl) : RefXqi us cv P n ops W j fuel listed cs st m go ab :=
  RefXqi.writes (vs := []) j keep om hf he h hij he2
theorem eraseT_comm {α : Type} (a b : Nat) (l : List (Nat × α)) : eraseT a (eraseT b l) = eraseT b (eraseT a l) := by
  unfold eraseT
  rw [List.filter_filter, List.filter_filter]
  congr 1
  funext x
  rw [Bool.and_comm]
theorem eraseT_cons_ne {α : Type} {a b : Nat} (d : α) (l : List (Nat × α)) (h : Nat.beq b a = false) : eraseT a ((b, d) :: l) = (b, d) :: eraseT a l := by
  unfold eraseT
  rw [List.filter_cons_of_pos (by simp [h])]
def Conv2 (us : List (List (Nat × Nat))) (n : Nat) (st st' : St) : Prop := ∀ u ∈ us, Conv n (st.rms u) (st'.rms u)
theorem rms_setObj (o : Nat) (x : Obj) : ∀ u : List (Nat × Nat), (st.setObj o x).rms u = (st.rms u).setObj o x
  | [] => rfl
  | p :: u => by
    show ((st.setObj o x).rms u).rm p.2 = _
    rw [rms_setObj o x u]
    rfl
theorem Conv2.obj (o : Nat) (x : Obj) (h : OLe (st.objs.getD o .dead) x) (hx : Nat.blt o st.objs.length = true) : Conv2 us n st (st.setObj o x) := fun u hu => by
  rw [rms_setObj]
  exact Conv.obj o x (by rw [St.rms_objs]; exact h) (by rw [St.rms_objs]; exact hx)
theorem rms_setSlot {k : Nat} (d : D) : ∀ (u : List (Nat × Nat)), u.all (fun p => !Nat.beq k p.2) = true → (st.setSlot k d).rms u = (st.rms u).setSlot k d
  | [], _ => rfl
  | p :: u, h => by
    rw [List.all_cons, Bool.and_eq_true, Bool.not_eq_true'] at h
    show ((st.setSlot k d).rms u).rm p.2 = _
    rw [rms_setSlot d u h.2]
    show _ = ((st.rms u).rm p.2).setSlot k d
    unfold St.rm St.setSlot
    simp only [eraseT_cons_ne _ _ h.1, eraseT_comm k p.2]
theorem lookupT_erase {k t : Nat} (h : Nat.beq k t = false) (z : D) : ∀ l : List (Nat × D), lookupT z (eraseT t l) k = lookupT z l k
  | [] => rfl
  | p :: l => by
    cases hp : Nat.beq p.1 t with
    | true =>
      have e : eraseT t (p :: l) = eraseT t l := by unfold eraseT; rw [List.filter_cons_of_neg (by simp [hp])]
      have hne : Nat.beq p.1 k = false := by
        cases hpk : Nat.beq p.1 k with
        | false => rfl
        | true =>
          rw [← Nat.eq_of_beq_eq_true hpk, hp] at h
          cases h
      rw [e, lookupT_erase h z l]
      show _ = bif Nat.beq p.1 k then p.2 else lookupT z l k
      rw [hne]; rfl
    | false =>
      have e : eraseT t (p :: l) = p :: eraseT t l := by unfold eraseT; rw [List.filter_cons_of_pos (by simp [hp])]
      rw [e]
      show (bif Nat.beq p.1 k then p.2 else lookupT z (eraseT t l) k) = bif Nat.beq p.1 k then p.2 else lookupT z l k
      rw [lookupT_erase h z l]
theorem rms_get {k : Nat} : ∀ (u : List (Nat × Nat)), u.all (fun p => !Nat.beq k p.2) = true → (st.rms u).get k = st.get k
  | [], _ => rfl
  | p :: u, h => by
    rw [List.all_cons, Bool.and_eq_true, Bool.not_eq_true'] at h
    show lookupT _ (eraseT p.2 (st.rms u).tmps) k = _
    rw [lookupT_erase h.1]
    exact rms_get u h.2
theorem Conv2.slot (k : Nat) (d : D) (h : DLe (st.get k) d) (hg : st.gd.isEmpty = true) (hk : us.all (fun u => u.all fun p => !Nat.beq k p.2) = true := by kernel_rfl) : Conv2 us n st (st.setSlot k d) := fun u hu => by
  rw [List.all_eq_true] at hk
  rw [rms_setSlot d u (hk u hu)]
  exact Conv.slot k d (by rw [rms_get u (hk u hu)]; exact h) (by rw [St.rms_gd]; exact hg)
theorem RefXq.conv (hc : Conv2 us n st st') (h : RefXq us cv P n ops W fuel listed cs st' m go ab) : RefXq us cv P n ops W fuel listed cs st m go ab := fun hcv u hu => RefX.conv (hc u hu) (h hcv u hu)
end
theorem setSlotG_le {n : Nat} {st : St} (t : Nat) (d : D) (h : DLe (st.get t) d) (hg : st.gd.all (fun x => x.2.all fun p => !Nat.beq p.1 t) = true) : StLe n st (st.setSlot t d) := by
  intro Γ S β a w hr
  have hgo : ∀ t', ∀ p ∈ st.gof t', p.1 ≠ t := by
    intro t' p hp e
    have : ∀ l : List (Nat × List (Nat × Bool)), l.all (fun x => x.2.all fun p => !Nat.beq p.1 t) = true → ∀ p ∈ lookupT [] l t', p.1 ≠ t := by
      intro l
      induction l with
      | nil => intro _ p hp; cases hp
      | cons x l ih =>
        intro hl p hp
        rw [List.all_cons, Bool.and_eq_true] at hl
        obtain ⟨i, g⟩ := x
        simp only [lookupT] at hp
        cases hb : Nat.beq i t' with
        | true =>
          rw [hb] at hp
          have := List.all_eq_true.1 hl.1 p hp
          intro e
          rw [e, Nat.beq_refl] at this
          cases this
        | false => rw [hb] at hp; exact ih hl.2 p hp
    exact this st.gd hg p hp e
  have hho : ∀ t', (st.setSlot t d).holds (st.gof t') ↔ st.holds (st.gof t') := by
    intro t'
    constructor
    · intro hh p hp
      have := hh p hp
      rw [setSlot_get, if_neg (hgo t' p hp)] at this
      exact this
    · intro hh p hp
      rw [setSlot_get, if_neg (hgo t' p hp)]
      exact hh p hp
  refine ⟨hr.core, fun t' hh => ?_, fun t' hn => ?_, hr.size, hr.defers, hr.hand⟩
  · have hx := hr.tm t' ((hho t').1 hh)
    rw [setSlot_get]
    split
    · rename_i e; subst e; exact h _ _ _ hx
    · exact hx
  · exact hr.un t' fun hh => hn ((hho t').2 hh)
theorem Conv.slotG {n : Nat} {st : St} (t : Nat) (d : D) (h : DLe (st.get t) d) (hg : st.gd.all (fun x => x.2.all fun p => !Nat.beq p.1 t) = true) : Conv n st (st.setSlot t d) := Conv.le (setSlotG_le t d h hg)
end Go.Dl

namespace Go.Dl
variable [WInv]
section
variable {P : Program} {n : Nat} {ops : Array Oper} {W : Nat → Bool} {A T : Type} {go : T → St} {ab : A → Ex × St} {st : St} {m : Option (A ⊕ T)} {cs : List Code}
theorem RefX.evH (is keep om : List Nat) {fuel fuel' : Nat} {listed : Array Bool} {vs : List Bool} {st' : St} (hfu : fuel = is.length + fuel')
    (hf : (Region.noSelect ops && (firsts .any ops W listed is).isSome) = true) (he : run1 P n ops (opsOf ops is) st keep om = some (vs, st'))
    (h : (∀ b ∈ vs, b = true) → RefX P n ops W fuel' ((firsts .any ops W listed is).getD listed) cs st' m go ab) : RefX P n ops W fuel listed cs st (chk vs m) go ab :=
  fun Γ S β a w hr x hx => RefX.evC is keep om hfu hf he (h (chk_some hx).1) Γ S β a w hr x hx
end
end Go.Dl

namespace Go.Dl
variable [WInv]
section
variable {P : Program} {ops : Array Oper} {W : Nat → Bool} {j t : Nat}
end
section
variable {P : Program} {n : Nat} {ops : Array Oper} {W : Nat → Bool} {A T : Type} {go : T → St} {ab : A → Ex × St} {st : St} {m : Option (A ⊕ T)} {cs : List Code}
end
end Go.Dl

namespace Go.Dl
variable [WInv]
section
variable {P : Program} {n : Nat} {A T : Type} {go : T → St} {ab : A → Ex × St} {st st' : St} {m : Option (A ⊕ T)} {cs : List Code} {c : Code}
theorem DFun.it (fn : Func) {f : FuncId} {R : Type} {args : List D} {xs : List Obj} {m : Option (R ⊕ R)} (rs : R → St) {res : R → D} {out : R → List Obj}
    (href : Ref P fn.ntmps [cd (bd fn) []] ⟨numT args 0, xs, [], xs.length⟩ m rs (fun r => (.ret, rs r))) (hf : P.funcs[f]? = some fn := by kernel_rfl) (hb : fn.body = some (cd (bd fn) []) := by kernel_rfl) (hn : Nat.ble args.length fn.ntmps = true := by kernel_rfl)
    (hres : ∀ r, retD P (rs r) fn.results.toList = some (res r) := by intro r; kernel_rfl) (hout : ∀ r, (rs r).objs = out r := by intro r; kernel_rfl) (hgd : ∀ r, (rs r).gd = [] := by intro r; kernel_rfl) (hh : ∀ r, (rs r).h = xs.length := by intro r; kernel_rfl) :
    DFun P f args xs (fnS m) res out := DFun.intro hf hb hn href hres hout hgd hh
theorem Ref.ck (st' : St) (l om : List Nat) (h : Ref P n cs st' m go ab) (hk : st.keep l om = some st' := by kernel_rfl) : Ref P n cs st m go ab := Ref.conv (Conv.keep l om hk) h
theorem RefR.cc (t k k' : Nat) (om : List Nat) {ops : Array Oper} {l : List Oper} {f : FuncId} {cargs : List D} {R : Type} {mc : Option R} {res : R → D} {out : R → List Obj} {m : R → Option (A ⊕ T)} (hfun : DFun P f cargs (callObjs st om) mc res out)
    (h : ∀ r, RefR P n ops (l.drop k') cs (st.put (some t) ((res r).fwd om st.objs.length) (afterO om (out r) st.objs) []) (m r) go ab) (hk : (Nat.blt k l.length && Nat.beq k' (k + 1)) = true := by rfl) (hi : callInfo P n (opAt l k) st om = some (f, cargs, t) := by kernel_rfl) :
    RefR P n ops (l.drop k) cs st (mc.bind m) go ab := RefR.callC k k' om hk hi hfun h
theorem Ref.ce (c' : Code) (hr : Ref P n (c' :: cs) st m go ab) (h : c = c' := by kernel_rfl) : Ref P n (c :: cs) st m go ab := Ref.codeEq h hr
theorem Conv.ob (o : Nat) (x : Go.Dl.Obj) (h : OLe (st.objs.getD o .dead) x) (hx : Nat.blt o st.objs.length = true := by kernel_rfl) : Conv n st (st.setObj o x) := Conv.obj o x h hx
theorem Conv.sl (t : Nat) (d : D) (h : DLe (st.get t) d) (hg : st.gd.isEmpty = true := by kernel_rfl) : Conv n st (st.setSlot t d) := Conv.slot t d h hg
end
end Go.Dl

namespace Go.Dl
abbrev gd {α : Type} [Inhabited α] (l : List α) (i : Int) : α := l.getD i.toNat default
variable [WInv]
section
variable {P : Program} {n : Nat} {A T : Type} {go : T → St} {ab : A → Ex × St} {st : St} {m : Option (A ⊕ T)} {cs : List Code} {c : Code}
theorem Ref.kn (l om : List Nat) {t : T} (hk : st.keep l om = some (go t) := by kernel_rfl) : Ref P n [] st (some (.inr t)) go ab := Ref.conv (Conv.keep l om hk) (Ref.nil rfl)
theorem Ref.kx (id : Nat) (l om : List Nat) {t : A} (h : c = .exit id := by kernel_rfl) (he : (ab t).1 = .exit id := by kernel_rfl) (hk : st.keep l om = some (ab t).2 := by kernel_rfl) : Ref P n (c :: cs) st (some (.inl t)) go ab :=
  Ref.conv (Conv.keep l om hk) (Ref.exitC id h (Prod.ext he rfl))
abbrev rl (c : Code) : List Oper := (rg (cd c [0])).toList
theorem Ref.sr (id : Nat) (hr : RefR P n (rg (cd c [0])) ((rl c).drop 0) (cd c [1] :: cs) st m go ab) (h : c = .seq (.region id (rg (cd c [0])) false) (cd c [1]) := by kernel_rfl) : Ref P n (c :: cs) st m go ab := by
  have h0 : cd c [0] = .region id (rg (cd c [0])) false := by
    have := congrArg (fun x => cd x [0]) h
    exact this
  have h1 : c = .seq (cd c [0]) (cd c [1]) := by rw [← h0] at h; exact h
  exact Ref.seqC _ _ h1 (Ref.regionC id h0 hr)
theorem Ref.s0 (id j : Nat) (st' : St) (keep om : List Nat) (hr : RefR P n (rg (cd c [0])) ((rl c).drop j) (cd c [1] :: cs) st' m go ab) (h : c = .seq (.region id (rg (cd c [0])) false) (cd c [1]) := by kernel_rfl)
    (he : run1 P n (rg (cd c [0])) (((rl c).drop 0).take j) st keep om = some ([], st') := by kernel_rfl) : Ref P n (c :: cs) st m go ab := Ref.sr id (RefR.ev0 0 j j keep om (by omega) he hr) h
theorem Ref.sn (id j : Nat) (st' : St) (keep om : List Nat) (hr : Ref P n (cd c [1] :: cs) st' m go ab) (h : c = .seq (.region id (rg (cd c [0])) false) (cd c [1]) := by kernel_rfl)
    (he : run1 P n (rg (cd c [0])) (((rl c).drop 0).take j) st keep om = some ([], st') := by kernel_rfl) (hk : Nat.ble (rl c).length j = true := by kernel_rfl) : Ref P n (c :: cs) st m go ab := Ref.s0 id j st' keep om (RefR.nilC j hk hr) h he
theorem Ref.s01 (id j : Nat) (keep om : List Nat) (hr : RefR P n (rg (cd c [0])) ((rl c).drop j) (cd c [1] :: cs) (stepSt P n (rg (cd c [0])) (((rl c).drop 0).take j) st keep om) m go ab) (h : c = .seq (.region id (rg (cd c [0])) false) (cd c [1]) := by kernel_rfl)
    (he : stepOk P n (rg (cd c [0])) (((rl c).drop 0).take j) st keep om = true := by kernel_rfl) : Ref P n (c :: cs) st m go ab := Ref.sr id (RefR.e1 0 j j keep om hr (by omega) he) h
theorem Ref.sn1 (id j : Nat) (keep om : List Nat) (hr : Ref P n (cd c [1] :: cs) (stepSt P n (rg (cd c [0])) (((rl c).drop 0).take j) st keep om) m go ab) (h : c = .seq (.region id (rg (cd c [0])) false) (cd c [1]) := by kernel_rfl)
    (he : stepOk P n (rg (cd c [0])) (((rl c).drop 0).take j) st keep om = true := by kernel_rfl) (hk : Nat.ble (rl c).length j = true := by kernel_rfl) : Ref P n (c :: cs) st m go ab := Ref.s01 id j keep om (RefR.nilC j hk hr) h he
theorem RefR.en (k j : Nat) (st' : St) (keep om : List Nat) {ops : Array Oper} {l : List Oper} (h : Ref P n cs st' m go ab) (he : run1 P n ops ((l.drop k).take j) st keep om = some ([], st') := by kernel_rfl) (hk : Nat.ble l.length (k + j) = true := by kernel_rfl) :
    RefR P n ops (l.drop k) cs st m go ab := RefR.ev0 k j (k + j) keep om rfl he (RefR.nilC (k + j) hk h)
theorem RefR.en1 (k j : Nat) (keep om : List Nat) {ops : Array Oper} {l : List Oper} (h : Ref P n cs (stepSt P n ops ((l.drop k).take j) st keep om) m go ab) (he : stepOk P n ops ((l.drop k).take j) st keep om = true := by kernel_rfl) (hk : Nat.ble l.length (k + j) = true := by kernel_rfl) :
    RefR P n ops (l.drop k) cs st m go ab := RefR.e1 k j (k + j) keep om (RefR.nilC (k + j) hk h) rfl he
theorem Ref.sc (id j : Nat) (keep om : List Nat) (t : Nat) (om2 : List Nat) {f : FuncId} {cargs : List D} {R : Type} {mc : Option R} {res : R → D} {out : R → List Obj} {m : R → Option (A ⊕ T)}
    (hfun : DFun P f cargs (callObjs (stepSt P n (rg (cd c [0])) (((rl c).drop 0).take j) st keep om) om2) mc res out)
    (hr : ∀ r, RefR P n (rg (cd c [0])) ((rl c).drop (j + 1)) (cd c [1] :: cs) ((stepSt P n (rg (cd c [0])) (((rl c).drop 0).take j) st keep om).put (some t) ((res r).fwd om2 (stepSt P n (rg (cd c [0])) (((rl c).drop 0).take j) st keep om).objs.length) (afterO om2 (out r) (stepSt P n (rg (cd c [0])) (((rl c).drop 0).take j) st keep om).objs) []) (m r) go ab)
    (h : c = .seq (.region id (rg (cd c [0])) false) (cd c [1]) := by kernel_rfl) (he : stepOk P n (rg (cd c [0])) (((rl c).drop 0).take j) st keep om = true := by kernel_rfl)
    (hk : (Nat.blt j (rl c).length && Nat.beq (j + 1) (j + 1)) = true := by kernel_rfl) (hi : callInfo P n (opAt (rl c) j) (stepSt P n (rg (cd c [0])) (((rl c).drop 0).take j) st keep om) om2 = some (f, cargs, t) := by kernel_rfl) :
    Ref P n (c :: cs) st (mc.bind m) go ab := Ref.s01 id j keep om (RefR.callC j (j + 1) om2 hk hi hfun hr) h he
theorem All2.nth {R : C → C → Prop} (hR : ∀ x, R x x) {x y : C} (h : R x y) : ∀ (k : Nat) (l : List C), l[k]? = some x → All2 R l (l.set k y)
  | _, [], e => by simp at e
  | 0, z :: r, e => by
    obtain rfl : z = x := by simpa using e
    refine All2.cons h ?_
    clear e
    induction r with
    | nil => exact All2.nil
    | cons w r ih => exact All2.cons (hR w) ih
  | k + 1, z :: r, e => All2.cons (hR z) (All2.nth hR h k r (by simpa using e))
def D.cellsA : D → List C
  | .agg l => l
  | _ => []
def Obj.cellsL : Obj → List C
  | .cells l => l
  | _ => []
theorem Conv.sn (t k : Nat) {x y : C} (h : CLe x y) (hd : st.get t = .agg (st.get t).cellsA := by kernel_rfl) (hk : (st.get t).cellsA[k]? = some x := by kernel_rfl) (hg : st.gd.isEmpty = true := by kernel_rfl) : Conv n st (st.setSlot t (.agg ((st.get t).cellsA.set k y))) :=
  Conv.slot t _ (by rw [hd]; exact DLe.agg (All2.nth CLe.refl h k _ hk)) hg
theorem Conv.on (o k : Nat) {x y : C} (h : CLe x y) (hd : st.objs.getD o .dead = .cells (st.objs.getD o .dead).cellsL := by kernel_rfl) (hk : (st.objs.getD o .dead).cellsL[k]? = some x := by kernel_rfl) (hx : Nat.blt o st.objs.length = true := by kernel_rfl) : Conv n st (st.setObj o (.cells ((st.objs.getD o .dead).cellsL.set k y))) :=
  Conv.obj o _ (by rw [hd]; exact OLe.cells (All2.nth CLe.refl h k _ hk)) hx
end
end Go.Dl

namespace Go.Dl
abbrev Mp (α : Type) := Int → Option α
def mput {α : Type} (m : Mp α) (i : Int) (v : α) : Mp α := fun i' => bif decide (i' = i) then some v else m i'
def mno {α : Type} : Mp α := fun _ => none
theorem mput_same {α : Type} (m : Mp α) (i : Int) (v : α) : mput m i v i = some v := by simp [mput]
theorem mput_ne {α : Type} (m : Mp α) {i j : Int} (v : α) (h : j ≠ i) : mput m i v j = m j := by simp [mput, h]
def clearL {α : Type} (l : List α) (lo n : Nat) (z : α) : List α := (List.range l.length).map fun i => bif Nat.ble lo i && Nat.blt i (lo + n) then z else l.getD i z
@[simp] theorem clearL_length {α : Type} (l : List α) (lo n : Nat) (z : α) : (clearL l lo n z).length = l.length := by simp [clearL]
theorem clearL_take {α : Type} (l : List α) (lo n : Nat) (z : α) {k : Nat} (h : k ≤ lo) : (clearL l lo n z).take k = l.take k := by
  apply List.ext_getElem
  · simp
  · intro i h1 h2
    simp at h1 h2
    have : Nat.ble lo i = false := by
      cases q1 : Nat.ble lo i with
      | false => rfl
      | true => have := Nat.le_of_ble_eq_true q1; omega
    have hl : i < l.length := by omega
    simp [clearL, this, List.getD, hl]
variable [WInv]
variable {α : Type}
def El.mp (E : El α) (z : Value) (m : Mp α) : Obj := .map z (fun i => (m i).isSome) (fun i j => (E.cs ((m i).getD E.d)).getD j .bot)
theorem OLe.of_eq {x y : Obj} (h : x = y) : OLe x y := h ▸ OLe.refl _
theorem El.mp_no (E : El α) (z : Value) (h : (fun j => (E.cs E.d).getD j .bot) = zc z) : OLe (.map z (fun _ => false) (fun _ => zc z)) (E.mp z mno) := by
  refine OLe.of_eq ?_
  unfold El.mp mno
  rw [← h]
  rfl
theorem El.mp_put (E : El α) (z : Value) (m : Mp α) (i : Int) (v : α) {l : List C} (h : l = E.cs v) :
    OLe (.map z (fun i' => decide (i' = i) || (m i').isSome) (fun i' => bif decide (i' = i) then (fun j => l.getD j .bot) else (fun j => (E.cs ((m i').getD E.d)).getD j .bot))) (E.mp z (mput m i v)) := by
  subst h
  refine OLe.of_eq ?_
  unfold El.mp mput
  congr 1
  · funext i'
    by_cases hi : i' = i
    · subst hi; simp
    · simp [hi]
  · funext i' j
    by_cases hi : i' = i
    · subst hi; simp
    · simp [hi]
theorem El.row_clear (E : El α) (l : List α) {lo n : Nat} {z : List C} (hz : z = E.cs E.d) :
    OLe (.row E.ty E.w l.length fun i j => bif Nat.ble lo i && Nat.blt i (lo + n) then z.getD j .bot else E.at l i j) (E.row (clearL l lo n E.d)) := by
  subst hz
  refine OLe.row (clearL_length l _ _ _).symm fun i j hi _ => ?_
  have e : (clearL l lo n E.d).getD i E.d = bif Nat.ble lo i && Nat.blt i (lo + n) then E.d else l.getD i E.d := by
    unfold clearL
    rw [List.getD, List.getElem?_map, List.getElem?_range hi]
    rfl
  unfold El.at
  rw [e]
  cases hc : (Nat.ble lo i && Nat.blt i (lo + n)) with
  | true => exact CLe.refl _
  | false => exact CLe.refl _
theorem El.row_take (E : El α) (xs : List α) {h : Nat} (hh : h ≤ xs.length) : OLe (.row E.ty E.w h (E.at xs)) (E.row (xs.take h)) := by
  refine OLe.row (by simp; omega) fun i j hi _ => ?_
  unfold El.at
  have : (xs.take h).getD i E.d = xs.getD i E.d := by simp [List.getD, List.getElem?_take, hi]
  rw [this]
  exact CLe.refl _
theorem take_len {xs : List α} {h : Nat} (hh : h ≤ xs.length) : h = (xs.take h).length := by simp; omega
theorem Core.cut {Γ : Ctx} {S : Mem} {β : Bmap} {w : World} {xs : List Obj} (h : Core Γ S β w xs) {o e wd n m : Nat} {get : Nat → Nat → C} {v : Value} (ho : xs[o]? = some (.row e wd n get)) (hv : CRel S β (.own o m) v) :
    ∃ x, BLe β (bset β xs.length x) ∧ Core Γ S (bset β xs.length x) w (xs.set o .dead ++ [.row e wd m get]) ∧ CRel S (bset β xs.length x) (.own xs.length m) v := by
  have hlen : (xs.set o .dead).length = xs.length := by simp
  have hk := h.kill o
  have hrow := h.objs o _ ho
  simp only [CRel] at hv
  rcases hrow with ⟨h1, h2⟩ | ⟨k, h1, h2, h3, h4, h5, h6, cur, h7, h8, h9⟩
  · rw [h1] at hv
    obtain ⟨rfl, rfl⟩ := hv
    have := hk.push (.map #[] 0) (.row e wd 0 get) none (.inl ⟨rfl, rfl⟩) (by rw [hlen]; exact .inl ⟨bset_same _ _ _, rfl⟩)
    rw [hlen] at this
    refine ⟨none, this.2, this.1, ?_⟩
    simp [CRel, bset_same]
  · rw [h1] at hv
    obtain ⟨hm, hc, rfl⟩ := hv
    have hb := h.mine o k _ ho rfl h1
    have := hk.join (.row e wd m get) { k with n := m } rfl rfl rfl (Nat.le_refl _) (fun _ _ _ => rfl) hb.1 hb.2 (fun q => h.sep o k _ ho rfl h1 q)
      (fun o' k' y hy hl hk' => by
        have hne : o' ≠ o := by
          rintro rfl
          have hlt : o' < xs.length := (List.getElem?_eq_some_iff.1 ho).1
          rw [List.getElem?_set_self hlt] at hy
          simp only [Option.some.injEq] at hy
          subst hy
          cases hl
        rw [List.getElem?_set_ne (Ne.symm hne)] at hy
        exact h.inj o' o k' k y _ hy ho hl rfl hk' h1 hne)
      (by
        rw [hlen]
        refine .inr ⟨{ k with n := m }, bset_same _ _ _, h2, h3, rfl, hc, h6, cur, h7, h8, fun i j hi hj => h9 i j (by omega) hj⟩)
    rw [hlen] at this
    refine ⟨_, this.2, this.1, ?_⟩
    simp only [CRel, bset_same]
    exact ⟨Nat.le_refl _, hc, trivial⟩
section
variable {P : Program} {n : Nat} {ops : Array Oper} {W : Nat → Bool} {A T R : Type} {go : T → St} {ab : A → Ex × St} {st st' : St} {m : Option (A ⊕ T)} {cs : List Code} {c : Code}
def St.cut (st : St) (t : Nat) : Option St :=
  match st.get t with
  | .c (.own o m) =>
    (match st.objs[o]? with
    | some (.row e w _ get) => bif Nat.ble st.h st.objs.length && st.gd.isEmpty then some ⟨(t, .c (.own st.objs.length m)) :: eraseT t st.tmps, st.objs.set o .dead ++ [.row e w m get], [], st.h⟩ else none
    | _ => none)
  | _ => none
theorem Conv.cut (t : Nat) (hm : st.cut t = some st') : Conv n st st' := by
  intro Γ S β a w hr
  unfold St.cut at hm
  split at hm
  · rename_i o m hg
    split at hm
    · rename_i e wd k get ho
      obtain ⟨hc, hm⟩ := some_of_cond hm
      simp only [Option.some.injEq] at hm
      subst hm
      simp only [Bool.and_eq_true] at hc
      have hh := Nat.le_of_ble_eq_true hc.1
      have hgd : st.gd = [] := by simpa using hc.2
      have tm : ∀ q, DRel S β (st.get q) (a.tmps.getD q undef) := fun q => hr.tm q (by unfold St.gof; rw [hgd]; intro x hx; cases hx)
      have hv := tm t
      rw [hg] at hv
      obtain ⟨x, hle, hco, hr2⟩ := hr.core.cut ho hv
      refine ⟨S, _, hco, fun q _ => ?_, fun q hq => absurd (fun x hx => by cases hx) hq, hr.size, hr.defers, fun q k hq hB => hle _ _ (hr.hand q k hq hB)⟩
      have hget : St.get ⟨(t, .c (.own st.objs.length m)) :: eraseT t st.tmps, st.objs.set o .dead ++ [.row e wd m get], [], st.h⟩ q = if q = t then .c (.own st.objs.length m) else st.get q := by
        unfold St.get
        simp only [lookupT]
        by_cases h : q = t
        · subst h
          rw [Nat.beq_refl, cond_true, if_pos rfl]
        · have hb : Nat.beq t q = false := by
            cases hq : Nat.beq t q with
            | false => rfl
            | true => exact absurd (Nat.eq_of_beq_eq_true hq).symm h
          rw [hb, cond_false, if_neg h, lookup_erase h]
      rw [hget]
      by_cases h : q = t
      · subst h; rw [if_pos rfl]; exact hr2
      · rw [if_neg h]; exact DRel.up (MLe.refl _) hle (tm q)
    · cases hm
  · cases hm
end
end Go.Dl

namespace Go.Dl
variable [WInv]
section
variable {P : Program} {n : Nat} {A T : Type} {go : T → St} {ab : A → Ex × St} {st : St} {m : Option (A ⊕ T)} {cs : List Code}
def RefLoop (P : Program) (n : Nat) (body : Code) (k : Nat) {A : Type} (st : St) (m : Option A) (ab : A → Ex × St) : Prop :=
  ∀ Γ S β a w, RR Γ S β a w n st → ∀ x, m = some x → ∀ (U : Type) (go : U → St), Code.rounds P body (Post Γ n go ab (.inl x)) k a w
def loopS {A : Type} (m1 : Option (A ⊕ Unit)) (m2 : Option A) : Option A :=
  match m1 with
  | none => none
  | some (.inl a) => some a
  | some (.inr _) => m2
theorem RefLoop.none {body : Code} {k : Nat} : RefLoop P n body k st (none : Option A) ab := fun _ _ _ _ _ _ x hx => by cases hx
theorem RefLoop.succ {body : Code} {k : Nat} {st st' : St} {m1 : Option (A ⊕ Unit)} {m2 : Option A} (h1 : Ref P n [body] st m1 (fun _ => st') ab) (h2 : RefLoop P n body k st' m2 ab) : RefLoop P n body (k + 1) st (loopS m1 m2) ab := by
  intro Γ S β a w hr x hx U go
  rw [rounds_succ]
  cases hm : m1 with
  | none => rw [hm] at hx; cases hx
  | some z =>
    rw [hm] at hx
    refine Code.wp_mono (fun e a' w' he => ?_) (h1 Γ S β a w hr z hm)
    have he' : Post Γ n (fun _ => st') ab z e a' w' := by
      cases e <;> exact he
    cases z with
    | inl y =>
      simp only [loopS, Option.some.injEq] at hx
      subst hx
      obtain ⟨h1e, S', β', hr'⟩ := he'
      have hpost : Post Γ n go ab (.inl y) e a' w' := ⟨h1e, S', β', hr'⟩
      cases hq : (ab y).1 <;> (rw [hq] at h1e; subst h1e; exact hpost)
    | inr t' =>
      obtain ⟨rfl, S', β', hr'⟩ := he'
      exact h2 Γ S' β' a' w' hr' x hx U go
theorem Ref.loopN {body : Code} (k : Nat) {st : St} {m : Option A} (h : RefLoop P n body k st m ab) : Ref P n (.loop body :: cs) st (m.map .inl) go ab := by
  intro Γ S β a w hr q hq
  cases hi : m with
  | none => rw [hi] at hq; cases hq
  | some x =>
    rw [hi] at hq
    simp only [Option.map_some, Option.some.injEq] at hq
    subst hq
    refine Code.wp_mono (fun e a' w' he => ?_) (wp_loop_rounds k (h Γ S β a w hr x hi T go))
    obtain ⟨h1e, S', β', hr'⟩ := he
    have hpost : Post Γ n go ab (.inl x) e a' w' := ⟨h1e, S', β', hr'⟩
    cases hx : (ab x).1 <;> (rw [hx] at h1e; subst h1e; exact hpost)
theorem Ref.condT {c : Code} (x : Operand) (h : c = .cond x (cd c [0]) (cd c [1])) (hb : (st.gd.isEmpty && true) = true) (hl : st.lv x = .c (.val (.bool true))) (h1 : Ref P n (cd c [0] :: cs) st m go ab) : Ref P n (c :: cs) st m go ab := by
  have := Ref.condC (m1 := m) (m2 := m) x true h hb hl (fun _ => h1) (fun e => by cases e)
  simpa using this
theorem Ref.condF {c : Code} (x : Operand) (h : c = .cond x (cd c [0]) (cd c [1])) (hb : (st.gd.isEmpty && true) = true) (hl : st.lv x = .c (.val (.bool false))) (h1 : Ref P n (cd c [1] :: cs) st m go ab) : Ref P n (c :: cs) st m go ab := by
  have := Ref.condC (m1 := m) (m2 := m) x false h hb hl (fun e => by cases e) (fun _ => h1)
  simpa using this
theorem RefR.testC (b : Bool) {ops : Array Oper} {l : List Oper} (h : b = true → RefR P n ops l cs st m go ab) : RefR P n ops l cs st (chk [b] m) go ab := by
  intro Γ S β a w hr x hx
  obtain ⟨hb, hm⟩ := chk_some hx
  exact h (hb b (by simp)) Γ S β a w hr x hm
end
theorem chk_swap {α : Type} {us vs : List Bool} {m : Option α} : chk us (chk vs m) = chk vs (chk us m) := by
  have key : ∀ (us : List Bool) (m : Option α), chk us m = if us.all (fun b => b) = true then m else none := by
    intro us
    induction us with
    | nil => intro m; rfl
    | cons b r ih =>
      intro m
      unfold chk
      rw [ih]
      cases b <;> simp
  rw [key us, key vs, key vs, key us]
  by_cases h1 : us.all (fun b => b) = true <;> by_cases h2 : vs.all (fun b => b) = true <;> simp [h1, h2]
theorem RefXi.swap {P : Program} {n : Nat} {ops : Array Oper} {W : Nat → Bool} {A T : Type} {go : T → St} {ab : A → Ex × St} {st : St} {m : Option (A ⊕ T)} {cs : List Code} {i fuel : Nat} {listed : Array Bool} {us vs : List Bool}
    (h : RefXi P n ops W i fuel listed cs st (chk vs (chk us m)) go ab) : RefXi P n ops W i fuel listed cs st (chk us (chk vs m)) go ab := by
  rw [chk_swap]; exact h
def sliceL {α : Type} (xs : List α) (l h : Nat) (z : α) : List α := (List.range (h - l)).map fun i => xs.getD (l + i) z
theorem El.tree_sliceL {α : Type} (E : El α) (xs : List α) (l h : Nat) : CLe (.tree E.w (h - l) fun i j => E.at xs (l + i) j) (E.tree (sliceL xs l h E.d)) := by
  refine CLe.tree (by simp [sliceL]) fun i j hi _ => ?_
  unfold El.at
  have : (sliceL xs l h E.d).getD i E.d = xs.getD (l + i) E.d := by
    simp [sliceL, List.getD, hi]
  rw [this]
  exact CLe.refl _
theorem El.row_set' {α : Type} (E : El α) (l : List α) (x : α) {i j : Nat} {cl : List C} (hlen : ∀ y, (E.cs y).length = E.w) (hj : j + cl.length ≤ E.w)
    (h : E.cs x = setL (E.cs (l.getD i E.d)) j cl) : OLe (.row E.ty E.w l.length (setRow (E.at l) i j cl)) (E.row (l.set i x)) := by
  by_cases hi : i < l.length
  · exact El.row_set E l x hi hlen hj h
  · rw [List.set_eq_of_length_le (by omega)]
    refine OLe.row rfl fun i' j' hi' hj' => ?_
    unfold setRow
    have : Nat.beq i' i = false := by
      cases hq : Nat.beq i' i with
      | false => rfl
      | true => have := Nat.eq_of_beq_eq_true hq; omega
    rw [this, Bool.false_and, cond_false]
    exact CLe.refl _
def errB (e : Err) : Bool := e.isSome
theorem DFun.toIfc {P : Program} {f : FuncId} {t : TypeId} {args : List D} {xs : List Obj} {m : Option Err} {out : Err → List Obj} (h : DFun P f args xs m (fun r => .c (errC' t r)) out) :
    DFun P f args xs m (fun r => .c (.iface (errB r) t .bot)) out := by
  intro S β w vs hc hv r hr
  refine (h S β w vs hc hv r hr).mono fun e w' he => ?_
  obtain ⟨v, S', β', h1, h2, h3, h4⟩ := he
  refine ⟨v, S', β', h1, ?_, h3, h4⟩
  simp only [DRel, errC', CRel] at h2 ⊢
  unfold errB
  split at h2
  · rename_i hb; rw [if_pos hb]; obtain ⟨u, hu, _⟩ := h2; exact ⟨u, hu, trivial⟩
  · rename_i hb; rw [if_neg hb]; exact h2
theorem DFun.sortInts {P : Program} {f : FuncId} (E : El Int) (hE : E.cs = fun x => [.val (.int .i64 x)]) (hw : E.w = 1)
    (h1 : ∀ (blk off cap : Nat) (zs : List Int) (w : World), Sort.Holds (Value.int .i64) w blk off zs.toArray → blk < w.heap.size → zs.length < 4611686018427387904 →
      Calls P f #[.slice (some ⟨blk, off, none⟩) zs.length cap] w fun e w' => e = .returned (.tuple #[]) ∧ ∃ n os, w' = Sort.grow (Sort.putRow (Value.int .i64) (Sort.ahead w n) blk off (zs.mergeSort fun x y => decide (x ≤ y)).toArray) os)
    (h0 : ∀ (p : Option Addr) (cap : Nat) (w : World), Calls P f #[.slice p 0 cap] w fun e w' => e = .returned (.tuple #[]) ∧ w' = w) (a : List Int) :
    DFun P f [.c (.own 0 a.length)] [E.row a] (if a.length < 4611686018427387904 then some (a.mergeSort fun x y => decide (x ≤ y)) else none) (fun _ => .tup []) (fun r => [E.row r]) := by
  intro S β w vs hc hv r hr
  split at hr
  · rename_i hlen
    simp only [Option.some.injEq] at hr
    subst hr
    obtain ⟨v, rest, rfl, hv, hrest⟩ := hv
    obtain rfl : rest = [] := hrest
    have hrow := hc.objs 0 _ rfl
    simp only [DRel, CRel] at hv
    rcases hrow with ⟨hk, hn⟩ | ⟨k, hk, h2, h3, h4, h5, h6, cur, h7, h8, h9⟩
    · rw [hk] at hv
      obtain ⟨_, rfl⟩ := hv
      have ha : a = [] := List.length_eq_zero_iff.1 hn
      subst ha
      refine (h0 none 0 w).mono fun e w' he => ?_
      obtain ⟨rfl, rfl⟩ := he
      refine ⟨_, S, β, rfl, ⟨[], rfl, rfl⟩, fun _ _ _ h => h, ?_⟩
      simpa using hc
    · rw [hk] at hv
      obtain ⟨_, hcap, rfl⟩ := hv
      have hb := hc.mine 0 k _ rfl rfl hk
      have hw1 : k.w = 1 := h3.trans hw
      have hcell : ∀ j, j < a.length → cur[j]? = some (.int .i64 (a.getD j 0)) := by
        intro j hj
        obtain ⟨u, hu, _, hr⟩ := h9 j 0 hj (by rw [hw]; omega)
        rw [hw] at hu
        simp only [El.at, hE, CRel, List.getD_cons_zero] at hr
        subst hr
        rw [show j * 1 + 0 = j by omega] at hu
        rw [hu, getD_lt (l := a) E.d 0 hj]
      have hH : Sort.Holds (Value.int .i64) w k.b 0 a.toArray := by
        intro j hj
        simp at hj
        have hlt : j < cur.size := by rw [h8, hw]; omega
        refine ⟨?_, by simp [World.frozen?, h7]⟩
        have := hcell j hj
        simp only [World.cell?, h7, Nat.zero_add, this]
        congr 1
        simp [List.getD, hj]
      refine (h1 k.b 0 k.cap a w hH hb.1 hlen).mono fun e w' he => ?_
      obtain ⟨rfl, n, os, rfl⟩ := he
      have hsz : (a.mergeSort fun x y => decide (x ≤ y)).length = a.length := List.length_mergeSort _
      have hheap : ∀ b, (Sort.putRow (Value.int .i64) (Sort.ahead w n) k.b 0 (a.mergeSort fun x y => decide (x ≤ y)).toArray).heap[b]? = if b = k.b then some (.cells (Sort.putCells (Value.int .i64) 0 (a.mergeSort fun x y => decide (x ≤ y)).toArray cur) E.ty (0, 0)) else w.heap[b]? := by
        intro b
        unfold Sort.putRow Sort.mapBlock
        simp only [Sort.heap_ahead, Array.getElem?_modify]
        by_cases h : k.b = b
        · subst h; simp [h7, Sort.onCells]
        · rw [if_neg h, if_neg (Ne.symm h)]
      have hw2 : Core ⟨S, w, Mof β [E.row a], β⟩ S β (Sort.putRow (Value.int .i64) (Sort.ahead w n) k.b 0 (a.mergeSort fun x y => decide (x ≤ y)).toArray) [E.row (a.mergeSort fun x y => decide (x ≤ y))] := by
        refine hc.write 0 (E.row a) (E.row _) k rfl rfl hk rfl rfl rfl (by simp) (fun b hb => by rw [hheap, if_neg hb]) ?_
        refine .inr ⟨k, hk, h2, h3, by rw [h4, hsz], by rw [hsz]; exact h5, h6, _, by rw [hheap, if_pos rfl], by simp [Sort.putCells, h8], fun i j hi hj => ?_⟩
        rw [hw] at hj
        obtain rfl : j = 0 := by omega
        rw [hsz] at hi
        have hlt : i < cur.size := by rw [h8, hw]; omega
        refine ⟨.int .i64 ((a.mergeSort fun x y => decide (x ≤ y)).getD i 0), ?_, rfl, ?_⟩
        · rw [hw, show i * 1 + 0 = i by omega]
          unfold Sort.putCells
          rw [Array.getElem?_mapIdx, Array.getElem?_eq_getElem hlt]
          simp only [Option.map_some, Nat.zero_le, true_and, Nat.zero_add, List.size_toArray, hsz, hi, if_true, Nat.sub_zero]
          congr 2
          simp [List.getD, hsz, hi]
        · simp only [El.at, hE, CRel, List.getD_cons_zero]
          rw [getD_lt (l := a.mergeSort fun x y => decide (x ≤ y)) E.d 0 (by omega)]
      refine ⟨_, S, β, rfl, ⟨[], rfl, rfl⟩, fun _ _ _ h => h, ?_⟩
      exact hw2.newer rfl rfl rfl (by simp) fun b hb => Sort.heap_grow_old _ _ hb
  · cases hr
def imax (p q : Int) : Int := if q > p then q else p
end Go.Dl
