/- Bytes and texts; operations by rules of their own; functions that are known by the kit's contracts. Regions whose order is open: what looks at slots alone may be taken first, whatever the others write. More rules that a program prints: open regions that look at memory; handed objects that move; pointers to oneself. An error as data: a code and a place. strings.Builder: a struct that names itself. A function that is known by a contract and hands back a slice of its own making. Functions that are known by a contract; a function at the start of a call. A test that is known to hold; an operation whose guard holds. Values that are in themselves: their cells as they lie in one, and as elements. Regions whose order is open: an operation that makes a block, alone in its turn. A place that was tested. The rules in short: what is decided by computing stands behind. Regions whose order is open: one of several that are ready, each in its turn. Rows of bytes that come of a text: the conversion, and bytes put behind. No conditions. -/
import Derived.Test.YtmllhpnlceaneaaGreatDoorDB
import Derived.Laws.BytesString
import Derived.KernelRfl
import Derived.Laws.IdiomStrings
import Derived.Laws.CopyRow
namespace Go.Dl
set_option linter.unusedVariables false
set_option linter.unusedSimpArgs false
set_option linter.unusedSectionVars false
variable [WInv]

/-- A byte, of a number. -/
def b8 (e : Int) : UInt8 := UInt8.ofNat e.toNat
structure IsB (e : Int) : Prop where
  lo : 0 ≤ e
  hi : e < 256

theorem IsB.eq {e : Int} (h : IsB e) : Int.ofNat (b8 e).toNat = e := by
  obtain ⟨h1, h2⟩ := h
  have h3 : e.toNat < 256 := by omega
  have : (b8 e).toNat = e.toNat := by
    unfold b8
    rw [UInt8.toNat_ofNat']
    exact Nat.mod_eq_of_lt h3
  rw [this]
  exact Int.toNat_of_nonneg h1

theorem IsB.byte (x : UInt8) : IsB (Int.ofNat x.toNat) := ⟨Int.natCast_nonneg _, by have := x.toNat_lt; show (x.toNat : Int) < 256; omega⟩
theorem IsB.wrap (x : Int) : IsB (IntKind.u8.wrap x) := by
  constructor
  · show 0 ≤ x % 256; omega
  · show x % 256 < 256; omega
theorem IsB.tmod {a b : Int} (h : IsB a) : IsB (a.tmod b) := by
  obtain ⟨h1, h2⟩ := h
  refine ⟨Int.tmod_nonneg _ h1, ?_⟩
  have : a.tmod b ≤ a := by
    obtain ⟨n, rfl⟩ := Int.eq_ofNat_of_zero_le h1
    rcases Int.natAbs_eq b with hb | hb
    · rw [hb, ← Int.ofNat_tmod]; exact_mod_cast Nat.mod_le _ _
    · rw [hb, Int.tmod_neg, ← Int.ofNat_tmod]; exact_mod_cast Nat.mod_le _ _
  omega
theorem IsB.const (n : Nat) (h : Nat.blt n 256 = true) : IsB (Int.ofNat n) := ⟨Int.natCast_nonneg _, by rw [Nat.blt_eq] at h; show (n : Int) < 256; omega⟩

theorem CLe.b8 {e : Int} (h : IsB e) : CLe (.val (.int .u8 e)) (.val (.int .u8 (Int.ofNat (b8 e).toNat))) := by
  rw [h.eq]; exact CLe.refl _

/-- Bytes, as elements. -/
def bAt (l : Bytes) (i j : Nat) : C := ([.val (.int .u8 (Int.ofNat (l.getD i 0).toNat))] : List C).getD j .bot

section
variable {P : Program} {n : Nat} {A T R : Type} {go : T → St} {ab : A → Ex × St} {st st' : St} {m : Option (A ⊕ T)} {cs : List Code}

/-- What a rule for one operation asks of it: no guard, a slot that is free. -/
def opInfo (n : Nat) (o : Oper) (st : St) : Option Nat :=
  match o.guard, o.dst with
  | none, some t => bif Nat.blt t n && freeOf st t then some t else none
  | _, _ => none

/-- An operation gives a value of which d says the truth. -/
def GoodN (P : Program) (s : Sem Next) (Γ : Ctx) (S : Mem) (β : Bmap) (w : World) (d : D) (xs : List Obj) : Prop :=
  ∃ u w' S' β', s.run P w = .ok (.value u) w' ∧ DRel S' β' d u ∧ MLe S S' ∧ BLe β β' ∧ Core Γ S' β' w' xs

theorem RefR.opN (k k' : Nat) {ops : Array Oper} {l : List Oper} {t : Nat} {d : D} {xs : List Obj} (hk : (Nat.blt k l.length && Nat.beq k' (k + 1)) = true) (hi : opInfo n (opAt l k) st = some t)
    (hg : ∀ Γ S β a w, RR Γ S β a w n st → GoodN P (execOp a.eval (opAt l k)) Γ S β w d xs)
    (h : RefR P n ops (l.drop k') cs (st.put (some t) d xs []) m go ab) : RefR P n ops (l.drop k) cs st m go ab := by
  rw [Bool.and_eq_true] at hk
  obtain ⟨hk, hk'⟩ := hk
  have hk' := Nat.eq_of_beq_eq_true hk'
  subst hk'
  rw [drop_opAt hk]
  unfold opInfo at hi
  split at hi
  · rename_i t' hgd hd
    obtain ⟨hc, hi⟩ := some_of_cond hi
    simp only [Option.some.injEq] at hi
    subst hi
    rw [Bool.and_eq_true, Nat.blt_eq] at hc
    intro Γ S β a w hr q hq
    simp only [wpList, Region.wanted, hgd, if_true]
    left
    obtain ⟨u, w', S', β', hrun, hd1, hs, hb, hco⟩ := hg Γ S β a w hr
    simp only [Oper.wp, Oper.upon, hrun]
    rw [hd]
    exact h Γ S' β' _ w' (hr.put hco hs hb hc.1 hc.2 (g := []) (fun q hq => by cases hq) (fun _ => hd1) (fun hno => absurd (fun q hq => by cases hq) hno)) q hq
  · cases hi

theorem foldl_push : ∀ (ns : List Int) (r : ByteArray), ns.foldl (fun r n => r.push (UInt8.ofNat n.toNat)) r = ⟨⟨r.data.toList ++ ns.map fun n => UInt8.ofNat n.toNat⟩⟩
  | [], r => by
    obtain ⟨⟨l⟩⟩ := r
    simp
  | n :: ns, r => by
    rw [List.foldl_cons, foldl_push ns]
    obtain ⟨⟨l⟩⟩ := r
    simp [ByteArray.push]

/-- A row of bytes, or a slice of bytes that nobody writes. -/
def isBytes (xs : List Obj) (d : D) (l : Bytes) : Prop :=
  (∃ o e, d = .c (.own o l.length) ∧ xs[o]? = some (.row e 1 l.length (bAt l))) ∨ d = .c (.tree 1 l.length (bAt l)) ∨ (d = .c .nil ∧ l = [])

theorem isBytes.own {xs : List Obj} {d : D} {l : Bytes} (o : Nat) (e : TypeId) (h1 : d = .c (.own o l.length)) (h2 : xs[o]? = some (.row e 1 l.length (bAt l))) : isBytes xs d l := .inl ⟨o, e, h1, h2⟩
theorem isBytes.tree {xs : List Obj} {d : D} {l : Bytes} (h : d = .c (.tree 1 l.length (bAt l))) : isBytes xs d l := .inr (.inl h)
theorem isBytes.nil {xs : List Obj} {d : D} (h : d = .c .nil) : isBytes xs d [] := .inr (.inr ⟨h, rfl⟩)

theorem bAt_rel {S : Mem} {β : Bmap} {l : Bytes} {i : Nat} {u : Value} (h : CRel S β (bAt l i 0) u) : u = .int .u8 (Int.ofNat (l.getD i 0).toNat) := h

theorem bytes_run {Γ : Ctx} {S : Mem} {β : Bmap} {w : World} {xs : List Obj} {d : D} {l : Bytes} {v : Value} (hc : Core Γ S β w xs) (hd : DRel S β d v) (hb : isBytes xs d l) :
    (Conv.bytesToString v).run P w = .ok (.string ⟨l.toArray⟩) w ∧ l.length ≤ maxLen := by
  have fin : ∀ (b off cap : Nat), (∀ i, i < l.length → w.cell? ⟨b, off + i, none⟩ = some (.int .u8 (Int.ofNat (l.getD i 0).toNat))) →
      (Conv.bytesToString (.slice (some ⟨b, off, none⟩) l.length cap)).run P w = .ok (.string ⟨l.toArray⟩) w := by
    intro b off cap hcell
    have hl : (loadCells ⟨b, off, none⟩ l.length).run P w = .ok ((l.map fun x => Int.ofNat x.toNat).map (Value.int .u8)).toArray w := by
      have := run_loadCells (P := P) w ⟨b, off, none⟩ l.length (fun i => .int .u8 (Int.ofNat (l.getD i 0).toNat)) (fun j hj => by rw [add_lit]; exact hcell j hj)
      rw [this]
      congr 2
      apply List.ext_getElem?
      intro i
      rw [List.map_map, List.getElem?_map, List.getElem?_map]
      rcases Nat.lt_or_ge i l.length with hi | hi
      · simp [List.getElem?_range hi, List.getElem?_eq_getElem hi, List.getD]
      · rw [List.getElem?_eq_none (by simpa using hi), List.getElem?_eq_none hi]; rfl
    rw [run_bytesToString w _ _ _ _ hl, foldl_push]
    have : ((fun n : Int => UInt8.ofNat n.toNat) ∘ fun x : UInt8 => Int.ofNat x.toNat) = id := by
      funext x
      show UInt8.ofNat x.toNat = x
      simp
    rw [List.map_map, this, List.map_id]
    rfl
  have fin0 : ∀ (a : Option Addr) (cap : Nat), a = none ∨ True → l = [] → (Conv.bytesToString (.slice none 0 0)).run P w = .ok (.string ⟨l.toArray⟩) w := by
    intro _ _ _ h; subst h; rfl
  rcases hb with ⟨o, e, rfl, ho⟩ | rfl | ⟨rfl, rfl⟩
  · have hx := hc.objs o _ ho
    rcases hx with ⟨h1, h2⟩ | ⟨k, h1, h2, h3, h4, h5, h6, cur, h7, h8, h9⟩
    · simp only [DRel, CRel, h1] at hd
      obtain ⟨h3, rfl⟩ := hd
      have : l = [] := List.length_eq_zero_iff.1 h2
      exact ⟨fin0 none 0 (.inl rfl) this, by rw [this]; exact Nat.zero_le _⟩
    · simp only [DRel, CRel, h1] at hd
      obtain ⟨_, _, rfl⟩ := hd
      refine ⟨fin k.b 0 k.cap fun i hi => ?_, Nat.le_trans h5 h6⟩
      obtain ⟨u, hu, _, hr⟩ := h9 i 0 hi (by omega)
      rw [cell_of_heap h7, Nat.zero_add]
      rw [Nat.mul_one, Nat.add_zero] at hu
      rw [hu, bAt_rel hr]
  · obtain ⟨a, cap, rfl, h2, h3, h4⟩ := hd
    refine ⟨?_, Nat.le_trans h2 h3⟩
    rcases h4 with h4 | ⟨b, off, rfl, h5⟩
    · have : l = [] := List.length_eq_zero_iff.1 h4
      subst this
      cases a with
      | none => rfl
      | some a => rfl
    · refine fin b off cap fun i hi => ?_
      obtain ⟨u, hu, hr⟩ := h5 i 0 hi (by omega)
      rw [Nat.mul_one, Nat.add_zero] at hu
      rw [(hc.holds _ _ _ hu).1, bAt_rel hr]
  · obtain rfl : v = .slice none 0 0 := hd
    exact ⟨rfl, Nat.zero_le _⟩

def convInfo (P : Program) (n : Nat) (o : Oper) (st : St) : Option (Nat × D) :=
  match opInfo n o st, o.op with
  | some t, .convert s d x =>
    (match P.underlying s, P.underlying d with
    | some (.slice e), some .string => (match P.underlying e with
      | some (.int .u8) => some (t, (st.see []).lv x)
      | _ => none)
    | _, _ => none)
  | _, _ => none

/-- A text, of bytes. -/
theorem RefR.bytesStr (k k' : Nat) (bs : Bytes) {ops : Array Oper} {l : List Oper} {t : Nat} {d : D} (hk : (Nat.blt k l.length && Nat.beq k' (k + 1)) = true) (hi : convInfo P n (opAt l k) st = some (t, d)) (hb : isBytes st.objs d bs)
    (h : RefR P n ops (l.drop k') cs (st.put (some t) (.c (.str bs)) st.objs []) m go ab) : RefR P n ops (l.drop k) cs st m go ab := by
  unfold convInfo at hi
  split at hi
  · rename_i t' s d0 x ht hop
    split at hi
    · rename_i e h1 h2
      split at hi
      · rename_i h3
        simp only [Option.some.injEq, Prod.mk.injEq] at hi
        obtain ⟨rfl, rfl⟩ := hi
        refine RefR.opN k k' hk ht (fun Γ S β a w hr => ?_) h
        have hx := see_rel hr (g := []) (fun q hq => by cases hq) x
        obtain ⟨hrun, hmx⟩ := bytes_run (P := P) hr.core hx hb
        refine ⟨.string ⟨bs.toArray⟩, w, S, β, ?_, ⟨rfl, hmx⟩, MLe.refl _, BLe.refl _, hr.core⟩
        unfold execOp
        rw [hop]
        simp only
        have : (convert s d0 (a.eval x)).run P w = .ok (.string ⟨bs.toArray⟩) w := by
          unfold convert
          rw [Sem.run_bind, run_underlying h1, Result.andThen_ok, Sem.run_bind, run_underlying h2, Result.andThen_ok]
          generalize a.eval x = v at *
          have hsl : ∃ q n c, v = .slice q n c := by
            rcases hb with ⟨o, e', hq, ho⟩ | hq | ⟨hq, _⟩
            · rw [hq] at hx
              simp only [DRel, CRel] at hx
              split at hx
              · exact ⟨_, _, _, hx.2.2⟩
              · exact ⟨_, _, _, hx.2⟩
              · exact hx.elim
            · rw [hq] at hx
              obtain ⟨q, c, e1, _⟩ := hx
              exact ⟨_, _, _, e1⟩
            · rw [hq] at hx
              exact ⟨_, _, _, hx⟩
          obtain ⟨q, n, c, rfl⟩ := hsl
          simp only
          rw [Sem.run_bind, run_underlying h3, Result.andThen_ok]
          exact hrun
        rw [Sem.run_bind, this]
        rfl
      · cases hi
    · cases hi
  · cases hi

/-- A function that is known by a contract: what it hands back says nothing of memory. -/
theorem DFun.of_calls {f : FuncId} {args : List D} {mr : Option R} {res : R → D}
    (h : ∀ S β w vs, WInv.I w → VRel S β args vs → ∀ r, mr = some r → Calls P f vs.toArray w fun e w' => ∃ v, e = .returned v ∧ DRel S β (res r) v ∧ Up w w') : DFun P f args [] mr res (fun _ => []) := by
  intro S β w vs hc hv r hr
  refine (h S β w vs hc.inv hv r hr).mono fun e w' ⟨v, he, hd, hu⟩ => ⟨v, S, β, he, hd, fun o k ho _ => by simp at ho, hc.newer hu.os hu.tape hu.output hu.size hu.block⟩

end
end Go.Dl

namespace Go.Dl
set_option linter.unusedVariables false
set_option linter.unusedSimpArgs false
set_option linter.unusedSectionVars false
variable [WInv]

/-- These may come first, one behind the other. -/
def firstsP (ops : Array Oper) : Array Bool → List Nat → Option (Array Bool)
  | listed, [] => some listed
  | listed, i :: r =>
    bif (Region.ready .any ops listed).contains i && (Region.free .any ops listed i && (ops[i]?).elim false fun o => pureOp o.op && quietOp o.op) then firstsP ops (listed.setIfInBounds i true) r else none

/-- A region in its course, and the code behind it. -/
def RefY (P : Program) (n : Nat) (ops : Array Oper) {A T : Type} (fuel : Nat) (listed : Array Bool) (cs : List Code) (st : St) (m : Option (A ⊕ T)) (go : T → St) (ab : A → Ex × St) : Prop :=
  ∀ Γ S β a w, RR Γ S β a w n st → ∀ x, m = some x → wpAny P .any ops (Exit.then (wpL P cs (Post Γ n go ab x)) (Post Γ n go ab x)) fuel listed a w

section
variable {P : Program} {n : Nat} {ops : Array Oper}

theorem wpAny_evs {Q : Exit → Act → World → Prop} {Γ : Ctx} {S : Mem} {β : Bmap} {w : World} {fuel : Nat} {listed' : Array Bool} {st2 : St} (hQ : ∀ c a w, ¬ Q (.panic c) a w) (hsel : Region.noSelect ops = true) :
    ∀ {is : List Nat} {listed : Array Bool} {st : St} {vs : List Bool} {a : Act},
    RR Γ S β a w n st → firstsP ops listed is = some listed' → evOps P n ops (opsOf ops is) st = some (vs, st2) → (∀ b ∈ vs, b = true) →
    (∀ a', RR Γ S β a' w n st2 → wpAny P .any ops Q fuel listed' a' w) → wpAny P .any ops Q (is.length + fuel) listed a w
  | [], listed, st, vs, a, hr, hf, he, hvs, hk => by
    simp only [firstsP, Option.some.injEq] at hf
    subst hf
    simp only [opsOf, List.filterMap_nil, evOps, Option.some.injEq, Prod.mk.injEq] at he
    obtain ⟨_, rfl⟩ := he
    rw [List.length_nil, Nat.zero_add]
    exact hk a hr
  | i :: r, listed, st, vs, a, hr, hf, he, hvs, hk => by
    unfold firstsP at hf
    obtain ⟨hc, hf⟩ := some_of_cond hf
    simp only [Bool.and_eq_true] at hc
    obtain ⟨hrd, hfree, hq⟩ := hc
    cases ho : ops[i]? with
    | none => rw [ho] at hq; cases hq
    | some o =>
      rw [ho] at hq
      simp only [Option.elim, Bool.and_eq_true] at hq
      obtain ⟨hp, hq⟩ := hq
      have hops : opsOf ops (i :: r) = o :: opsOf ops r := by simp [opsOf, ho]
      rw [hops] at he
      unfold evOps at he
      split at he
      · rename_i v st1 h1
        split at he
        · rename_i vs2 st3 h2
          simp only [Option.some.injEq, Prod.mk.injEq] at he
          obtain ⟨rfl, rfl⟩ := he
          have hv1 : ∀ b ∈ v, b = true := fun b hb => hvs b (List.mem_append_left _ hb)
          have hv2 : ∀ b ∈ vs2, b = true := fun b hb => hvs b (List.mem_append_right _ hb)
          rw [List.length_cons, show r.length + 1 + fuel = (r.length + fuel) + 1 by omega]
          rcases evStep_cases hr h1 hv1 with ⟨hw, u, w', S', β', _, hrr, hqq⟩ | ⟨hw, hrr⟩
          · obtain ⟨rfl, rfl, rfl, hrun⟩ := hqq hq
            exact wpAny_take ho hsel hfree hrd (fun c a w h => absurd h (hQ c _ w)) (.inl ⟨hw, fun w2 => hrun w2 (.inl hp)⟩) (wpAny_evs hQ hsel hrr hf h2 hv2 hk)
          · exact wpAny_take ho hsel hfree hrd (fun c a w h => absurd h (hQ c _ w)) (.inr ⟨hw, rfl⟩) (wpAny_evs hQ hsel hrr hf h2 hv2 hk)
        · cases he
      · cases he

theorem wpAny_of_seq {Q' : Exit → Act → World → Prop} : ∀ (js : List Nat) (listed : Array Bool) (a : Act) (w : World), seqL .any ops listed js = true → (js.all fun j => (ops[j]?).isSome) = true →
    wpList P ops Q' (opsOf ops js) a w → wpAny P .any ops Q' js.length listed a w
  | [], listed, a, w, hs, _, h => ⟨by simpa [seqL] using hs, h⟩
  | j :: r, listed, a, w, hs, hW, h => by
    simp only [seqL, Bool.and_eq_true, decide_eq_true_eq] at hs
    simp only [List.all_cons, Bool.and_eq_true] at hW
    refine ⟨fun h1 => (by rw [hs.1] at h1; cases h1), fun i hi => ?_⟩
    rw [hs.1] at hi
    have hik : i = j := by simpa using hi
    subst hik
    obtain ⟨o, ho⟩ := Option.isSome_iff_exists.1 hW.1
    have hops : opsOf ops (i :: r) = o :: opsOf ops r := by simp [opsOf, ho]
    rw [hops] at h
    have hw : wpOp P ops Q' i (wpList P ops Q' (opsOf ops r)) a w := by unfold wpOp; simp only [ho]; exact h
    exact wpOp_mono (fun a' w' h' => wpAny_of_seq r _ a' w' hs.2 (by rw [List.all_eq_true]; simpa using hW.2) h') hw

variable {A T : Type} {go : T → St} {ab : A → Ex × St} {st : St} {m : Option (A ⊕ T)} {cs : List Code} {c : Code}

theorem Post.no_panic {Γ : Ctx} {x : A ⊕ T} {K : Act → World → Prop} : ∀ c a w, ¬ Exit.then K (Post Γ n go ab x) (.panic c) a w := by
  intro c a w h
  have h' : Post Γ n go ab x (.panic c) a w := h
  cases x with
  | inl t =>
    have := h'.1
    cases hx : (ab t).1 <;> rw [hx] at this <;> cases this
  | inr t => cases h'.1

theorem Ref.drawnY (id : Nat) (h : c = .region id (rg c) true) (hm : P.follows .mixedOrders = true)
    (hr : RefY P n (rg c) (rg c).size (Array.replicate (rg c).size false) cs st m go ab) : Ref P n (c :: cs) st m go ab := by
  rw [h]
  intro Γ S β a w hrr x hx
  refine wp_region_any hm (hr Γ S β a _ ?_ x hx)
  exact ⟨hrr.core.drew, hrr.tm, hrr.un, hrr.size, hrr.defers, hrr.hand⟩

/-- Some that look at slots alone, first. -/
theorem RefY.ev (is keep om : List Nat) {fuel fuel' : Nat} {listed listed' : Array Bool} {vs : List Bool} {st' : St} (hfu : fuel = is.length + fuel')
    (hf : (bif Region.noSelect ops then firstsP ops listed is else none) = some listed') (he : run1 P n ops (opsOf ops is) st keep om = some (vs, st'))
    (h : RefY P n ops fuel' listed' cs st' m go ab) : RefY P n ops fuel listed cs st (chk vs m) go ab := by
  intro Γ S β a w hr x hx
  obtain ⟨hvs, hm⟩ := chk_some hx
  obtain ⟨hsel, hf⟩ := some_of_cond hf
  subst hfu
  unfold run1 at he
  split at he
  · rename_i vs2 st2 h2
    cases hk : st2.keep keep om with
    | none => rw [hk] at he; cases he
    | some st3 =>
      rw [hk] at he
      simp only [Option.map_some, Option.some.injEq, Prod.mk.injEq] at he
      obtain ⟨rfl, rfl⟩ := he
      exact wpAny_evs Post.no_panic hsel hr hf h2 hvs fun a' h' => h Γ S (bren β om) a' w (keep_sound h' hk) x hm
  · cases he

theorem RefY.ev0 (is keep om : List Nat) {fuel fuel' : Nat} {listed listed' : Array Bool} {st' : St} (hfu : fuel = is.length + fuel')
    (hf : (bif Region.noSelect ops then firstsP ops listed is else none) = some listed') (he : run1 P n ops (opsOf ops is) st keep om = some ([], st'))
    (h : RefY P n ops fuel' listed' cs st' m go ab) : RefY P n ops fuel listed cs st m go ab :=
  fun Γ S β a w hr x hx => RefY.ev (vs := []) is keep om hfu hf he h Γ S β a w hr x hx

theorem RefY.evC (is keep om : List Nat) {fuel fuel' : Nat} {listed : Array Bool} {vs : List Bool} {st' : St} (hfu : fuel = is.length + fuel')
    (hf : (Region.noSelect ops && (firstsP ops listed is).isSome) = true) (he : run1 P n ops (opsOf ops is) st keep om = some (vs, st'))
    (h : RefY P n ops fuel' ((firstsP ops listed is).getD listed) cs st' m go ab) : RefY P n ops fuel listed cs st (chk vs m) go ab := by
  rw [Bool.and_eq_true] at hf
  obtain ⟨l', hl⟩ := Option.isSome_iff_exists.1 hf.2
  rw [hl] at h
  exact RefY.ev is keep om hfu (by rw [hf.1, cond_true]; exact hl) he h

theorem RefY.evC0 (is keep om : List Nat) {fuel fuel' : Nat} {listed : Array Bool} {st' : St} (hfu : fuel = is.length + fuel')
    (hf : (Region.noSelect ops && (firstsP ops listed is).isSome) = true) (he : run1 P n ops (opsOf ops is) st keep om = some ([], st'))
    (h : RefY P n ops fuel' ((firstsP ops listed is).getD listed) cs st' m go ab) : RefY P n ops fuel listed cs st m go ab :=
  fun Γ S β a w hr x hx => RefY.evC (vs := []) is keep om hfu hf he h Γ S β a w hr x hx

/-- What is left has one order. -/
theorem RefY.tail (js : List Nat) {fuel : Nat} {listed : Array Bool} (hfu : fuel = js.length) (hs : (seqL .any ops listed js && js.all fun j => (ops[j]?).isSome) = true)
    (h : RefR P n ops ((opsOf ops js).drop 0) cs st m go ab) : RefY P n ops fuel listed cs st m go ab := by
  intro Γ S β a w hr x hx
  rw [Bool.and_eq_true] at hs
  subst hfu
  exact wpAny_of_seq js listed a w hs.1 hs.2 (h Γ S β a w hr x hx)

theorem RefY.toX (W : List Nat) {fuel : Nat} {listed : Array Bool} (h : RefX P n ops (inW W) fuel listed cs st m go ab) : RefY P n ops fuel listed cs st m go ab :=
  fun Γ S β a w hr x hx => wpAny_of_x _ _ _ _ (h Γ S β a w hr x hx)

theorem RefY.done {listed : Array Bool} (hs : (Region.ready .any ops listed).isEmpty = true) (h : Ref P n cs st m go ab) : RefY P n ops 0 listed cs st m go ab :=
  fun Γ S β a w hr x hx => ⟨by simpa using hs, h Γ S β a w hr x hx⟩

theorem RefY.conv {fuel : Nat} {listed : Array Bool} {st' : St} (hc : Conv n st st') (h : RefY P n ops fuel listed cs st' m go ab) : RefY P n ops fuel listed cs st m go ab := fun Γ S β a w hr x hx => by
  obtain ⟨S', β', h'⟩ := hc Γ S β a w hr
  exact h Γ S' β' a w h' x hx

/-- A value by a name. -/
def letV {X Y : Type} (v : X) (f : X → Y) : Y := f v

theorem Ref.letC {X : Type} {v : X} {stf : X → St} {mf : X → Option (A ⊕ T)} (h0 : stf v = st) (h : ∀ x, Ref P n cs (stf x) (mf x) go ab) : Ref P n cs st (letV v mf) go ab := h0 ▸ h v
theorem RefR.letC {X : Type} {v : X} {l : List Oper} {stf : X → St} {mf : X → Option (A ⊕ T)} (h0 : stf v = st) (h : ∀ x, RefR P n ops l cs (stf x) (mf x) go ab) : RefR P n ops l cs st (letV v mf) go ab := h0 ▸ h v
theorem RefY.letC {X : Type} {v : X} {fuel : Nat} {listed : Array Bool} {stf : X → St} {mf : X → Option (A ⊕ T)} (h0 : stf v = st) (h : ∀ x, RefY P n ops fuel listed cs (stf x) (mf x) go ab) : RefY P n ops fuel listed cs st (letV v mf) go ab := h0 ▸ h v

theorem bndOk_le {n : Nat} {l h : Int} (hb : bndOk n l h = true) : h.toNat ≤ n := by
  simp only [bndOk, Bool.and_eq_true, decide_eq_true_eq] at hb
  omega

theorem El.row_append_str (E : El UInt8) (hE : E.cs = fun x => [.val (.int .u8 (Int.ofNat x.toNat))]) (xs s : Bytes) {n m : Nat} (hn : n = xs.length) (hm : m = s.length := by rfl) (hd : E.d = 0 := by rfl) (hw : E.w = 1 := by rfl) :
    OLe (.row E.ty E.w (n + m) fun i j => bif Nat.blt i n then E.at xs i j else (fun i _ => .val (.int .u8 (s.getD i 0).toNat)) (i - n) j) (E.row (xs ++ s)) := by
  subst hn hm
  refine OLe.row (by simp) fun i j hi hj => ?_
  rw [hw] at hj
  obtain rfl : j = 0 := by omega
  unfold El.at
  rw [hd]
  rcases Nat.lt_or_ge i xs.length with h | h
  · have hb : Nat.blt i xs.length = true := by simpa [Nat.blt_eq] using h
    rw [hb, cond_true, getD_append_l _ _ _ _ h]
    exact CLe.refl _
  · have hb : Nat.blt i xs.length = false := by
      cases hq : Nat.blt i xs.length with
      | false => rfl
      | true => rw [Nat.blt_eq] at hq; omega
    rw [hb, cond_false, getD_append_r _ _ _ _ h, hE]
    exact CLe.refl _

theorem El.row_str (E : El UInt8) (hE : E.cs = fun x => [.val (.int .u8 (Int.ofNat x.toNat))]) (s : Bytes) (hd : E.d = 0 := by rfl) (hw : E.w = 1 := by rfl) :
    OLe (.row E.ty E.w s.length fun i _ => .val (.int .u8 (s.getD i 0).toNat)) (E.row s) := by
  refine OLe.row rfl fun i j hi hj => ?_
  rw [hw] at hj
  obtain rfl : j = 0 := by omega
  unfold El.at
  rw [hd, hE]
  exact CLe.refl _

theorem El.row_append_nil {α : Type} (E : El α) (xs : List α) {n : Nat} (hn : n = xs.length) :
    OLe (.row E.ty E.w (n + 0) fun i j => bif Nat.blt i n then E.at xs i j else (fun _ _ => C.bot) (i - n) j) (E.row xs) := by
  subst hn
  refine OLe.row rfl fun i j hi hj => ?_
  have hb : Nat.blt i xs.length = true := by simpa [Nat.blt_eq] using hi
  rw [hb, cond_true]
  exact CLe.refl _

/-- The state by other words for the same. -/
theorem Conv.eq {st' : St} (h : st = st') : Conv n st st' := h ▸ Conv.refl

end
end Go.Dl

namespace Go.Dl
set_option linter.unusedVariables false
set_option linter.unusedSimpArgs false
set_option linter.unusedSectionVars false
variable [WInv]
section
variable {P : Program} {n : Nat} {ops : Array Oper} {W : Nat → Bool} {A T R : Type} {go : T → St} {ab : A → Ex × St} {st st' : St} {m : Option (A ⊕ T)} {cs : List Code} {c : Code}

theorem RefX.evC (is keep om : List Nat) {fuel fuel' : Nat} {listed : Array Bool} {vs : List Bool} {st' : St} (hfu : fuel = is.length + fuel')
    (hf : (Region.noSelect ops && (firsts .any ops W listed is).isSome) = true) (he : run1 P n ops (opsOf ops is) st keep om = some (vs, st'))
    (h : RefX P n ops W fuel' ((firsts .any ops W listed is).getD listed) cs st' m go ab) : RefX P n ops W fuel listed cs st (chk vs m) go ab := by
  rw [Bool.and_eq_true] at hf
  obtain ⟨l', hl⟩ := Option.isSome_iff_exists.1 hf.2
  rw [hl] at h
  exact RefX.ev is keep om hfu (by rw [hf.1, cond_true]; exact hl) he h

theorem RefX.evC0 (is keep om : List Nat) {fuel fuel' : Nat} {listed : Array Bool} {st' : St} (hfu : fuel = is.length + fuel')
    (hf : (Region.noSelect ops && (firsts .any ops W listed is).isSome) = true) (he : run1 P n ops (opsOf ops is) st keep om = some ([], st'))
    (h : RefX P n ops W fuel' ((firsts .any ops W listed is).getD listed) cs st' m go ab) : RefX P n ops W fuel listed cs st m go ab :=
  fun Γ S β a w hr x hx => RefX.evC (vs := []) is keep om hfu hf he h Γ S β a w hr x hx

theorem RefX.letC {X : Type} {v : X} {fuel : Nat} {listed : Array Bool} {stf : X → St} {mf : X → Option (A ⊕ T)} (h0 : stf v = st) (h : ∀ x, RefX P n ops W fuel listed cs (stf x) (mf x) go ab) : RefX P n ops W fuel listed cs st (letV v mf) go ab := h0 ▸ h v

/-- The row o by the last number. -/
def moveC (o o' : Nat) : C → C
  | .own q n => bif Nat.beq q o then .own o' n else .own q n
  | c => c
def St.move (st : St) (o : Nat) : Option St :=
  match st.objs[o]? with
  | some (.row e w k get) => some ⟨st.tmps.map fun p => (p.1, p.2.sub (moveC o st.objs.length)), (st.objs.set o .dead).map (Obj.sub (moveC o st.objs.length)) ++ [.row e w k get], st.gd, st.h⟩
  | _ => none

theorem C.move_rel {S : Mem} {β β' : Bmap} {o o' : Nat} (hle : BLe β β') (ho : β' o' = β o) : ∀ {c : C} {v : Value}, CRel S β c v → CRel S β' (c.sub (moveC o o')) v := by
  intro c
  induction c with
  | own q k =>
    intro v hv
    simp only [C.sub, moveC]
    cases hb : Nat.beq q o with
    | true =>
      have := Nat.eq_of_beq_eq_true hb
      subst this
      rw [cond_true]
      simp only [CRel, ho] at hv ⊢
      exact hv
    | false => rw [cond_false]; exact CRel.grow _ hle _ hv
  | ptr q i j => intro v hv; exact CRel.grow _ hle _ hv
  | self t b q => intro v hv; exact CRel.grow (.self t b q) hle _ hv
  | opt b c ih =>
    intro v hv
    simp only [C.sub, CRel] at hv ⊢
    split at hv
    · rename_i h; rw [if_pos h]; exact ih hv
    · rename_i h; rw [if_neg h]; exact hv
  | iface b t c ih =>
    intro v hv
    simp only [C.sub, CRel] at hv ⊢
    split at hv
    · rename_i h; rw [if_pos h]; obtain ⟨u, hu, hr⟩ := hv; exact ⟨u, hu, ih hr⟩
    · rename_i h; rw [if_neg h]; exact hv
  | func fn k cap ih =>
    rintro v ⟨vs, h1, h2, h3⟩
    refine ⟨vs, h1, h2, fun i hi => ?_⟩
    have : (((List.range k).map fun i => (cap i).sub (moveC o o')).getD i .bot) = (cap i).sub (moveC o o') := by
      simp [List.getD, hi]
    show CRel S β' (((List.range k).map fun i => (cap i).sub (moveC o o')).getD i .bot) _
    rw [this]
    exact ih i (h3 i hi)
  | cond b c ih =>
    intro v hv hb
    exact ih (hv hb)
  | _ => intro v hv; exact hv

theorem D1.move_rel {S : Mem} {β β' : Bmap} {o o' : Nat} (hle : BLe β β') (ho : β' o' = β o) {d : D1} {v : Value} (h : D1Rel S β d v) : D1Rel S β' (d.sub (moveC o o')) v := by
  cases d with
  | c x => exact C.move_rel hle ho h
  | agg l => obtain ⟨vs, h1, h2⟩ := h; exact ⟨vs, h1, h2.map _ fun _ _ h => C.move_rel hle ho h⟩

theorem D.move_rel {S : Mem} {β β' : Bmap} {o o' : Nat} (hle : BLe β β') (ho : β' o' = β o) {d : D} {v : Value} (h : DRel S β d v) : DRel S β' (d.sub (moveC o o')) v := by
  cases d with
  | c x => exact C.move_rel hle ho h
  | agg l => obtain ⟨vs, h1, h2⟩ := h; exact ⟨vs, h1, h2.map _ fun _ _ h => C.move_rel hle ho h⟩
  | tup l => obtain ⟨vs, h1, h2⟩ := h; exact ⟨vs, h1, h2.map _ fun _ _ h => D1.move_rel hle ho h⟩

theorem lookup_sub (f : C → C) (t : Nat) : ∀ (l : List (Nat × D)), lookupT (D.c .bot) (l.map fun p => (p.1, p.2.sub f)) t = (lookupT (D.c .bot) l t).sub f
  | [] => rfl
  | (i, d) :: r => by
    rw [List.map_cons]
    simp only [lookupT]
    cases hb : Nat.beq i t with
    | true => rfl
    | false => rw [cond_false, cond_false]; exact lookup_sub f t r

theorem sub_bool {d : D} {f : C → C} {b : Bool} (hf : ∀ q n, f (.own q n) ≠ .val (.bool b)) (hp : ∀ q i j, f (.ptr q i j) ≠ .val (.bool b)) : d.sub f = .c (.val (.bool b)) ↔ d = .c (.val (.bool b)) := by
  constructor
  · intro h
    cases d with
    | c x =>
      simp only [D.sub, D.c.injEq] at h
      cases x with
      | val u => simp only [C.sub] at h; rw [h]
      | own o m => simp only [C.sub] at h; exact absurd h (hf _ _)
      | ptr o i j => simp only [C.sub] at h; exact absurd h (hp _ _ _)
      | _ => simp only [C.sub] at h; cases h
    | agg l => cases h
    | tup l => cases h
  · rintro rfl; rfl

theorem Conv.move (o : Nat) (hm : st.move o = some st') (hh : Nat.ble st.h st.objs.length = true) : Conv n st st' := by
  have hh := Nat.le_of_ble_eq_true hh
  intro Γ S β a w hr
  unfold St.move at hm
  split at hm
  · rename_i e wd k get ho
    simp only [Option.some.injEq] at hm
    subst hm
    have hlt : o < st.objs.length := by
      rcases Nat.lt_or_ge o st.objs.length with h1 | h1
      · exact h1
      · rw [List.getElem?_eq_none h1] at ho; cases ho
    have hrow := hr.core.objs o _ ho
    obtain ⟨x, hx⟩ : ∃ x, β o = some x := by
      rcases hrow with ⟨h1, _⟩ | ⟨k, h1, _⟩
      · exact ⟨_, h1⟩
      · exact ⟨_, h1⟩
    have hle : BLe β (bset β st.objs.length x) := BLe.bset (hr.core.out _ (Nat.le_refl _))
    have hnew : bset β st.objs.length x st.objs.length = β o := by unfold bset; rw [if_pos rfl, hx]
    have hold : ∀ q, q < st.objs.length → bset β st.objs.length x q = β q := fun q hq => by unfold bset; rw [if_neg (by omega)]
    have get' : ∀ (q : Nat) (y : Obj), ((st.objs.set o .dead).map (Obj.sub (moveC o st.objs.length)) ++ [Obj.row e wd k get])[q]? = some y → y.live = true →
        ∃ q0 y0, st.objs[q0]? = some y0 ∧ y0.live = true ∧ bset β st.objs.length x q = β q0 ∧ (q = st.objs.length ∧ q0 = o ∧ y = .row e wd k get ∨ q = q0 ∧ q ≠ o ∧ y = y0.sub (moveC o st.objs.length)) := by
      intro q y hy hl
      rcases getElem?_concat _ _ _ _ hy with hy | ⟨h1, rfl⟩
      · rw [List.getElem?_map] at hy
        by_cases hq : q = o
        · subst hq
          rw [List.getElem?_set_self hlt] at hy
          simp only [Option.map_some, Option.some.injEq] at hy
          subst hy
          cases hl
        · rw [List.getElem?_set_ne (Ne.symm hq)] at hy
          cases hz : st.objs[q]? with
          | none => rw [hz] at hy; cases hy
          | some z =>
            rw [hz] at hy
            simp only [Option.map_some, Option.some.injEq] at hy
            subst hy
            have hql : q < st.objs.length := by
              rcases Nat.lt_or_ge q st.objs.length with h1 | h1
              · exact h1
              · rw [List.getElem?_eq_none h1] at hz; cases hz
            refine ⟨q, z, hz, ?_, hold q hql, .inr ⟨rfl, hq, rfl⟩⟩
            cases z <;> first | rfl | exact hl
      · simp only [List.length_map, List.length_set] at h1
        subst h1
        exact ⟨o, _, ho, rfl, hnew, .inl ⟨rfl, rfl, rfl⟩⟩
    have hgd : ∀ t, St.gof ⟨st.tmps.map fun p => (p.1, p.2.sub (moveC o st.objs.length)), (st.objs.set o .dead).map (Obj.sub (moveC o st.objs.length)) ++ [.row e wd k get], st.gd, st.h⟩ t = st.gof t := fun t => rfl
    have hget : ∀ t, St.get ⟨st.tmps.map fun p => (p.1, p.2.sub (moveC o st.objs.length)), (st.objs.set o .dead).map (Obj.sub (moveC o st.objs.length)) ++ [.row e wd k get], st.gd, st.h⟩ t = (st.get t).sub (moveC o st.objs.length) := fun t => lookup_sub _ t _
    have hholds : ∀ g, St.holds ⟨st.tmps.map fun p => (p.1, p.2.sub (moveC o st.objs.length)), (st.objs.set o .dead).map (Obj.sub (moveC o st.objs.length)) ++ [.row e wd k get], st.gd, st.h⟩ g ↔ st.holds g := by
      intro g
      unfold St.holds
      constructor
      · intro h q hq
        have := h q hq
        rw [hget q.1] at this
        refine (sub_bool (fun q n => ?_) (fun q i j => ?_)).1 this
        · simp only [moveC]; cases Nat.beq q o <;> simp
        · simp [moveC]
      · intro h q hq
        rw [hget q.1, h q hq]; rfl
    refine ⟨S, bset β st.objs.length x, ⟨hr.core.frame, hr.core.holds, ?_, ?_, ?_, ?_, ?_⟩, fun t hh => ?_, fun t hh => ?_, hr.size, hr.defers, fun q k hq hB => hle _ _ (hr.hand q k hq hB)⟩
    · intro q y hy
      cases hl : y.live with
      | false => cases y <;> first | trivial | cases hl
      | true =>
        obtain ⟨q0, y0, hy0, hl0, hb, hc⟩ := get' q y hy hl
        have hr0 := hr.core.objs q0 y0 hy0
        rcases hc with ⟨rfl, rfl, rfl⟩ | ⟨rfl, hne, rfl⟩
        · rw [ho] at hy0
          simp only [Option.some.injEq] at hy0
          subst hy0
          rcases hr0 with ⟨h1, h2⟩ | ⟨k, h1, h2⟩
          · exact .inl ⟨by rw [hb]; exact h1, h2⟩
          · exact .inr ⟨k, by rw [hb]; exact h1, h2⟩
        · cases y0 with
          | dead => trivial
          | cells l =>
            obtain ⟨k, h1, h2, h3, h4, vs, h5, h6, h7⟩ := hr0
            exact ⟨k, by rw [hb]; exact h1, by rw [h2]; simp, h3, h4, vs, h5, h6.map _ fun _ _ h => C.move_rel hle hnew h, h7⟩
          | mrow e' bs =>
            obtain ⟨k, h1, h2⟩ := hr0
            exact ⟨k, by rw [hb]; exact h1, h2⟩
          | row e' w' k' g' =>
            rcases hr0 with ⟨h1, h2⟩ | ⟨k, h1, h2⟩
            · exact .inl ⟨by rw [hb]; exact h1, h2⟩
            · exact .inr ⟨k, by rw [hb]; exact h1, h2⟩
    · intro q hq
      simp only [List.length_append, List.length_map, List.length_set, List.length_cons, List.length_nil] at hq
      unfold bset
      rw [if_neg (by omega)]
      exact hr.core.out q (by omega)
    · intro q q' k1 k2 y y' hy hy' hl hl' h1 h2 hno
      obtain ⟨q0, y0, hy0, hl0, hb, hc⟩ := get' q y hy hl
      obtain ⟨q0', y0', hy0', hl0', hb', hc'⟩ := get' q' y' hy' hl'
      rw [hb] at h1; rw [hb'] at h2
      refine hr.core.inj q0 q0' k1 k2 y0 y0' hy0 hy0' hl0 hl0' h1 h2 fun e => hno ?_
      rcases hc with ⟨h3, h4, _⟩ | ⟨h3, h4, _⟩ <;> rcases hc' with ⟨h5, h6, _⟩ | ⟨h5, h6, _⟩ <;> omega
    · intro q k1 y hy hl h1
      obtain ⟨q0, y0, hy0, hl0, hb, hc⟩ := get' q y hy hl
      rw [hb] at h1
      exact hr.core.sep q0 k1 y0 hy0 hl0 h1
    · intro q k1 y hy hl h1
      obtain ⟨q0, y0, hy0, hl0, hb, hc⟩ := get' q y hy hl
      rw [hb] at h1
      exact hr.core.mine q0 k1 y0 hy0 hl0 h1
    · rw [hget t]
      rw [hgd t, hholds] at hh
      exact D.move_rel hle hnew (hr.tm t hh)
    · rw [hgd t, hholds] at hh
      exact hr.un t hh
  · cases hm

/-- A pointer that is nil, or to where it must be. -/
theorem CLe.optNil (c : C) : CLe (.val (.pointer none)) (.opt false c) := by
  intro S β v hv
  simp only [CRel] at hv ⊢
  rw [if_neg (by simp)]
  exact hv
theorem CLe.optSome (c : C) : CLe c (.opt true c) := by
  intro S β v hv
  simp only [CRel]
  rw [if_pos trivial]
  exact hv

end
end Go.Dl

namespace Go.Dl
set_option linter.unusedVariables false
set_option linter.unusedSimpArgs false
set_option linter.unusedSectionVars false
/-- An error of a code and a place, or none. -/
abbrev Err := Option (Int × Int)
/-- The same as a value of an interface: t: the pointer's type. -/
def errC' (t : TypeId) (e : Err) : C := .iface e.isSome t (.eptr 3 (fun j => ([.val (.int .i64 (e.getD (0, 0)).1), .val (.int .i64 (e.getD (0, 0)).2), .val .nilIface] : List C).getD j .bot) 0)
theorem errC_nil' {t : TypeId} : CLe (.val .nilIface) (errC' t none) := by
  intro S β v hv
  show if false = true then _ else v = .nilIface
  rw [if_neg (by simp)]
  exact hv
end Go.Dl

namespace Go.Dl
set_option linter.unusedVariables false
set_option linter.unusedSimpArgs false
set_option linter.unusedSectionVars false
variable [WInv]
section
variable {P : Program} {n : Nat} {A T R : Type} {go : T → St} {ab : A → Ex × St} {st st' : St} {m : Option (A ⊕ T)} {cs : List Code}

/-- A new variable whose first cell is a nil pointer: its cells behind that. -/
def selfInfo (P : Program) (n : Nat) (o : Oper) (st : St) : Option (Nat × TypeId × List C) :=
  match opInfo n o st, o.op with
  | some d, .alloc t => (match (P.info? t).bind (·.zero) with
    | some z => (match (cst z).cells with
      | some (.val (.pointer none) :: l) => bif l.all C.good then some (d, t, l) else none
      | _ => none)
    | none => none)
  | some d, .box t x => (match ((st.see []).lv x).cells with
    | some (.val (.pointer none) :: l) => bif l.all C.good then some (d, t, l) else none
    | _ => none)
  | _, _ => none

theorem self_core {Γ : Ctx} {S : Mem} {β : Bmap} {w : World} {xs : List Obj} (hc : Core Γ S β w xs) {l : List C} {v : Value} (t : TypeId) (hl : LRel S β (.val (.pointer none) :: l) v.cells.toList)
    (h1 : ∀ u ∈ v.cells.toList, u.oneCell' = true) :
    ∃ β', BLe β β' ∧ Core Γ S β' (w.alloc (.cells v.cells t)) (xs ++ [.cells (.self t false xs.length :: l)]) ∧ CRel S β' (.ptr xs.length 0 0) (.pointer (some ⟨w.heap.size, 0, none⟩)) := by
  let k : Bk := ⟨w.heap.size, t, l.length + 1, 1, 1⟩
  have hle : BLe β (bset β xs.length (some k)) := BLe.bset (hc.out _ (Nat.le_refl _))
  obtain ⟨u, r, hu, hp, hr⟩ := hl
  obtain rfl : u = .pointer none := hp
  have hv : v.cells = (Value.pointer none :: r).toArray := by rw [← hu]
  have := hc.push (.cells v.cells t) (.cells (.self t false xs.length :: l)) (some k) (w' := w.alloc (.cells v.cells t)) (.inr ⟨⟨k, rfl, rfl⟩, rfl⟩)
    ⟨k, bset_same _ _ _, rfl, rfl, rfl, .pointer none :: r, by rw [← hv]; exact heap_alloc_new w _, ⟨_, _, rfl, ⟨k, bset_same _ _ _, rfl, rfl⟩, LRel.up (MLe.refl _) hle hr⟩, by rw [← hu]; exact h1⟩
  exact ⟨_, this.2, this.1, k, bset_same _ _ _, Nat.zero_lt_one, Nat.succ_pos _, by simp [k]⟩

theorem RefR.allocSelf (k k' : Nat) {ops : Array Oper} {l : List Oper} {d : Nat} {t : TypeId} {cl : List C} (hk : (Nat.blt k l.length && Nat.beq k' (k + 1)) = true) (hi : selfInfo P n (opAt l k) st = some (d, t, cl))
    (h : RefR P n ops (l.drop k') cs (st.put (some d) (.c (.ptr st.objs.length 0 0)) (st.objs ++ [.cells (.self t false st.objs.length :: cl)]) []) m go ab) : RefR P n ops (l.drop k) cs st m go ab := by
  have box : ∀ (w : World) (v : Value), (Instr.box t v).run P w = .ok (.pointer (some ⟨w.heap.size, 0, none⟩)) (w.alloc (.cells v.cells t)) := by
    intro w v; simp [Instr.box, newVar, newRow]
  unfold selfInfo at hi
  split at hi
  · rename_i d' t' ho hop
    cases hz : (P.info? t').bind (·.zero) with
    | none => rw [hz] at hi; cases hi
    | some z =>
      rw [hz] at hi
      simp only at hi
      split at hi
      · rename_i l' hcl
        obtain ⟨hg, hi⟩ := some_of_cond hi
        simp only [Option.some.injEq, Prod.mk.injEq] at hi
        obtain ⟨rfl, rfl, rfl⟩ := hi
        refine RefR.opN k k' hk ho (fun Γ S β a w hr => ?_) h
        obtain ⟨hl, h1⟩ := cells_rel (S := S) (β := β) (cst_rel z) hcl (by simp [C.good, Value.oneCell', hg])
        obtain ⟨β', hle, hco, hp⟩ := self_core hr.core t' hl h1
        refine ⟨_, _, S, β', ?_, hp, MLe.refl _, hle, hco⟩
        unfold execOp
        rw [hop]
        simp only
        have hinfo : ∃ i, P.info? t' = some i := by
          cases hq : P.info? t' with
          | none => rw [hq] at hz; cases hz
          | some i => exact ⟨i, rfl⟩
        obtain ⟨i, hinf⟩ := hinfo
        have hzr : (zeroValue t').run P w = .ok z w := by
          unfold zeroValue
          rw [hinf, Option.bind_some] at hz
          rw [Sem.run_bind, run_typeInfo' hinf, Result.andThen_ok, hz]
          rfl
        have : (Instr.alloc t' true (.tuple #[])).run P w = .ok (.pointer (some ⟨w.heap.size, 0, none⟩)) (w.alloc (.cells z.cells t')) := by
          rw [← box w z]
          unfold Instr.alloc Instr.box
          rw [Sem.run_bind, hzr, Result.andThen_ok]
        rw [Sem.run_bind, this]
        rfl
      · cases hi
  · rename_i d' t' x ho hop
    split at hi
    · rename_i l' hcl
      obtain ⟨hg, hi⟩ := some_of_cond hi
      simp only [Option.some.injEq, Prod.mk.injEq] at hi
      obtain ⟨rfl, rfl, rfl⟩ := hi
      refine RefR.opN k k' hk ho (fun Γ S β a w hr => ?_) h
      have hx := see_rel hr (g := []) (fun q hq => by cases hq) x
      obtain ⟨hl, h1⟩ := cells_rel hx hcl (by simp [C.good, Value.oneCell', hg])
      obtain ⟨β', hle, hco, hp⟩ := self_core hr.core t' hl h1
      refine ⟨_, _, S, β', ?_, hp, MLe.refl _, hle, hco⟩
      unfold execOp
      rw [hop]
      simp only
      rw [Sem.run_bind, box w (a.eval x)]
      rfl
    · cases hi
  · cases hi

/-- What an object of cells is in a world: its block. -/
theorem cells_at {Γ : Ctx} {S : Mem} {β : Bmap} {w : World} {T : TypeId} {b : Bool} {l : List C} {ys : List Obj} {v : Value} (hc : Core Γ S β w (.cells (.self T b 0 :: l) :: ys)) (hv : DRel S β (.c (.ptr 0 0 0)) v) :
    ∃ k p r, β 0 = some (some k) ∧ k.e = T ∧ v = .pointer (some ⟨k.b, 0, none⟩) ∧ w.heap[k.b]? = some (.cells (p :: r).toArray T (0, 0)) ∧ p = (if b = true then .pointer (some ⟨k.b, 0, none⟩) else .pointer none) ∧
      LRel S β l r ∧ k.w = l.length + 1 ∧ k.n = 1 ∧ k.cap = 1 ∧ (∀ u ∈ p :: r, u.oneCell' = true) := by
  obtain ⟨k, hk, _, _, rfl⟩ := hv
  obtain ⟨k', hk', hw, hn, hcap, us, hh, hus, h1⟩ := hc.objs 0 _ rfl
  rw [hk] at hk'; simp only [Option.some.injEq] at hk'; subst hk'
  obtain ⟨p, r, rfl, ⟨k2, hk2, he, hp⟩, hr⟩ := hus
  rw [hk] at hk2; simp only [Option.some.injEq] at hk2; subst hk2
  rw [he] at hh
  exact ⟨k, p, r, hk, he, by simp, hh, hp, hr, by simpa using hw, hn, hcap, h1⟩

/-- The check of a builder: behind it the builder is used. -/
theorem DFun.copyCheck {f : FuncId} {T : TypeId} (b : Bool) (l : List C) (ys : List Obj) {mr : Option R} {out : R → List Obj} (hout : ∀ r, mr = some r → out r = .cells (.self T true 0 :: l) :: ys)
    (hused : ∀ (b : Nat) (w : World), w.cell? ⟨b, 0, none⟩ = some (.pointer (some ⟨b, 0, none⟩)) → Calls P f #[.pointer (some ⟨b, 0, none⟩)] w fun e w' => e = .returned (.tuple #[]) ∧ w' = w)
    (hfresh : ∀ (b : Nat) (w : World), w.cell? ⟨b, 0, none⟩ = some (.pointer none) → w.shape? b = some (T, l.length + 1) → w.frozen? ⟨b, 0, none⟩ = false →
      Calls P f #[.pointer (some ⟨b, 0, none⟩)] w fun e w' => e = .returned (.tuple #[]) ∧ w' = w.setCell ⟨b, 0, none⟩ (.pointer (some ⟨b, 0, none⟩))) :
    DFun P f [.c (.ptr 0 0 0)] (.cells (.self T b 0 :: l) :: ys) mr (fun _ => .tup []) out := by
  intro S β w vs hc hv r hr
  obtain ⟨v, r0, rfl, hv, rfl⟩ := hv
  obtain ⟨k, p, us, hk, he, rfl, hh, hp, hl, hw, hn, hcap, h1⟩ := cells_at hc hv
  have hcell : w.cell? ⟨k.b, 0, none⟩ = some p := by rw [cell_of_heap hh]; rfl
  cases b with
  | true =>
    rw [if_pos rfl] at hp
    subst hp
    refine (hused k.b w hcell).mono fun e w' ⟨he, hw'⟩ => ⟨_, S, β, he, ⟨[], rfl, rfl⟩, fun _ _ _ h => h, ?_⟩
    subst hw'
    rw [hout r hr]
    exact hc
  | false =>
    rw [if_neg (by simp)] at hp
    subst hp
    have hlen := hl.length
    have hsh : w.shape? k.b = some (T, l.length + 1) := by simp [World.shape?, hh, hlen]
    have hfz : w.frozen? ⟨k.b, 0, none⟩ = false := by simp [World.frozen?, hh]
    refine (hfresh k.b w hcell hsh hfz).mono fun e w' ⟨hee, hw'⟩ => ⟨_, S, β, hee, ⟨[], rfl, rfl⟩, fun _ _ _ h => h, ?_⟩
    subst hw'
    rw [hout r hr]
    have hlt : k.b < w.heap.size := (hc.mine 0 k _ rfl rfl hk).1
    have hnew : (w.setCell ⟨k.b, 0, none⟩ (.pointer (some ⟨k.b, 0, none⟩))).heap[k.b]? = some (.cells (.pointer (some ⟨k.b, 0, none⟩) :: us).toArray T (0, 0)) := by
      simp [World.setCell, Array.getElem?_modify, hh]
    exact hc.write 0 (.cells (.self T false 0 :: l)) (.cells (.self T true 0 :: l)) k rfl rfl hk rfl rfl rfl (by simp [World.setCell]) (fun c hne => by simp [World.setCell, Array.getElem?_modify, Ne.symm hne])
      ⟨k, hk, hw, hn, hcap, _, by rw [he]; exact hnew, ⟨_, _, rfl, ⟨k, hk, he, by simp⟩, hl⟩, fun u hu => by
        rcases List.mem_cons.1 hu with rfl | hu
        · rfl
        · exact h1 u (List.mem_cons_of_mem _ hu)⟩

/-- But for one block, and new ones, the world is as it was. -/
structure ButB (g : Nat) (w w' : World) : Prop where
  os : w'.os = w.os
  tape : w'.tape = w.tape
  output : w'.output = w.output
  size : w.heap.size ≤ w'.heap.size
  block : ∀ c, c < w.heap.size → c ≠ g → w'.heap[c]? = w.heap[c]?

/-- The text of a builder; the builder is no more. -/
theorem DFun.builderStr {f : FuncId} {T e : TypeId} (b : Bool) (s : Bytes) (l : List C) {mr : Option R} {res : R → D} {out : R → List Obj} (hres : ∀ r, mr = some r → res r = .c (.str s)) (hout : ∀ r, out r = [.dead, .dead])
    (hsome : ∀ (b g cap : Nat) (cs cur : Array Value) (w : World), w.heap[b]? = some (.cells cs T (0, 0)) → cs[1]? = some (.slice (some ⟨g, 0, none⟩) s.length cap) → w.heap[g]? = some (.cells cur e (0, 0)) → s.length ≤ cap → cap ≤ maxLen → cur.size = cap →
      (∀ (j : Nat) (x : UInt8), s[j]? = some x → cur[j]? = some (Value.int .u8 x.toNat)) → b < w.heap.size → Calls P f #[.pointer (some ⟨b, 0, none⟩)] w fun e w' => e = .returned (.string ⟨s.toArray⟩) ∧ ButB g w w')
    (hnil : s = [] → ∀ (b : Nat) (cs : Array Value) (w : World), w.heap[b]? = some (.cells cs T (0, 0)) → cs[1]? = some (.slice none 0 0) → Calls P f #[.pointer (some ⟨b, 0, none⟩)] w fun e w' => e = .returned (.string ⟨s.toArray⟩) ∧ ButB b w w') :
    DFun P f [.c (.ptr 0 0 0)] [.cells (.self T b 0 :: .own 1 s.length :: l), .row e 1 s.length (bAt s)] mr res out := by
  intro S β w vs hc hv r hr
  obtain ⟨v, r0, rfl, hv, rfl⟩ := hv
  obtain ⟨k, p, us, hk, he, rfl, hh, hp, hl, hw, hn, hcap, h1⟩ := cells_at hc hv
  obtain ⟨q, us', rfl, hq, hl'⟩ := hl
  have hc1 : (p :: q :: us').toArray[1]? = some q := by simp
  have hlt : k.b < w.heap.size := (hc.mine 0 k _ rfl rfl hk).1
  have hlen : s.length ≤ maxLen := by
    rcases hc.objs 1 _ rfl with ⟨_, h2⟩ | ⟨k1, _, _, _, h4, h5, h6, _⟩
    · rw [h2]; exact Nat.zero_le _
    · omega
  have fin : ∀ g, (g = k.b ∨ ∃ k1, β 1 = some (some k1) ∧ k1.b = g) → ∀ w', ButB g w w' →
      ∃ v S' β', Ending.returned (Value.string ⟨s.toArray⟩) = .returned v ∧ DRel S' β' (res r) v ∧ (∀ o k, o < [Obj.cells (.self T b 0 :: .own 1 s.length :: l), .row e 1 s.length (bAt s)].length → β o = some k → β' o = some k) ∧
        Core ⟨S, w, Mof β [.cells (.self T b 0 :: .own 1 s.length :: l), .row e 1 s.length (bAt s)], β⟩ S' β' w' (out r) := by
    intro g hg w' hbut
    have hMg : Mof β [.cells (.self T b 0 :: .own 1 s.length :: l), .row e 1 s.length (bAt s)] g := by
      rcases hg with rfl | ⟨k1, hk1, rfl⟩
      · exact ⟨0, k, _, rfl, rfl, hk, rfl⟩
      · exact ⟨1, k1, _, rfl, rfl, hk1, rfl⟩
    refine ⟨_, S, β, rfl, by rw [hres r hr]; exact ⟨rfl, hlen⟩, fun _ _ _ h => h, ?_⟩
    rw [hout]
    have hsep : ∀ i, S g i = none := by
      rcases hg with rfl | ⟨k1, hk1, rfl⟩
      · exact hc.sep 0 k _ rfl rfl hk
      · exact hc.sep 1 k1 _ rfl rfl hk1
    refine ⟨⟨hbut.os, hbut.tape, hbut.output, hbut.size, fun c hcl hM => hbut.block c hcl (fun e => hM (e ▸ hMg)), fun _ _ _ _ => rfl, MLe.refl _, hc.frame.glob, hc.frame.inv⟩, ?_, ?_, ?_, ?_, ?_, ?_⟩
    · refine hc.holds.keep fun c ⟨i, hi⟩ => hbut.block c (hc.holds.lt hi) fun e => ?_
      rw [e, hsep i] at hi; cases hi
    · intro o x hx
      match o with
      | 0 => simp only [List.getElem?_cons_zero, Option.some.injEq] at hx; subst hx; trivial
      | 1 => simp only [List.getElem?_cons_succ, List.getElem?_cons_zero, Option.some.injEq] at hx; subst hx; trivial
      | o + 2 => simp at hx
    · intro o ho; exact hc.out o (by simpa using ho)
    · intro o o' k k' x x' hx hx' hlv
      have : x = .dead := by
        match o with
        | 0 => simpa using hx.symm
        | 1 => simpa using hx.symm
        | o + 2 => simp at hx
      subst this; cases hlv
    · intro o k x hx hlv
      have : x = .dead := by
        match o with
        | 0 => simpa using hx.symm
        | 1 => simpa using hx.symm
        | o + 2 => simp at hx
      subst this; cases hlv
    · intro o k x hx hlv
      have : x = .dead := by
        match o with
        | 0 => simpa using hx.symm
        | 1 => simpa using hx.symm
        | o + 2 => simp at hx
      subst this; cases hlv
  rcases hc.objs 1 _ rfl with ⟨h1n, h2⟩ | ⟨k1, hk1, e1, e2, e3, e4, e5, cur, hh1, hcs, hcell⟩
  · have hs : s = [] := List.length_eq_zero_iff.1 h2
    simp only [CRel, h1n] at hq
    obtain ⟨_, rfl⟩ := hq
    exact (hnil hs k.b _ w hh hc1).mono fun e w' ⟨hee, hb⟩ => by subst hee; exact fin k.b (.inl rfl) w' hb
  · simp only [CRel, hk1] at hq
    obtain ⟨_, _, rfl⟩ := hq
    refine (hsome k.b k1.b k1.cap _ cur w hh hc1 hh1 e4 e5 (by rw [hcs, Nat.mul_one]) (fun j x hx => ?_) hlt).mono fun e w' ⟨hee, hb⟩ => by subst hee; exact fin k1.b (.inr ⟨k1, hk1, rfl⟩) w' hb
    have hj : j < s.length := (List.getElem?_eq_some_iff.1 hx).1
    obtain ⟨u, hu, _, hr1⟩ := hcell j 0 hj (by omega)
    rw [Nat.mul_one, Nat.add_zero] at hu
    rw [hu, bAt_rel hr1]
    simp [List.getD, hx]

end
end Go.Dl

namespace Go.Dl
set_option linter.unusedVariables false
set_option linter.unusedSimpArgs false
set_option linter.unusedSectionVars false
variable [WInv]
section
variable {P : Program} {α R : Type}

/-- Memory with a block more that nobody writes. -/
def mnew (S : Mem) (b : Nat) (l : List Value) : Mem := fun b' i => if b' = b then l[i]? else S b' i

theorem DFun.fresh {f : FuncId} {args : List D} {mr : Option R} {lst : R → List α} {E : El α} {ty : TypeId} (val : α → Value) (hw : E.w = 1)
    (hval : ∀ r, mr = some r → ∀ x ∈ lst r, (val x).oneCell' = true ∧ ∀ S, CRel S noB ((E.cs x).getD 0 .bot) (val x))
    (h : ∀ S β w vs, WInv.I w → VRel S β args vs → ∀ r, mr = some r → (lst r).length ≤ maxLen ∧ Calls P f vs.toArray w fun e w' =>
      e = .returned (.slice (some ⟨w.heap.size, 0, none⟩) (lst r).length (lst r).length) ∧ w' = w.alloc (.cells ((lst r).map val).toArray ty)) :
    DFun P f args [] mr (fun r => .c (E.tree (lst r))) (fun _ => []) := by
  intro S β w vs hc hv r hr
  obtain ⟨hlen, hcall⟩ := h S β w vs hc.inv hv r hr
  refine hcall.mono fun e w' ⟨he, hw'⟩ => ?_
  subst hw'
  have hnone : ∀ i, S w.heap.size i = none := by
    intro i
    cases hs : S w.heap.size i with
    | none => rfl
    | some v =>
      have := hc.holds.lt (b := w.heap.size) (i := i) (by simp [hs])
      omega
  have hle : MLe S (mnew S w.heap.size ((lst r).map val)) := by
    intro b i v hv
    unfold mnew
    by_cases hb : b = w.heap.size
    · subst hb; rw [hnone] at hv; cases hv
    · rw [if_neg hb]; exact hv
  have hold : ∀ b, b < w.heap.size → (w.alloc (.cells ((lst r).map val).toArray ty)).heap[b]? = w.heap[b]? := fun b hb => heap_alloc_old w _ b hb
  have hnew : (w.alloc (.cells ((lst r).map val).toArray ty)).heap[w.heap.size]? = some (.cells ((lst r).map val).toArray ty (0, 0)) := heap_alloc_new w _
  refine ⟨_, mnew S w.heap.size ((lst r).map val), β, he, ?_, fun o k ho _ => by simp at ho, ?_⟩
  · refine ⟨some ⟨w.heap.size, 0, none⟩, (lst r).length, rfl, Nat.le_refl _, hlen, ?_⟩
    rcases Nat.eq_zero_or_pos (lst r).length with h0 | h0
    · exact .inl h0
    · refine .inr ⟨w.heap.size, 0, rfl, fun i j hi hj => ?_⟩
      rw [hw] at hj ⊢
      obtain rfl : j = 0 := by omega
      refine ⟨val (lst r)[i], ?_, ?_⟩
      · unfold mnew
        rw [if_pos rfl]
        simp [List.getElem?_eq_getElem hi]
      · unfold El.at
        have : (lst r).getD i E.d = (lst r)[i] := by simp [List.getD, List.getElem?_eq_getElem hi]
        rw [this]
        exact (hval r hr _ (List.getElem_mem hi)).2 _
  · refine ⟨⟨rfl, rfl, rfl, by simp, fun b hb _ => hold b hb, fun b i hb _ => ?_, hle, hc.frame.glob, hc.frame.inv⟩, ?_, fun o x hx => by simp at hx, hc.out, fun o o' k k' x x' hx => by simp at hx, fun o k x hx => by simp at hx, fun o k x hx => by simp at hx⟩
    · unfold mnew
      have : b < w.heap.size := hb
      rw [if_neg (by omega)]
    · intro b i v hv
      unfold mnew at hv
      by_cases hb : b = w.heap.size
      · subst hb
        rw [if_pos rfl] at hv
        refine ⟨by rw [cell_of_heap hnew, List.getElem?_toArray]; exact hv, ?_⟩
        rw [List.getElem?_map] at hv
        cases hx : (lst r)[i]? with
        | none => rw [hx] at hv; cases hv
        | some x =>
          rw [hx] at hv
          simp only [Option.map_some, Option.some.injEq] at hv
          subst hv
          exact (hval r hr x (List.mem_of_getElem? hx)).1
      · rw [if_neg hb] at hv
        obtain ⟨h1, h2⟩ := hc.holds b i v hv
        refine ⟨?_, h2⟩
        have hlt := hc.holds.lt (b := b) (i := i) (by simp [hv])
        have : (w.alloc (.cells ((lst r).map val).toArray ty)).cell? ⟨b, i, none⟩ = w.cell? ⟨b, i, none⟩ := World.cell?_of_block (w := w) (hold b hlt)
        rw [this]; exact h1

end
end Go.Dl

namespace Go.Dl
set_option linter.unusedVariables false
set_option linter.unusedSimpArgs false
set_option linter.unusedSectionVars false
variable [WInv]
section
variable {P : Program} {R : Type}

/-- A function that is known by a contract that leans on memory: what it hands back says nothing of memory of its own. -/
theorem DFun.of_callsH {f : FuncId} {args : List D} {mr : Option R} {res : R → D}
    (h : ∀ S β w vs, WInv.I w → Holds S w → VRel S β args vs → ∀ r, mr = some r → Calls P f vs.toArray w fun e w' => ∃ v, e = .returned v ∧ DRel S β (res r) v ∧ Up w w') : DFun P f args [] mr res (fun _ => []) := by
  intro S β w vs hc hv r hr
  refine (h S β w vs hc.inv hc.holds hv r hr).mono fun e w' ⟨v, he, hd, hu⟩ => ⟨v, S, β, he, hd, fun o k ho _ => by simp at ho, hc.newer hu.os hu.tape hu.output hu.size hu.block⟩

/-- A function at the start of a call. -/
theorem DFun.top {f : FuncId} {args : List D} {r : R} {res : R → D} {S : Mem} {W : World} {vs : List Value} (h : DFun P f args [] (some r) res (fun _ => [])) (hI : WInv.I W) (hS : Holds S W) (hv : VRel S noB args vs) :
    Calls P f vs.toArray W fun e W' => ∃ v S' β', e = .returned v ∧ DRel S' β' (res r) v ∧ Go.RowKit.Below W.heap.size W W' := by
  have hno : ∀ b, ¬ Mof noB ([] : List Obj) b := by rintro b ⟨o, k, x, hx, _⟩; simp at hx
  have hc : Core ⟨S, W, Mof noB [], noB⟩ S noB W [] :=
    ⟨⟨rfl, rfl, rfl, Nat.le_refl _, fun _ _ _ => rfl, fun _ _ _ _ => rfl, MLe.refl _, fun b hb => absurd hb (hno b), hI⟩, hS,
      fun o x hx => by simp at hx, fun _ _ => rfl, fun o o' k k' x x' hx => by simp at hx, fun o k x hx => by simp at hx, fun o k x hx => by simp at hx⟩
  refine (h S noB W vs hc hv r rfl).mono fun e w' ⟨v, S', β', he, hd, _, hc'⟩ => ⟨v, S', β', he, hd, hc'.frame.os, hc'.frame.tape, hc'.frame.output, hc'.frame.size, fun b hb => hc'.frame.block b hb (hno b)⟩

/-- With no slices about. -/
theorem DFun.top0 {f : FuncId} {args : List D} {r : R} {res : R → D} {W : World} {vs : List Value} (h : DFun P f args [] (some r) res (fun _ => [])) (hI : WInv.I W) (hv : VRel (fun _ _ => none) noB args vs) :
    Calls P f vs.toArray W fun e W' => ∃ v S' β', e = .returned v ∧ DRel S' β' (res r) v ∧ Go.RowKit.Below W.heap.size W W' :=
  h.top hI (fun b i v hh => by cases hh) hv
end
end Go.Dl

namespace Go.Dl
set_option linter.unusedVariables false
set_option linter.unusedSimpArgs false
set_option linter.unusedSectionVars false
variable [WInv]
section
variable {P : Program} {n : Nat} {A T R : Type} {go : T → St} {ab : A → Ex × St} {st st' : St} {m : Option (A ⊕ T)} {cs : List Code}

theorem RefR.assumeC {ops : Array Oper} {l : List Oper} {b : Bool} {stf : Bool → St} (h0 : stf b = st) (h : RefR P n ops l cs (stf true) m go ab) : RefR P n ops l cs st (chk [b] m) go ab := by
  intro Γ S β a w hr x hx
  obtain ⟨hv, hm⟩ := chk_some hx
  have hb : b = true := hv b (List.mem_cons_self ..)
  subst hb
  rw [← h0] at hr
  exact h Γ S β a w hr x hm

/-- All guards hold. -/
def gdHold (st : St) : Bool := st.gd.all fun p => p.2.all fun q => match st.get q.1 with
  | .c (.val (.bool b)) => b == q.2
  | _ => false

theorem lookup_mem : ∀ (l : List (Nat × List (Nat × Bool))) (t : Nat), lookupT [] l t = [] ∨ ∃ g, (t, g) ∈ l ∧ lookupT [] l t = g
  | [], t => .inl rfl
  | (i, g) :: r, t => by
    unfold lookupT
    cases hb : Nat.beq i t with
    | true =>
      obtain rfl := Nat.eq_of_beq_eq_true hb
      exact .inr ⟨g, List.mem_cons_self .., rfl⟩
    | false =>
      rw [cond_false]
      rcases lookup_mem r t with h | ⟨g', h1, h2⟩
      · exact .inl h
      · exact .inr ⟨g', List.mem_cons_of_mem _ h1, h2⟩

theorem gdHold_holds {st : St} (h : gdHold st = true) (t : Nat) : st.holds (st.gof t) := by
  unfold St.gof
  rcases lookup_mem st.gd t with h1 | ⟨g, h1, h2⟩
  · rw [h1]; intro q hq; cases hq
  · rw [h2]
    intro q hq
    unfold gdHold at h
    have h3 := List.all_eq_true.1 (List.all_eq_true.1 h _ h1) q hq
    split at h3
    · rename_i b hb
      have : b = q.2 := by simpa using h3
      rw [hb, this]
    · cases h3

theorem Conv.clear (h : gdHold st = true) : Conv n st ⟨st.tmps, st.objs, [], st.h⟩ := by
  intro Γ S β a w hr
  exact ⟨S, β, hr.core, fun t _ => hr.tm t (gdHold_holds h t), fun t hn => absurd (fun q hq => by cases hq) hn, hr.size, hr.defers, hr.hand⟩

def Oper.free (o : Oper) : Oper := { o with guard := none }

/-- An operation whose guard holds. -/
def guardHolds (ops : Array Oper) (o : Oper) (st : St) : Bool :=
  match o.guard with
  | none => false
  | some (j, want) =>
    (match (ops[j]?).bind (·.dst) with
    | some t =>
      (match st.gof t, st.get t with
      | [], .c (.val (.bool b)) => b == want
      | _, _ => false)
    | none => false)

theorem RefR.unguard (k : Nat) {ops : Array Oper} {l : List Oper} (hk : Nat.blt k l.length = true) (hi : guardHolds ops (opAt l k) st = true)
    (h : RefR P n ops ((l.set k (Oper.free (opAt l k))).drop k) cs st m go ab) : RefR P n ops (l.drop k) cs st m go ab := by
  have hlt : k < l.length := by simpa [Nat.blt_eq] using hk
  have hset : (l.set k (Oper.free (opAt l k))).drop k = Oper.free (opAt l k) :: l.drop (k + 1) := by
    rw [List.drop_eq_getElem_cons (by simpa using hlt), List.getElem_set_self, List.drop_set_of_lt (by omega)]
  rw [hset] at h
  rw [drop_opAt hk]
  intro Γ S β a w hr x hx
  have h1 := h Γ S β a w hr x hx
  have hw : Region.wanted (opAt l k) (yielded ops a.tmps) = true := by
    unfold guardHolds at hi
    split at hi
    · cases hi
    · rename_i j want hgd
      split at hi
      · rename_i t ht
        split at hi
        · rename_i b hg hb
          have hbw : b = want := by simpa using hi
          subst hbw
          have hd := hr.tm t (by unfold St.holds; rw [hg]; intro q hq; cases hq)
          rw [hb] at hd
          have hv : a.tmps.getD t undef = .bool b := hd
          have hsome : a.tmps[t]? = some (.bool b) := by
            rw [Array.getD_eq_getD_getElem?] at hv
            cases hq : a.tmps[t]? with
            | none => rw [hq] at hv; cases hv
            | some u => rw [hq] at hv; simp only [Option.getD_some] at hv; rw [hv]
          have hy : yielded ops a.tmps j = some b := by
            unfold yielded
            rw [ht]
            show (match a.tmps[t]? with | some (.bool b) => some b | _ => none) = some b
            rw [hsome]
          simp only [Region.wanted, hgd, hy]
          simp
        · cases hi
      · cases hi
  simp only [wpList] at h1 ⊢
  rw [hw, if_pos rfl]
  have hw' : Region.wanted (Oper.free (opAt l k)) (yielded ops a.tmps) = true := rfl
  rw [hw', if_pos rfl] at h1
  exact h1
end
end Go.Dl

namespace Go.Dl
set_option linter.unusedVariables false
set_option linter.unusedSimpArgs false
variable [WInv] {α : Type}

omit [WInv] in theorem NT_at (E : El α) (ct : α → List C) (h : ∀ x, ct x = E.cs x) (l : List α) {i : Nat} (hi : i < l.length) (j : Nat) : tbl (l.map ct) i j = E.at l i j := by
  unfold tbl El.at
  have : (l.map ct).getD i [] = E.cs (l.getD i E.d) := by
    simp [List.getD, List.getElem?_map, List.getElem?_eq_getElem hi, h]
  rw [this]
theorem NT_le (E : El α) (ct : α → List C) (h : ∀ x, ct x = E.cs x) (l : List α) : CLe (.tree E.w l.length (tbl (l.map ct))) (E.tree l) :=
  CLe.tree rfl fun i j hi _ => by rw [NT_at E ct h l hi]; exact CLe.refl _
theorem NT_ge (E : El α) (ct : α → List C) (h : ∀ x, ct x = E.cs x) (l : List α) : CLe (E.tree l) (.tree E.w l.length (tbl (l.map ct))) :=
  CLe.tree rfl fun i j hi _ => by rw [NT_at E ct h l hi]; exact CLe.refl _

omit [WInv] in theorem NTT_at (Q : El (List α)) (nt : List α → C) (l : List (List α)) {i : Nat} (hi : i < l.length) : tbl (l.map fun b => [nt b]) i 0 = nt (l.getD i Q.d) := by
  unfold tbl
  simp [List.getD, List.getElem?_map, List.getElem?_eq_getElem hi]
theorem NTT_le (E : El α) (Q : El (List α)) (hw : Q.w = 1) (hq : ∀ l, Q.cs l = [E.tree l]) (nt : List α → C) (h : ∀ l, CLe (nt l) (E.tree l)) (l : List (List α)) : CLe (.tree 1 l.length (tbl (l.map fun b => [nt b]))) (Q.tree l) := by
  unfold El.tree
  rw [hw]
  refine CLe.tree rfl fun i j hi hj => ?_
  obtain rfl : j = 0 := by omega
  rw [NTT_at Q nt l hi]
  show CLe _ ((Q.cs (l.getD i Q.d)).getD 0 .bot)
  rw [hq]
  exact h _
theorem NTT_ge (E : El α) (Q : El (List α)) (hw : Q.w = 1) (hq : ∀ l, Q.cs l = [E.tree l]) (nt : List α → C) (h : ∀ l, CLe (E.tree l) (nt l)) (l : List (List α)) : CLe (Q.tree l) (.tree 1 l.length (tbl (l.map fun b => [nt b]))) := by
  unfold El.tree
  rw [hw]
  refine CLe.tree rfl fun i j hi hj => ?_
  obtain rfl : j = 0 := by omega
  rw [NTT_at Q nt l hi]
  show CLe ((Q.cs (l.getD i Q.d)).getD 0 .bot) _
  rw [hq]
  exact h _
end Go.Dl

namespace Go.Dl
set_option linter.unusedVariables false
set_option linter.unusedSimpArgs false
set_option linter.unusedSectionVars false
variable [WInv]
open Go.RowKit

section
variable {P : Program} {n : Nat} {ops : Array Oper} {W : Nat → Bool} {A T : Type} {go : T → St} {ab : A → Ex × St} {st st' : St} {m : Option (A ⊕ T)} {cs : List Code}

def makesOp : Op → Bool
  | .buildSlice _ _ _ => true
  | _ => false

theorem up_alloc0 (w : World) (o : Go.Obj) : Up w (w.alloc o) := (Below.refl _ _).alloc (Nat.le_refl _) o

/-- Whatever it gives, the world is as it was. -/
def Still (P : Program) {X : Type} (s : Sem X) : Prop := ∀ w a w', s.run P w = .ok a w' → w' = w

theorem still_underlying (t : TypeId) : Still P (underlying t) := by
  intro w a w' h
  cases hu : P.underlying t with
  | none => simp [underlying, hu] at h
  | some d => rw [run_underlying hu] at h; cases h; rfl
theorem still_typeInfo (t : TypeId) : Still P (typeInfo t) := by
  intro w a w' h
  cases hu : P.info? t with
  | none => simp [typeInfo, hu] at h
  | some d => simp [typeInfo, hu] at h; exact h.2.symm
theorem still_sizeOf (t : TypeId) : Still P (sizeOf t) := by
  intro w a w' h
  unfold sizeOf at h
  rw [Sem.run_bind] at h
  cases hr : (typeInfo t).run P w with
  | halt x y => rw [hr] at h; cases h
  | ok i w1 =>
    rw [hr] at h
    obtain rfl := still_typeInfo t w _ _ hr
    cases h; rfl
theorem still_zeroValue (t : TypeId) : Still P (zeroValue t) := by
  intro w a w' h
  unfold zeroValue at h
  rw [Sem.run_bind] at h
  cases hr : (typeInfo t).run P w with
  | halt x y => rw [hr] at h; cases h
  | ok i w1 =>
    rw [hr] at h
    obtain rfl := still_typeInfo t w _ _ hr
    simp only [Result.andThen_ok] at h
    split at h
    · cases h; rfl
    · cases h

theorem up_newRow {e : TypeId} {cs : Array Value} {w w' : World} {a : Addr} (h : (newRow e cs).run P w = .ok a w') : Up w w' := by
  simp [newRow] at h
  rw [← h.2]
  exact up_alloc0 _ _

def Mk (P : Program) {X : Type} (s : Sem X) : Prop := ∀ w a w', s.run P w = .ok a w' → Up w w'
theorem Mk.bind {X Y : Type} {s : Sem X} {f : X → Sem Y} (h : Mk P s) (hf : ∀ x, Mk P (f x)) : Mk P (s >>= f) := by
  intro w a w' hr
  rw [Sem.run_bind] at hr
  cases h1 : s.run P w with
  | halt x y => rw [h1] at hr; cases hr
  | ok x w1 => rw [h1] at hr; exact (h w x w1 h1).trans (hf x w1 a w' hr)
theorem Mk.pure {X : Type} (x : X) : Mk P (Pure.pure x : Sem X) := by
  intro w a w' h
  cases h; exact Up.refl _
theorem Mk.still {X : Type} {s : Sem X} (h : Still P s) : Mk P s := fun w a w' hr => by rw [h w a w' hr]; exact Up.refl _
theorem Mk.stuck {X : Type} (m : String) : Mk P (Go.stuck m : Sem X) := fun w a w' h => by cases h
theorem Mk.unsupported {X : Type} (m : Unsupported) : Mk P (Go.unsupported m : Sem X) := fun w a w' h => by cases h

theorem mk_buildSlice (t : TypeId) (len : Nat) (parts : Array (Nat × Value)) : Mk P (Instr.buildSlice t len parts) := by
  unfold Instr.buildSlice
  refine Mk.bind (Mk.still (still_underlying t)) fun td => ?_
  split
  · refine Mk.bind (Mk.still (still_sizeOf _)) fun sz => ?_
    have fin : ∀ (e : TypeId) (z : Array Value), Mk P (match Instr.fill (fun i => some (i * sz, sz)) (Array.map (fun x => z[x % z.size]!) (Array.range (len * sz))) parts.toList with
        | some cells => do
          let a ← newRow e cells
          Pure.pure (Value.slice (some a) len len)
        | _ => Go.stuck "buildSlice: a part of the wrong size" : Sem Value) := by
      intro e z
      split
      · exact Mk.bind (fun w a w' h => up_newRow h) fun a => Mk.pure _
      · exact Mk.stuck _
    dsimp only
    split
    · exact Mk.bind (Mk.unsupported _) fun x => by
        split
        · exact Mk.bind (Mk.pure _) fun z => fin _ z
        · exact Mk.bind (Mk.still (still_zeroValue _)) fun z => Mk.bind (Mk.pure _) fun z => fin _ z
    · split
      · exact Mk.bind (Mk.pure _) fun z => fin _ z
      · exact Mk.bind (Mk.still (still_zeroValue _)) fun z => Mk.bind (Mk.pure _) fun z => fin _ z
  · exact Mk.stuck _

theorem up_makes {o : Oper} {ρ : Operand → Value} {w w' : World} {x : Next} (hm : makesOp o.op = true) (h : (execOp ρ o).run P w = .ok x w') : Up w w' ∧ ∃ v, x = .value v := by
  unfold makesOp at hm
  split at hm
  · rename_i t len parts hop
    unfold execOp at h
    rw [hop] at h
    dsimp only at h
    rw [Sem.run_bind] at h
    cases hr : (Instr.buildSlice t len (parts.map fun (i, x) => (i, ρ x))).run P w with
    | halt a b => rw [hr] at h; cases h
    | ok a w1 =>
      rw [hr] at h
      have := mk_buildSlice _ _ _ _ _ _ hr
      cases h
      exact ⟨this, _, rfl⟩
  · cases hm

/-- An operation that makes a block, alone in its turn. -/
theorem RefX.madeC (j : Nat) (keep om : List Nat) {fuel fuel' : Nat} {listed : Array Bool} {vs : List Bool} {st' : St} (hfu : fuel = 1 + fuel')
    (hf : (decide (Region.ready .any ops listed = [j]) && (!W j && (ops[j]?).elim false fun o => makesOp o.op)) = true) (he : run1 P n ops (opsOf ops [j]) st keep om = some (vs, st'))
    (h : RefX P n ops W fuel' (listed.setIfInBounds j true) cs st' m go ab) : RefX P n ops W fuel listed cs st (chk vs m) go ab := by
  intro Γ S β a w hr x hx
  obtain ⟨hvs, hm⟩ := chk_some hx
  simp only [Bool.and_eq_true, decide_eq_true_eq, Bool.not_eq_true'] at hf
  obtain ⟨hrd, hWj, hmk⟩ := hf
  cases ho : ops[j]? with
  | none => rw [ho] at hmk; cases hmk
  | some o =>
    rw [ho] at hmk
    have hmk : makesOp o.op = true := hmk
    have hops : opsOf ops [j] = [o] := by simp [opsOf, ho]
    rw [hops] at he
    subst hfu
    rw [Nat.add_comm]
    unfold run1 at he
    split at he
    · rename_i vs2 st2 h2
      cases hk : st2.keep keep om with
      | none => rw [hk] at he; cases he
      | some st3 =>
        rw [hk] at he
        simp only [Option.map_some, Option.some.injEq, Prod.mk.injEq] at he
        obtain ⟨rfl, rfl⟩ := he
        unfold evOps at h2
        split at h2
        · rename_i v st1 h1
          simp only [evOps] at h2
          simp only [Option.some.injEq, Prod.mk.injEq] at h2
          obtain ⟨rfl, rfl⟩ := h2
          have hv1 : ∀ b ∈ v, b = true := fun b hb => hvs b (by simpa using hb)
          refine ⟨fun h0 => (by rw [h0] at hrd; cases hrd), fun i hi => ?_⟩
          rw [hrd] at hi
          obtain rfl : i = j := by simpa using hi
          unfold xOp
          rw [hWj, cond_false]
          unfold xOp0
          simp only [ho]
          rcases evStep_cases hr h1 hv1 with ⟨hw, u, w', S', β', hrun, hrr, _⟩ | ⟨hw, hrr⟩
          · simp only [hw, if_true]
            unfold xop
            rcases hrun with hrun | ⟨hrun, _⟩
            · rw [hrun]
              have hup := (up_makes hmk hrun).1
              exact ⟨hup, fun w'' hw'' => h Γ S' (bren β' om) _ w'' (keep_sound (hrr.up hw'') hk) x hm⟩
            · obtain ⟨_, v, hv⟩ := up_makes hmk hrun
              cases hv
          · simp only [hw, Bool.false_eq_true, if_false]
            exact fun w' hw' => h Γ S (bren β om) _ w' (keep_sound (hrr.up hw') hk) x hm
        · cases h2
    · cases he

theorem RefX.madeC0 (j : Nat) (keep om : List Nat) {fuel fuel' : Nat} {listed : Array Bool} {st' : St} (hfu : fuel = 1 + fuel')
    (hf : (decide (Region.ready .any ops listed = [j]) && (!W j && (ops[j]?).elim false fun o => makesOp o.op)) = true) (he : run1 P n ops (opsOf ops [j]) st keep om = some ([], st'))
    (h : RefX P n ops W fuel' (listed.setIfInBounds j true) cs st' m go ab) : RefX P n ops W fuel listed cs st m go ab :=
  fun Γ S β a w hr x hx => RefX.madeC (vs := []) j keep om hfu hf he h Γ S β a w hr x hx
end
end Go.Dl

namespace Go.Dl
theorem inb_lt {i : Int} {n : Nat} (h : inb i n = true) : i.toNat < n := by
  unfold inb at h
  simp only [Bool.and_eq_true, decide_eq_true_eq] at h
  omega
end Go.Dl

set_option linter.unusedVariables false
set_option linter.unusedSimpArgs false
set_option linter.unusedSectionVars false
namespace Go.Dl
variable [WInv]

/-! Slots. -/
abbrev sI (k : Nat) (x : Int) : Nat × D := (k, .c (.val (.int .i64 x)))
abbrev sB (k : Nat) (x : Bool) : Nat × D := (k, .c (.val (.bool x)))
abbrev sS (k : Nat) (x : Bytes) : Nat × D := (k, .c (.str x))
abbrev sP (k a b c : Nat) : Nat × D := (k, .c (.ptr a b c))

section
variable {P : Program} {n : Nat} {A T : Type} {go : T → St} {ab : A → Ex × St} {st st' : St} {m : Option (A ⊕ T)} {cs : List Code} {c : Code}

theorem Ref.sq (hr : Ref P n (cd c [0] :: cd c [1] :: cs) st m go ab) (h : c = .seq (cd c [0]) (cd c [1]) := by kernel_rfl) : Ref P n (c :: cs) st m go ab := Ref.seqC _ _ h hr
theorem Ref.sk (hr : Ref P n cs st m go ab) (h : c = .skip := by kernel_rfl) : Ref P n (c :: cs) st m go ab := Ref.skipC h hr
theorem Ref.rn (id : Nat) (hr : RefR P n (rg c) ((rg c).toList.drop 0) cs st m go ab) (h : c = .region id (rg c) false := by kernel_rfl) : Ref P n (c :: cs) st m go ab := Ref.regionC id h hr
theorem Ref.cn (x : Operand) (b : Bool) {m1 m2 : Option (A ⊕ T)} (h1 : b = true → Ref P n (cd c [0] :: cs) st m1 go ab) (h2 : b = false → Ref P n (cd c [1] :: cs) st m2 go ab) (h : c = .cond x (cd c [0]) (cd c [1]) := by kernel_rfl) (hb : (st.gd.isEmpty && true) = true := by rfl) (hl : st.lv x = .c (.val (.bool b)) := by kernel_rfl) : Ref P n (c :: cs) st (if b = true then m1 else m2) go ab := Ref.condC x b h hb hl h1 h2
theorem Ref.rt {t : A} (h : c = .ret := by kernel_rfl) (hab : ab t = (.ret, st) := by kernel_rfl) : Ref P n (c :: cs) st (some (.inl t)) go ab := Ref.retC h hab
theorem Ref.xt (id : Nat) {t : A} (h : c = .exit id := by kernel_rfl) (hab : ab t = (.exit id, st) := by kernel_rfl) : Ref P n (c :: cs) st (some (.inl t)) go ab := Ref.exitC id h hab
theorem Ref.n0 {t : T} (h : go t = st := by kernel_rfl) : Ref P n [] st (some (.inr t)) go ab := Ref.nil h
theorem RefR.nl (k : Nat) {ops : Array Oper} {l : List Oper} (h : Ref P n cs st m go ab) (hk : Nat.ble l.length k = true := by kernel_rfl) : RefR P n ops (l.drop k) cs st m go ab := RefR.nilC k hk h
theorem RefR.e0 (k j k' : Nat) (keep om : List Nat) {ops : Array Oper} {l : List Oper} (h : RefR P n ops (l.drop k') cs st' m go ab) (hk : k' = k + j := by rfl) (he : run1 P n ops ((l.drop k).take j) st keep om = some ([], st') := by kernel_rfl) : RefR P n ops (l.drop k) cs st m go ab := RefR.ev0 k j k' keep om hk he h
end
end Go.Dl

namespace Go.Dl
set_option linter.unusedVariables false
set_option linter.unusedSimpArgs false
set_option linter.unusedSectionVars false
variable [WInv]
open Go.RowKit

section
variable {P : Program} {n : Nat} {ops : Array Oper} {W : Nat → Bool} {A T : Type} {go : T → St} {ab : A → Ex × St} {st st' : St} {m : Option (A ⊕ T)} {cs : List Code}

/-- Operations that add a block at most, and write nothing that was there. -/
def isNilConst : Operand → Bool
  | .const (.slice none 0 0) => true
  | _ => false
def addsOp : Op → Bool
  | .buildSlice _ _ _ => true
  | .alloc _ => true
  | .call c => (match c.callee, c.args.toList with
    | .builtin .append, [x, _] => isNilConst x
    | _, _ => false)
  | _ => false

theorem mk_alloc (t : TypeId) (v : Value) : Mk P (Instr.alloc t true v) := by
  unfold Instr.alloc
  refine Mk.bind (Mk.still (still_zeroValue t)) fun z => ?_
  dsimp only
  refine Mk.bind (fun w a w' h => ?_) fun a => Mk.pure _
  exact up_newRow h

theorem up_append_nil {t t' ty : TypeId} {td : TypeDesc} {Γ : Ctx} {S : Mem} {β : Bmap} {w w' : World} {xs xs' : List Obj} {src d' : D} {x v' : Value} {vs : List Bool} (ht' : P.underlying t' = some td) (htd : (∃ u, td = .slice u) ∨ td = .string)
    (ts : Array TypeId) (h0 : ts[0]? = some t) (h1 : ts[1]? = some t') (hc : Core Γ S β w xs) (hx : DRel S β src x) (h : evAppend P t (.c .nil) src xs = some (vs, d', xs')) (hvs : ∀ b ∈ vs, b = true)
    (hr : (Builtin.append_ ts ty #[.slice none 0 0, x]).run P w = .ok v' w') : Up w w' := by
  unfold evAppend at h
  cases ht : P.underlying t with
  | none => simp [ht] at h
  | some tdd =>
    cases tdd with
    | slice e =>
      simp only [ht] at h
      cases hi : P.info? e with
      | none => simp [hi] at h
      | some i =>
        simp only [hi] at h
        cases hz : i.zero with
        | none => simp [hz] at h
        | some z =>
          simp only [hz] at h
          have h2 := some_of_cond h
          clear h
          obtain ⟨hg, h⟩ := h2
          simp only [Bool.and_eq_true, Nat.blt_eq] at hg
          obtain ⟨hzs, hsz, hby⟩ := hg
          have hzs := Nat.eq_of_beq_eq_true hzs
          cases hsr : srcRow P e i.size src xs with
          | none => simp [hsr] at h
          | some p =>
            obtain ⟨m, g2⟩ := p
            simp only [hsr] at h
            obtain ⟨news, hsrc⟩ := srcRow_sound hsz hc hx hsr
            simp only [Option.some.injEq, Prod.mk.injEq] at h
            obtain ⟨rfl, _, _⟩ := h
            have hrm : room (m * i.bytes) = true := hvs _ (by simp)
            have hrm' : (0 + m) * i.bytes ≤ 140737488355328 := by rw [Nat.zero_add]; simpa [room] using hrm
            have hm : 0 + m ≤ 140737488355328 := Nat.le_trans (Nat.le_mul_of_pos_right _ hby) hrm'
            obtain ⟨v2, w2, hr2, _, hgrow, _⟩ := run_append_any (ty := ty) ht ht' htd hi hz hzs (World.ownsRow_nil w 0 e i.size) hsrc (by simp only [maxLen]; omega) hrm' ts h0 h1
            rw [hr] at hr2
            obtain ⟨rfl, rfl⟩ : v' = v2 ∧ w' = w2 := by cases hr2; exact ⟨rfl, rfl⟩
            exact ⟨hgrow.os, hgrow.tape, hgrow.output, hgrow.size, fun b hb => hgrow.block b hb (by simp [Value.ownBlock])⟩
    | _ => simp [ht] at h

theorem up_adds {Γ : Ctx} {S : Mem} {β : Bmap} {a : Act} {w w' : World} {o : Oper} {x : Next} {vs : List Bool} (hm : addsOp o.op = true) (hgd : o.guard = none) (hr : RR Γ S β a w n st) (he : evStep P n ops o st = some (vs, st')) (hvs : ∀ b ∈ vs, b = true)
    (h : (execOp a.eval o).run P w = .ok x w') : Up w w' ∧ ∃ v, x = .value v := by
  unfold addsOp at hm
  split at hm
  · rename_i t len parts hop
    exact up_makes (by rw [hop]; rfl) h
  · rename_i t hop
    unfold execOp at h
    rw [hop] at h
    dsimp only at h
    rw [Sem.run_bind] at h
    cases hq : (Instr.alloc t true (.tuple #[])).run P w with
    | halt a b => rw [hq] at h; cases h
    | ok a w1 =>
      rw [hq] at h
      have := mk_alloc _ _ _ _ _ hq
      cases h
      exact ⟨this, _, rfl⟩
  · rename_i c hop
    obtain ⟨callee, args, tys⟩ := c
    dsimp only at hm
    split at hm
    · rename_i x0 y ha
      have ha' : args = #[x0, y] := by apply Array.ext'; simpa using ha
      subst ha'
      unfold evStep at he
      unfold guardOf at he
      rw [hgd] at he
      dsimp only at he
      obtain ⟨_, he⟩ := some_of_cond he
      split at he
      · rename_i vs' d xs hev
        simp only [Option.some.injEq, Prod.mk.injEq] at he
        obtain ⟨rfl, rfl⟩ := he
        have h0 : st.holds [] := fun q hq => by cases hq
        have hv := see_rel hr h0
        unfold evSee at hev
        rw [hop] at hev
        dsimp only at hev
        obtain ⟨_, hev⟩ := some_of_cond hev
        unfold evOp at hev
        rw [hop] at hev
        dsimp only at hev
        have hnil : x0 = .const (.slice none 0 0) := by
          unfold isNilConst at hm
          split at hm
          · rfl
          · cases hm
        subst hnil
        have harg : ((do let dd ← resolve a.eval ⟨.builtin .append, #[.const (.slice none 0 0), y], tys⟩ o.type; invoke dd.target dd.args) : Sem Next).run P =
            (builtin .append tys o.type (#[Operand.const (.slice none 0 0), y].map fun | .const _ => true | _ => false) (#[Operand.const (.slice none 0 0), y].map a.eval)).run P := rfl
        have hrun : (execOp a.eval o).run P w = ((do let v ← Builtin.append_ tys o.type #[.slice none 0 0, a.eval y]; pure (Next.value v)) : Sem Next).run P w := by
          unfold execOp
          rw [hop]
          dsimp only
          rw [harg, show Array.map a.eval #[Operand.const (.slice none 0 0), y] = #[.slice none 0 0, a.eval y] by simp; rfl]
          rfl
        rw [hrun, Sem.run_bind] at h
        cases hq : (Builtin.append_ tys o.type #[.slice none 0 0, a.eval y]).run P w with
        | halt u v => rw [hq] at h; cases h
        | ok u w1 =>
          rw [hq] at h
          cases h
          refine ⟨?_, _, rfl⟩
          split at hev
          · rename_i heq _ _
            simp at heq
          · rename_i t t' r e1 h2 h3
            simp only [List.cons.injEq, and_true] at h2
            obtain ⟨rfl, rfl⟩ := h2
            have h0 : tys[0]? = some t := by rw [← Array.getElem?_toList, h3]; rfl
            have h1' : tys[1]? = some t' := by rw [← Array.getElem?_toList, h3]; rfl
            split at hev
            · rename_i u hu
              exact up_append_nil hu (.inl ⟨_, rfl⟩) tys h0 h1' (by rw [see_objs]; exact hr.core) (hv y) hev hvs hq
            · rename_i hu
              exact up_append_nil hu (.inr rfl) tys h0 h1' (by rw [see_objs]; exact hr.core) (hv y) hev hvs hq
            · cases hev
          all_goals simp_all
      · cases he
    · cases hm
  · cases hm

/-- One of several operations that are ready, done now. -/
def RefXi (P : Program) (n : Nat) (ops : Array Oper) (W : Nat → Bool) {A T : Type} (i fuel : Nat) (listed : Array Bool) (cs : List Code) (st : St) (m : Option (A ⊕ T)) (go : T → St) (ab : A → Ex × St) : Prop :=
  ∀ Γ S β a w, RR Γ S β a w n st → ∀ x, m = some x → xOp P ops W (Exit.then (wpL P cs (Post Γ n go ab x)) (Post Γ n go ab x)) i (xAny P .any ops W (Exit.then (wpL P cs (Post Γ n go ab x)) (Post Γ n go ab x)) fuel (listed.setIfInBounds i true)) a w

theorem RefX.fork {fuel fuel' : Nat} {listed : Array Bool} (l : List Nat) (hl : (Nat.beq fuel (fuel' + 1) && (decide (Region.ready .any ops listed = l) && !l.isEmpty)) = true) (h : ∀ i ∈ l, RefXi P n ops W i fuel' listed cs st m go ab) : RefX P n ops W fuel listed cs st m go ab := by
  intro Γ S β a w hr x hx
  simp only [Bool.and_eq_true, decide_eq_true_eq] at hl
  obtain ⟨hf, hrd, hne⟩ := hl
  have hf := Nat.eq_of_beq_eq_true hf
  subst hf
  refine ⟨fun h0 => ?_, fun i hi => ?_⟩
  · rw [hrd] at h0; subst h0; cases hne
  · rw [hrd] at hi; exact h i hi Γ S β a w hr x hx
theorem RefX.fork1 {fuel fuel' : Nat} {listed : Array Bool} (i : Nat) (hl : (Nat.beq fuel (fuel' + 1) && (decide (Region.ready .any ops listed = [i]) && ![i].isEmpty)) = true) (h : RefXi P n ops W i fuel' listed cs st m go ab) : RefX P n ops W fuel listed cs st m go ab :=
  RefX.fork [i] hl fun j hj => by obtain rfl := List.mem_singleton.1 hj; exact h
theorem RefX.fork2 {fuel fuel' : Nat} {listed : Array Bool} (i j : Nat) (hl : (Nat.beq fuel (fuel' + 1) && (decide (Region.ready .any ops listed = [i, j]) && ![i, j].isEmpty)) = true) (h1 : RefXi P n ops W i fuel' listed cs st m go ab) (h2 : RefXi P n ops W j fuel' listed cs st m go ab) : RefX P n ops W fuel listed cs st m go ab :=
  RefX.fork [i, j] hl fun k hk => by
    rcases List.mem_cons.1 hk with rfl | hk
    · exact h1
    · obtain rfl := List.mem_singleton.1 hk; exact h2

/-- It adds a block at most. -/
theorem RefXi.adds (j : Nat) (keep om : List Nat) {fuel : Nat} {listed : Array Bool} {vs : List Bool} {st' : St}
    (hf : (!W j && (ops[j]?).elim false fun o => o.guard.isNone && (addsOp o.op || quietOp o.op)) = true) (he : run1 P n ops (opsOf ops [j]) st keep om = some (vs, st'))
    (h : RefX P n ops W fuel (listed.setIfInBounds j true) cs st' m go ab) : RefXi P n ops W j fuel listed cs st (chk vs m) go ab := by
  intro Γ S β a w hr x hx
  obtain ⟨hvs, hm⟩ := chk_some hx
  simp only [Bool.and_eq_true, Bool.not_eq_true'] at hf
  obtain ⟨hWj, hmk⟩ := hf
  cases ho : ops[j]? with
  | none => rw [ho] at hmk; cases hmk
  | some o =>
    rw [ho] at hmk
    have hmk : (o.guard.isNone && (addsOp o.op || quietOp o.op)) = true := hmk
    rw [Bool.and_eq_true] at hmk
    obtain ⟨hgd, hmk⟩ := hmk
    have hgd : o.guard = none := by simpa using hgd
    have hops : opsOf ops [j] = [o] := by simp [opsOf, ho]
    rw [hops] at he
    unfold run1 at he
    split at he
    · rename_i vs2 st2 h2
      cases hk : st2.keep keep om with
      | none => rw [hk] at he; cases he
      | some st3 =>
        rw [hk] at he
        simp only [Option.map_some, Option.some.injEq, Prod.mk.injEq] at he
        obtain ⟨rfl, rfl⟩ := he
        unfold evOps at h2
        split at h2
        · rename_i v st1 h1
          simp only [evOps] at h2
          simp only [Option.some.injEq, Prod.mk.injEq] at h2
          obtain ⟨rfl, rfl⟩ := h2
          have hv1 : ∀ b ∈ v, b = true := fun b hb => hvs b (by simpa using hb)
          unfold xOp
          rw [hWj, cond_false]
          unfold xOp0
          simp only [ho]
          rcases evStep_cases hr h1 hv1 with ⟨hw, u, w', S', β', hrun, hrr, hq⟩ | ⟨hw, hrr⟩
          · simp only [hw, if_true]
            unfold xop
            have hup : ∀ {y : Next}, (execOp a.eval o).run P w = .ok y w' → Up w w' ∧ ∃ v, y = .value v := by
              intro y hy
              rw [Bool.or_eq_true] at hmk
              rcases hmk with hmk | hmk
              · exact up_adds hmk hgd hr h1 hv1 hy
              · obtain ⟨rfl, rfl, rfl, hq2⟩ := hq hmk
                have := hq2 w' (.inr (Up.refl _))
                rw [hy] at this
                cases this
                exact ⟨Up.refl _, _, rfl⟩
            rcases hrun with hrun | ⟨hrun, _⟩
            · rw [hrun]
              exact ⟨(hup hrun).1, fun w'' hw'' => h Γ S' (bren β' om) _ w'' (keep_sound (hrr.up hw'') hk) x hm⟩
            · obtain ⟨_, v, hv⟩ := hup hrun
              cases hv
          · simp only [hw, Bool.false_eq_true, if_false]
            exact fun w' hw' => h Γ S (bren β om) _ w' (keep_sound (hrr.up hw') hk) x hm
        · cases h2
    · cases he

/-- It may write. -/
theorem RefXi.writes (j : Nat) (keep om : List Nat) {fuel : Nat} {listed : Array Bool} {vs : List Bool} {st' : St}
    (hf : (W j && (ops[j]?).isSome) = true) (he : run1 P n ops (opsOf ops [j]) st keep om = some (vs, st'))
    (h : RefX P n ops W fuel (listed.setIfInBounds j true) cs st' m go ab) : RefXi P n ops W j fuel listed cs st (chk vs m) go ab := by
  intro Γ S β a w hr x hx
  obtain ⟨hvs, hm⟩ := chk_some hx
  simp only [Bool.and_eq_true] at hf
  obtain ⟨hWj, hso⟩ := hf
  obtain ⟨o, ho⟩ := Option.isSome_iff_exists.1 hso
  have hops : opsOf ops [j] = [o] := by simp [opsOf, ho]
  rw [hops] at he
  unfold run1 at he
  split at he
  · rename_i vs2 st2 h2
    cases hk : st2.keep keep om with
    | none => rw [hk] at he; cases he
    | some st3 =>
      rw [hk] at he
      simp only [Option.map_some, Option.some.injEq, Prod.mk.injEq] at he
      obtain ⟨rfl, rfl⟩ := he
      unfold xOp
      rw [hWj, cond_true]
      unfold wpOp
      rw [ho]
      unfold evOps at h2
      split at h2
      · rename_i v st1 h1
        simp only [evOps] at h2
        simp only [Option.some.injEq, Prod.mk.injEq] at h2
        obtain ⟨rfl, rfl⟩ := h2
        have hv1 : ∀ b ∈ v, b = true := fun b hb => hvs b (by simpa using hb)
        dsimp only
        rcases evStep_cases hr h1 hv1 with ⟨hw, u, w', S', β', hrun, hrr, _⟩ | ⟨hw, hrr⟩
        · simp only [hw, if_true]
          left
          have hrest := h Γ S' (bren β' om) _ w' (keep_sound hrr hk) x hm
          rcases hrun with hrun | ⟨hrun, rfl⟩
          · simp only [Oper.wp, Oper.upon, hrun]
            exact hrest
          · simp only [Oper.wp, Oper.upon, hrun]
            exact hrest
        · simp only [hw, Bool.false_eq_true, if_false]
          exact h Γ S (bren β om) _ w (keep_sound hrr hk) x hm
      · cases h2
  · cases he
theorem RefXi.adds0 (j : Nat) (keep om : List Nat) {fuel : Nat} {listed : Array Bool} {st' : St}
    (hf : (!W j && (ops[j]?).elim false fun o => o.guard.isNone && (addsOp o.op || quietOp o.op)) = true) (he : run1 P n ops (opsOf ops [j]) st keep om = some ([], st'))
    (h : RefX P n ops W fuel (listed.setIfInBounds j true) cs st' m go ab) : RefXi P n ops W j fuel listed cs st m go ab :=
  fun Γ S β a w hr x hx => RefXi.adds (vs := []) j keep om hf he h Γ S β a w hr x hx
theorem RefXi.writes0 (j : Nat) (keep om : List Nat) {fuel : Nat} {listed : Array Bool} {st' : St}
    (hf : (W j && (ops[j]?).isSome) = true) (he : run1 P n ops (opsOf ops [j]) st keep om = some ([], st'))
    (h : RefX P n ops W fuel (listed.setIfInBounds j true) cs st' m go ab) : RefXi P n ops W j fuel listed cs st m go ab :=
  fun Γ S β a w hr x hx => RefXi.writes (vs := []) j keep om hf he h Γ S β a w hr x hx
end
end Go.Dl

set_option linter.unusedVariables false
set_option linter.unusedSimpArgs false
set_option linter.unusedSectionVars false
set_option linter.constructorNameAsVariable false
namespace Go.Dl
open Go.RowKit
variable [WInv]

/-- Cells written one by one, where the block's mark lies behind its last cell. -/
theorem store_end (P : Program) (g o : Nat) (t : TypeId) (fz : Nat × Nat) : ∀ (vs : List Value) (i : Nat) (cur : Array Value) (w : World), w.heap[g]? = some (.cells cur t fz) → (fz = (0, 0) ∨ cur.size ≤ fz.1) → o + i + vs.length ≤ cur.size → (∀ v ∈ vs, v.oneCell' = true) →
    (storeCells ⟨g, o, none⟩ vs i).run P w = .ok () (w.setRow g (cur.toList.take (o + i) ++ vs ++ cur.toList.drop (o + i + vs.length)).toArray)
  | [], i, cur, w, hg, _, _, _ => by
    simp only [storeCells, List.append_nil, List.length_nil, Nat.add_zero, List.take_append_drop, Array.toArray_toList]
    rw [setRow_self w g cur t fz hg]; rfl
  | v :: r, i, cur, w, hg, hfz, hl, h1 => by
    simp only [List.length_cons] at hl
    have hi : o + i < cur.size := by omega
    have hc : w.cell? ⟨g, o + i, none⟩ = some cur[o + i] := by rw [cell_of_heap hg]; simp [hi]
    have hno : w.frozen? ⟨g, o + i, none⟩ = false := by
      obtain ⟨lo, up⟩ := fz
      simp only [World.frozen?, hg, Bool.and_eq_false_iff, decide_eq_false_iff_not]
      rcases hfz with hfz | hfz
      · right; cases hfz; omega
      · left; simp only at hfz; omega
    have hs : (store ((⟨g, o, none⟩ : Addr).add i) v).run P w = .ok () (w.setRow g (cur.setIfInBounds (o + i) v)) := by
      rw [add_lit, run_store P w _ v _ (h1 v (by simp)), hc]
      simp [hno, setCell_eq_setRow w g (o + i) cur t fz v hg]
    have ih := store_end P g o t fz r (i + 1) (cur.setIfInBounds (o + i) v) (w.setRow g (cur.setIfInBounds (o + i) v)) (setRow_heap w g cur _ t _ hg) (by simpa using hfz) (by simp; omega) (fun x hx => h1 x (by simp [hx]))
    simp only [storeCells, Sem.run_bind, hs, Result.andThen_ok, ih, setRow_setRow]
    congr 3
    have e := list_seg_step cur.toList (o + i) v r (by simp; omega)
    simpa [Array.toList_setIfInBounds, Nat.add_assoc] using e

section
variable {P : Program} {n : Nat} {A T R : Type} {go : T → St} {ab : A → Ex × St} {st st' : St} {m : Option (A ⊕ T)} {cs : List Code}

theorem append_room_m {w : World} {S : Mem} {t t' ty e : TypeId} {i : TypeInfo} (ht : P.underlying t = some (.slice e)) (ht' : P.underlying t' = some .string)
    (hi : P.info? e = some i) {x : Value} {m : Nat} {g : Nat → Nat → C} {news : List Value} (hx : Src P S w i.size m g x news)
    (ts : Array TypeId) (h0 : ts[0]? = some t) (h1 : ts[1]? = some t') (b sLen sCap : Nat) (cur : Array Value) (fz : Nat × Nat) (hg : w.heap[b]? = some (.cells cur e fz)) (hfz : fz = (0, 0) ∨ cur.size ≤ fz.1)
    (hroom : sLen + m ≤ sCap) (hfit : sLen * i.size + news.length ≤ cur.size) :
    (Builtin.append_ ts ty #[.slice (some ⟨b, 0, none⟩) sLen sCap, x]).run P w =
      .ok (.slice (some ⟨b, 0, none⟩) (sLen + m) sCap) (w.setRow b (cur.toList.take (sLen * i.size) ++ news ++ cur.toList.drop (sLen * i.size + news.length)).toArray) := by
  have hst := store_end P b (sLen * i.size) e fz news 0 cur w hg hfz (by simpa using hfit) hx.one
  simp only [Nat.add_zero] at hst
  simp [Builtin.append_, h0, h1, run_underlying ht, run_underlying ht', sizeOf, typeInfo, hi, hx.len, hroom, hx.first w rfl, Addr.add_lit, hst]

/-- What comes of a text. -/
def convInfo2 (P : Program) (n : Nat) (o : Oper) (st : St) : Option (Nat × TypeId × D) :=
  match opInfo n o st, o.op with
  | some t, .convert s d x =>
    (match P.underlying s, P.underlying d with
    | some .string, some (.slice e) => (match P.underlying e with
      | some (.int .u8) => some (t, e, (st.see []).lv x)
      | _ => none)
    | _, _ => none)
  | _, _ => none

theorem mrow_new {Γ : Ctx} {S : Mem} {β : Bmap} {w w' : World} {xs : List Obj} (h : Core Γ S β w xs) {e : TypeId} {bs : List UInt8} {cap : Nat} {cur : Array Value} {fz : Nat × Nat} (ho : w'.os = w.os) (ht : w'.tape = w.tape) (hu : w'.output = w.output) (hsz : w'.heap.size = w.heap.size + 1)
    (hold : ∀ b, b < w.heap.size → w'.heap[b]? = w.heap[b]?) (hn : bs.length ≤ cap) (hm : cap ≤ maxLen) (hh : w'.heap[w.heap.size]? = some (.cells cur e fz)) (hfz : fz = (0, 0) ∨ cap ≤ fz.1) (hcs : cur.size = cap) (hcell : ∀ i, i < bs.length → cur[i]? = some (.int .u8 (Int.ofNat (bs.getD i 0).toNat))) :
    Core Γ S (bset β xs.length (some ⟨w.heap.size, e, 1, bs.length, cap⟩)) w' (xs ++ [.mrow e bs]) ∧ BLe β (bset β xs.length (some ⟨w.heap.size, e, 1, bs.length, cap⟩)) := by
  refine h.join (.mrow e bs) ⟨w.heap.size, e, 1, bs.length, cap⟩ ho ht hu (by omega) (fun b hb _ => hold b hb) (by show w.heap.size < _; omega) (fun hlt => ?_) (fun q => ?_) (fun o k y hy hl hk => ?_)
    ⟨_, bset_same _ _ _, rfl, rfl, rfl, hn, hm, cur, fz, hh, hfz, hcs, hcell⟩
  · have h1 : w.heap.size < Γ.w.heap.size := hlt
    have := h.frame.size; omega
  · show S w.heap.size q = none
    cases hs : S w.heap.size q with
    | none => rfl
    | some u => exact absurd (h.holds.lt (i := q) (by simp [hs])) (Nat.lt_irrefl _)
  · have := (h.mine o k y hy hl hk).1
    show k.b ≠ w.heap.size
    omega

theorem RefR.strBytes (k k' : Nat) (s : Bytes) {ops : Array Oper} {l : List Oper} {t : Nat} {e : TypeId} (hk : (Nat.blt k l.length && Nat.beq k' (k + 1)) = true) (hi : convInfo2 P n (opAt l k) st = some (t, e, .c (.str s)))
    (h : RefR P n ops (l.drop k') cs (st.put (some t) (.c (.own st.objs.length s.length)) (st.objs ++ [.mrow e s]) []) m go ab) : RefR P n ops (l.drop k) cs st m go ab := by
  unfold convInfo2 at hi
  split at hi
  · rename_i t' sT d0 x ht hop
    split at hi
    · rename_i e' h1 h2
      split at hi
      · rename_i h3
        simp only [Option.some.injEq, Prod.mk.injEq] at hi
        obtain ⟨rfl, rfl, hd⟩ := hi
        refine RefR.opN k k' hk ht (fun Γ S β a w hr => ?_) h
        have hx := see_rel hr (g := []) (fun q hq => by cases hq) x
        rw [hd] at hx
        obtain ⟨hxv, hmx⟩ : a.eval x = .string ⟨s.toArray⟩ ∧ s.length ≤ maxLen := hx
        have hrun := run_bytes_of_string (P := P) w sT d0 e' ⟨s.toArray⟩ h1 h2 h3
        have hss : (⟨s.toArray⟩ : ByteArray).size = s.length := by show s.toArray.size = _; simp
        rw [hss] at hrun
        have hge := grownCap_ge w s.length 0 e'
        have hle := grownCap_le_maxLen w s.length 0 e' hmx
        generalize hcap : grownCap w s.length 0 e' = cap at hrun hge hle
        have hcs : (bytesRow ⟨s.toArray⟩ cap).size = cap := by
          unfold bytesRow
          rw [hss]
          simp; omega
        have hcell : ∀ i, i < s.length → (bytesRow ⟨s.toArray⟩ cap)[i]? = some (.int .u8 (Int.ofNat (s.getD i 0).toNat)) := by
          intro i hi
          unfold bytesRow
          rw [Array.getElem?_append_left (by simpa using hi)]
          simp [List.getElem?_eq_getElem hi, List.getD]
        obtain ⟨hco, hb⟩ := mrow_new hr.core (w' := w.drew.alloc (.cells (bytesRow ⟨s.toArray⟩ cap) e' ((bytesRow ⟨s.toArray⟩ cap).size, (bytesRow ⟨s.toArray⟩ cap).size + 1))) (e := e') (bs := s) rfl rfl rfl (by simp) (fun b hb => heap_alloc_old w.drew _ b hb) hge hle (heap_alloc_new w.drew _) (.inr (by rw [hcs]; exact Nat.le_refl _)) hcs hcell
        refine ⟨.slice (some ⟨w.heap.size, 0, none⟩) s.length cap, _, S, _, ?_, ?_, MLe.refl _, hb, hco⟩
        · unfold execOp
          rw [hop]
          simp only
          rw [Sem.run_bind, hxv, hrun]; rfl
        · simp only [DRel, CRel, bset_same]
          exact ⟨Nat.le_refl _, hge, trivial⟩
      · cases hi
    · cases hi
  · cases hi

/-- Bytes put behind. -/
def appInfo (P : Program) (n : Nat) (o : Oper) (st : St) : Option (Nat × TypeId × D × D) :=
  match opInfo n o st, o.op with
  | some t, .call c =>
    (match c.callee, c.args.toList, c.argTypes.toList with
    | .builtin .append, [x, y], [t1, t2] => (match P.underlying t1, P.underlying t2 with
      | some (.slice e), some .string => (match P.underlying e with
        | some (.int .u8) => (match P.info? e with
          | some i => bif Nat.beq i.size 1 && (Nat.beq i.bytes 1 && (i.zero.isSome && Nat.beq ((i.zero.map fun z => z.cells.size).getD 0) 1)) then some (t, e, (st.see []).lv x, (st.see []).lv y) else none
          | none => none)
        | _ => none)
      | _, _ => none)
    | _, _, _ => none)
  | _, _ => none

theorem RefR.appM (k k' o : Nat) (bs s : Bytes) {ops : Array Oper} {l : List Oper} {t : Nat} {e : TypeId} (hk : (Nat.blt k l.length && Nat.beq k' (k + 1)) = true) (hi : appInfo P n (opAt l k) st = some (t, e, .c (.own o bs.length), .c (.str s))) (hob : st.objs[o]? = some (.mrow e bs))
    (h : RefR P n ops (l.drop k') cs (st.put (some t) (.c (.own st.objs.length (bs ++ s).length)) (st.objs.set o .dead ++ [.mrow e (bs ++ s)]) []) m go ab) : RefR P n ops (l.drop k) cs st (chk [room (bs.length + s.length)] m) go ab := by
  intro Γ0 S0 β0 a0 w0 hr0 q0 hq0
  obtain ⟨hvs, hm0⟩ := chk_some hq0
  have hroom : room (bs.length + s.length) = true := hvs _ (by simp)
  have hrm : bs.length + s.length ≤ 140737488355328 := by simpa [room] using hroom
  revert hm0 hr0
  suffices hgo : RefR P n ops (l.drop k) cs st m go ab from fun hr0 hm0 => hgo Γ0 S0 β0 a0 w0 hr0 q0 hm0
  unfold appInfo at hi
  split at hi
  · rename_i t' c ht hop
    obtain ⟨callee, args, tys⟩ := c
    dsimp only at hi
    split at hi
    · rename_i x y t1 t2 ha hty
      split at hi
      · rename_i e' h1 h2
        split at hi
        · rename_i h3
          split at hi
          · rename_i i hinf
            obtain ⟨hc, hi⟩ := some_of_cond hi
            simp only [Option.some.injEq, Prod.mk.injEq] at hi
            obtain ⟨rfl, rfl, hdx, hdy⟩ := hi
            simp only [Bool.and_eq_true] at hc
            obtain ⟨hs1, hb1, hz1, hz2⟩ := hc
            have hs1 := Nat.eq_of_beq_eq_true hs1
            have hb1 := Nat.eq_of_beq_eq_true hb1
            obtain ⟨z, hz⟩ := Option.isSome_iff_exists.1 hz1
            rw [hz] at hz2
            have hzs : z.cells.size = 1 := Nat.eq_of_beq_eq_true hz2
            have ha' : args = #[x, y] := by apply Array.ext'; simpa using ha
            subst ha'
            have h0' : tys[0]? = some t1 := by rw [← Array.getElem?_toList, hty]; rfl
            have h1' : tys[1]? = some t2 := by rw [← Array.getElem?_toList, hty]; rfl
            refine RefR.opN k k' hk ht (fun Γ S β a w hr => ?_) h
            have hx := see_rel hr (g := []) (fun q hq => by cases hq) x
            have hy := see_rel hr (g := []) (fun q hq => by cases hq) y
            rw [hdx] at hx
            rw [hdy] at hy
            have hsr : srcRow P e' i.size (.c (.str s)) st.objs = some (s.length, fun i _ => .val (.int .u8 (s.getD i 0).toNat)) := by
              unfold srcRow
              rw [h3, hs1]; rfl
            obtain ⟨news, hsrc⟩ := srcRow_sound (by omega) hr.core hy hsr
            have hnews : ∀ j, j < s.length → news[j]? = some (.int .u8 (Int.ofNat (s.getD j 0).toNat)) := by
              intro j hj
              obtain ⟨u, hu, hru⟩ := hsrc.cell j 0 hj (by omega)
              rw [hs1, Nat.mul_one, Nat.add_zero] at hu
              have : u = .int .u8 (Int.ofNat (s.getD j 0).toNat) := hru
              rw [hu, this]
            have hnl : news.length = s.length := by rw [hsrc.length, hs1, Nat.mul_one]
            have hrunv : ∀ {v' : Value} {w' : World}, (Builtin.append_ tys (opAt l k).type #[a.eval x, a.eval y]).run P w = .ok v' w' → (execOp a.eval (opAt l k)).run P w = .ok (.value v') w' := by
              intro v' w' hr'
              have harg : ((do let dd ← resolve a.eval ⟨.builtin .append, #[x, y], tys⟩ (opAt l k).type; invoke dd.target dd.args) : Sem Next).run P =
                  (builtin .append tys (opAt l k).type (#[x, y].map fun | .const _ => true | _ => false) (#[x, y].map a.eval)).run P := rfl
              have : (execOp a.eval (opAt l k)).run P w = ((do let v ← Builtin.append_ tys (opAt l k).type #[a.eval x, a.eval y]; pure (Next.value v)) : Sem Next).run P w := by
                unfold execOp
                rw [hop]
                dsimp only
                rw [harg, show Array.map a.eval #[x, y] = #[a.eval x, a.eval y] by simp]
                rfl
              rw [this, Sem.run_bind, hr']; rfl
            obtain ⟨kb, hkb, he, hw1, hn, hcap, hml, cur, fz, hh, hfz, hcs, hcell⟩ := hr.core.objs o _ hob
            simp only [DRel, CRel, hkb] at hx
            obtain ⟨_, _, hxv⟩ := hx
            have hbl : (bs ++ s).length = bs.length + s.length := List.length_append
            have hlen : (st.objs.set o Obj.dead).length = st.objs.length := by simp
            have hget : ∀ j, j < (bs ++ s).length → ∀ (pre : List Value), pre.length = bs.length → (∀ j, j < bs.length → pre[j]? = some (.int .u8 (Int.ofNat (bs.getD j 0).toNat))) → (pre ++ news)[j]? = some (.int .u8 (Int.ofNat ((bs ++ s).getD j 0).toNat)) := by
              intro j hj pre hp hpj
              rcases Nat.lt_or_ge j bs.length with hjb | hjb
              · rw [List.getElem?_append_left (by omega), hpj j hjb]
                simp [List.getD, List.getElem?_append_left hjb]
              · rw [List.getElem?_append_right (by omega), hp, hnews (j - bs.length) (by rw [hbl] at hj; omega)]
                simp [List.getD, List.getElem?_append_right hjb]
            have hpre : (cur.toList.take bs.length).length = bs.length := by simp; omega
            have hprej : ∀ j, j < bs.length → (cur.toList.take bs.length)[j]? = some (.int .u8 (Int.ofNat (bs.getD j 0).toNat)) := by
              intro j hj
              rw [List.getElem?_take, if_pos hj, Array.getElem?_toList, hcell j hj]
            by_cases hroom : bs.length + s.length ≤ kb.cap
            · have hr' := append_room_m (P := P) (ty := (opAt l k).type) h1 h2 hinf hsrc tys h0' h1' kb.b bs.length kb.cap cur fz hh (by rw [hcs]; exact hfz) hroom (by rw [hs1, hnl, hcs]; omega)
              rw [← hxv] at hr'
              have hmin := hr.core.mine o kb _ hob rfl hkb
              have hsep := hr.core.sep o kb _ hob rfl hkb
              obtain ⟨hco, hble⟩ := (hr.core.kill o).join (.mrow e' (bs ++ s)) ⟨kb.b, e', 1, (bs ++ s).length, kb.cap⟩ (w' := w.setRow kb.b (cur.toList.take (bs.length * i.size) ++ news ++ cur.toList.drop (bs.length * i.size + news.length)).toArray) rfl rfl rfl (by simp) (fun b hb hne => setRow_other w kb.b b _ hne) (by simpa using hmin.1) hmin.2 hsep
                (fun o' k' y' hy' hl' hk' => by
                  obtain ⟨hne, hy2⟩ := set_get hy' hl'
                  exact hr.core.inj o' o k' kb y' _ hy2 hob hl' rfl hk' hkb hne)
                ⟨_, bset_same _ _ _, rfl, rfl, rfl, by show (bs ++ s).length ≤ kb.cap; omega, hml, _, fz, setRow_heap w kb.b cur _ e' fz hh, hfz, by
                  rw [hs1, Nat.mul_one, hnl]
                  simp only [List.size_toArray, List.length_append, List.length_take, List.length_drop, Array.length_toList, hnl]
                  omega, fun j hj => by
                  rw [hs1, Nat.mul_one]
                  have := hget j hj _ hpre hprej
                  rw [List.getElem?_toArray, List.getElem?_append_left (by simp only [List.length_append, hpre, hnl]; omega)]
                  exact this⟩
              rw [hlen] at hco hble
              refine ⟨.slice (some ⟨kb.b, 0, none⟩) (bs.length + s.length) kb.cap, _, S, _, hrunv hr', ?_, MLe.refl _, hble, hco⟩
              simp only [DRel, CRel, bset_same]
              refine ⟨Nat.le_refl _, by omega, ?_⟩
              rw [hbl]
            · have holds : ∀ j u, (cur.toList.take bs.length)[j]? = some u → w.cell? ((⟨kb.b, 0, none⟩ : Addr).add j) = some u := by
                intro j u hu
                rw [add_lit, cell_of_heap hh, Nat.zero_add]
                rw [List.getElem?_take] at hu
                split at hu
                · rw [← hu, Array.getElem?_toList]
                · cases hu
              have hfo := run_firstCells_some (P := P) w.drew i.size bs.length ⟨kb.b, 0, none⟩ bs.length kb.cap (cur.toList.take bs.length) (by rw [hpre, hs1, Nat.mul_one]) (by simpa using holds)
              have hr' := run_append_grow1 (ty := (opAt l k).type) h1 h2 (.inr rfl) hinf hz hsrc tys h0' h1' (a.eval x) (some ⟨kb.b, 0, none⟩) bs.length kb.cap hxv (cur.toList.take bs.length) hfo (by omega) (by omega) (growslice_fits (by omega) (by rw [hb1]; omega))
              have hge := grownCap_ge w (bs.length + s.length) kb.cap e'
              have hle := grownCap_le_maxLen w (bs.length + s.length) kb.cap e' (by simp only [maxLen]; omega)
              obtain ⟨hco, hble⟩ := mrow_new (hr.core.kill o) (w' := w.drew.alloc (.cells ((cur.toList.take bs.length).toArray ++ news.toArray ++ Builtin.zeroCells z.cells (grownCap w (bs.length + s.length) kb.cap e' - (bs.length + s.length))) e')) (e := e') (bs := bs ++ s) (cap := grownCap w (bs.length + s.length) kb.cap e') rfl rfl rfl (by simp) (fun b hb => heap_alloc_old w.drew _ b hb) (by rw [hbl]; exact hge) hle (heap_alloc_new w.drew _) (.inl rfl)
                (by
                  simp only [Array.size_append, List.size_toArray, size_zeroCells, hzs, hpre, hnl]
                  omega)
                (fun j hj => by
                  have := hget j hj _ hpre hprej
                  rw [Array.getElem?_append_left (by simp only [Array.size_append, List.size_toArray, hpre, hnl]; omega)]
                  rw [← Array.getElem?_toList, Array.toList_append]
                  exact this)
              rw [hlen] at hco hble
              refine ⟨.slice (some ⟨w.heap.size, 0, none⟩) (bs.length + s.length) (grownCap w (bs.length + s.length) kb.cap e'), _, S, _, hrunv hr', ?_, MLe.refl _, hble, hco⟩
              simp only [DRel, CRel, bset_same]
              refine ⟨Nat.le_refl _, by rw [hbl]; exact hge, ?_⟩
              rw [hbl]
          · cases hi
        · cases hi
      · cases hi
    · cases hi
  · cases hi

/-- A text of such a row. -/
theorem RefR.mrowStr (k k' o : Nat) (bs : Bytes) {ops : Array Oper} {l : List Oper} {t : Nat} {e : TypeId} (hk : (Nat.blt k l.length && Nat.beq k' (k + 1)) = true) (hi : convInfo P n (opAt l k) st = some (t, .c (.own o bs.length))) (hob : st.objs[o]? = some (.mrow e bs))
    (h : RefR P n ops (l.drop k') cs (st.put (some t) (.c (.str bs)) st.objs []) m go ab) : RefR P n ops (l.drop k) cs st m go ab := by
  unfold convInfo at hi
  split at hi
  · rename_i t' s d0 x ht hop
    split at hi
    · rename_i e1 h1 h2
      split at hi
      · rename_i h3
        simp only [Option.some.injEq, Prod.mk.injEq] at hi
        obtain ⟨rfl, hd⟩ := hi
        refine RefR.opN k k' hk ht (fun Γ S β a w hr => ?_) h
        have hx := see_rel hr (g := []) (fun q hq => by cases hq) x
        rw [hd] at hx
        obtain ⟨kb, hkb, he, hw1, hn, hcap, hml, cur, fz, hh, hfz, hcs, hcell⟩ := hr.core.objs o _ hob
        simp only [DRel, CRel, hkb] at hx
        obtain ⟨_, _, hxv⟩ := hx
        refine ⟨.string ⟨bs.toArray⟩, w, S, β, ?_, ⟨rfl, by omega⟩, MLe.refl _, BLe.refl _, hr.core⟩
        unfold execOp
        rw [hop]
        simp only
        have hback := run_convert_bytes_back (P := P) w s d0 e1 ⟨kb.b, 0, none⟩ kb.cap bs h1 h3 h2 (fun j hj => by
          rw [add_lit, cell_of_heap hh, Nat.zero_add, hcell j hj]
          simp [List.getD, List.getElem?_eq_getElem hj])
        rw [Sem.run_bind, hxv, hback]; rfl
      · cases hi
    · cases hi
  · cases hi
end
end Go.Dl
