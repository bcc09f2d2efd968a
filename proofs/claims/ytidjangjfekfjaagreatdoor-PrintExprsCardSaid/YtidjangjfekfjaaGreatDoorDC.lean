/- Bytes and texts; operations by rules of their own; functions that are known by the kit's contracts. Regions whose order is open: what looks at slots alone may be taken first, whatever the others write. More rules that a program prints: open regions that look at memory; handed objects that move; pointers to oneself. An error as data: codes and places, the outermost first. strings.Builder: a struct that names itself. A function that is known by a contract and hands back a slice of its own making. Functions that are known by a contract; a function at the start of a call. A test that is known to hold; an operation whose guard holds. Values that are in themselves: their cells as they lie in one, and as elements. Regions whose order is open: an operation that makes a block, alone in its turn. A place that was tested. The rules in short: what is decided by computing stands behind. Regions whose order is open: one of several that are ready, each in its turn. Rows of bytes that come of a text: the conversion, and bytes put behind. A literal row under a guard; a function's results without what it leaves in memory. Regions whose order is open: calls that write what they are handed; what is behind the region, once for all orders. Steps whose state is not told. Regions whose order is open: what only looks and may come at any time is told once, as if it came first. Regions of open order: what is told of tests; a guard that is said to hold. Regions of open order: a guard that holds, what hangs on it stands under none. More rules in short. No conditions. -/
import Derived.Test.YtidjangjfekfjaaGreatDoorDB
import Derived.Laws.BytesString
import Derived.KernelRfl
import Derived.Laws.IdiomStrings
import Derived.Laws.CopyRow
namespace Go.Dl
set_option linter.unusedVariables false
set_option linter.unusedSimpArgs false
set_option linter.unusedSectionVars false
variable [WInv]
def b8 (e : Int) : UInt8 := UInt8.ofNat e.toNat
structure IsB (e : Int) : Prop where
  lo : 0 ≤ e
  hi : e < 256
theorem IsB.eq {e : Int} (h : IsB e) : Int.ofNat (b8 e).toNat = e := by
  obtain ⟨h1, h2⟩ := h
  have h3 : e.toNat < 256 := by omega
  have : (b8 e).toNat = e.toNat := by
    unfold b8
    rw [UInt8.toNat_ofNat']
    exact Nat.mod_eq_of_lt h3
  rw [this]
  exact Int.toNat_of_nonneg h1
theorem IsB.wrap (x : Int) : IsB (IntKind.u8.wrap x) := by
  constructor
  · show 0 ≤ x % 256; omega
  · show x % 256 < 256; omega
theorem IsB.tmod {a b : Int} (h : IsB a) : IsB (a.tmod b) := by
  obtain ⟨h1, h2⟩ := h
  refine ⟨Int.tmod_nonneg _ h1, ?_⟩
  have : a.tmod b ≤ a := by
    obtain ⟨n, rfl⟩ := Int.eq_ofNat_of_zero_le h1
    rcases Int.natAbs_eq b with hb | hb
    · rw [hb, ← Int.ofNat_tmod]; exact_mod_cast Nat.mod_le _ _
    · rw [hb, Int.tmod_neg, ← Int.ofNat_tmod]; exact_mod_cast Nat.mod_le _ _
  omega
theorem IsB.const (n : Nat) (h : Nat.blt n 256 = true) : IsB (Int.ofNat n) := ⟨Int.natCast_nonneg _, by rw [Nat.blt_eq] at h; show (n : Int) < 256; omega⟩
theorem CLe.b8 {e : Int} (h : IsB e) : CLe (.val (.int .u8 e)) (.val (.int .u8 (Int.ofNat (b8 e).toNat))) := by
  rw [h.eq]; exact CLe.refl _
def bAt (l : Bytes) (i j : Nat) : C := ([.val (.int .u8 (Int.ofNat (l.getD i 0).toNat))] : List C).getD j .bot
section
variable {P : Program} {n : Nat} {A T R : Type} {go : T → St} {ab : A → Ex × St} {st st' : St} {m : Option (A ⊕ T)} {cs : List Code}
def opInfo (n : Nat) (o : Oper) (st : St) : Option Nat :=
  match o.guard, o.dst with
  | none, some t => bif Nat.blt t n && freeOf st t then some t else none
  | _, _ => none
def GoodN (P : Program) (s : Sem Next) (Γ : Ctx) (S : Mem) (β : Bmap) (w : World) (d : D) (xs : List Obj) : Prop :=
  ∃ u w' S' β', s.run P w = .ok (.value u) w' ∧ DRel S' β' d u ∧ MLe S S' ∧ BLe β β' ∧ Core Γ S' β' w' xs
theorem RefR.opN (k k' : Nat) {ops : Array Oper} {l : List Oper} {t : Nat} {d : D} {xs : List Obj} (hk : (Nat.blt k l.length && Nat.beq k' (k + 1)) = true) (hi : opInfo n (opAt l k) st = some t)
    (hg : ∀ Γ S β a w, RR Γ S β a w n st → GoodN P (execOp a.eval (opAt l k)) Γ S β w d xs)
    (h : RefR P n ops (l.drop k') cs (st.put (some t) d xs []) m go ab) : RefR P n ops (l.drop k) cs st m go ab := by
  rw [Bool.and_eq_true] at hk
  obtain ⟨hk, hk'⟩ := hk
  have hk' := Nat.eq_of_beq_eq_true hk'
  subst hk'
  rw [drop_opAt hk]
  unfold opInfo at hi
  split at hi
  · rename_i t' hgd hd
    obtain ⟨hc, hi⟩ := some_of_cond hi
    simp only [Option.some.injEq] at hi
    subst hi
    rw [Bool.and_eq_true, Nat.blt_eq] at hc
    intro Γ S β a w hr q hq
    simp only [wpList, Region.wanted, hgd, if_true]
    left
    obtain ⟨u, w', S', β', hrun, hd1, hs, hb, hco⟩ := hg Γ S β a w hr
    simp only [Oper.wp, Oper.upon, hrun]
    rw [hd]
    exact h Γ S' β' _ w' (hr.put hco hs hb hc.1 hc.2 (g := []) (fun q hq => by cases hq) (fun _ => hd1) (fun hno => absurd (fun q hq => by cases hq) hno)) q hq
  · cases hi
theorem foldl_push : ∀ (ns : List Int) (r : ByteArray), ns.foldl (fun r n => r.push (UInt8.ofNat n.toNat)) r = ⟨⟨r.data.toList ++ ns.map fun n => UInt8.ofNat n.toNat⟩⟩
  | [], r => by
    obtain ⟨⟨l⟩⟩ := r
    simp
  | n :: ns, r => by
    rw [List.foldl_cons, foldl_push ns]
    obtain ⟨⟨l⟩⟩ := r
    simp [ByteArray.push]
def isBytes (xs : List Obj) (d : D) (l : Bytes) : Prop :=
  (∃ o e, d = .c (.own o l.length) ∧ xs[o]? = some (.row e 1 l.length (bAt l))) ∨ d = .c (.tree 1 l.length (bAt l)) ∨ (d = .c .nil ∧ l = [])
theorem isBytes.own {xs : List Obj} {d : D} {l : Bytes} (o : Nat) (e : TypeId) (h1 : d = .c (.own o l.length)) (h2 : xs[o]? = some (.row e 1 l.length (bAt l))) : isBytes xs d l := .inl ⟨o, e, h1, h2⟩
theorem isBytes.tree {xs : List Obj} {d : D} {l : Bytes} (h : d = .c (.tree 1 l.length (bAt l))) : isBytes xs d l := .inr (.inl h)
theorem isBytes.nil {xs : List Obj} {d : D} (h : d = .c .nil) : isBytes xs d [] := .inr (.inr ⟨h, rfl⟩)
theorem bAt_rel {S : Mem} {β : Bmap} {l : Bytes} {i : Nat} {u : Value} (h : CRel S β (bAt l i 0) u) : u = .int .u8 (Int.ofNat (l.getD i 0).toNat) := h
theorem bytes_run {Γ : Ctx} {S : Mem} {β : Bmap} {w : World} {xs : List Obj} {d : D} {l : Bytes} {v : Value} (hc : Core Γ S β w xs) (hd : DRel S β d v) (hb : isBytes xs d l) :
    (Conv.bytesToString v).run P w = .ok (.string ⟨l.toArray⟩) w ∧ l.length ≤ maxLen := by
  have fin : ∀ (b off cap : Nat), (∀ i, i < l.length → w.cell? ⟨b, off + i, none⟩ = some (.int .u8 (Int.ofNat (l.getD i 0).toNat))) →
      (Conv.bytesToString (.slice (some ⟨b, off, none⟩) l.length cap)).run P w = .ok (.string ⟨l.toArray⟩) w := by
    intro b off cap hcell
    have hl : (loadCells ⟨b, off, none⟩ l.length).run P w = .ok ((l.map fun x => Int.ofNat x.toNat).map (Value.int .u8)).toArray w := by
      have := run_loadCells (P := P) w ⟨b, off, none⟩ l.length (fun i => .int .u8 (Int.ofNat (l.getD i 0).toNat)) (fun j hj => by rw [add_lit]; exact hcell j hj)
      rw [this]
      congr 2
      apply List.ext_getElem?
      intro i
      rw [List.map_map, List.getElem?_map, List.getElem?_map]
      rcases Nat.lt_or_ge i l.length with hi | hi
      · simp [List.getElem?_range hi, List.getElem?_eq_getElem hi, List.getD]
      · rw [List.getElem?_eq_none (by simpa using hi), List.getElem?_eq_none hi]; rfl
    rw [run_bytesToString w _ _ _ _ hl, foldl_push]
    have : ((fun n : Int => UInt8.ofNat n.toNat) ∘ fun x : UInt8 => Int.ofNat x.toNat) = id := by
      funext x
      show UInt8.ofNat x.toNat = x
      simp
    rw [List.map_map, this, List.map_id]
    rfl
  have fin0 : ∀ (a : Option Addr) (cap : Nat), a = none ∨ True → l = [] → (Conv.bytesToString (.slice none 0 0)).run P w = .ok (.string ⟨l.toArray⟩) w := by
    intro _ _ _ h; subst h; rfl
  rcases hb with ⟨o, e, rfl, ho⟩ | rfl | ⟨rfl, rfl⟩
  · have hx := hc.objs o _ ho
    rcases hx with ⟨h1, h2⟩ | ⟨k, h1, h2, h3, h4, h5, h6, cur, h7, h8, h9⟩
    · simp only [DRel, CRel, h1] at hd
      obtain ⟨h3, rfl⟩ := hd
      have : l = [] := List.length_eq_zero_iff.1 h2
      exact ⟨fin0 none 0 (.inl rfl) this, by rw [this]; exact Nat.zero_le _⟩
    · simp only [DRel, CRel, h1] at hd
      obtain ⟨_, _, rfl⟩ := hd
      refine ⟨fin k.b 0 k.cap fun i hi => ?_, Nat.le_trans h5 h6⟩
      obtain ⟨u, hu, _, hr⟩ := h9 i 0 hi (by omega)
      rw [cell_of_heap h7, Nat.zero_add]
      rw [Nat.mul_one, Nat.add_zero] at hu
      rw [hu, bAt_rel hr]
  · obtain ⟨a, cap, rfl, h2, h3, h4⟩ := hd
    refine ⟨?_, Nat.le_trans h2 h3⟩
    rcases h4 with h4 | ⟨b, off, rfl, h5⟩
    · have : l = [] := List.length_eq_zero_iff.1 h4
      subst this
      cases a with
      | none => rfl
      | some a => rfl
    · refine fin b off cap fun i hi => ?_
      obtain ⟨u, hu, hr⟩ := h5 i 0 hi (by omega)
      rw [Nat.mul_one, Nat.add_zero] at hu
      rw [(hc.holds _ _ _ hu).1, bAt_rel hr]
  · obtain rfl : v = .slice none 0 0 := hd
    exact ⟨rfl, Nat.zero_le _⟩
def convInfo (P : Program) (n : Nat) (o : Oper) (st : St) : Option (Nat × D) :=
  match opInfo n o st, o.op with
  | some t, .convert s d x =>
    (match P.underlying s, P.underlying d with
    | some (.slice e), some .string => (match P.underlying e with
      | some (.int .u8) => some (t, (st.see []).lv x)
      | _ => none)
    | _, _ => none)
  | _, _ => none
theorem RefR.bytesStr (k k' : Nat) (bs : Bytes) {ops : Array Oper} {l : List Oper} {t : Nat} {d : D} (hk : (Nat.blt k l.length && Nat.beq k' (k + 1)) = true) (hi : convInfo P n (opAt l k) st = some (t, d)) (hb : isBytes st.objs d bs)
    (h : RefR P n ops (l.drop k') cs (st.put (some t) (.c (.str bs)) st.objs []) m go ab) : RefR P n ops (l.drop k) cs st m go ab := by
  unfold convInfo at hi
  split at hi
  · rename_i t' s d0 x ht hop
    split at hi
    · rename_i e h1 h2
      split at hi
      · rename_i h3
        simp only [Option.some.injEq, Prod.mk.injEq] at hi
        obtain ⟨rfl, rfl⟩ := hi
        refine RefR.opN k k' hk ht (fun Γ S β a w hr => ?_) h
        have hx := see_rel hr (g := []) (fun q hq => by cases hq) x
        obtain ⟨hrun, hmx⟩ := bytes_run (P := P) hr.core hx hb
        refine ⟨.string ⟨bs.toArray⟩, w, S, β, ?_, ⟨rfl, hmx⟩, MLe.refl _, BLe.refl _, hr.core⟩
        unfold execOp
        rw [hop]
        simp only
        have : (convert s d0 (a.eval x)).run P w = .ok (.string ⟨bs.toArray⟩) w := by
          unfold convert
          rw [Sem.run_bind, run_underlying h1, Result.andThen_ok, Sem.run_bind, run_underlying h2, Result.andThen_ok]
          generalize a.eval x = v at *
          have hsl : ∃ q n c, v = .slice q n c := by
            rcases hb with ⟨o, e', hq, ho⟩ | hq | ⟨hq, _⟩
            · rw [hq] at hx
              simp only [DRel, CRel] at hx
              split at hx
              · exact ⟨_, _, _, hx.2.2⟩
              · exact ⟨_, _, _, hx.2⟩
              · exact hx.elim
            · rw [hq] at hx
              obtain ⟨q, c, e1, _⟩ := hx
              exact ⟨_, _, _, e1⟩
            · rw [hq] at hx
              exact ⟨_, _, _, hx⟩
          obtain ⟨q, n, c, rfl⟩ := hsl
          simp only
          rw [Sem.run_bind, run_underlying h3, Result.andThen_ok]
          exact hrun
        rw [Sem.run_bind, this]
        rfl
      · cases hi
    · cases hi
  · cases hi
theorem DFun.of_calls {f : FuncId} {args : List D} {mr : Option R} {res : R → D}
    (h : ∀ S β w vs, WInv.I w → VRel S β args vs → ∀ r, mr = some r → Calls P f vs.toArray w fun e w' => ∃ v, e = .returned v ∧ DRel S β (res r) v ∧ Up w w') : DFun P f args [] mr res (fun _ => []) := by
  intro S β w vs hc hv r hr
  refine (h S β w vs hc.inv hv r hr).mono fun e w' ⟨v, he, hd, hu⟩ => ⟨v, S, β, he, hd, fun o k ho _ => by simp at ho, hc.newer hu.os hu.tape hu.output hu.size hu.block⟩
end
end Go.Dl

namespace Go.Dl
set_option linter.unusedVariables false
set_option linter.unusedSimpArgs false
set_option linter.unusedSectionVars false
variable [WInv]
def firstsP (ops : Array Oper) : Array Bool → List Nat → Option (Array Bool)
  | listed, [] => some listed
  | listed, i :: r =>
    bif (Region.ready .any ops listed).contains i && (Region.free .any ops listed i && (ops[i]?).elim false fun o => pureOp o.op && quietOp o.op) then firstsP ops (listed.setIfInBounds i true) r else none
def RefY (P : Program) (n : Nat) (ops : Array Oper) {A T : Type} (fuel : Nat) (listed : Array Bool) (cs : List Code) (st : St) (m : Option (A ⊕ T)) (go : T → St) (ab : A → Ex × St) : Prop :=
  ∀ Γ S β a w, RR Γ S β a w n st → ∀ x, m = some x → wpAny P .any ops (Exit.then (wpL P cs (Post Γ n go ab x)) (Post Γ n go ab x)) fuel listed a w
section
variable {P : Program} {n : Nat} {ops : Array Oper}
theorem wpAny_evs {Q : Exit → Act → World → Prop} {Γ : Ctx} {S : Mem} {β : Bmap} {w : World} {fuel : Nat} {listed' : Array Bool} {st2 : St} (hQ : ∀ c a w, ¬ Q (.panic c) a w) (hsel : Region.noSelect ops = true) :
    ∀ {is : List Nat} {listed : Array Bool} {st : St} {vs : List Bool} {a : Act},
    RR Γ S β a w n st → firstsP ops listed is = some listed' → evOps P n ops (opsOf ops is) st = some (vs, st2) → (∀ b ∈ vs, b = true) →
    (∀ a', RR Γ S β a' w n st2 → wpAny P .any ops Q fuel listed' a' w) → wpAny P .any ops Q (is.length + fuel) listed a w
  | [], listed, st, vs, a, hr, hf, he, hvs, hk => by
    simp only [firstsP, Option.some.injEq] at hf
    subst hf
    simp only [opsOf, List.filterMap_nil, evOps, Option.some.injEq, Prod.mk.injEq] at he
    obtain ⟨_, rfl⟩ := he
    rw [List.length_nil, Nat.zero_add]
    exact hk a hr
  | i :: r, listed, st, vs, a, hr, hf, he, hvs, hk => by
    unfold firstsP at hf
    obtain ⟨hc, hf⟩ := some_of_cond hf
    simp only [Bool.and_eq_true] at hc
    obtain ⟨hrd, hfree, hq⟩ := hc
    cases ho : ops[i]? with
    | none => rw [ho] at hq; cases hq
    | some o =>
      rw [ho] at hq
      simp only [Option.elim, Bool.and_eq_true] at hq
      obtain ⟨hp, hq⟩ := hq
      have hops : opsOf ops (i :: r) = o :: opsOf ops r := by simp [opsOf, ho]
      rw [hops] at he
      unfold evOps at he
      split at he
      · rename_i v st1 h1
        split at he
        · rename_i vs2 st3 h2
          simp only [Option.some.injEq, Prod.mk.injEq] at he
          obtain ⟨rfl, rfl⟩ := he
          have hv1 : ∀ b ∈ v, b = true := fun b hb => hvs b (List.mem_append_left _ hb)
          have hv2 : ∀ b ∈ vs2, b = true := fun b hb => hvs b (List.mem_append_right _ hb)
          rw [List.length_cons, show r.length + 1 + fuel = (r.length + fuel) + 1 by omega]
          rcases evStep_cases hr h1 hv1 with ⟨hw, u, w', S', β', _, hrr, hqq⟩ | ⟨hw, hrr⟩
          · obtain ⟨rfl, rfl, rfl, hrun⟩ := hqq hq
            exact wpAny_take ho hsel hfree hrd (fun c a w h => absurd h (hQ c _ w)) (.inl ⟨hw, fun w2 => hrun w2 (.inl hp)⟩) (wpAny_evs hQ hsel hrr hf h2 hv2 hk)
          · exact wpAny_take ho hsel hfree hrd (fun c a w h => absurd h (hQ c _ w)) (.inr ⟨hw, rfl⟩) (wpAny_evs hQ hsel hrr hf h2 hv2 hk)
        · cases he
      · cases he
theorem wpAny_of_seq {Q' : Exit → Act → World → Prop} : ∀ (js : List Nat) (listed : Array Bool) (a : Act) (w : World), seqL .any ops listed js = true → (js.all fun j => (ops[j]?).isSome) = true →
    wpList P ops Q' (opsOf ops js) a w → wpAny P .any ops Q' js.length listed a w
  | [], listed, a, w, hs, _, h => ⟨by simpa [seqL] using hs, h⟩
  | j :: r, listed, a, w, hs, hW, h => by
    simp only [seqL, Bool.and_eq_true, decide_eq_true_eq] at hs
    simp only [List.all_cons, Bool.and_eq_true] at hW
    refine ⟨fun h1 => (by rw [hs.1] at h1; cases h1), fun i hi => ?_⟩
    rw [hs.1] at hi
    have hik : i = j := by simpa using hi
    subst hik
    obtain ⟨o, ho⟩ := Option.isSome_iff_exists.1 hW.1
    have hops : opsOf ops (i :: r) = o :: opsOf ops r := by simp [opsOf, ho]
    rw [hops] at h
    have hw : wpOp P ops Q' i (wpList P ops Q' (opsOf ops r)) a w := by unfold wpOp; simp only [ho]; exact h
    exact wpOp_mono (fun a' w' h' => wpAny_of_seq r _ a' w' hs.2 (by rw [List.all_eq_true]; simpa using hW.2) h') hw
variable {A T : Type} {go : T → St} {ab : A → Ex × St} {st : St} {m : Option (A ⊕ T)} {cs : List Code} {c : Code}
theorem Post.no_panic {Γ : Ctx} {x : A ⊕ T} {K : Act → World → Prop} : ∀ c a w, ¬ Exit.then K (Post Γ n go ab x) (.panic c) a w := by
  intro c a w h
  have h' : Post Γ n go ab x (.panic c) a w := h
  cases x with
  | inl t =>
    have := h'.1
    cases hx : (ab t).1 <;> rw [hx] at this <;> cases this
  | inr t => cases h'.1
theorem Ref.drawnY (id : Nat) (h : c = .region id (rg c) true) (hm : P.follows .mixedOrders = true)
    (hr : RefY P n (rg c) (rg c).size (Array.replicate (rg c).size false) cs st m go ab) : Ref P n (c :: cs) st m go ab := by
  rw [h]
  intro Γ S β a w hrr x hx
  refine wp_region_any hm (hr Γ S β a _ ?_ x hx)
  exact ⟨hrr.core.drew, hrr.tm, hrr.un, hrr.size, hrr.defers, hrr.hand⟩
theorem RefY.ev (is keep om : List Nat) {fuel fuel' : Nat} {listed listed' : Array Bool} {vs : List Bool} {st' : St} (hfu : fuel = is.length + fuel')
    (hf : (bif Region.noSelect ops then firstsP ops listed is else none) = some listed') (he : run1 P n ops (opsOf ops is) st keep om = some (vs, st'))
    (h : RefY P n ops fuel' listed' cs st' m go ab) : RefY P n ops fuel listed cs st (chk vs m) go ab := by
  intro Γ S β a w hr x hx
  obtain ⟨hvs, hm⟩ := chk_some hx
  obtain ⟨hsel, hf⟩ := some_of_cond hf
  subst hfu
  unfold run1 at he
  split at he
  · rename_i vs2 st2 h2
    cases hk : st2.keep keep om with
    | none => rw [hk] at he; cases he
    | some st3 =>
      rw [hk] at he
      simp only [Option.map_some, Option.some.injEq, Prod.mk.injEq] at he
      obtain ⟨rfl, rfl⟩ := he
      exact wpAny_evs Post.no_panic hsel hr hf h2 hvs fun a' h' => h Γ S (bren β om) a' w (keep_sound h' hk) x hm
  · cases he
theorem RefY.evC (is keep om : List Nat) {fuel fuel' : Nat} {listed : Array Bool} {vs : List Bool} {st' : St} (hfu : fuel = is.length + fuel')
    (hf : (Region.noSelect ops && (firstsP ops listed is).isSome) = true) (he : run1 P n ops (opsOf ops is) st keep om = some (vs, st'))
    (h : RefY P n ops fuel' ((firstsP ops listed is).getD listed) cs st' m go ab) : RefY P n ops fuel listed cs st (chk vs m) go ab := by
  rw [Bool.and_eq_true] at hf
  obtain ⟨l', hl⟩ := Option.isSome_iff_exists.1 hf.2
  rw [hl] at h
  exact RefY.ev is keep om hfu (by rw [hf.1, cond_true]; exact hl) he h
theorem RefY.evC0 (is keep om : List Nat) {fuel fuel' : Nat} {listed : Array Bool} {st' : St} (hfu : fuel = is.length + fuel')
    (hf : (Region.noSelect ops && (firstsP ops listed is).isSome) = true) (he : run1 P n ops (opsOf ops is) st keep om = some ([], st'))
    (h : RefY P n ops fuel' ((firstsP ops listed is).getD listed) cs st' m go ab) : RefY P n ops fuel listed cs st m go ab :=
  fun Γ S β a w hr x hx => RefY.evC (vs := []) is keep om hfu hf he h Γ S β a w hr x hx
theorem RefY.tail (js : List Nat) {fuel : Nat} {listed : Array Bool} (hfu : fuel = js.length) (hs : (seqL .any ops listed js && js.all fun j => (ops[j]?).isSome) = true)
    (h : RefR P n ops ((opsOf ops js).drop 0) cs st m go ab) : RefY P n ops fuel listed cs st m go ab := by
  intro Γ S β a w hr x hx
  rw [Bool.and_eq_true] at hs
  subst hfu
  exact wpAny_of_seq js listed a w hs.1 hs.2 (h Γ S β a w hr x hx)
theorem RefY.toX (W : List Nat) {fuel : Nat} {listed : Array Bool} (h : RefX P n ops (inW W) fuel listed cs st m go ab) : RefY P n ops fuel listed cs st m go ab :=
  fun Γ S β a w hr x hx => wpAny_of_x _ _ _ _ (h Γ S β a w hr x hx)
theorem RefY.done {listed : Array Bool} (hs : (Region.ready .any ops listed).isEmpty = true) (h : Ref P n cs st m go ab) : RefY P n ops 0 listed cs st m go ab :=
  fun Γ S β a w hr x hx => ⟨by simpa using hs, h Γ S β a w hr x hx⟩
theorem RefY.conv {fuel : Nat} {listed : Array Bool} {st' : St} (hc : Conv n st st') (h : RefY P n ops fuel listed cs st' m go ab) : RefY P n ops fuel listed cs st m go ab := fun Γ S β a w hr x hx => by
  obtain ⟨S', β', h'⟩ := hc Γ S β a w hr
  exact h Γ S' β' a w h' x hx
def letV {X Y : Type} (v : X) (f : X → Y) : Y := f v
theorem RefR.letC {X : Type} {v : X} {l : List Oper} {stf : X → St} {mf : X → Option (A ⊕ T)} (h0 : stf v = st) (h : ∀ x, RefR P n ops l cs (stf x) (mf x) go ab) : RefR P n ops l cs st (letV v mf) go ab := h0 ▸ h v
theorem El.row_append_str (E : El UInt8) (hE : E.cs = fun x => [.val (.int .u8 (Int.ofNat x.toNat))]) (xs s : Bytes) {n m : Nat} (hn : n = xs.length) (hm : m = s.length := by rfl) (hd : E.d = 0 := by rfl) (hw : E.w = 1 := by rfl) :
    OLe (.row E.ty E.w (n + m) fun i j => bif Nat.blt i n then E.at xs i j else (fun i _ => .val (.int .u8 (s.getD i 0).toNat)) (i - n) j) (E.row (xs ++ s)) := by
  subst hn hm
  refine OLe.row (by simp) fun i j hi hj => ?_
  rw [hw] at hj
  obtain rfl : j = 0 := by omega
  unfold El.at
  rw [hd]
  rcases Nat.lt_or_ge i xs.length with h | h
  · have hb : Nat.blt i xs.length = true := by simpa [Nat.blt_eq] using h
    rw [hb, cond_true, getD_append_l _ _ _ _ h]
    exact CLe.refl _
  · have hb : Nat.blt i xs.length = false := by
      cases hq : Nat.blt i xs.length with
      | false => rfl
      | true => rw [Nat.blt_eq] at hq; omega
    rw [hb, cond_false, getD_append_r _ _ _ _ h, hE]
    exact CLe.refl _
theorem Conv.eq {st' : St} (h : st = st') : Conv n st st' := h ▸ Conv.refl
end
end Go.Dl

namespace Go.Dl
set_option linter.unusedVariables false
set_option linter.unusedSimpArgs false
set_option linter.unusedSectionVars false
variable [WInv]
section
variable {P : Program} {n : Nat} {ops : Array Oper} {W : Nat → Bool} {A T R : Type} {go : T → St} {ab : A → Ex × St} {st st' : St} {m : Option (A ⊕ T)} {cs : List Code} {c : Code}
theorem RefX.evC (is keep om : List Nat) {fuel fuel' : Nat} {listed : Array Bool} {vs : List Bool} {st' : St} (hfu : fuel = is.length + fuel')
    (hf : (Region.noSelect ops && (firsts .any ops W listed is).isSome) = true) (he : run1 P n ops (opsOf ops is) st keep om = some (vs, st'))
    (h : RefX P n ops W fuel' ((firsts .any ops W listed is).getD listed) cs st' m go ab) : RefX P n ops W fuel listed cs st (chk vs m) go ab := by
  rw [Bool.and_eq_true] at hf
  obtain ⟨l', hl⟩ := Option.isSome_iff_exists.1 hf.2
  rw [hl] at h
  exact RefX.ev is keep om hfu (by rw [hf.1, cond_true]; exact hl) he h
theorem RefX.evC0 (is keep om : List Nat) {fuel fuel' : Nat} {listed : Array Bool} {st' : St} (hfu : fuel = is.length + fuel')
    (hf : (Region.noSelect ops && (firsts .any ops W listed is).isSome) = true) (he : run1 P n ops (opsOf ops is) st keep om = some ([], st'))
    (h : RefX P n ops W fuel' ((firsts .any ops W listed is).getD listed) cs st' m go ab) : RefX P n ops W fuel listed cs st m go ab :=
  fun Γ S β a w hr x hx => RefX.evC (vs := []) is keep om hfu hf he h Γ S β a w hr x hx
theorem RefX.letC {X : Type} {v : X} {fuel : Nat} {listed : Array Bool} {stf : X → St} {mf : X → Option (A ⊕ T)} (h0 : stf v = st) (h : ∀ x, RefX P n ops W fuel listed cs (stf x) (mf x) go ab) : RefX P n ops W fuel listed cs st (letV v mf) go ab := h0 ▸ h v
def moveC (o o' : Nat) : C → C
  | .own q n => bif Nat.beq q o then .own o' n else .own q n
  | c => c
def St.move (st : St) (o : Nat) : Option St :=
  match st.objs[o]? with
  | some (.row e w k get) => some ⟨st.tmps.map fun p => (p.1, p.2.sub (moveC o st.objs.length)), (st.objs.set o .dead).map (Obj.sub (moveC o st.objs.length)) ++ [.row e w k get], st.gd, st.h⟩
  | _ => none
theorem C.move_rel {S : Mem} {β β' : Bmap} {o o' : Nat} (hle : BLe β β') (ho : β' o' = β o) : ∀ {c : C} {v : Value}, CRel S β c v → CRel S β' (c.sub (moveC o o')) v := by
  intro c
  induction c with
  | own q k =>
    intro v hv
    simp only [C.sub, moveC]
    cases hb : Nat.beq q o with
    | true =>
      have := Nat.eq_of_beq_eq_true hb
      subst this
      rw [cond_true]
      simp only [CRel, ho] at hv ⊢
      exact hv
    | false => rw [cond_false]; exact CRel.grow _ hle _ hv
  | ptr q i j => intro v hv; exact CRel.grow _ hle _ hv
  | self t b q => intro v hv; exact CRel.grow (.self t b q) hle _ hv
  | opt b c ih =>
    intro v hv
    simp only [C.sub, CRel] at hv ⊢
    split at hv
    · rename_i h; rw [if_pos h]; exact ih hv
    · rename_i h; rw [if_neg h]; exact hv
  | iface b t c ih =>
    intro v hv
    simp only [C.sub, CRel] at hv ⊢
    split at hv
    · rename_i h; rw [if_pos h]; obtain ⟨u, hu, hr⟩ := hv; exact ⟨u, hu, ih hr⟩
    · rename_i h; rw [if_neg h]; exact hv
  | func fn k cap ih =>
    rintro v ⟨vs, h1, h2, h3⟩
    refine ⟨vs, h1, h2, fun i hi => ?_⟩
    have : (((List.range k).map fun i => (cap i).sub (moveC o o')).getD i .bot) = (cap i).sub (moveC o o') := by
      simp [List.getD, hi]
    show CRel S β' (((List.range k).map fun i => (cap i).sub (moveC o o')).getD i .bot) _
    rw [this]
    exact ih i (h3 i hi)
  | cond b c ih =>
    intro v hv hb
    exact ih (hv hb)
  | _ => intro v hv; exact hv
theorem D1.move_rel {S : Mem} {β β' : Bmap} {o o' : Nat} (hle : BLe β β') (ho : β' o' = β o) {d : D1} {v : Value} (h : D1Rel S β d v) : D1Rel S β' (d.sub (moveC o o')) v := by
  cases d with
  | c x => exact C.move_rel hle ho h
  | agg l => obtain ⟨vs, h1, h2⟩ := h; exact ⟨vs, h1, h2.map _ fun _ _ h => C.move_rel hle ho h⟩
theorem D.move_rel {S : Mem} {β β' : Bmap} {o o' : Nat} (hle : BLe β β') (ho : β' o' = β o) {d : D} {v : Value} (h : DRel S β d v) : DRel S β' (d.sub (moveC o o')) v := by
  cases d with
  | c x => exact C.move_rel hle ho h
  | agg l => obtain ⟨vs, h1, h2⟩ := h; exact ⟨vs, h1, h2.map _ fun _ _ h => C.move_rel hle ho h⟩
  | tup l => obtain ⟨vs, h1, h2⟩ := h; exact ⟨vs, h1, h2.map _ fun _ _ h => D1.move_rel hle ho h⟩
theorem lookup_sub (f : C → C) (t : Nat) : ∀ (l : List (Nat × D)), lookupT (D.c .bot) (l.map fun p => (p.1, p.2.sub f)) t = (lookupT (D.c .bot) l t).sub f
  | [] => rfl
  | (i, d) :: r => by
    rw [List.map_cons]
    simp only [lookupT]
    cases hb : Nat.beq i t with
    | true => rfl
    | false => rw [cond_false, cond_false]; exact lookup_sub f t r
theorem sub_bool {d : D} {f : C → C} {b : Bool} (hf : ∀ q n, f (.own q n) ≠ .val (.bool b)) (hp : ∀ q i j, f (.ptr q i j) ≠ .val (.bool b)) : d.sub f = .c (.val (.bool b)) ↔ d = .c (.val (.bool b)) := by
  constructor
  · intro h
    cases d with
    | c x =>
      simp only [D.sub, D.c.injEq] at h
      cases x with
      | val u => simp only [C.sub] at h; rw [h]
      | own o m => simp only [C.sub] at h; exact absurd h (hf _ _)
      | ptr o i j => simp only [C.sub] at h; exact absurd h (hp _ _ _)
      | _ => simp only [C.sub] at h; cases h
    | agg l => cases h
    | tup l => cases h
  · rintro rfl; rfl
theorem Conv.move (o : Nat) (hm : st.move o = some st') (hh : Nat.ble st.h st.objs.length = true) : Conv n st st' := by
  have hh := Nat.le_of_ble_eq_true hh
  intro Γ S β a w hr
  unfold St.move at hm
  split at hm
  · rename_i e wd k get ho
    simp only [Option.some.injEq] at hm
    subst hm
    have hlt : o < st.objs.length := by
      rcases Nat.lt_or_ge o st.objs.length with h1 | h1
      · exact h1
      · rw [List.getElem?_eq_none h1] at ho; cases ho
    have hrow := hr.core.objs o _ ho
    obtain ⟨x, hx⟩ : ∃ x, β o = some x := by
      rcases hrow with ⟨h1, _⟩ | ⟨k, h1, _⟩
      · exact ⟨_, h1⟩
      · exact ⟨_, h1⟩
    have hle : BLe β (bset β st.objs.length x) := BLe.bset (hr.core.out _ (Nat.le_refl _))
    have hnew : bset β st.objs.length x st.objs.length = β o := by unfold bset; rw [if_pos rfl, hx]
    have hold : ∀ q, q < st.objs.length → bset β st.objs.length x q = β q := fun q hq => by unfold bset; rw [if_neg (by omega)]
    have get' : ∀ (q : Nat) (y : Obj), ((st.objs.set o .dead).map (Obj.sub (moveC o st.objs.length)) ++ [Obj.row e wd k get])[q]? = some y → y.live = true →
        ∃ q0 y0, st.objs[q0]? = some y0 ∧ y0.live = true ∧ bset β st.objs.length x q = β q0 ∧ (q = st.objs.length ∧ q0 = o ∧ y = .row e wd k get ∨ q = q0 ∧ q ≠ o ∧ y = y0.sub (moveC o st.objs.length)) := by
      intro q y hy hl
      rcases getElem?_concat _ _ _ _ hy with hy | ⟨h1, rfl⟩
      · rw [List.getElem?_map] at hy
        by_cases hq : q = o
        · subst hq
          rw [List.getElem?_set_self hlt] at hy
          simp only [Option.map_some, Option.some.injEq] at hy
          subst hy
          cases hl
        · rw [List.getElem?_set_ne (Ne.symm hq)] at hy
          cases hz : st.objs[q]? with
          | none => rw [hz] at hy; cases hy
          | some z =>
            rw [hz] at hy
            simp only [Option.map_some, Option.some.injEq] at hy
            subst hy
            have hql : q < st.objs.length := by
              rcases Nat.lt_or_ge q st.objs.length with h1 | h1
              · exact h1
              · rw [List.getElem?_eq_none h1] at hz; cases hz
            refine ⟨q, z, hz, ?_, hold q hql, .inr ⟨rfl, hq, rfl⟩⟩
            cases z <;> first | rfl | exact hl
      · simp only [List.length_map, List.length_set] at h1
        subst h1
        exact ⟨o, _, ho, rfl, hnew, .inl ⟨rfl, rfl, rfl⟩⟩
    have hgd : ∀ t, St.gof ⟨st.tmps.map fun p => (p.1, p.2.sub (moveC o st.objs.length)), (st.objs.set o .dead).map (Obj.sub (moveC o st.objs.length)) ++ [.row e wd k get], st.gd, st.h⟩ t = st.gof t := fun t => rfl
    have hget : ∀ t, St.get ⟨st.tmps.map fun p => (p.1, p.2.sub (moveC o st.objs.length)), (st.objs.set o .dead).map (Obj.sub (moveC o st.objs.length)) ++ [.row e wd k get], st.gd, st.h⟩ t = (st.get t).sub (moveC o st.objs.length) := fun t => lookup_sub _ t _
    have hholds : ∀ g, St.holds ⟨st.tmps.map fun p => (p.1, p.2.sub (moveC o st.objs.length)), (st.objs.set o .dead).map (Obj.sub (moveC o st.objs.length)) ++ [.row e wd k get], st.gd, st.h⟩ g ↔ st.holds g := by
      intro g
      unfold St.holds
      constructor
      · intro h q hq
        have := h q hq
        rw [hget q.1] at this
        refine (sub_bool (fun q n => ?_) (fun q i j => ?_)).1 this
        · simp only [moveC]; cases Nat.beq q o <;> simp
        · simp [moveC]
      · intro h q hq
        rw [hget q.1, h q hq]; rfl
    refine ⟨S, bset β st.objs.length x, ⟨hr.core.frame, hr.core.holds, ?_, ?_, ?_, ?_, ?_⟩, fun t hh => ?_, fun t hh => ?_, hr.size, hr.defers, fun q k hq hB => hle _ _ (hr.hand q k hq hB)⟩
    · intro q y hy
      cases hl : y.live with
      | false => cases y <;> first | trivial | cases hl
      | true =>
        obtain ⟨q0, y0, hy0, hl0, hb, hc⟩ := get' q y hy hl
        have hr0 := hr.core.objs q0 y0 hy0
        rcases hc with ⟨rfl, rfl, rfl⟩ | ⟨rfl, hne, rfl⟩
        · rw [ho] at hy0
          simp only [Option.some.injEq] at hy0
          subst hy0
          rcases hr0 with ⟨h1, h2⟩ | ⟨k, h1, h2⟩
          · exact .inl ⟨by rw [hb]; exact h1, h2⟩
          · exact .inr ⟨k, by rw [hb]; exact h1, h2⟩
        · cases y0 with
          | dead => trivial
          | cells l =>
            obtain ⟨k, h1, h2, h3, h4, vs, h5, h6, h7⟩ := hr0
            exact ⟨k, by rw [hb]; exact h1, by rw [h2]; simp, h3, h4, vs, h5, h6.map _ fun _ _ h => C.move_rel hle hnew h, h7⟩
          | mrow e' bs =>
            obtain ⟨k, h1, h2⟩ := hr0
            exact ⟨k, by rw [hb]; exact h1, h2⟩
          | row e' w' k' g' =>
            rcases hr0 with ⟨h1, h2⟩ | ⟨k, h1, h2⟩
            · exact .inl ⟨by rw [hb]; exact h1, h2⟩
            · exact .inr ⟨k, by rw [hb]; exact h1, h2⟩
    · intro q hq
      simp only [List.length_append, List.length_map, List.length_set, List.length_cons, List.length_nil] at hq
      unfold bset
      rw [if_neg (by omega)]
      exact hr.core.out q (by omega)
    · intro q q' k1 k2 y y' hy hy' hl hl' h1 h2 hno
      obtain ⟨q0, y0, hy0, hl0, hb, hc⟩ := get' q y hy hl
      obtain ⟨q0', y0', hy0', hl0', hb', hc'⟩ := get' q' y' hy' hl'
      rw [hb] at h1; rw [hb'] at h2
      refine hr.core.inj q0 q0' k1 k2 y0 y0' hy0 hy0' hl0 hl0' h1 h2 fun e => hno ?_
      rcases hc with ⟨h3, h4, _⟩ | ⟨h3, h4, _⟩ <;> rcases hc' with ⟨h5, h6, _⟩ | ⟨h5, h6, _⟩ <;> omega
    · intro q k1 y hy hl h1
      obtain ⟨q0, y0, hy0, hl0, hb, hc⟩ := get' q y hy hl
      rw [hb] at h1
      exact hr.core.sep q0 k1 y0 hy0 hl0 h1
    · intro q k1 y hy hl h1
      obtain ⟨q0, y0, hy0, hl0, hb, hc⟩ := get' q y hy hl
      rw [hb] at h1
      exact hr.core.mine q0 k1 y0 hy0 hl0 h1
    · rw [hget t]
      rw [hgd t, hholds] at hh
      exact D.move_rel hle hnew (hr.tm t hh)
    · rw [hgd t, hholds] at hh
      exact hr.un t hh
  · cases hm
end
end Go.Dl

namespace Go.Dl
set_option linter.unusedVariables false
set_option linter.unusedSimpArgs false
set_option linter.unusedSectionVars false
abbrev Err := List (Int × Int)
def errS (e : Err) : Bool := !e.isEmpty
def errN (t : TypeId) : Err → Nat → C
  | [], _ => .bot
  | [x], j => ([.val (.int .i64 x.1), .val (.int .i64 x.2), .val .nilIface] : List C).getD j .bot
  | x :: y :: r, j => ([.val (.int .i64 x.1), .val (.int .i64 x.2), .iface true t (.eptr 3 (errN t (y :: r)) 0)] : List C).getD j .bot
def errC' (t : TypeId) (e : Err) : C := .iface (errS e) t (.eptr 3 (errN t e) 0)
theorem errC_nil' {t : TypeId} : CLe (.val .nilIface) (errC' t []) := by
  intro S β v hv
  show if false = true then _ else v = .nilIface
  rw [if_neg (by simp)]
  exact hv
end Go.Dl

namespace Go.Dl
set_option linter.unusedVariables false
set_option linter.unusedSimpArgs false
set_option linter.unusedSectionVars false
variable [WInv]
section
variable {P : Program} {n : Nat} {A T R : Type} {go : T → St} {ab : A → Ex × St} {st st' : St} {m : Option (A ⊕ T)} {cs : List Code}
def selfInfo (P : Program) (n : Nat) (o : Oper) (st : St) : Option (Nat × TypeId × List C) :=
  match opInfo n o st, o.op with
  | some d, .alloc t => (match (P.info? t).bind (·.zero) with
    | some z => (match (cst z).cells with
      | some (.val (.pointer none) :: l) => bif l.all C.good then some (d, t, l) else none
      | _ => none)
    | none => none)
  | some d, .box t x => (match ((st.see []).lv x).cells with
    | some (.val (.pointer none) :: l) => bif l.all C.good then some (d, t, l) else none
    | _ => none)
  | _, _ => none
theorem self_core {Γ : Ctx} {S : Mem} {β : Bmap} {w : World} {xs : List Obj} (hc : Core Γ S β w xs) {l : List C} {v : Value} (t : TypeId) (hl : LRel S β (.val (.pointer none) :: l) v.cells.toList)
    (h1 : ∀ u ∈ v.cells.toList, u.oneCell' = true) :
    ∃ β', BLe β β' ∧ Core Γ S β' (w.alloc (.cells v.cells t)) (xs ++ [.cells (.self t false xs.length :: l)]) ∧ CRel S β' (.ptr xs.length 0 0) (.pointer (some ⟨w.heap.size, 0, none⟩)) := by
  let k : Bk := ⟨w.heap.size, t, l.length + 1, 1, 1⟩
  have hle : BLe β (bset β xs.length (some k)) := BLe.bset (hc.out _ (Nat.le_refl _))
  obtain ⟨u, r, hu, hp, hr⟩ := hl
  obtain rfl : u = .pointer none := hp
  have hv : v.cells = (Value.pointer none :: r).toArray := by rw [← hu]
  have := hc.push (.cells v.cells t) (.cells (.self t false xs.length :: l)) (some k) (w' := w.alloc (.cells v.cells t)) (.inr ⟨⟨k, rfl, rfl⟩, rfl⟩)
    ⟨k, bset_same _ _ _, rfl, rfl, rfl, .pointer none :: r, by rw [← hv]; exact heap_alloc_new w _, ⟨_, _, rfl, ⟨k, bset_same _ _ _, rfl, rfl⟩, LRel.up (MLe.refl _) hle hr⟩, by rw [← hu]; exact h1⟩
  exact ⟨_, this.2, this.1, k, bset_same _ _ _, Nat.zero_lt_one, Nat.succ_pos _, by simp [k]⟩
theorem RefR.allocSelf (k k' : Nat) {ops : Array Oper} {l : List Oper} {d : Nat} {t : TypeId} {cl : List C} (hk : (Nat.blt k l.length && Nat.beq k' (k + 1)) = true) (hi : selfInfo P n (opAt l k) st = some (d, t, cl))
    (h : RefR P n ops (l.drop k') cs (st.put (some d) (.c (.ptr st.objs.length 0 0)) (st.objs ++ [.cells (.self t false st.objs.length :: cl)]) []) m go ab) : RefR P n ops (l.drop k) cs st m go ab := by
  have box : ∀ (w : World) (v : Value), (Instr.box t v).run P w = .ok (.pointer (some ⟨w.heap.size, 0, none⟩)) (w.alloc (.cells v.cells t)) := by
    intro w v; simp [Instr.box, newVar, newRow]
  unfold selfInfo at hi
  split at hi
  · rename_i d' t' ho hop
    cases hz : (P.info? t').bind (·.zero) with
    | none => rw [hz] at hi; cases hi
    | some z =>
      rw [hz] at hi
      simp only at hi
      split at hi
      · rename_i l' hcl
        obtain ⟨hg, hi⟩ := some_of_cond hi
        simp only [Option.some.injEq, Prod.mk.injEq] at hi
        obtain ⟨rfl, rfl, rfl⟩ := hi
        refine RefR.opN k k' hk ho (fun Γ S β a w hr => ?_) h
        obtain ⟨hl, h1⟩ := cells_rel (S := S) (β := β) (cst_rel z) hcl (by simp [C.good, Value.oneCell', hg])
        obtain ⟨β', hle, hco, hp⟩ := self_core hr.core t' hl h1
        refine ⟨_, _, S, β', ?_, hp, MLe.refl _, hle, hco⟩
        unfold execOp
        rw [hop]
        simp only
        have hinfo : ∃ i, P.info? t' = some i := by
          cases hq : P.info? t' with
          | none => rw [hq] at hz; cases hz
          | some i => exact ⟨i, rfl⟩
        obtain ⟨i, hinf⟩ := hinfo
        have hzr : (zeroValue t').run P w = .ok z w := by
          unfold zeroValue
          rw [hinf, Option.bind_some] at hz
          rw [Sem.run_bind, run_typeInfo' hinf, Result.andThen_ok, hz]
          rfl
        have : (Instr.alloc t' true (.tuple #[])).run P w = .ok (.pointer (some ⟨w.heap.size, 0, none⟩)) (w.alloc (.cells z.cells t')) := by
          rw [← box w z]
          unfold Instr.alloc Instr.box
          rw [Sem.run_bind, hzr, Result.andThen_ok]
        rw [Sem.run_bind, this]
        rfl
      · cases hi
  · rename_i d' t' x ho hop
    split at hi
    · rename_i l' hcl
      obtain ⟨hg, hi⟩ := some_of_cond hi
      simp only [Option.some.injEq, Prod.mk.injEq] at hi
      obtain ⟨rfl, rfl, rfl⟩ := hi
      refine RefR.opN k k' hk ho (fun Γ S β a w hr => ?_) h
      have hx := see_rel hr (g := []) (fun q hq => by cases hq) x
      obtain ⟨hl, h1⟩ := cells_rel hx hcl (by simp [C.good, Value.oneCell', hg])
      obtain ⟨β', hle, hco, hp⟩ := self_core hr.core t' hl h1
      refine ⟨_, _, S, β', ?_, hp, MLe.refl _, hle, hco⟩
      unfold execOp
      rw [hop]
      simp only
      rw [Sem.run_bind, box w (a.eval x)]
      rfl
    · cases hi
  · cases hi
theorem cells_at {Γ : Ctx} {S : Mem} {β : Bmap} {w : World} {T : TypeId} {b : Bool} {l : List C} {ys : List Obj} {v : Value} (hc : Core Γ S β w (.cells (.self T b 0 :: l) :: ys)) (hv : DRel S β (.c (.ptr 0 0 0)) v) :
    ∃ k p r, β 0 = some (some k) ∧ k.e = T ∧ v = .pointer (some ⟨k.b, 0, none⟩) ∧ w.heap[k.b]? = some (.cells (p :: r).toArray T (0, 0)) ∧ p = (if b = true then .pointer (some ⟨k.b, 0, none⟩) else .pointer none) ∧
      LRel S β l r ∧ k.w = l.length + 1 ∧ k.n = 1 ∧ k.cap = 1 ∧ (∀ u ∈ p :: r, u.oneCell' = true) := by
  obtain ⟨k, hk, _, _, rfl⟩ := hv
  obtain ⟨k', hk', hw, hn, hcap, us, hh, hus, h1⟩ := hc.objs 0 _ rfl
  rw [hk] at hk'; simp only [Option.some.injEq] at hk'; subst hk'
  obtain ⟨p, r, rfl, ⟨k2, hk2, he, hp⟩, hr⟩ := hus
  rw [hk] at hk2; simp only [Option.some.injEq] at hk2; subst hk2
  rw [he] at hh
  exact ⟨k, p, r, hk, he, by simp, hh, hp, hr, by simpa using hw, hn, hcap, h1⟩
theorem DFun.copyCheck {f : FuncId} {T : TypeId} (b : Bool) (l : List C) (ys : List Obj) {mr : Option R} {out : R → List Obj} (hout : ∀ r, mr = some r → out r = .cells (.self T true 0 :: l) :: ys)
    (hused : ∀ (b : Nat) (w : World), w.cell? ⟨b, 0, none⟩ = some (.pointer (some ⟨b, 0, none⟩)) → Calls P f #[.pointer (some ⟨b, 0, none⟩)] w fun e w' => e = .returned (.tuple #[]) ∧ w' = w)
    (hfresh : ∀ (b : Nat) (w : World), w.cell? ⟨b, 0, none⟩ = some (.pointer none) → w.shape? b = some (T, l.length + 1) → w.frozen? ⟨b, 0, none⟩ = false →
      Calls P f #[.pointer (some ⟨b, 0, none⟩)] w fun e w' => e = .returned (.tuple #[]) ∧ w' = w.setCell ⟨b, 0, none⟩ (.pointer (some ⟨b, 0, none⟩))) :
    DFun P f [.c (.ptr 0 0 0)] (.cells (.self T b 0 :: l) :: ys) mr (fun _ => .tup []) out := by
  intro S β w vs hc hv r hr
  obtain ⟨v, r0, rfl, hv, rfl⟩ := hv
  obtain ⟨k, p, us, hk, he, rfl, hh, hp, hl, hw, hn, hcap, h1⟩ := cells_at hc hv
  have hcell : w.cell? ⟨k.b, 0, none⟩ = some p := by rw [cell_of_heap hh]; rfl
  cases b with
  | true =>
    rw [if_pos rfl] at hp
    subst hp
    refine (hused k.b w hcell).mono fun e w' ⟨he, hw'⟩ => ⟨_, S, β, he, ⟨[], rfl, rfl⟩, fun _ _ _ h => h, ?_⟩
    subst hw'
    rw [hout r hr]
    exact hc
  | false =>
    rw [if_neg (by simp)] at hp
    subst hp
    have hlen := hl.length
    have hsh : w.shape? k.b = some (T, l.length + 1) := by simp [World.shape?, hh, hlen]
    have hfz : w.frozen? ⟨k.b, 0, none⟩ = false := by simp [World.frozen?, hh]
    refine (hfresh k.b w hcell hsh hfz).mono fun e w' ⟨hee, hw'⟩ => ⟨_, S, β, hee, ⟨[], rfl, rfl⟩, fun _ _ _ h => h, ?_⟩
    subst hw'
    rw [hout r hr]
    have hlt : k.b < w.heap.size := (hc.mine 0 k _ rfl rfl hk).1
    have hnew : (w.setCell ⟨k.b, 0, none⟩ (.pointer (some ⟨k.b, 0, none⟩))).heap[k.b]? = some (.cells (.pointer (some ⟨k.b, 0, none⟩) :: us).toArray T (0, 0)) := by
      simp [World.setCell, Array.getElem?_modify, hh]
    exact hc.write 0 (.cells (.self T false 0 :: l)) (.cells (.self T true 0 :: l)) k rfl rfl hk rfl rfl rfl (by simp [World.setCell]) (fun c hne => by simp [World.setCell, Array.getElem?_modify, Ne.symm hne])
      ⟨k, hk, hw, hn, hcap, _, by rw [he]; exact hnew, ⟨_, _, rfl, ⟨k, hk, he, by simp⟩, hl⟩, fun u hu => by
        rcases List.mem_cons.1 hu with rfl | hu
        · rfl
        · exact h1 u (List.mem_cons_of_mem _ hu)⟩
structure ButB (g : Nat) (w w' : World) : Prop where
  os : w'.os = w.os
  tape : w'.tape = w.tape
  output : w'.output = w.output
  size : w.heap.size ≤ w'.heap.size
  block : ∀ c, c < w.heap.size → c ≠ g → w'.heap[c]? = w.heap[c]?
theorem DFun.builderStr {f : FuncId} {T e : TypeId} (b : Bool) (s : Bytes) (l : List C) {mr : Option R} {res : R → D} {out : R → List Obj} (hres : ∀ r, mr = some r → res r = .c (.str s)) (hout : ∀ r, out r = [.dead, .dead])
    (hsome : ∀ (b g cap : Nat) (cs cur : Array Value) (w : World), w.heap[b]? = some (.cells cs T (0, 0)) → cs[1]? = some (.slice (some ⟨g, 0, none⟩) s.length cap) → w.heap[g]? = some (.cells cur e (0, 0)) → s.length ≤ cap → cap ≤ maxLen → cur.size = cap →
      (∀ (j : Nat) (x : UInt8), s[j]? = some x → cur[j]? = some (Value.int .u8 x.toNat)) → b < w.heap.size → Calls P f #[.pointer (some ⟨b, 0, none⟩)] w fun e w' => e = .returned (.string ⟨s.toArray⟩) ∧ ButB g w w')
    (hnil : s = [] → ∀ (b : Nat) (cs : Array Value) (w : World), w.heap[b]? = some (.cells cs T (0, 0)) → cs[1]? = some (.slice none 0 0) → Calls P f #[.pointer (some ⟨b, 0, none⟩)] w fun e w' => e = .returned (.string ⟨s.toArray⟩) ∧ ButB b w w') :
    DFun P f [.c (.ptr 0 0 0)] [.cells (.self T b 0 :: .own 1 s.length :: l), .row e 1 s.length (bAt s)] mr res out := by
  intro S β w vs hc hv r hr
  obtain ⟨v, r0, rfl, hv, rfl⟩ := hv
  obtain ⟨k, p, us, hk, he, rfl, hh, hp, hl, hw, hn, hcap, h1⟩ := cells_at hc hv
  obtain ⟨q, us', rfl, hq, hl'⟩ := hl
  have hc1 : (p :: q :: us').toArray[1]? = some q := by simp
  have hlt : k.b < w.heap.size := (hc.mine 0 k _ rfl rfl hk).1
  have hlen : s.length ≤ maxLen := by
    rcases hc.objs 1 _ rfl with ⟨_, h2⟩ | ⟨k1, _, _, _, h4, h5, h6, _⟩
    · rw [h2]; exact Nat.zero_le _
    · omega
  have fin : ∀ g, (g = k.b ∨ ∃ k1, β 1 = some (some k1) ∧ k1.b = g) → ∀ w', ButB g w w' →
      ∃ v S' β', Ending.returned (Value.string ⟨s.toArray⟩) = .returned v ∧ DRel S' β' (res r) v ∧ (∀ o k, o < [Obj.cells (.self T b 0 :: .own 1 s.length :: l), .row e 1 s.length (bAt s)].length → β o = some k → β' o = some k) ∧
        Core ⟨S, w, Mof β [.cells (.self T b 0 :: .own 1 s.length :: l), .row e 1 s.length (bAt s)], β⟩ S' β' w' (out r) := by
    intro g hg w' hbut
    have hMg : Mof β [.cells (.self T b 0 :: .own 1 s.length :: l), .row e 1 s.length (bAt s)] g := by
      rcases hg with rfl | ⟨k1, hk1, rfl⟩
      · exact ⟨0, k, _, rfl, rfl, hk, rfl⟩
      · exact ⟨1, k1, _, rfl, rfl, hk1, rfl⟩
    refine ⟨_, S, β, rfl, by rw [hres r hr]; exact ⟨rfl, hlen⟩, fun _ _ _ h => h, ?_⟩
    rw [hout]
    have hsep : ∀ i, S g i = none := by
      rcases hg with rfl | ⟨k1, hk1, rfl⟩
      · exact hc.sep 0 k _ rfl rfl hk
      · exact hc.sep 1 k1 _ rfl rfl hk1
    refine ⟨⟨hbut.os, hbut.tape, hbut.output, hbut.size, fun c hcl hM => hbut.block c hcl (fun e => hM (e ▸ hMg)), fun _ _ _ _ => rfl, MLe.refl _, hc.frame.glob, hc.frame.inv⟩, ?_, ?_, ?_, ?_, ?_, ?_⟩
    · refine hc.holds.keep fun c ⟨i, hi⟩ => hbut.block c (hc.holds.lt hi) fun e => ?_
      rw [e, hsep i] at hi; cases hi
    · intro o x hx
      match o with
      | 0 => simp only [List.getElem?_cons_zero, Option.some.injEq] at hx; subst hx; trivial
      | 1 => simp only [List.getElem?_cons_succ, List.getElem?_cons_zero, Option.some.injEq] at hx; subst hx; trivial
      | o + 2 => simp at hx
    · intro o ho; exact hc.out o (by simpa using ho)
    · intro o o' k k' x x' hx hx' hlv
      have : x = .dead := by
        match o with
        | 0 => simpa using hx.symm
        | 1 => simpa using hx.symm
        | o + 2 => simp at hx
      subst this; cases hlv
    · intro o k x hx hlv
      have : x = .dead := by
        match o with
        | 0 => simpa using hx.symm
        | 1 => simpa using hx.symm
        | o + 2 => simp at hx
      subst this; cases hlv
    · intro o k x hx hlv
      have : x = .dead := by
        match o with
        | 0 => simpa using hx.symm
        | 1 => simpa using hx.symm
        | o + 2 => simp at hx
      subst this; cases hlv
  rcases hc.objs 1 _ rfl with ⟨h1n, h2⟩ | ⟨k1, hk1, e1, e2, e3, e4, e5, cur, hh1, hcs, hcell⟩
  · have hs : s = [] := List.length_eq_zero_iff.1 h2
    simp only [CRel, h1n] at hq
    obtain ⟨_, rfl⟩ := hq
    exact (hnil hs k.b _ w hh hc1).mono fun e w' ⟨hee, hb⟩ => by subst hee; exact fin k.b (.inl rfl) w' hb
  · simp only [CRel, hk1] at hq
    obtain ⟨_, _, rfl⟩ := hq
    refine (hsome k.b k1.b k1.cap _ cur w hh hc1 hh1 e4 e5 (by rw [hcs, Nat.mul_one]) (fun j x hx => ?_) hlt).mono fun e w' ⟨hee, hb⟩ => by subst hee; exact fin k1.b (.inr ⟨k1, hk1, rfl⟩) w' hb
    have hj : j < s.length := (List.getElem?_eq_some_iff.1 hx).1
    obtain ⟨u, hu, _, hr1⟩ := hcell j 0 hj (by omega)
    rw [Nat.mul_one, Nat.add_zero] at hu
    rw [hu, bAt_rel hr1]
    simp [List.getD, hx]
end
end Go.Dl

namespace Go.Dl
set_option linter.unusedVariables false
set_option linter.unusedSimpArgs false
set_option linter.unusedSectionVars false
variable [WInv]
section
variable {P : Program} {α R : Type}
def mnew (S : Mem) (b : Nat) (l : List Value) : Mem := fun b' i => if b' = b then l[i]? else S b' i
theorem DFun.fresh {f : FuncId} {args : List D} {mr : Option R} {lst : R → List α} {E : El α} {ty : TypeId} (val : α → Value) (hw : E.w = 1)
    (hval : ∀ r, mr = some r → ∀ x ∈ lst r, (val x).oneCell' = true ∧ ∀ S, CRel S noB ((E.cs x).getD 0 .bot) (val x))
    (h : ∀ S β w vs, WInv.I w → VRel S β args vs → ∀ r, mr = some r → (lst r).length ≤ maxLen ∧ Calls P f vs.toArray w fun e w' =>
      e = .returned (.slice (some ⟨w.heap.size, 0, none⟩) (lst r).length (lst r).length) ∧ w' = w.alloc (.cells ((lst r).map val).toArray ty)) :
    DFun P f args [] mr (fun r => .c (E.tree (lst r))) (fun _ => []) := by
  intro S β w vs hc hv r hr
  obtain ⟨hlen, hcall⟩ := h S β w vs hc.inv hv r hr
  refine hcall.mono fun e w' ⟨he, hw'⟩ => ?_
  subst hw'
  have hnone : ∀ i, S w.heap.size i = none := by
    intro i
    cases hs : S w.heap.size i with
    | none => rfl
    | some v =>
      have := hc.holds.lt (b := w.heap.size) (i := i) (by simp [hs])
      omega
  have hle : MLe S (mnew S w.heap.size ((lst r).map val)) := by
    intro b i v hv
    unfold mnew
    by_cases hb : b = w.heap.size
    · subst hb; rw [hnone] at hv; cases hv
    · rw [if_neg hb]; exact hv
  have hold : ∀ b, b < w.heap.size → (w.alloc (.cells ((lst r).map val).toArray ty)).heap[b]? = w.heap[b]? := fun b hb => heap_alloc_old w _ b hb
  have hnew : (w.alloc (.cells ((lst r).map val).toArray ty)).heap[w.heap.size]? = some (.cells ((lst r).map val).toArray ty (0, 0)) := heap_alloc_new w _
  refine ⟨_, mnew S w.heap.size ((lst r).map val), β, he, ?_, fun o k ho _ => by simp at ho, ?_⟩
  · refine ⟨some ⟨w.heap.size, 0, none⟩, (lst r).length, rfl, Nat.le_refl _, hlen, ?_⟩
    rcases Nat.eq_zero_or_pos (lst r).length with h0 | h0
    · exact .inl h0
    · refine .inr ⟨w.heap.size, 0, rfl, fun i j hi hj => ?_⟩
      rw [hw] at hj ⊢
      obtain rfl : j = 0 := by omega
      refine ⟨val (lst r)[i], ?_, ?_⟩
      · unfold mnew
        rw [if_pos rfl]
        simp [List.getElem?_eq_getElem hi]
      · unfold El.at
        have : (lst r).getD i E.d = (lst r)[i] := by simp [List.getD, List.getElem?_eq_getElem hi]
        rw [this]
        exact (hval r hr _ (List.getElem_mem hi)).2 _
  · refine ⟨⟨rfl, rfl, rfl, by simp, fun b hb _ => hold b hb, fun b i hb _ => ?_, hle, hc.frame.glob, hc.frame.inv⟩, ?_, fun o x hx => by simp at hx, hc.out, fun o o' k k' x x' hx => by simp at hx, fun o k x hx => by simp at hx, fun o k x hx => by simp at hx⟩
    · unfold mnew
      have : b < w.heap.size := hb
      rw [if_neg (by omega)]
    · intro b i v hv
      unfold mnew at hv
      by_cases hb : b = w.heap.size
      · subst hb
        rw [if_pos rfl] at hv
        refine ⟨by rw [cell_of_heap hnew, List.getElem?_toArray]; exact hv, ?_⟩
        rw [List.getElem?_map] at hv
        cases hx : (lst r)[i]? with
        | none => rw [hx] at hv; cases hv
        | some x =>
          rw [hx] at hv
          simp only [Option.map_some, Option.some.injEq] at hv
          subst hv
          exact (hval r hr x (List.mem_of_getElem? hx)).1
      · rw [if_neg hb] at hv
        obtain ⟨h1, h2⟩ := hc.holds b i v hv
        refine ⟨?_, h2⟩
        have hlt := hc.holds.lt (b := b) (i := i) (by simp [hv])
        have : (w.alloc (.cells ((lst r).map val).toArray ty)).cell? ⟨b, i, none⟩ = w.cell? ⟨b, i, none⟩ := World.cell?_of_block (w := w) (hold b hlt)
        rw [this]; exact h1
end
end Go.Dl

namespace Go.Dl
set_option linter.unusedVariables false
set_option linter.unusedSimpArgs false
set_option linter.unusedSectionVars false
variable [WInv]
section
variable {P : Program} {R : Type}
theorem DFun.of_callsH {f : FuncId} {args : List D} {mr : Option R} {res : R → D}
    (h : ∀ S β w vs, WInv.I w → Holds S w → VRel S β args vs → ∀ r, mr = some r → Calls P f vs.toArray w fun e w' => ∃ v, e = .returned v ∧ DRel S β (res r) v ∧ Up w w') : DFun P f args [] mr res (fun _ => []) := by
  intro S β w vs hc hv r hr
  refine (h S β w vs hc.inv hc.holds hv r hr).mono fun e w' ⟨v, he, hd, hu⟩ => ⟨v, S, β, he, hd, fun o k ho _ => by simp at ho, hc.newer hu.os hu.tape hu.output hu.size hu.block⟩
end
end Go.Dl

namespace Go.Dl
set_option linter.unusedVariables false
set_option linter.unusedSimpArgs false
set_option linter.unusedSectionVars false
variable [WInv]
section
variable {P : Program} {n : Nat} {A T R : Type} {go : T → St} {ab : A → Ex × St} {st st' : St} {m : Option (A ⊕ T)} {cs : List Code}
theorem RefR.assumeC {ops : Array Oper} {l : List Oper} {b : Bool} {stf : Bool → St} (h0 : stf b = st) (h : RefR P n ops l cs (stf true) m go ab) : RefR P n ops l cs st (chk [b] m) go ab := by
  intro Γ S β a w hr x hx
  obtain ⟨hv, hm⟩ := chk_some hx
  have hb : b = true := hv b (List.mem_cons_self ..)
  subst hb
  rw [← h0] at hr
  exact h Γ S β a w hr x hm
def gdHold (st : St) : Bool := st.gd.all fun p => p.2.all fun q => match st.get q.1 with
  | .c (.val (.bool b)) => b == q.2
  | _ => false
theorem lookup_mem : ∀ (l : List (Nat × List (Nat × Bool))) (t : Nat), lookupT [] l t = [] ∨ ∃ g, (t, g) ∈ l ∧ lookupT [] l t = g
  | [], t => .inl rfl
  | (i, g) :: r, t => by
    unfold lookupT
    cases hb : Nat.beq i t with
    | true =>
      obtain rfl := Nat.eq_of_beq_eq_true hb
      exact .inr ⟨g, List.mem_cons_self .., rfl⟩
    | false =>
      rw [cond_false]
      rcases lookup_mem r t with h | ⟨g', h1, h2⟩
      · exact .inl h
      · exact .inr ⟨g', List.mem_cons_of_mem _ h1, h2⟩
theorem gdHold_holds {st : St} (h : gdHold st = true) (t : Nat) : st.holds (st.gof t) := by
  unfold St.gof
  rcases lookup_mem st.gd t with h1 | ⟨g, h1, h2⟩
  · rw [h1]; intro q hq; cases hq
  · rw [h2]
    intro q hq
    unfold gdHold at h
    have h3 := List.all_eq_true.1 (List.all_eq_true.1 h _ h1) q hq
    split at h3
    · rename_i b hb
      have : b = q.2 := by simpa using h3
      rw [hb, this]
    · cases h3
theorem Conv.clear (h : gdHold st = true) : Conv n st ⟨st.tmps, st.objs, [], st.h⟩ := by
  intro Γ S β a w hr
  exact ⟨S, β, hr.core, fun t _ => hr.tm t (gdHold_holds h t), fun t hn => absurd (fun q hq => by cases hq) hn, hr.size, hr.defers, hr.hand⟩
def Oper.free (o : Oper) : Oper := { o with guard := none }
def guardHolds (ops : Array Oper) (o : Oper) (st : St) : Bool :=
  match o.guard with
  | none => false
  | some (j, want) =>
    (match (ops[j]?).bind (·.dst) with
    | some t =>
      (match st.gof t, st.get t with
      | [], .c (.val (.bool b)) => b == want
      | _, _ => false)
    | none => false)
theorem RefR.unguard (k : Nat) {ops : Array Oper} {l : List Oper} (hk : Nat.blt k l.length = true) (hi : guardHolds ops (opAt l k) st = true)
    (h : RefR P n ops ((l.set k (Oper.free (opAt l k))).drop k) cs st m go ab) : RefR P n ops (l.drop k) cs st m go ab := by
  have hlt : k < l.length := by simpa [Nat.blt_eq] using hk
  have hset : (l.set k (Oper.free (opAt l k))).drop k = Oper.free (opAt l k) :: l.drop (k + 1) := by
    rw [List.drop_eq_getElem_cons (by simpa using hlt), List.getElem_set_self, List.drop_set_of_lt (by omega)]
  rw [hset] at h
  rw [drop_opAt hk]
  intro Γ S β a w hr x hx
  have h1 := h Γ S β a w hr x hx
  have hw : Region.wanted (opAt l k) (yielded ops a.tmps) = true := by
    unfold guardHolds at hi
    split at hi
    · cases hi
    · rename_i j want hgd
      split at hi
      · rename_i t ht
        split at hi
        · rename_i b hg hb
          have hbw : b = want := by simpa using hi
          subst hbw
          have hd := hr.tm t (by unfold St.holds; rw [hg]; intro q hq; cases hq)
          rw [hb] at hd
          have hv : a.tmps.getD t undef = .bool b := hd
          have hsome : a.tmps[t]? = some (.bool b) := by
            rw [Array.getD_eq_getD_getElem?] at hv
            cases hq : a.tmps[t]? with
            | none => rw [hq] at hv; cases hv
            | some u => rw [hq] at hv; simp only [Option.getD_some] at hv; rw [hv]
          have hy : yielded ops a.tmps j = some b := by
            unfold yielded
            rw [ht]
            show (match a.tmps[t]? with | some (.bool b) => some b | _ => none) = some b
            rw [hsome]
          simp only [Region.wanted, hgd, hy]
          simp
        · cases hi
      · cases hi
  simp only [wpList] at h1 ⊢
  rw [hw, if_pos rfl]
  have hw' : Region.wanted (Oper.free (opAt l k)) (yielded ops a.tmps) = true := rfl
  rw [hw', if_pos rfl] at h1
  exact h1
end
end Go.Dl

namespace Go.Dl
set_option linter.unusedVariables false
set_option linter.unusedSimpArgs false
variable [WInv] {α : Type}
omit [WInv] in theorem NT_at (E : El α) (ct : α → List C) (h : ∀ x, ct x = E.cs x) (l : List α) {i : Nat} (hi : i < l.length) (j : Nat) : tbl (l.map ct) i j = E.at l i j := by
  unfold tbl El.at
  have : (l.map ct).getD i [] = E.cs (l.getD i E.d) := by
    simp [List.getD, List.getElem?_map, List.getElem?_eq_getElem hi, h]
  rw [this]
theorem NT_le (E : El α) (ct : α → List C) (h : ∀ x, ct x = E.cs x) (l : List α) : CLe (.tree E.w l.length (tbl (l.map ct))) (E.tree l) :=
  CLe.tree rfl fun i j hi _ => by rw [NT_at E ct h l hi]; exact CLe.refl _
theorem NT_ge (E : El α) (ct : α → List C) (h : ∀ x, ct x = E.cs x) (l : List α) : CLe (E.tree l) (.tree E.w l.length (tbl (l.map ct))) :=
  CLe.tree rfl fun i j hi _ => by rw [NT_at E ct h l hi]; exact CLe.refl _
omit [WInv] in theorem NTT_at (Q : El (List α)) (nt : List α → C) (l : List (List α)) {i : Nat} (hi : i < l.length) : tbl (l.map fun b => [nt b]) i 0 = nt (l.getD i Q.d) := by
  unfold tbl
  simp [List.getD, List.getElem?_map, List.getElem?_eq_getElem hi]
end Go.Dl

namespace Go.Dl
set_option linter.unusedVariables false
set_option linter.unusedSimpArgs false
set_option linter.unusedSectionVars false
variable [WInv]
open Go.RowKit
section
variable {P : Program} {n : Nat} {ops : Array Oper} {W : Nat → Bool} {A T : Type} {go : T → St} {ab : A → Ex × St} {st st' : St} {m : Option (A ⊕ T)} {cs : List Code}
def makesOp : Op → Bool
  | .buildSlice _ _ _ => true
  | _ => false
theorem up_alloc0 (w : World) (o : Go.Obj) : Up w (w.alloc o) := (Below.refl _ _).alloc (Nat.le_refl _) o
def Still (P : Program) {X : Type} (s : Sem X) : Prop := ∀ w a w', s.run P w = .ok a w' → w' = w
theorem still_underlying (t : TypeId) : Still P (underlying t) := by
  intro w a w' h
  cases hu : P.underlying t with
  | none => simp [underlying, hu] at h
  | some d => rw [run_underlying hu] at h; cases h; rfl
theorem still_typeInfo (t : TypeId) : Still P (typeInfo t) := by
  intro w a w' h
  cases hu : P.info? t with
  | none => simp [typeInfo, hu] at h
  | some d => simp [typeInfo, hu] at h; exact h.2.symm
theorem still_sizeOf (t : TypeId) : Still P (sizeOf t) := by
  intro w a w' h
  unfold sizeOf at h
  rw [Sem.run_bind] at h
  cases hr : (typeInfo t).run P w with
  | halt x y => rw [hr] at h; cases h
  | ok i w1 =>
    rw [hr] at h
    obtain rfl := still_typeInfo t w _ _ hr
    cases h; rfl
theorem still_zeroValue (t : TypeId) : Still P (zeroValue t) := by
  intro w a w' h
  unfold zeroValue at h
  rw [Sem.run_bind] at h
  cases hr : (typeInfo t).run P w with
  | halt x y => rw [hr] at h; cases h
  | ok i w1 =>
    rw [hr] at h
    obtain rfl := still_typeInfo t w _ _ hr
    simp only [Result.andThen_ok] at h
    split at h
    · cases h; rfl
    · cases h
theorem up_newRow {e : TypeId} {cs : Array Value} {w w' : World} {a : Addr} (h : (newRow e cs).run P w = .ok a w') : Up w w' := by
  simp [newRow] at h
  rw [← h.2]
  exact up_alloc0 _ _
def Mk (P : Program) {X : Type} (s : Sem X) : Prop := ∀ w a w', s.run P w = .ok a w' → Up w w'
theorem Mk.bind {X Y : Type} {s : Sem X} {f : X → Sem Y} (h : Mk P s) (hf : ∀ x, Mk P (f x)) : Mk P (s >>= f) := by
  intro w a w' hr
  rw [Sem.run_bind] at hr
  cases h1 : s.run P w with
  | halt x y => rw [h1] at hr; cases hr
  | ok x w1 => rw [h1] at hr; exact (h w x w1 h1).trans (hf x w1 a w' hr)
theorem Mk.pure {X : Type} (x : X) : Mk P (Pure.pure x : Sem X) := by
  intro w a w' h
  cases h; exact Up.refl _
theorem Mk.still {X : Type} {s : Sem X} (h : Still P s) : Mk P s := fun w a w' hr => by rw [h w a w' hr]; exact Up.refl _
theorem Mk.stuck {X : Type} (m : String) : Mk P (Go.stuck m : Sem X) := fun w a w' h => by cases h
theorem Mk.unsupported {X : Type} (m : Unsupported) : Mk P (Go.unsupported m : Sem X) := fun w a w' h => by cases h
theorem mk_buildSlice (t : TypeId) (len : Nat) (parts : Array (Nat × Value)) : Mk P (Instr.buildSlice t len parts) := by
  unfold Instr.buildSlice
  refine Mk.bind (Mk.still (still_underlying t)) fun td => ?_
  split
  · refine Mk.bind (Mk.still (still_sizeOf _)) fun sz => ?_
    have fin : ∀ (e : TypeId) (z : Array Value), Mk P (match Instr.fill (fun i => some (i * sz, sz)) (Array.map (fun x => z[x % z.size]!) (Array.range (len * sz))) parts.toList with
        | some cells => do
          let a ← newRow e cells
          Pure.pure (Value.slice (some a) len len)
        | _ => Go.stuck "buildSlice: a part of the wrong size" : Sem Value) := by
      intro e z
      split
      · exact Mk.bind (fun w a w' h => up_newRow h) fun a => Mk.pure _
      · exact Mk.stuck _
    dsimp only
    split
    · exact Mk.bind (Mk.unsupported _) fun x => by
        split
        · exact Mk.bind (Mk.pure _) fun z => fin _ z
        · exact Mk.bind (Mk.still (still_zeroValue _)) fun z => Mk.bind (Mk.pure _) fun z => fin _ z
    · split
      · exact Mk.bind (Mk.pure _) fun z => fin _ z
      · exact Mk.bind (Mk.still (still_zeroValue _)) fun z => Mk.bind (Mk.pure _) fun z => fin _ z
  · exact Mk.stuck _
theorem up_makes {o : Oper} {ρ : Operand → Value} {w w' : World} {x : Next} (hm : makesOp o.op = true) (h : (execOp ρ o).run P w = .ok x w') : Up w w' ∧ ∃ v, x = .value v := by
  unfold makesOp at hm
  split at hm
  · rename_i t len parts hop
    unfold execOp at h
    rw [hop] at h
    dsimp only at h
    rw [Sem.run_bind] at h
    cases hr : (Instr.buildSlice t len (parts.map fun (i, x) => (i, ρ x))).run P w with
    | halt a b => rw [hr] at h; cases h
    | ok a w1 =>
      rw [hr] at h
      have := mk_buildSlice _ _ _ _ _ _ hr
      cases h
      exact ⟨this, _, rfl⟩
  · cases hm
theorem RefX.madeC (j : Nat) (keep om : List Nat) {fuel fuel' : Nat} {listed : Array Bool} {vs : List Bool} {st' : St} (hfu : fuel = 1 + fuel')
    (hf : (decide (Region.ready .any ops listed = [j]) && (!W j && (ops[j]?).elim false fun o => makesOp o.op)) = true) (he : run1 P n ops (opsOf ops [j]) st keep om = some (vs, st'))
    (h : RefX P n ops W fuel' (listed.setIfInBounds j true) cs st' m go ab) : RefX P n ops W fuel listed cs st (chk vs m) go ab := by
  intro Γ S β a w hr x hx
  obtain ⟨hvs, hm⟩ := chk_some hx
  simp only [Bool.and_eq_true, decide_eq_true_eq, Bool.not_eq_true'] at hf
  obtain ⟨hrd, hWj, hmk⟩ := hf
  cases ho : ops[j]? with
  | none => rw [ho] at hmk; cases hmk
  | some o =>
    rw [ho] at hmk
    have hmk : makesOp o.op = true := hmk
    have hops : opsOf ops [j] = [o] := by simp [opsOf, ho]
    rw [hops] at he
    subst hfu
    rw [Nat.add_comm]
    unfold run1 at he
    split at he
    · rename_i vs2 st2 h2
      cases hk : st2.keep keep om with
      | none => rw [hk] at he; cases he
      | some st3 =>
        rw [hk] at he
        simp only [Option.map_some, Option.some.injEq, Prod.mk.injEq] at he
        obtain ⟨rfl, rfl⟩ := he
        unfold evOps at h2
        split at h2
        · rename_i v st1 h1
          simp only [evOps] at h2
          simp only [Option.some.injEq, Prod.mk.injEq] at h2
          obtain ⟨rfl, rfl⟩ := h2
          have hv1 : ∀ b ∈ v, b = true := fun b hb => hvs b (by simpa using hb)
          refine ⟨fun h0 => (by rw [h0] at hrd; cases hrd), fun i hi => ?_⟩
          rw [hrd] at hi
          obtain rfl : i = j := by simpa using hi
          unfold xOp
          rw [hWj, cond_false]
          unfold xOp0
          simp only [ho]
          rcases evStep_cases hr h1 hv1 with ⟨hw, u, w', S', β', hrun, hrr, _⟩ | ⟨hw, hrr⟩
          · simp only [hw, if_true]
            unfold xop
            rcases hrun with hrun | ⟨hrun, _⟩
            · rw [hrun]
              have hup := (up_makes hmk hrun).1
              exact ⟨hup, fun w'' hw'' => h Γ S' (bren β' om) _ w'' (keep_sound (hrr.up hw'') hk) x hm⟩
            · obtain ⟨_, v, hv⟩ := up_makes hmk hrun
              cases hv
          · simp only [hw, Bool.false_eq_true, if_false]
            exact fun w' hw' => h Γ S (bren β om) _ w' (keep_sound (hrr.up hw') hk) x hm
        · cases h2
    · cases he
theorem RefX.madeC0 (j : Nat) (keep om : List Nat) {fuel fuel' : Nat} {listed : Array Bool} {st' : St} (hfu : fuel = 1 + fuel')
    (hf : (decide (Region.ready .any ops listed = [j]) && (!W j && (ops[j]?).elim false fun o => makesOp o.op)) = true) (he : run1 P n ops (opsOf ops [j]) st keep om = some ([], st'))
    (h : RefX P n ops W fuel' (listed.setIfInBounds j true) cs st' m go ab) : RefX P n ops W fuel listed cs st m go ab :=
  fun Γ S β a w hr x hx => RefX.madeC (vs := []) j keep om hfu hf he h Γ S β a w hr x hx
end
end Go.Dl

namespace Go.Dl
end Go.Dl

set_option linter.unusedVariables false
set_option linter.unusedSimpArgs false
set_option linter.unusedSectionVars false
namespace Go.Dl
variable [WInv]
abbrev sI (k : Nat) (x : Int) : Nat × D := (k, .c (.val (.int .i64 x)))
abbrev sB (k : Nat) (x : Bool) : Nat × D := (k, .c (.val (.bool x)))
abbrev sS (k : Nat) (x : Bytes) : Nat × D := (k, .c (.str x))
abbrev sP (k a b c : Nat) : Nat × D := (k, .c (.ptr a b c))
section
variable {P : Program} {n : Nat} {A T : Type} {go : T → St} {ab : A → Ex × St} {st st' : St} {m : Option (A ⊕ T)} {cs : List Code} {c : Code}
theorem Ref.sq (hr : Ref P n (cd c [0] :: cd c [1] :: cs) st m go ab) (h : c = .seq (cd c [0]) (cd c [1]) := by kernel_rfl) : Ref P n (c :: cs) st m go ab := Ref.seqC _ _ h hr
theorem Ref.sk (hr : Ref P n cs st m go ab) (h : c = .skip := by kernel_rfl) : Ref P n (c :: cs) st m go ab := Ref.skipC h hr
theorem Ref.rn (id : Nat) (hr : RefR P n (rg c) ((rg c).toList.drop 0) cs st m go ab) (h : c = .region id (rg c) false := by kernel_rfl) : Ref P n (c :: cs) st m go ab := Ref.regionC id h hr
theorem Ref.cn (x : Operand) (b : Bool) {m1 m2 : Option (A ⊕ T)} (h1 : b = true → Ref P n (cd c [0] :: cs) st m1 go ab) (h2 : b = false → Ref P n (cd c [1] :: cs) st m2 go ab) (h : c = .cond x (cd c [0]) (cd c [1]) := by kernel_rfl) (hb : (st.gd.isEmpty && true) = true := by rfl) (hl : st.lv x = .c (.val (.bool b)) := by kernel_rfl) : Ref P n (c :: cs) st (if b = true then m1 else m2) go ab := Ref.condC x b h hb hl h1 h2
theorem Ref.rt {t : A} (h : c = .ret := by kernel_rfl) (hab : ab t = (.ret, st) := by kernel_rfl) : Ref P n (c :: cs) st (some (.inl t)) go ab := Ref.retC h hab
theorem Ref.xt (id : Nat) {t : A} (h : c = .exit id := by kernel_rfl) (hab : ab t = (.exit id, st) := by kernel_rfl) : Ref P n (c :: cs) st (some (.inl t)) go ab := Ref.exitC id h hab
theorem Ref.n0 {t : T} (h : go t = st := by kernel_rfl) : Ref P n [] st (some (.inr t)) go ab := Ref.nil h
theorem RefR.nl (k : Nat) {ops : Array Oper} {l : List Oper} (h : Ref P n cs st m go ab) (hk : Nat.ble l.length k = true := by kernel_rfl) : RefR P n ops (l.drop k) cs st m go ab := RefR.nilC k hk h
theorem RefR.e0 (k j k' : Nat) (keep om : List Nat) {ops : Array Oper} {l : List Oper} (h : RefR P n ops (l.drop k') cs st' m go ab) (hk : k' = k + j := by rfl) (he : run1 P n ops ((l.drop k).take j) st keep om = some ([], st') := by kernel_rfl) : RefR P n ops (l.drop k) cs st m go ab := RefR.ev0 k j k' keep om hk he h
end
end Go.Dl

namespace Go.Dl
set_option linter.unusedVariables false
set_option linter.unusedSimpArgs false
set_option linter.unusedSectionVars false
variable [WInv]
open Go.RowKit
section
variable {P : Program} {n : Nat} {ops : Array Oper} {W : Nat → Bool} {A T : Type} {go : T → St} {ab : A → Ex × St} {st st' : St} {m : Option (A ⊕ T)} {cs : List Code}
def isNilConst : Operand → Bool
  | .const (.slice none 0 0) => true
  | _ => false
def addsOp : Op → Bool
  | .buildSlice _ _ _ => true
  | .alloc _ => true
  | .call c => (match c.callee, c.args.toList with
    | .builtin .append, [x, _] => isNilConst x
    | _, _ => false)
  | _ => false
theorem mk_alloc (t : TypeId) (v : Value) : Mk P (Instr.alloc t true v) := by
  unfold Instr.alloc
  refine Mk.bind (Mk.still (still_zeroValue t)) fun z => ?_
  dsimp only
  refine Mk.bind (fun w a w' h => ?_) fun a => Mk.pure _
  exact up_newRow h
theorem up_append_nil {t t' ty : TypeId} {td : TypeDesc} {Γ : Ctx} {S : Mem} {β : Bmap} {w w' : World} {xs xs' : List Obj} {src d' : D} {x v' : Value} {vs : List Bool} (ht' : P.underlying t' = some td) (htd : (∃ u, td = .slice u) ∨ td = .string)
    (ts : Array TypeId) (h0 : ts[0]? = some t) (h1 : ts[1]? = some t') (hc : Core Γ S β w xs) (hx : DRel S β src x) (h : evAppend P t (.c .nil) src xs = some (vs, d', xs')) (hvs : ∀ b ∈ vs, b = true)
    (hr : (Builtin.append_ ts ty #[.slice none 0 0, x]).run P w = .ok v' w') : Up w w' := by
  unfold evAppend at h
  cases ht : P.underlying t with
  | none => simp [ht] at h
  | some tdd =>
    cases tdd with
    | slice e =>
      simp only [ht] at h
      cases hi : P.info? e with
      | none => simp [hi] at h
      | some i =>
        simp only [hi] at h
        cases hz : i.zero with
        | none => simp [hz] at h
        | some z =>
          simp only [hz] at h
          have h2 := some_of_cond h
          clear h
          obtain ⟨hg, h⟩ := h2
          simp only [Bool.and_eq_true, Nat.blt_eq] at hg
          obtain ⟨hzs, hsz, hby⟩ := hg
          have hzs := Nat.eq_of_beq_eq_true hzs
          cases hsr : srcRow P e i.size src xs with
          | none => simp [hsr] at h
          | some p =>
            obtain ⟨m, g2⟩ := p
            simp only [hsr] at h
            obtain ⟨news, hsrc⟩ := srcRow_sound hsz hc hx hsr
            simp only [Option.some.injEq, Prod.mk.injEq] at h
            obtain ⟨rfl, _, _⟩ := h
            have hrm : room (m * i.bytes) = true := hvs _ (by simp)
            have hrm' : (0 + m) * i.bytes ≤ 140737488355328 := by rw [Nat.zero_add]; simpa [room] using hrm
            have hm : 0 + m ≤ 140737488355328 := Nat.le_trans (Nat.le_mul_of_pos_right _ hby) hrm'
            obtain ⟨v2, w2, hr2, _, hgrow, _⟩ := run_append_any (ty := ty) ht ht' htd hi hz hzs (World.ownsRow_nil w 0 e i.size) hsrc (by simp only [maxLen]; omega) hrm' ts h0 h1
            rw [hr] at hr2
            obtain ⟨rfl, rfl⟩ : v' = v2 ∧ w' = w2 := by cases hr2; exact ⟨rfl, rfl⟩
            exact ⟨hgrow.os, hgrow.tape, hgrow.output, hgrow.size, fun b hb => hgrow.block b hb (by simp [Value.ownBlock])⟩
    | _ => simp [ht] at h
theorem up_adds {Γ : Ctx} {S : Mem} {β : Bmap} {a : Act} {w w' : World} {o : Oper} {x : Next} {vs : List Bool} (hm : addsOp o.op = true) (hgd : o.guard = none) (hr : RR Γ S β a w n st) (he : evStep P n ops o st = some (vs, st')) (hvs : ∀ b ∈ vs, b = true)
    (h : (execOp a.eval o).run P w = .ok x w') : Up w w' ∧ ∃ v, x = .value v := by
  unfold addsOp at hm
  split at hm
  · rename_i t len parts hop
    exact up_makes (by rw [hop]; rfl) h
  · rename_i t hop
    unfold execOp at h
    rw [hop] at h
    dsimp only at h
    rw [Sem.run_bind] at h
    cases hq : (Instr.alloc t true (.tuple #[])).run P w with
    | halt a b => rw [hq] at h; cases h
    | ok a w1 =>
      rw [hq] at h
      have := mk_alloc _ _ _ _ _ hq
      cases h
      exact ⟨this, _, rfl⟩
  · rename_i c hop
    obtain ⟨callee, args, tys⟩ := c
    dsimp only at hm
    split at hm
    · rename_i x0 y ha
      have ha' : args = #[x0, y] := by apply Array.ext'; simpa using ha
      subst ha'
      unfold evStep at he
      unfold guardOf at he
      rw [hgd] at he
      dsimp only at he
      obtain ⟨_, he⟩ := some_of_cond he
      split at he
      · rename_i vs' d xs hev
        simp only [Option.some.injEq, Prod.mk.injEq] at he
        obtain ⟨rfl, rfl⟩ := he
        have h0 : st.holds [] := fun q hq => by cases hq
        have hv := see_rel hr h0
        unfold evSee at hev
        rw [hop] at hev
        dsimp only at hev
        obtain ⟨_, hev⟩ := some_of_cond hev
        unfold evOp at hev
        rw [hop] at hev
        dsimp only at hev
        have hnil : x0 = .const (.slice none 0 0) := by
          unfold isNilConst at hm
          split at hm
          · rfl
          · cases hm
        subst hnil
        have harg : ((do let dd ← resolve a.eval ⟨.builtin .append, #[.const (.slice none 0 0), y], tys⟩ o.type; invoke dd.target dd.args) : Sem Next).run P =
            (builtin .append tys o.type (#[Operand.const (.slice none 0 0), y].map fun | .const _ => true | _ => false) (#[Operand.const (.slice none 0 0), y].map a.eval)).run P := rfl
        have hrun : (execOp a.eval o).run P w = ((do let v ← Builtin.append_ tys o.type #[.slice none 0 0, a.eval y]; pure (Next.value v)) : Sem Next).run P w := by
          unfold execOp
          rw [hop]
          dsimp only
          rw [harg, show Array.map a.eval #[Operand.const (.slice none 0 0), y] = #[.slice none 0 0, a.eval y] by simp; rfl]
          rfl
        rw [hrun, Sem.run_bind] at h
        cases hq : (Builtin.append_ tys o.type #[.slice none 0 0, a.eval y]).run P w with
        | halt u v => rw [hq] at h; cases h
        | ok u w1 =>
          rw [hq] at h
          cases h
          refine ⟨?_, _, rfl⟩
          split at hev
          · rename_i heq _ _
            simp at heq
          · rename_i t t' r e1 h2 h3
            simp only [List.cons.injEq, and_true] at h2
            obtain ⟨rfl, rfl⟩ := h2
            have h0 : tys[0]? = some t := by rw [← Array.getElem?_toList, h3]; rfl
            have h1' : tys[1]? = some t' := by rw [← Array.getElem?_toList, h3]; rfl
            split at hev
            · rename_i u hu
              exact up_append_nil hu (.inl ⟨_, rfl⟩) tys h0 h1' (by rw [see_objs]; exact hr.core) (hv y) hev hvs hq
            · rename_i hu
              exact up_append_nil hu (.inr rfl) tys h0 h1' (by rw [see_objs]; exact hr.core) (hv y) hev hvs hq
            · cases hev
          all_goals simp_all
      · cases he
    · cases hm
  · cases hm
def RefXi (P : Program) (n : Nat) (ops : Array Oper) (W : Nat → Bool) {A T : Type} (i fuel : Nat) (listed : Array Bool) (cs : List Code) (st : St) (m : Option (A ⊕ T)) (go : T → St) (ab : A → Ex × St) : Prop :=
  ∀ Γ S β a w, RR Γ S β a w n st → ∀ x, m = some x → xOp P ops W (Exit.then (wpL P cs (Post Γ n go ab x)) (Post Γ n go ab x)) i (xAny P .any ops W (Exit.then (wpL P cs (Post Γ n go ab x)) (Post Γ n go ab x)) fuel (listed.setIfInBounds i true)) a w
theorem RefX.fork {fuel fuel' : Nat} {listed : Array Bool} (l : List Nat) (hl : (Nat.beq fuel (fuel' + 1) && (decide (Region.ready .any ops listed = l) && !l.isEmpty)) = true) (h : ∀ i ∈ l, RefXi P n ops W i fuel' listed cs st m go ab) : RefX P n ops W fuel listed cs st m go ab := by
  intro Γ S β a w hr x hx
  simp only [Bool.and_eq_true, decide_eq_true_eq] at hl
  obtain ⟨hf, hrd, hne⟩ := hl
  have hf := Nat.eq_of_beq_eq_true hf
  subst hf
  refine ⟨fun h0 => ?_, fun i hi => ?_⟩
  · rw [hrd] at h0; subst h0; cases hne
  · rw [hrd] at hi; exact h i hi Γ S β a w hr x hx
theorem RefX.fork1 {fuel fuel' : Nat} {listed : Array Bool} (i : Nat) (hl : (Nat.beq fuel (fuel' + 1) && (decide (Region.ready .any ops listed = [i]) && ![i].isEmpty)) = true) (h : RefXi P n ops W i fuel' listed cs st m go ab) : RefX P n ops W fuel listed cs st m go ab :=
  RefX.fork [i] hl fun j hj => by obtain rfl := List.mem_singleton.1 hj; exact h
theorem RefX.fork2 {fuel fuel' : Nat} {listed : Array Bool} (i j : Nat) (hl : (Nat.beq fuel (fuel' + 1) && (decide (Region.ready .any ops listed = [i, j]) && ![i, j].isEmpty)) = true) (h1 : RefXi P n ops W i fuel' listed cs st m go ab) (h2 : RefXi P n ops W j fuel' listed cs st m go ab) : RefX P n ops W fuel listed cs st m go ab :=
  RefX.fork [i, j] hl fun k hk => by
    rcases List.mem_cons.1 hk with rfl | hk
    · exact h1
    · obtain rfl := List.mem_singleton.1 hk; exact h2
theorem RefXi.adds (j : Nat) (keep om : List Nat) {fuel : Nat} {listed : Array Bool} {vs : List Bool} {st' : St}
    (hf : (!W j && (ops[j]?).elim false fun o => o.guard.isNone && (addsOp o.op || quietOp o.op)) = true) (he : run1 P n ops (opsOf ops [j]) st keep om = some (vs, st'))
    (h : RefX P n ops W fuel (listed.setIfInBounds j true) cs st' m go ab) : RefXi P n ops W j fuel listed cs st (chk vs m) go ab := by
  intro Γ S β a w hr x hx
  obtain ⟨hvs, hm⟩ := chk_some hx
  simp only [Bool.and_eq_true, Bool.not_eq_true'] at hf
  obtain ⟨hWj, hmk⟩ := hf
  cases ho : ops[j]? with
  | none => rw [ho] at hmk; cases hmk
  | some o =>
    rw [ho] at hmk
    have hmk : (o.guard.isNone && (addsOp o.op || quietOp o.op)) = true := hmk
    rw [Bool.and_eq_true] at hmk
    obtain ⟨hgd, hmk⟩ := hmk
    have hgd : o.guard = none := by simpa using hgd
    have hops : opsOf ops [j] = [o] := by simp [opsOf, ho]
    rw [hops] at he
    unfold run1 at he
    split at he
    · rename_i vs2 st2 h2
      cases hk : st2.keep keep om with
      | none => rw [hk] at he; cases he
      | some st3 =>
        rw [hk] at he
        simp only [Option.map_some, Option.some.injEq, Prod.mk.injEq] at he
        obtain ⟨rfl, rfl⟩ := he
        unfold evOps at h2
        split at h2
        · rename_i v st1 h1
          simp only [evOps] at h2
          simp only [Option.some.injEq, Prod.mk.injEq] at h2
          obtain ⟨rfl, rfl⟩ := h2
          have hv1 : ∀ b ∈ v, b = true := fun b hb => hvs b (by simpa using hb)
          unfold xOp
          rw [hWj, cond_false]
          unfold xOp0
          simp only [ho]
          rcases evStep_cases hr h1 hv1 with ⟨hw, u, w', S', β', hrun, hrr, hq⟩ | ⟨hw, hrr⟩
          · simp only [hw, if_true]
            unfold xop
            have hup : ∀ {y : Next}, (execOp a.eval o).run P w = .ok y w' → Up w w' ∧ ∃ v, y = .value v := by
              intro y hy
              rw [Bool.or_eq_true] at hmk
              rcases hmk with hmk | hmk
              · exact up_adds hmk hgd hr h1 hv1 hy
              · obtain ⟨rfl, rfl, rfl, hq2⟩ := hq hmk
                have := hq2 w' (.inr (Up.refl _))
                rw [hy] at this
                cases this
                exact ⟨Up.refl _, _, rfl⟩
            rcases hrun with hrun | ⟨hrun, _⟩
            · rw [hrun]
              exact ⟨(hup hrun).1, fun w'' hw'' => h Γ S' (bren β' om) _ w'' (keep_sound (hrr.up hw'') hk) x hm⟩
            · obtain ⟨_, v, hv⟩ := hup hrun
              cases hv
          · simp only [hw, Bool.false_eq_true, if_false]
            exact fun w' hw' => h Γ S (bren β om) _ w' (keep_sound (hrr.up hw') hk) x hm
        · cases h2
    · cases he
theorem RefXi.writes (j : Nat) (keep om : List Nat) {fuel : Nat} {listed : Array Bool} {vs : List Bool} {st' : St}
    (hf : (W j && (ops[j]?).isSome) = true) (he : run1 P n ops (opsOf ops [j]) st keep om = some (vs, st'))
    (h : RefX P n ops W fuel (listed.setIfInBounds j true) cs st' m go ab) : RefXi P n ops W j fuel listed cs st (chk vs m) go ab := by
  intro Γ S β a w hr x hx
  obtain ⟨hvs, hm⟩ := chk_some hx
  simp only [Bool.and_eq_true] at hf
  obtain ⟨hWj, hso⟩ := hf
  obtain ⟨o, ho⟩ := Option.isSome_iff_exists.1 hso
  have hops : opsOf ops [j] = [o] := by simp [opsOf, ho]
  rw [hops] at he
  unfold run1 at he
  split at he
  · rename_i vs2 st2 h2
    cases hk : st2.keep keep om with
    | none => rw [hk] at he; cases he
    | some st3 =>
      rw [hk] at he
      simp only [Option.map_some, Option.some.injEq, Prod.mk.injEq] at he
      obtain ⟨rfl, rfl⟩ := he
      unfold xOp
      rw [hWj, cond_true]
      unfold wpOp
      rw [ho]
      unfold evOps at h2
      split at h2
      · rename_i v st1 h1
        simp only [evOps] at h2
        simp only [Option.some.injEq, Prod.mk.injEq] at h2
        obtain ⟨rfl, rfl⟩ := h2
        have hv1 : ∀ b ∈ v, b = true := fun b hb => hvs b (by simpa using hb)
        dsimp only
        rcases evStep_cases hr h1 hv1 with ⟨hw, u, w', S', β', hrun, hrr, _⟩ | ⟨hw, hrr⟩
        · simp only [hw, if_true]
          left
          have hrest := h Γ S' (bren β' om) _ w' (keep_sound hrr hk) x hm
          rcases hrun with hrun | ⟨hrun, rfl⟩
          · simp only [Oper.wp, Oper.upon, hrun]
            exact hrest
          · simp only [Oper.wp, Oper.upon, hrun]
            exact hrest
        · simp only [hw, Bool.false_eq_true, if_false]
          exact h Γ S (bren β om) _ w (keep_sound hrr hk) x hm
      · cases h2
  · cases he
theorem RefXi.adds0 (j : Nat) (keep om : List Nat) {fuel : Nat} {listed : Array Bool} {st' : St}
    (hf : (!W j && (ops[j]?).elim false fun o => o.guard.isNone && (addsOp o.op || quietOp o.op)) = true) (he : run1 P n ops (opsOf ops [j]) st keep om = some ([], st'))
    (h : RefX P n ops W fuel (listed.setIfInBounds j true) cs st' m go ab) : RefXi P n ops W j fuel listed cs st m go ab :=
  fun Γ S β a w hr x hx => RefXi.adds (vs := []) j keep om hf he h Γ S β a w hr x hx
theorem RefXi.writes0 (j : Nat) (keep om : List Nat) {fuel : Nat} {listed : Array Bool} {st' : St}
    (hf : (W j && (ops[j]?).isSome) = true) (he : run1 P n ops (opsOf ops [j]) st keep om = some ([], st'))
    (h : RefX P n ops W fuel (listed.setIfInBounds j true) cs st' m go ab) : RefXi P n ops W j fuel listed cs st m go ab :=
  fun Γ S β a w hr x hx => RefXi.writes (vs := []) j keep om hf he h Γ S β a w hr x hx
end
end Go.Dl

set_option linter.unusedVariables false
set_option linter.unusedSimpArgs false
set_option linter.unusedSectionVars false
set_option linter.constructorNameAsVariable false
namespace Go.Dl
open Go.RowKit
variable [WInv]
section
variable {P : Program} {n : Nat} {A T R : Type} {go : T → St} {ab : A → Ex × St} {st st' : St} {m : Option (A ⊕ T)} {cs : List Code}
end
end Go.Dl

namespace Go.Dl
set_option linter.unusedVariables false
set_option linter.unusedSimpArgs false
set_option linter.unusedSectionVars false
variable [WInv]
def El.o {α : Type} (E : El α) (x : α) : Obj := .cells (E.cs x)
theorem DFun.forget {P : Program} {f : FuncId} {R : Type} {args : List D} {m : Option R} {res : R → D} {out : R → List Obj} (h : DFun P f args [] m res out) (hflat : ∀ r, (res r).flat = true) : DFun P f args [] m res (fun _ => []) := by
  intro S β w vs hc hv r hr
  refine (h S β w vs hc hv r hr).mono fun e w' ⟨v, S', β', he, hd, hb, hco⟩ => ?_
  have hnm : ∀ b, ¬ Mof β [] b := by
    rintro b ⟨o, k, x, hx, _⟩
    simp at hx
  exact ⟨v, S, β, he, flatD (hflat r) hd, fun o k ho _ => by simp at ho, hc.newer hco.frame.os hco.frame.tape hco.frame.output hco.frame.size fun b hb => hco.frame.block b hb (hnm b)⟩
section
variable {P : Program} {n : Nat} {A T R : Type} {go : T → St} {ab : A → Ex × St} {st st' : St} {cs : List Code} {m : Option (A ⊕ T)}
theorem wanted_of {Γ : Ctx} {S : Mem} {β : Bmap} {a : Act} {w : World} {ops : Array Oper} {o : Oper} {g : List (Nat × Bool)} (hr : RR Γ S β a w n st) (hg : guardOf ops o st = some g) (hh : st.holds g) :
    Region.wanted o (yielded ops a.tmps) = true := by
  unfold guardOf at hg
  cases hgd : o.guard with
  | none => simp [Region.wanted, hgd]
  | some jw =>
    obtain ⟨j, want⟩ := jw
    rw [hgd] at hg
    dsimp only at hg
    cases htj : (ops[j]?).bind (·.dst) with
    | none => rw [htj] at hg; cases hg
    | some tj =>
      rw [htj] at hg
      simp only [Option.some.injEq] at hg
      subst hg
      have hrel := hr.tm tj (fun q hq => hh q (List.mem_cons_of_mem _ hq))
      have hxw := hh (tj, want) (by simp)
      simp only at hxw
      rw [hxw] at hrel
      have hval : a.tmps.getD tj undef = .bool want := hrel
      have hsome : a.tmps[tj]? = some (.bool want) := by
        rw [Array.getD_eq_getD_getElem?] at hval
        cases hq : a.tmps[tj]? with
        | none => rw [hq] at hval; cases hval
        | some u => rw [hq] at hval; simp only [Option.getD_some] at hval; rw [hval]
      have hyield : yielded ops a.tmps j = some want := by
        unfold yielded
        rw [htj]
        show (match a.tmps[tj]? with | some (.bool b) => some b | _ => none) = some want
        rw [hsome]
      simp only [Region.wanted, hgd, hyield]
      simp
theorem unwanted_of {Γ : Ctx} {S : Mem} {β : Bmap} {a : Act} {w : World} {ops : Array Oper} {o : Oper} {g : List (Nat × Bool)} {b : Bool} (hr : RR Γ S β a w n st) (hg : guardOf ops o st = some g) (hb : guardB st g = some b) (hh : ¬ st.holds g) :
    Region.wanted o (yielded ops a.tmps) = false := by
  unfold guardOf at hg
  cases hgd : o.guard with
  | none =>
    rw [hgd] at hg
    simp only [Option.some.injEq] at hg
    subst hg
    exact absurd (fun q hq => by cases hq) hh
  | some jw =>
    obtain ⟨j, want⟩ := jw
    rw [hgd] at hg
    dsimp only at hg
    cases htj : (ops[j]?).bind (·.dst) with
    | none => rw [htj] at hg; cases hg
    | some tj =>
      rw [htj] at hg
      simp only [Option.some.injEq] at hg
      subst hg
      obtain ⟨x0, hx0⟩ := guardB_head hb
      have hwant : ∀ (yl : Option Bool), yielded ops a.tmps j = yl → Region.wanted o (yielded ops a.tmps) = (yl == some want) := by
        intro yl hy
        simp only [Region.wanted, hgd, hy]
      have hyield : yielded ops a.tmps j = match a.tmps[tj]? with | some (.bool b) => some b | _ => none := by
        unfold yielded
        rw [htj]
        rfl
      by_cases hrr : st.holds (st.gof tj)
      · have hrel := hr.tm tj hrr
        rw [hx0] at hrel
        have hval : a.tmps.getD tj undef = .bool x0 := hrel
        have hsome : a.tmps[tj]? = some (.bool x0) := by
          rw [Array.getD_eq_getD_getElem?] at hval
          cases hq : a.tmps[tj]? with
          | none => rw [hq] at hval; cases hval
          | some u => rw [hq] at hval; simp only [Option.getD_some] at hval; rw [hval]
        rw [hwant (some x0) (by rw [hyield, hsome])]
        have hne : x0 ≠ want := by
          intro e
          subst e
          refine hh fun q hq => ?_
          rcases List.mem_cons.1 hq with rfl | hq
          · exact hx0
          · exact hrr q hq
        simpa using hne
      · have hun := hr.un tj hrr
        have hnone : yielded ops a.tmps j = none := by
          rw [hyield]
          rw [Array.getD_eq_getD_getElem?] at hun
          cases hq : a.tmps[tj]? with
          | none => rfl
          | some u =>
            rw [hq] at hun
            simp only [Option.getD_some] at hun
            rw [hun]; rfl
        rw [hwant none hnone]
        rfl
def litInfo (P : Program) (n : Nat) (ops : Array Oper) (o : Oper) (st : St) : Option (Nat × List (Nat × Bool) × C × List Obj) :=
  match o.op, o.dst, guardOf ops o st with
  | .buildSlice t len parts, some d, some g =>
    (match guardB st g, evBuildSlice P t len parts.toList (st.see g) with
    | some _, some ([], .c (.own k m), xs) =>
      (match xs[k]? with
      | some (.row _ wd _ get) =>
        bif Nat.blt d n && (freeOf st d && g.all (fun q => !Nat.beq q.1 d)) then some (d, g, .tree wd m get, (xs.set k .dead).map (Obj.sub (subRow k wd get))) else none
      | _ => none)
    | _, _ => none)
  | _, _, _ => none
theorem core_dead {Γ : Ctx} {S : Mem} {β : Bmap} {w : World} {xs : List Obj} (h : Core Γ S β w xs) : Core Γ S β w (xs ++ [.dead]) := by
  have old : ∀ {o : Nat} {x : Obj}, (xs ++ [.dead])[o]? = some x → x.live = true → xs[o]? = some x := by
    intro o x hx hl
    by_cases ho : o < xs.length
    · rwa [List.getElem?_append_left ho] at hx
    · rw [List.getElem?_append_right (by omega)] at hx
      cases hq : o - xs.length with
      | zero => rw [hq] at hx; simp at hx; rw [← hx] at hl; cases hl
      | succ q => rw [hq] at hx; simp at hx
  refine ⟨h.frame, h.holds, fun o x hx => ?_, fun o ho => h.out o (by simp at ho; omega), fun o o' k k' x x' hx hx' hl hl' => h.inj o o' k k' x x' (old hx hl) (old hx' hl') hl hl', fun o k x hx hl => h.sep o k x (old hx hl) hl, fun o k x hx hl => h.mine o k x (old hx hl) hl⟩
  cases hl : x.live with
  | true => exact h.objs o x (old hx hl)
  | false => cases x <;> first | trivial | cases hl
theorem RefR.litC (k k' : Nat) {ops : Array Oper} {l : List Oper} {t : Nat} {g : List (Nat × Bool)} {x x' : C} (hle : CLe x x') (hk : (Nat.blt k l.length && Nat.beq k' (k + 1)) = true)
    (hi : litInfo P n ops (opAt l k) st = some (t, g, x, st.objs ++ [.dead])) (h : RefR P n ops (l.drop k') cs (st.put (some t) (.c x') (st.objs ++ [.dead]) g) m go ab) : RefR P n ops (l.drop k) cs st m go ab := by
  rw [Bool.and_eq_true] at hk
  obtain ⟨hk, hk'⟩ := hk
  have hk' := Nat.eq_of_beq_eq_true hk'
  subst hk'
  rw [drop_opAt hk]
  unfold litInfo at hi
  split at hi
  · rename_i ty len parts d g' ho hdst hg
    split at hi
    · rename_i b ko mo xs hb hev
      split at hi
      · rename_i e wd n0 get hx
        obtain ⟨hc, hi⟩ := some_of_cond hi
        simp only [Option.some.injEq, Prod.mk.injEq] at hi
        obtain ⟨rfl, rfl, rfl, hob⟩ := hi
        simp only [Bool.and_eq_true, List.all_eq_true, Nat.blt_eq] at hc
        obtain ⟨htn, hfree, hgt⟩ := hc
        have hgt' : ∀ q ∈ g', q.1 ≠ d := fun q hq e => by
          have := hgt q hq
          rw [e] at this
          simp at this
        intro Γ S β a w hr q hq
        by_cases hh : st.holds g'
        · have hw := wanted_of hr hg hh
          simp only [wpList, hw, if_true]
          left
          obtain ⟨v, w', S1, β1, hrun, hd, hs1, hb1, hco⟩ := evBuildSlice_sound (Γ := Γ) (a := a) (fun y => see_rel hr hh y) (by rw [see_objs]; exact hr.core) hev
          have hrun2 : (execOp a.eval (opAt l k)).run P w = .ok (.value v) w' := by
            unfold execOp
            rw [ho]
            simp only
            rw [Sem.run_bind, hrun]; rfl
          simp only [Oper.wp, Oper.upon, hrun2]
          obtain ⟨S2, hs2, hh2, hown, hch⟩ := freeze_mem hco hx
          have hr1 := hr.put hco hs1 hb1 htn hfree (g := []) (fun q hq => by cases hq) (fun _ => hd) (fun hno => absurd (fun q hq => by cases hq) hno)
          have hr2 := sub_sound (f := subRow ko wd get) hr1 hx rfl hs2 hh2 (fun o' m' v hv => by
              simp only [subRow]
              cases hb : Nat.beq o' ko with
              | true =>
                have := Nat.eq_of_beq_eq_true hb
                subst this
                exact hown m' v hv
              | false => rw [cond_false]; exact CRel.mono hs2 _ _ _ hv) (fun o' i j v hv => CRel.mono hs2 _ _ _ hv)
            (fun o' m' b => by simp only [subRow]; cases Nat.beq o' ko <;> simp) (fun o' i j b => by simp [subRow]) hch
          have hcore : Core Γ S2 β1 w' (st.objs ++ [.dead]) := by
            have := hr2.core
            rw [← hob]
            exact this
          rw [hdst]
          exact h Γ S2 β1 _ w' (hr.put hcore (MLe.trans hs1 hs2) hb1 htn hfree hgt' (fun _ => hle _ _ _ (hown _ _ hd)) (fun hno => absurd hh hno)) q hq
        · have hw := unwanted_of hr hg hb hh
          simp only [wpList, hw, Bool.false_eq_true, if_false]
          rw [hdst]
          exact h Γ S β _ w (hr.put (core_dead hr.core) (MLe.refl _) (BLe.refl _) htn hfree hgt' (fun hy => absurd hy hh) (fun _ => rfl)) q hq
      · cases hi
    · cases hi
  · cases hi
theorem RefR.lit {α : Type} (E : El α) (lst : List α) (k k' : Nat) {ops : Array Oper} {l : List Oper} {t : Nat} {g : List (Nat × Bool)} (hk : (Nat.blt k l.length && Nat.beq k' (k + 1)) = true)
    (hi : litInfo P n ops (opAt l k) st = some (t, g, .tree E.w lst.length (tbl (lst.map E.cs)), st.objs ++ [.dead])) (h : RefR P n ops (l.drop k') cs (st.put (some t) (.c (E.tree lst)) (st.objs ++ [.dead]) g) m go ab) : RefR P n ops (l.drop k) cs st m go ab :=
  RefR.litC k k' (NT_le E E.cs (fun _ => rfl) lst) hk hi h
end
end Go.Dl

namespace Go.Dl
set_option linter.unusedVariables false
set_option linter.unusedSimpArgs false
set_option linter.unusedSectionVars false
variable [WInv]
open Go.RowKit
section
variable {P : Program} {n : Nat} {ops : Array Oper} {W : Nat → Bool} {A T R : Type} {go : T → St} {ab : A → Ex × St} {st st' : St} {cs : List Code}
theorem RefXi.callC (j : Nat) (om : List Nat) {fuel : Nat} {listed : Array Bool} {f : FuncId} {cargs : List D} {t : Nat} {mc : Option R} {res : R → D} {out : R → List Obj} {m : R → Option (A ⊕ T)}
    (hf : (W j && Nat.blt j ops.size) = true) (hi : callInfo P n (opAt ops.toList j) st om = some (f, cargs, t)) (hfun : DFun P f cargs (callObjs st om) mc res out)
    (h : ∀ r, RefX P n ops W fuel (listed.setIfInBounds j true) cs (st.put (some t) ((res r).fwd om st.objs.length) (afterO om (out r) st.objs) []) (m r) go ab) : RefXi P n ops W j fuel listed cs st (mc.bind m) go ab := by
  rw [Bool.and_eq_true, Nat.blt_eq] at hf
  obtain ⟨hWj, hlt0⟩ := hf
  have hat : ops[j]? = some (opAt ops.toList j) := by simp [opAt, List.getD, hlt0]
  unfold callInfo at hi
  split at hi
  · rename_i x args tys t' hgd ho hdst
    split at hi
    · rename_i f' cargs' hcall
      obtain ⟨hc, hi⟩ := some_of_cond hi
      simp only [Option.some.injEq, Prod.mk.injEq] at hi
      obtain ⟨rfl, rfl, rfl⟩ := hi
      simp only [Bool.and_eq_true, List.all_eq_true, Nat.blt_eq] at hc
      obtain ⟨hcb, hnd, hlt, htn, hfree⟩ := hc
      intro Γ S β a w hr q hq
      cases hm : mc with
      | none => rw [hm] at hq; cases hq
      | some r =>
        rw [hm, Option.bind_some] at hq
        unfold xOp
        rw [hWj, cond_true]
        unfold wpOp
        rw [hat]
        simp only [Region.wanted, hgd, if_true]
        left
        unfold callArgs at hcall
        split at hcall
        · rename_i f' k cap hx
          simp only [Option.some.injEq, Prod.mk.injEq] at hcall
          obtain ⟨rfl, hcargs⟩ := hcall
          have hxr := see_rel hr (g := []) (fun q hq => by cases hq) x
          rw [hx] at hxr
          obtain ⟨vs, hxv, hcaps⟩ := caps_rel hxr
          have hrun : (execOp a.eval (opAt ops.toList j)).run P w = .ok (.enter f' (args.map a.eval ++ vs)) w := by
            unfold execOp
            rw [ho]
            simp only [resolve, hxv, Deferred.ofValue, pure_bind, invoke]
            rw [run_callFunc hcb]
            simp
          simp only [Oper.wp, Oper.upon, hrun]
          have hargs : VRel S (bren β om) cargs' (args.map a.eval ++ vs).toList := by
            rw [← hcargs]
            have e : (args.map a.eval ++ vs).toList = args.toList.map a.eval ++ vs.toList := by simp
            rw [e]
            exact (VRel.ren (VRel.map_see hr args.toList)).append (VRel.ren hcaps)
          have hcore := hr.core.ren hnd
          have hcore' : Core ⟨S, w, Mof (bren β om) (callObjs st om), bren β om⟩ S (bren β om) w (callObjs st om) := by
            refine ⟨⟨rfl, rfl, rfl, Nat.le_refl _, fun _ _ _ => rfl, fun _ _ _ _ => rfl, MLe.refl _, hcore.globs, hcore.inv⟩, hcore.holds, hcore.objs, hcore.out, hcore.inj, hcore.sep, fun o k y hy hl hk => ⟨(hcore.mine o k y hy hl hk).1, fun _ => ⟨o, k, y, hy, hl, hk, rfl⟩⟩⟩
          have := hfun S (bren β om) w (args.map a.eval ++ vs).toList hcore' hargs r hm
          have e2 : (args.map a.eval ++ vs).toList.toArray = args.map a.eval ++ vs := by simp
          rw [e2] at this
          refine this.mono fun e w' he => ?_
          obtain ⟨v, S', βc, rfl, hres, hB, hco⟩ := he
          obtain ⟨hnew, hle⟩ := hr.core.after hnd hlt hco (fun o k ho hk => hB o k (by simpa [callObjs] using ho) hk)
          have hres' : DRel S' (bfwd β om st.objs.length βc) ((res r).fwd om st.objs.length) v := D.fwd_rel (fun i => bfwd_at hnd hlt i) hres
          have hput := hr.put hnew hco.frame.le hle htn hfree (g := []) (fun q hq => by cases hq) (fun _ => hres') (fun hno => absurd (fun q hq => by cases hq) hno)
          rw [hdst]
          exact h r Γ S' _ _ w' hput q hq
        · cases hcall
    · cases hi
  · cases hi
theorem RefX.fork3 {fuel fuel' : Nat} {listed : Array Bool} {m : Option (A ⊕ T)} (i j k : Nat) (hl : (Nat.beq fuel (fuel' + 1) && (decide (Region.ready .any ops listed = [i, j, k]) && ![i, j, k].isEmpty)) = true) (h1 : RefXi P n ops W i fuel' listed cs st m go ab) (h2 : RefXi P n ops W j fuel' listed cs st m go ab) (h3 : RefXi P n ops W k fuel' listed cs st m go ab) : RefX P n ops W fuel listed cs st m go ab :=
  RefX.fork [i, j, k] hl fun x hx => by
    rcases List.mem_cons.1 hx with rfl | hx
    · exact h1
    · rcases List.mem_cons.1 hx with rfl | hx
      · exact h2
      · obtain rfl := List.mem_singleton.1 hx; exact h3
theorem RefXi.conv {i fuel : Nat} {listed : Array Bool} {m : Option (A ⊕ T)} (hc : Conv n st st') (h : RefXi P n ops W i fuel listed cs st' m go ab) : RefXi P n ops W i fuel listed cs st m go ab := fun Γ S β a w hr x hx => by
  obtain ⟨S', β', h'⟩ := hc Γ S β a w hr
  exact h Γ S' β' a w h' x hx
theorem RefX.withK1 {X : Type} (stf : X → St) (mf : X → Option (A ⊕ T)) {fuel : Nat} {listed : Array Bool} {m : Option (A ⊕ T)} (h1 : ∀ x, Ref P n cs (stf x) (mf x) go ab)
    (h2 : (∀ x, Ref P n cs (stf x) (mf x) go ab) → RefX P n ops W fuel listed cs st m go ab) : RefX P n ops W fuel listed cs st m go ab := h2 h1
theorem RefX.withK2 {X Y : Type} (stf : X → Y → St) (mf : X → Y → Option (A ⊕ T)) {fuel : Nat} {listed : Array Bool} {m : Option (A ⊕ T)} (h1 : ∀ x y, Ref P n cs (stf x y) (mf x y) go ab)
    (h2 : (∀ x y, Ref P n cs (stf x y) (mf x y) go ab) → RefX P n ops W fuel listed cs st m go ab) : RefX P n ops W fuel listed cs st m go ab := h2 h1
end
end Go.Dl

namespace Go.Dl
set_option linter.unusedVariables false
set_option linter.unusedSimpArgs false
set_option linter.unusedSectionVars false
variable [WInv]
def stepSt (P : Program) (n : Nat) (ops : Array Oper) (l : List Oper) (st : St) (keep om : List Nat) : St := match run1 P n ops l st keep om with
  | some (_, s) => s
  | none => st
def stepOk (P : Program) (n : Nat) (ops : Array Oper) (l : List Oper) (st : St) (keep om : List Nat) : Bool := match run1 P n ops l st keep om with
  | some ([], _) => true
  | _ => false
section
variable {P : Program} {n : Nat} {A T : Type} {go : T → St} {ab : A → Ex × St} {st : St} {cs : List Code} {m : Option (A ⊕ T)}
theorem RefR.e1 (k j k' : Nat) (keep om : List Nat) {ops : Array Oper} {l : List Oper} (h : RefR P n ops (l.drop k') cs (stepSt P n ops ((l.drop k).take j) st keep om) m go ab) (hk : k' = k + j := by rfl)
    (he : stepOk P n ops ((l.drop k).take j) st keep om = true := by kernel_rfl) : RefR P n ops (l.drop k) cs st m go ab := by
  unfold stepOk at he
  unfold stepSt at h
  split at he
  · rename_i s hs
    rw [hs] at h
    exact RefR.ev0 k j k' keep om hk hs h
  · cases he
end
def stepVs (P : Program) (n : Nat) (ops : Array Oper) (l : List Oper) (st : St) (keep om : List Nat) : Option (List Bool) := (run1 P n ops l st keep om).map (·.1)
theorem step_of {P : Program} {n : Nat} {ops : Array Oper} {l : List Oper} {st : St} {keep om : List Nat} {vs : List Bool} (h : stepVs P n ops l st keep om = some vs) : run1 P n ops l st keep om = some (vs, stepSt P n ops l st keep om) := by
  unfold stepVs at h
  unfold stepSt
  cases hr : run1 P n ops l st keep om with
  | none => rw [hr] at h; cases h
  | some x =>
    obtain ⟨v, s⟩ := x
    rw [hr] at h
    simp only [Option.map_some, Option.some.injEq] at h
    subst h
    rfl
section
variable {P : Program} {n : Nat} {ops : Array Oper} {W : Nat → Bool} {A T : Type} {go : T → St} {ab : A → Ex × St} {st : St} {cs : List Code} {m : Option (A ⊕ T)}
theorem RefX.v1 (vs : List Bool) (is keep om : List Nat) {fuel fuel' : Nat} {listed : Array Bool}
    (h : RefX P n ops W fuel' ((firsts .any ops W listed is).getD listed) cs (stepSt P n ops (opsOf ops is) st keep om) m go ab) (hfu : fuel = is.length + fuel' := by rfl)
    (hf : (Region.noSelect ops && (firsts .any ops W listed is).isSome) = true := by kernel_rfl) (he : stepVs P n ops (opsOf ops is) st keep om = some vs := by kernel_rfl) : RefX P n ops W fuel listed cs st (chk vs m) go ab :=
  RefX.evC is keep om hfu hf (step_of he) h
theorem RefX.v0 (is keep om : List Nat) {fuel fuel' : Nat} {listed : Array Bool}
    (h : RefX P n ops W fuel' ((firsts .any ops W listed is).getD listed) cs (stepSt P n ops (opsOf ops is) st keep om) m go ab) (hfu : fuel = is.length + fuel' := by rfl)
    (hf : (Region.noSelect ops && (firsts .any ops W listed is).isSome) = true := by kernel_rfl) (he : stepVs P n ops (opsOf ops is) st keep om = some [] := by kernel_rfl) : RefX P n ops W fuel listed cs st m go ab :=
  RefX.evC0 is keep om hfu hf (step_of he) h
theorem RefXi.a1 (vs : List Bool) (j : Nat) (keep om : List Nat) {fuel : Nat} {listed : Array Bool}
    (h : RefX P n ops W fuel (listed.setIfInBounds j true) cs (stepSt P n ops (opsOf ops [j]) st keep om) m go ab)
    (hf : (!W j && (ops[j]?).elim false fun o => o.guard.isNone && (addsOp o.op || quietOp o.op)) = true := by kernel_rfl) (he : stepVs P n ops (opsOf ops [j]) st keep om = some vs := by kernel_rfl) : RefXi P n ops W j fuel listed cs st (chk vs m) go ab :=
  RefXi.adds j keep om hf (step_of he) h
theorem RefXi.a0 (j : Nat) (keep om : List Nat) {fuel : Nat} {listed : Array Bool}
    (h : RefX P n ops W fuel (listed.setIfInBounds j true) cs (stepSt P n ops (opsOf ops [j]) st keep om) m go ab)
    (hf : (!W j && (ops[j]?).elim false fun o => o.guard.isNone && (addsOp o.op || quietOp o.op)) = true := by kernel_rfl) (he : stepVs P n ops (opsOf ops [j]) st keep om = some [] := by kernel_rfl) : RefXi P n ops W j fuel listed cs st m go ab :=
  RefXi.adds0 j keep om hf (step_of he) h
theorem RefXi.w1 (vs : List Bool) (j : Nat) (keep om : List Nat) {fuel : Nat} {listed : Array Bool}
    (h : RefX P n ops W fuel (listed.setIfInBounds j true) cs (stepSt P n ops (opsOf ops [j]) st keep om) m go ab)
    (hf : (W j && (ops[j]?).isSome) = true := by kernel_rfl) (he : stepVs P n ops (opsOf ops [j]) st keep om = some vs := by kernel_rfl) : RefXi P n ops W j fuel listed cs st (chk vs m) go ab :=
  RefXi.writes j keep om hf (step_of he) h
theorem RefXi.w0 (j : Nat) (keep om : List Nat) {fuel : Nat} {listed : Array Bool}
    (h : RefX P n ops W fuel (listed.setIfInBounds j true) cs (stepSt P n ops (opsOf ops [j]) st keep om) m go ab)
    (hf : (W j && (ops[j]?).isSome) = true := by kernel_rfl) (he : stepVs P n ops (opsOf ops [j]) st keep om = some [] := by kernel_rfl) : RefXi P n ops W j fuel listed cs st m go ab :=
  RefXi.writes0 j keep om hf (step_of he) h
end
end Go.Dl

namespace Go.Dl
set_option linter.unusedVariables false
set_option linter.unusedSimpArgs false
set_option linter.unusedSectionVars false
variable [WInv]
open Go.RowKit
abbrev iC (x : Int) : C := .val (.int .i64 x)
abbrev bC (x : Bool) : C := .val (.bool x)
def St.rm (st : St) (t : Nat) : St := ⟨eraseT t st.tmps, st.objs, st.gd, st.h⟩
def St.rms (st : St) : List (Nat × Nat) → St
  | [] => st
  | p :: u => (st.rms u).rm p.2
def unl (listed : Array Bool) : List (Nat × Nat) → Array Bool
  | [] => listed
  | p :: u => (unl listed u).setIfInBounds p.1 false
def lst (listed : Array Bool) : List (Nat × Nat) → Array Bool
  | [] => listed
  | p :: u => (lst listed u).setIfInBounds p.1 true
def RefXq (us : List (List (Nat × Nat))) (cv : List (Nat × List Bool)) (P : Program) (n : Nat) (ops : Array Oper) (W : Nat → Bool) {A T : Type} (fuel : Nat) (listed : Array Bool) (cs : List Code) (st : St) (m : Option (A ⊕ T)) (go : T → St) (ab : A → Ex × St) : Prop :=
  (∀ p ∈ cv, ∀ b ∈ p.2, b = true) → ∀ u ∈ us, RefX P n ops W (fuel + u.length) (unl listed u) cs (st.rms u) m go ab
def RefXqi (us : List (List (Nat × Nat))) (cv : List (Nat × List Bool)) (P : Program) (n : Nat) (ops : Array Oper) (W : Nat → Bool) {A T : Type} (j fuel : Nat) (listed : Array Bool) (cs : List Code) (st : St) (m : Option (A ⊕ T)) (go : T → St) (ab : A → Ex × St) : Prop :=
  (∀ p ∈ cv, ∀ b ∈ p.2, b = true) → ∀ u ∈ us, RefXi P n ops W j (fuel + u.length) (unl listed u) cs (st.rms u) m go ab
def evs (us : List (List (Nat × Nat))) : List (List (Nat × Nat) × (Nat × Nat)) := us.flatMap fun u => (u.filter fun p => us.contains (u.erase p)).map fun p => (u, p)
def quietQ (ops : Array Oper) (W : Nat → Bool) (us : List (List (Nat × Nat))) : Bool := us.all fun u => u.all fun p => !W p.1 && (ops[p.1]?).elim false fun o => o.guard.isNone && (addsOp o.op || quietOp o.op)
def readyQ (ops : Array Oper) (us bs : List (List (Nat × Nat))) (listed : Array Bool) (l : List Nat) : Bool :=
  (evs us).all (fun q => decide ((unl listed q.1).setIfInBounds q.2.1 true = unl listed (q.1.erase q.2))) && us.all fun u => bs.contains u || (!(Region.ready .any ops (unl listed u)).isEmpty && (Region.ready .any ops (unl listed u)).all fun x => l.any (Nat.beq x) || u.any fun p => Nat.beq x p.1 && us.contains (u.erase p))
section
variable {P : Program} {n : Nat} {ops : Array Oper} {W : Nat → Bool} {A T R : Type} {go : T → St} {ab : A → Ex × St} {st st' st2 : St} {m : Option (A ⊕ T)} {cs : List Code} {j fuel fuel' : Nat} {listed : Array Bool} {us : List (List (Nat × Nat))} {cv : List (Nat × List Bool)}
theorem St.rms_objs : ∀ u : List (Nat × Nat), (st.rms u).objs = st.objs
  | [] => rfl
  | p :: u => St.rms_objs u
theorem St.rms_gd : ∀ u : List (Nat × Nat), (st.rms u).gd = st.gd
  | [] => rfl
  | p :: u => St.rms_gd u
theorem unl_set : ∀ (u : List (Nat × Nat)), u.all (fun p => !Nat.beq p.1 j) = true → (unl listed u).setIfInBounds j true = unl (listed.setIfInBounds j true) u
  | [], _ => rfl
  | p :: u, h => by
    rw [List.all_cons, Bool.and_eq_true] at h
    have hne : p.1 ≠ j := fun e => by have := h.1; rw [e] at this; simp at this
    unfold unl
    rw [← unl_set u h.2, Array.setIfInBounds_comm _ _ hne]
theorem RefXq.core (bs : List (List (Nat × Nat))) (h0 : ∀ u ∈ bs, RefX P n ops W (fuel + u.length) (unl listed u) cs (st.rms u) m go ab) (l : List Nat) (hl : ∀ j ∈ l, ∀ u ∈ us, u ∉ bs → RefXi P n ops W j (fuel + u.length - 1) (unl listed u) cs (st.rms u) m go ab)
    (hz : bs.contains [] = true) (hr : readyQ ops us bs listed l = true) (hq : quietQ ops W us = true) (hcv : ∀ p ∈ cv, ∀ b ∈ p.2, b = true)
    (he : (evs us).map (fun q => run1 P n ops (opsOf ops [q.2.1]) (st.rms q.1) ((st.rms (q.1.erase q.2)).tmps.map Prod.fst) (List.range st.objs.length)) = (evs us).map fun q => some (lookupT [] cv q.2.1, st.rms (q.1.erase q.2))) :
    ∀ (k : Nat), ∀ u ∈ us, u.length ≤ k → RefX P n ops W (fuel + u.length) (unl listed u) cs (st.rms u) m go ab
  | k, [], hu, _ => h0 [] (by simpa using hz)
  | 0, p :: u, hu, hk => absurd hk (by simp)
  | k + 1, p :: u, hu, hk => by
    have hr' := hr
    unfold readyQ at hr
    rw [Bool.and_eq_true, List.all_eq_true, List.all_eq_true] at hr
    obtain ⟨hse, hr⟩ := hr
    by_cases hbs : (p :: u) ∈ bs
    · exact h0 _ hbs
    have h1 := hr _ hu
    have hbs' : bs.contains (p :: u) = false := by simpa using hbs
    simp only [hbs', Bool.false_or, Bool.and_eq_true, Bool.not_eq_true'] at h1
    obtain ⟨hne, h1⟩ := h1
    refine RefX.fork (fuel' := fuel + u.length) (Region.ready .any ops (unl listed (p :: u))) ?_ fun x hx => ?_
    · simp only [Bool.and_eq_true, decide_true, Bool.true_and, hne, Bool.not_false, and_true]
      simp [Nat.add_assoc]
    · rw [List.all_eq_true] at h1
      have h2 := h1 x hx
      rw [Bool.or_eq_true] at h2
      rcases h2 with h2 | h2
      · rw [List.any_eq_true] at h2
        obtain ⟨y, hy, hxy⟩ := h2
        obtain rfl := Nat.eq_of_beq_eq_true hxy
        exact hl x hy _ hu hbs
      · rw [List.any_eq_true] at h2
        obtain ⟨q, hqu, hxq⟩ := h2
        rw [Bool.and_eq_true] at hxq
        have hxq1 := Nat.eq_of_beq_eq_true hxq.1
        subst hxq1
        have hmem : (p :: u).erase q ∈ us := by simpa using hxq.2
        have hev : ((p :: u), q) ∈ evs us := by
          unfold evs
          rw [List.mem_flatMap]
          refine ⟨_, hu, ?_⟩
          rw [List.mem_map]
          exact ⟨q, List.mem_filter.2 ⟨hqu, by simpa using hmem⟩, rfl⟩
        have hst := List.map_inj_left.1 he _ hev
        dsimp only at hst
        have hlen : ((p :: u).erase q).length = u.length := by rw [List.length_erase_of_mem hqu]; simp
        have ih := RefXq.core bs h0 l hl hz hr' hq hcv he k _ hmem (by rw [hlen]; simpa using hk)
        rw [hlen] at ih
        unfold quietQ at hq
        rw [List.all_eq_true] at hq
        have hq1 := hq _ hu
        rw [List.all_eq_true] at hq1
        have hb : ∀ b ∈ lookupT [] cv q.1, b = true := by
          have : ∀ (l : List (Nat × List Bool)), (∀ p ∈ l, ∀ b ∈ p.2, b = true) → ∀ b ∈ lookupT [] l q.1, b = true := by
            intro l
            induction l with
            | nil => intro _ b hb; cases hb
            | cons z r ihh =>
              intro hz b hb
              unfold lookupT at hb
              cases hzq : Nat.beq z.1 q.1 with
              | true => rw [hzq, cond_true] at hb; exact hz z (by simp) b hb
              | false => rw [hzq, cond_false] at hb; exact ihh (fun p hp => hz p (by simp [hp])) b hb
          exact this cv hcv
        have hset : RefX P n ops W (fuel + u.length) ((unl listed (p :: u)).setIfInBounds q.1 true) cs (st.rms ((p :: u).erase q)) m go ab := by
          have hes : (unl listed (p :: u)).setIfInBounds q.1 true = unl listed ((p :: u).erase q) := by
            simpa using hse _ hev
          rw [hes]; exact ih
        have := RefXi.adds (W := W) (cs := cs) (m := m) (go := go) (ab := ab) q.1 _ _ (hq1 _ hqu) hst hset
        intro Γ S β a w hr x hx
        refine this Γ S β a w hr x ?_
        have hall : (lookupT [] cv q.1).all (fun b => b) = true := by
          rw [List.all_eq_true]; exact hb
        have hc : ∀ (l : List Bool), (l.all fun b => b) = true → chk l m = m := by
          intro l
          induction l with
          | nil => intro _; rfl
          | cons v r ih => intro h; rw [List.all_cons, Bool.and_eq_true] at h; unfold chk; rw [if_pos h.1, ih h.2]
        rw [hc _ hall]
        exact hx
theorem RefX.pend (us : List (List (Nat × Nat))) (cv : List (Nat × List Bool)) (u0 : List (Nat × Nat)) (keep om : List Nat) (st' : St) (h : RefXq us cv P n ops W fuel' (lst listed u0) cs st' m go ab)
    (hu : (us.contains u0 && (Nat.beq fuel (fuel' + u0.length) && decide (unl (lst listed u0) u0 = listed))) = true := by kernel_rfl) (hk : st.keep keep om = some (st'.rms u0) := by kernel_rfl) : RefX P n ops W fuel listed cs st (chk (cv.flatMap fun p => p.2) m) go ab := by
  simp only [Bool.and_eq_true, decide_eq_true_eq] at hu
  obtain ⟨h1, h2, h3⟩ := hu
  have h2 := Nat.eq_of_beq_eq_true h2
  intro Γ S β a w hr x hx
  obtain ⟨hvs, hm⟩ := chk_some hx
  have := h (fun p hp b hb => hvs b (List.mem_flatMap.2 ⟨p, hp, hb⟩)) u0 (by simpa using h1)
  rw [h3, ← h2] at this
  exact RefX.conv (Conv.keep keep om hk) this Γ S β a w hr x hm
theorem RefX.pend0 (us : List (List (Nat × Nat))) (u0 : List (Nat × Nat)) (keep om : List Nat) (st' : St) (h : RefXq us [] P n ops W fuel' (lst listed u0) cs st' m go ab)
    (hu : (us.contains u0 && (Nat.beq fuel (fuel' + u0.length) && decide (unl (lst listed u0) u0 = listed))) = true := by kernel_rfl) (hk : st.keep keep om = some (st'.rms u0) := by kernel_rfl) : RefX P n ops W fuel listed cs st m go ab :=
  RefX.pend us [] u0 keep om st' h hu hk
theorem RefXq.less (bs : List (List (Nat × Nat))) (h : RefXq bs cv P n ops W fuel listed cs st m go ab) (hr : (bs.contains [] && (readyQ ops us bs listed [] && quietQ ops W us)) = true := by kernel_rfl)
    (he : (evs us).map (fun q => run1 P n ops (opsOf ops [q.2.1]) (st.rms q.1) ((st.rms (q.1.erase q.2)).tmps.map Prod.fst) (List.range st.objs.length)) = (evs us).map fun q => some (lookupT [] cv q.2.1, st.rms (q.1.erase q.2)) := by kernel_rfl) : RefXq us cv P n ops W fuel listed cs st m go ab := by
  rw [Bool.and_eq_true, Bool.and_eq_true] at hr
  exact fun hcv u hu => RefXq.core bs (h hcv) [] (fun j hj => by cases hj) hr.1 hr.2.1 hr.2.2 hcv he u.length u hu (Nat.le_refl _)
theorem RefXq.close (h : RefX P n ops W fuel listed cs st m go ab) (hr : (readyQ ops us [[]] listed [] && quietQ ops W us) = true := by kernel_rfl)
    (he : (evs us).map (fun q => run1 P n ops (opsOf ops [q.2.1]) (st.rms q.1) ((st.rms (q.1.erase q.2)).tmps.map Prod.fst) (List.range st.objs.length)) = (evs us).map fun q => some (lookupT [] cv q.2.1, st.rms (q.1.erase q.2)) := by kernel_rfl) : RefXq us cv P n ops W fuel listed cs st m go ab := by
  rw [Bool.and_eq_true] at hr
  exact fun hcv u hu => RefXq.core [[]] (fun u hu => by obtain rfl := List.mem_singleton.1 hu; exact h) [] (fun j hj => by cases hj) (by simp) hr.1 hr.2 hcv he u.length u hu (Nat.le_refl _)
theorem RefXq.fork (l : List Nat) (h : ∀ j ∈ l, RefXqi us cv P n ops W j fuel' listed cs st m go ab) (hfu : Nat.beq fuel (fuel' + 1) = true) (hr0 : (decide (Region.ready .any ops listed = l) && !l.isEmpty) = true) (hr : (readyQ ops us [[]] listed l && quietQ ops W us) = true)
    (hn : us.contains [] = true) (he : (evs us).map (fun q => run1 P n ops (opsOf ops [q.2.1]) (st.rms q.1) ((st.rms (q.1.erase q.2)).tmps.map Prod.fst) (List.range st.objs.length)) = (evs us).map fun q => some (lookupT [] cv q.2.1, st.rms (q.1.erase q.2))) : RefXq us cv P n ops W fuel listed cs st m go ab := by
  rw [Bool.and_eq_true] at hr
  obtain rfl := Nat.eq_of_beq_eq_true hfu
  intro hcv
  have h0 : RefX P n ops W (fuel' + 1) listed cs st m go ab := RefX.fork (fuel' := fuel') l (by rw [hr0]; simp) fun j hj => h j hj hcv [] (by simpa using hn)
  refine fun u hu => RefXq.core [[]] (fun u hu => by obtain rfl := List.mem_singleton.1 hu; exact h0) l (fun j hj u hu hne => ?_) (by simp) hr.1 hr.2 hcv he u.length u hu (Nat.le_refl _)
  rw [show fuel' + 1 + u.length - 1 = fuel' + u.length by omega]
  exact h j hj hcv u hu
theorem RefXq.fork1 (j : Nat) (h : RefXqi us cv P n ops W j fuel' listed cs st m go ab) (hfu : Nat.beq fuel (fuel' + 1) = true := by kernel_rfl) (hr0 : (decide (Region.ready .any ops listed = [j]) && ![j].isEmpty) = true := by kernel_rfl) (hr : (readyQ ops us [[]] listed [j] && quietQ ops W us) = true := by kernel_rfl)
    (hn : us.contains [] = true := by kernel_rfl) (he : (evs us).map (fun q => run1 P n ops (opsOf ops [q.2.1]) (st.rms q.1) ((st.rms (q.1.erase q.2)).tmps.map Prod.fst) (List.range st.objs.length)) = (evs us).map fun q => some (lookupT [] cv q.2.1, st.rms (q.1.erase q.2)) := by kernel_rfl) : RefXq us cv P n ops W fuel listed cs st m go ab :=
  RefXq.fork [j] (fun x hx => by obtain rfl := List.mem_singleton.1 hx; exact h) hfu hr0 hr hn he
def keepQ (keep : List Nat) (u : List (Nat × Nat)) : List Nat := keep.filter fun x => u.all fun p => !Nat.beq x p.2
def notQ (us : List (List (Nat × Nat))) (j : Nat) : Bool := us.all fun u => u.all fun p => !Nat.beq p.1 j
theorem notQ_all (h : notQ us j = true) {u : List (Nat × Nat)} (hu : u ∈ us) : u.all (fun p => !Nat.beq p.1 j) = true := by
  unfold notQ at h
  rw [List.all_eq_true] at h
  exact h u hu
theorem RefXqi.adds (j : Nat) (keep om : List Nat) {vs : List Bool} (hf : (!W j && (ops[j]?).elim false fun o => o.guard.isNone && (addsOp o.op || quietOp o.op)) = true) (he : run1 P n ops (opsOf ops [j]) st keep om = some (vs, st'))
    (h : RefXq us cv P n ops W fuel (listed.setIfInBounds j true) cs st' m go ab) (hij : notQ us j = true := by kernel_rfl) (he2 : us.map (fun u => run1 P n ops (opsOf ops [j]) (st.rms u) (keepQ keep u) om) = us.map (fun u => some (vs, st'.rms u)) := by kernel_rfl) : RefXqi us cv P n ops W j fuel listed cs st (chk vs m) go ab := by
  intro hcv u hu
  refine RefXi.adds j (keepQ keep u) om hf (List.map_inj_left.1 he2 u hu) ?_
  rw [unl_set u (notQ_all hij hu)]
  exact h hcv u hu
theorem RefXqi.writes (j : Nat) (keep om : List Nat) {vs : List Bool} (hf : (W j && (ops[j]?).isSome) = true) (he : run1 P n ops (opsOf ops [j]) st keep om = some (vs, st'))
    (h : RefXq us cv P n ops W fuel (listed.setIfInBounds j true) cs st' m go ab) (hij : notQ us j = true := by kernel_rfl) (he2 : us.map (fun u => run1 P n ops (opsOf ops [j]) (st.rms u) (keepQ keep u) om) = us.map (fun u => some (vs, st'.rms u)) := by kernel_rfl) : RefXqi us cv P n ops W j fuel listed cs st (chk vs m) go ab := by
  intro hcv u hu
  refine RefXi.writes j (keepQ keep u) om hf (List.map_inj_left.1 he2 u hu) ?_
  rw [unl_set u (notQ_all hij hu)]
  exact h hcv u hu
theorem RefXqi.adds0 (j : Nat) (keep om : List Nat) (hf : (!W j && (ops[j]?).elim false fun o => o.guard.isNone && (addsOp o.op || quietOp o.op)) = true) (he : run1 P n ops (opsOf ops [j]) st keep om = some ([], st'))
    (h : RefXq us cv P n ops W fuel (listed.setIfInBounds j true) cs st' m go ab) (hij : notQ us j = true := by kernel_rfl) (he2 : us.map (fun u => run1 P n ops (opsOf ops [j]) (st.rms u) (keepQ keep u) om) = us.map (fun u => some ([], st'.rms u)) := by kernel_rfl) : RefXqi us cv P n ops W j fuel listed cs st m go ab :=
  RefXqi.adds (vs := []) j keep om hf he h hij he2
theorem RefXqi.writes0 (j : Nat) (keep om : List Nat) (hf : (W j && (ops[j]?).isSome) = true) (he : run1 P n ops (opsOf ops [j]) st keep om = some ([], st'))
    (h : RefXq us cv P n ops W fuel (listed.setIfInBounds j true) cs st' m go ab) (hij : notQ us j = true := by kernel_rfl) (he2 : us.map (fun u => run1 P n ops (opsOf ops [j]) (st.rms u) (keepQ keep u) om) = us.map (fun u => some ([], st'.rms u)) := by kernel_rfl) : RefXqi us cv P n ops W j fuel listed cs st m go ab :=
  RefXqi.writes (vs := []) j keep om hf he h hij he2
theorem eraseT_comm {α : Type} (a b : Nat) (l : List (Nat × α)) : eraseT a (eraseT b l) = eraseT b (eraseT a l) := by
  unfold eraseT
  rw [List.filter_filter, List.filter_filter]
  congr 1
  funext x
  rw [Bool.and_comm]
theorem eraseT_cons_ne {α : Type} {a b : Nat} (d : α) (l : List (Nat × α)) (h : Nat.beq b a = false) : eraseT a ((b, d) :: l) = (b, d) :: eraseT a l := by
  unfold eraseT
  rw [List.filter_cons_of_pos (by simp [h])]
theorem rms_put {t' : Nat} (d : D) (xs : List Obj) : ∀ (u : List (Nat × Nat)), u.all (fun p => !Nat.beq t' p.2) = true → (st.rms u).put (some t') d xs [] = (st.put (some t') d xs []).rms u
  | [], _ => rfl
  | p :: u, h => by
    rw [List.all_cons, Bool.and_eq_true, Bool.not_eq_true'] at h
    show _ = ((st.put (some t') d xs []).rms u).rm p.2
    rw [← rms_put d xs u h.2]
    show ((st.rms u).rm p.2).put (some t') d xs [] = _
    unfold St.rm St.put
    simp only [eraseT_cons_ne _ _ h.1, eraseT_comm t' p.2]
theorem RefXqi.callC (j : Nat) (om : List Nat) {f : FuncId} {cargs : List D} {t : Nat} {mc : Option R} {res : R → D} {out : R → List Obj} {m : R → Option (A ⊕ T)}
    (hf : (W j && Nat.blt j ops.size) = true) (hi : callInfo P n (opAt ops.toList j) st om = some (f, cargs, t)) (hfun : DFun P f cargs (callObjs st om) mc res out)
    (h : ∀ r, RefXq us cv P n ops W fuel (listed.setIfInBounds j true) cs (st.put (some t) ((res r).fwd om st.objs.length) (afterO om (out r) st.objs) []) (m r) go ab)
    (hij : (notQ us j && us.all fun u => u.all fun p => !Nat.beq t p.2) = true := by kernel_rfl) (hi2 : us.map (fun u => callInfo P n (opAt ops.toList j) (st.rms u) om) = us.map (fun _ => some (f, cargs, t)) := by kernel_rfl) : RefXqi us cv P n ops W j fuel listed cs st (mc.bind m) go ab := by
  rw [Bool.and_eq_true, List.all_eq_true] at hij
  intro hcv u hu
  have ho : callObjs (st.rms u) om = callObjs st om := by unfold callObjs; rw [St.rms_objs]
  refine RefXi.callC j om hf (List.map_inj_left.1 hi2 u hu) (by rw [ho]; exact hfun) fun r => ?_
  rw [unl_set u (notQ_all hij.1 hu), St.rms_objs, rms_put _ _ u (hij.2 u hu)]
  exact h r hcv u hu
def Conv2 (us : List (List (Nat × Nat))) (n : Nat) (st st' : St) : Prop := ∀ u ∈ us, Conv n (st.rms u) (st'.rms u)
theorem Conv2.keep (l om : List Nat) (hk : st.keep l om = some st') (h2 : us.map (fun u => (st.rms u).keep (keepQ l u) om) = us.map (fun u => some (st'.rms u)) := by kernel_rfl) : Conv2 us n st st' := fun u hu => Conv.keep _ om (List.map_inj_left.1 h2 u hu)
theorem Conv2.freeze (o : Nat) (hf : st.freeze o = some st') (h2 : us.map (fun u => (st.rms u).freeze o) = us.map (fun u => some (st'.rms u)) := by kernel_rfl) : Conv2 us n st st' := fun u hu => Conv.freeze o (List.map_inj_left.1 h2 u hu)
theorem rms_setObj (o : Nat) (x : Obj) : ∀ u : List (Nat × Nat), (st.setObj o x).rms u = (st.rms u).setObj o x
  | [] => rfl
  | p :: u => by
    show ((st.setObj o x).rms u).rm p.2 = _
    rw [rms_setObj o x u]
    rfl
theorem Conv2.obj (o : Nat) (x : Obj) (h : OLe (st.objs.getD o .dead) x) (hx : Nat.blt o st.objs.length = true) : Conv2 us n st (st.setObj o x) := fun u hu => by
  rw [rms_setObj]
  exact Conv.obj o x (by rw [St.rms_objs]; exact h) (by rw [St.rms_objs]; exact hx)
theorem rms_setSlot {k : Nat} (d : D) : ∀ (u : List (Nat × Nat)), u.all (fun p => !Nat.beq k p.2) = true → (st.setSlot k d).rms u = (st.rms u).setSlot k d
  | [], _ => rfl
  | p :: u, h => by
    rw [List.all_cons, Bool.and_eq_true, Bool.not_eq_true'] at h
    show ((st.setSlot k d).rms u).rm p.2 = _
    rw [rms_setSlot d u h.2]
    show _ = ((st.rms u).rm p.2).setSlot k d
    unfold St.rm St.setSlot
    simp only [eraseT_cons_ne _ _ h.1, eraseT_comm k p.2]
theorem lookupT_erase {k t : Nat} (h : Nat.beq k t = false) (z : D) : ∀ l : List (Nat × D), lookupT z (eraseT t l) k = lookupT z l k
  | [] => rfl
  | p :: l => by
    cases hp : Nat.beq p.1 t with
    | true =>
      have e : eraseT t (p :: l) = eraseT t l := by unfold eraseT; rw [List.filter_cons_of_neg (by simp [hp])]
      have hne : Nat.beq p.1 k = false := by
        cases hpk : Nat.beq p.1 k with
        | false => rfl
        | true =>
          rw [← Nat.eq_of_beq_eq_true hpk, hp] at h
          cases h
      rw [e, lookupT_erase h z l]
      show _ = bif Nat.beq p.1 k then p.2 else lookupT z l k
      rw [hne]; rfl
    | false =>
      have e : eraseT t (p :: l) = p :: eraseT t l := by unfold eraseT; rw [List.filter_cons_of_pos (by simp [hp])]
      rw [e]
      show (bif Nat.beq p.1 k then p.2 else lookupT z (eraseT t l) k) = bif Nat.beq p.1 k then p.2 else lookupT z l k
      rw [lookupT_erase h z l]
theorem rms_get {k : Nat} : ∀ (u : List (Nat × Nat)), u.all (fun p => !Nat.beq k p.2) = true → (st.rms u).get k = st.get k
  | [], _ => rfl
  | p :: u, h => by
    rw [List.all_cons, Bool.and_eq_true, Bool.not_eq_true'] at h
    show lookupT _ (eraseT p.2 (st.rms u).tmps) k = _
    rw [lookupT_erase h.1]
    exact rms_get u h.2
theorem Conv2.slot (k : Nat) (d : D) (h : DLe (st.get k) d) (hg : st.gd.isEmpty = true) (hk : us.all (fun u => u.all fun p => !Nat.beq k p.2) = true := by kernel_rfl) : Conv2 us n st (st.setSlot k d) := fun u hu => by
  rw [List.all_eq_true] at hk
  rw [rms_setSlot d u (hk u hu)]
  exact Conv.slot k d (by rw [rms_get u (hk u hu)]; exact h) (by rw [St.rms_gd]; exact hg)
theorem RefXq.conv (hc : Conv2 us n st st') (h : RefXq us cv P n ops W fuel listed cs st' m go ab) : RefXq us cv P n ops W fuel listed cs st m go ab := fun hcv u hu => RefX.conv (hc u hu) (h hcv u hu)
theorem RefXqi.conv (hc : Conv2 us n st st') (h : RefXqi us cv P n ops W j fuel listed cs st' m go ab) : RefXqi us cv P n ops W j fuel listed cs st m go ab := fun hcv u hu => RefXi.conv (hc u hu) (h hcv u hu)
end
theorem setSlotG_le {n : Nat} {st : St} (t : Nat) (d : D) (h : DLe (st.get t) d) (hg : st.gd.all (fun x => x.2.all fun p => !Nat.beq p.1 t) = true) : StLe n st (st.setSlot t d) := by
  intro Γ S β a w hr
  have hgo : ∀ t', ∀ p ∈ st.gof t', p.1 ≠ t := by
    intro t' p hp e
    have : ∀ l : List (Nat × List (Nat × Bool)), l.all (fun x => x.2.all fun p => !Nat.beq p.1 t) = true → ∀ p ∈ lookupT [] l t', p.1 ≠ t := by
      intro l
      induction l with
      | nil => intro _ p hp; cases hp
      | cons x l ih =>
        intro hl p hp
        rw [List.all_cons, Bool.and_eq_true] at hl
        obtain ⟨i, g⟩ := x
        simp only [lookupT] at hp
        cases hb : Nat.beq i t' with
        | true =>
          rw [hb] at hp
          have := List.all_eq_true.1 hl.1 p hp
          intro e
          rw [e, Nat.beq_refl] at this
          cases this
        | false => rw [hb] at hp; exact ih hl.2 p hp
    exact this st.gd hg p hp e
  have hho : ∀ t', (st.setSlot t d).holds (st.gof t') ↔ st.holds (st.gof t') := by
    intro t'
    constructor
    · intro hh p hp
      have := hh p hp
      rw [setSlot_get, if_neg (hgo t' p hp)] at this
      exact this
    · intro hh p hp
      rw [setSlot_get, if_neg (hgo t' p hp)]
      exact hh p hp
  refine ⟨hr.core, fun t' hh => ?_, fun t' hn => ?_, hr.size, hr.defers, hr.hand⟩
  · have hx := hr.tm t' ((hho t').1 hh)
    rw [setSlot_get]
    split
    · rename_i e; subst e; exact h _ _ _ hx
    · exact hx
  · exact hr.un t' fun hh => hn ((hho t').2 hh)
theorem Conv.slotG {n : Nat} {st : St} (t : Nat) (d : D) (h : DLe (st.get t) d) (hg : st.gd.all (fun x => x.2.all fun p => !Nat.beq p.1 t) = true) : Conv n st (st.setSlot t d) := Conv.le (setSlotG_le t d h hg)
end Go.Dl

namespace Go.Dl
set_option linter.unusedVariables false
set_option linter.unusedSimpArgs false
set_option linter.unusedSectionVars false
variable [WInv]
section
variable {P : Program} {n : Nat} {ops : Array Oper} {W : Nat → Bool} {A T : Type} {go : T → St} {ab : A → Ex × St} {st : St} {m : Option (A ⊕ T)} {cs : List Code}
end
end Go.Dl

namespace Go.Dl
set_option linter.unusedVariables false
set_option linter.unusedSimpArgs false
set_option linter.unusedSectionVars false
variable [WInv]
section
variable {P : Program} {ops : Array Oper} {W : Nat → Bool} {j t : Nat}
end
section
variable {P : Program} {n : Nat} {ops : Array Oper} {W : Nat → Bool} {A T : Type} {go : T → St} {ab : A → Ex × St} {st : St} {m : Option (A ⊕ T)} {cs : List Code}
end
end Go.Dl

namespace Go.Dl
set_option linter.unusedVariables false
set_option linter.unusedSimpArgs false
set_option linter.unusedSectionVars false
variable [WInv]
section
variable {P : Program} {n : Nat} {A T : Type} {go : T → St} {ab : A → Ex × St} {st st' : St} {m : Option (A ⊕ T)} {cs : List Code} {c : Code}
theorem DFun.it (fn : Func) {f : FuncId} {R : Type} {args : List D} {xs : List Obj} {m : Option (R ⊕ R)} (rs : R → St) {res : R → D} {out : R → List Obj}
    (href : Ref P fn.ntmps [cd (bd fn) []] ⟨numT args 0, xs, [], xs.length⟩ m rs (fun r => (.ret, rs r))) (hf : P.funcs[f]? = some fn := by kernel_rfl) (hb : fn.body = some (cd (bd fn) []) := by kernel_rfl) (hn : Nat.ble args.length fn.ntmps = true := by kernel_rfl)
    (hres : ∀ r, retD P (rs r) fn.results.toList = some (res r) := by intro r; kernel_rfl) (hout : ∀ r, (rs r).objs = out r := by intro r; kernel_rfl) (hgd : ∀ r, (rs r).gd = [] := by intro r; kernel_rfl) (hh : ∀ r, (rs r).h = xs.length := by intro r; kernel_rfl) :
    DFun P f args xs (fnS m) res out := DFun.intro hf hb hn href hres hout hgd hh
theorem Ref.ck (st' : St) (l om : List Nat) (h : Ref P n cs st' m go ab) (hk : st.keep l om = some st' := by kernel_rfl) : Ref P n cs st m go ab := Ref.conv (Conv.keep l om hk) h
theorem RefR.cc (t k k' : Nat) (om : List Nat) {ops : Array Oper} {l : List Oper} {f : FuncId} {cargs : List D} {R : Type} {mc : Option R} {res : R → D} {out : R → List Obj} {m : R → Option (A ⊕ T)} (hfun : DFun P f cargs (callObjs st om) mc res out)
    (h : ∀ r, RefR P n ops (l.drop k') cs (st.put (some t) ((res r).fwd om st.objs.length) (afterO om (out r) st.objs) []) (m r) go ab) (hk : (Nat.blt k l.length && Nat.beq k' (k + 1)) = true := by rfl) (hi : callInfo P n (opAt l k) st om = some (f, cargs, t) := by kernel_rfl) :
    RefR P n ops (l.drop k) cs st (mc.bind m) go ab := RefR.callC k k' om hk hi hfun h
theorem RefR.li {α : Type} (t : Nat) (g : List (Nat × Bool)) (E : El α) (lst : List α) (k k' : Nat) {ops : Array Oper} {l : List Oper} (h : RefR P n ops (l.drop k') cs (st.put (some t) (.c (E.tree lst)) (st.objs ++ [.dead]) g) m go ab)
    (hk : (Nat.blt k l.length && Nat.beq k' (k + 1)) = true := by kernel_rfl) (hi : litInfo P n ops (opAt l k) st = some (t, g, .tree E.w lst.length (tbl (lst.map E.cs)), st.objs ++ [.dead]) := by kernel_rfl) : RefR P n ops (l.drop k) cs st m go ab := RefR.lit E lst k k' hk hi h
theorem Ref.ce (c' : Code) (hr : Ref P n (c' :: cs) st m go ab) (h : c = c' := by kernel_rfl) : Ref P n (c :: cs) st m go ab := Ref.codeEq h hr
theorem Conv.ob (o : Nat) (x : Go.Dl.Obj) (h : OLe (st.objs.getD o .dead) x) (hx : Nat.blt o st.objs.length = true := by kernel_rfl) : Conv n st (st.setObj o x) := Conv.obj o x h hx
theorem Conv.sl (t : Nat) (d : D) (h : DLe (st.get t) d) (hg : st.gd.isEmpty = true := by kernel_rfl) : Conv n st (st.setSlot t d) := Conv.slot t d h hg
end
end Go.Dl
