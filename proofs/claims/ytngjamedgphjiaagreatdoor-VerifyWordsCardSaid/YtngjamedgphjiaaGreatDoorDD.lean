/- From what a row's condition says of an argument to what the framework says of it; from a contract to the call that a row asks for. A world that holds given variables; what a row's condition on its variables says of a world. What a row's condition says of an argument, with a measure of what was read. No conditions. -/
import Derived.Test.YtngjamedgphjiaaGreatDoorDC
import Derived.ChangeArms
import Derived.ChangeFn
import Derived.ChangeShapes
import Derived.RowKitTokens
import Derived.WalkKit
import Derived.ProofKit
import Derived.LaidHandle
import Derived.LaidLaws
import Derived.Lib.LaidTab
set_option linter.unusedVariables false
set_option linter.unusedSimpArgs false
set_option linter.unusedSectionVars false
set_option linter.constructorNameAsVariable false
namespace Go.Dl
open Go.ChangeShapes Go.RowKit
variable [WInv]
def memS (w : World) : Mem := fun b i =>
  match w.cell? ⟨b, i, none⟩ with
  | some v => if v.oneCell' = true then some v else none
  | none => none
theorem memS_some {w : World} {b i : Nat} {v : Value} : memS w b i = some v ↔ w.cell? ⟨b, i, none⟩ = some v ∧ v.oneCell' = true := by
  unfold memS
  cases w.cell? ⟨b, i, none⟩ with
  | none => simp
  | some u =>
    simp only [Option.some.injEq]
    split
    · rename_i h
      simp only [Option.some.injEq]
      exact ⟨fun e => by subst e; exact ⟨rfl, h⟩, fun e => e.1⟩
    · rename_i h
      simp only [reduceCtorEq, false_iff, not_and]
      rintro rfl h2
      exact h h2
theorem memS_holds (w : World) : Holds (memS w) w := fun b i v h => memS_some.1 h
theorem core_row {w : World} (hI : WInv.I w) : Core ⟨memS w, w, Mof noB [], noB⟩ (memS w) noB w [] :=
  ⟨⟨rfl, rfl, rfl, Nat.le_refl _, fun _ _ _ => rfl, fun _ _ _ _ => rfl, fun _ _ _ h => h, fun b hb => by
      obtain ⟨o, k, x, h1, h2⟩ := hb
      simp at h1, hI⟩,
    memS_holds w, fun o x h => by simp at h, fun _ _ => rfl, fun o o' k k' x x' h => by simp at h, fun o k x h => by simp at h, fun o k x h => by simp at h⟩
theorem DFun.callsRow {P : Program} {f : FuncId} {args : List D} {m : Option Bool} (h : DFun P f args [] m (fun r => .c (.val (.bool r))) (fun _ => [])) (hm : m = some true) {w : World} {vs : List Value} (hI : WInv.I w) (hv : VRel (memS w) noB args vs) :
    Calls P f vs.toArray w fun e w' => e = .returned (.bool true) ∧ Below w.heap.size w w' := by
  refine (h _ _ w vs (core_row hI) hv true hm).mono fun e w' ⟨v, S', β', he, hd, _, hc⟩ => ?_
  obtain rfl : v = .bool true := hd
  refine ⟨he, hc.frame.os, hc.frame.tape, hc.frame.output, hc.frame.size, fun b hb => hc.frame.block b hb ?_⟩
  rintro ⟨o, k, x, h1, h2⟩
  simp at h1
section
variable {H : Type} {enc : TypeId × Value → H} {P : Program} {w : World} {sp : Nat → Bool} {held : Bool}
def OpF (enc : TypeId × Value → H) (P : Program) (w : World) (sp : Nat → Bool) (held : Bool) (fuel : Nat) (t : TypeId) {T : Type} (cs : T → List C) (ok : T → Prop) : Prop :=
  ∀ l x, DataW.trod enc P w 0 sp held fuel t l = some x → ∃ y, ok y ∧ LRel (memS w) noB (cs y) l ∧ ∀ v ∈ l, v.oneCell' = true
theorem op_int {fuel : Nat} {t : TypeId} {k : IntKind} (ht : P.underlying t = some (.int k)) : OpF enc P w sp held fuel t (fun n : Int => [.val (.int k n)]) (fun n => k.min ≤ n ∧ n ≤ k.max) := by
  intro l x h
  obtain ⟨n, rfl, rfl, hw⟩ := DataW.trod_int ht h
  refine ⟨n, ?_, ⟨_, _, rfl, rfl, rfl⟩, fun v hv => ?_⟩
  · simpa [Lit.wf] using hw
  · simp only [List.mem_singleton] at hv; subst hv; rfl
theorem op_bool {fuel : Nat} {t : TypeId} (ht : P.underlying t = some .bool) : OpF enc P w sp held fuel t (fun b : Bool => [.val (.bool b)]) (fun _ => True) := by
  intro l x h
  obtain ⟨b, rfl, rfl⟩ := DataW.trod_bool ht h
  refine ⟨b, trivial, ⟨_, _, rfl, rfl, rfl⟩, fun v hv => ?_⟩
  simp only [List.mem_singleton] at hv; subst hv; rfl
theorem op_str {fuel : Nat} {t : TypeId} (ht : P.underlying t = some .string) : OpF enc P w sp held fuel t (fun s : Bytes => [.str s]) (fun s => s.length ≤ maxLen) := by
  intro l x h
  obtain ⟨s, rfl, rfl, hs⟩ := DataW.trod_string ht h
  have hl : s.data.toList.length ≤ maxLen := by
    have : s.data.toList.length = s.size := by rw [Array.length_toList]; rfl
    omega
  refine ⟨s.data.toList, hl, ⟨_, _, rfl, ⟨by cases s; simp, hl⟩, rfl⟩, fun v hv => ?_⟩
  simp only [List.mem_singleton] at hv; subst hv; rfl
theorem LRel_at {S : Mem} {β : Bmap} : ∀ {cs : List C} {vs : List Value}, LRel S β cs vs → ∀ j, j < cs.length → ∃ v, vs[j]? = some v ∧ CRel S β (cs.getD j .bot) v
  | [], vs, _, j, hj => by simp at hj
  | c :: cs, vs, h, j, hj => by
    obtain ⟨v, r, rfl, h1, h2⟩ := h
    cases j with
    | zero => exact ⟨v, rfl, h1⟩
    | succ j => exact LRel_at h2 j (by simpa using hj)
theorem cells_at_spot {w : World} {a : Addr} {n : Nat} {l : List Value} (h : w.cells? 0 a n = some l) : l.length = n ∧ ∀ (j : Nat) (v : Value), l[j]? = some v → w.cell? (a.add j) = some v := by
  unfold World.cells? at h
  rw [if_pos (Nat.zero_le _)] at h
  have key : ∀ (r : List Nat) (l : List Value), r.mapM (fun i => w.cell? (a.add i)) = some l → l.length = r.length ∧ ∀ (j : Nat) (v : Value), l[j]? = some v → ∃ i, r[j]? = some i ∧ w.cell? (a.add i) = some v := by
    intro r
    induction r with
    | nil => intro l h; simp at h; subst h; exact ⟨rfl, fun j v hj => by simp at hj⟩
    | cons i r ih =>
      intro l h
      simp only [List.mapM_cons, Option.bind_eq_bind, Option.bind_eq_some_iff, Option.pure_def, Option.some.injEq] at h
      obtain ⟨v, hv, l', hl', rfl⟩ := h
      obtain ⟨h1, h2⟩ := ih l' hl'
      refine ⟨by simp [h1], fun j u hj => ?_⟩
      cases j with
      | zero => simp at hj; subst hj; exact ⟨i, rfl, hv⟩
      | succ j => exact h2 j u hj
  obtain ⟨h1, h2⟩ := key _ _ h
  refine ⟨by simpa using h1, fun j v hj => ?_⟩
  obtain ⟨i, hi, hv⟩ := h2 j v hj
  have : i = j := by
    rw [List.getElem?_range (by
      have := (List.getElem?_eq_some_iff.1 hj).1
      simp at h1; omega)] at hi
    exact (Option.some.inj hi).symm
  subst this
  exact hv
theorem spot_none {w : World} {a : Addr} {v : Value} (h : w.cell? a = some v) : a.spot = none := by
  unfold World.cell? at h
  split at h
  · split at h
    · cases h
    · rename_i hs; simpa using hs
  · cases h
theorem op_slice {n : Nat} {t e : TypeId} {T : Type} (E : El T) {ok : T → Prop} (ht : P.underlying t = some (.slice e)) (hw : P.cellsOf e = E.w) (hp : 0 < E.w) (hl : ∀ x, (E.cs x).length = E.w)
    (h : OpF enc P w sp held n e E.cs ok) : OpF enc P w sp held (n + 1) t (fun l : List T => [E.tree l]) (fun l => (∀ x ∈ l, ok x) ∧ l.length ≤ maxLen) := by
  intro l x hx
  rcases DataW.trod_slice ht hx with ⟨rfl, _⟩ | ⟨a, len, cap, elems, rest, m, hm, rfl, _, _, hlc, hcm, hel, hat, _⟩
  · refine ⟨[], ⟨fun x hx => (by cases hx), Nat.zero_le _⟩, ⟨_, _, rfl, ⟨none, 0, rfl, Nat.zero_le _, Nat.zero_le _, .inl rfl⟩, rfl⟩, fun v hv => ?_⟩
    simp only [List.mem_singleton] at hv; subst hv; rfl
  · obtain rfl : n = m := by omega
    -- each element
    have hex : ∀ i, i < len → ∃ y : T, ok y ∧ ∃ l, w.cells? 0 (a.add (i * E.w)) E.w = some l ∧ LRel (memS w) noB (E.cs y) l ∧ ∀ v ∈ l, v.oneCell' = true := by
      intro i hi
      have h1 := hat i hi
      rw [List.getElem?_eq_getElem (by omega), Option.bind_eq_some_iff] at h1
      obtain ⟨l, h2, h3⟩ := h1
      rw [hw] at h2
      obtain ⟨y, h4, h5, h6⟩ := h l _ h3
      exact ⟨y, h4, l, h2, h5, h6⟩
    by_cases h0 : len = 0
    · subst h0
      refine ⟨[], ⟨fun x hx => (by cases hx), Nat.zero_le _⟩, ⟨_, _, rfl, ⟨_, _, rfl, hlc, hcm, .inl rfl⟩, rfl⟩, fun v hv => ?_⟩
      simp only [List.mem_singleton] at hv; subst hv; rfl
    · have : ∃ f : Nat → T, ∀ i, i < len → ok (f i) ∧ ∃ l, w.cells? 0 (a.add (i * E.w)) E.w = some l ∧ LRel (memS w) noB (E.cs (f i)) l ∧ ∀ v ∈ l, v.oneCell' = true := by
        refine ⟨fun i => if hi : i < len then (hex i hi).choose else E.d, fun i hi => ?_⟩
        simp only [hi, dite_true]
        exact (hex i hi).choose_spec
      obtain ⟨f, hf⟩ := this
      have hcell : ∀ i j, i < len → j < E.w → ∃ u, w.cell? ((a.add (i * E.w)).add j) = some u ∧ u.oneCell' = true ∧ CRel (memS w) noB ((E.cs (f i)).getD j .bot) u := by
        intro i j hi hj
        obtain ⟨_, l, h1, h2, h3⟩ := hf i hi
        obtain ⟨h4, h5⟩ := cells_at_spot h1
        obtain ⟨u, h6, h7⟩ := LRel_at h2 j (by rw [hl]; exact hj)
        exact ⟨u, h5 j u h6, h3 u (List.mem_of_getElem? h6), h7⟩
      have hsp : a.spot = none := by
        obtain ⟨u, h1, _⟩ := hcell 0 0 (by omega) hp
        have := spot_none h1
        simpa [Addr.add] using this
      obtain ⟨b, off, spot⟩ := a
      simp only at hsp
      subst hsp
      have hadd : ∀ i, (⟨b, off, none⟩ : Addr).add i = ⟨b, off + i, none⟩ := by
        intro i
        unfold Addr.add
        split
        · rename_i h; subst h; rfl
        · rfl
      have hadd2 : ∀ o i, (⟨b, o, none⟩ : Addr).add i = ⟨b, o + i, none⟩ := by
        intro o i
        unfold Addr.add
        split
        · rename_i h; subst h; rfl
        · rfl
      refine ⟨(List.range len).map f, ⟨fun x hx => ?_, by simp; omega⟩, ⟨_, _, rfl, ⟨_, _, ?_, ?_, hcm, .inr ⟨b, off, rfl, fun i j hi hj => ?_⟩⟩, rfl⟩, fun v hv => ?_⟩
      · obtain ⟨i, hi, rfl⟩ := List.mem_map.1 hx
        exact (hf i (List.mem_range.1 hi)).1
      · simp
      · simpa using hlc
      · have hi' : i < len := by simpa using hi
        obtain ⟨u, h1, h2, h3⟩ := hcell i j hi' hj
        rw [hadd, hadd2] at h1
        refine ⟨u, memS_some.2 ⟨h1, h2⟩, ?_⟩
        have : E.at ((List.range len).map f) i j = (E.cs (f i)).getD j .bot := by
          unfold El.at
          congr 2
          simp [List.getD, List.getElem?_map, List.getElem?_range hi']
        rw [this]
        exact h3
      · simp only [List.mem_singleton] at hv; subst hv; rfl
theorem op_fields {fuel : Nat} {t : TypeId} {fs : Array Field} {l : List Value} {x : DataW H × List MemPlace} (ht : P.underlying t = some (.struct fs)) (h : DataW.trod enc P w 0 sp held fuel t l = some x) :
    ∃ n, fuel = n + 1 ∧ l.length = P.cellsOf t ∧ ∀ (i : Nat) (f : Field), fs[i]? = some f → ∃ y, DataW.trod enc P w 0 sp held n f.type ((l.drop f.offset).take (P.cellsOf f.type)) = some y := by
  obtain ⟨xs, n, e, _, hl, hx, hf⟩ := DataW.trod_struct ht h
  refine ⟨n, e, hl, fun i f hi => ?_⟩
  rw [hf i f hi]
  have : i < fs.size := (Array.getElem?_eq_some_iff.1 hi).1
  exact ⟨xs[i]'(by omega), List.getElem?_eq_getElem (by omega)⟩
theorem op_field {n i : Nat} {fs : Array Field} {l : List Value} {f : Field} {ft : TypeId} {off sz : Nat} {T : Type} {cs : T → List C} {ok : T → Prop}
    (hf : ∀ (i : Nat) (f : Field), fs[i]? = some f → ∃ y, DataW.trod enc P w 0 sp held n f.type ((l.drop f.offset).take (P.cellsOf f.type)) = some y)
    (e : fs[i]? = some f) (h1 : f.type = ft) (h2 : f.offset = off) (h3 : P.cellsOf ft = sz) (h : OpF enc P w sp held n ft cs ok) :
    ∃ x, ok x ∧ LRel (memS w) noB (cs x) ((l.drop off).take sz) ∧ ∀ v ∈ (l.drop off).take sz, v.oneCell' = true := by
  obtain ⟨y, hy⟩ := hf i f e
  subst h1; subst h2; subst h3
  exact h _ _ hy
theorem LRel_append {S : Mem} {β : Bmap} : ∀ {a b : List C} {u v : List Value}, LRel S β a u → LRel S β b v → LRel S β (a ++ b) (u ++ v)
  | [], b, u, v, h1, h2 => by
    obtain rfl : u = [] := h1
    exact h2
  | c :: a, b, u, v, h1, h2 => by
    obtain ⟨x, r, rfl, h3, h4⟩ := h1
    exact ⟨x, r ++ v, rfl, h3, LRel_append h4 h2⟩
theorem seg {S : Mem} {β : Bmap} {a b : List C} {l : List Value} {o s : Nat} (h1 : LRel S β a ((l.drop o).take s) ∧ ∀ v ∈ (l.drop o).take s, v.oneCell' = true) (h2 : LRel S β b (l.drop (o + s)) ∧ ∀ v ∈ l.drop (o + s), v.oneCell' = true) :
    LRel S β (a ++ b) (l.drop o) ∧ ∀ v ∈ l.drop o, v.oneCell' = true := by
  have e : l.drop o = (l.drop o).take s ++ l.drop (o + s) := by rw [← List.drop_drop, List.take_append_drop]
  rw [e]
  refine ⟨LRel_append h1.1 h2.1, fun v hv => ?_⟩
  rcases List.mem_append.1 hv with hv | hv
  · exact h1.2 v hv
  · exact h2.2 v hv
theorem seg_nil {S : Mem} {β : Bmap} {l : List Value} {o : Nat} (h : l.length = o) : LRel S β [] (l.drop o) ∧ ∀ v ∈ l.drop o, v.oneCell' = true := by
  rw [List.drop_eq_nil_of_le (by omega)]
  exact ⟨rfl, fun v hv => by cases hv⟩
theorem op_arg {t : TypeId} {T : Type} {c : T → C} {ok : T → Prop} {v : Value} {d : DataW H} {ps : List MemPlace} (h : ∀ n, OpF enc P w sp held n t (fun x => [c x]) ok) (ha : DataW.Trod enc P w 0 sp held t v d ps) (h1 : v.cells.toList = [v]) :
    ∃ x, ok x ∧ DRel (memS w) noB (.c (c x)) v := by
  obtain ⟨fuel, hf⟩ := ha
  obtain ⟨x, h2, ⟨u, r, e, h4, _⟩, _⟩ := h fuel _ _ hf
  rw [h1] at e
  obtain ⟨rfl, _⟩ := List.cons.inj e
  exact ⟨x, h2, h4⟩
theorem op_arg_struct {b : Nat} {r : Reach} {t : TypeId} {fs : Array Field} {T : Type} {cs : T → List C} {ok : T → Prop} {v : Value} {d : DataW H} {ps : List MemPlace} (ht : P.underlying t = some (.struct fs)) (hv : Value.okWide P w r b t v) (h : ∀ n, OpF enc P w sp held n t cs ok) (ha : DataW.Trod enc P w 0 sp held t v d ps) :
    ∃ x, ok x ∧ DRel (memS w) noB (.agg (cs x)) v := by
  obtain ⟨vs, rfl, _⟩ := Go.WideShapes.okWide_struct ht hv
  obtain ⟨fuel, hf⟩ := ha
  obtain ⟨x, h2, h3, _⟩ := h fuel _ _ hf
  exact ⟨x, h2, vs.toList, by simp, h3⟩
end
open Go.WideShapes Go.ChangeAt in
theorem post_of_below {P : Program} {H : Type} {enc : TypeId × Value → H} {f : Func} {s : ChangeSpec} {apart fresh handsOn again : Bool} {W W' : World} {args : Array Value} {v : Value} {ds gs : List (DataW H)} {before pa pv : List MemPlace}
    (hW : DataW.Whole enc P f.params.toList s.vars apart W args.toList ds gs before)
    (hres : ∀ (b : Nat) (sp : Nat → Bool) (hd : Bool), DataW.TrodAll enc P W' b sp hd f.resultTypes.toList (v.resultList f.resultTypes.size) (s.fn H (ds ++ gs)).results [])
    (hargs : ∀ sp : Nat → Bool, (∀ p ∈ before, sp p.block = true) → DataW.TrodAll enc P W' 0 sp true f.params.toList args.toList (s.fn H (ds ++ gs)).args pa)
    (hvars : ∀ sp : Nat → Bool, (∀ p ∈ before, sp p.block = true) → DataW.TrodVars enc P W' sp s.vars (s.fn H (ds ++ gs)).vars pv)
    (hps : before = pa ++ pv) (hb : Below W.heap.size W W')
    (hok : ∀ (j : Nat) (t : TypeId) (r : Value), f.resultTypes[j]? = some t → (v.resultList f.resultTypes.size)[j]? = some r → Value.okWide P W' .any 0 t r) :
    s.post enc P f apart fresh handsOn again W args v W' := by
  have hold : ∀ p ∈ before, (fun b => decide (b < W.heap.size)) p.block = true := fun p hp => by simpa using hW.lt p hp
  have hlt := hW.lt
  refine ⟨ds, gs, before, [], pa, pv, hW, hres _ _ _, hargs _ hold, hvars _ hold, World.keptBut_mono (fun p hp => ⟨hp, ?_⟩) (hb.frame (· ∈ before)), fun _ => ?_⟩
  · rw [hps, List.mem_append] at hp
    exact Or.inr hp
  · obtain ⟨_, _, _, _, _, hz, hn⟩ := hW
    refine ⟨hok, _, _, ([] ++ pa) ++ pv, ⟨[] ++ pa, pv, trodAll_append (hargs _ (fun _ _ => rfl)) (hres _ _ _), hvars _ (fun _ _ => rfl), rfl, ?_, ?_⟩, ?_⟩
    · intro b off hp
      have hp' : MemPlace.cell b off ∈ before := by rw [hps]; simpa using hp
      rw [hb.frozen (p := ⟨b, off, none⟩) (hlt _ hp')]
      exact hz b off hp'
    · intro ha
      have := hn ha
      rw [hps] at this
      simpa using this
    · intro p hp _
      rw [hps]
      simpa using hp
end Go.Dl

namespace Go.Dl
open Go.RowKit
def litC : Lit → Value
  | .bool b => .bool b
  | .int k n => .int k n
  | .string bs => .string ⟨bs.toArray⟩
  | _ => undef
def layD (P : Program) (nm : String → TypeId) : Nat → TypeId → DataW Unit → Array Go.Obj → List Value × Array Go.Obj
  | 0, _, _, h => ([], h)
  | n + 1, t, d, h =>
    let many := fun (ts : List TypeId) (ds : List (DataW Unit)) (h : Array Go.Obj) => (ts.zip ds).foldl (fun (acc : List Value × Array Go.Obj) x => match layD P nm n x.1 x.2 acc.2 with
      | (cs, h') => (acc.1 ++ cs, h')) ([], h)
    match d, P.underlying t with
    | .lit l, _ => ([litC l], h)
    | .nil, some (.slice _) => ([.slice none 0 0], h)
    | .nil, some (.map _ _) => ([.map none], h)
    | .nil, some (.interface _) => ([.nilIface], h)
    | .nil, some (.func _ _ _) => ([.nilFunc], h)
    | .nil, _ => ([.pointer none], h)
    | .ptr d, some (.pointer e) => (match layD P nm n e d h with
      | (cs, h') => ([.pointer (some ⟨h'.size, 0, none⟩)], h'.push (.cells cs.toArray e (0, 0))))
    | .slice es _, some (.slice e) => (match many (es.map fun _ => e) es h with
      | (cs, h') => ([.slice (some ⟨h'.size, 0, none⟩) es.length es.length], h'.push (.cells cs.toArray e (0, 0))))
    | .agg ds, some (.struct fs) => many (fs.toList.map (·.type)) ds h
    | .agg ds, some (.array _ e) => many (ds.map fun _ => e) ds h
    | .iface s (.agg [.ptr (.lit (.string x))]), some (.interface _) => (match String.fromUTF8? ⟨x.toArray⟩ with
      | some name => ([.iface (nm s) (.agg #[typeHandle P (nm name)])], h)
      | none => ([], h))
    | .iface s d, some (.interface _) => (match layD P nm n (nm s) d h with
      | (cs, h') => ([.iface (nm s) (match cs with | [v] => v | _ => .agg cs.toArray)], h'))
    | _, _ => ([], h)
def fillC (l : List Value) : Go.Obj → Go.Obj
  | .cells _ t frozen => .cells l.toArray t frozen
  | o => o
def layAll (P : Program) (nm : String → TypeId) : List (String × DataW Unit) → Array Go.Obj → Array Go.Obj
  | [], h => h
  | (n, d) :: r, h => match P.globalNamed n with
    | some g => (match layD P nm 12 (((P.globals[g]?).map (·.type)).getD 0) d h with
      | (cs, h') => layAll P nm r (h'.modify g (fillC cs)))
    | none => layAll P nm r h
noncomputable def layWorld (P : Program) (nm : String → TypeId) (l : List (String × DataW Unit)) (os : Os) : World :=
  { World.holding P os ⟨#[], #[], []⟩ with heap := layAll P nm l (World.holding P os ⟨#[], #[], []⟩).heap }
theorem handle_of_laid {P : Program} {w : World} {l : List (String × DataW Unit)} {x : String × DataW Unit} {name : List UInt8} {g u ty : Nat} (h : laidMetH P l w) (hx : x ∈ l.filter fun x => x.2.handleName?.isSome) (hf : x.2.funcsIn? = none) (hn : x.2.handleName? = some name)
    (hu : (P.cutTypes.find? (·.1 == "internal/reflectlite.rtype")).map (·.2) = some u) (hone : ((List.range P.types.size).filter fun t => P.rowNamed t name) = [ty]) (hg : P.globalNamed x.1 = some g) :
    w.cell? ⟨g, 0, none⟩ = some (.iface u (.agg #[typeHandle P ty])) := by
  have h' : handlesMet P (l.filter fun x => x.2.handleName?.isSome) w := by
    unfold laidMetH at h
    generalize (l.filter fun x => x.2.handleName?.isSome) = fl at *
    cases fl with
    | nil => cases hx
    | cons a r => exact h.2
  have h2 := h' x hx
  rw [hf] at h2
  obtain ⟨name', u', ty', e1, e2, e3, e4, e5⟩ := h2
  obtain rfl := Option.some.inj (hn.symm.trans e1)
  obtain rfl := Option.some.inj (hu.symm.trans e2)
  have hm : ty' ∈ (List.range P.types.size).filter fun t => P.rowNamed t name := List.mem_filter.2 ⟨List.mem_range.2 e3, e4⟩
  rw [hone] at hm
  obtain rfl := List.mem_singleton.1 hm
  have := World.var?_cell hg e5 0
  simpa using this
theorem plain_of_laid {P : Program} {w : World} {l : List (String × DataW Unit)} (h : laidMetH P l w) : laidMet P (l.filter fun x => x.2.handleName?.isNone) w := by
  unfold laidMetH at h
  generalize hfl : (l.filter fun x => x.2.handleName?.isSome) = fl at h
  cases fl with
  | nil =>
    have e : (l.filter fun x => x.2.handleName?.isNone) = l := by
      rw [List.filter_eq_self]
      intro x hx
      have := (List.filter_eq_nil_iff.1 hfl) x hx
      cases hn : x.2.handleName? with
      | none => rfl
      | some s => rw [hn] at this; exact absurd rfl this
    rw [e]
    exact h
  | cons a as => exact h.1
theorem int_of_shaped {P : Program} {w : World} {g : Nat} {t : TypeId} {k : IntKind} (h : w.ShapedOpen P) (hz : ((begin P (fun _ _ => 0) default).world.heap[g]?).bind Obj.row? = some (#[.int k 0], t)) (ht : P.underlying t = some (.int k))
    (hc : P.cellTypes P.depth t = some [t]) (hb : P.buildable t = true) (hgs : g < P.globals.size) : ∃ m, w.cell? ⟨g, 0, none⟩ = some (.int k m) := by
  obtain ⟨cs, hh, hs, hr⟩ := h.1 g _ t hgs hz
  obtain ⟨ts, hts, _, hall⟩ := hr hb
  rw [hc] at hts
  cases hts
  have hs1 : cs.size = 1 := hs
  have h1 : 0 < cs.size := by omega
  obtain ⟨u, hu', hok⟩ := hall 0 cs[0] (by simp [h1])
  obtain rfl : u = t := by simpa using hu'.symm
  have e : ∃ m, cs[0] = .int k m := by
    unfold Cell.ok at hok
    rw [ht] at hok
    cases hv : cs[0] <;> rw [hv] at hok <;> first | (simp at hok; done) | (simp only [Bool.and_eq_true, decide_eq_true_eq, beq_iff_eq] at hok; first | (obtain ⟨rfl, _⟩ := hok; exact ⟨_, rfl⟩) | (obtain ⟨e1, _⟩ := hok; subst e1; exact ⟨_, rfl⟩) | (subst hok; exact ⟨_, rfl⟩) | (exact ⟨_, by rw [hok]⟩))
  obtain ⟨m, e⟩ := e
  refine ⟨m, ?_⟩
  unfold World.cell?
  rw [hh]
  show cs[0]? = _
  rw [Array.getElem?_eq_getElem h1, e]
end Go.Dl

namespace Go.Dl
open Go.ChangeShapes Go.RowKit
variable [WInv]
structure Bulk {H : Type} (b : DataW H → Nat) : Prop where
  one : ∀ d, 1 ≤ b d
  str : ∀ s : List UInt8, s.length + 1 ≤ b (.lit (.string s))
  agg : ∀ l, (l.map b).sum + 1 ≤ b (.agg l)
  slice : ∀ l r, (l.map b).sum + 1 ≤ b (.slice l r)
section
variable {H : Type} {b : DataW H → Nat} {enc : TypeId × Value → H} {P : Program} {w : World} {sp : Nat → Bool} {held : Bool}
end
end Go.Dl
