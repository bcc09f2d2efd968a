/- A world that holds given variables; what a row's condition on its variables says of a world. No conditions. -/
import Derived.Test.YthmkdcclmaoonaaDoorQ16
import Derived.LaidHandle
import Derived.Lib.LaidTab
set_option linter.unusedVariables false
set_option linter.unusedSimpArgs false
set_option linter.unusedSectionVars false
set_option linter.constructorNameAsVariable false
namespace Go.Qm
open Go.Am Go.RowKit
variable [Rho]

/-! A world with variables laid: each datum as cells, what it points to in new blocks. -/

def litC : Lit → Value
  | .bool b => .bool b
  | .int k n => .int k n
  | .string bs => .string ⟨bs.toArray⟩
  | _ => undef

/-- Cells of a datum of a type; 'nm': a type by its name. -/
def layD (P : Program) (nm : String → TypeId) : Nat → TypeId → DataW Unit → Array Obj → List Value × Array Obj
  | 0, _, _, h => ([], h)
  | n + 1, t, d, h =>
    let many := fun (ts : List TypeId) (ds : List (DataW Unit)) (h : Array Obj) => (ts.zip ds).foldl (fun (acc : List Value × Array Obj) x => match layD P nm n x.1 x.2 acc.2 with
      | (cs, h') => (acc.1 ++ cs, h')) ([], h)
    match d, P.underlying t with
    | .lit l, _ => ([litC l], h)
    | .nil, some (.slice _) => ([.slice none 0 0], h)
    | .nil, some (.map _ _) => ([.map none], h)
    | .nil, some (.interface _) => ([.nilIface], h)
    | .nil, some (.func _ _ _) => ([.nilFunc], h)
    | .nil, _ => ([.pointer none], h)
    | .ptr d, some (.pointer e) => (match layD P nm n e d h with
      | (cs, h') => ([.pointer (some ⟨h'.size, 0, none⟩)], h'.push (.cells cs.toArray e (0, 0))))
    | .slice es _, some (.slice e) => (match many (es.map fun _ => e) es h with
      | (cs, h') => ([.slice (some ⟨h'.size, 0, none⟩) es.length es.length], h'.push (.cells cs.toArray e (0, 0))))
    | .agg ds, some (.struct fs) => many (fs.toList.map (·.type)) ds h
    | .agg ds, some (.array _ e) => many (ds.map fun _ => e) ds h
    | .iface s (.agg [.ptr (.lit (.string x))]), some (.interface _) => (match String.fromUTF8? ⟨x.toArray⟩ with
      | some name => ([.iface (nm s) (.agg #[typeHandle P (nm name)])], h)
      | none => ([], h))
    | .iface s d, some (.interface _) => (match layD P nm n (nm s) d h with
      | (cs, h') => ([.iface (nm s) (match cs with | [v] => v | _ => .agg cs.toArray)], h'))
    | _, _ => ([], h)

def fillC (l : List Value) : Go.Obj → Go.Obj
  | .cells _ t frozen => .cells l.toArray t frozen
  | o => o

def layAll (P : Program) (nm : String → TypeId) : List (String × DataW Unit) → Array Obj → Array Obj
  | [], h => h
  | (n, d) :: r, h => match P.globalNamed n with
    | some g => (match layD P nm 12 (((P.globals[g]?).map (·.type)).getD 0) d h with
      | (cs, h') => layAll P nm r (h'.modify g (fillC cs)))
    | none => layAll P nm r h

/-- A world with these variables laid. -/
noncomputable def layWorld (P : Program) (nm : String → TypeId) (l : List (String × DataW Unit)) (os : Os) : World :=
  { World.holding P os ⟨#[], #[], []⟩ with heap := layAll P nm l (World.holding P os ⟨#[], #[], []⟩).heap }

/-! What the condition says. -/

theorem laidVars_mem {P : Program} {w : World} : ∀ {l : List (String × DataW Unit)} {ps : List MemPlace} {n : String} {d : DataW Unit}, DataW.LaidVars P w l ps → (n, d) ∈ l →
    ∃ g t cs fuel p, P.globalNamed n = some g ∧ (P.globals[g]?).map (·.type) = some t ∧ w.var? P n = some cs ∧ DataW.trod (fun _ => ()) P w 0 (fun _ => true) false fuel t cs.toList = some (d, p) ∧ ∀ x ∈ MemPlace.row ⟨g, 0, none⟩ cs.size ++ p, x ∈ ps
  | [], _, _, _, _, h => by cases h
  | (n', d') :: r, ps, n, d, hl, h => by
    obtain ⟨g, t, cs, fuel, p, q, h1, h2, h3, h4, h5, rfl⟩ := hl
    rcases List.mem_cons.1 h with h | h
    · cases h
      exact ⟨g, t, cs, fuel, p, h1, h2, h3, h4, fun x hx => List.mem_append_left _ hx⟩
    · obtain ⟨g', t', cs', fuel', p', k1, k2, k3, k4, k5⟩ := laidVars_mem h5 h
      exact ⟨g', t', cs', fuel', p', k1, k2, k3, k4, fun x hx => List.mem_append_right _ (k5 x hx)⟩

/-- A table of numbers. -/
theorem tab_of_laid {P : Program} {w : World} {l : List (String × DataW Unit)} {name : String} {k : IntKind} {zs : List Int} {g : Nat} {t e : TypeId} {n : Nat} (h : laidMet P l w) (hm : (name, Lib.tabData k zs) ∈ l)
    (hg : P.globalNamed name = some g) (hty : (P.globals[g]?).map (·.type) = some t) (ht : P.underlying t = some (.array n e)) (he : P.underlying e = some (.int k)) (hce : P.cellsOf e = 1) (hct : P.cellsOf t = n) (hz : 0 < zs.length) :
    ∃ ty, w.heap[g]? = some (.cells (zs.map fun z => Value.int k z).toArray ty (0, 0)) := by
  obtain ⟨ps, h1, _, h3⟩ := h
  obtain ⟨g', t', cs, fuel, p, k1, k2, k3, k4, k5⟩ := laidVars_mem h1 hm
  obtain rfl := Option.some.inj (hg.symm.trans k1)
  obtain rfl := Option.some.inj (hty.symm.trans k2)
  have e1 := Lib.cells_of_tab ht he hce hct k4
  have hsz : 0 < cs.size := by
    have : cs.toList.length = zs.length := by rw [e1]; simp
    have : cs.size = zs.length := by simpa using this
    omega
  obtain ⟨⟨c, ty, hc⟩, _⟩ := h3 g 0 (k5 _ (List.mem_append_left _ (by
    unfold MemPlace.row
    rw [List.mem_map]
    exact ⟨0, by simpa using hsz, rfl⟩)))
  refine ⟨ty, ?_⟩
  unfold World.var? at k3
  rw [hg] at k3
  simp only [Option.bind_some, hc] at k3
  simp only [Option.some.injEq] at k3
  subst k3
  rw [hc, ← e1]

/-- The handle of a type that a variable holds. -/
theorem handle_of_laid {P : Program} {w : World} {l : List (String × DataW Unit)} {x : String × DataW Unit} {name : List UInt8} {g u ty : Nat} (h : laidMetH P l w) (hx : x ∈ l.filter fun x => x.2.handleName?.isSome) (hf : x.2.funcsIn? = none) (hn : x.2.handleName? = some name)
    (hu : (P.cutTypes.find? (·.1 == "internal/reflectlite.rtype")).map (·.2) = some u) (hone : ((List.range P.types.size).filter fun t => P.rowNamed t name) = [ty]) (hg : P.globalNamed x.1 = some g) :
    w.cell? ⟨g, 0, none⟩ = some (.iface u (.agg #[typeHandle P ty])) := by
  have h' : handlesMet P (l.filter fun x => x.2.handleName?.isSome) w := by
    unfold laidMetH at h
    generalize (l.filter fun x => x.2.handleName?.isSome) = fl at *
    cases fl with
    | nil => cases hx
    | cons a r => exact h.2
  have h2 := h' x hx
  rw [hf] at h2
  obtain ⟨name', u', ty', e1, e2, e3, e4, e5⟩ := h2
  obtain rfl := Option.some.inj (hn.symm.trans e1)
  obtain rfl := Option.some.inj (hu.symm.trans e2)
  have hm : ty' ∈ (List.range P.types.size).filter fun t => P.rowNamed t name := List.mem_filter.2 ⟨List.mem_range.2 e3, e4⟩
  rw [hone] at hm
  obtain rfl := List.mem_singleton.1 hm
  have := World.var?_cell hg e5 0
  simpa using this

/-- The other variables. -/
theorem plain_of_laid {P : Program} {w : World} {l : List (String × DataW Unit)} (h : laidMetH P l w) : laidMet P (l.filter fun x => x.2.handleName?.isNone) w := by
  unfold laidMetH at h
  generalize hfl : (l.filter fun x => x.2.handleName?.isSome) = fl at h
  cases fl with
  | nil =>
    have e : (l.filter fun x => x.2.handleName?.isNone) = l := by
      rw [List.filter_eq_self]
      intro x hx
      have := (List.filter_eq_nil_iff.1 hfl) x hx
      cases hn : x.2.handleName? with
      | none => rfl
      | some s => rw [hn] at this; exact absurd rfl this
    rw [e]
    exact h
  | cons a as => exact h.1

end Go.Qm
