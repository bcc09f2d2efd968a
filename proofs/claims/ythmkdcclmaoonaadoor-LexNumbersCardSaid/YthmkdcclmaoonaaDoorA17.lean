/- From a call by the store's run to what a row asks: the frame is all that there was. No conditions. -/
import Derived.Test.YthmkdcclmaoonaaDoorA16
import Derived.WalkKit
import Derived.ProofKit
set_option linter.unusedVariables false
set_option linter.unusedSimpArgs false
namespace Go.Am
open Go.ChangeShapes Go.WideShapes Go.ChangeAt Go.RowKit

theorem post_of_below {P : Program} {H : Type} {enc : TypeId × Value → H} {f : Func} {s : ChangeSpec} {apart fresh handsOn again : Bool} {W W' : World} {args : Array Value} {v : Value} {ds gs : List (DataW H)} {before pa pv : List MemPlace}
    (hW : DataW.Whole enc P f.params.toList s.vars apart W args.toList ds gs before)
    (hres : ∀ (b : Nat) (sp : Nat → Bool) (hd : Bool), DataW.TrodAll enc P W' b sp hd f.resultTypes.toList (v.resultList f.resultTypes.size) (s.fn H (ds ++ gs)).results [])
    (hargs : ∀ sp : Nat → Bool, (∀ p ∈ before, sp p.block = true) → DataW.TrodAll enc P W' 0 sp true f.params.toList args.toList (s.fn H (ds ++ gs)).args pa)
    (hvars : ∀ sp : Nat → Bool, (∀ p ∈ before, sp p.block = true) → DataW.TrodVars enc P W' sp s.vars (s.fn H (ds ++ gs)).vars pv)
    (hps : before = pa ++ pv) (hb : Below W.heap.size W W')
    (hok : ∀ (j : Nat) (t : TypeId) (r : Value), f.resultTypes[j]? = some t → (v.resultList f.resultTypes.size)[j]? = some r → Value.okWide P W' .any 0 t r) :
    s.post enc P f apart fresh handsOn again W args v W' := by
  have hold : ∀ p ∈ before, (fun b => decide (b < W.heap.size)) p.block = true := fun p hp => by simpa using hW.lt p hp
  have hlt := hW.lt
  refine ⟨ds, gs, before, [], pa, pv, hW, hres _ _ _, hargs _ hold, hvars _ hold, World.keptBut_mono (fun p hp => ⟨hp, ?_⟩) (hb.frame (· ∈ before)), fun _ => ?_⟩
  · rw [hps, List.mem_append] at hp
    exact Or.inr hp
  · obtain ⟨_, _, _, _, _, hz, hn⟩ := hW
    refine ⟨hok, _, _, ([] ++ pa) ++ pv, ⟨[] ++ pa, pv, trodAll_append (hargs _ (fun _ _ => rfl)) (hres _ _ _), hvars _ (fun _ _ => rfl), rfl, ?_, ?_⟩, ?_⟩
    · intro b off hp
      have hp' : MemPlace.cell b off ∈ before := by rw [hps]; simpa using hp
      rw [hb.frozen (p := ⟨b, off, none⟩) (hlt _ hp')]
      exact hz b off hp'
    · intro ha
      have := hn ha
      rw [hps] at this
      simpa using this
    · intro p hp _
      rw [hps]
      simpa using hp

/-- The call came to true. -/
def isT : Option (Value × FW) → Bool
  | some (.bool b, _) => b
  | _ => false

theorem isT_spec {r : Option (Value × FW)} (h : isT r = true) : ∃ H, r = some (.bool true, H) := by
  unfold isT at h
  split at h
  · subst h; exact ⟨_, rfl⟩
  · cases h

/-- A call that comes to true by the store comes to true, in every world. -/
theorem calls_true {I : World → Prop} {P : Program} {E : Env} (hE : EnvGood P I E) {f : Nat} {g : FuncId} {vs us : List Value} (hc : isT (callA P E f 600 g vs ⟨.nil, 600⟩) = true) (hf : ∃ fn c, P.funcs[g]? = some fn ∧ (fn.name == "runtime.NumGoroutine") = false ∧ fn.body = some c)
    (hus : ∀ β, VRs β vs us) (w : World) (hI : I w) : Calls P g us.toArray w fun e w' => e = .returned (.bool true) ∧ Up w w' := by
  obtain ⟨H, hc⟩ := isT_spec hc
  refine (calls_by hE hc hf hus w hI).mono fun e w' ⟨u, he, hu, β, hr⟩ => ?_
  cases hr
  exact ⟨he, hu⟩

/-- The same from a world of which the store says something. -/
theorem calls_true_from {I : World → Prop} {P : Program} {E : Env} (hE : EnvGood P I E) {f : Nat} {g : FuncId} {vs us : List Value} {H0 : FW} {β0 : Bm} (hc : isT (callA P E f 600 g vs H0) = true) (hf : ∃ fn c, P.funcs[g]? = some fn ∧ (fn.name == "runtime.NumGoroutine") = false ∧ fn.body = some c)
    (w : World) (hI : I w) (hlo : Lo H0) (hn : 600 ≤ H0.next) (hw : WR P (fun R' w0 => R' = 600 ∧ w0 = w) β0 H0 w) (hus : VRs β0 vs us) : Calls P g us.toArray w fun e w' => e = .returned (.bool true) ∧ Up w w' := by
  obtain ⟨H, hc⟩ := isT_spec hc
  refine (calls_from hE hc hf w hI hlo hn hw hus).mono fun e w' ⟨u, he, hu, β, _, hr, _⟩ => ?_
  cases hr
  exact ⟨he, hu⟩

/-- Nothing is known. -/
def E0 : Env := ⟨fun _ _ => none, fun _ => 0, fun _ => none⟩

theorem extA_zero (vs : List Value) : extA 0 vs = none := by
  unfold extA
  split
  · omega
  · omega
  · omega
  · rfl

theorem E0_good (P : Program) : EnvGood P (fun _ => True) E0 := by
  refine ⟨fun _ _ _ _ => trivial, fun _ _ h => (by cases h), fun _ _ _ h => (by cases h), fun _ vs v _ h _ _ => ?_⟩
  have h' : extA 0 vs = some v := h
  rw [extA_zero] at h'
  cases h'

/-- Of one function without arguments it is known that it comes to true. -/
def E1 (k : FuncId) : Env := ⟨fun g vs => bif Nat.beq g k && vs.isEmpty then some (.bool true) else none, fun _ => 0, fun _ => none⟩

theorem E1_good {P : Program} {I : World → Prop} {k : FuncId} (st : ∀ w w', I w → Below w.heap.size w w' → I w') (h : ∀ w, I w → Calls P k #[] w fun e w' => e = .returned (.bool true) ∧ Up w w') : EnvGood P I (E1 k) := by
  refine ⟨st, fun _ _ h => (by cases h), fun g vs v hk => ?_, fun g vs v hb h w _ => (E0_good P).ext g vs v hb h w trivial⟩
  have hk' : (bif Nat.beq g k && vs.isEmpty then some (Value.bool true) else none) = some v := hk
  obtain ⟨h1, h2⟩ := some_of_cond hk'
  simp only [Bool.and_eq_true] at h1
  simp only [Option.some.injEq] at h2
  subst h2
  have := Nat.eq_of_beq_eq_true h1.1
  subst this
  have : vs = [] := by simpa using h1.2
  subst this
  exact ⟨rfl, rfl, h⟩

end Go.Am
