/- What is known for the run of the law on numbers; 'awake' of it comes to true. No conditions. -/
import Derived.Test.YthmkdcclmaoonaaDoorR1g3
import Derived.Test.YthmkdcclmaoonaaDoorQ16
import Derived.IntWalk
import Derived.Laws.Externs
import Derived.Lib.Bytealg
import Derived.Lib.IndexEntry
set_option linter.unusedVariables false
set_option linter.unusedSimpArgs false
set_option linter.unusedSectionVars false
namespace Go.Proofs.YthmkdcclmaoonaaDoor.ln
open Go Go.Am Go.Proofs Go.RowKit
set_option maxRecDepth 1000000

/-- strings.asciiSpace. -/
def spaceN (i : Nat) : Nat := bif (Nat.ble 9 i && Nat.ble i 13) || Nat.beq i 32 then 1 else 0
noncomputable def spaceV (i : Nat) : Go.Qm.V := .y (spaceN i)
/-- internal/bytealg.MaxLen: some number. -/
noncomputable def maxV (_ : Nat) : Go.Qm.V := .q (.i .i64) (.vi 2000)
def p1 : Go.Qm.Pt := ⟨.d0, .d0, .d0, .d0, .d1⟩
def p2 : Go.Qm.Pt := ⟨.d0, .d0, .d0, .d0, .d2⟩
noncomputable def tabs (e : Nat) : List (Go.Qm.Pt × Go.Qm.Cs Go.Qm.V × Nat × Nat) := [(p2, Go.Qm.csOf 1 maxV, 1, 3), (p1, Go.Qm.csOf 256 spaceV, 256, e)]

/-- Is MaxLen below 2? -/
def factM (b : Bool) : Go.Qm.Fc := .cons (.cm .lss (.vi 2000) (.ci 2)) b .nil
def extM (b : Bool) (g : FuncId) : Nat := bif Nat.beq g 51 then 1 else bif Nat.beq g 42 then (bif b then 0 else 3) else 0

section
variable [Go.Qm.Rho]
noncomputable def EY (b : Bool) : Env := ⟨fun _ _ => none, extM b, fun g => bif Nat.beq g 11 then some rl.asSm else none⟩
noncomputable def TY : FuncId → Option Go.Qm.Kq := fun g => bif Nat.beq g 11 then some rl.asK else none

theorem awakeQ1 (e : Nat) : Go.Qm.callF Tryd.prog (EY true) TY (tabs e) (factM true) 1000 7 .nil Go.Qm.isB = true := by kernel_rfl
theorem awakeQ0 (e : Nat) : Go.Qm.callF Tryd.prog (EY false) TY (tabs e) (factM false) 1000 7 .nil Go.Qm.isB = true := by kernel_rfl

theorem sat_m (b : Bool) (h : decide (Go.Qm.Rho.i 2000 < 2) = b) : Go.Qm.Sat (factM b) := by
  refine ⟨?_, trivial⟩
  show decide (Go.Qm.Rho.i 2000 < Go.Qm.sg 2) = b
  rw [Go.Qm.sg_small (by omega)]
  exact h

theorem tabs_ok (e : Nat) : Go.Qm.tabsOk (tabs e) :=
  ⟨show (2 : Nat) < 600 by decide, rfl, Go.Qm.tab_sc (by decide) (fun _ _ => rfl), show (1 : Nat) < 600 by decide, rfl, Go.Qm.tab_sc (by decide) (fun _ _ => rfl), trivial⟩

/-- What is known of the world. -/
def IY (w : World) : Prop := rl.errI w ∧ (∃ e, Go.Qm.TabAt w 1 256 spaceV e) ∧ Go.Qm.TabAt w 2 1 maxV 3

theorem IY_below (w w' : World) (h : IY w) (hb : Below w.heap.size w w') : IY w' := by
  obtain ⟨h1, ⟨e, h2⟩, h3⟩ := h
  exact ⟨rl.errI_below h1 hb, ⟨e, h2.below hb⟩, h3.below hb⟩

theorem globM : Tryd.prog.globals.findIdx? (·.name == "internal/bytealg.MaxLen") = some 2 := by kernel_rfl

theorem ext_ok {b : Bool} (hb : b = false → 2 ≤ Go.Qm.Rho.i 2000) {g : FuncId} {vs : List Value} {v : Value} (h : extA (extM b g) vs = some v) (w : World) (hI : IY w) : (callFunc g vs.toArray).run Tryd.prog w = .ok (.value v) w := by
  unfold extM at h
  cases h1 : Nat.beq g 51 with
  | false =>
    rw [h1, cond_false] at h
    cases h2 : Nat.beq g 42 with
    | false => rw [h2, cond_false, extA_zero] at h; cases h
    | true =>
      rw [h2, cond_true] at h
      cases hbb : b with
      | true => rw [hbb, cond_true, extA_zero] at h; cases h
      | false =>
        rw [hbb, cond_false] at h
        have hm := hb hbb
        obtain rfl := Nat.eq_of_beq_eq_true h2
        unfold extA at h
        split at h
        · omega
        · omega
        · rename_i s t _
          obtain ⟨h3, h⟩ := some_of_cond h
          simp only [Option.some.injEq] at h
          subst h
          simp only [Bool.and_eq_true] at h3
          have l1 := Nat.eq_of_beq_eq_true h3.1
          have l2 := Nat.le_of_ble_eq_true h3.2
          rw [run_callFunc_extern Tryd.func42 (by kernel_rfl) (by kernel_rfl) (by kernel_rfl) (e := Extern.BytealgIndex.index) (by kernel_rfl)]
          show ((Extern.BytealgIndex.index #[.string s, .string t]).run Tryd.prog w).andThen _ = _
          have hc : w.cell? ⟨2, 0, none⟩ = some (.int .i64 (Go.Qm.Rho.i 2000)) := by
            have := hI.2.2
            unfold Go.Qm.TabAt at this
            simp only [World.cell?, this]
            rfl
          have e1 : s.size = s.data.toList.length := (Array.length_toList (xs := s.data)).symm
          have e2 : t.size = t.data.toList.length := (Array.length_toList (xs := t.data)).symm
          rw [Lib.run_indexString s t w 2 _ globM hc (by omega) (by omega) (by omega)]
          rfl
        · cases h
  | true =>
    rw [h1, cond_true] at h
    obtain rfl := Nat.eq_of_beq_eq_true h1
    unfold extA at h
    split at h
    · simp only [Option.some.injEq] at h
      subst h
      rw [run_callFunc_extern Tryd.func51 (by kernel_rfl) (by kernel_rfl) (by kernel_rfl) (e := Extern.BytealgIndexByte.indexByte) (by kernel_rfl)]
      show ((Extern.BytealgIndexByte.indexByte #[.string _, .int .u8 _]).run Tryd.prog w).andThen _ = _
      rw [Lib.run_indexByteString]
      rfl
    · omega
    · omega
    · cases h

theorem ss_ok (ss : FuncId → Option Sm) (hs : ss = fun g => bif Nat.beq g 11 then some rl.asSm else none) : ∀ g s, ss g = some s → ∀ R, SmGood Tryd.prog IY R g s := by
  subst hs
  intro g s h R
  cases h1 : Nat.beq g 11 with
  | false => simp only [h1, cond_false] at h; cases h
  | true =>
    simp only [h1, cond_true, Option.some.injEq] at h
    subst h
    obtain rfl := Nat.eq_of_beq_eq_true h1
    exact (rl.as_good R).weaken fun _ h => h.1

theorem EY_good {b : Bool} (hb : b = false → 2 ≤ Go.Qm.Rho.i 2000) : EnvGood Tryd.prog IY (EY b) :=
  ⟨IY_below, ss_ok _ rfl, fun _ _ _ h => (by cases h), fun g vs v _ h w hI => ext_ok hb h w hI⟩

theorem TY_ok (b : Bool) : Go.Qm.TOk (EY b) TY := by
  refine ⟨fun g q h hs => ?_, fun g q s h hs R G en vs H F k ha hr hR hq => ?_, fun _ _ _ => rfl⟩
  · unfold TY at h
    cases h1 : Nat.beq g 11 with
    | false => rw [h1] at h; cases h
    | true =>
      have hs' : (bif Nat.beq g 11 then some rl.asSm else none) = none := hs
      rw [h1] at hs'
      cases hs'
  · unfold TY at h
    cases h1 : Nat.beq g 11 with
    | false => rw [h1] at h; cases h
    | true =>
      rw [h1, cond_true, Option.some.injEq] at h
      subst h
      have hs' : (bif Nat.beq g 11 then some rl.asSm else none) = some s := hs
      rw [h1, cond_true, Option.some.injEq] at hs'
      subst hs'
      exact rl.asK_ok R G en vs H F k ha hr hR hq

/-- The store at the start says what is known of the world. -/
theorem start {w : World} {e : TypeId} (h : Go.Qm.TabAt w 1 256 spaceV e) (h2 : Go.Qm.TabAt w 2 1 maxV 3) : ∃ β, WR Tryd.prog (fun R' w0 => R' = 600 ∧ w0 = w) β (Go.Qm.tabsF (tabs e)) w := by
  have a := (WR.base0 (P := Tryd.prog) (fun o => bif Nat.beq o 2 then 1 else 256) (fun o => bif Nat.beq o 2 then Tryd.prog.cellsOf 3 else Tryd.prog.cellsOf e) w).tab (o := 1) (k := ⟨1, 0, 256, Tryd.prog.cellsOf e⟩) rfl (by decide) (.inr rfl) (fun o' x' k' ho => by cases ho) (h.or (by decide) _ _ (fun i _ => .int _ _)) (fun c e' he => by cases he; rfl)
  refine ⟨_, a.tab (o := 2) (k := ⟨2, 0, 1, Tryd.prog.cellsOf 3⟩) rfl (by decide) (.inr rfl) (fun o' x' k' ho hl hk => ?_) (h2.or (by decide) _ _ (fun i _ => .int _ _)) (fun c e' he => by cases he; rfl)⟩
  have ho : ((T.nil : T AObj).set 1 _).get o' = some x' := ho
  rw [T.get_set _ _ _ (by decide)] at ho
  by_cases h1 : o' = 1
  · subst h1
    have hk : some _ = some k' := hk
    obtain rfl := Option.some.inj hk
    show (1 : Nat) ≠ 2
    omega
  · rw [if_neg h1] at ho
    cases ho

theorem start_lo (e : TypeId) : Lo (Go.Qm.tabsF (tabs e)) := by
  refine ⟨show (512 : Nat) ≤ 600 by decide, fun o ho => ?_⟩
  have ho' : 600 ≤ o := ho
  show (((T.nil : T AObj).set 1 _).set 2 _).get o = none
  rw [T.get_set _ _ _ (by decide), if_neg (by omega), T.get_set _ _ _ (by decide), if_neg (by omega)]
  rfl

theorem awakeText : ∃ fn c, Tryd.prog.funcs[7]? = some fn ∧ (fn.name == "runtime.NumGoroutine") = false ∧ fn.body = some c :=
  ⟨_, _, Tryd.func7, by kernel_rfl, rfl⟩

theorem isT_fromF {E : Env} {T : FuncId → Option Go.Qm.Kq} {l : List (Go.Qm.Pt × Go.Qm.Cs Go.Qm.V × Nat × Nat)} (hT : Go.Qm.TOk E T) (hl : Go.Qm.tabsOk l) {f0 : Go.Qm.Fc} (hf : Go.Qm.Sat f0) {f : Nat} {g : FuncId} {en : Go.Qm.En} {vs : List Value} (ha : Go.Qm.AR en vs) (h : Go.Qm.callF Tryd.prog E T l f0 f g en Go.Qm.isB = true) : isT (callA Tryd.prog E f 600 g vs (Go.Qm.tabsF l)) = true := by
  obtain ⟨x, v, F', h1, h2, G, H, _, h3⟩ := Go.Qm.callF_spec hT hl hf ha h
  obtain ⟨b, rfl, hb⟩ := Go.Qm.asB_spec h3
  subst hb
  rw [h1, h2.eq (by simp)]
  rfl

theorem awake (w : World) (h : IY w) : Calls Tryd.prog 7 #[] w fun e w' => e = .returned (.bool true) ∧ Up w w' := by
  obtain ⟨_, ⟨e, he⟩, he2⟩ := id h
  obtain ⟨β, hw⟩ := start he he2
  by_cases hm : Go.Qm.Rho.i 2000 < 2
  · exact calls_true_from (us := []) (EY_good (b := true) (fun h => by cases h)) (isT_fromF (TY_ok true) (tabs_ok e) (sat_m true (decide_eq_true hm)) (en := .nil) (vs := []) trivial (awakeQ1 e)) awakeText w h (start_lo e) (Nat.le_refl _) hw .nil
  · exact calls_true_from (us := []) (EY_good (b := false) (fun _ => by omega)) (isT_fromF (TY_ok false) (tabs_ok e) (sat_m false (decide_eq_false hm)) (en := .nil) (vs := []) trivial (awakeQ0 e)) awakeText w h (start_lo e) (Nat.le_refl _) hw .nil

end
end Go.Proofs.YthmkdcclmaoonaaDoor.ln
