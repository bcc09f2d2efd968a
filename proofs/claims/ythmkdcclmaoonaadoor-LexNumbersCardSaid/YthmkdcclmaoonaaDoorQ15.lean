/- A run from the middle: the first two pieces of a function's text by the store's run, the rest quick. No conditions. -/
import Derived.Test.YthmkdcclmaoonaaDoorQ14
set_option linter.unusedVariables false
set_option linter.unusedSimpArgs false
set_option linter.unusedSectionVars false
set_option linter.constructorNameAsVariable false
namespace Go.Qm
open Go.Am
noncomputable section
variable [Rho]

def tmOf : CR → TM
  | some (_, tm, _) => tm
  | none => ⟨[], .nil⟩

/-- A function's rest, made ready. -/
def restQ (P : Program) (fn : Func) (c b : Code) (L : Lay) : Cq :=
  comp P (lvOf fn c) fn.ntmps (resM fn.results.toList) fn.results.toList (drawQ P (lvOf fn c) fn.ntmps) b L (resM fn.results.toList) (fun _ => 0)
    (fun L => ⟨fun X e H => retF P fn.results.toList L e H X.ret⟩) (fun _ _ => .bad)

theorem seq_mid {P : Program} {lv : Nat → Bool} {n : Nat} {call : Nat → CallF} {R : Nat} {r0 r1 b : Code} {tm0 tm1 : TM} {F0 F1 : FW}
    (h : codeA P lv n call R (.seq r0 (.seq r1 .skip)) tm0 F0 = some (.norm, tm1, F1)) : codeA P lv n call R (.seq r0 (.seq r1 b)) tm0 F0 = codeA P lv n call R b tm1 F1 := by
  have h' : seqS (codeA P lv n call R r0 tm0 F0) (fun tm H => seqS (codeA P lv n call R r1 tm H) (fun tm H => some (.norm, tm, H))) = some (.norm, tm1, F1) := h
  show seqS (codeA P lv n call R r0 tm0 F0) (fun tm H => seqS (codeA P lv n call R r1 tm H) (codeA P lv n call R b)) = _
  cases h0 : codeA P lv n call R r0 tm0 F0 with
  | none => rw [h0] at h'; cases h'
  | some p =>
    obtain ⟨x, tmA, HA⟩ := p
    rw [h0] at h'
    cases x with
    | norm =>
      have h2 : seqS (codeA P lv n call R r1 tmA HA) (fun tm H => some (.norm, tm, H)) = some (.norm, tm1, F1) := h'
      show seqS (codeA P lv n call R r1 tmA HA) (codeA P lv n call R b) = _
      cases h1 : codeA P lv n call R r1 tmA HA with
      | none => rw [h1] at h2; cases h2
      | some p =>
        obtain ⟨x, tmB, HB⟩ := p
        rw [h1] at h2
        cases x with
        | norm => cases h2; rfl
        | ret => cases h2
        | exit i => cases h2
    | ret => cases h'
    | exit i => cases h'

theorem isT_mid {P : Program} {E : Env} {T : FuncId → Option Kq} {l : List (Pt × Cs V × Nat × Nat)} (hT : TOk E T) (ht : tabsOk l) {f : Nat} {g : FuncId} {fn : Func} {c r0 r1 b : Code} {vs : List Value} {tm1 : TM} {L : Lay} {e : En} (hss : E.ss g = none)
    (hfn : P.funcs[g]? = some fn) (hname : (fn.name == "runtime.NumGoroutine") = false) (hb : fn.body = some c) (hc : c = .seq r0 (.seq r1 b)) (hk : E.kn g vs = none) (hl : (Nat.ble vs.length fn.ntmps && Nat.ble vs.length 1000000) = true)
    (hrun : codeA P (lvOf fn c) fn.ntmps (callA P E f) 600 (.seq r0 (.seq r1 .skip)) ((argsT vs 0 ⟨[], .nil⟩).flush (lvOf fn c)) (tabsF l) = some (.norm, tm1, tabsF l)) (hloc : tm1.loc = [])
    (he : ER (lvOf fn c) L e tm1) (h : (tabsQ l fun r => (restQ P fn c b L).f ⟨callN P E T f, isB, .nil, .nil⟩ e ⟨r, ⟨.d0, .d0, .d2, .d5, .d8⟩, .nil, .nil⟩) = true) : isT (callA P E (f + 1) 600 g vs (tabsF l)) = true := by
  obtain ⟨r, k1, k2⟩ := tabs_rec ht h
  have hn : (tabsF l).next = 600 := by cases l <;> rfl
  obtain ⟨xo, tm', F', h3, h4, h5, L', e', H', h6, h7, h8⟩ := comp_sound (call := callA P E f) (R := 600) drawQ_ok b _ _ _ _ _ ⟨callN P E T f, isB, .nil, .nil⟩ _ _ tm1 (tabsF l) (callN_ok hT f) he (fun p hp => by rw [hloc] at hp; cases hp) k2 (by rw [hn]; exact Nat.le_refl _) k1
  have hcode : codeA P (lvOf fn c) fn.ntmps (callA P E f) 600 c ((argsT vs 0 ⟨[], .nil⟩).flush (lvOf fn c)) (tabsF l) = some (xo, tm', F') := by
    rw [← h3, ← seq_mid hrun, ← hc]
  show isT (callS P E (callA P E f) 600 g vs (tabsF l)) = true
  unfold callS
  rw [hss]
  simp only
  rw [hfn]
  simp only [hname, Bool.not_false, cond_true]
  unfold bodyS
  simp only [hb, hk, hl, cond_true, hcode]
  have fin : retF P fn.results.toList L' e' H' isB = true → isT (retS P (lvOf fn c) fn.results.toList (some (XO.norm, tm', F'))) = true := by
    intro g
    obtain ⟨x, l, g1, g2, g3⟩ := retF_spec h6 h7 g
    obtain ⟨b, rfl, hb⟩ := asB_spec g3
    subst hb
    unfold retS
    simp only [g1]
    rw [g2.eq (by simp)]
    rfl
  cases xo with
  | norm => exact fin h8
  | ret => exact fin h8
  | exit i => cases h8

end
end Go.Qm
