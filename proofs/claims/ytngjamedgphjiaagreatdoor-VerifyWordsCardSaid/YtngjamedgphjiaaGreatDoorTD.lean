/- What awake says. What D, W, the jobs and a code's Stack do not change: a calculus of two plain functions side by side. What D, W, the jobs and a code's Stack do not change. What the laws of Verify* share. No conditions. -/
import Derived.Test.YtngjamedgphjiaaGreatDoorTC
import Derived.Test.YtngjamedgphjiaaGreatDoorVf
set_option linter.unusedVariables false
set_option linter.unusedSimpArgs false
set_option linter.unusedSectionVars false
namespace Go.Proofs.YtngjamedgphjiaaGreatDoor
open Go Go.Dl
set_option maxRecDepth 100000
set_option maxHeartbeats 2000000
theorem Tot.unroll {A T : Type} {K : Nat} {f : T → Option (A ⊕ T)} {t0 : T} {p : A → Prop} (h : Tot (f t0) (sE p (fun t => Tot (iter K f t) p))) : Tot (iter (K + 1) f t0) p := by
  obtain ⟨z, hz, h⟩ := h
  unfold iter
  rw [hz]
  match z, h with
  | .inl a, h => exact ⟨_, rfl, h⟩
  | .inr t, h => exact h
def one (d : Int) : S29 := ⟨[], [], [⟨-1, [], [], false, 0, [⟨29, 0, 0⟩]⟩], [], [], [], [], [], [], [], d, 0⟩
def nil0 : S29 := ⟨[], [], [], [], [], [], [], [], [], [], 0, 0⟩
theorem one_15 (k : Nat) (d : Int) : fnS (F15 (k + 50) (one d)) = some true := by kernel_rfl
theorem one_16 (k : Nat) (d : Int) : fnS (F16 (k + 50) (one d)) = some true := by kernel_rfl
theorem one_17 (k : Nat) (d : Int) : fnS (F17 (k + 50) (one d)) = some true := by kernel_rfl
theorem one_18 (k : Nat) (d : Int) : fnS (F18 (k + 50) (one d)) = some true := by kernel_rfl
theorem one_19 (k : Nat) (d : Int) : fnS (F19 (k + 50) (one d)) = some true := by kernel_rfl
theorem one_20 (k : Nat) (d : Int) : fnS (F20 (k + 50) (one d)) = some true := by kernel_rfl
theorem nil_15 (k : Nat) : fnS (F15 (k + 50) nil0) = some true := by kernel_rfl
theorem nil_16 (k : Nat) : fnS (F16 (k + 50) nil0) = some true := by kernel_rfl
theorem nil_17 (k : Nat) : fnS (F17 (k + 50) nil0) = some true := by kernel_rfl
theorem nil_18 (k : Nat) : fnS (F18 (k + 50) nil0) = some true := by kernel_rfl
theorem nil_19 (k : Nat) : fnS (F19 (k + 50) nil0) = some true := by kernel_rfl
theorem nil_20 (k : Nat) : fnS (F20 (k + 50) nil0) = some true := by kernel_rfl
theorem nil_21 (k : Nat) : fnS (F21 (k + 50) nil0) = some true := by kernel_rfl
theorem F105_nil (K : Nat) : fnS (F105 K []) = some [] := by simp [F105, fnS]
theorem one_102 (k : Nat) (d : Int) : fnS (F102 (k + 50) (one d) ⟨-1, [], [], false, 0, [⟨29, 0, 0⟩]⟩ ⟨29, 0, 0⟩) = some [] := by kernel_rfl
theorem one_103 (k : Nat) (d : Int) : fnS (F103f104w (k + 50) [] (one d)) = some [] := by kernel_rfl
theorem one_106 (k : Nat) : fnS (F106w (k + 50) []) = some [] := by kernel_rfl
theorem Ret.eq {R : Type} {m : Option (R ⊕ R)} {r : R} (h : fnS m = some r) : Ret m (fun v => v = r) := ⟨r, h, rfl⟩
theorem one_86 (k : Nat) (d : Int) : Ret (F86 (k + 50) (one d) 0) (fun v => v = []) := by
  refine Ret.of ?_
  unfold F86
  refine Tot.letV (Tot.iteF (by simp [one]) (Tot.chk rfl (Tot.chk0 (Tot.letV (Tot.letV (Tot.bindS (Tot.blockS (Tot.mapl ?_))))))))
  refine Tot.unroll ?_
  refine Tot.iteT rfl (Tot.bindS (Tot.blockS (Tot.chk rfl (Tot.chk0 (Tot.chk rfl (Tot.chk0 ?_))))))
  refine Tot.call (Ret.eq (one_102 k d)) (fun v hv => ?_)
  subst hv
  refine Tot.chk rfl (Tot.chk0 ?_)
  (repeat' (first | (with_reducible first | refine Tot.letV ?_ | refine Tot.bindS ?_ | refine Tot.blockS ?_ | refine Tot.iteT (by assumption) ?_ | refine Tot.iteF (by assumption) ?_ | refine Tot.ite (fun _ => ?_) (fun _ => ?_) | refine Tot.chk0 ?_ | refine Tot.ret ?_ | refine sE.l ?_ | refine sE.r ?_)))
  refine Tot.unroll ?_
  refine Tot.iteF (ne_true_of_eq_false (by kernel_rfl)) ?_
  (repeat' (first | (with_reducible first | refine Tot.letV ?_ | refine Tot.bindS ?_ | refine Tot.blockS ?_ | refine Tot.iteT (by assumption) ?_ | refine Tot.iteF (by assumption) ?_ | refine Tot.ite (fun _ => ?_) (fun _ => ?_) | refine Tot.chk0 ?_ | refine Tot.ret ?_ | refine sE.l ?_ | refine sE.r ?_)))
  refine Tot.call (Ret.eq (one_103 k d)) (fun v hv => ?_)
  subst hv
  refine Tot.call (Ret.eq (F105_nil _)) (fun v hv => ?_)
  subst hv
  refine Tot.chk rfl (Tot.chk0 ?_)
  refine Tot.call (Ret.eq (one_106 k)) (fun v hv => ?_)
  (repeat' (first | (with_reducible first | refine Tot.letV ?_ | refine Tot.bindS ?_ | refine Tot.blockS ?_ | refine Tot.iteT (by assumption) ?_ | refine Tot.iteF (by assumption) ?_ | refine Tot.ite (fun _ => ?_) (fun _ => ?_) | refine Tot.chk0 ?_ | refine Tot.ret ?_ | refine sE.l ?_ | refine sE.r ?_)))
  exact hv
theorem one_87 (k : Nat) (d : Int) : fnS (F87 k ⟨-1, [], [], false, 0, [⟨29, 0, 0⟩]⟩) = some 0 := by kernel_rfl
theorem one_68 (k : Nat) (d : Int) : Ret (F68 (k + 51) ⟨one d, mno, mno⟩ 0) (fun v => v.1 = ⟨1, 0, true⟩ ∧ v.2.fim = one d) := by
  refine Ret.of ?_
  rw [F68]
  refine Tot.iteF (by simp [mno]) (Tot.iteF (by simp [mno]) ?_)
  refine Tot.call (one_86 k d) (fun v hv => ?_)
  subst hv
  refine Tot.bindS (Tot.blockS (Tot.mapl ?_))
  refine Tot.unroll (K := k + 49) ?_
  refine Tot.letV (Tot.iteF (ne_true_of_eq_false (by kernel_rfl)) ?_)
  (repeat' (first | (with_reducible first | refine Tot.letV ?_ | refine Tot.bindS ?_ | refine Tot.blockS ?_ | refine Tot.iteT (by assumption) ?_ | refine Tot.iteF (by assumption) ?_ | refine Tot.ite (fun _ => ?_) (fun _ => ?_) | refine Tot.chk0 ?_ | refine Tot.ret ?_ | refine sE.l ?_ | refine sE.r ?_)))
  refine Tot.chk rfl (Tot.chk0 ?_)
  refine Tot.callC (fun _ => Ret.eq (one_87 _ d)) (fun v hv => ?_)
  have hv := hv rfl
  subst hv
  (repeat' (first | (with_reducible first | refine Tot.letV ?_ | refine Tot.bindS ?_ | refine Tot.blockS ?_ | refine Tot.iteT (by assumption) ?_ | refine Tot.iteF (by assumption) ?_ | refine Tot.ite (fun _ => ?_) (fun _ => ?_) | refine Tot.chk0 ?_ | refine Tot.ret ?_ | refine sE.l ?_ | refine sE.r ?_)))
  exact ⟨rfl, rfl⟩
theorem one_49 (k : Nat) (d : Int) : Ret (F49 (k + 51) (one d)) (fun v => v = (1, 0, true)) := by
  refine Ret.of ?_
  unfold F49
  refine Tot.bindS (Tot.blockS (Tot.mapl ?_))
  refine Tot.unroll (K := k + 50) ?_
  refine Tot.letV (Tot.iteT rfl (Tot.bindS (Tot.blockS (Tot.chk rfl (Tot.chk0 (Tot.letV (Tot.iteF (ne_true_of_eq_false (by kernel_rfl)) ?_)))))))
  refine Tot.call (one_68 k d) (fun v hv => ?_)
  obtain ⟨hv1, hv2⟩ := hv
  rw [hv1]
  refine Tot.iteF (ne_true_of_eq_false (by kernel_rfl)) (Tot.letV (Tot.letV ?_))
  (repeat' (first | (with_reducible first | refine Tot.letV ?_ | refine Tot.bindS ?_ | refine Tot.blockS ?_ | refine Tot.iteT (by assumption) ?_ | refine Tot.iteF (by assumption) ?_ | refine Tot.ite (fun _ => ?_) (fun _ => ?_) | refine Tot.chk0 ?_ | refine Tot.ret ?_ | refine sE.l ?_ | refine sE.r ?_)))
  refine Tot.unroll (K := k + 49) ?_
  refine Tot.letV (Tot.iteF (ne_true_of_eq_false (by kernel_rfl)) ?_)
  (repeat' (first | (with_reducible first | refine Tot.letV ?_ | refine Tot.bindS ?_ | refine Tot.blockS ?_ | refine Tot.iteT (by assumption) ?_ | refine Tot.iteF (by assumption) ?_ | refine Tot.ite (fun _ => ?_) (fun _ => ?_) | refine Tot.chk0 ?_ | refine Tot.ret ?_ | refine sE.l ?_ | refine sE.r ?_)))
  rfl
theorem one_21 (k : Nat) (d : Int) : Ret (F21 (k + 51) (one d)) (fun v => v = (1 == d)) := by
  refine Ret.of ?_
  unfold F21
  refine Tot.call (one_49 k d) (fun v hv => ?_)
  subst hv
  (repeat' (first | (with_reducible first | refine Tot.letV ?_ | refine Tot.ret ?_ | refine sE.l ?_ | refine sE.r ?_)))
  simp [one]
theorem F8_true {K : Nat} (hK : 2000000 < K) : fnS (F8 K) = some true := by
  obtain ⟨k, rfl⟩ : ∃ k, K = k + 51 := ⟨K - 51, by omega⟩
  obtain ⟨b1, h1, e1⟩ := one_21 k 1
  obtain ⟨b2, h2, e2⟩ := one_21 k 2
  subst e1
  subst e2
  have ha : F10 (k + 51) (one 1) = some (.inl []) := F10_val (one_15 (k + 1) 1) (fun _ => one_16 (k + 1) 1) (fun _ _ => one_17 (k + 1) 1) (fun _ _ _ => one_18 (k + 1) 1) (fun _ _ _ _ => one_19 (k + 1) 1) (fun _ _ _ _ _ => one_20 (k + 1) 1) (fun _ _ _ _ _ _ => h1)
  have hb : F10 (k + 51) (one 2) = some (.inl [98, 111, 117, 110, 100, 115]) := F10_val (one_15 (k + 1) 2) (fun _ => one_16 (k + 1) 2) (fun _ _ => one_17 (k + 1) 2) (fun _ _ _ => one_18 (k + 1) 2) (fun _ _ _ _ => one_19 (k + 1) 2) (fun _ _ _ _ _ => one_20 (k + 1) 2) (fun _ _ _ _ _ _ => h2)
  have hc : F10 (k + 51) nil0 = some (.inl []) := F10_val (nil_15 (k + 1)) (fun _ => nil_16 (k + 1)) (fun _ _ => nil_17 (k + 1)) (fun _ _ _ => nil_18 (k + 1)) (fun _ _ _ _ => nil_19 (k + 1)) (fun _ _ _ _ _ => nil_20 (k + 1)) (fun _ _ _ _ _ _ => nil_21 (k + 1))
  have ha7 : F7 (k + 51) (one 1) = some (.inl none) := by unfold F7; rw [ha]; rfl
  have hb7 : F7 (k + 51) (one 2) = some (.inl (some (20, 0))) := by unfold F7; rw [hb]; rfl
  show fnS ((fnS (F7 (k + 51) (one 1))).bind (fun r3 => ((condM (!r3.isSome) (fnS (F10 (k + 51) (one 2))) default).bind (fun r4 => (letV ((!r3.isSome) && (r4 == ([98, 111, 117, 110, 100, 115] : Bytes))) (fun (x5 : Bool) => (chk [x5] ((fnS (F7 (k + 51) (one 2))).bind (fun r7 => ((condM true (fnS (F14 (k + 51) r7)) default).bind (fun r8 => ((condM (true && ((r8 : Int) == 20)) (fnS (F10 (k + 51) nil0)) default).bind (fun r9 => (letV ((true && ((r8 : Int) == 20)) && (r9 == ([] : Bytes))) (fun (x10 : Bool) => (some (.inl (x10)))))))))))))))))) = some true
  rw [ha7, hb7, hb, hc]
  rfl
end Go.Proofs.YtngjamedgphjiaaGreatDoor

namespace Go.Proofs.YtngjamedgphjiaaGreatDoor
open Go Go.Dl
set_option maxRecDepth 100000
set_option maxHeartbeats 2000000
def Rl {α β : Type} (m : Option α) (m' : Option β) (Q : α → β → Prop) : Prop := (m = none ∧ m' = none) ∨ ∃ a b, m = some a ∧ m' = some b ∧ Q a b
def sR {A A' T T' : Type} (p : A → A' → Prop) (q : T → T' → Prop) : A ⊕ T → A' ⊕ T' → Prop
  | .inl a, .inl b => p a b
  | .inr a, .inr b => q a b
  | _, _ => False
section
variable {A A' T T' U U' R R' X Y α β : Type}
theorem Rl.ret {a : α} {b : β} {Q : α → β → Prop} (h : Q a b) : Rl (some a) (some b) Q := Or.inr ⟨a, b, rfl, rfl, h⟩
theorem Rl.none {Q : α → β → Prop} : Rl (none : Option α) (none : Option β) Q := Or.inl ⟨rfl, rfl⟩
theorem sR.l {p : A → A' → Prop} {q : T → T' → Prop} {a : A} {b : A'} (h : p a b) : sR p q (.inl a) (.inl b) := h
theorem sR.r {p : A → A' → Prop} {q : T → T' → Prop} {a : T} {b : T'} (h : q a b) : sR p q (.inr a) (.inr b) := h
theorem Rl.ite {c : Prop} [Decidable c] {a b : Option α} {a' b' : Option β} {Q : α → β → Prop} (h1 : c → Rl a a' Q) (h2 : ¬ c → Rl b b' Q) : Rl (if c then a else b) (if c then a' else b') Q := by
  split
  · exact h1 ‹_›
  · exact h2 ‹_›
theorem Rl.chk {vs : List Bool} {m : Option α} {m' : Option β} {Q : α → β → Prop} (h : Rl m m' Q) : Rl (Go.Dl.chk vs m) (Go.Dl.chk vs m') Q := by
  induction vs with
  | nil => exact h
  | cons v vs ih =>
    unfold Go.Dl.chk
    split
    · exact ih
    · exact Rl.none
theorem Rl.letV {v : X} {v' : Y} {f : X → Option α} {f' : Y → Option β} {Q : α → β → Prop} (h : Rl (f v) (f' v') Q) : Rl (Go.Dl.letV v f) (Go.Dl.letV v' f') Q := h
theorem Rl.bindS {m : Option (A ⊕ T)} {m' : Option (A' ⊕ T')} {f : T → Option (A ⊕ U)} {f' : T' → Option (A' ⊕ U')} {p : A → A' → Prop} {q : U → U' → Prop} (h : Rl m m' (sR p (fun t t' => Rl (f t) (f' t') (sR p q)))) : Rl (Go.Dl.bindS m f) (Go.Dl.bindS m' f') (sR p q) := by
  rcases h with ⟨rfl, rfl⟩ | ⟨a, b, rfl, rfl, h⟩
  · exact Rl.none
  · match a, b, h with
    | .inl a, .inl b, h => exact Rl.ret h
    | .inr a, .inr b, h => exact h
theorem Rl.blockS {m : Option ((T ⊕ A) ⊕ T)} {m' : Option ((T' ⊕ A') ⊕ T')} {p : A → A' → Prop} {q : T → T' → Prop} (h : Rl m m' (sR (sR q p) q)) : Rl (Go.Dl.blockS m) (Go.Dl.blockS m') (sR p q) := by
  rcases h with ⟨rfl, rfl⟩ | ⟨a, b, rfl, rfl, h⟩
  · exact Rl.none
  · match a, b, h with
    | .inl (.inl a), .inl (.inl b), h => exact Rl.ret h
    | .inl (.inr a), .inl (.inr b), h => exact Rl.ret h
    | .inr a, .inr b, h => exact Rl.ret h
theorem Rl.mapl {m : Option A} {m' : Option A'} {p : A → A' → Prop} {q : T → T' → Prop} (h : Rl m m' p) : Rl (m.map (Sum.inl : A → A ⊕ T)) (m'.map (Sum.inl : A' → A' ⊕ T')) (sR p q) := by
  rcases h with ⟨rfl, rfl⟩ | ⟨a, b, rfl, rfl, h⟩
  · exact Rl.none
  · exact Rl.ret h
theorem Rl.call {m : Option R} {m' : Option R'} {f : R → Option α} {f' : R' → Option β} {Q : α → β → Prop} {P : R → R' → Prop} (h : Rl m m' P) (hf : ∀ v v', P v v' → Rl (f v) (f' v') Q) : Rl (m.bind f) (m'.bind f') Q := by
  rcases h with ⟨rfl, rfl⟩ | ⟨a, b, rfl, rfl, h⟩
  · exact Rl.none
  · exact hf a b h
theorem Rl.callE {m m' : Option R} {f : R → Option α} {f' : R → Option β} {Q : α → β → Prop} (h : m' = m) (hf : ∀ v, Rl (f v) (f' v) Q) : Rl (m.bind f) (m'.bind f') Q := by
  subst h
  cases m'
  · exact Rl.none
  · exact hf _
theorem Rl.iter {K : Nat} {f : T → Option (A ⊕ T)} {f' : T' → Option (A' ⊕ T')} {t0 : T} {t0' : T'} {p : A → A' → Prop} (I : T → T' → Prop) (h0 : I t0 t0') (hs : ∀ t t', I t t' → Rl (f t) (f' t') (sR p I)) : Rl (Go.Dl.iter K f t0) (Go.Dl.iter K f' t0') p := by
  induction K generalizing t0 t0' with
  | zero => exact Rl.none
  | succ K ih =>
    unfold Go.Dl.iter
    rcases hs t0 t0' h0 with ⟨h1, h2⟩ | ⟨a, b, h1, h2, h⟩
    · rw [h1, h2]; exact Rl.none
    · rw [h1, h2]
      match a, b, h with
      | .inl a, .inl b, h => exact Rl.ret h
      | .inr a, .inr b, h => exact ih h
theorem Rl.fnS {m : Option (R ⊕ R)} {m' : Option (R' ⊕ R')} {p : R → R' → Prop} (h : Rl m m' (sR p p)) : Rl (Go.Dl.fnS m) (Go.Dl.fnS m') p := by
  rcases h with ⟨rfl, rfl⟩ | ⟨a, b, rfl, rfl, h⟩
  · exact Rl.none
  · match a, b, h with
    | .inl a, .inl b, h => exact Rl.ret h
    | .inr a, .inr b, h => exact Rl.ret h
theorem Rl.eq {m m' : Option α} (h : Rl m m' (fun a b => b = a)) : m' = m := by
  rcases h with ⟨rfl, rfl⟩ | ⟨a, b, rfl, rfl, rfl⟩ <;> rfl
end
abbrev stk (c : S39) (x : Int) : S39 := ⟨c.fClass, c.fParams, c.fLocals, c.fRet, x, c.fOps⟩
abbrev alt (im : S29) (cs : List S39) (js : List S42) (d w : Int) : S29 := ⟨im.fFaces, im.fClasses, cs, im.fInsts, im.fGlobals, im.fInit, im.fBlocks, im.fIns, im.fOuts, js, d, w⟩
structure Cs (a b : List S39) : Prop where
  len : b.length = a.length
  at_ : ∀ i : Nat, ∃ x, b.getD i default = stk (a.getD i default) x
abbrev altS (s : S107) (cs : List S39) (js : List S42) (d w x : Int) : S107 := ⟨alt s.fim cs js d w, stk s.fc x, s.fknown, s.fstacks, s.ftodo, s.fmost⟩
theorem Cs.cl {a b : List S39} (h : Cs a b) (i : Nat) : (b.getD i default).fClass = (a.getD i default).fClass := by obtain ⟨x, e⟩ := h.at_ i; rw [e]
theorem Cs.pa {a b : List S39} (h : Cs a b) (i : Nat) : (b.getD i default).fParams = (a.getD i default).fParams := by obtain ⟨x, e⟩ := h.at_ i; rw [e]
theorem Cs.re {a b : List S39} (h : Cs a b) (i : Nat) : (b.getD i default).fRet = (a.getD i default).fRet := by obtain ⟨x, e⟩ := h.at_ i; rw [e]
theorem Cs.ops {a b : List S39} (h : Cs a b) (i : Nat) : (b.getD i default).fOps = (a.getD i default).fOps := by obtain ⟨x, e⟩ := h.at_ i; rw [e]
theorem Cs.refl (a : List S39) : Cs a a := ⟨rfl, fun i => ⟨(a.getD i default).fStack, rfl⟩⟩
section
variable {K : Nat} {s : S107} {cs : List S39} {js : List S42} {d w x : Int}
theorem F113_alt (n : Int) : F113 K (altS s cs js d w x) n = F113 K s n := by kernel_rfl
theorem F114_alt (n m : Int) : F114 K (altS s cs js d w x) n m = F114 K s n m := by kernel_rfl
theorem F98_alt (o : S61) : F98 K (altS s cs js d w x) o = F98 K s o := by kernel_rfl
theorem F99_alt (o : S61) : F99 K (altS s cs js d w x) o = F99 K s o := by kernel_rfl
theorem F100_alt (h : Cs s.fim.fCodes cs) (o : S61) : F100 K (altS s cs js d w x) o = F100 K s o := by
  have e1 : (altS s cs js d w x).fim.fCodes = cs := rfl
  have e2 : (altS s cs js d w x).fc.fClass = s.fc.fClass := rfl
  have e3 : (altS s cs js d w x).fim.fFaces = s.fim.fFaces := rfl
  unfold F100
  simp only [e1, e2, e3, F113_alt, F114_alt, h.len, h.cl, h.pa, h.re]
theorem F84_alt (h : Cs s.fim.fCodes cs) (o : S61) : F84 K (altS s cs js d w x) o = F84 K s o := by
  have e3 : (altS s cs js d w x).fim.fFaces = s.fim.fFaces := rfl
  have e4 : (altS s cs js d w x).fim.fBlocks = s.fim.fBlocks := rfl
  have e5 : (altS s cs js d w x).fim.fInsts = s.fim.fInsts := rfl
  have e6 : (altS s cs js d w x).fim.fClasses = s.fim.fClasses := rfl
  have e7 : (altS s cs js d w x).fc.fRet = s.fc.fRet := rfl
  unfold F84
  simp only [e3, e4, e5, e6, e7, F98_alt, F99_alt, F100_alt h]
theorem F66_alt (i : Int) (b : Bytes) : Rl (fnS (F66 K s i b)) (fnS (F66 K (altS s cs js d w x) i b)) (fun v v' => v'.1 = v.1 ∧ v'.2 = altS v.2 cs js d w x ∧ v.2.fim = s.fim ∧ v.2.fc = s.fc) := by
  refine Rl.fnS ?_
  unfold F66
  dsimp only [altS, stk]
  (repeat' (first | (with_reducible first | refine Rl.letV ?_ | refine Rl.ite (fun _ => ?_) (fun _ => ?_) | refine Rl.chk ?_ | refine Rl.ret ?_ | refine sR.l ?_ | refine sR.r ?_)))
  all_goals exact ⟨rfl, rfl, rfl, rfl⟩
theorem F67_alt (h : Cs s.fim.fCodes cs) (i : Int) : Rl (fnS (F67 K s i)) (fnS (F67 K (altS s cs js d w x) i)) (fun v v' => v'.1 = v.1 ∧ v'.2 = altS v.2 cs js d w x ∧ v.2.fim = s.fim ∧ v.2.fc = s.fc) := by
  refine Rl.fnS ?_
  have e1 : (altS s cs js d w x).fc.fOps = s.fc.fOps := rfl
  have e2 : (altS s cs js d w x).fstacks = s.fstacks := rfl
  have e3 : (altS s cs js d w x).fmost = s.fmost := rfl
  unfold F67
  simp only [e1, e2, e3, F84_alt h]
  (repeat' (first | (with_reducible first | refine Rl.letV ?_ | refine Rl.bindS ?_ | refine Rl.blockS ?_ | refine Rl.ite (fun _ => ?_) (fun _ => ?_) | refine Rl.chk ?_ | refine Rl.ret ?_ | refine sR.l ?_ | refine sR.r ?_)))
  refine Rl.callE rfl (fun v1 => ?_)
  (repeat' (first | (with_reducible first | refine Rl.letV ?_ | refine Rl.bindS ?_ | refine Rl.blockS ?_ | refine Rl.ite (fun _ => ?_) (fun _ => ?_) | refine Rl.chk ?_ | refine Rl.ret ?_ | refine sR.l ?_ | refine sR.r ?_)))
  · exact ⟨rfl, rfl, rfl, rfl⟩
  refine Rl.callE rfl (fun v2 => ?_)
  (repeat' (first | (with_reducible first | refine Rl.letV ?_ | refine Rl.bindS ?_ | refine Rl.blockS ?_ | refine Rl.ite (fun _ => ?_) (fun _ => ?_) | refine Rl.chk ?_ | refine Rl.ret ?_ | refine sR.l ?_ | refine sR.r ?_)))
  all_goals (refine Rl.callE rfl (fun v3 => ?_); (repeat' (first | (with_reducible first | refine Rl.letV ?_ | refine Rl.bindS ?_ | refine Rl.blockS ?_ | refine Rl.ite (fun _ => ?_) (fun _ => ?_) | refine Rl.chk ?_ | refine Rl.ret ?_ | refine sR.l ?_ | refine sR.r ?_))))
  all_goals first
    | exact ⟨rfl, rfl, rfl, rfl⟩
    | skip
  all_goals (refine Rl.call (F66_alt (s := ⟨s.fim, s.fc, s.fknown, s.fstacks, s.ftodo, _⟩) _ _) (fun v v' hv => ?_); obtain ⟨v1', v2'⟩ := v'; obtain ⟨r1, r2, h1, h2⟩ := hv; simp only at r1 r2; subst r1; subst r2; (repeat' (first | (with_reducible first | refine Rl.letV ?_ | refine Rl.bindS ?_ | refine Rl.blockS ?_ | refine Rl.ite (fun _ => ?_) (fun _ => ?_) | refine Rl.chk ?_ | refine Rl.ret ?_ | refine sR.l ?_ | refine sR.r ?_))))
  all_goals first
    | exact ⟨rfl, rfl, h1, h2⟩
    | skip
  all_goals (refine Rl.call (F66_alt (s := ⟨v.2.fim, v.2.fc, v.2.fknown, v.2.fstacks, v.2.ftodo, v.2.fmost⟩) _ _) (fun y y' hy => ?_); obtain ⟨y1', y2'⟩ := y'; obtain ⟨r1, r2, h3, h4⟩ := hy; simp only at r1 r2; subst r1; subst r2; (repeat' (first | (with_reducible first | refine Rl.letV ?_ | refine Rl.bindS ?_ | refine Rl.blockS ?_ | refine Rl.ite (fun _ => ?_) (fun _ => ?_) | refine Rl.chk ?_ | refine Rl.ret ?_ | refine sR.l ?_ | refine sR.r ?_))))
  all_goals exact ⟨rfl, rfl, h3.trans h1, h4.trans h2⟩
end
theorem F48_alt {K : Nat} {im : S29} {cs : List S39} {js : List S42} {d w : Int} (h : Cs im.fCodes cs) (n : Int) : fnS (F48 K (alt im cs js d w) n) = fnS (F48 K im n) := by
  refine Rl.eq (Rl.fnS ?_)
  have e1 : (alt im cs js d w).fCodes = cs := rfl
  unfold F48
  simp only [e1, h.len, h.ops]
  (repeat' (first | (with_reducible first | refine Rl.letV ?_ | refine Rl.bindS ?_ | refine Rl.blockS ?_ | refine Rl.mapl ?_ | refine Rl.ite (fun _ => ?_) (fun _ => ?_) | refine Rl.chk ?_ | refine Rl.ret ?_ | refine sR.l ?_ | refine sR.r ?_)))
  · rfl
  obtain ⟨x, hx⟩ := h.at_ n.toNat
  rw [hx]
  refine Rl.call (F66_alt (s := ⟨im, im.fCodes.getD n.toNat default, List.replicate (Int.ofNat (im.fCodes.getD n.toNat default).fOps.length).toNat default, List.replicate (Int.ofNat (im.fCodes.getD n.toNat default).fOps.length).toNat default, [], 0⟩) _ _) (fun v v' hv => ?_)
  obtain ⟨v1', v2'⟩ := v'; obtain ⟨r1, r2, h1, h2⟩ := hv; simp only at r1 r2 h1 h2; subst r1; subst r2
  (repeat' (first | (with_reducible first | refine Rl.letV ?_ | refine Rl.bindS ?_ | refine Rl.blockS ?_ | refine Rl.mapl ?_ | refine Rl.ite (fun _ => ?_) (fun _ => ?_) | refine Rl.chk ?_ | refine Rl.ret ?_ | refine sR.l ?_ | refine sR.r ?_)))
  · rfl
  refine Rl.iter (fun t t' => t' = altS t cs js d w x ∧ t.fim = im) ⟨rfl, h1⟩ (fun t t' ht => ?_)
  obtain ⟨rfl, hi⟩ := ht
  (repeat' (first | (with_reducible first | refine Rl.letV ?_ | refine Rl.bindS ?_ | refine Rl.blockS ?_ | refine Rl.mapl ?_ | refine Rl.ite (fun _ => ?_) (fun _ => ?_) | refine Rl.chk ?_ | refine Rl.ret ?_ | refine sR.l ?_ | refine sR.r ?_)))
  · refine Rl.call (F67_alt (s := ⟨t.fim, t.fc, t.fknown, t.fstacks, _, t.fmost⟩) (by rw [hi]; exact h) _) (fun y y' hy => ?_)
    obtain ⟨y1', y2'⟩ := y'; obtain ⟨r1, r2, h3, h4⟩ := hy; simp only at r1 r2 h3 h4; subst r1; subst r2
    (repeat' (first | (with_reducible first | refine Rl.letV ?_ | refine Rl.bindS ?_ | refine Rl.blockS ?_ | refine Rl.mapl ?_ | refine Rl.ite (fun _ => ?_) (fun _ => ?_) | refine Rl.chk ?_ | refine Rl.ret ?_ | refine sR.l ?_ | refine sR.r ?_)))
    · rfl
    · exact ⟨rfl, h3.trans hi⟩
  · rfl
end Go.Proofs.YtngjamedgphjiaaGreatDoor

namespace Go.Proofs.YtngjamedgphjiaaGreatDoor
open Go Go.Dl
set_option maxRecDepth 100000
set_option maxHeartbeats 2000000
section
variable {K : Nat} {im : S29} {cs : List S39} {js : List S42} {d w : Int}
theorem F23_alt (h : Cs im.fCodes cs) (i : Nat) : F23 K (cs.getD i default) = F23 K (im.fCodes.getD i default) := by
  obtain ⟨x, e⟩ := h.at_ i; rw [e]; rfl
theorem F29_alt (h : Cs im.fCodes cs) (i : Nat) : F29 K (cs.getD i default) = F29 K (im.fCodes.getD i default) := by
  obtain ⟨x, e⟩ := h.at_ i; rw [e]; rfl
theorem F26a_alt (h : Cs im.fCodes cs) : F26f23 K cs = F26f23 K im.fCodes := by
  unfold F26f23 F51f23
  simp only [h.len, F23_alt h]
theorem F26b_alt (h : Cs im.fCodes cs) : F26f29 K cs = F26f29 K im.fCodes := by
  unfold F26f29 F51f29
  simp only [h.len, F29_alt h]
theorem F15_alt (h : Cs im.fCodes cs) (hj : js.length ≤ 100) (hy : fnS (F15 K im) = some true) : fnS (F15 K (alt im cs js d w)) = some true := by
  unfold F15 at hy ⊢
  have e1 : (alt im cs js d w).fCodes = cs := rfl
  have e2 : (alt im cs js d w).fFaces = im.fFaces := rfl
  have e3 : (alt im cs js d w).fClasses = im.fClasses := rfl
  have e4 : (alt im cs js d w).fInsts = im.fInsts := rfl
  have e5 : (alt im cs js d w).fBlocks = im.fBlocks := rfl
  have e6 : (alt im cs js d w).fIns = im.fIns := rfl
  have e7 : (alt im cs js d w).fOuts = im.fOuts := rfl
  have e8 : (alt im cs js d w).fGlobals = im.fGlobals := rfl
  have e9 : (alt im cs js d w).fJobs = js := rfl
  simp only [e1, e2, e3, e4, e5, e6, e7, e8, e9, h.len, F26a_alt h]
  unfold letV at hy ⊢
  dsimp only at hy ⊢
  split at hy
  · cases hy
  · rename_i hc
    rw [if_neg ?_]
    · exact hy
    · simp only [Bool.or_eq_true, decide_eq_true_eq, imax_gt, Int.ofNat_eq_natCast, not_or] at hc ⊢
      omega
theorem F16_alt (h : Cs im.fCodes cs) : F16 K (alt im cs js d w) = F16 K im := by
  unfold F16
  have e1 : (alt im cs js d w).fCodes = cs := rfl
  simp only [e1, F26b_alt h]
theorem F17_alt : F17 K (alt im cs js d w) = F17 K im := by kernel_rfl
theorem F58_alt (a b : Int) : F58 K (alt im cs js d w) a b = F58 K im a b := by kernel_rfl
theorem F38_alt (h : Cs im.fCodes cs) (n : Int) (l : List Int) (t : List Bytes) : F38 K (alt im cs js d w) n l t = F38 K im n l t := by
  have e1 : (alt im cs js d w).fCodes = cs := rfl
  have e3 : (alt im cs js d w).fClasses = im.fClasses := rfl
  unfold F38
  simp only [e1, e3, h.len, h.cl, h.pa, h.re, F58_alt]
theorem F18_alt (h : Cs im.fCodes cs) : F18 K (alt im cs js d w) = F18 K im := by
  have e3 : (alt im cs js d w).fClasses = im.fClasses := rfl
  have e2 : (alt im cs js d w).fFaces = im.fFaces := rfl
  unfold F18
  simp only [e2, e3, F38_alt h]
theorem F43_alt (l : List Int) : F43f39 K l (alt im cs js d w) = F43f39 K l im := by kernel_rfl
theorem F44_alt (l : List S78) : F44f42 K l (alt im cs js d w) = F44f42 K l im := by kernel_rfl
theorem F20_alt : F20 K (alt im im.fCodes js d w) = F20 K im := by
  unfold F20
  have e1 : (alt im im.fCodes js d w).fCodes = im.fCodes := rfl
  have e3 : (alt im im.fCodes js d w).fClasses = im.fClasses := rfl
  simp only [e1, e3, F48_alt (Cs.refl im.fCodes)]
theorem F86_alt (n : Int) : F86 K (alt im im.fCodes js d w) n = F86 K im n := by kernel_rfl
theorem F68_alt : ∀ (K : Nat) (kn : Mp S115) (und : Mp Bool) (n : Int), Rl (fnS (F68 K ⟨im, kn, und⟩ n)) (fnS (F68 K ⟨alt im im.fCodes js d w, kn, und⟩ n)) (fun v v' => v'.1 = v.1 ∧ v'.2 = ⟨alt im im.fCodes js d w, v.2.fknown, v.2.funder⟩ ∧ v.2.fim = im) := by
  intro K
  induction K with
  | zero => intro kn und n; rw [F68, F68]; exact Rl.none
  | succ K ih =>
    intro kn und n
    refine Rl.fnS ?_
    rw [F68, F68]
    simp only [F86_alt]
    (repeat' (first | (with_reducible first | refine Rl.letV ?_ | refine Rl.bindS ?_ | refine Rl.blockS ?_ | refine Rl.mapl ?_ | refine Rl.ite (fun _ => ?_) (fun _ => ?_) | refine Rl.chk ?_ | refine Rl.ret ?_ | refine sR.l ?_ | refine sR.r ?_)))
    · exact ⟨rfl, rfl, rfl⟩
    · exact ⟨rfl, rfl, rfl⟩
    refine Rl.callE rfl (fun v => ?_)
    (repeat' (first | (with_reducible first | refine Rl.letV ?_ | refine Rl.bindS ?_ | refine Rl.blockS ?_ | refine Rl.mapl ?_ | refine Rl.ite (fun _ => ?_) (fun _ => ?_) | refine Rl.chk ?_ | refine Rl.ret ?_ | refine sR.l ?_ | refine sR.r ?_)))
    refine Rl.iter (fun t t' => t'.2 = t.2 ∧ t'.1 = ⟨alt im im.fCodes js d w, t.1.fknown, t.1.funder⟩ ∧ t.1.fim = im) ⟨rfl, rfl, rfl⟩ (fun t t' ht => ?_)
    obtain ⟨⟨im1, kn1, un1⟩, t2⟩ := t
    obtain ⟨t1', t2'⟩ := t'
    obtain ⟨h1, h2, h3⟩ := ht
    simp only at h1 h2 h3
    subst h1; subst h2; subst h3
    (repeat' (first | (with_reducible first | refine Rl.letV ?_ | refine Rl.bindS ?_ | refine Rl.blockS ?_ | refine Rl.mapl ?_ | refine Rl.ite (fun _ => ?_) (fun _ => ?_) | refine Rl.chk ?_ | refine Rl.ret ?_ | refine sR.l ?_ | refine sR.r ?_)))
    · refine Rl.call (ih _ _ _) (fun y y' hy => ?_)
      obtain ⟨y1', y2'⟩ := y'
      obtain ⟨q1, q2, q3⟩ := hy
      simp only at q1 q2 q3
      subst q1; subst q2
      (repeat' (first | (with_reducible first | refine Rl.letV ?_ | refine Rl.bindS ?_ | refine Rl.blockS ?_ | refine Rl.mapl ?_ | refine Rl.ite (fun _ => ?_) (fun _ => ?_) | refine Rl.chk ?_ | refine Rl.ret ?_ | refine sR.l ?_ | refine sR.r ?_)))
      exact ⟨rfl, rfl, q3⟩
    · refine Rl.callE rfl (fun v => ?_)
      (repeat' (first | (with_reducible first | refine Rl.letV ?_ | refine Rl.bindS ?_ | refine Rl.blockS ?_ | refine Rl.mapl ?_ | refine Rl.ite (fun _ => ?_) (fun _ => ?_) | refine Rl.chk ?_ | refine Rl.ret ?_ | refine sR.l ?_ | refine sR.r ?_)))
      exact ⟨rfl, rfl, rfl⟩
end
end Go.Proofs.YtngjamedgphjiaaGreatDoor

namespace Go.Proofs.YtngjamedgphjiaaGreatDoor
open Go Go.Dl
set_option maxRecDepth 100000
set_option maxHeartbeats 2000000
theorem F49_alt {K : Nat} {im : S29} {js : List S42} {d w : Int} : fnS (F49 K (alt im im.fCodes js d w)) = fnS (F49 K im) := by
  refine Rl.eq (Rl.fnS ?_)
  have e1 : (alt im im.fCodes js d w).fCodes = im.fCodes := rfl
  unfold F49
  simp only [e1]
  (repeat' (first | (with_reducible first | refine Rl.letV ?_ | refine Rl.bindS ?_ | refine Rl.blockS ?_ | refine Rl.mapl ?_ | refine Rl.ite (fun _ => ?_) (fun _ => ?_) | refine Rl.chk ?_ | refine Rl.ret ?_ | refine sR.l ?_ | refine sR.r ?_)))
  refine Rl.iter (fun t t' => (⟨t.1, t.2.1, t.2.2.1, t.2.2.2.1, t.2.2.2.2.1, t.2.2.2.2.2.1, t.2.2.2.2.2.2.1, t.2.2.2.2.2.2.2.1, t.2.2.2.2.2.2.2.2.1, t.2.2.2.2.2.2.2.2.2.1, t.2.2.2.2.2.2.2.2.2.2.1, t.2.2.2.2.2.2.2.2.2.2.2.1⟩ : S29) = im ∧ (⟨t'.1, t'.2.1, t'.2.2.1, t'.2.2.2.1, t'.2.2.2.2.1, t'.2.2.2.2.2.1, t'.2.2.2.2.2.2.1, t'.2.2.2.2.2.2.2.1, t'.2.2.2.2.2.2.2.2.1, t'.2.2.2.2.2.2.2.2.2.1, t'.2.2.2.2.2.2.2.2.2.2.1, t'.2.2.2.2.2.2.2.2.2.2.2.1⟩ : S29) = alt im im.fCodes js d w ∧ t'.2.2.2.2.2.2.2.2.2.2.2.2 = t.2.2.2.2.2.2.2.2.2.2.2.2) ⟨rfl, rfl, rfl⟩ (fun t t' ht => ?_)
  obtain ⟨x1, x2, x3, x4, x5, x6, x7, x8, x9, x10, x11, x12, r⟩ := t
  obtain ⟨y1, y2, y3, y4, y5, y6, y7, y8, y9, y10, y11, y12, r'⟩ := t'
  obtain ⟨h1, h2, h3⟩ := ht
  simp only at h1 h2 h3
  subst h3
  simp only [h1, h2]
  (repeat' (first | (with_reducible first | refine Rl.letV ?_ | refine Rl.bindS ?_ | refine Rl.blockS ?_ | refine Rl.mapl ?_ | refine Rl.ite (fun _ => ?_) (fun _ => ?_) | refine Rl.chk ?_ | refine Rl.ret ?_ | refine sR.l ?_ | refine sR.r ?_)))
  · exact ⟨rfl, rfl, rfl⟩
  · refine Rl.call (F68_alt _ _ _ _) (fun v v' hv => ?_)
    obtain ⟨v1', v2'⟩ := v'
    obtain ⟨q1, q2, q3⟩ := hv
    simp only at q1 q2 q3
    subst q1; subst q2
    (repeat' (first | (with_reducible first | refine Rl.letV ?_ | refine Rl.bindS ?_ | refine Rl.blockS ?_ | refine Rl.mapl ?_ | refine Rl.ite (fun _ => ?_) (fun _ => ?_) | refine Rl.chk ?_ | refine Rl.ret ?_ | refine sR.l ?_ | refine sR.r ?_)))
    · rfl
    · exact ⟨q3, rfl, rfl⟩
  · rfl
theorem F9_tot {K : Nat} {a n : Int} (h1 : 1 ≤ n) (h2 : n ≤ 1000) : Ret (F9 K a n) (fun v => 0 ≤ v ∧ v < n) := by
  have hn : IntKind.u64.wrap n = n := by show n % 18446744073709551616 = n; omega
  refine Ret.of ?_
  unfold F9
  rw [hn]
  have ha : 0 ≤ IntKind.u64.wrap a := by show 0 ≤ a % 18446744073709551616; omega
  have hb : 0 ≤ (IntKind.u64.wrap a).tmod n ∧ (IntKind.u64.wrap a).tmod n < n := by
    rw [Int.tmod_eq_emod_of_nonneg ha]
    exact ⟨Int.emod_nonneg _ (by omega), Int.emod_lt_of_pos _ (by omega)⟩
  refine Tot.chk (by simp; omega) (Tot.chk0 (Tot.letV ?_))
  rw [wrap64 (by omega) (by omega)]
  (repeat' (first | (with_reducible first | refine Tot.letV ?_ | refine Tot.chk0 ?_ | refine Tot.ret ?_ | refine sE.l ?_ | refine sE.r ?_)))
  exact hb
structure OkC (K : Nat) (a0 : S29) (i : Nat) : Prop where
  c : (((decide ((((a0.fCodes.getD i default).fClass) : Int) < (-1))) || (decide ((((a0.fCodes.getD i default).fClass) : Int) ≥ (Int.ofNat a0.fClasses.length)))) || (((((a0.fCodes.getD i default).fClass) : Int) == (-1)) && ((!(((a0.fCodes.getD i default).fParams) == ([] : Bytes))) || ((a0.fCodes.getD i default).fRet)))) = false
  f : fnS (F48 K a0 (i : Int)) = some ((a0.fCodes.getD i default).fStack, true)
theorem F20_okc {K : Nat} {a0 : S29} {m : Nat} (hK : 1000 < K) (hm : m ≤ 1) (h : Sm a0 m) : Ret (F20 K a0) (fun v => v = true → ∀ i, i < a0.fCodes.length → OkC K a0 i) := by
  have hl := h.codes
  refine Ret.of ?_
  unfold F20
  refine Tot.bindS (Tot.blockS (Tot.mapl ?_))
  refine Tot.upP a0.fCodes.length (fun i => OkC K a0 i) (by omega) (fun i hi => ?_) (fun hp => ?_)
  · refine Tot.letV (Tot.iteT (by simp only [Int.ofNat_eq_natCast, decide_eq_true_eq]; omega) ?_)
    refine Tot.bindS (Tot.blockS (Tot.chk (inb_nat hi) (Tot.chk0 (Tot.letV (Tot.ite (fun _ => ?_) (fun hc => ?_))))))
    · (repeat' (first | (with_reducible first | refine Tot.letV ?_ | refine Tot.bindS ?_ | refine Tot.blockS ?_ | refine Tot.iteT (by assumption) ?_ | refine Tot.iteF (by assumption) ?_ | refine Tot.ite (fun _ => ?_) (fun _ => ?_) | refine Tot.chk0 ?_ | refine Tot.ret ?_ | refine sE.l ?_ | refine sE.r ?_)))
      (all_goals (try (first | trivial | (intro h; cases h; done))))
    obtain ⟨v, hv, _⟩ := F48_tot (K := K) (n := (i : Int)) hK hm h
    refine Tot.call (Ret.eq hv) (fun v' hv' => ?_)
    subst hv'
    refine Tot.letV (Tot.ite (fun _ => ?_) (fun hc2 => ?_))
    · (repeat' (first | (with_reducible first | refine Tot.letV ?_ | refine Tot.bindS ?_ | refine Tot.blockS ?_ | refine Tot.iteT (by assumption) ?_ | refine Tot.iteF (by assumption) ?_ | refine Tot.ite (fun _ => ?_) (fun _ => ?_) | refine Tot.chk0 ?_ | refine Tot.ret ?_ | refine sE.l ?_ | refine sE.r ?_)))
      (all_goals (try (first | trivial | (intro h; cases h; done))))
    (repeat' (first | (with_reducible first | refine Tot.letV ?_ | refine Tot.bindS ?_ | refine Tot.blockS ?_ | refine Tot.iteT (by assumption) ?_ | refine Tot.iteF (by assumption) ?_ | refine Tot.ite (fun _ => ?_) (fun _ => ?_) | refine Tot.chk0 ?_ | refine Tot.ret ?_ | refine sE.l ?_ | refine sE.r ?_)))
    refine ⟨wrap64 (by omega) (by omega), ?_, ?_⟩
    · simpa only [Int.toNat_natCast, Bool.not_eq_true] using hc
    · rw [hv]
      simp only [Int.toNat_natCast, Bool.not_eq_true, Bool.or_eq_false_iff, Bool.not_eq_false', bne_eq_false_iff_eq] at hc2
      obtain ⟨v1, v2⟩ := v'
      simp only at hc2
      rw [hc2.1, hc2.2]
  · refine Tot.letV (Tot.iteF (by simp) ?_)
    (repeat' (first | (with_reducible first | refine Tot.letV ?_ | refine Tot.bindS ?_ | refine Tot.blockS ?_ | refine Tot.iteT (by assumption) ?_ | refine Tot.iteF (by assumption) ?_ | refine Tot.ite (fun _ => ?_) (fun _ => ?_) | refine Tot.chk0 ?_ | refine Tot.ret ?_ | refine sE.l ?_ | refine sE.r ?_)))
    exact fun _ => hp
theorem F7_tot {K : Nat} {im : S29} {m : Nat} (hK : 2000000 < K) (hm : m ≤ 1) (h : Sm im m) : Ret (F7 K im) (fun e => e = none → Yes K im) := by
  refine Ret.of ?_
  unfold F7
  refine Tot.call (F10_tot hK hm h) (fun v hv => ?_)
  refine Tot.ite (fun _ => ?_) (fun hc => ?_)
  · refine Tot.call (Ret.eq (r := some (20, 0)) rfl) (fun e he => ?_)
    subst he
    (repeat' (first | (with_reducible first | refine Tot.iteT (by assumption) ?_ | refine Tot.iteF (by assumption) ?_ | refine Tot.ite (fun _ => ?_) (fun _ => ?_) | refine Tot.ret ?_ | refine sE.l ?_ | refine sE.r ?_)))
    simp
  · (repeat' (first | (with_reducible first | refine Tot.iteT (by assumption) ?_ | refine Tot.iteF (by assumption) ?_ | refine Tot.ite (fun _ => ?_) (fun _ => ?_) | refine Tot.ret ?_ | refine sE.l ?_ | refine sE.r ?_)))
    have hv2 : v = [] := by simpa using hc
    exact fun _ => hv hv2
theorem F8_ret {K : Nat} (hK : 2000000 < K) : Ret (F8 K) (fun v => v = true) := Ret.eq (F8_true hK)
end Go.Proofs.YtngjamedgphjiaaGreatDoor
