/- What an operation takes and leaves: answers. The walk over a code answers. No conditions. -/
import Derived.Test.YtngjamedgphjiaaGreatDoorTA
set_option linter.unusedVariables false
set_option linter.unusedSimpArgs false
set_option linter.unusedSectionVars false
namespace Go.Proofs.YtngjamedgphjiaaGreatDoor
open Go Go.Dl
set_option maxRecDepth 100000
set_option maxHeartbeats 2000000
def MayOk (o : S61) : Prop := o.fK ≠ 1 → o.fK ≠ 20 → (0 ≤ o.fA ∧ o.fA ≤ 10000) ∧ (0 ≤ o.fB ∧ o.fB ≤ 10000)
theorem F97_val {K : Nat} {a0 a1 a2 : Int} : Ret (F97 K a0 a1 a2) (fun v => v = true → a1 ≤ a0 ∧ a0 ≤ a2) := by
  refine ⟨_, rfl, ?_⟩
  intro h
  simpa using h
theorem F97_valC {K : Nat} {a0 a1 a2 : Int} {d : Bool} {α : Type} {f : Bool → Option α} {Q : α → Prop} (h : ∀ v, (v = true → a1 ≤ a0 ∧ a0 ≤ a2) → Tot (f v) Q) : Tot ((condM true (fnS (F97 K a0 a1 a2)) d).bind f) Q :=
  Tot.callC (fun _ => F97_val) (fun v hv => h v (hv rfl))
theorem F83_may {K : Nat} {o : S61} : Ret (F83 K o) (fun v => v = true → MayOk o) := by
  refine Ret.of ?_
  unfold F83
  refine Tot.call F96_tot (fun n _ => ?_)
  refine Tot.letV (Tot.ite (fun _ => ?_) (fun _ => ?_))
  · (repeat' (first | (with_reducible first | refine Tot.letV ?_ | refine Tot.bindS ?_ | refine Tot.blockS ?_ | refine Tot.iteT (by assumption) ?_ | refine Tot.iteF (by assumption) ?_ | refine Tot.ite (fun _ => ?_) (fun _ => ?_) | refine Tot.ret ?_ | refine sE.l ?_ | refine sE.r ?_)))
    simp
  refine F97_valC (fun a ha => F97_valC (fun b hb => ?_))
  (repeat' (first | (with_reducible first | refine Tot.letV ?_ | refine Tot.bindS ?_ | refine Tot.blockS ?_ | refine Tot.iteT (by assumption) ?_ | refine Tot.iteF (by assumption) ?_ | refine Tot.ite (fun _ => ?_) (fun _ => ?_) | refine Tot.ret ?_ | refine sE.l ?_ | refine sE.r ?_)))
  all_goals (try (refine Tot.call F97_val (fun v hv => ?_)))
  (repeat' (first | (with_reducible first | refine Tot.letV ?_ | refine Tot.bindS ?_ | refine Tot.blockS ?_ | refine Tot.iteT (by assumption) ?_ | refine Tot.iteF (by assumption) ?_ | refine Tot.ite (fun _ => ?_) (fun _ => ?_) | refine Tot.ret ?_ | refine sE.l ?_ | refine sE.r ?_)))
  all_goals (try (refine Tot.call F97_val (fun v2 hv2 => ?_)))
  (repeat' (first | (with_reducible first | refine Tot.letV ?_ | refine Tot.bindS ?_ | refine Tot.blockS ?_ | refine Tot.iteT (by assumption) ?_ | refine Tot.iteF (by assumption) ?_ | refine Tot.ite (fun _ => ?_) (fun _ => ?_) | refine Tot.ret ?_ | refine sE.l ?_ | refine sE.r ?_)))
  all_goals (intro hh h1 h20; simp only [Bool.and_eq_true] at hh; first
    | exact ⟨⟨by have := hv hh.1; omega, by have := hv hh.1; omega⟩, hb hh.2⟩
    | exact ⟨ha hh.1, ⟨by have := hv hh.2; omega, by have := hv hh.2; omega⟩⟩
    | exact ⟨ha hh.1, hb hh.2⟩
    | (exfalso; simp_all))
def mu (s : S107) : Nat := s.ftodo.length + 2 * s.fknown.count false
structure Ck (m : Nat) (s : S107) : Prop where
  im : Sm s.fim m
  c : SmC s.fc
  kl : s.fknown.length = s.fc.fOps.length
  sl : s.fstacks.length = s.fc.fOps.length
  st : ∀ x ∈ s.fstacks, x.length ≤ 10000
  td : ∀ i ∈ s.ftodo, 0 ≤ i ∧ i < s.fc.fOps.length
  mu : mu s ≤ 400
theorem F113_tot {K : Nat} {s : S107} {n : Int} {m : Nat} (h : Ck m s) : Ret (F113 K s n) (fun v => SmD v.1 m) := by
  refine Ret.of ?_
  unfold F113
  refine Tot.letV (Tot.ite (fun _ => ?_) (fun hc => ?_))
  · (repeat' (first | (with_reducible first | refine Tot.letV ?_ | refine Tot.ite (fun _ => ?_) (fun _ => ?_) | refine Tot.chk0 ?_ | refine Tot.ret ?_ | refine sE.l ?_ | refine sE.r ?_) | with_reducible refine Tot.chk (by (first | assumption | omega | (simp [inb, room, imax] at *; try omega))) ?_))
    exact ⟨by simp, by simp, by simp, by simp, ⟨by simp, by simp⟩, by simp⟩
  · simp only [Bool.or_eq_true, decide_eq_true_eq, not_or, Int.ofNat_eq_natCast] at hc
    refine Tot.chk (by simp only [inb, Bool.and_eq_true, decide_eq_true_eq]; omega) (Tot.chk0 ?_)
    (repeat' (first | (with_reducible first | refine Tot.letV ?_ | refine Tot.ite (fun _ => ?_) (fun _ => ?_) | refine Tot.chk0 ?_ | refine Tot.ret ?_ | refine sE.l ?_ | refine sE.r ?_) | with_reducible refine Tot.chk (by (first | assumption | omega | (simp [inb, room, imax] at *; try omega))) ?_))
    exact getD_all (d := default) h.im.cls (by omega)
theorem F114_tot {K : Nat} {s : S107} {n a : Int} {m : Nat} (hK : 1000 < K) (h : Ck m s) : Ret (F114 K s n a) (fun _ => True) := by
  have hl := h.im.classes
  refine Ret.of ?_
  unfold F114
  refine Tot.letV (Tot.bindS (Tot.blockS (Tot.mapl ?_)))
  rw [wrap64 (by simp; omega) (by simp; omega)]
  refine Tot.loop (fun t : Int × Int => 0 ≤ t.2) (fun t => s.fim.fClasses.length + 1 - t.2.toNat) (by simp) (by simp; omega) (fun t hI => ?_)
  refine Tot.ite (fun hc => ?_) (fun _ => ?_)
  · simp only [Int.ofNat_eq_natCast, decide_eq_true_eq] at hc
    refine Tot.bindS (Tot.blockS (Tot.ite (fun _ => ?_) (fun _ => ?_)))
    · (repeat' (first | (with_reducible first | refine Tot.letV ?_ | refine Tot.bindS ?_ | refine Tot.blockS ?_ | refine Tot.mapl ?_ | refine Tot.ite (fun _ => ?_) (fun _ => ?_) | refine Tot.ret ?_ | refine sE.l ?_ | refine sE.r ?_) | (refine (And.intro (a := IntKind.i64.wrap _ = _) (wrap64 (by omega) (by omega)) ?_))))
      (all_goals (try (first | trivial | (intro h; cases h; done))))
    · refine Tot.call (F113_tot h) (fun v _ => ?_)
      (repeat' (first | (with_reducible first | refine Tot.letV ?_ | refine Tot.bindS ?_ | refine Tot.blockS ?_ | refine Tot.mapl ?_ | refine Tot.ite (fun _ => ?_) (fun _ => ?_) | refine Tot.ret ?_ | refine sE.l ?_ | refine sE.r ?_) | (refine (And.intro (a := IntKind.i64.wrap _ = _) (wrap64 (by omega) (by omega)) ?_))))
      · (all_goals (try (first | trivial | (intro h; cases h; done))))
      · show 0 ≤ IntKind.i64.wrap (t.2 + 1) ∧ s.fim.fClasses.length + 1 - (IntKind.i64.wrap (t.2 + 1)).toNat < s.fim.fClasses.length + 1 - t.2.toNat
        rw [wrap64 (by omega) (by omega)]; omega
  · (repeat' (first | (with_reducible first | refine Tot.letV ?_ | refine Tot.bindS ?_ | refine Tot.blockS ?_ | refine Tot.mapl ?_ | refine Tot.ite (fun _ => ?_) (fun _ => ?_) | refine Tot.ret ?_ | refine sE.l ?_ | refine sE.r ?_) | (refine (And.intro (a := IntKind.i64.wrap _ = _) (wrap64 (by omega) (by omega)) ?_))))
    (all_goals (try (first | trivial | (intro h; cases h; done))))
theorem F111_tot {K : Nat} {s : S107} {o : S61} {m : Nat} (hm : m ≤ 1) (h : Ck m s) : Ret (F111 K s o) (fun v => v.length ≤ 200) := by
  have h1 := h.c.p
  have h2 := h.c.l
  have h3 := h.im.globals
  refine Ret.of ?_
  unfold F111
  refine Tot.bindS (Tot.blockS (Tot.bindF ?_ (fun u => ?_)))
  · (repeat' (first | (with_reducible first | refine Tot.bindS ?_ | refine Tot.blockS ?_ | refine Tot.iteT (by assumption) ?_ | refine Tot.iteF (by assumption) ?_ | refine Tot.ite (fun _ => ?_) (fun _ => ?_) | refine Tot.chk0 ?_ | refine Tot.ret ?_ | refine sE.l ?_ | refine sE.r ?_)))
    (all_goals (try (first | trivial | (intro h; cases h; done))))
  refine Tot.ite (fun _ => ?_) (fun _ => ?_)
  · (repeat' (first | (with_reducible first | refine Tot.bindS ?_ | refine Tot.blockS ?_ | refine Tot.ite (fun _ => ?_) (fun _ => ?_) | refine Tot.chk0 ?_ | refine Tot.ret ?_ | refine sE.l ?_ | refine sE.r ?_) | with_reducible refine Tot.chk (by (first | assumption | omega | (simp [inb, room, imax] at *; try omega))) ?_))
    simp; omega
  refine Tot.bindF ?_ (fun u => ?_)
  · (repeat' (first | (with_reducible first | refine Tot.bindS ?_ | refine Tot.blockS ?_ | refine Tot.iteT (by assumption) ?_ | refine Tot.iteF (by assumption) ?_ | refine Tot.ite (fun _ => ?_) (fun _ => ?_) | refine Tot.chk0 ?_ | refine Tot.ret ?_ | refine sE.l ?_ | refine sE.r ?_)))
    (all_goals (try (first | trivial | (intro h; cases h; done))))
  refine Tot.ite (fun _ => ?_) (fun _ => ?_)
  · (repeat' (first | (with_reducible first | refine Tot.bindS ?_ | refine Tot.blockS ?_ | refine Tot.ite (fun _ => ?_) (fun _ => ?_) | refine Tot.chk0 ?_ | refine Tot.ret ?_ | refine sE.l ?_ | refine sE.r ?_) | with_reducible refine Tot.chk (by (first | assumption | omega | (simp [inb, room, imax] at *; try omega))) ?_))
    show List.length _ ≤ 200
    omega
  (repeat' (first | (with_reducible first | refine Tot.bindS ?_ | refine Tot.blockS ?_ | refine Tot.iteT (by assumption) ?_ | refine Tot.iteF (by assumption) ?_ | refine Tot.ite (fun _ => ?_) (fun _ => ?_) | refine Tot.chk0 ?_ | refine Tot.ret ?_ | refine sE.l ?_ | refine sE.r ?_)))
  refine Tot.call (F113_tot h) (fun v hv => ?_)
  (repeat' (first | (with_reducible first | refine Tot.bindS ?_ | refine Tot.blockS ?_ | refine Tot.ite (fun _ => ?_) (fun _ => ?_) | refine Tot.chk0 ?_ | refine Tot.ret ?_ | refine sE.l ?_ | refine sE.r ?_) | with_reducible refine Tot.chk (by (first | assumption | omega | (simp [inb, room, imax] at *; try omega))) ?_))
  have := hv.f
  show List.length _ ≤ 200
  omega
theorem F130_tot {K : Nat} {a : Bool} : Ret (F130 K a) (fun v => v.length ≤ 1) := by
  refine Ret.of ?_
  unfold F130
  (repeat' (first | (with_reducible first | refine Tot.iteT (by assumption) ?_ | refine Tot.iteF (by assumption) ?_ | refine Tot.ite (fun _ => ?_) (fun _ => ?_) | refine Tot.ret ?_ | refine sE.l ?_ | refine sE.r ?_)))
  · simp
  · simp
theorem F115_tot {K : Nat} {l : List Bytes} {n : Int} {ah : Bytes} (h : ∀ x ∈ l, x.length ≤ 100) (hn : 0 ≤ n) (ha : ah.length ≤ 1) : Ret (F115 K l n ah) (fun v => v.1.length ≤ 200 ∧ v.2.1.length ≤ 1) := by
  refine Ret.of ?_
  unfold F115
  refine Tot.letV (Tot.ite (fun _ => ?_) (fun hc => ?_))
  · (repeat' (first | (with_reducible first | refine Tot.letV ?_ | refine Tot.iteT (by assumption) ?_ | refine Tot.iteF (by assumption) ?_ | refine Tot.ite (fun _ => ?_) (fun _ => ?_) | refine Tot.chk0 ?_ | refine Tot.ret ?_ | refine sE.l ?_ | refine sE.r ?_)))
    simp
  · simp only [decide_eq_true_eq, Int.ofNat_eq_natCast] at hc
    have hx := getD_all (d := default) h (i := n.toNat) (by omega)
    refine Tot.chk (by simp only [inb, Bool.and_eq_true, decide_eq_true_eq]; omega) (Tot.chk0 ?_)
    refine Tot.call (F56_tot (by omega)) (fun v hv => ?_)
    refine Tot.chk (by simp only [room, decide_eq_true_eq]; omega) (Tot.chk0 ?_)
    refine Tot.call F130_tot (fun v2 hv2 => ?_)
    (repeat' (first | (with_reducible first | refine Tot.letV ?_ | refine Tot.iteT (by assumption) ?_ | refine Tot.iteF (by assumption) ?_ | refine Tot.ite (fun _ => ?_) (fun _ => ?_) | refine Tot.chk0 ?_ | refine Tot.ret ?_ | refine sE.l ?_ | refine sE.r ?_)))
    exact ⟨by simp; omega, hv2⟩
theorem F98_tot {K : Nat} {s : S107} {o : S61} {m : Nat} (hm : m ≤ 1) (h : Ck m s) (ho : 0 ≤ o.fA) : Ret (F98 K s o) (fun v => v.1.length ≤ 200 ∧ v.2.1.length ≤ 1) := by
  refine Ret.of ?_
  unfold F98
  refine Tot.call (F111_tot hm h) (fun v hv => ?_)
  refine Tot.letV (Tot.ite (fun _ => ?_) (fun hc => ?_))
  · (repeat' (first | (with_reducible first | refine Tot.letV ?_ | refine Tot.bindS ?_ | refine Tot.blockS ?_ | refine Tot.iteT (by assumption) ?_ | refine Tot.iteF (by assumption) ?_ | refine Tot.ite (fun _ => ?_) (fun _ => ?_) | refine Tot.chk0 ?_ | refine Tot.ret ?_ | refine sE.l ?_ | refine sE.r ?_)))
    simp
  · simp only [decide_eq_true_eq, Int.ofNat_eq_natCast] at hc
    have hw : IntKind.i64.wrap (o.fA + 1) = o.fA + 1 := wrap64 (by omega) (by omega)
    rw [hw]
    refine Tot.chk (by simp only [bndOk, Bool.and_eq_true, decide_eq_true_eq]; omega) (Tot.chk0 (Tot.letV ?_))
    refine Tot.bindS (Tot.blockS (Tot.bindF ?_ (fun u => ?_)))
    · (repeat' (first | (with_reducible first | refine Tot.letV ?_ | refine Tot.bindS ?_ | refine Tot.blockS ?_ | refine Tot.iteT (by assumption) ?_ | refine Tot.iteF (by assumption) ?_ | refine Tot.ite (fun _ => ?_) (fun _ => ?_) | refine Tot.chk0 ?_ | refine Tot.ret ?_ | refine sE.l ?_ | refine sE.r ?_)))
      (all_goals (try (first | trivial | (intro h; cases h; done))))
    (repeat' (first | (with_reducible first | refine Tot.letV ?_ | refine Tot.bindS ?_ | refine Tot.blockS ?_ | refine Tot.iteT (by assumption) ?_ | refine Tot.iteF (by assumption) ?_ | refine Tot.ite (fun _ => ?_) (fun _ => ?_) | refine Tot.chk0 ?_ | refine Tot.ret ?_ | refine sE.l ?_ | refine sE.r ?_)))
    · refine ⟨by simp, ?_⟩
      simp; omega
    · refine ⟨?_, by simp⟩
      simp; omega
theorem F112_tot {K : Nat} {a : Bytes} {c : UInt8} : Ret (F112 K a [c]) (fun _ => True) := ⟨_, rfl, trivial⟩
theorem F99_tot {K : Nat} {s : S107} {o : S61} {m : Nat} (hm : m ≤ 1) (h : Ck m s) (ho : 0 ≤ o.fA ∧ o.fA ≤ 10000) (hb : 0 ≤ o.fB ∧ o.fB ≤ 10000) : Ret (F99 K s o) (fun _ => True) := by
  refine Ret.of ?_
  unfold F99
  refine Tot.call (F111_tot hm h) (fun v hv => ?_)
  have hw : IntKind.i64.wrap (o.fA + o.fB) = o.fA + o.fB := wrap64 (by omega) (by omega)
  rw [hw]
  refine Tot.chk ?_ (Tot.chk0 (Tot.letV ?_))
  · rw [Bool.or_eq_true]
    simp only [bndOk, Bool.and_eq_true, decide_eq_true_eq, Bool.not_eq_true', decide_eq_false_iff_not, Int.ofNat_eq_natCast]
    omega
  refine Tot.callC (fun _ => F112_tot) (fun v _ => ?_)
  (repeat' (first | (with_reducible first | refine Tot.letV ?_ | refine Tot.chk0 ?_ | refine Tot.ret ?_ | refine sE.l ?_ | refine sE.r ?_)))
  (all_goals (try (first | trivial | (intro h; cases h; done))))
end Go.Proofs.YtngjamedgphjiaaGreatDoor

namespace Go.Proofs.YtngjamedgphjiaaGreatDoor
open Go Go.Dl
set_option maxRecDepth 100000
set_option maxHeartbeats 2000000
theorem SmD.t100 {d : S47} {m : Nat} (h : SmD d m) : ∀ x ∈ d.fSigs, x.length ≤ 100 := fun x hx => by have := h.s.t x hx; omega
theorem F100_tot {K : Nat} {s : S107} {o : S61} {m : Nat} (hK : 1000 < K) (hm : m ≤ 1) (h : Ck m s) (ho : 0 ≤ o.fA) (hb : 0 ≤ o.fB) : Ret (F100 K s o) (fun v => v.1.length ≤ 200 ∧ v.2.1.length ≤ 1) := by
  refine Ret.of ?_
  unfold F100
  refine Tot.bindS (Tot.blockS (Tot.ite (fun _ => ?_) (fun _ => ?_)))
  · refine Tot.letV (Tot.ite (fun _ => ?_) (fun hc => ?_))
    · (repeat' (first | (with_reducible first | refine Tot.letV ?_ | refine Tot.bindS ?_ | refine Tot.blockS ?_ | refine Tot.iteT (by assumption) ?_ | refine Tot.iteF (by assumption) ?_ | refine Tot.ite (fun _ => ?_) (fun _ => ?_) | refine Tot.chk0 ?_ | refine Tot.ret ?_ | refine sE.l ?_ | refine sE.r ?_)))
      simp
    · simp only [decide_eq_true_eq, Int.ofNat_eq_natCast] at hc
      have hx := getD_all (d := default) h.im.code (i := o.fA.toNat) (by omega)
      refine Tot.chk (by simp only [inb, Bool.and_eq_true, decide_eq_true_eq]; omega) (Tot.chk0 (Tot.letV ?_))
      refine Tot.call (F113_tot h) (fun v1 _ => ?_)
      refine Tot.call (F113_tot h) (fun v2 _ => ?_)
      refine Tot.callC (fun _ => F114_tot hK h) (fun v3 _ => ?_)
      refine Tot.ite (fun _ => ?_) (fun _ => ?_)
      · (repeat' (first | (with_reducible first | refine Tot.letV ?_ | refine Tot.bindS ?_ | refine Tot.blockS ?_ | refine Tot.iteT (by assumption) ?_ | refine Tot.iteF (by assumption) ?_ | refine Tot.ite (fun _ => ?_) (fun _ => ?_) | refine Tot.chk0 ?_ | refine Tot.ret ?_ | refine sE.l ?_ | refine sE.r ?_)))
        simp
      refine Tot.letV (Tot.letV ?_)
      refine Tot.call (F59_tot (by have := hx.p; omega)) (fun v4 hv4 => ?_)
      refine Tot.callC (fun _ => F115_tot (by have := hx.p; simpa using (by omega)) (by omega) (by simp)) (fun v5 hv5 => ?_)
      (repeat' (first | (with_reducible first | refine Tot.letV ?_ | refine Tot.bindS ?_ | refine Tot.blockS ?_ | refine Tot.iteT (by assumption) ?_ | refine Tot.iteF (by assumption) ?_ | refine Tot.ite (fun _ => ?_) (fun _ => ?_) | refine Tot.chk0 ?_ | refine Tot.ret ?_ | refine sE.l ?_ | refine sE.r ?_)))
      exact hv5 rfl
  refine Tot.ite (fun _ => ?_) (fun _ => ?_)
  · refine Tot.call (F113_tot h) (fun v1 hv1 => ?_)
    refine Tot.call (F115_tot hv1.t100 ho (by simp)) (fun v2 hv2 => ?_)
    (repeat' (first | (with_reducible first | refine Tot.letV ?_ | refine Tot.bindS ?_ | refine Tot.blockS ?_ | refine Tot.iteT (by assumption) ?_ | refine Tot.iteF (by assumption) ?_ | refine Tot.ite (fun _ => ?_) (fun _ => ?_) | refine Tot.chk0 ?_ | refine Tot.ret ?_ | refine sE.l ?_ | refine sE.r ?_)))
    exact hv2
  refine Tot.ite (fun _ => ?_) (fun _ => ?_)
  · refine Tot.call (F113_tot h) (fun v1 hv1 => ?_)
    refine Tot.call (F115_tot hv1.t100 ho (by simp)) (fun v2 hv2 => ?_)
    (repeat' (first | (with_reducible first | refine Tot.letV ?_ | refine Tot.bindS ?_ | refine Tot.blockS ?_ | refine Tot.iteT (by assumption) ?_ | refine Tot.iteF (by assumption) ?_ | refine Tot.ite (fun _ => ?_) (fun _ => ?_) | refine Tot.chk0 ?_ | refine Tot.ret ?_ | refine sE.l ?_ | refine sE.r ?_)))
    exact hv2
  (repeat' (first | (with_reducible first | refine Tot.letV ?_ | refine Tot.bindS ?_ | refine Tot.blockS ?_ | refine Tot.iteT (by assumption) ?_ | refine Tot.iteF (by assumption) ?_ | refine Tot.ite (fun _ => ?_) (fun _ => ?_) | refine Tot.chk0 ?_ | refine Tot.ret ?_ | refine sE.l ?_ | refine sE.r ?_)))
  · simp
  · rename_i hc
    simp only [decide_eq_true_eq, Int.ofNat_eq_natCast] at hc
    have hx := getD_all (d := default) h.im.face (i := o.fA.toNat) (by omega)
    refine Tot.chk (by simp only [inb, Bool.and_eq_true, decide_eq_true_eq]; omega) (Tot.chk0 (Tot.letV ?_))
    refine Tot.callC (fun _ => F115_tot (fun x hq => by have := hx.t x hq; omega) hb (by simp)) (fun v5 hv5 => ?_)
    (repeat' (first | (with_reducible first | refine Tot.letV ?_ | refine Tot.bindS ?_ | refine Tot.blockS ?_ | refine Tot.iteT (by assumption) ?_ | refine Tot.iteF (by assumption) ?_ | refine Tot.ite (fun _ => ?_) (fun _ => ?_) | refine Tot.chk0 ?_ | refine Tot.ret ?_ | refine sE.l ?_ | refine sE.r ?_)))
    exact hv5 rfl
theorem F84_tot {K : Nat} {s : S107} {o : S61} {m : Nat} (hK : 1000 < K) (hm : m ≤ 1) (h : Ck m s) (ho : MayOk o) : Ret (F84 K s o) (fun v => v.1.length ≤ 200 ∧ v.2.1.length ≤ 1) := by
  refine Ret.of ?_
  unfold F84
  refine Tot.bindS (Tot.blockS (Tot.ite (fun _ => ?_) (fun h1 => ?_)))
  · (repeat' (first | (with_reducible first | refine Tot.letV ?_ | refine Tot.bindS ?_ | refine Tot.blockS ?_ | refine Tot.iteT (by assumption) ?_ | refine Tot.iteF (by assumption) ?_ | refine Tot.ite (fun _ => ?_) (fun _ => ?_) | refine Tot.ret ?_ | refine sE.l ?_ | refine sE.r ?_)))
    simp
  have h1' : o.fK ≠ 1 := by simpa using h1
  refine Tot.bindF ?_ (fun u => ?_)
  · (repeat' (first | (with_reducible first | refine Tot.letV ?_ | refine Tot.bindS ?_ | refine Tot.blockS ?_ | refine Tot.iteT (by assumption) ?_ | refine Tot.iteF (by assumption) ?_ | refine Tot.ite (fun _ => ?_) (fun _ => ?_) | refine Tot.ret ?_ | refine sE.l ?_ | refine sE.r ?_)))
    (all_goals (try (first | trivial | (intro h; cases h; done))))
  refine Tot.ite (fun _ => ?_) (fun _ => ?_)
  · (repeat' (first | (with_reducible first | refine Tot.letV ?_ | refine Tot.bindS ?_ | refine Tot.blockS ?_ | refine Tot.iteT (by assumption) ?_ | refine Tot.iteF (by assumption) ?_ | refine Tot.ite (fun _ => ?_) (fun _ => ?_) | refine Tot.ret ?_ | refine sE.l ?_ | refine sE.r ?_)))
    simp
  refine Tot.ite (fun _ => ?_) (fun _ => ?_)
  · (repeat' (first | (with_reducible first | refine Tot.letV ?_ | refine Tot.bindS ?_ | refine Tot.blockS ?_ | refine Tot.iteT (by assumption) ?_ | refine Tot.iteF (by assumption) ?_ | refine Tot.ite (fun _ => ?_) (fun _ => ?_) | refine Tot.ret ?_ | refine sE.l ?_ | refine sE.r ?_)))
    simp
  refine Tot.ite (fun _ => ?_) (fun _ => ?_)
  · (repeat' (first | (with_reducible first | refine Tot.letV ?_ | refine Tot.bindS ?_ | refine Tot.blockS ?_ | refine Tot.iteT (by assumption) ?_ | refine Tot.iteF (by assumption) ?_ | refine Tot.ite (fun _ => ?_) (fun _ => ?_) | refine Tot.ret ?_ | refine sE.l ?_ | refine sE.r ?_)))
    simp
  (repeat' (first | (with_reducible first | refine Tot.letV ?_ | refine Tot.bindS ?_ | refine Tot.blockS ?_ | refine Tot.iteT (by assumption) ?_ | refine Tot.iteF (by assumption) ?_ | refine Tot.ite (fun _ => ?_) (fun _ => ?_) | refine Tot.ret ?_ | refine sE.l ?_ | refine sE.r ?_)))
  all_goals first
    | (refine Tot.call (F98_tot hm h (ho h1' (by intro e; simp_all)).1.1) (fun v hv => ?_); (repeat' (first | (with_reducible first | refine Tot.letV ?_ | refine Tot.bindS ?_ | refine Tot.blockS ?_ | refine Tot.iteT (by assumption) ?_ | refine Tot.iteF (by assumption) ?_ | refine Tot.ite (fun _ => ?_) (fun _ => ?_) | refine Tot.ret ?_ | refine sE.l ?_ | refine sE.r ?_))); exact hv)
    | (refine Tot.call (F99_tot hm h (ho h1' (by intro e; simp_all)).1 (ho h1' (by intro e; simp_all)).2) (fun v hv => ?_); (repeat' (first | (with_reducible first | refine Tot.letV ?_ | refine Tot.bindS ?_ | refine Tot.blockS ?_ | refine Tot.iteT (by assumption) ?_ | refine Tot.iteF (by assumption) ?_ | refine Tot.ite (fun _ => ?_) (fun _ => ?_) | refine Tot.ret ?_ | refine sE.l ?_ | refine sE.r ?_))); simp)
    | (refine Tot.call (F100_tot hK hm h (ho h1' (by intro e; simp_all)).1.1 (ho h1' (by intro e; simp_all)).2.1) (fun v hv => ?_); (repeat' (first | (with_reducible first | refine Tot.letV ?_ | refine Tot.bindS ?_ | refine Tot.blockS ?_ | refine Tot.iteT (by assumption) ?_ | refine Tot.iteF (by assumption) ?_ | refine Tot.ite (fun _ => ?_) (fun _ => ?_) | refine Tot.ret ?_ | refine sE.l ?_ | refine sE.r ?_))); exact hv)
    | simp
theorem count_set {l : List Bool} {i : Nat} (hi : i < l.length) (h : l.getD i default = false) : (l.set i true).count false + 1 = l.count false := by
  induction l generalizing i with
  | nil => simp at hi
  | cons x l ih =>
    cases i with
    | zero =>
      simp at h
      subst h
      simp
    | succ i =>
      have := ih (i := i) (by simpa using hi) (by simpa using h)
      simp only [List.set_cons_succ, List.count_cons]
      omega
theorem F66_tot {K : Nat} {s : S107} {i : Int} {x : Bytes} {m : Nat} (h : Ck m s) (hx : x.length ≤ 10000) : Ret (F66 K s i x) (fun v => Ck m v.2 ∧ mu v.2 ≤ mu s) := by
  refine Ret.of ?_
  unfold F66
  refine Tot.letV (Tot.ite (fun _ => ?_) (fun hc => ?_))
  · (repeat' (first | (with_reducible first | refine Tot.letV ?_ | refine Tot.iteT (by assumption) ?_ | refine Tot.iteF (by assumption) ?_ | refine Tot.ite (fun _ => ?_) (fun _ => ?_) | refine Tot.chk0 ?_ | refine Tot.ret ?_ | refine sE.l ?_ | refine sE.r ?_)))
    exact ⟨h, Nat.le_refl _⟩
  simp only [Bool.or_eq_true, decide_eq_true_eq, not_or, Int.ofNat_eq_natCast] at hc
  have h1 := h.kl
  have h2 := h.sl
  have hi1 : inb i s.fknown.length = true := by simp only [inb, Bool.and_eq_true, decide_eq_true_eq]; omega
  have hi2 : inb i s.fstacks.length = true := by simp only [inb, Bool.and_eq_true, decide_eq_true_eq]; omega
  refine Tot.chk hi1 (Tot.chk0 (Tot.ite (fun _ => ?_) (fun hk => ?_)))
  · refine Tot.chk hi2 (Tot.chk0 ?_)
    (repeat' (first | (with_reducible first | refine Tot.letV ?_ | refine Tot.iteT (by assumption) ?_ | refine Tot.iteF (by assumption) ?_ | refine Tot.ite (fun _ => ?_) (fun _ => ?_) | refine Tot.chk0 ?_ | refine Tot.ret ?_ | refine sE.l ?_ | refine sE.r ?_)))
    exact ⟨h, Nat.le_refl _⟩
  have hmu := h.mu
  have hcs := count_set (l := s.fknown) (i := i.toNat) (by omega) (by simpa using hk)
  refine Tot.chk hi1 (Tot.chk0 (Tot.chk hi2 (Tot.chk0 (Tot.chk ?_ (Tot.chk0 ?_)))))
  · simp only [room, decide_eq_true_eq, List.length_cons, List.length_nil]
    unfold mu at hmu
    omega
  have hm2 : mu ⟨s.fim, s.fc, s.fknown.set i.toNat true, s.fstacks.set i.toNat x, s.ftodo ++ [i], s.fmost⟩ ≤ mu s := by
    unfold mu
    simp only [List.length_append, List.length_cons, List.length_nil]
    omega
  (repeat' (first | (with_reducible first | refine Tot.letV ?_ | refine Tot.iteT (by assumption) ?_ | refine Tot.iteF (by assumption) ?_ | refine Tot.ite (fun _ => ?_) (fun _ => ?_) | refine Tot.chk0 ?_ | refine Tot.ret ?_ | refine sE.l ?_ | refine sE.r ?_)))
  refine ⟨⟨h.im, h.c, by simpa using h1, by simpa using h2, fun y hy => ?_, fun j hj => ?_, Nat.le_trans hm2 hmu⟩, hm2⟩
  · rcases List.mem_or_eq_of_mem_set hy with hy | rfl
    · exact h.st y hy
    · exact hx
  · rcases List.mem_append.1 hj with hj | hj
    · exact h.td j hj
    · obtain rfl : j = i := by simpa using hj
      exact ⟨by omega, by show j < (s.fc.fOps.length : Int); omega⟩
theorem F85_tot {K : Nat} {a b : Bytes} (h : a.length ≤ 10000) : Ret (F85 K a b) (fun v => v.1.length ≤ 10000) := by
  refine ⟨(Lib.trimSuffix a b, Lib.hasSuffix a b), ?_, ?_⟩
  · unfold F85; rw [if_pos (by omega)]; rfl
  · show (Lib.trimSuffix a b).length ≤ 10000
    unfold Lib.trimSuffix
    split
    · simp; omega
    · exact h
theorem Ck.most {m : Nat} {s : S107} (h : Ck m s) (x : Int) : Ck m ⟨s.fim, s.fc, s.fknown, s.fstacks, s.ftodo, x⟩ := ⟨h.im, h.c, h.kl, h.sl, h.st, h.td, h.mu⟩
theorem F67_tot {K : Nat} {s : S107} {i : Int} {m : Nat} (hK : 1000 < K) (hm : m ≤ 1) (h : Ck m s) (hi : 0 ≤ i ∧ i < s.fc.fOps.length) : Ret (F67 K s i) (fun v => Ck m v.2 ∧ mu v.2 ≤ mu s) := by
  have h1 := h.kl
  have h2 := h.sl
  have ho := h.c.o
  refine Ret.of ?_
  unfold F67
  refine Tot.chk (by simp only [inb, Bool.and_eq_true, decide_eq_true_eq]; omega) (Tot.chk0 (Tot.chk (by simp only [inb, Bool.and_eq_true, decide_eq_true_eq]; omega) (Tot.chk0 ?_)))
  have hst := getD_all (d := default) h.st (i := i.toNat) (by omega)
  refine Tot.call F83_may (fun v1 hv1 => ?_)
  refine Tot.ite (fun _ => ?_) (fun hc => ?_)
  · (repeat' (first | (with_reducible first | refine Tot.letV ?_ | refine Tot.bindS ?_ | refine Tot.blockS ?_ | refine Tot.iteT (by assumption) ?_ | refine Tot.iteF (by assumption) ?_ | refine Tot.ite (fun _ => ?_) (fun _ => ?_) | refine Tot.chk0 ?_ | refine Tot.ret ?_ | refine sE.l ?_ | refine sE.r ?_)))
    exact ⟨h, Nat.le_refl _⟩
  refine Tot.callC (fun _ => F84_tot hK hm h (hv1 (by simpa using hc))) (fun v2 hv2 => ?_)
  have hv2 := hv2 rfl
  refine Tot.letV ?_
  refine Tot.bindF ?_ (fun u => ?_)
  · refine Tot.ite (fun hq => ?_) (fun _ => ?_)
    · generalize s.fstacks.getD i.toNat default = st at hst hq ⊢
      have hl : 0 < st.length := by
        simp only [Bool.and_eq_true, Bool.not_eq_true', beq_eq_false_iff_ne, ne_eq] at hq
        cases st with
        | nil => exact absurd rfl hq.2
        | cons a l => simp
      rw [wrap64 (by simp; omega) (by simp; omega)]
      refine Tot.chk (by simp only [bndOk, Bool.and_eq_true, decide_eq_true_eq, Int.ofNat_eq_natCast]; omega) (Tot.chk0 ?_)
      (repeat' (first | (with_reducible first | refine Tot.letV ?_ | refine Tot.bindS ?_ | refine Tot.blockS ?_ | refine Tot.iteT (by assumption) ?_ | refine Tot.iteF (by assumption) ?_ | refine Tot.ite (fun _ => ?_) (fun _ => ?_) | refine Tot.chk0 ?_ | refine Tot.ret ?_ | refine sE.l ?_ | refine sE.r ?_)))
      (all_goals (try (first | trivial | (intro h; cases h; done))))
    · (repeat' (first | (with_reducible first | refine Tot.letV ?_ | refine Tot.bindS ?_ | refine Tot.blockS ?_ | refine Tot.iteT (by assumption) ?_ | refine Tot.iteF (by assumption) ?_ | refine Tot.ite (fun _ => ?_) (fun _ => ?_) | refine Tot.chk0 ?_ | refine Tot.ret ?_ | refine sE.l ?_ | refine sE.r ?_)))
      (all_goals (try (first | trivial | (intro h; cases h; done))))
  refine Tot.call (F85_tot hst) (fun v3 hv3 => ?_)
  refine Tot.letV (Tot.ite (fun _ => ?_) (fun _ => ?_))
  · (repeat' (first | (with_reducible first | refine Tot.letV ?_ | refine Tot.bindS ?_ | refine Tot.blockS ?_ | refine Tot.iteT (by assumption) ?_ | refine Tot.iteF (by assumption) ?_ | refine Tot.ite (fun _ => ?_) (fun _ => ?_) | refine Tot.chk0 ?_ | refine Tot.ret ?_ | refine sE.l ?_ | refine sE.r ?_)))
    exact ⟨h, Nat.le_refl _⟩
  refine Tot.chk (by simp only [room, decide_eq_true_eq]; omega) (Tot.chk0 (Tot.letV (Tot.ite (fun _ => ?_) (fun hl => ?_))))
  · (repeat' (first | (with_reducible first | refine Tot.letV ?_ | refine Tot.bindS ?_ | refine Tot.blockS ?_ | refine Tot.iteT (by assumption) ?_ | refine Tot.iteF (by assumption) ?_ | refine Tot.ite (fun _ => ?_) (fun _ => ?_) | refine Tot.chk0 ?_ | refine Tot.ret ?_ | refine sE.l ?_ | refine sE.r ?_)))
    exact ⟨h.most _, Nat.le_refl _⟩
  have hl2 : (v3.1 ++ v2.2.1).length ≤ 10000 := by
    simp only [decide_eq_true_eq, Int.ofNat_eq_natCast] at hl
    omega
  refine Tot.letV ?_
  refine Tot.bindS (Tot.blockS (Tot.bindF ?_ (fun u5 => ?_)))
  · (repeat' (first | (with_reducible first | refine Tot.letV ?_ | refine Tot.bindS ?_ | refine Tot.blockS ?_ | refine Tot.iteT (by assumption) ?_ | refine Tot.iteF (by assumption) ?_ | refine Tot.ite (fun _ => ?_) (fun _ => ?_) | refine Tot.chk0 ?_ | refine Tot.ret ?_ | refine sE.l ?_ | refine sE.r ?_)))
    (all_goals (try (first | trivial | (intro h; cases h; done))))
  refine Tot.ite (fun _ => ?_) (fun _ => ?_)
  · (repeat' (first | (with_reducible first | refine Tot.letV ?_ | refine Tot.bindS ?_ | refine Tot.blockS ?_ | refine Tot.iteT (by assumption) ?_ | refine Tot.iteF (by assumption) ?_ | refine Tot.ite (fun _ => ?_) (fun _ => ?_) | refine Tot.chk0 ?_ | refine Tot.ret ?_ | refine sE.l ?_ | refine sE.r ?_)))
    exact ⟨h.most _, Nat.le_refl _⟩
  refine Tot.ite (fun _ => ?_) (fun _ => ?_)
  · refine Tot.letV ?_
    refine Tot.call (F66_tot (h.most _) hl2) (fun v4 hv4 => ?_)
    (repeat' (first | (with_reducible first | refine Tot.letV ?_ | refine Tot.bindS ?_ | refine Tot.blockS ?_ | refine Tot.iteT (by assumption) ?_ | refine Tot.iteF (by assumption) ?_ | refine Tot.ite (fun _ => ?_) (fun _ => ?_) | refine Tot.chk0 ?_ | refine Tot.ret ?_ | refine sE.l ?_ | refine sE.r ?_)))
    · exact hv4
    · refine Tot.call (F66_tot (hv4.1.most _) hl2) (fun v5 hv5 => ?_)
      (repeat' (first | (with_reducible first | refine Tot.letV ?_ | refine Tot.bindS ?_ | refine Tot.blockS ?_ | refine Tot.iteT (by assumption) ?_ | refine Tot.iteF (by assumption) ?_ | refine Tot.ite (fun _ => ?_) (fun _ => ?_) | refine Tot.chk0 ?_ | refine Tot.ret ?_ | refine sE.l ?_ | refine sE.r ?_)))
      exact ⟨hv5.1, Nat.le_trans hv5.2 hv4.2⟩
  refine Tot.ite (fun _ => ?_) (fun _ => ?_)
  · refine Tot.letV ?_
    refine Tot.call (F66_tot (h.most _) hl2) (fun v4 hv4 => ?_)
    (repeat' (first | (with_reducible first | refine Tot.letV ?_ | refine Tot.bindS ?_ | refine Tot.blockS ?_ | refine Tot.iteT (by assumption) ?_ | refine Tot.iteF (by assumption) ?_ | refine Tot.ite (fun _ => ?_) (fun _ => ?_) | refine Tot.chk0 ?_ | refine Tot.ret ?_ | refine sE.l ?_ | refine sE.r ?_)))
    exact hv4
  (repeat' (first | (with_reducible first | refine Tot.letV ?_ | refine Tot.bindS ?_ | refine Tot.blockS ?_ | refine Tot.iteT (by assumption) ?_ | refine Tot.iteF (by assumption) ?_ | refine Tot.ite (fun _ => ?_) (fun _ => ?_) | refine Tot.chk0 ?_ | refine Tot.ret ?_ | refine sE.l ?_ | refine sE.r ?_)))
  refine Tot.call (F66_tot (h.most _) hl2) (fun v4 hv4 => ?_)
  (repeat' (first | (with_reducible first | refine Tot.letV ?_ | refine Tot.bindS ?_ | refine Tot.blockS ?_ | refine Tot.iteT (by assumption) ?_ | refine Tot.iteF (by assumption) ?_ | refine Tot.ite (fun _ => ?_) (fun _ => ?_) | refine Tot.chk0 ?_ | refine Tot.ret ?_ | refine sE.l ?_ | refine sE.r ?_)))
  exact hv4
theorem F48_tot {K : Nat} {a0 : S29} {n : Int} {m : Nat} (hK : 1000 < K) (hm : m ≤ 1) (h : Sm a0 m) : Ret (F48 K a0 n) (fun _ => True) := by
  refine Ret.of ?_
  unfold F48
  refine Tot.letV (Tot.ite (fun _ => ?_) (fun hc => ?_))
  · (repeat' (first | (with_reducible first | refine Tot.letV ?_ | refine Tot.bindS ?_ | refine Tot.blockS ?_ | refine Tot.iteT (by assumption) ?_ | refine Tot.iteF (by assumption) ?_ | refine Tot.ite (fun _ => ?_) (fun _ => ?_) | refine Tot.chk0 ?_ | refine Tot.ret ?_ | refine sE.l ?_ | refine sE.r ?_)))
    (all_goals (try (first | trivial | (intro h; cases h; done))))
  simp only [Bool.or_eq_true, decide_eq_true_eq, not_or, Int.ofNat_eq_natCast] at hc
  have hx := getD_all (d := default) h.code (i := n.toNat) (by omega)
  have ho := hx.o
  refine Tot.chk (by simp only [inb, Bool.and_eq_true, decide_eq_true_eq]; omega) (Tot.chk0 ?_)
  refine Tot.chk (by simp) (Tot.chk (by simp only [room, decide_eq_true_eq, Int.ofNat_eq_natCast, Int.toNat_natCast]; omega) (Tot.chk0 ?_))
  refine Tot.chk (by simp) (Tot.chk (by simp only [room, decide_eq_true_eq, Int.ofNat_eq_natCast, Int.toNat_natCast]; omega) (Tot.chk0 ?_))
  refine Tot.call (F66_tot (m := m) ⟨h, hx, by simp, by simp, fun x hq => ?_, by simp, ?_⟩ (by simp)) (fun v hv => ?_)
  · simp only [Int.ofNat_eq_natCast, Int.toNat_natCast] at hq
    have := List.eq_of_mem_replicate hq
    rw [this]; exact Nat.zero_le _
  · unfold mu
    have : List.count false (List.replicate (a0.fCodes.getD n.toNat default).fOps.length (default : Bool)) ≤ (a0.fCodes.getD n.toNat default).fOps.length := by
      refine Nat.le_trans List.count_le_length ?_
      simp
    simp only [Int.ofNat_eq_natCast, Int.toNat_natCast, List.length_nil]
    omega
  refine Tot.ite (fun _ => ?_) (fun _ => ?_)
  · (repeat' (first | (with_reducible first | refine Tot.letV ?_ | refine Tot.bindS ?_ | refine Tot.blockS ?_ | refine Tot.iteT (by assumption) ?_ | refine Tot.iteF (by assumption) ?_ | refine Tot.ite (fun _ => ?_) (fun _ => ?_) | refine Tot.chk0 ?_ | refine Tot.ret ?_ | refine sE.l ?_ | refine sE.r ?_)))
    (all_goals (try (first | trivial | (intro h; cases h; done))))
  refine Tot.bindS (Tot.blockS (Tot.mapl ?_))
  refine Tot.loop (fun t => Ck m t) (fun t => mu t) hv.1 (by have := hv.1.mu; omega) (fun t hI => ?_)
  have hmu := hI.mu
  have hw : (t.ftodo.length : Int) ≤ 400 := by unfold mu at hmu; omega
  refine Tot.letV (Tot.ite (fun hc => ?_) (fun _ => ?_))
  · simp only [decide_eq_true_eq, Int.ofNat_eq_natCast] at hc
    have hwr : IntKind.i64.wrap (Int.ofNat t.ftodo.length - 1) = (t.ftodo.length : Int) - 1 := wrap64 (by simp; omega) (by simp; omega)
    rw [hwr]
    have htd := getD_all (d := default) hI.td (i := ((t.ftodo.length : Int) - 1).toNat) (by omega)
    refine Tot.bindS (Tot.blockS (Tot.chk (by simp only [inb, Bool.and_eq_true, decide_eq_true_eq]; omega) (Tot.chk0 (Tot.letV (Tot.chk (by simp only [bndOk, Bool.and_eq_true, decide_eq_true_eq]; omega) (Tot.chk0 ?_))))))
    have hmu2 : mu ⟨t.fim, t.fc, t.fknown, t.fstacks, t.ftodo.take ((t.ftodo.length : Int) - 1).toNat, t.fmost⟩ < mu t := by
      unfold mu
      simp only [List.length_take]
      omega
    refine Tot.call (F67_tot hK hm (s := ⟨t.fim, t.fc, t.fknown, t.fstacks, t.ftodo.take ((t.ftodo.length : Int) - 1).toNat, t.fmost⟩) ⟨hI.im, hI.c, hI.kl, hI.sl, hI.st, fun j hj => hI.td j (List.mem_of_mem_take hj), by omega⟩ htd) (fun v2 hv2 => ?_)
    (repeat' (first | (with_reducible first | refine Tot.letV ?_ | refine Tot.bindS ?_ | refine Tot.blockS ?_ | refine Tot.iteT (by assumption) ?_ | refine Tot.iteF (by assumption) ?_ | refine Tot.ite (fun _ => ?_) (fun _ => ?_) | refine Tot.chk0 ?_ | refine Tot.ret ?_ | refine sE.l ?_ | refine sE.r ?_)))
    · (all_goals (try (first | trivial | (intro h; cases h; done))))
    · exact ⟨hv2.1.most _, Nat.lt_of_le_of_lt hv2.2 hmu2⟩
  · (repeat' (first | (with_reducible first | refine Tot.letV ?_ | refine Tot.bindS ?_ | refine Tot.blockS ?_ | refine Tot.iteT (by assumption) ?_ | refine Tot.iteF (by assumption) ?_ | refine Tot.ite (fun _ => ?_) (fun _ => ?_) | refine Tot.chk0 ?_ | refine Tot.ret ?_ | refine sE.l ?_ | refine sE.r ?_)))
    (all_goals (try (first | trivial | (intro h; cases h; done))))
theorem F20_tot {K : Nat} {a0 : S29} {m : Nat} (hK : 1000 < K) (hm : m ≤ 1) (h : Sm a0 m) : Ret (F20 K a0) (fun _ => True) := by
  have hl := h.codes
  refine Ret.of ?_
  unfold F20
  refine Tot.bindS (Tot.blockS (Tot.mapl ?_))
  refine Tot.up a0.fCodes.length (by omega) (fun i hi => ?_) ?_
  · refine Tot.letV (Tot.iteT (by simp only [Int.ofNat_eq_natCast, decide_eq_true_eq]; omega) ?_)
    refine Tot.bindS (Tot.blockS (Tot.chk (inb_nat hi) (Tot.chk0 (Tot.letV (Tot.ite (fun _ => ?_) (fun _ => ?_))))))
    · (repeat' (first | (with_reducible first | refine Tot.letV ?_ | refine Tot.bindS ?_ | refine Tot.blockS ?_ | refine Tot.iteT (by assumption) ?_ | refine Tot.iteF (by assumption) ?_ | refine Tot.ite (fun _ => ?_) (fun _ => ?_) | refine Tot.chk0 ?_ | refine Tot.ret ?_ | refine sE.l ?_ | refine sE.r ?_)))
      (all_goals (try (first | trivial | (intro h; cases h; done))))
    refine Tot.call (F48_tot hK hm h) (fun v _ => ?_)
    (repeat' (first | (with_reducible first | refine Tot.letV ?_ | refine Tot.bindS ?_ | refine Tot.blockS ?_ | refine Tot.mapl ?_ | refine Tot.ite (fun _ => ?_) (fun _ => ?_) | refine Tot.chk0 ?_ | refine Tot.ret ?_ | refine sE.l ?_ | refine sE.r ?_) | with_reducible refine Tot.chk (by (first | assumption | omega | (simp [inb, room, imax] at *; try omega))) ?_ | (refine (And.intro (a := IntKind.i64.wrap _ = _) (wrap64 (by omega) (by omega)) ?_))))
    (all_goals (try (first | trivial | (intro h; cases h; done))))
  · (refine Tot.letV ?_; refine Tot.iteF (by simp) ?_; (repeat' (first | (with_reducible first | refine Tot.letV ?_ | refine Tot.bindS ?_ | refine Tot.blockS ?_ | refine Tot.mapl ?_ | refine Tot.ite (fun _ => ?_) (fun _ => ?_) | refine Tot.chk0 ?_ | refine Tot.ret ?_ | refine sE.l ?_ | refine sE.r ?_) | with_reducible refine Tot.chk (by (first | assumption | omega | (simp [inb, room, imax] at *; try omega))) ?_ | (refine (And.intro (a := IntKind.i64.wrap _ = _) (wrap64 (by omega) (by omega)) ?_)))))
    (all_goals (try (first | trivial | (intro h; cases h; done))))
end Go.Proofs.YtngjamedgphjiaaGreatDoor
