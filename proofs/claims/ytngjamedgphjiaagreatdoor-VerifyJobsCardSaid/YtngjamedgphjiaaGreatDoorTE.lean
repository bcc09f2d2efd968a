/- The law of VerifyJobs. No conditions. -/
import Derived.Test.YtngjamedgphjiaaGreatDoorTD
import Derived.Test.YtngjamedgphjiaaGreatDoorVh
set_option linter.unusedVariables false
set_option linter.unusedSimpArgs false
set_option linter.unusedSectionVars false
namespace Go.Proofs.YtngjamedgphjiaaGreatDoor
open Go Go.Dl
set_option maxRecDepth 100000
set_option maxHeartbeats 2000000
def jobsF (K : Nat) (cs : List S39) (js : List S42) : Option (Bool ⊕ Bool) :=
  (bindS (blockS ((iter K (fun (u85 : Int) => (letV (decide ((u85 : Int) < (Int.ofNat js.length))) (fun (x95 : Bool) => (if x95 = true then (bindS (blockS (chk [inb u85 js.length] (chk [!(!((decide ((((js.getD (u85 : Int).toNat default).fCode) : Int) < 0)) || (decide ((((js.getD (u85 : Int).toNat default).fCode) : Int) ≥ (Int.ofNat cs.length))))) || inb ((js.getD (u85 : Int).toNat default).fCode) cs.length] (letV (((((((decide ((((js.getD (u85 : Int).toNat default).fCode) : Int) < 0)) || (decide ((((js.getD (u85 : Int).toNat default).fCode) : Int) ≥ (Int.ofNat cs.length)))) || ((((cs.getD ((js.getD (u85 : Int).toNat default).fCode : Int).toNat default).fClass) : Int) != (-1))) || (decide ((((js.getD (u85 : Int).toNat default).fEvery) : Int) < 1))) || (decide ((((js.getD (u85 : Int).toNat default).fEvery) : Int) > 100))) || (decide ((((js.getD (u85 : Int).toNat default).fFirst) : Int) < 0))) || (decide ((((js.getD (u85 : Int).toNat default).fFirst) : Int) > 9))) (fun (x100 : Bool) => (if x100 = true then (some (.inl (Sum.inr (Sum.inr (false))))) else (chk [bndOk js.length 0 u85] (letV ((js.drop (0 : Int).toNat).take ((u85 : Int).toNat - (0 : Int).toNat)) (fun (x101 : (List S42)) => ((fnS (F46f47 K x101 (js.getD (u85 : Int).toNat default))).bind (fun r102 => (if r102 = true then (some (.inl (Sum.inr (Sum.inr (false))))) else (some (.inr ())))))))))))))) (fun (u99 : Unit) => (some (.inr ((IntKind.i64.wrap (u85 + 1))))))) else (some (.inl (Sum.inl ()))))))) (0)).map .inl)) (fun (u75 : Unit) => (some (.inl (true)))))
theorem fnS_cut {M : Option (Bool ⊕ Unit)} {f g : Unit → Option (Bool ⊕ Bool)} (hM : Tot M (sE (fun v => v = false) (fun _ => True))) (h : fnS (bindS M f) = some true) : fnS (bindS M g) = fnS (g ()) := by
  obtain ⟨z, rfl, hz⟩ := hM
  match z, hz with
  | .inl a, hz =>
    have : a = false := hz
    subst this
    cases h
  | .inr t, _ => rfl
theorem F19_jobs {K : Nat} {im : S29} {m : Nat} {js : List S42} {d w : Int} (hK : 1000 < K) (hm : m ≤ 1) (hs : Sm im m) (hy : fnS (F19 K im) = some true) : fnS (F19 K (alt im im.fCodes js d w)) = fnS (jobsF K im.fCodes js) := by
  have h1 := hs.insts
  have h2 := hs.blocks
  have h3 := hs.ins
  have h4 := hs.outs
  have e1 : (alt im im.fCodes js d w).fCodes = im.fCodes := rfl
  have e4 : (alt im im.fCodes js d w).fInsts = im.fInsts := rfl
  have e5 : (alt im im.fCodes js d w).fBlocks = im.fBlocks := rfl
  have e6 : (alt im im.fCodes js d w).fIns = im.fIns := rfl
  have e7 : (alt im im.fCodes js d w).fOuts = im.fOuts := rfl
  have e9 : (alt im im.fCodes js d w).fJobs = js := rfl
  obtain ⟨v1, q1, _⟩ := F43f39_tot (K := K) hK hm (l := im.fInsts) (by omega) hs
  obtain ⟨v2, q2, _⟩ := F43f41_tot (K := K) hK (l := im.fBlocks) (by omega)
  obtain ⟨v3, q3, _⟩ := F44f42_tot (K := K) (a0 := im) hK (l := im.fIns) (by omega)
  obtain ⟨v4, q4, _⟩ := F44f42_tot (K := K) (a0 := im) hK (l := im.fOuts) (by omega)
  unfold F19 at hy ⊢
  simp only [e1, e4, e5, e6, e7, e9, F43_alt, F44_alt, q1, q2, q3, q4, Option.bind_some] at hy ⊢
  cases v1
  case true => cases hy
  cases v2
  case true => cases hy
  cases v3
  case true => cases hy
  cases v4
  case true => cases hy
  simp only [condM, Bool.or_self, Bool.not_false, if_true, Bool.false_eq_true, if_false, Option.bind_some] at hy ⊢
  refine (fnS_cut ?_ hy).trans rfl
  refine Tot.blockS (Tot.mapl ?_)
  refine Tot.up im.fOuts.length (by omega) (fun i hi => ?_) ?_
  · refine Tot.letV (Tot.iteT (by simp only [Int.ofNat_eq_natCast, decide_eq_true_eq]; omega) ?_)
    simp only [Int.toNat_natCast]
    refine Tot.bindS (Tot.blockS (Tot.chk (inb_nat hi) (Tot.chk0 (Tot.chk (by simp [bndOk]; omega) (Tot.chk0 (Tot.letV ?_))))))
    refine Tot.call (F44f45_tot hK (by simp; omega)) (fun v _ => ?_)
    (repeat' (first | (with_reducible first | refine Tot.letV ?_ | refine Tot.bindS ?_ | refine Tot.blockS ?_ | refine Tot.mapl ?_ | refine Tot.ite (fun _ => ?_) (fun _ => ?_) | refine Tot.chk0 ?_ | refine Tot.ret ?_ | refine sE.l ?_ | refine sE.r ?_) | with_reducible refine Tot.chk (by (first | assumption | omega | (simp [inb, room, imax] at *; try omega))) ?_ | (refine (And.intro (a := IntKind.i64.wrap _ = _) (wrap64 (by omega) (by omega)) ?_))))
    (all_goals (try (first | trivial | (intro h; cases h; done))))
    all_goals rfl
  · (refine Tot.letV ?_; refine Tot.iteF (by simp) ?_; (repeat' (first | (with_reducible first | refine Tot.letV ?_ | refine Tot.bindS ?_ | refine Tot.blockS ?_ | refine Tot.mapl ?_ | refine Tot.ite (fun _ => ?_) (fun _ => ?_) | refine Tot.chk0 ?_ | refine Tot.ret ?_ | refine sE.l ?_ | refine sE.r ?_) | with_reducible refine Tot.chk (by (first | assumption | omega | (simp [inb, room, imax] at *; try omega))) ?_ | (refine (And.intro (a := IntKind.i64.wrap _ = _) (wrap64 (by omega) (by omega)) ?_)))))
    (all_goals (try (first | trivial | (intro h; cases h; done))))
def JobC (cs : List S39) (j : S42) : Prop := 0 ≤ j.fCode ∧ j.fCode < cs.length ∧ (cs.getD j.fCode.toNat default).fClass = -1 ∧ 1 ≤ j.fEvery ∧ j.fEvery ≤ 100 ∧ 0 ≤ j.fFirst ∧ j.fFirst ≤ 9
theorem jobsF_gen {K : Nat} {cs : List S39} {js : List S42} {P : Nat → Prop} {b : Bool} (hK : 1000 < K) (hj : js.length ≤ 100) (hp : ∀ i, i < js.length → JobC cs (js.getD i default) → (∀ x ∈ js.take i, x.fCode ≠ (js.getD i default).fCode) → P i)
    (hbad : ∀ i, i < js.length → ¬ (JobC cs (js.getD i default) ∧ ∀ x ∈ js.take i, x.fCode ≠ (js.getD i default).fCode) → b = false)
    (hend : (∀ i, i < js.length → P i) → b = true) : Ret (jobsF K cs js) (fun v => v = b) := by
  refine Ret.of ?_
  unfold jobsF
  refine Tot.bindS (Tot.blockS (Tot.mapl ?_))
  refine Tot.upP js.length P (by omega) (fun i hi => ?_) (fun hq => ?_)
  · refine Tot.letV (Tot.iteT (by simp only [Int.ofNat_eq_natCast, decide_eq_true_eq]; omega) ?_)
    simp only [Int.toNat_natCast]
    refine Tot.bindS (Tot.blockS (Tot.chk (inb_nat hi) (Tot.chk0 (Tot.chk ?_ (Tot.chk0 (Tot.letV ?_))))))
    · rw [Bool.or_eq_true]
      simp only [Bool.not_not, inb, Bool.and_eq_true, Bool.or_eq_true, decide_eq_true_eq, Int.ofNat_eq_natCast]
      omega
    refine Tot.ite (fun hc => ?_) (fun hc => ?_)
    · simp only [Bool.or_eq_true, decide_eq_true_eq, Int.ofNat_eq_natCast, bne_iff_ne, ne_eq] at hc
      have hb := hbad i hi (fun h => by obtain ⟨⟨h1, h2, h3, h4, h5, h6, h7⟩, _⟩ := h; omega)
      (repeat' (first | (with_reducible first | refine Tot.letV ?_ | refine Tot.bindS ?_ | refine Tot.blockS ?_ | refine Tot.mapl ?_ | refine Tot.ite (fun _ => ?_) (fun _ => ?_) | refine Tot.chk0 ?_ | refine Tot.ret ?_ | refine sE.l ?_ | refine sE.r ?_ | refine Tot.loopS ?_) | with_reducible refine Tot.chk (by (first | assumption | omega | (simp [inb, room, imax] at *; try omega))) ?_ | with_reducible refine Tot.call (F56_tot (by (first | assumption | omega | (simp [inb, room, imax] at *; try omega)))) (fun _ _ => ?_) | with_reducible refine Tot.call (F32_tot (by omega) (by (first | assumption | omega | (simp [inb, room, imax] at *; try omega))) (by (first | assumption | omega | (simp [inb, room, imax] at *; try omega)))) (fun _ _ => ?_) | with_reducible refine Tot.callC (fun _ => F30_tot (by (first | assumption | omega | (simp [inb, room, imax] at *; try omega)))) (fun _ _ => ?_) | with_reducible refine Tot.call (F30_tot (by (first | assumption | omega | (simp [inb, room, imax] at *; try omega)))) (fun _ _ => ?_) | with_reducible refine Tot.callC (fun _ => F54_tot (by (first | assumption | omega | (simp [inb, room, imax] at *; try omega)))) (fun _ _ => ?_) | with_reducible refine Tot.call (F54_tot (by (first | assumption | omega | (simp [inb, room, imax] at *; try omega)))) (fun _ _ => ?_) | (with_reducible first | refine Tot.callC (fun _ => F87_tot) (fun _ _ => ?_) | refine Tot.call F83_tot (fun _ _ => ?_) | refine Tot.call F97_tot (fun _ _ => ?_) | refine Tot.callC (fun _ => F97_tot) (fun _ _ => ?_) | refine Tot.call F96_tot (fun _ _ => ?_) | refine Tot.callC (fun _ => F11_tot (by omega) (by omega)) (fun _ _ => ?_) | refine Tot.call (F11_tot (by omega) (by omega)) (fun _ _ => ?_)) | (refine (And.intro (a := IntKind.i64.wrap _ = _) (wrap64 (by omega) (by omega)) ?_))))
      exact hb.symm
    simp only [Bool.or_eq_true, decide_eq_true_eq, not_or, Int.ofNat_eq_natCast, bne_iff_ne, Decidable.not_not, ne_eq] at hc
    have hjc : JobC cs (js.getD i default) := ⟨by omega, by omega, by omega, by omega, by omega, by omega, by omega⟩
    refine Tot.chk (by simp [bndOk]; omega) (Tot.chk0 (Tot.letV ?_))
    have hd : ((js.drop (0 : Int).toNat).take (i - (0 : Int).toNat)) = js.take i := by simp
    rw [hd]
    refine Tot.call (F46f47_tot hK (by simp; omega)) (fun v hv => ?_)
    refine Tot.ite (fun hx => ?_) (fun hx => ?_)
    · have hb := hbad i hi (fun h => by
        rcases hv with ⟨rfl, _⟩ | ⟨_, x, h1, h2⟩
        · cases hx
        · exact h.2 x h1 h2)
      (repeat' (first | (with_reducible first | refine Tot.letV ?_ | refine Tot.bindS ?_ | refine Tot.blockS ?_ | refine Tot.mapl ?_ | refine Tot.ite (fun _ => ?_) (fun _ => ?_) | refine Tot.chk0 ?_ | refine Tot.ret ?_ | refine sE.l ?_ | refine sE.r ?_ | refine Tot.loopS ?_) | with_reducible refine Tot.chk (by (first | assumption | omega | (simp [inb, room, imax] at *; try omega))) ?_ | with_reducible refine Tot.call (F56_tot (by (first | assumption | omega | (simp [inb, room, imax] at *; try omega)))) (fun _ _ => ?_) | with_reducible refine Tot.call (F32_tot (by omega) (by (first | assumption | omega | (simp [inb, room, imax] at *; try omega))) (by (first | assumption | omega | (simp [inb, room, imax] at *; try omega)))) (fun _ _ => ?_) | with_reducible refine Tot.callC (fun _ => F30_tot (by (first | assumption | omega | (simp [inb, room, imax] at *; try omega)))) (fun _ _ => ?_) | with_reducible refine Tot.call (F30_tot (by (first | assumption | omega | (simp [inb, room, imax] at *; try omega)))) (fun _ _ => ?_) | with_reducible refine Tot.callC (fun _ => F54_tot (by (first | assumption | omega | (simp [inb, room, imax] at *; try omega)))) (fun _ _ => ?_) | with_reducible refine Tot.call (F54_tot (by (first | assumption | omega | (simp [inb, room, imax] at *; try omega)))) (fun _ _ => ?_) | (with_reducible first | refine Tot.callC (fun _ => F87_tot) (fun _ _ => ?_) | refine Tot.call F83_tot (fun _ _ => ?_) | refine Tot.call F97_tot (fun _ _ => ?_) | refine Tot.callC (fun _ => F97_tot) (fun _ _ => ?_) | refine Tot.call F96_tot (fun _ _ => ?_) | refine Tot.callC (fun _ => F11_tot (by omega) (by omega)) (fun _ _ => ?_) | refine Tot.call (F11_tot (by omega) (by omega)) (fun _ _ => ?_)) | (refine (And.intro (a := IntKind.i64.wrap _ = _) (wrap64 (by omega) (by omega)) ?_))))
      exact hb.symm
    · (repeat' (first | (with_reducible first | refine Tot.letV ?_ | refine Tot.bindS ?_ | refine Tot.blockS ?_ | refine Tot.mapl ?_ | refine Tot.ite (fun _ => ?_) (fun _ => ?_) | refine Tot.chk0 ?_ | refine Tot.ret ?_ | refine sE.l ?_ | refine sE.r ?_ | refine Tot.loopS ?_) | with_reducible refine Tot.chk (by (first | assumption | omega | (simp [inb, room, imax] at *; try omega))) ?_ | with_reducible refine Tot.call (F56_tot (by (first | assumption | omega | (simp [inb, room, imax] at *; try omega)))) (fun _ _ => ?_) | with_reducible refine Tot.call (F32_tot (by omega) (by (first | assumption | omega | (simp [inb, room, imax] at *; try omega))) (by (first | assumption | omega | (simp [inb, room, imax] at *; try omega)))) (fun _ _ => ?_) | with_reducible refine Tot.callC (fun _ => F30_tot (by (first | assumption | omega | (simp [inb, room, imax] at *; try omega)))) (fun _ _ => ?_) | with_reducible refine Tot.call (F30_tot (by (first | assumption | omega | (simp [inb, room, imax] at *; try omega)))) (fun _ _ => ?_) | with_reducible refine Tot.callC (fun _ => F54_tot (by (first | assumption | omega | (simp [inb, room, imax] at *; try omega)))) (fun _ _ => ?_) | with_reducible refine Tot.call (F54_tot (by (first | assumption | omega | (simp [inb, room, imax] at *; try omega)))) (fun _ _ => ?_) | (with_reducible first | refine Tot.callC (fun _ => F87_tot) (fun _ _ => ?_) | refine Tot.call F83_tot (fun _ _ => ?_) | refine Tot.call F97_tot (fun _ _ => ?_) | refine Tot.callC (fun _ => F97_tot) (fun _ _ => ?_) | refine Tot.call F96_tot (fun _ _ => ?_) | refine Tot.callC (fun _ => F11_tot (by omega) (by omega)) (fun _ _ => ?_) | refine Tot.call (F11_tot (by omega) (by omega)) (fun _ _ => ?_)) | (refine (And.intro (a := IntKind.i64.wrap _ = _) (wrap64 (by omega) (by omega)) ?_))))
      rcases hv with ⟨_, h⟩ | ⟨rfl, _⟩
      · exact hp i hi hjc h
      · exact absurd rfl hx
  · (refine Tot.letV ?_; refine Tot.iteF (by simp) ?_; (repeat' (first | (with_reducible first | refine Tot.letV ?_ | refine Tot.bindS ?_ | refine Tot.blockS ?_ | refine Tot.mapl ?_ | refine Tot.ite (fun _ => ?_) (fun _ => ?_) | refine Tot.chk0 ?_ | refine Tot.ret ?_ | refine sE.l ?_ | refine sE.r ?_ | refine Tot.loopS ?_) | with_reducible refine Tot.chk (by (first | assumption | omega | (simp [inb, room, imax] at *; try omega))) ?_ | with_reducible refine Tot.call (F56_tot (by (first | assumption | omega | (simp [inb, room, imax] at *; try omega)))) (fun _ _ => ?_) | with_reducible refine Tot.call (F32_tot (by omega) (by (first | assumption | omega | (simp [inb, room, imax] at *; try omega))) (by (first | assumption | omega | (simp [inb, room, imax] at *; try omega)))) (fun _ _ => ?_) | with_reducible refine Tot.callC (fun _ => F30_tot (by (first | assumption | omega | (simp [inb, room, imax] at *; try omega)))) (fun _ _ => ?_) | with_reducible refine Tot.call (F30_tot (by (first | assumption | omega | (simp [inb, room, imax] at *; try omega)))) (fun _ _ => ?_) | with_reducible refine Tot.callC (fun _ => F54_tot (by (first | assumption | omega | (simp [inb, room, imax] at *; try omega)))) (fun _ _ => ?_) | with_reducible refine Tot.call (F54_tot (by (first | assumption | omega | (simp [inb, room, imax] at *; try omega)))) (fun _ _ => ?_) | (with_reducible first | refine Tot.callC (fun _ => F87_tot) (fun _ _ => ?_) | refine Tot.call F83_tot (fun _ _ => ?_) | refine Tot.call F97_tot (fun _ _ => ?_) | refine Tot.callC (fun _ => F97_tot) (fun _ _ => ?_) | refine Tot.call F96_tot (fun _ _ => ?_) | refine Tot.callC (fun _ => F11_tot (by omega) (by omega)) (fun _ _ => ?_) | refine Tot.call (F11_tot (by omega) (by omega)) (fun _ _ => ?_)) | (refine (And.intro (a := IntKind.i64.wrap _ = _) (wrap64 (by omega) (by omega)) ?_)))))
    exact (hend hq).symm
theorem jobsF_nil {K : Nat} {cs : List S39} (hK : 1000 < K) : fnS (jobsF K cs []) = some true := by
  obtain ⟨v, h, rfl⟩ := jobsF_gen (K := K) (cs := cs) (js := []) (P := fun _ => True) (b := true) hK (by simp) (fun _ _ _ _ => trivial) (fun i hi => by simp at hi) (fun _ => rfl)
  exact h
theorem jobsF_one {K : Nat} {cs : List S39} {j : S42} (hK : 1000 < K) (h : JobC cs j) : fnS (jobsF K cs [j]) = some true := by
  obtain ⟨v, h, rfl⟩ := jobsF_gen (K := K) (cs := cs) (js := [j]) (P := fun _ => True) (b := true) hK (by simp) (fun _ _ _ _ => trivial) (fun i hi hn => by
    have : i = 0 := by simp at hi; omega
    subst this
    exact absurd ⟨h, by simp⟩ hn) (fun _ => rfl)
  exact h
theorem jobsF_bad {K : Nat} {cs : List S39} {j : S42} (hK : 1000 < K) (h : ¬ JobC cs j) : fnS (jobsF K cs [j]) = some false := by
  obtain ⟨v, h, rfl⟩ := jobsF_gen (K := K) (cs := cs) (js := [j]) (P := fun _ => False) (b := false) hK (by simp) (fun i hi hj _ => by
    have : i = 0 := by simp at hi; omega
    subst this
    exact h hj) (fun _ _ _ => rfl) (fun hp => (hp 0 (by simp)).elim)
  exact h
theorem jobsF_two {K : Nat} {cs : List S39} {j : S42} (hK : 1000 < K) : fnS (jobsF K cs [j, j]) = some false := by
  obtain ⟨v, h, rfl⟩ := jobsF_gen (K := K) (cs := cs) (js := [j, j]) (P := fun i => i ≠ 1) (b := false) hK (by simp) (fun i hi _ hn => by
    rintro rfl
    exact hn j (by simp) (by simp)) (fun _ _ _ => rfl) (fun hp => absurd rfl (hp 1 (by simp)))
  exact h
theorem F21_same {K : Nat} {im : S29} {js : List S42} : fnS (F21 K (alt im im.fCodes js im.fD im.fW)) = fnS (F21 K im) := by
  unfold F21
  rw [F49_alt]
theorem F10_jobs {K : Nat} {im : S29} {m : Nat} {js : List S42} {b : Bool} (hK : 1000 < K) (hm : m ≤ 1) (hs : Sm im m) (hy : Yes K im) (hj : js.length ≤ 100) (hv : fnS (jobsF K im.fCodes js) = some b) :
    F10 K (alt im im.fCodes js im.fD im.fW) = some (.inl (if b = false then [116, 104, 105, 110, 103, 115] else [])) := by
  have := F10_val (K := K) (im := alt im im.fCodes js im.fD im.fW) (b1 := true) (b2 := true) (b3 := true) (b4 := true) (b5 := b) (b6 := true) (b7 := true) (F15_alt (Cs.refl _) hj hy.y1) (fun _ => by rw [F16_alt (Cs.refl _)]; exact hy.y2) (fun _ _ => by rw [F17_alt]; exact hy.y3) (fun _ _ _ => by rw [F18_alt (Cs.refl _)]; exact hy.y4) (fun _ _ _ _ => by rw [F19_jobs hK hm hs hy.y5]; exact hv)
    (fun _ _ _ _ _ => by rw [F20_alt]; exact hy.y6) (fun _ _ _ _ _ _ => by rw [F21_same]; exact hy.y7)
  rw [this]
  cases b <;> rfl
theorem F7_none {K : Nat} {im : S29} (h : F10 K im = some (.inl [])) : Ret (F7 K im) (fun e => e = none) := by
  refine Ret.of ?_
  unfold F7
  refine Tot.call (Ret.eq (r := []) (congrArg fnS h)) (fun v hv => ?_)
  subst hv
  refine Tot.iteF (by decide) ?_
  exact ⟨_, rfl, rfl⟩
theorem F4_end {K : Nat} {x : Option (Bytes ⊕ Bytes)} (hK : 2000000 < K) (h : x = some (.inl [116, 104, 105, 110, 103, 115])) : Tot ((fnS x).bind (fun r48 => (letV (r48 == ([116, 104, 105, 110, 103, 115] : Bytes)) (fun (x49 : Bool) => ((condM x49 (fnS (F8 K)) default).bind (fun r50 => (some (.inl (x49 && r50)) : Option (Bool ⊕ Bool)))))))) (sE (fun v => v = true) (fun v => v = true)) := by
  subst h
  refine Tot.call (Ret.eq (r := [116, 104, 105, 110, 103, 115]) rfl) (fun v hv => ?_)
  subst hv
  refine Tot.letV (Tot.callC (fun _ => F8_ret hK) (fun v hv => ?_))
  have := hv rfl
  subst this
  exact ⟨_, rfl, rfl⟩
theorem F4_ret {K : Nat} {im : S29} {k : Int} (hK : 2000000 < K) : Ret (F4 K im k) (fun v => v = true) := by
  refine Ret.of ?_
  unfold F4
  refine Tot.call (F6_tot (by omega)) (fun v1 h1 => ?_)
  cases v1
  case true =>
    refine Tot.callC (P := fun _ => True) (fun h => by cases h) (fun e _ => ?_)
    refine Tot.letV (Tot.iteT rfl (Tot.call (F8_ret hK) (fun v hv => ?_)))
    exact ⟨_, rfl, hv⟩
  case false =>
    have hs := h1 rfl
    have hcl := hs.codes
    refine Tot.callC (fun _ => F7_tot hK (by omega) hs) (fun e he => ?_)
    have he := he rfl
    refine Tot.letV (Tot.ite (fun _ => ?_) (fun hc => ?_))
    · refine Tot.call (F8_ret hK) (fun v hv => ?_)
      exact ⟨_, rfl, hv⟩
    have hy : Yes K im := by
      refine he ?_
      cases e with
      | none => rfl
      | some x => exact absurd rfl hc
    refine Tot.call (F7_none (F10_jobs (js := []) (b := true) (by omega) (by omega) hs hy (by simp) (jobsF_nil (by omega)))) (fun e5 h5 => ?_)
    subst h5
    refine Tot.iteF (by simp) ?_
    refine Tot.bindS (Tot.blockS (Tot.mapl ?_))
    refine Tot.loop (fun t => ∃ i : Nat, t.2 = i ∧ i ≤ im.fCodes.length ∧ (t.1 = -1 ∨ (0 ≤ t.1 ∧ t.1 < im.fCodes.length ∧ (im.fCodes.getD t.1.toNat default).fClass = -1))) (fun t => im.fCodes.length - t.2.toNat) ⟨0, rfl, by omega, Or.inl rfl⟩ (by simp only; omega) ?_
    rintro ⟨t1, t2⟩ ⟨i, hi, hil, ht⟩
    simp only at hi ht
    subst hi
    refine Tot.letV (Tot.ite (fun h => ?_) (fun h => ?_))
    · simp only [Int.ofNat_eq_natCast, decide_eq_true_eq] at h
      refine Tot.bindS (Tot.blockS (Tot.chk (inb_nat (by omega)) (Tot.chk0 (Tot.letV ?_))))
      refine Tot.ite (fun h2 => ?_) (fun h2 => ?_)
      · (repeat' (first | (with_reducible first | refine Tot.letV ?_ | refine Tot.bindS ?_ | refine Tot.blockS ?_ | refine Tot.iteT (by assumption) ?_ | refine Tot.iteF (by assumption) ?_ | refine Tot.ite (fun _ => ?_) (fun _ => ?_) | refine Tot.chk0 ?_ | refine Tot.ret ?_ | refine sE.l ?_ | refine sE.r ?_)))
        rw [wrap64 (by omega) (by omega)]
        refine ⟨⟨i + 1, by simp, by omega, Or.inr ⟨by omega, by omega, by simpa using h2⟩⟩, ?_⟩
        simp only
        omega
      · (repeat' (first | (with_reducible first | refine Tot.letV ?_ | refine Tot.bindS ?_ | refine Tot.blockS ?_ | refine Tot.iteT (by assumption) ?_ | refine Tot.iteF (by assumption) ?_ | refine Tot.ite (fun _ => ?_) (fun _ => ?_) | refine Tot.chk0 ?_ | refine Tot.ret ?_ | refine sE.l ?_ | refine sE.r ?_)))
        rw [wrap64 (by omega) (by omega)]
        refine ⟨⟨i + 1, by simp, by omega, ht⟩, ?_⟩
        simp only
        omega
    · refine Tot.ret (sE.l (sE.l ?_))
      dsimp only
      generalize t1 = u at ht ⊢
      refine Tot.bindS ?_
      have hjc : 0 ≤ u → JobC im.fCodes ⟨u, 1, 0⟩ := fun hu => by
        rcases ht with rfl | ⟨h1, h2, h3⟩
        · omega
        · exact ⟨h1, h2, h3, by simp, by simp, by simp, by simp⟩
      refine Tot.weak (Q := sE (fun v => v = true) (fun _ => True)) ?_ ?_
      · refine Tot.ite (fun hu => ?_) (fun hu => ?_)
        · refine Tot.call (F7_none (F10_jobs (js := [⟨u, 1, 0⟩]) (b := true) (by omega) (by omega) hs hy (by simp) (jobsF_one (by omega) (hjc (by simpa using hu))))) (fun e6 h6 => ?_)
          subst h6
          refine Tot.iteF (by simp) ?_
          exact ⟨_, rfl, trivial⟩
        · exact ⟨_, rfl, trivial⟩
      · rintro (a | l) hal
        · exact hal
        refine Tot.call (F9_tot (by omega) (by omega)) (fun r4 hr => ?_)
        have hbad : ∀ j : S42, ¬ JobC im.fCodes j → F10 K (alt im im.fCodes [j] im.fD im.fW) = some (.inl [116, 104, 105, 110, 103, 115]) := fun j hj => F10_jobs (b := false) (by omega) (by omega) hs hy (by simp) (jobsF_bad (by omega) hj)
        refine Tot.bindS (Tot.blockS ?_)
        refine Tot.ite (fun _ => ?_) (fun _ => ?_)
        · exact ⟨_, rfl, F4_end hK (hbad _ fun h => by have := h.2.1; simp at this)⟩
        refine Tot.ite (fun _ => ?_) (fun _ => ?_)
        · exact ⟨_, rfl, F4_end hK (hbad _ fun h => by have := h.2.2.2.1; simp at this)⟩
        refine Tot.ite (fun _ => ?_) (fun _ => ?_)
        · exact ⟨_, rfl, F4_end hK (hbad _ fun h => by have := h.2.2.2.2.1; simp at this)⟩
        refine Tot.ite (fun _ => ?_) (fun _ => ?_)
        · exact ⟨_, rfl, F4_end hK (hbad _ fun h => by have := h.2.2.2.2.2.2; simp at this)⟩
        refine Tot.call (Ret.eq (r := [116, 104, 105, 110, 103, 115]) (congrArg fnS (F10_jobs (js := [⟨u, 1, 0⟩, ⟨u, 1, 0⟩]) (b := false) (by omega) (by omega) hs hy (by simp) (jobsF_two (by omega))))) (fun v hv => ?_)
        subst hv
        refine Tot.letV (Tot.callC (fun _ => F8_ret hK) (fun v hv => ?_))
        have := hv rfl
        subst this
        exact ⟨_, rfl, rfl⟩
theorem jobs_law (im : S29) (k : Int) : fnS (F4 2000001 im k) = some true := by
  obtain ⟨v, h, e⟩ := F4_ret (K := 2000001) (im := im) (k := k) (by omega)
  rw [h, e]
end Go.Proofs.YtngjamedgphjiaaGreatDoor
