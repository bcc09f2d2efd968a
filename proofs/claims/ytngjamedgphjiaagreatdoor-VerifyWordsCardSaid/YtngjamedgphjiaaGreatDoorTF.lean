/- The law of VerifyWords. No conditions. -/
import Derived.Test.YtngjamedgphjiaaGreatDoorTD
import Derived.Test.YtngjamedgphjiaaGreatDoorVi
set_option linter.unusedVariables false
set_option linter.unusedSimpArgs false
set_option linter.unusedSectionVars false
namespace Go.Proofs.YtngjamedgphjiaaGreatDoor
open Go Go.Dl
set_option maxRecDepth 100000
set_option maxHeartbeats 2000000
abbrev alx (im : S29) (cl : List S47) (is : List Int) (g : Bytes) (it : List Int) : S29 := ⟨im.fFaces, cl, im.fCodes, is, g, it, im.fBlocks, im.fIns, im.fOuts, im.fJobs, im.fD, im.fW⟩
theorem cfF_no {X : Type} [Inhabited X] {K : Nat} {g : X → Option (Bool ⊕ Bool)} {l : List X} (hK : 1000 < K) (hl : l.length ≤ 900) (h : ∀ x ∈ l, fnS (g x) = some false) : fnS (cfF K g l) = some false := by
  obtain ⟨v, hv, h2⟩ := cfF_tot (P := fun x v => v = false) hK hl (fun x hx => ⟨_, h x hx, rfl⟩)
  rcases h2 with ⟨rfl, _⟩ | ⟨_, x, _, h3⟩
  · exact hv
  · cases h3
theorem cfF_nos {X : Type} [Inhabited X] {K : Nat} {g : X → Option (Bool ⊕ Bool)} {l : List X} (hK : 1000 < K) (hl : l.length ≤ 900) (ht : ∀ x ∈ l, Ret (g x) (fun _ => True)) (hf : fnS (cfF K g l) = some false) : ∀ x ∈ l, fnS (g x) = some false := by
  obtain ⟨v, hv, h2⟩ := cfF_tot (P := fun x v => fnS (g x) = some v) hK hl (fun x hx => by obtain ⟨v, h, _⟩ := ht x hx; exact ⟨v, h, h⟩)
  rw [hf] at hv
  cases hv
  rcases h2 with ⟨_, h⟩ | ⟨h, _⟩
  · exact h
  · cases h
section
variable {K : Nat} {im : S29} {m : Nat}
theorem F15_sm (hK : 1000 < K) (hm : m ≤ 1) (hs : Sm im m) (hi : im.fInsts.length ≤ 100) : fnS (F15 K im) = some true := by
  have h1 := hs.faces
  have h2 := hs.classes
  have h3 := hs.codes
  have h4 := hs.blocks
  have h5 := hs.ins
  have h6 := hs.outs
  have h7 := hs.jobs
  have h8 := hs.globals
  have q1 : fnS (F26f23 K im.fCodes) = some false := cfF_no (g := F23 K) hK (by omega) (fun c hc => by
    have hc := hs.code c hc
    have a := hc.o
    have b := hc.l
    show some ((decide (((Int.ofNat c.fOps.length) : Int) > 10000)) || (decide (((Int.ofNat c.fLocals.length) : Int) > 400))) = some false
    simp; omega)
  have q2 : fnS (F27f24 K im.fFaces) = some false := cfF_no (g := F24 K) hK (by omega) (fun c hc => by
    have hc := (hs.face c hc).n
    show some (decide (((Int.ofNat c.length) : Int) > 100)) = some false
    simp; omega)
  have q3 : fnS (F28f25 K im.fClasses) = some false := cfF_no (g := F25 K) hK (by omega) (fun c hc => by
    have hc := hs.cls c hc
    have a := hc.s.n
    have b := hc.t
    have d := hc.f
    show some ((decide (((imax (Int.ofNat c.fSigs.length) (Int.ofNat c.fTables.length)) : Int) > 100)) || (decide (((Int.ofNat c.fFields.length) : Int) > 10000))) = some false
    simp only [imax_gt, Option.some.injEq, Bool.or_eq_false_iff, decide_eq_false_iff_not, Int.ofNat_eq_natCast]
    omega)
  unfold F15
  rw [q1, q2, q3]
  unfold letV
  dsimp only
  rw [if_neg ?_]
  · rfl
  · simp only [Bool.or_eq_true, decide_eq_true_eq, imax_gt, Int.ofNat_eq_natCast, not_or]
    omega
theorem F15_many (h : 100 < im.fInsts.length) : fnS (F15 K im) = some false := by
  unfold F15
  unfold letV
  dsimp only
  rw [if_pos ?_]
  · rfl
  · simp only [Bool.or_eq_true, decide_eq_true_eq, imax_gt, Int.ofNat_eq_natCast]
    omega
theorem F16_parts (hK : 1000 < K) (hm : m ≤ 1) (hs : Sm im m) (hy : fnS (F16 K im) = some true) : fnS (F32 K im.fGlobals im.fInit) = some true ∧ fnS (F26f29 K im.fCodes) = some false ∧ fnS (F28f31 K im.fClasses) = some false := by
  have h1 := hs.codes
  have h2 := hs.classes
  have h3 := hs.globals
  have h4 := hs.init
  obtain ⟨v1, q1, _⟩ := F32_tot (K := K) (a0 := im.fGlobals) (a1 := im.fInit) hK (by omega) (by omega)
  obtain ⟨v2, q2, _⟩ := cfF_any (K := K) (g := F29 K) (l := im.fCodes) hK (by omega) (fun x hx => F29_tot (hs.code x hx))
  obtain ⟨v3, q3, _⟩ := cfF_any (K := K) (g := F31 K) (l := im.fClasses) hK (by omega) (fun x hx => F31_tot hK (hs.cls x hx))
  have q2 : fnS (F26f29 K im.fCodes) = some v2 := q2
  have q3 : fnS (F28f31 K im.fClasses) = some v3 := q3
  unfold F16 at hy
  rw [q1, q2, q3] at hy
  rw [q1, q2, q3]
  cases v1 <;> cases v2 <;> cases v3 <;> first | exact ⟨rfl, rfl, rfl⟩ | cases hy
theorem F16_join (h1 : fnS (F32 K im.fGlobals im.fInit) = some true) (h2 : fnS (F26f29 K im.fCodes) = some false) (h3 : fnS (F28f31 K im.fClasses) = some false) : fnS (F16 K im) = some true := by
  unfold F16
  rw [h1, h2, h3]
  rfl
theorem dw_some {p : UInt8 → Bool} : ∀ {l : List UInt8}, (∃ x ∈ l, p x = false) → l.dropWhile p ≠ []
  | [], h => by simp at h
  | a :: l, h => by
    rw [List.dropWhile_cons]
    split
    · rename_i ha
      obtain ⟨x, hx, hp⟩ := h
      rcases List.mem_cons.mp hx with rfl | hx
      · rw [ha] at hp; cases hp
      · exact dw_some ⟨x, hx, hp⟩
    · simp
theorem trim_x (g : Bytes) : Lib.trimS (g ++ [120]) [105, 114] ≠ [] := by
  unfold Lib.trimS Lib.trimRightS Lib.trimLeftS
  rw [List.reverse_append, List.reverse_singleton, List.singleton_append, List.dropWhile_cons_of_neg (by decide), List.reverse_cons, List.reverse_reverse]
  exact dw_some ⟨120, by simp, by decide⟩
theorem F16_x {cl : List S47} {is it : List Int} {g : Bytes} (hg : g.length ≤ 900) : fnS (F16 K (alx im cl is (g ++ [120]) it)) = some false := by
  have q0 : fnS (F54 K (g ++ [120]) [105, 114]) = some (Lib.trimS (g ++ [120]) [105, 114]) := by
    unfold F54; rw [if_pos ⟨rfl, by simp; omega⟩]; rfl
  have q1 : fnS (F30 K (g ++ [120])) = some false := by
    unfold F30
    rw [q0]
    show some (Lib.trimS (g ++ [120]) [105, 114] == []) = some false
    rw [beq_eq_false_iff_ne.mpr (trim_x g)]
  have q2 : fnS (F32 K (g ++ [120]) it) = some false := by
    unfold F32
    rw [q1]
    rfl
  unfold F16
  show fnS ((fnS (F32 K (g ++ [120]) it)).bind _) = _
  rw [q2]
  rfl
theorem F28_cls (hK : 1000 < K) (hs : Sm im m) (h : fnS (F28f31 K im.fClasses) = some false) : ∀ x ∈ im.fClasses, fnS (F31 K x) = some false :=
  cfF_nos (g := F31 K) hK (by have := hs.classes; omega) (fun x hx => F31_tot hK (hs.cls x hx)) h
theorem F17_base {c0 c1 : S47} {cl : List S47} {is it : List Int} {g : Bytes} (hK : 1000 < K) (hb : c1.fBase = 0) : Ret (F17 K (alx im (c1 :: cl) is g it)) (fun v => v = false) := by
  refine Ret.of ?_
  unfold F17
  refine Tot.bindS (Tot.blockS (Tot.mapl ?_))
  refine Tot.loop (fun t => t = 0) (fun _ => 0) rfl (by omega) (fun t ht => ?_)
  subst ht
  refine Tot.letV (Tot.iteT (by simp) ?_)
  refine Tot.bindS (Tot.blockS (Tot.chk (by simp [inb]) (Tot.chk0 (Tot.letV ?_))))
  have e : ((alx im (c1 :: cl) is g it).fClasses.getD (0 : Int).toNat default).fBase = 0 := hb
  rw [e]
  refine Tot.callC (P := fun _ => True) (fun h => by simp at h) (fun v _ => ?_)
  refine Tot.iteT (by simp) ?_
  exact ⟨_, rfl, rfl⟩
theorem F17_facts (hK : 1000 < K) (hm : m ≤ 1) (h : Sm im m) : Ret (F17 K im) (fun v => v = true → (0 < im.fClasses.length → (im.fClasses.getD 0 default).fBase = -1 ∧ (im.fClasses.getD 0 default).fVTable.length = (im.fClasses.getD 0 default).fSigs.length ∧ fnS (F33f34 K (im.fClasses.getD 0 default).fSigs) = some false) ∧ fnS (F27f37 K im.fFaces) = some false) := by
  have h1 := h.classes
  have h2 := h.faces
  refine Ret.of ?_
  unfold F17
  refine Tot.bindS (Tot.blockS (Tot.mapl ?_))
  refine Tot.upP im.fClasses.length (fun i => -1 ≤ (im.fClasses.getD i default).fBase ∧ (im.fClasses.getD i default).fBase < i ∧ (im.fClasses.getD i default).fVTable.length = (im.fClasses.getD i default).fSigs.length ∧ fnS (F33f34 K (im.fClasses.getD i default).fSigs) = some false) (by omega) (fun i hi => ?_) (fun hp => ?_)
  · have hd := getD_all (d := default) h.cls hi
    refine Tot.letV (Tot.iteT (by simp only [Int.ofNat_eq_natCast, decide_eq_true_eq]; omega) ?_)
    simp only [Int.toNat_natCast]
    refine Tot.bindS (Tot.blockS (Tot.chk (inb_nat hi) (Tot.chk0 (Tot.letV ?_))))
    obtain ⟨vv, hvv, _⟩ := F33f34_tot (K := K) hK hd.s (by omega)
    refine Tot.callC (fun _ => Ret.eq hvv) (fun v hv => ?_)
    refine Tot.ite (fun _ => ?_) (fun hc => ?_)
    · (repeat' (first | (with_reducible first | refine Tot.letV ?_ | refine Tot.bindS ?_ | refine Tot.blockS ?_ | refine Tot.mapl ?_ | refine Tot.ite (fun _ => ?_) (fun _ => ?_) | refine Tot.chk0 ?_ | refine Tot.ret ?_ | refine sE.l ?_ | refine sE.r ?_) | with_reducible refine Tot.chk (by (first | assumption | omega | (simp [inb, room, imax] at *; try omega))) ?_ | (refine (And.intro (a := IntKind.i64.wrap _ = _) (wrap64 (by omega) (by omega)) ?_))))
      (all_goals (try (first | trivial | (intro h; cases h; done))))
    · simp only [Bool.or_eq_true, decide_eq_true_eq, not_or, Bool.not_eq_true, bne_iff_ne, ne_eq, Decidable.not_not, Int.ofNat_eq_natCast] at hc
      obtain ⟨⟨⟨hc1, hc2⟩, hc3⟩, hc4⟩ := hc
      have hvf : vv = false := by
        rw [← hv ?_, hc4]
        simp only [Bool.not_eq_true', Bool.or_eq_false_iff, decide_eq_false_iff_not, bne_eq_false_iff_eq, Int.ofNat_eq_natCast]
        exact ⟨⟨hc1, hc2⟩, hc3⟩
      have hfin : -1 ≤ (im.fClasses.getD i default).fBase ∧ (im.fClasses.getD i default).fBase < i ∧ (im.fClasses.getD i default).fVTable.length = (im.fClasses.getD i default).fSigs.length ∧ fnS (F33f34 K (im.fClasses.getD i default).fSigs) = some false := ⟨by omega, by omega, by omega, by rw [hvv, hvf]⟩
      refine Tot.letV ?_
      refine Tot.ite (fun _ => ?_) (fun hb => ?_)
      · (repeat' (first | (with_reducible first | refine Tot.letV ?_ | refine Tot.bindS ?_ | refine Tot.blockS ?_ | refine Tot.iteT (by assumption) ?_ | refine Tot.iteF (by assumption) ?_ | refine Tot.ite (fun _ => ?_) (fun _ => ?_) | refine Tot.chk0 ?_ | refine Tot.ret ?_ | refine sE.l ?_ | refine sE.r ?_)))
        exact ⟨wrap64 (by omega) (by omega), hfin⟩
      · simp only [decide_eq_true_eq] at hb
        have hb2 : inb (im.fClasses.getD i default).fBase im.fClasses.length = true := by simp only [inb, Bool.and_eq_true, decide_eq_true_eq]; omega
        have hd2 := getD_all (d := default) h.cls (i := (im.fClasses.getD i default).fBase.toNat) (by omega)
        refine Tot.chk hb2 (Tot.chk0 (Tot.letV (Tot.letV ?_)))
        refine Tot.callC (fun _ => F35_tot) (fun v2 _ => ?_)
        refine Tot.chk ?_ (Tot.chk0 (Tot.letV ?_))
        · cases v2 <;> simp [bndOk]
          omega
        refine Tot.callC (fun _ => F36_tot hK (by have := hd2.s.n; omega)) (fun v3 _ => ?_)
        refine Tot.ite (fun _ => ?_) (fun _ => ?_)
        · (repeat' (first | (with_reducible first | refine Tot.letV ?_ | refine Tot.bindS ?_ | refine Tot.blockS ?_ | refine Tot.iteT (by assumption) ?_ | refine Tot.iteF (by assumption) ?_ | refine Tot.ite (fun _ => ?_) (fun _ => ?_) | refine Tot.chk0 ?_ | refine Tot.ret ?_ | refine sE.l ?_ | refine sE.r ?_)))
          (all_goals (try (first | trivial | (intro h; cases h; done))))
        · (repeat' (first | (with_reducible first | refine Tot.letV ?_ | refine Tot.bindS ?_ | refine Tot.blockS ?_ | refine Tot.iteT (by assumption) ?_ | refine Tot.iteF (by assumption) ?_ | refine Tot.ite (fun _ => ?_) (fun _ => ?_) | refine Tot.chk0 ?_ | refine Tot.ret ?_ | refine sE.l ?_ | refine sE.r ?_)))
          exact ⟨wrap64 (by omega) (by omega), hfin⟩
  · refine Tot.letV (Tot.iteF (by simp) ?_)
    (repeat' (first | (with_reducible first | refine Tot.letV ?_ | refine Tot.bindS ?_ | refine Tot.blockS ?_ | refine Tot.iteT (by assumption) ?_ | refine Tot.iteF (by assumption) ?_ | refine Tot.ite (fun _ => ?_) (fun _ => ?_) | refine Tot.chk0 ?_ | refine Tot.ret ?_ | refine sE.l ?_ | refine sE.r ?_)))
    obtain ⟨vv, hvv, _⟩ := F27f37_tot (K := K) hK (by omega) h.face (by omega)
    refine Tot.call (Ret.eq hvv) (fun v hv => ?_)
    subst hv
    (repeat' (first | (with_reducible first | refine Tot.letV ?_ | refine Tot.bindS ?_ | refine Tot.blockS ?_ | refine Tot.iteT (by assumption) ?_ | refine Tot.iteF (by assumption) ?_ | refine Tot.ite (fun _ => ?_) (fun _ => ?_) | refine Tot.chk0 ?_ | refine Tot.ret ?_ | refine sE.l ?_ | refine sE.r ?_)))
    intro hv
    simp only [Bool.not_eq_true'] at hv
    refine ⟨fun h0 => ?_, by rw [hvv, hv]⟩
    obtain ⟨a, b, c, d⟩ := hp 0 h0
    exact ⟨by omega, c, d⟩
theorem F34_gt : fnS (F34 K [62]) = some false := by kernel_rfl
theorem F17_one {c1 : S47} {is it : List Int} {g : Bytes} (hK : 1000 < K) (hb : c1.fBase = -1) (hl : c1.fVTable.length = c1.fSigs.length) (hs : fnS (F33f34 K c1.fSigs) = some false) (hf : fnS (F27f37 K im.fFaces) = some false) : Ret (F17 K (alx im [c1] is g it)) (fun v => v = true) := by
  refine Ret.of ?_
  unfold F17
  refine Tot.bindS (Tot.blockS (Tot.mapl ?_))
  refine Tot.up 1 (by omega) (fun i hi => ?_) ?_
  · obtain rfl : i = 0 := by omega
    refine Tot.letV (Tot.iteT (by simp) ?_)
    refine Tot.bindS (Tot.blockS (Tot.chk (by simp [inb]) (Tot.chk0 (Tot.letV ?_))))
    have e1 : ((alx im [c1] is g it).fClasses.getD ((0 : Nat) : Int).toNat default) = c1 := rfl
    rw [e1, hb]
    have e2 : ((Int.ofNat c1.fVTable.length : Int) != Int.ofNat c1.fSigs.length) = false := by rw [hl]; simp
    rw [e2]
    refine Tot.callC (fun _ => Ret.eq hs) (fun v hv => ?_)
    have := hv (by simp)
    subst this
    refine Tot.iteF (by simp) ?_
    refine Tot.letV (Tot.iteT (by simp) ?_)
    (repeat' (first | (with_reducible first | refine Tot.letV ?_ | refine Tot.bindS ?_ | refine Tot.blockS ?_ | refine Tot.iteT (by assumption) ?_ | refine Tot.iteF (by assumption) ?_ | refine Tot.ite (fun _ => ?_) (fun _ => ?_) | refine Tot.chk0 ?_ | refine Tot.ret ?_ | refine sE.l ?_ | refine sE.r ?_)))
    exact ⟨rfl, trivial⟩
  · refine Tot.letV (Tot.iteF (by simp) ?_)
    (repeat' (first | (with_reducible first | refine Tot.letV ?_ | refine Tot.bindS ?_ | refine Tot.blockS ?_ | refine Tot.iteT (by assumption) ?_ | refine Tot.iteF (by assumption) ?_ | refine Tot.ite (fun _ => ?_) (fun _ => ?_) | refine Tot.chk0 ?_ | refine Tot.ret ?_ | refine sE.l ?_ | refine sE.r ?_)))
    refine Tot.call (Ret.eq hf) (fun v hv => ?_)
    subst hv
    exact ⟨_, rfl, rfl⟩
theorem F38_end {a1 : Int} {l : List Int} {t : List Bytes} {n : Int} (hK : 1000 < K) (h : Ahead im) (hs : Sm im m) (h1 : a1 < im.fClasses.length) (h2 : l.length ≤ 800) (hn : n = im.fCodes.length) : Ret (F38 K im a1 (l ++ [n]) t) (fun v => v = false) := by
  have hl := hs.classes
  refine Ret.of ?_
  unfold F38
  refine Tot.letV (Tot.ite (fun _ => ?_) (fun hq => ?_))
  · exact ⟨_, rfl, rfl⟩
  · simp only [bne_iff_ne, Decidable.not_not, Int.ofNat_eq_natCast, ne_eq] at hq
    refine Tot.bindS (Tot.blockS (Tot.mapl ?_))
    refine Tot.upP (l ++ [n]).length (fun i => i ≠ l.length) (by simp; omega) (fun i hi => ?_) (fun hp => absurd rfl (hp l.length (by simp)))
    have h3 : inb (i : Int) t.length = true := inb_nat (by omega)
    have h4 : inb (i : Int) (l ++ [n]).length = true := inb_nat hi
    refine Tot.letV (Tot.iteT (by simp only [Int.ofNat_eq_natCast, decide_eq_true_eq]; omega) ?_)
    simp only [Int.toNat_natCast]
    have hlast : i = l.length → (l ++ [n]).getD i default = n := by rintro rfl; simp
    have hlen : i < 801 := by simp at hi; omega
    refine Tot.bindS (Tot.blockS (Tot.chk h4 (Tot.chk0 (Tot.letV (Tot.ite (fun hq1 => ?_) (fun hq1 => ?_))))))
    · (repeat' (first | (with_reducible first | refine Tot.letV ?_ | refine Tot.bindS ?_ | refine Tot.blockS ?_ | refine Tot.iteT (by assumption) ?_ | refine Tot.iteF (by assumption) ?_ | refine Tot.ite (fun _ => ?_) (fun _ => ?_) | refine Tot.chk0 ?_ | refine Tot.ret ?_ | refine sE.l ?_ | refine sE.r ?_)))
      refine ⟨wrap64 (by omega) (by omega), fun e => ?_⟩
      rw [hlast e, hn] at hq1
      simp only [beq_iff_eq] at hq1
      omega
    refine Tot.letV (Tot.ite (fun _ => ?_) (fun hq2 => ?_))
    · exact ⟨_, rfl, rfl⟩
    simp only [Bool.or_eq_true, decide_eq_true_eq, not_or, Int.ofNat_eq_natCast] at hq2
    have hne : i ≠ l.length := fun e => by rw [hlast e, hn] at hq2; omega
    have hc := getD_all (d := default) hs.code (i := ((l ++ [n]).getD i default).toNat) (by omega)
    refine Tot.chk (by simp only [inb, Bool.and_eq_true, decide_eq_true_eq]; omega) (Tot.chk0 (Tot.letV ?_))
    refine Tot.callC (fun hx => F58_tot hK h (by omega) h1) (fun v hv => ?_)
    refine Tot.chk (by rw [h3, Bool.or_true]) (Tot.chk0 ?_)
    refine Tot.callC (fun hx => F59_tot (by have := hc.p; omega)) (fun v2 _ => ?_)
    refine Tot.letV (Tot.ite (fun _ => ?_) (fun _ => ?_))
    · exact ⟨_, rfl, rfl⟩
    · (repeat' (first | (with_reducible first | refine Tot.letV ?_ | refine Tot.bindS ?_ | refine Tot.blockS ?_ | refine Tot.iteT (by assumption) ?_ | refine Tot.iteF (by assumption) ?_ | refine Tot.ite (fun _ => ?_) (fun _ => ?_) | refine Tot.chk0 ?_ | refine Tot.ret ?_ | refine sE.l ?_ | refine sE.r ?_)))
      exact ⟨wrap64 (by omega) (by omega), hne⟩
theorem F18_one {c1 : S47} {x : S29} {l : List Int} {n : Int} (hK : 1000 < K) (h : Ahead x) (hs : Sm x m) (hx : x.fClasses = [c1]) (hv : c1.fVTable = l ++ [n]) (h2 : l.length ≤ 800) (hn : n = x.fCodes.length) : Ret (F18 K x) (fun v => v = false) := by
  refine Ret.of ?_
  unfold F18
  refine Tot.bindS (Tot.blockS (Tot.mapl ?_))
  refine Tot.loop (fun t => t = 0) (fun _ => 0) rfl (by omega) (fun t ht => ?_)
  subst ht
  simp only [hx]
  refine Tot.letV (Tot.iteT (by simp) ?_)
  refine Tot.bindS (Tot.blockS (Tot.chk (by simp [inb]) (Tot.chk0 (Tot.letV (Tot.letV ?_)))))
  have e1 : (([c1] : List S47).getD (0 : Int).toNat default) = c1 := rfl
  rw [e1, hv]
  refine Tot.call (F38_end hK h hs (by rw [hx]; simp) h2 hn) (fun v hv => ?_)
  subst hv
  refine Tot.iteT (by simp) ?_
  exact ⟨_, rfl, rfl⟩
theorem F17_alx {is it : List Int} {g : Bytes} : F17 K (alx im im.fClasses is g it) = F17 K im := by kernel_rfl
theorem F58_alx {is it : List Int} {g : Bytes} (a b : Int) : F58 K (alx im im.fClasses is g it) a b = F58 K im a b := by kernel_rfl
theorem F38_alx {is it : List Int} {g : Bytes} (n : Int) (l : List Int) (t : List Bytes) : F38 K (alx im im.fClasses is g it) n l t = F38 K im n l t := by
  have e1 : (alx im im.fClasses is g it).fCodes = im.fCodes := rfl
  have e3 : (alx im im.fClasses is g it).fClasses = im.fClasses := rfl
  unfold F38
  simp only [e1, e3, F58_alx]
theorem F18_alx {is it : List Int} {g : Bytes} : F18 K (alx im im.fClasses is g it) = F18 K im := by
  have e3 : (alx im im.fClasses is g it).fClasses = im.fClasses := rfl
  have e2 : (alx im im.fClasses is g it).fFaces = im.fFaces := rfl
  unfold F18
  simp only [e2, e3, F38_alx]
theorem F19_inst {is it : List Int} {g : Bytes} {n : Int} (hK : 1000 < K) (hm : m ≤ 1) (hs : Sm (alx im im.fClasses (is ++ [n]) g it) m) (hn : n = im.fClasses.length) : fnS (F19 K (alx im im.fClasses (is ++ [n]) g it)) = some false := by
  have hi := hs.insts
  obtain ⟨v, hv, h⟩ := F43f39_tot (K := K) hK hm (l := is ++ [n]) (by have : (is ++ [n]).length ≤ 40 + 61 * m := hi; omega) hs
  have : v = true := by
    rcases h with ⟨_, h⟩ | h
    · exact absurd (Or.inr (by rw [hn]; exact Int.le_refl _)) (h n (by simp))
    · exact h
  subst this
  unfold F19
  show fnS ((fnS (F43f39 K (is ++ [n]) _)).bind _) = _
  rw [hv]
  rfl
theorem Sm.alx (hs : Sm im 0) {cl : List S47} {is it : List Int} {g : Bytes} (h1 : cl.length ≤ 40) (h2 : is.length ≤ 101) (h3 : it.length ≤ 41) (h4 : g.length ≤ 61) (h5 : ∀ d ∈ cl, SmD d 1) : Sm (alx im cl is g it) 1 :=
  ⟨hs.faces, h1, hs.codes, h2, h3, hs.blocks, hs.ins, hs.outs, hs.jobs, h4, hs.face, h5, hs.code⟩
theorem SmD.up {d : S47} (h : SmD d 0) : SmD d 1 := ⟨h.f, h.i, by have := h.v; omega, h.t, ⟨by have := h.s.n; omega, h.s.t⟩, h.l⟩
end
theorem F5_end {K : Nat} {x : Option (Bytes ⊕ Bytes)} {w : Bytes} (hK : 2000000 < K) (h : x = some (.inl w)) : Tot ((condM true (fnS x) default).bind (fun r23 => (letV (r23 == w) (fun (x29 : Bool) => ((condM x29 (fnS (F8 K)) default).bind (fun r24 => (some (.inl (x29 && r24)) : Option (Bool ⊕ Bool)))))))) (sE (fun v => v = true) (fun v => v = true)) := by
  subst h
  refine Tot.callC (fun _ => Ret.eq (r := w) rfl) (fun v hv => ?_)
  have := hv rfl
  subst this
  refine Tot.letV (Tot.callC (fun _ => F8_ret hK) (fun v2 hv => ?_))
  have := hv (by simp)
  subst this
  (repeat' (first | (with_reducible first | refine Tot.letV ?_ | refine Tot.bindS ?_ | refine Tot.blockS ?_ | refine Tot.iteT (by assumption) ?_ | refine Tot.iteF (by assumption) ?_ | refine Tot.ite (fun _ => ?_) (fun _ => ?_) | refine Tot.chk0 ?_ | refine Tot.ret ?_ | refine sE.l ?_ | refine sE.r ?_)))
  simp
theorem F5_ret {K : Nat} {im : S29} {k : Int} (hK : 2000000 < K) : Ret (F5 K im k) (fun v => v = true) := by
  refine Ret.of ?_
  unfold F5
  refine Tot.call (F6_tot (by omega)) (fun v1 h1 => ?_)
  cases v1
  case true =>
    refine Tot.callC (P := fun _ => True) (fun h => by cases h) (fun e _ => ?_)
    refine Tot.letV (Tot.iteT rfl (Tot.call (F8_ret hK) (fun v hv => ?_)))
    exact ⟨_, rfl, hv⟩
  case false =>
    have hs := h1 rfl
    have hcl := hs.classes
    have hco := hs.codes
    have hgl := hs.globals
    have hin := hs.init
    have hnst := hs.insts
    refine Tot.callC (fun _ => F7_tot hK (by omega) hs) (fun e he => ?_)
    have he := he rfl
    refine Tot.letV (Tot.ite (fun _ => ?_) (fun hc => ?_))
    · refine Tot.call (F8_ret hK) (fun v hv => ?_)
      exact ⟨_, rfl, hv⟩
    simp only [Bool.or_eq_true, not_or, beq_iff_eq, Int.ofNat_eq_natCast, Bool.not_eq_true] at hc
    obtain ⟨⟨hc1, hc2⟩, hc3⟩ := hc
    have hy : Yes K im := by
      refine he ?_
      cases e with
      | none => rfl
      | some x => exact absurd hc1.2 (by simp [errB])
    have hco2 : im.fCodes.length ≠ 0 := fun e => hc3 (by rw [e]; rfl)
    obtain ⟨c0, cl, hcs⟩ : ∃ c0 cl, im.fClasses = c0 :: cl := by
      cases h : im.fClasses with
      | nil => rw [h] at hc2; exact absurd rfl hc2
      | cons a b => exact ⟨a, b, rfl⟩
    have hm0 : c0 ∈ im.fClasses := by rw [hcs]; simp
    have hd0 := hs.cls c0 hm0
    have hvt := hd0.v
    have hsg := hd0.s.n
    have hln : cl.length + 1 ≤ 40 := by rw [hcs] at hcl; simpa using hcl
    obtain ⟨p1, p2, p3⟩ := F16_parts (by omega) (by omega) hs hy.y2
    have p4 := F28_cls (by omega) hs p3
    refine Tot.chk (by simp only [room, decide_eq_true_eq]; omega) (Tot.chk0 (Tot.chk (by simp only [room, decide_eq_true_eq]; omega) (Tot.chk0 (Tot.letV ?_))))
    refine Tot.call (F9_tot (by decide) (by decide)) (fun r hr => ?_)
    have hr6 : 0 ≤ r ∧ r < 6 := by simpa using hr
    rw [hcs]
    refine Tot.bindS (Tot.blockS ?_)
    refine Tot.ite (fun h => ?_) (fun h0 => ?_)
    · obtain rfl : r = 0 := by simpa using h
      refine Tot.chk (by decide) (Tot.chk (by decide) (Tot.chk0 ?_))
      refine Tot.ret (sE.r ?_)
      refine Tot.chk (by decide) (Tot.chk0 ?_)
      refine F5_end hK (F10_val (b1 := false) (b2 := true) (b3 := true) (b4 := true) (b5 := true) (b6 := true) (b7 := true) (F15_many (by simp)) ?_ ?_ ?_ ?_ ?_ ?_) <;> (intro h; cases h)
    refine Tot.ite (fun h => ?_) (fun h1 => ?_)
    · obtain rfl : r = 1 := by simpa using h
      refine Tot.chk (by simp only [room, decide_eq_true_eq, List.length_cons, List.length_nil]; omega) (Tot.chk0 (Tot.chk (by simp only [room, decide_eq_true_eq]; omega) (Tot.chk0 (Tot.chk (by simp only [room, decide_eq_true_eq, List.length_cons, List.length_nil]; omega) (Tot.chk0 ?_)))))
      refine Tot.ret (sE.r ?_)
      refine Tot.chk (by decide) (Tot.chk0 ?_)
      refine F5_end hK (F10_val (b1 := true) (b2 := false) (b3 := true) (b4 := true) (b5 := true) (b6 := true) (b7 := true) ?_ (fun _ => F16_x (im := im) (by omega)) ?_ ?_ ?_ ?_ ?_)
      · exact F15_sm (im := alx im (c0 :: cl) im.fInsts (im.fGlobals ++ [120]) (im.fInit ++ [0])) (m := 1) (by omega) (by omega) (hs.alx (by simpa using hln) (by omega) (by simp; omega) (by simp; omega) (fun d hd => (hs.cls d (by rw [hcs]; exact hd)).up)) (show im.fInsts.length ≤ 100 by omega)
      all_goals (intros; contradiction)
    refine Tot.ite (fun h => ?_) (fun h2 => ?_)
    · obtain rfl : r = 2 := by simpa using h
      refine Tot.chk (by simp [inb]) (Tot.chk0 (Tot.letV ?_))
      refine Tot.ret (sE.r ?_)
      refine Tot.chk (by decide) (Tot.chk0 ?_)
      have hsm : Sm (alx im (⟨0, c0.fFields, c0.fInit, c0.fVTable, c0.fSigs, c0.fTables⟩ :: cl) im.fInsts im.fGlobals im.fInit) 1 := hs.alx (by simpa using hln) (by omega) (by omega) (by omega) (fun d hd => by
        rcases List.mem_cons.mp hd with rfl | hd
        · exact ⟨hd0.up.f, hd0.up.i, hd0.up.v, hd0.up.t, hd0.up.s, hd0.up.l⟩
        · exact (hs.cls d (by rw [hcs]; exact List.mem_cons_of_mem _ hd)).up)
      obtain ⟨bb, hbb, rfl⟩ := F17_base (K := K) (im := im) (c0 := c0) (c1 := ⟨0, c0.fFields, c0.fInit, c0.fVTable, c0.fSigs, c0.fTables⟩) (cl := cl) (is := im.fInsts) (g := im.fGlobals) (it := im.fInit) (by omega) rfl
      refine F5_end hK (F10_val (im := alx im (⟨0, c0.fFields, c0.fInit, c0.fVTable, c0.fSigs, c0.fTables⟩ :: cl) im.fInsts im.fGlobals im.fInit) (b1 := true) (b2 := true) (b3 := false) (b4 := true) (b5 := true) (b6 := true) (b7 := true) (F15_sm (by omega) (by omega) hsm (show im.fInsts.length ≤ 100 by omega)) (fun _ => F16_join p1 p2 (cfF_no (g := F31 K) (by omega) (by simp; omega) (fun d hd => ?_))) (fun _ _ => hbb) ?_ ?_ ?_ ?_)
      · rcases List.mem_cons.mp hd with rfl | hd
        · exact p4 c0 hm0
        · exact p4 d (by rw [hcs]; exact List.mem_cons_of_mem _ hd)
      all_goals (intros; contradiction)
    obtain ⟨vf, hvf, hfa⟩ := F17_facts (K := K) (by omega) (by omega) hs
    have hvf2 : vf = true := by have := hy.y3; rw [hvf] at this; exact Option.some.inj this
    obtain ⟨hf0, hf1⟩ := hfa hvf2
    rw [hcs] at hf0
    obtain ⟨hb0, hl0, hs0⟩ := hf0 (by simp)
    have hb0 : c0.fBase = -1 := hb0
    have hl0 : c0.fVTable.length = c0.fSigs.length := hl0
    have hs0 : fnS (F33f34 K c0.fSigs) = some false := hs0
    refine Tot.ite (fun h => ?_) (fun h3 => ?_)
    · obtain rfl : r = 3 := by simpa using h
      refine Tot.chk (by simp [inb]) (Tot.chk0 (Tot.chk ?_ (Tot.chk0 (Tot.chk ?_ (Tot.chk0 (Tot.chk ?_ (Tot.chk0 (Tot.chk ?_ (Tot.chk0 (Tot.letV (Tot.chk ?_ (Tot.chk0 (Tot.chk ?_ (Tot.chk0 (Tot.chk ?_ (Tot.chk0 (Tot.chk ?_ (Tot.chk0 ?_))))))))))))))))))
      · show room (c0.fVTable.length * 8) = true
        simp only [room, decide_eq_true_eq]; omega
      · show room ((c0.fVTable.length + 1) * 8) = true
        simp only [room, decide_eq_true_eq]; omega
      · simp [inb]
      · simp [bndOk]; omega
      · rfl
      · show room (c0.fSigs.length * 16) = true
        simp only [room, decide_eq_true_eq]; omega
      · show room ((c0.fSigs.length + 1) * 16) = true
        simp only [room, decide_eq_true_eq]; omega
      · rfl
      refine Tot.ret (sE.r ?_)
      refine Tot.chk (by decide) (Tot.chk0 ?_)
      have hdc : SmD (⟨c0.fBase, c0.fFields, c0.fInit, c0.fVTable ++ [(Int.ofNat im.fCodes.length)], c0.fSigs ++ [[62]], c0.fTables⟩ : S47) 1 := ⟨hd0.f, hd0.i, by simp; omega, hd0.t, ⟨by simp; omega, fun x hx => by
        rcases List.mem_append.mp hx with h | h
        · exact hd0.s.t x h
        · have : x = [62] := by simpa using h
          subst this
          simp⟩, hd0.l⟩
      have hsm : Sm (alx im [⟨c0.fBase, c0.fFields, c0.fInit, c0.fVTable ++ [(Int.ofNat im.fCodes.length)], c0.fSigs ++ [[62]], c0.fTables⟩] im.fInsts im.fGlobals im.fInit) 1 := hs.alx (by simp) (by omega) (by omega) (by omega) (fun d hd => by
        have := List.mem_singleton.mp hd
        subst this
        exact hdc)
      have hah : Ahead (alx im [⟨c0.fBase, c0.fFields, c0.fInit, c0.fVTable ++ [(Int.ofNat im.fCodes.length)], c0.fSigs ++ [[62]], c0.fTables⟩] im.fInsts im.fGlobals im.fInit) := fun i hi => by
        obtain rfl : i = 0 := by simpa using hi
        show -1 ≤ c0.fBase ∧ c0.fBase < 0
        omega
      obtain ⟨b3, hb3, rfl⟩ := F17_one (K := K) (im := im) (c1 := ⟨c0.fBase, c0.fFields, c0.fInit, c0.fVTable ++ [(Int.ofNat im.fCodes.length)], c0.fSigs ++ [[62]], c0.fTables⟩) (is := im.fInsts) (g := im.fGlobals) (it := im.fInit) (by omega) hb0 (by simp [hl0]) (cfF_no (g := F34 K) (by omega) (by simp; omega) (fun x hx => by
        rcases List.mem_append.mp hx with h | h
        · exact cfF_nos (g := F34 K) (by omega) (by omega) (fun x hx => F34_tot (by have := hd0.s.t x hx; omega)) hs0 x h
        · have : x = [62] := by simpa using h
          subst this
          exact F34_gt)) hf1
      obtain ⟨b4, hb4, rfl⟩ := F18_one (K := K) (m := 1) (by omega) hah hsm rfl rfl (by omega) rfl
      refine F5_end hK (F10_val (im := alx im [⟨c0.fBase, c0.fFields, c0.fInit, c0.fVTable ++ [(Int.ofNat im.fCodes.length)], c0.fSigs ++ [[62]], c0.fTables⟩] im.fInsts im.fGlobals im.fInit) (b1 := true) (b2 := true) (b3 := true) (b4 := false) (b5 := true) (b6 := true) (b7 := true) (F15_sm (by omega) (by omega) hsm (show im.fInsts.length ≤ 100 by omega)) (fun _ => F16_join p1 p2 (cfF_no (g := F31 K) (by omega) (by simp) (fun d hd => ?_))) (fun _ _ => hb3) (fun _ _ _ => hb4) ?_ ?_ ?_)
      · have := List.mem_singleton.mp hd
        subst this
        exact p4 c0 hm0
      all_goals (intros; contradiction)
    refine Tot.ite (fun h => ?_) (fun h4 => ?_)
    · obtain rfl : r = 4 := by simpa using h
      refine Tot.chk (by simp only [room, decide_eq_true_eq]; omega) (Tot.chk0 (Tot.chk (by simp only [room, decide_eq_true_eq, List.length_cons, List.length_nil]; omega) (Tot.chk0 ?_)))
      refine Tot.ret (sE.r ?_)
      refine Tot.chk (by decide) (Tot.chk0 ?_)
      rw [← hcs]
      have hsm : Sm (alx im im.fClasses (im.fInsts ++ [(Int.ofNat im.fClasses.length)]) im.fGlobals im.fInit) 1 := hs.alx hcl (by simp; omega) (by omega) (by omega) (fun d hd => (hs.cls d hd).up)
      refine F5_end hK (F10_val (im := alx im im.fClasses (im.fInsts ++ [(Int.ofNat im.fClasses.length)]) im.fGlobals im.fInit) (b1 := true) (b2 := true) (b3 := true) (b4 := true) (b5 := false) (b6 := true) (b7 := true) (F15_sm (by omega) (by omega) hsm (by simp; omega)) (fun _ => F16_join p1 p2 p3) (fun _ _ => by rw [F17_alx]; exact hy.y3) (fun _ _ _ => by rw [F18_alx]; exact hy.y4) (fun _ _ _ _ => F19_inst (by omega) (by omega) hsm rfl) ?_ ?_)
      all_goals (intros; contradiction)
    rw [← hcs]
    have hw : IntKind.i64.wrap ((Int.ofNat im.fCodes.length) - 1) = ((im.fCodes.length - 1 : Nat) : Int) := by
      rw [wrap64 (by simp only [Int.ofNat_eq_natCast]; omega) (by simp only [Int.ofNat_eq_natCast]; omega)]
      simp only [Int.ofNat_eq_natCast]; omega
    refine Tot.letV ?_
    rw [hw]
    refine Tot.chk (inb_nat (by omega)) (Tot.chk0 (Tot.letV ?_))
    simp only [Int.toNat_natCast]
    obtain ⟨q, hq⟩ : ∃ q : Nat, im.fCodes.length - 1 = q := ⟨_, rfl⟩
    have hql : q < im.fCodes.length := by omega
    rw [hq]
    have hcq := getD_all (d := default) hs.code hql
    have hsm : Sm (⟨im.fFaces, im.fClasses, (im.fCodes.set q (⟨(Int.ofNat im.fClasses.length), (im.fCodes.getD q default).fParams, (im.fCodes.getD q default).fLocals, (im.fCodes.getD q default).fRet, (im.fCodes.getD q default).fStack, (im.fCodes.getD q default).fOps⟩ : S39)), im.fInsts, im.fGlobals, im.fInit, im.fBlocks, im.fIns, im.fOuts, [], im.fD, im.fW⟩ : S29) 0 :=
      ⟨hs.faces, hs.classes, by simpa using hs.codes, hs.insts, hs.init, hs.blocks, hs.ins, hs.outs, by simp, hs.globals, hs.face, hs.cls, fun c hc => by
        rcases List.mem_or_eq_of_mem_set hc with h | h
        · exact hs.code c h
        · subst h; exact ⟨hcq.p, hcq.l, hcq.o⟩⟩
    refine Tot.call (F10_tot hK (by omega) hsm) (fun v hv => ?_)
    have hvn : v ≠ [] := fun e => by
      have hy2 := hv e
      obtain ⟨v20, h20, ho⟩ := F20_okc (K := K) (by omega) (by omega) hsm
      have hv20 : v20 = true := by have := hy2.y6; rw [h20] at this; exact Option.some.inj this
      have hc := (ho hv20 q (by simpa using hql)).c
      simp only [List.getD, List.getElem?_set_self hql, Option.getD_some] at hc
      simp at hc
    have e1 : (v == ([] : Bytes)) = false := by simpa using hvn
    rw [e1]
    refine Tot.callC (fun _ => F8_ret hK) (fun v2 hv2 => ?_)
    have := hv2 rfl
    subst this
    exact ⟨_, rfl, rfl⟩
theorem words_law (im : S29) (k : Int) : fnS (F5 2000001 im k) = some true := by
  obtain ⟨v, h, e⟩ := F5_ret (K := 2000001) (im := im) (k := k) (by omega)
  rw [h, e]
end Go.Proofs.YtngjamedgphjiaaGreatDoor
