/- Operations that look: tests of equality, addresses, parts. No conditions. -/
import Derived.Test.YthmkdcclmaoonaaDoorA4
set_option linter.unusedVariables false
set_option linter.unusedSimpArgs false
namespace Go.Am
open Go.RowKit
section
variable {P : Program} {R : Nat} {F : Nat → World → Prop} {β : Bm} {H : FW} {w : World} {q : Bool}

theorem VR.ptr_inv {a : Addr} {x' : Value} (h : VR β (.pointer (some a)) x') : ∃ k, a.spot = none ∧ β a.block = some k ∧ x' = .pointer (some ⟨k.b, k.lo + a.off, none⟩) := by
  cases h with
  | ptr hk => exact ⟨_, rfl, hk, rfl⟩

theorem VR.sl_inv {a : Addr} {n c : Nat} {x' : Value} (h : VR β (.slice (some a) n c) x') :
    (∃ k cap, a.spot = none ∧ β a.block = some k ∧ n ≤ cap ∧ c / 2 ≤ cap ∧ (c % 2 = 0 → c / 2 = cap) ∧ 2 * n ≤ c ∧ cap ≤ maxLen ∧ x' = .slice (some ⟨k.b, k.lo + a.off, none⟩) n cap) ∨
    (n = 0 ∧ c = 1 ∧ ∃ b j cap, x' = .slice (some ⟨b, j, none⟩) 0 cap) := by
  cases h with
  | sl h hn hc he h2 hm hr => exact .inl ⟨_, _, rfl, h, hn, hc, he, h2, hm, rfl⟩
  | s1 => exact .inr ⟨rfl, rfl, _, _, _, rfl⟩

theorem VR.sl_inv2 {a : Addr} {n c : Nat} {x' : Value} (h : VR β (.slice (some a) n c) x') :
    (∃ k cap, a.spot = none ∧ β a.block = some k ∧ n ≤ cap ∧ c / 2 ≤ cap ∧ (c % 2 = 0 → c / 2 = cap) ∧ 2 * n ≤ c ∧ cap ≤ maxLen ∧ (c % 2 = 1 → k.lo + a.off + cap * k.wd ≤ k.sz) ∧ x' = .slice (some ⟨k.b, k.lo + a.off, none⟩) n cap) ∨
    (n = 0 ∧ c = 1 ∧ ∃ b j cap, x' = .slice (some ⟨b, j, none⟩) 0 cap) := by
  cases h with
  | sl h hn hc he h2 hm hr => exact .inl ⟨_, _, rfl, h, hn, hc, he, h2, hm, hr, rfl⟩
  | s1 => exact .inr ⟨rfl, rfl, _, _, _, rfl⟩

/-- The fields' part of the test. -/
def eqFs (P : Program) (f : TypeId → Value → Value → Option Bool) (xs ys : List Value) (fs : List Field) : Option Bool :=
  fs.foldr (fun fd r => bif !(fd.name == "_") then
          (bif someT P fd.type && !aggT P fd.type then
            (match xs[fd.offset]?, ys[fd.offset]? with
            | some a, some b => (match f fd.type a b with
              | some true => r
              | some false => some false
              | none => none)
            | _, _ => none)
          else none)
        else r) (some true)

theorem run_part {t : TypeId} {d : TypeDesc} (h : P.underlying t = some d) (hag : aggT P t = false) {cs : List Value} {off : Nat} {v : Value} (hv : cs[off]? = some v) (w : World) :
    (part t ⟨cs⟩ off).run P w = .ok v w := by
  unfold part
  rw [Sem.run_bind, run_isAgg h, Result.andThen_ok, if_neg (by simp [hag])]
  have : (⟨cs⟩ : Array Value)[off]? = some v := by simpa using hv
  rw [this]; rfl

theorem eqFs_sound {f : TypeId → Value → Value → Option Bool} {D : Nat} (hf : ∀ t x y x' y' r, f t x y = some r → VR β x x' → VR β y y' → ∀ w, (Op.equalIn D t x' y').run P w = .ok r w)
    {xs ys xs' ys' : List Value} (hx : VRs β xs xs') (hy : VRs β ys ys') : ∀ {fs : List Field} {r : Bool}, eqFs P f xs ys fs = some r → ∀ w, (Op.eqFields D ⟨xs'⟩ ⟨ys'⟩ fs).run P w = .ok r w
  | [], r, h, w => by
    simp only [eqFs, List.foldr_nil, Option.some.injEq] at h
    subst h
    rfl
  | fd :: fs, r, h, w => by
    unfold eqFs at h
    rw [List.foldr_cons] at h
    unfold Op.eqFields
    cases hn : (fd.name == "_") with
    | true =>
      rw [hn] at h
      have hne : ¬ (fd.name ≠ "_") := by simpa using hn
      rw [if_neg hne]
      exact eqFs_sound hf hx hy h w
    | false =>
      rw [hn] at h
      simp only [Bool.not_false, cond_true] at h
      have hne : fd.name ≠ "_" := by simpa using hn
      rw [if_pos hne]
      obtain ⟨hg, h⟩ := some_of_cond h
      simp only [Bool.and_eq_true, Bool.not_eq_true'] at hg
      obtain ⟨d, hd⟩ := Option.isSome_iff_exists.1 hg.1
      cases ha : xs[fd.offset]? with
      | none => simp [ha] at h
      | some a =>
        cases hb : ys[fd.offset]? with
        | none => simp [ha, hb] at h
        | some b =>
          rw [ha, hb] at h
          simp only at h
          obtain ⟨a', ha', hra⟩ := hx.get ha
          obtain ⟨b', hb', hrb⟩ := hy.get hb
          cases he : f fd.type a b with
          | none => rw [he] at h; cases h
          | some e =>
            rw [he] at h
            rw [Sem.run_bind, run_part hd hg.2 ha', Result.andThen_ok, Sem.run_bind, run_part hd hg.2 hb', Result.andThen_ok, Sem.run_bind, hf _ _ _ _ _ _ he hra hrb, Result.andThen_ok]
            cases e with
            | true =>
              simp only [Bool.not_true, Bool.false_eq_true, if_false]
              exact eqFs_sound hf hx hy h w
            | false =>
              simp only [Option.some.injEq] at h
              subst h
              rfl

theorem eqA_sound : ∀ (d n : Nat) {t : TypeId} {x y x' y' : Value} {r : Bool}, eqA P d t x y = some r → VR β x x' → VR β y y' → ∀ w, (Op.equalIn (d + n) t x' y').run P w = .ok r w
  | 0, _, _, _, _, _, _, _, h, _, _, _ => by cases h
  | d + 1, n, t, x, y, x', y', r, h, hx, hy, w => by
    have ih : ∀ (t : TypeId) (x y x' y' : Value) (r : Bool), eqA P d t x y = some r → VR β x x' → VR β y y' → ∀ w, (Op.equalIn (d + n) t x' y').run P w = .ok r w := fun t x y x' y' r h hx hy w => eqA_sound d n h hx hy w
    rw [show d + 1 + n = (d + n) + 1 by omega]
    unfold eqA at h
    split at h
    · rename_i a b hu
      cases hx; cases hy
      simp only [Option.some.injEq] at h; subst h
      unfold Op.equalIn; rw [Sem.run_bind, run_underlying hu]; rfl
    · rename_i k0 k a k' b hu
      cases hx; cases hy
      have h2 := some_of_cond h
      clear h
      obtain ⟨hk, h⟩ := h2
      have hk : k = k' := by simpa using hk
      subst hk
      simp only [Option.some.injEq] at h; subst h
      unfold Op.equalIn; rw [Sem.run_bind, run_underlying hu]
      simp only [Result.andThen_ok, if_true]
      show Result.ok (a == b) w = _
      congr 1
    · rename_i a b hu
      cases hx; cases hy
      simp only [Option.some.injEq] at h; subst h
      rw [run_equalIn_string _ _ _ _ _ hu, ByteArray.toList_eq, ByteArray.toList_eq]
    · rename_i e b hu
      simp only [Option.some.injEq] at h; subst h
      cases hx
      unfold Op.equalIn; rw [Sem.run_bind, run_underlying hu]
      cases hy <;> rfl
    · rename_i e a hu
      simp only [Option.some.injEq] at h; subst h
      cases hx; cases hy
      unfold Op.equalIn; rw [Sem.run_bind, run_underlying hu]; rfl
    · rename_i e a b hu
      obtain ⟨hg, h⟩ := some_of_cond h
      simp only [Bool.and_eq_true] at hg
      obtain ⟨hb, _, _, hs⟩ := hg
      have hb := Nat.eq_of_beq_eq_true hb
      simp only [Option.some.injEq] at h; subst h
      obtain ⟨k, _, hk1, rfl⟩ := hx.ptr_inv
      obtain ⟨k', _, hk2, rfl⟩ := hy.ptr_inv
      rw [hb, hk2] at hk1
      simp only [Option.some.injEq] at hk1
      subst hk1
      cases hi : P.info? e with
      | none => rw [hi] at hs; cases hs
      | some ei =>
        rw [hi] at hs
        have hpos : 0 < ei.size := by simpa [Nat.blt_eq] using hs
        unfold Op.equalIn; rw [Sem.run_bind, run_underlying hu, Result.andThen_ok]
        simp only
        rw [Sem.run_bind, run_sizeOf' hi, Result.andThen_ok, if_pos (by omega)]
        unfold sameAddr
        simp only [beq_self_eq_true, if_true]
        show Result.ok _ w = _
        congr 1
        by_cases hij : a.off = b.off
        · rw [hij]; simp
        · have h1 : Nat.beq a.off b.off = false := by
            cases hbb : Nat.beq a.off b.off with
            | false => rfl
            | true => exact absurd (Nat.eq_of_beq_eq_true hbb) hij
          rw [h1, beq_eq_false_iff_ne]
          intro he
          simp only [Addr.mk.injEq] at he
          omega
    · rename_i ms hu
      simp only [Option.some.injEq] at h; subst h
      cases hx; cases hy
      unfold Op.equalIn; rw [Sem.run_bind, run_underlying hu]; rfl
    · rename_i ms tt vv hu
      simp only [Option.some.injEq] at h; subst h
      cases hx; cases hy
      unfold Op.equalIn; rw [Sem.run_bind, run_underlying hu]; rfl
    · rename_i ms tt vv hu
      simp only [Option.some.injEq] at h; subst h
      cases hx; cases hy
      unfold Op.equalIn; rw [Sem.run_bind, run_underlying hu]; rfl
    · rename_i ms tx vx ty vy hu
      cases hx with
      | iface hvx =>
        cases hy with
        | iface hvy =>
          unfold Op.equalIn; rw [Sem.run_bind, run_underlying hu, Result.andThen_ok]
          simp only
          cases hb : Nat.beq tx ty with
          | true =>
            have hb := Nat.eq_of_beq_eq_true hb
            subst hb
            rw [hb, cond_true] at h
            cases hi : P.info? tx with
            | none => rw [hi] at h; cases h
            | some i =>
              rw [hi] at h
              obtain ⟨hcmp, h⟩ := some_of_cond h
              rw [if_neg (by simp), Sem.run_bind, run_typeInfo' hi, Result.andThen_ok]
              simp only [hcmp, Bool.not_true, Bool.false_eq_true, if_false]
              exact ih _ _ _ _ _ _ h hvx hvy w
          | false =>
            rw [hb, cond_false] at h
            simp only [Option.some.injEq] at h; subst h
            have hne : tx ≠ ty := by
              intro e; subst e
              simp at hb
            rw [if_pos hne]; rfl
    · rename_i e n1 c1 b n2 c2 hu
      simp only [Option.some.injEq] at h; subst h
      cases hx
      unfold Op.equalIn; rw [Sem.run_bind, run_underlying hu]
      cases hy <;> rfl
    · rename_i e a n1 c1 n2 c2 hu
      simp only [Option.some.injEq] at h; subst h
      unfold Op.equalIn; rw [Sem.run_bind, run_underlying hu]
      cases hx <;> cases hy <;> rfl
    · rename_i kt et b hu
      simp only [Option.some.injEq] at h; subst h
      cases hx
      unfold Op.equalIn; rw [Sem.run_bind, run_underlying hu]
      cases hy <;> rfl
    · rename_i kt et a hu
      simp only [Option.some.injEq] at h; subst h
      unfold Op.equalIn; rw [Sem.run_bind, run_underlying hu]
      cases hx; cases hy; rfl
    · rename_i hu
      simp only [Option.some.injEq] at h; subst h
      unfold Op.equalIn; rw [Sem.run_bind, run_underlying hu]
      cases hx; cases hy; rfl
    · rename_i hu
      simp only [Option.some.injEq] at h; subst h
      unfold Op.equalIn; rw [Sem.run_bind, run_underlying hu]
      cases hx; cases hy; rfl
    · rename_i hu
      simp only [Option.some.injEq] at h; subst h
      unfold Op.equalIn; rw [Sem.run_bind, run_underlying hu]
      cases hx; cases hy; rfl
    · rename_i fs xs ys hu
      obtain ⟨hg, h⟩ := some_of_cond h
      simp only [Bool.not_eq_true'] at hg
      have hfs : P.fieldsOf t = fs := by unfold Program.fieldsOf; rw [hu]
      cases hx with
      | agg hxl =>
        cases hy with
        | agg hyl =>
          rw [run_equalIn_struct w (d + n) t _ _ (by rw [hfs]; exact hu) hg, hfs]
          exact eqFs_sound (D := d + n) ih hxl hyl h w
    · cases h

theorem eqGuard_run {op : BinOp} {t : TypeId} {p q : Operand} {x y x' y' : Value} (hg : guardA P t p q x y = true) (hx : VR β x x') (hy : VR β y y')
    (hnx : x ≠ bot) (hny : y ≠ bot) (w : World) : (eqGuard op t p q x' y').run P w = .ok () w := by
  by_cases h1 : x' = .nilIface ∧ y' = .nilIface
  · obtain ⟨rfl, rfl⟩ := h1
    cases hx with
    | any => exact absurd rfl hnx
    | nilIface =>
      cases hy with
      | any => exact absurd rfl hny
      | nilIface =>
        have hg : (isConst p || isConst q) = true := hg
        unfold eqGuard
        cases p <;> cases q <;> simp [isConst] at hg <;> cases op <;> rfl
  · by_cases h2 : ∃ l m, x' = .agg l ∧ y' = .agg m
    · obtain ⟨l, m, rfl, rfl⟩ := h2
      cases hx with
      | any => exact absurd rfl hnx
      | agg hl =>
        cases hy with
        | any => exact absurd rfl hny
        | agg hm =>
          have hg : (!P.eqGuardType P.depth t) = true := hg
          exact run_eqGuard_agg w op t p q _ _ (by simpa using hg)
    · unfold eqGuard
      cases x' <;> cases y' <;> first | (cases op <;> rfl) | exact absurd ⟨rfl, rfl⟩ h1 | exact absurd ⟨_, _, rfl, rfl⟩ h2

theorem run_eqGuard_int (op : BinOp) (t : TypeId) (x y : Operand) (k k' : IntKind) (a b : Int) (w : World) : (eqGuard op t x y (.int k a) (.int k' b)).run P w = .ok () w := by
  unfold eqGuard
  cases op <;> rfl

theorem run_eqGuard_str (op : BinOp) (t : TypeId) (x y : Operand) (a b : ByteArray) (w : World) : (eqGuard op t x y (.string a) (.string b)).run P w = .ok () w := by
  unfold eqGuard
  cases op <;> rfl

theorem eqA_bot {d : Nat} {t : TypeId} {x y : Value} {r : Bool} (h : eqA P d t x y = some r) : x ≠ bot ∧ y ≠ bot := by
  cases d with
  | zero => cases h
  | succ d =>
    unfold eqA at h
    refine ⟨fun e => ?_, fun e => ?_⟩
    · subst e
      unfold bot at h
      split at h <;> first | contradiction | cases h
    · subst e
      unfold bot at h
      split at h <;> first | contradiction | cases h

theorem binA_sound {op : BinOp} {t : TypeId} {p q : Operand} {x y x' y' v : Value} (hx : VR β x x') (hy : VR β y y') (h : binA P op t p q x y = some v) :
    ∃ u, (∀ w, (do eqGuard op t p q x' y'; binOp op t x' y' : Sem Value).run P w = .ok u w) ∧ VR β v u := by
  unfold binA at h
  split at h
  · cases hx; cases hy
    obtain ⟨h1, h2⟩ := intA_sound (P := P) (β := β) (t := t) h
    exact ⟨v, fun w => by rw [Sem.run_bind, run_eqGuard_int, Result.andThen_ok, h1], h2⟩
  · cases hx; cases hy
    obtain ⟨h1, h2⟩ := strA_sound (P := P) (β := β) (t := t) h
    exact ⟨v, fun w => by rw [Sem.run_bind, run_eqGuard_str, Result.andThen_ok, h1], h2⟩
  · rename_i hni hns
    have hbin : ∀ (r : Bool), eqlA P t p q x y = some r → (op = .eql ∨ op = .neq) → ∀ w, (do eqGuard op t p q x' y'; binOp op t x' y' : Sem Value).run P w = .ok (.bool (if op = .eql then r else !r)) w := by
      intro r he hop w
      unfold eqlA at he
      obtain ⟨hg, he⟩ := some_of_cond he
      obtain ⟨n1, n2⟩ := eqA_bot he
      have hrun := eqA_sound (β := β) 5 9995 he hx hy w
      have heq : (Op.equal t x' y').run P w = .ok r w := hrun
      rw [Sem.run_bind, eqGuard_run hg hx hy n1 n2, Result.andThen_ok]
      have hb1 : (op = .eql → binOp op t x' y' = (do pure (.bool (← Op.equal t x' y')))) ∧ (op = .neq → binOp op t x' y' = (do pure (.bool (!(← Op.equal t x' y'))))) := by
        constructor
        · rintro rfl
          cases hx with
          | int k n =>
            cases hy with
            | int k' n' => exact absurd rfl (hni _ _ _ _ · rfl)
            | any => exact absurd rfl n2
            | _ => rfl
          | string s =>
            cases hy with
            | string s' => exact absurd rfl (hns _ _ · rfl)
            | any => exact absurd rfl n2
            | _ => rfl
          | any => exact absurd rfl n1
          | _ => cases hy <;> first | exact absurd rfl n2 | rfl
        · rintro rfl
          cases hx with
          | int k n =>
            cases hy with
            | int k' n' => exact absurd rfl (hni _ _ _ _ · rfl)
            | any => exact absurd rfl n2
            | _ => rfl
          | string s =>
            cases hy with
            | string s' => exact absurd rfl (hns _ _ · rfl)
            | any => exact absurd rfl n2
            | _ => rfl
          | any => exact absurd rfl n1
          | _ => cases hy <;> first | exact absurd rfl n2 | rfl
      rcases hop with rfl | rfl
      · rw [hb1.1 rfl, Sem.run_bind, heq]; rfl
      · rw [hb1.2 rfl, Sem.run_bind, heq]; rfl
    split at h
    · cases he : eqlA P t p q x y with
      | none => rw [he] at h; cases h
      | some r =>
        rw [he] at h
        simp only [Option.some.injEq] at h; subst h
        exact ⟨_, hbin r he (.inl rfl), .bool _⟩
    · cases he : eqlA P t p q x y with
      | none => rw [he] at h; cases h
      | some r =>
        rw [he] at h
        simp only [Option.some.injEq] at h; subst h
        exact ⟨_, hbin r he (.inr rfl), .bool _⟩
    · cases h

end
end Go.Am
