/- The quick machine's operations on maps, lengths; aggregates that are built. No conditions. -/
import Derived.Test.YthmkdcclmaoonaaDoorQ7
set_option linter.unusedVariables false
set_option linter.unusedSimpArgs false
set_option linter.unusedSectionVars false
set_option linter.constructorNameAsVariable false
namespace Go.Qm
open Go.Am
noncomputable section
variable [Rho]

/-- A map: none, or one. -/
def asM (x : V) (kn : Bool) (k : Pt → Bool) : Bool := V.rec (motive := fun _ => Bool) false (fun _ => false) (fun _ => false) (fun _ _ => false) (fun _ => false) (fun _ _ => false) (fun _ _ => false) (fun _ _ _ _ => false) (fun c => Bool.rec (motive := fun _ => Bool) false kn (Nat.beq c 2)) k (fun _ _ _ _ _ => false) (fun _ _ _ => false) false (fun _ _ _ _ => false) (fun _ _ => false) (fun _ _ => false) x

theorem asM_spec {x : V} {kn : Bool} {k : Pt → Bool} (h : asM x kn k = true) : (x = .n 2 ∧ kn = true) ∨ ∃ q, x = .m q ∧ k q = true := by
  cases x <;> first | exact .inr ⟨_, rfl, h⟩ | skip
  all_goals first | (rename_i c; cases hb : Nat.beq c 2 with
    | false => (simp only [asM, hb] at h; cases h)
    | true => (simp only [asM, hb] at h; have := Nat.eq_of_beq_eq_true hb; subst this; exact .inl ⟨rfl, h⟩)) | cases h

def mblk (H : QH) (q : Pt) (k : ME → Nat → Bool) : Bool :=
  QH.rec (motive := fun _ => Bool) (fun r _ _ _ => hget r q fun ob => QO.rec (motive := fun _ => Bool) false (fun _ _ _ => false) k (fun _ _ _ => false) false (fun _ _ _ => false) ob) H

theorem mblk_spec {H : QH} {q : Pt} {k : ME → Nat → Bool} (h : mblk H q k = true) : ∃ es c, hg H.r q = .m es c ∧ k es c = true := by
  obtain ⟨r, x, jj, ff⟩ := H
  have h' : QO.rec (motive := fun _ => Bool) false (fun _ _ _ => false) k (fun _ _ _ => false) false (fun _ _ _ => false) (hg r q) = true := h
  show ∃ es c, hg r q = .m es c ∧ k es c = true
  generalize hg r q = ob at *
  cases ob <;> first | exact ⟨_, _, rfl, h'⟩ | cases h'

theorem HR.mapOf {R : Nat} {G : N5 QO} {H : QH} {F : FW} (hr : HR R G H F) {q : Pt} {es : ME} {c : Nat} (h : hg H.r q = .m es c) : F.mapOf q.num = some (decE es, c) ∧ scE es := by
  have h1 := hr.objs q
  have h2 := hr.wf q
  rw [h] at h1 h2
  exact ⟨by simp only [FW.mapOf, h1, decO], h2⟩

def cntK (es : ME) : (Nat → Bool) → Bool := ME.rec (motive := fun _ => (Nat → Bool) → Bool) (fun k => k 0) (fun _ _ _ _ ih k => ih fun n => k (Nat.succ n)) es

theorem cntK_eq : ∀ (es : ME) (k : Nat → Bool), cntK es k = k (decE es).length
  | .nil, _ => rfl
  | .cons _ _ _ r, k => cntK_eq r fun n => k (Nat.succ n)

def lenC (P : Program) (t : TypeId) : H1 :=
  match P.underlying t with
  | some .string => ⟨fun x _ k => isq x (toSt x fun t => toTx t (fun t => lit (lenT t) fun l => le l 9223372036854775807 (k (.i l))) false) <| asS x fun l _ => le l 9223372036854775807 (k (.i l))⟩
  | some (.slice _) => ⟨fun x _ k => asL x (k (.i 0)) fun _ _ n _ => le n 9223372036854775807 (k (.i n))⟩
  | some (.map _ _) => ⟨fun x H k => asM x (k (.i 0)) fun q => mblk H q fun es _ => cntK es fun n => le n 9223372036854775807 (k (.i n))⟩
  | _ => .bad

theorem dec_len {n : Nat} (h : n ≤ 9223372036854775807) : dec (.i n) = .int .i64 (.ofNat n) := by rw [dec_i, sg_small (by omega)]; rfl

theorem lenC_spec {R : Nat} {G : N5 QO} {P : Program} {t : TypeId} {x : V} {a : Value} {H : QH} {F : FW} {k : V → Bool} (hr : HR R G H F) (hx : VQ x a) (h : (lenC P t).f x H k = true) : ∃ r, lenA P t a F = some (dec r) ∧ k r = true := by
  unfold lenC at h
  split at h
  · rename_i hs
    rcases isq_spec h with h | h
    · obtain ⟨w, g1, g2, h⟩ := toSt_spec h
      rcases toTx_spec h with ⟨w2, g3, h⟩ | h
      · rw [lit_eq] at h
        obtain ⟨h1, h⟩ := le_spec h
        refine ⟨_, ?_, h⟩
        rw [hx.eq g2, g1, dec_len h1]
        unfold lenA
        simp only [hs, g3, lenT_spec]
      · cases h
    obtain ⟨l, n, rfl, g⟩ := asS_spec h
    obtain ⟨h1, g⟩ := le_spec g
    refine ⟨_, ?_, g⟩
    rw [hx.eq (by simp), dec_s, dec_len h1]
    unfold lenA
    simp only [hs, bytesN_length]
  · rename_i e hs
    rcases asL_spec h with ⟨rfl, g⟩ | ⟨q, o, n, c, rfl, g⟩
    · refine ⟨_, ?_, g⟩
      rw [hx.eq (by simp), show dec (.n 1) = Value.slice none 0 0 from rfl, dec_len (by omega)]
      unfold lenA
      simp only [hs]
    · obtain ⟨h1, g⟩ := le_spec g
      refine ⟨_, ?_, g⟩
      rw [hx.eq (by simp), dec_l, dec_len h1]
      unfold lenA
      simp only [hs]
  · rename_i e1 e2 hs
    rcases asM_spec h with ⟨rfl, g⟩ | ⟨q, rfl, g⟩
    · refine ⟨_, ?_, g⟩
      rw [hx.eq (by simp), show dec (.n 2) = Value.map none from rfl, dec_len (by omega)]
      unfold lenA
      simp only [hs]
      rfl
    · obtain ⟨es, c, hb, g⟩ := mblk_spec g
      rw [cntK_eq] at g
      obtain ⟨h1, g⟩ := le_spec g
      refine ⟨_, ?_, g⟩
      rw [hx.eq (by simp), show dec (.m q) = Value.map (some q.num) from rfl, dec_len h1]
      unfold lenA
      simp only [hs, (hr.mapOf hb).1]
  · cases h

/-! Keys. -/

structure KE where
  f : V → V → Bool → Bool → Bool

def keC (kd : TypeDesc) : KE :=
  match kd with
  | .int _ => ⟨fun a b y n => asI a fun i => asI b fun j => Bool.rec (motive := fun _ => Bool) n y (Nat.beq (Nat.mod i 18446744073709551616) (Nat.mod j 18446744073709551616))⟩
  | .string => ⟨fun a b y n => asS a fun l i => asS b fun l' j => Bool.rec (motive := fun _ => Bool) n y (sameS l i l' j)⟩
  | _ => ⟨fun _ _ _ _ => false⟩

theorem keC_spec {kd : TypeDesc} {a b : V} {y n : Bool} (h : (keC kd).f a b y n = true) : plainK kd (dec a) = true ∧ a ≠ .bot ∧ ((keyA kd (dec a) (dec b) = some true ∧ y = true) ∨ (keyA kd (dec a) (dec b) = some false ∧ n = true)) := by
  unfold keC at h
  split at h
  · obtain ⟨i, rfl, g0⟩ := asI_spec h
    obtain ⟨j, rfl, g⟩ := asI_spec g0
    clear g0 h
    refine ⟨rfl, by simp, ?_⟩
    have e : ∀ kk, keyA (.int kk) (dec (.i i)) (dec (.i j)) = some (Nat.beq (i % 18446744073709551616) (j % 18446744073709551616)) := fun kk => by
      show (bif decide (IntKind.i64 = IntKind.i64) then some (decide (sg i = sg j)) else none) = _
      rw [decide_eq_true rfl, cond_true, beq_dec, decide_eq_decide.2 (sg_eq i j)]
    rw [e]
    generalize hb : Nat.beq (i % 18446744073709551616) (j % 18446744073709551616) = t
    rw [show Nat.beq (Nat.mod i 18446744073709551616) (Nat.mod j 18446744073709551616) = t from hb] at g
    cases t with
    | true => exact .inl ⟨rfl, g⟩
    | false => exact .inr ⟨rfl, g⟩
  · obtain ⟨l, i, rfl, g0⟩ := asS_spec h
    obtain ⟨l', j, rfl, g⟩ := asS_spec g0
    clear g0 h
    refine ⟨rfl, by simp, ?_⟩
    have e : keyA .string (dec (.s l i)) (dec (.s l' j)) = some (sameS l i l' j) := by rw [sameS_eq]; rfl
    rw [e]
    generalize sameS l i l' j = t at *
    cases t with
    | true => exact .inl ⟨rfl, g⟩
    | false => exact .inr ⟨rfl, g⟩
  · cases h

/-- May be asked. -/
def plQ (kd : TypeDesc) (a : V) (k : Bool) : Bool :=
  match kd with
  | .int _ => asI a fun _ => k
  | .string => asS a fun _ _ => k
  | _ => false

theorem plQ_spec {kd : TypeDesc} {a : V} {k : Bool} (h : plQ kd a k = true) : plainK kd (dec a) = true ∧ a ≠ .bot ∧ k = true := by
  unfold plQ at h
  split at h
  · obtain ⟨i, rfl, g⟩ := asI_spec h
    exact ⟨rfl, by simp, g⟩
  · obtain ⟨l, i, rfl, g⟩ := asS_spec h
    exact ⟨rfl, by simp, g⟩
  · cases h

def findQ (ke : KE) (x : V) (es : ME) : Nat → (Nat → V → Bool) → Bool → Bool :=
  ME.rec (motive := fun _ => Nat → (Nat → V → Bool) → Bool → Bool) (fun _ _ n => n) (fun k v _ _ ih i f n => ke.f x k (f i v) (ih (Nat.succ i) f n)) es

theorem findQ_spec {kd : TypeDesc} {x : V} : ∀ {es : ME} {i : Nat} {f : Nat → V → Bool} {n : Bool}, scE es → findQ (keC kd) x es i f n = true →
    (∃ j v, findA kd (dec x) (decE es) i = some (some (j, dec v)) ∧ v ≠ .bot ∧ f j v = true) ∨ (findA kd (dec x) (decE es) i = some none ∧ n = true)
  | .nil, i, f, n, _, h => .inr ⟨rfl, h⟩
  | .cons k v b r, i, f, n, hs, h => by
    obtain ⟨_, _, h1⟩ := keC_spec (kd := kd) (a := x) (b := k) h
    rcases h1 with ⟨h1, h2⟩ | ⟨h1, h2⟩
    · exact .inl ⟨i, v, by simp only [decE, findA, h1], hs.2.1, h2⟩
    · have := findQ_spec (kd := kd) (x := x) (es := r) (i := Nat.succ i) (f := f) (n := n) hs.2.2 h2
      have e : findA kd (dec x) (decE (.cons k v b r)) i = findA kd (dec x) (decE r) (i + 1) := by simp only [decE, findA, h1]
      rw [e]
      exact this

/-- What a map without the key answers. -/
def zeroQ (P : Program) (e : TypeId) (ok : Bool) : Option V :=
  match P.info? e with
  | some i => (match i.zero with
    | some z => (match enc (cstA z) with
      | some v => some (bif ok then .t (.cons v (.cons (.b false) .nil)) else v)
      | none => none)
    | none => none)
  | none => none

theorem zeroQ_spec {P : Program} {e : TypeId} {ok : Bool} {v : V} (h : zeroQ P e ok = some v) : foundA P e ok none = some (dec v) := by
  unfold zeroQ at h
  split at h
  · rename_i i hi
    split at h
    · rename_i z hz
      split at h
      · rename_i u hu
        simp only [Option.some.injEq] at h
        subst h
        unfold foundA
        simp only [hi, hz, ← (enc_some hu).1]
        cases ok <;> rfl
      · cases h
    · cases h
  · cases h

structure M2 where
  f : V → V → QH → (V → Bool) → Bool
def M2.bad : M2 := ⟨fun _ _ _ _ => false⟩

def lookupC (P : Program) (t : TypeId) (ok : Bool) : M2 :=
  match P.underlying t with
  | some (.map kt e) => (match P.underlying kt with
    | some kd => ⟨fun m x H k => plQ kd x (asM m (match zeroQ P e ok with
        | some z => k (kvC z).v
        | none => false) fun q => mblk H q fun es _ => findQ (keC kd) x es 0 (fun _ v => k (bif ok then .t (.cons v (.cons (.b true) .nil)) else v)) (match zeroQ P e ok with
        | some z => k (kvC z).v
        | none => false))⟩
    | none => .bad)
  | _ => .bad

theorem lookupC_spec {R : Nat} {G : N5 QO} {P : Program} {t : TypeId} {ok : Bool} {m x : V} {a u : Value} {H : QH} {F : FW} {k : V → Bool} (hr : HR R G H F) (hm : VQ m a) (hx : VQ x u) (h : (lookupC P t ok).f m x H k = true) : ∃ r, lookupA P t a u ok F = some (dec r) ∧ k r = true := by
  unfold lookupC at h
  split at h
  · rename_i kt e hs
    split at h
    · rename_i kd hk
      have zz : (match zeroQ P e ok with | some z => k (kvC z).v | none => false) = true → ∃ r, foundA P e ok none = some (dec r) ∧ k r = true := by
        intro g
        split at g
        · rename_i z hz
          rw [kvC_eq] at g
          exact ⟨z, zeroQ_spec hz, g⟩
        · cases g
      obtain ⟨h1, h2, g⟩ := plQ_spec h
      rw [hx.eq h2]
      unfold lookupA
      simp only [hs, hk, h1, cond_true]
      rcases asM_spec g with ⟨rfl, g⟩ | ⟨q, rfl, g⟩
      · obtain ⟨r, h3, h4⟩ := zz g
        refine ⟨r, ?_, h4⟩
        rw [hm.eq (by simp), show dec (.n 2) = Value.map none from rfl]
        exact h3
      · obtain ⟨es, c, hb, g⟩ := mblk_spec g
        obtain ⟨h3, h4⟩ := hr.mapOf hb
        rw [hm.eq (by simp), show dec (.m q) = Value.map (some q.num) from rfl]
        simp only [h3]
        rcases findQ_spec h4 g with ⟨j, v, h5, h6, g⟩ | ⟨h5, g⟩
        · refine ⟨_, ?_, g⟩
          simp only [h5, foundA]
          cases ok <;> rfl
        · obtain ⟨r, h7, h8⟩ := zz g
          refine ⟨r, ?_, h8⟩
          simp only [h5]
          exact h7
    · cases h
  · cases h

/-! Entries. -/

def snocE (es : ME) (k v : V) (b : Nat) : (ME → Bool) → Bool := ME.rec (motive := fun _ => (ME → Bool) → Bool) (fun c => c (.cons k v b .nil)) (fun k' v' b' _ ih c => ih fun r => c (.cons k' v' b' r)) es

theorem snocE_spec {k v : V} {b : Nat} (hk : k ≠ .bot) (hv : v ≠ .bot) : ∀ {es : ME} {c : ME → Bool}, scE es → snocE es k v b c = true → ∃ es', decE es' = decE es ++ [⟨dec k, dec v, b⟩] ∧ scE es' ∧ c es' = true
  | .nil, c, _, h => ⟨.cons k v b .nil, rfl, ⟨hk, hv, trivial⟩, h⟩
  | .cons k' v' b' r, c, hs, h => by
    obtain ⟨es', h1, h2, h3⟩ := snocE_spec hk hv (es := r) (c := fun r => c (.cons k' v' b' r)) hs.2.2 h
    exact ⟨.cons k' v' b' es', by simp only [decE, h1, List.cons_append], ⟨hs.1, hs.2.1, h2⟩, h3⟩

def setE (k v : V) (es : ME) : Nat → (ME → Bool) → Bool := ME.rec (motive := fun _ => Nat → (ME → Bool) → Bool) (fun _ c => c .nil)
  (fun k' v' b' r ih i c => Nat.rec (motive := fun _ => Bool) (c (.cons k v b' r)) (fun j _ => ih j fun r' => c (.cons k' v' b' r')) i) es

theorem setE_spec {k v : V} (hk : k ≠ .bot) (hv : v ≠ .bot) : ∀ {es : ME} {i : Nat} {c : ME → Bool}, scE es → setE k v es i c = true → ∃ es', decE es' = setEntry (decE es) i (dec k) (dec v) ∧ scE es' ∧ c es' = true
  | .nil, i, c, _, h => ⟨.nil, by cases i <;> rfl, trivial, h⟩
  | .cons k' v' b' r, 0, c, hs, h => ⟨.cons k v b' r, rfl, ⟨hk, hv, hs.2.2⟩, h⟩
  | .cons k' v' b' r, i + 1, c, hs, h => by
    obtain ⟨es', h1, h2, h3⟩ := setE_spec hk hv (es := r) (i := i) (c := fun r' => c (.cons k' v' b' r')) hs.2.2 h
    exact ⟨.cons k' v' b' es', by simp only [decE, h1, setEntry], ⟨hs.1, hs.2.1, h2⟩, h3⟩

structure U3 where
  f : V → V → V → QH → (QH → Bool) → Bool

def updC (P : Program) (t : TypeId) : U3 :=
  match P.underlying t with
  | some (.map kt _) => (match P.underlying kt with
    | some kd => ⟨fun m x v H k => plQ kd x (nb v (asM m false fun q => mblk H q fun es c => findQ (keC kd) x es 0 (fun i _ => setE x v es i fun es' => putQ H q (.m es' c) k)
        (snocE es x v c fun es' => lit (Nat.succ c) fun c' => putQ H q (.m es' c') k)))⟩
    | none => ⟨fun _ _ _ _ _ => false⟩)
  | _ => ⟨fun _ _ _ _ _ => false⟩

theorem updC_spec {R : Nat} {G : N5 QO} {P : Program} {t : TypeId} {m x v : V} {a u w : Value} {H : QH} {F : FW} {k : QH → Bool} (hr : HR R G H F) (hm : VQ m a) (hx : VQ x u) (hv : VQ v w) (h : (updC P t).f m x v H k = true) :
    ∃ H' F', mapUpdateA P R t a u w F = some F' ∧ HR R G H' F' ∧ F'.next = F.next ∧ k H' = true := by
  unfold updC at h
  split at h
  · rename_i kt e hs
    split at h
    · rename_i kd hk
      obtain ⟨h1, h2, g⟩ := plQ_spec h
      obtain ⟨h3, g⟩ := nb_spec g
      rcases asM_spec g with ⟨_, g⟩ | ⟨q, rfl, g⟩
      · cases g
      · obtain ⟨es, c, hb, g⟩ := mblk_spec g
        obtain ⟨h4, h5⟩ := hr.mapOf hb
        have hlow : Nat.ble R q.num = true := Nat.ble_eq_true_of_le (hr.low q (by rw [hb]; rfl))
        rw [hx.eq h2, hm.eq (by simp), hv.eq h3, show dec (.m q) = Value.map (some q.num) from rfl]
        unfold mapUpdateA
        simp only [hs, hk, hlow, okN_num, Bool.and_self, cond_true, h4, h1]
        rcases findQ_spec h5 g with ⟨j, v', h6, _, g⟩ | ⟨h6, g⟩
        · obtain ⟨es', h7, h8, g⟩ := setE_spec h2 h3 h5 g
          rw [putQ_eq] at g
          refine ⟨_, _, ?_, hr.put hb rfl (ob := .m es' c) (x := .map (decE es') c) rfl h8, rfl, g⟩
          simp only [h6, h7]
        · obtain ⟨es', h7, h8, g⟩ := snocE_spec h2 h3 h5 g
          rw [lit_eq, putQ_eq] at g
          refine ⟨_, _, ?_, hr.put hb rfl (ob := .m es' (c + 1)) (x := .map (decE es') (c + 1)) rfl h8, rfl, g⟩
          simp only [h6, h7]
    · cases h
  · cases h

end
end Go.Qm
