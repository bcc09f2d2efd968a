/- The library's functions do what the plain functions do, by their contracts. No conditions. -/
import Derived.Test.YtmllhpnlceaneaaGreatDoorCd
import Derived.Test.YtmllhpnlceaneaaGreatDoorSh
import Derived.Test.YtmllhpnlceaneaaGreatDoorBd
import Derived.Test.YtmllhpnlceaneaaGreatDoorWr
import Derived.Lib.ItoaLen
import Derived.Lib.AtoiErrMem
set_option linter.unusedVariables false
set_option linter.unusedSimpArgs false
set_option linter.unusedSectionVars false
namespace Go.Proofs.YtmllhpnlceaneaaGreatDoor
open Go Go.Proofs Go.Dl
set_option maxRecDepth 100000

theorem up_below {w w' : World} (h : RowKit.Below w.heap.size w w') : Up w w' := h
theorem up_drew (w : World) (n : Nat) : Up w (w.drewN n) := ⟨rfl, rfl, rfl, Nat.le_refl _, fun _ _ => rfl⟩
theorem up_grow (w : World) (n : Nat) (os : Array Go.Obj) : Up w (Sort.grow (w.drewN n) os) :=
  ⟨rfl, rfl, rfl, by show w.heap.size ≤ (w.heap ++ os).size; simp, fun b hb => by show (w.heap ++ os)[b]? = _; rw [Array.getElem?_append_left hb]⟩

/-! strings.IndexByte -/

theorem F32_ok (K : Nat) (a0 : Bytes) (a1 : UInt8) : DFun Tryz.prog 32 [.c (.str a0), .c (.val (.int .u8 (Int.ofNat a1.toNat)))] [] (fnS (F32 K a0 a1)) (fun r => .c (.val (.int .i64 r))) (fun r => []) := by
  refine DFun.of_calls fun S β w vs hI hv r hr => ?_
  obtain ⟨v0, r0, rfl, ⟨h0, hl⟩, v1, r1, rfl, h1, rfl⟩ := hv
  obtain rfl : v1 = _ := h1
  subst h0
  simp only [F32, fnS, Option.some.injEq] at hr
  subst hr
  refine (Tryz.strings_IndexByte ⟨a0.toArray⟩ (Int.ofNat a1.toNat) w).mono fun e w' ⟨he, hw⟩ => ⟨_, he, ?_, by rw [hw]; exact Up.refl w⟩
  show _ = _
  have : (Int.ofNat a1.toNat).toNat.toUInt8 = a1 := by simp
  rw [this]

/-! strings.Cut -/

theorem cut_short (s sep : Bytes) : (Lib.cut s sep).1.length ≤ s.length ∧ (Lib.cut s sep).2.1.length ≤ s.length := by
  unfold Lib.cut
  split <;> simp <;> omega

theorem F22_ok (K : Nat) (a0 a1 : Bytes) : DFun Tryz.prog 22 [.c (.str a0), .c (.str a1)] [] (fnS (F22 K a0 a1)) (fun r => .tup [.c (.str r.1), .c (.str r.2.1), .c (.val (.bool r.2.2))]) (fun r => []) := by
  refine DFun.of_calls fun S β w vs hI hv r hr => ?_
  obtain ⟨v0, r0, rfl, ⟨h0, hl⟩, v1, r1, rfl, ⟨h1, hl1⟩, rfl⟩ := hv
  subst h0; subst h1
  unfold F22 at hr
  split at hr
  · rename_i hs
    simp only [fnS, Option.some.injEq] at hr
    subst hr
    obtain ⟨m, hm⟩ := WI.max hI
    refine (Tryz.strings_Cut ⟨a0.toArray⟩ ⟨a1.toArray⟩ m w hs hm).mono fun e w' ⟨he, n, hw⟩ => ⟨_, he, ?_, by rw [hw]; exact ⟨rfl, rfl, rfl, Nat.le_refl _, fun _ _ => rfl⟩⟩
    have hsh := cut_short a0 a1
    exact ⟨_, rfl, _, _, rfl, ⟨rfl, by omega⟩, _, _, rfl, ⟨rfl, by omega⟩, _, _, rfl, rfl, rfl⟩
  · cases hr

/-! strings.Split, at one byte -/

theorem splitB_map (sep : ByteArray) : ∀ (k : Nat) (s : ByteArray), (Lib.splitB sep 0 k s).map (fun b => b.data.toList) = Lib.splitK sep.data.toList 0 k s.data.toList
  | 0, s => rfl
  | k + 1, s => by
    unfold Lib.splitB Lib.splitK
    have e : Lib.indexB s sep = Lib.index s.data.toList sep.data.toList := rfl
    rw [e]
    split
    · rfl
    · rw [List.map_cons, splitB_map sep k]
      have h1 : ∀ (a b : Nat), (s.extract a b).data.toList = (s.data.toList.take b).drop a := by
        intro a b
        rw [ByteArray.data_extract]
        simp [List.drop_take]
      rw [h1, h1]
      have h2 : List.take s.size s.data.toList = s.data.toList := List.take_of_length_le (by show s.data.toList.length ≤ s.data.size; simp)
      rw [h2]
      simp

theorem splitC_len (c : UInt8) : ∀ (s : Bytes) (x : Bytes), x ∈ sp.splitC c s → x.length ≤ s.length
  | [], x, h => by simp [sp.splitC] at h; subst h; simp
  | b :: r, x, h => by
    have ih := splitC_len c r
    have hne := sp.splitC_ne c r
    unfold sp.splitC at h
    split at h
    · rcases List.mem_cons.1 h with rfl | h
      · simp
      · have := ih x h; simp; omega
    · cases hs : sp.splitC c r with
      | nil => exact absurd hs hne
      | cons a l =>
        rw [hs] at h ih
        simp only [List.headD_cons, List.tail_cons] at h
        rcases List.mem_cons.1 h with rfl | h
        · have := ih a (List.mem_cons_self ..); simp; omega
        · have := ih x (List.mem_cons_of_mem _ h); simp; omega

theorem splitC_count (c : UInt8) : ∀ s : Bytes, (sp.splitC c s).length = s.count c + 1
  | [] => rfl
  | b :: r => by
    have ih := splitC_count c r
    have hne := sp.splitC_ne c r
    unfold sp.splitC
    by_cases h : b = c
    · rw [if_pos h, h, List.count_cons_self]; simp [ih]
    · rw [if_neg h, List.count_cons_of_ne h]
      simp only [List.length_cons, List.length_tail]
      omega

theorem F23_ok (K : Nat) (a0 a1 : Bytes) : DFun Tryz.prog 23 [.c (.str a0), .c (.str a1)] [] (fnS (F23 K a0 a1)) (fun r => .c (E9.tree r)) (fun r => []) := by
  have hmr : ∀ r, fnS (F23 K a0 a1) = some r → ∃ c, a1 = [c] ∧ a0.length < 4294967281 ∧ r = sp.splitC c a0 := by
    intro r hr
    unfold F23 at hr
    split at hr
    · split at hr
      · rename_i c hl
        simp only [fnS, Option.some.injEq] at hr
        exact ⟨c, rfl, hl, hr.symm⟩
      · cases hr
    · cases hr
  refine DFun.fresh (lst := fun r => r) (ty := 9) (fun x : Bytes => Value.string ⟨x.toArray⟩) rfl (fun r hr x hx => ⟨rfl, fun S => ?_⟩) (fun S β w vs hI hv r hr => ?_)
  · obtain ⟨c, _, hl, rfl⟩ := hmr r hr
    have := splitC_len c a0 x hx
    exact ⟨rfl, by unfold maxLen; omega⟩
  · obtain ⟨c, rfl, hl, rfl⟩ := hmr r hr
    obtain ⟨v0, r0, rfl, ⟨h0, _⟩, v1, r1, rfl, ⟨h1, _⟩, rfl⟩ := hv
    subst h0; subst h1
    obtain ⟨m, hm⟩ := WI.max hI
    have hcnt : Lib.countB ⟨a0.toArray⟩ ⟨[c].toArray⟩ = a0.count c := by
      show Lib.count a0 [c] = a0.count c
      exact Lib.count_one c a0
    have hlen := splitC_count c a0
    have hmap : (Lib.splitB ⟨[c].toArray⟩ 0 (a0.count c) ⟨a0.toArray⟩).map Value.string = (sp.splitC c a0).map fun x : Bytes => Value.string ⟨x.toArray⟩ := by
      have := splitB_map ⟨[c].toArray⟩ (a0.count c) ⟨a0.toArray⟩
      have h2 : Lib.splitK [c] 0 (a0.count c) a0 = sp.splitC c a0 := sp.splitK_eq c a0
      rw [show (⟨[c].toArray⟩ : ByteArray).data.toList = [c] from rfl, show (⟨a0.toArray⟩ : ByteArray).data.toList = a0 from rfl, h2] at this
      rw [← this, List.map_map]
      apply List.map_congr_left
      intro b _
      rfl
    have hcl : a0.count c ≤ a0.length := List.count_le_length
    refine ⟨by show (sp.splitC c a0).length ≤ maxLen; unfold maxLen; omega, (Tryz.strings_Split ⟨a0.toArray⟩ ⟨[c].toArray⟩ m w hl hm (Nat.le_refl 1)).mono fun e w' ⟨he, hw⟩ => ?_⟩
    rw [hcnt] at he hw
    refine ⟨?_, ?_⟩
    · rw [he]
      show _ = Ending.returned (Value.slice _ ((sp.splitC c a0).length : Nat) ((sp.splitC c a0).length : Nat))
      rw [hlen]
    · rw [hw, hmap]

/-! The check of a builder -/

theorem cc_lies : liesAt Tryz.prog Tryz.prog.depth 46 (2 / Tryz.prog.cellsOf 46) 0 46 1 = true := by kernel_rfl

theorem F28_ok (K : Nat) (a0 : S46) : DFun Tryz.prog 28 [.c (.ptr 0 0 0)] [.cells [.self 46 a0.faddr 0, .own 1 a0.fbuf.length], E5.row a0.fbuf] (fnS (F28 K a0)) (fun r => .tup []) (fun r => [.cells [.self 46 r.faddr 0, .own 1 r.fbuf.length], E5.row r.fbuf]) := by
  refine DFun.copyCheck a0.faddr [.own 1 a0.fbuf.length] [E5.row a0.fbuf] (fun r hr => ?_) cc_used (fun b w h0 hsh hfz => cc_fresh b 46 2 w h0 hsh (by decide) hfz cc_lies)
  simp only [F28, fnS, Option.some.injEq] at hr
  subst hr
  rfl

theorem cc_liesW : liesAt Tryz.prog Tryz.prog.depth 48 (3 / Tryz.prog.cellsOf 48) 0 46 1 = true := by kernel_rfl
theorem F28x48_ok (K : Nat) (a0 : S48) : DFun Tryz.prog 28 [.c (.ptr 0 0 0)] [.cells [.self 48 a0.fBuilder.faddr 0, .own 1 a0.fBuilder.fbuf.length, .val (.bool a0.fbad)], E5.row a0.fBuilder.fbuf] (fnS (F28x48 K a0)) (fun r => .tup []) (fun r => [.cells [.self 48 r.fBuilder.faddr 0, .own 1 r.fBuilder.fbuf.length, .val (.bool r.fbad)], E5.row r.fBuilder.fbuf]) := by
  refine DFun.copyCheck a0.fBuilder.faddr [.own 1 a0.fBuilder.fbuf.length, .val (.bool a0.fbad)] [E5.row a0.fBuilder.fbuf] (fun r hr => ?_) cc_used (fun b w h0 hsh hfz => cc_fresh b 48 3 w h0 hsh (by decide) hfz cc_liesW)
  simp only [F28x48, fnS, Option.some.injEq] at hr
  subst hr
  rfl

/-! The text of a builder -/

theorem but_b {g : Nat} {w w' : World} (h : But g w w') : ButB g w w' := ⟨h.os, h.tape, h.output, h.size, h.block⟩

theorem F18_ok (K : Nat) (a0 : S46) : DFun Tryz.prog 18 [.c (.ptr 0 0 0)] [.cells [.self 46 a0.faddr 0, .own 1 a0.fbuf.length], E5.row a0.fbuf] (fnS (F18 K a0)) (fun r => .c (.str r)) (fun r => [.dead, .dead]) := by
  have hr' : ∀ r, fnS (F18 K a0) = some r → r = a0.fbuf := by
    intro r hr
    simp only [F18, fnS, Option.some.injEq] at hr
    exact hr.symm
  refine DFun.builderStr a0.faddr a0.fbuf [] (fun r hr => by rw [hr' r hr]) (fun r => rfl) ?_ ?_
  · intro b g cap cs cur w hb hc1 hg hnc hcm hcs hcell hlt
    by_cases h0 : a0.fbuf = []
    · rw [h0] at hc1 ⊢
      by_cases hc0 : cap = 0
      · subst hc0
        exact (str_noroom b g 46 cs cur w hlt hb hc1 hg).mono fun e w' ⟨h1, h2⟩ => ⟨h1, but_b h2⟩
      · exact (str_room b g cap 46 cs w hc0 hb hc1).mono fun e w' ⟨h1, h2⟩ => ⟨h1, but_b h2⟩
    · exact (str_some b g cap 46 cs cur w a0.fbuf hb hc1 hg hnc hcm hcs hcell h0).mono fun e w' ⟨h1, h2⟩ => ⟨h1, but_b h2⟩
  · intro h0 b cs w hb hc1
    rw [h0]
    exact (str_nil b b 46 cs w hb hc1).mono fun e w' ⟨h1, h2⟩ => ⟨h1, but_b h2⟩

theorem F18x48_ok (K : Nat) (a0 : S48) : DFun Tryz.prog 18 [.c (.ptr 0 0 0)] [.cells [.self 48 a0.fBuilder.faddr 0, .own 1 a0.fBuilder.fbuf.length, .val (.bool a0.fbad)], E5.row a0.fBuilder.fbuf] (fnS (F18x48 K a0)) (fun r => .c (.str r)) (fun r => [.dead, .dead]) := by
  have hr' : ∀ r, fnS (F18x48 K a0) = some r → r = a0.fBuilder.fbuf := by
    intro r hr
    simp only [F18x48, fnS, Option.some.injEq] at hr
    exact hr.symm
  refine DFun.builderStr a0.fBuilder.faddr a0.fBuilder.fbuf [.val (.bool a0.fbad)] (fun r hr => by rw [hr' r hr]) (fun r => rfl) ?_ ?_
  · intro b g cap cs cur w hb hc1 hg hnc hcm hcs hcell hlt
    by_cases h0 : a0.fBuilder.fbuf = []
    · rw [h0] at hc1 ⊢
      by_cases hc0 : cap = 0
      · subst hc0
        exact (str_noroom b g 48 cs cur w hlt hb hc1 hg).mono fun e w' ⟨h1, h2⟩ => ⟨h1, but_b h2⟩
      · exact (str_room b g cap 48 cs w hc0 hb hc1).mono fun e w' ⟨h1, h2⟩ => ⟨h1, but_b h2⟩
    · exact (str_some b g cap 48 cs cur w a0.fBuilder.fbuf hb hc1 hg hnc hcm hcs hcell h0).mono fun e w' ⟨h1, h2⟩ => ⟨h1, but_b h2⟩
  · intro h0 b cs w hb hc1
    rw [h0]
    exact (str_nil b b 48 cs w hb hc1).mono fun e w' ⟨h1, h2⟩ => ⟨h1, but_b h2⟩

/-! Numbers -/

theorem F45_ok (K : Nat) (a0 : Bytes) : DFun Tryz.prog 45 [.c (.str a0)] [] (fnS (F45 K a0)) (fun r => .tup [.c (.val (.int .i64 r.1)), .c (.iface r.2 125 .bot)]) (fun r => []) := by
  refine DFun.of_calls fun S β w vs hI hv r hr => ?_
  obtain ⟨v0, r0, rfl, ⟨h0, hl⟩, rfl⟩ := hv
  subst h0
  have hmx : a0.length ≤ 281474976710656 := by
    unfold F45 at hr
    split at hr
    · assumption
    · cases hr
  unfold F45 at hr
  rw [if_pos hmx] at hr
  simp only [fnS, Option.some.injEq] at hr
  subst hr
  replace hmx : (⟨a0.toArray⟩ : ByteArray).size ≤ 281474976710656 := hmx
  have up1 : ∀ {w w' : World}, (w' = w ∨ ∃ t, w' = Lib.bytesWorld w 5 t) → Up w w' := by
    rintro w w' (rfl | ⟨t, rfl⟩)
    · exact Up.refl _
    · exact up_below (Lib.bytesWorld_below w 5 t)
  cases ha : Lib.atoiAll a0 with
  | ok n =>
    refine (Tryz.strconv_Atoi_ok ⟨a0.toArray⟩ (by omega) n ha w).mono fun e w' ⟨he, hw⟩ => ⟨_, he, ?_, up1 hw⟩
    exact ⟨_, rfl, _, _, rfl, rfl, _, _, rfl, rfl, rfl⟩
  | range =>
    obtain ⟨ev, h1, h2⟩ := WI.rng hI
    refine (Tryz.strconv_Atoi_range ⟨a0.toArray⟩ hmx ha ev w h1 h2).mono fun e w' ⟨N, he, _, _, hw⟩ => ⟨_, he, ?_, up_below hw⟩
    exact ⟨_, rfl, _, _, rfl, rfl, _, _, rfl, ⟨_, rfl, trivial⟩, rfl⟩
  | _ =>
    obtain ⟨ev, h1, h2⟩ := WI.syn hI
    refine (Any.strconv_Atoi_syntax Tryz.laysC172 ⟨a0.toArray⟩ hmx ha ev w h1 h2).mono fun e w' ⟨N, he, _, _, hw⟩ => ⟨_, he, ?_, up_below hw⟩
    exact ⟨_, rfl, _, _, rfl, rfl, _, _, rfl, ⟨_, rfl, trivial⟩, rfl⟩

theorem F29_ok (K : Nat) (a0 : Int) : DFun Tryz.prog 29 [.c (.val (.int .i64 a0))] [] (fnS (F29 K a0)) (fun r => .c (.str r)) (fun r => []) := by
  refine DFun.of_calls fun S β w vs hI hv r hr => ?_
  obtain ⟨v0, r0, rfl, h0, rfl⟩ := hv
  obtain rfl : v0 = _ := h0
  unfold F29 at hr
  split at hr
  · rename_i hb
    simp only [fnS, Option.some.injEq] at hr
    subst hr
    refine (Tryz.strconv_Itoa a0 hb.1 hb.2 w (WI.tab hI)).mono fun e w' ⟨he, k, os, hw⟩ => ⟨_, he, ⟨rfl, ?_⟩, by rw [hw]; exact up_grow _ _ _⟩
    have := Lib.itoa_length_le a0 hb.1 hb.2
    unfold maxLen; omega
  · cases hr

/-! An error's code and place -/

section
variable {R : Type} {P : Program}
theorem DFun.of_callsH {f : FuncId} {args : List D} {mr : Option R} {res : R → D}
    (h : ∀ S β w vs, WInv.I w → Holds S w → VRel S β args vs → ∀ r, mr = some r → Calls P f vs.toArray w fun e w' => ∃ v, e = .returned v ∧ DRel S β (res r) v ∧ Up w w') : DFun P f args [] mr res (fun _ => []) := by
  intro S β w vs hc hv r hr
  refine (h S β w vs hc.inv hc.holds hv r hr).mono fun e w' ⟨v, he, hd, hu⟩ => ⟨v, S, β, he, hd, fun o k ho _ => by simp at ho, hc.newer hu.os hu.tape hu.output hu.size hu.block⟩
end

theorem F10_ok (K : Nat) (a0 : Err) : DFun Tryz.prog 10 [.c (errC a0)] [] (fnS (F10 K a0)) (fun r => .tup [.c (.val (.int .i64 r.1)), .c (.val (.int .i64 r.2))]) (fun r => []) := by
  refine DFun.of_callsH fun S β w vs hI hH hv r hr => ?_
  obtain ⟨v0, r0, rfl, h0, rfl⟩ := hv
  simp only [F10, fnS, Option.some.injEq] at hr
  subst hr
  cases a0 with
  | none =>
    obtain rfl : v0 = .nilIface := h0
    exact (wrong_nil w).mono fun e w' ⟨he, hw⟩ => ⟨_, he, ⟨_, rfl, _, _, rfl, rfl, _, _, rfl, rfl, rfl⟩, by rw [hw]; exact Up.refl w⟩
  | some x =>
    obtain ⟨c, a⟩ := x
    obtain ⟨u, rfl, b, off, rfl, hb⟩ := h0
    obtain ⟨u0, s0, r0⟩ := hb 0 (by omega)
    obtain ⟨u1, s1, r1⟩ := hb 1 (by omega)
    obtain rfl : u0 = .int .i64 c := r0
    obtain rfl : u1 = .int .i64 a := r1
    exact (wrong_err b off w c a (WI.err hI) (hH _ _ _ s0).1 (hH _ _ _ s1).1).mono fun e w' ⟨he, hw⟩ => ⟨_, he, ⟨_, rfl, _, _, rfl, rfl, _, _, rfl, rfl, rfl⟩, up_below hw⟩

end Go.Proofs.YtmllhpnlceaneaaGreatDoor
