/- The law on lines of calls: each line's run comes to true. No conditions. -/
import Derived.Test.YtjkhpjnhdijchaaM0
import Derived.Test.YtjkhpjnhdijchaaM1
import Derived.Test.YtjkhpjnhdijchaaM2
import Derived.Test.YtjkhpjnhdijchaaM3
import Derived.Test.YtjkhpjnhdijchaaM4
import Derived.Test.YtjkhpjnhdijchaaM5
import Derived.Test.YtjkhpjnhdijchaaM6
import Derived.Test.YtjkhpjnhdijchaaM7
import Derived.Test.YtjkhpjnhdijchaaM8
import Derived.Test.YtjkhpjnhdijchaaM9
import Derived.Test.YtjkhpjnhdijchaaM10
import Derived.Test.YtjkhpjnhdijchaaM11
import Derived.Test.YtjkhpjnhdijchaaM12
import Derived.Test.YtjkhpjnhdijchaaM13
import Derived.Test.YtjkhpjnhdijchaaM14
import Derived.Test.YtjkhpjnhdijchaaM15
import Derived.Test.YtjkhpjnhdijchaaM16
import Derived.Test.YtjkhpjnhdijchaaM17
import Derived.Test.YtjkhpjnhdijchaaM18
import Derived.Test.YtjkhpjnhdijchaaM19
import Derived.Test.YtjkhpjnhdijchaaM20
import Derived.Test.YtjkhpjnhdijchaaM21
import Derived.Test.YtjkhpjnhdijchaaM22
import Derived.Test.YtjkhpjnhdijchaaM23
import Derived.Test.YtjkhpjnhdijchaaM24
import Derived.Test.YtjkhpjnhdijchaaM25
import Derived.Test.YtjkhpjnhdijchaaM26
import Derived.Test.YtjkhpjnhdijchaaM27
import Derived.Test.YtjkhpjnhdijchaaM28
import Derived.Test.YtjkhpjnhdijchaaM29
import Derived.Test.YtjkhpjnhdijchaaM30
import Derived.Test.YtjkhpjnhdijchaaM31
import Derived.Test.YtjkhpjnhdijchaaL3
set_option linter.unusedVariables false
set_option linter.unusedSimpArgs false
set_option linter.unusedSectionVars false
namespace Go.Proofs.Ytjkhpjnhdijchaa.bl
open Go Go.Am Go.Proofs Go.RowKit
set_option maxRecDepth 1000000
section
variable [Go.Qm.Rho]
theorem line_1 (a e c : Nat) (h : a < 1) : ∃ b0 b1, b0 ≤ a ∧ a < b1 ∧ lineR 1 b0 b1 e c = true := by
  exact ⟨0, 1, by omega, by omega, r1_0 e c⟩
theorem line_2 (a e c : Nat) (h : a < 2) : ∃ b0 b1, b0 ≤ a ∧ a < b1 ∧ lineR 2 b0 b1 e c = true := by
  exact ⟨0, 2, by omega, by omega, r2_0 e c⟩
theorem line_3 (a e c : Nat) (h : a < 3) : ∃ b0 b1, b0 ≤ a ∧ a < b1 ∧ lineR 3 b0 b1 e c = true := by
  exact ⟨0, 3, by omega, by omega, r3_0 e c⟩
theorem line_4 (a e c : Nat) (h : a < 4) : ∃ b0 b1, b0 ≤ a ∧ a < b1 ∧ lineR 4 b0 b1 e c = true := by
  exact ⟨0, 4, by omega, by omega, r4_0 e c⟩
theorem line_5 (a e c : Nat) (h : a < 5) : ∃ b0 b1, b0 ≤ a ∧ a < b1 ∧ lineR 5 b0 b1 e c = true := by
  exact ⟨0, 5, by omega, by omega, r5_0 e c⟩
theorem line_6 (a e c : Nat) (h : a < 6) : ∃ b0 b1, b0 ≤ a ∧ a < b1 ∧ lineR 6 b0 b1 e c = true := by
  exact ⟨0, 6, by omega, by omega, r6_0 e c⟩
theorem line_7 (a e c : Nat) (h : a < 7) : ∃ b0 b1, b0 ≤ a ∧ a < b1 ∧ lineR 7 b0 b1 e c = true := by
  exact ⟨0, 7, by omega, by omega, r7_0 e c⟩
theorem line_8 (a e c : Nat) (h : a < 8) : ∃ b0 b1, b0 ≤ a ∧ a < b1 ∧ lineR 8 b0 b1 e c = true := by
  exact ⟨0, 8, by omega, by omega, r8_0 e c⟩
theorem line_9 (a e c : Nat) (h : a < 9) : ∃ b0 b1, b0 ≤ a ∧ a < b1 ∧ lineR 9 b0 b1 e c = true := by
  exact ⟨0, 9, by omega, by omega, r9_0 e c⟩
theorem line_10 (a e c : Nat) (h : a < 10) : ∃ b0 b1, b0 ≤ a ∧ a < b1 ∧ lineR 10 b0 b1 e c = true := by
  exact ⟨0, 10, by omega, by omega, r10_0 e c⟩
theorem line_11 (a e c : Nat) (h : a < 11) : ∃ b0 b1, b0 ≤ a ∧ a < b1 ∧ lineR 11 b0 b1 e c = true := by
  exact ⟨0, 11, by omega, by omega, r11_0 e c⟩
theorem line_12 (a e c : Nat) (h : a < 12) : ∃ b0 b1, b0 ≤ a ∧ a < b1 ∧ lineR 12 b0 b1 e c = true := by
  exact ⟨0, 12, by omega, by omega, r12_0 e c⟩
theorem line_13 (a e c : Nat) (h : a < 13) : ∃ b0 b1, b0 ≤ a ∧ a < b1 ∧ lineR 13 b0 b1 e c = true := by
  exact ⟨0, 13, by omega, by omega, r13_0 e c⟩
theorem line_14 (a e c : Nat) (h : a < 14) : ∃ b0 b1, b0 ≤ a ∧ a < b1 ∧ lineR 14 b0 b1 e c = true := by
  exact ⟨0, 14, by omega, by omega, r14_0 e c⟩
theorem line_15 (a e c : Nat) (h : a < 15) : ∃ b0 b1, b0 ≤ a ∧ a < b1 ∧ lineR 15 b0 b1 e c = true := by
  exact ⟨0, 15, by omega, by omega, r15_0 e c⟩
theorem line_16 (a e c : Nat) (h : a < 16) : ∃ b0 b1, b0 ≤ a ∧ a < b1 ∧ lineR 16 b0 b1 e c = true := by
  exact ⟨0, 16, by omega, by omega, r16_0 e c⟩
theorem line_17 (a e c : Nat) (h : a < 17) : ∃ b0 b1, b0 ≤ a ∧ a < b1 ∧ lineR 17 b0 b1 e c = true := by
  exact ⟨0, 17, by omega, by omega, r17_0 e c⟩
theorem line_18 (a e c : Nat) (h : a < 18) : ∃ b0 b1, b0 ≤ a ∧ a < b1 ∧ lineR 18 b0 b1 e c = true := by
  exact ⟨0, 18, by omega, by omega, r18_0 e c⟩
theorem line_19 (a e c : Nat) (h : a < 19) : ∃ b0 b1, b0 ≤ a ∧ a < b1 ∧ lineR 19 b0 b1 e c = true := by
  exact ⟨0, 19, by omega, by omega, r19_0 e c⟩
theorem line_20 (a e c : Nat) (h : a < 20) : ∃ b0 b1, b0 ≤ a ∧ a < b1 ∧ lineR 20 b0 b1 e c = true := by
  by_cases h10 : a < 10
  · exact ⟨0, 10, by omega, h10, r20_0 e c⟩
  exact ⟨10, 20, by omega, by omega, r20_10 e c⟩
theorem line_21 (a e c : Nat) (h : a < 21) : ∃ b0 b1, b0 ≤ a ∧ a < b1 ∧ lineR 21 b0 b1 e c = true := by
  by_cases h11 : a < 11
  · exact ⟨0, 11, by omega, h11, r21_0 e c⟩
  exact ⟨11, 21, by omega, by omega, r21_11 e c⟩
theorem line_22 (a e c : Nat) (h : a < 22) : ∃ b0 b1, b0 ≤ a ∧ a < b1 ∧ lineR 22 b0 b1 e c = true := by
  by_cases h11 : a < 11
  · exact ⟨0, 11, by omega, h11, r22_0 e c⟩
  exact ⟨11, 22, by omega, by omega, r22_11 e c⟩
theorem line_23 (a e c : Nat) (h : a < 23) : ∃ b0 b1, b0 ≤ a ∧ a < b1 ∧ lineR 23 b0 b1 e c = true := by
  by_cases h12 : a < 12
  · exact ⟨0, 12, by omega, h12, r23_0 e c⟩
  exact ⟨12, 23, by omega, by omega, r23_12 e c⟩
theorem line_24 (a e c : Nat) (h : a < 24) : ∃ b0 b1, b0 ≤ a ∧ a < b1 ∧ lineR 24 b0 b1 e c = true := by
  by_cases h12 : a < 12
  · exact ⟨0, 12, by omega, h12, r24_0 e c⟩
  exact ⟨12, 24, by omega, by omega, r24_12 e c⟩
theorem line_25 (a e c : Nat) (h : a < 25) : ∃ b0 b1, b0 ≤ a ∧ a < b1 ∧ lineR 25 b0 b1 e c = true := by
  by_cases h13 : a < 13
  · exact ⟨0, 13, by omega, h13, r25_0 e c⟩
  exact ⟨13, 25, by omega, by omega, r25_13 e c⟩
theorem line_26 (a e c : Nat) (h : a < 26) : ∃ b0 b1, b0 ≤ a ∧ a < b1 ∧ lineR 26 b0 b1 e c = true := by
  by_cases h13 : a < 13
  · exact ⟨0, 13, by omega, h13, r26_0 e c⟩
  exact ⟨13, 26, by omega, by omega, r26_13 e c⟩
theorem line_27 (a e c : Nat) (h : a < 27) : ∃ b0 b1, b0 ≤ a ∧ a < b1 ∧ lineR 27 b0 b1 e c = true := by
  by_cases h9 : a < 9
  · exact ⟨0, 9, by omega, h9, r27_0 e c⟩
  by_cases h18 : a < 18
  · exact ⟨9, 18, by omega, h18, r27_9 e c⟩
  exact ⟨18, 27, by omega, by omega, r27_18 e c⟩
theorem line_28 (a e c : Nat) (h : a < 28) : ∃ b0 b1, b0 ≤ a ∧ a < b1 ∧ lineR 28 b0 b1 e c = true := by
  by_cases h10 : a < 10
  · exact ⟨0, 10, by omega, h10, r28_0 e c⟩
  by_cases h20 : a < 20
  · exact ⟨10, 20, by omega, h20, r28_10 e c⟩
  exact ⟨20, 28, by omega, by omega, r28_20 e c⟩
theorem line_29 (a e c : Nat) (h : a < 29) : ∃ b0 b1, b0 ≤ a ∧ a < b1 ∧ lineR 29 b0 b1 e c = true := by
  by_cases h10 : a < 10
  · exact ⟨0, 10, by omega, h10, r29_0 e c⟩
  by_cases h20 : a < 20
  · exact ⟨10, 20, by omega, h20, r29_10 e c⟩
  exact ⟨20, 29, by omega, by omega, r29_20 e c⟩
theorem line_30 (a e c : Nat) (h : a < 30) : ∃ b0 b1, b0 ≤ a ∧ a < b1 ∧ lineR 30 b0 b1 e c = true := by
  by_cases h10 : a < 10
  · exact ⟨0, 10, by omega, h10, r30_0 e c⟩
  by_cases h20 : a < 20
  · exact ⟨10, 20, by omega, h20, r30_10 e c⟩
  exact ⟨20, 30, by omega, by omega, r30_20 e c⟩

theorem line_all (n a e c : Nat) (h1 : 1 ≤ n) (h2 : n ≤ 30) (ha : a < n) : ∃ b0 b1, b0 ≤ a ∧ a < b1 ∧ lineR n b0 b1 e c = true := by
  match n, h1, h2, ha with
  | 1, _, _, ha => exact line_1 a e c ha
  | 2, _, _, ha => exact line_2 a e c ha
  | 3, _, _, ha => exact line_3 a e c ha
  | 4, _, _, ha => exact line_4 a e c ha
  | 5, _, _, ha => exact line_5 a e c ha
  | 6, _, _, ha => exact line_6 a e c ha
  | 7, _, _, ha => exact line_7 a e c ha
  | 8, _, _, ha => exact line_8 a e c ha
  | 9, _, _, ha => exact line_9 a e c ha
  | 10, _, _, ha => exact line_10 a e c ha
  | 11, _, _, ha => exact line_11 a e c ha
  | 12, _, _, ha => exact line_12 a e c ha
  | 13, _, _, ha => exact line_13 a e c ha
  | 14, _, _, ha => exact line_14 a e c ha
  | 15, _, _, ha => exact line_15 a e c ha
  | 16, _, _, ha => exact line_16 a e c ha
  | 17, _, _, ha => exact line_17 a e c ha
  | 18, _, _, ha => exact line_18 a e c ha
  | 19, _, _, ha => exact line_19 a e c ha
  | 20, _, _, ha => exact line_20 a e c ha
  | 21, _, _, ha => exact line_21 a e c ha
  | 22, _, _, ha => exact line_22 a e c ha
  | 23, _, _, ha => exact line_23 a e c ha
  | 24, _, _, ha => exact line_24 a e c ha
  | 25, _, _, ha => exact line_25 a e c ha
  | 26, _, _, ha => exact line_26 a e c ha
  | 27, _, _, ha => exact line_27 a e c ha
  | 28, _, _, ha => exact line_28 a e c ha
  | 29, _, _, ha => exact line_29 a e c ha
  | 30, _, _, ha => exact line_30 a e c ha
  | n + 31, _, h, _ => omega

theorem fl_succ (n b0 b1 m : Nat) : factsL n b0 b1 (m+1) = bif Nat.ble b0 m && Nat.ble (Nat.succ m) b1 then factsL n b0 b1 m else .cons (.cm .eql (lowT (.vi 1000) n) (.ci m)) false (factsL n b0 b1 m) := rfl
theorem bv_eql (a b : Go.Qm.Sy) : Go.Qm.bv (.cm .eql a b) = (Go.Qm.iv a == Go.Qm.iv b) := rfl
theorem iv_ci' (m : Nat) : Go.Qm.iv (.ci m) = Go.Qm.sg m := rfl
theorem sat_cons (t : Go.Qm.Sy) (b : Bool) (f : Go.Qm.Fc) : Go.Qm.Sat (.cons t b f) = (Go.Qm.bv t = b ∧ Go.Qm.Sat f) := rfl

theorem sat_facts (n b0 b1 a : Nat) (h1 : b0 ≤ a) (h2 : a < b1) (hv : Go.Qm.iv (lowT (.vi 1000) n) = (a : Int)) (m : Nat) (hm : m ≤ 30) : Go.Qm.Sat (factsL n b0 b1 m) := by
  induction m with
  | zero => exact trivial
  | succ m ih =>
    have ih := ih (by omega)
    rw [fl_succ]
    cases hb : (Nat.ble b0 m && Nat.ble (Nat.succ m) b1) with
    | true => exact ih
    | false =>
      rw [cond_false, sat_cons, bv_eql, iv_ci', hv, Go.Qm.sg_small (by omega)]
      refine ⟨?_, ih⟩
      have hne : a ≠ m := by
        intro e
        subst e
        rw [Nat.ble_eq_true_of_le h1, Nat.ble_eq_true_of_le (show Nat.succ a ≤ b1 from h2)] at hb
        cases hb
      simp
      omega

theorem tabs_ok (n e : Nat) (hn : n ≤ 30) : Go.Qm.tabsOk (tabs n e) :=
  ⟨show (512 : Nat) < 600 by decide, rfl, Go.Qm.tab_sc (by omega) (fun _ _ => rfl), trivial⟩

theorem start_lo (n e : Nat) : Lo (Go.Qm.tabsF (tabs n e)) := by
  refine ⟨show (512 : Nat) ≤ 600 by decide, fun o ho => ?_⟩
  have ho' : 600 ≤ o := ho
  show ((T.nil : T AObj).set 512 _).get o = none
  rw [T.get_set _ _ _ (by decide), if_neg (by omega)]
  rfl

theorem p512_num : p512.num = 512 := by decide

theorem runT (n e c : Nat) (h1 : 1 ≤ n) (h2 : n ≤ 30) : isT (callA Try.prog EL 1000 600 3 [.slice (some ⟨512, 0, none⟩) n c, .int .i64 (Go.Qm.Rho.i 1000)] (Go.Qm.tabsF (tabs n e))) = true := by
  obtain ⟨a, ha, hv⟩ := Go.Qm.low_spec (Go.Qm.Rho.i 1000) n (by omega) (by omega)
  have hv2 : Go.Qm.iv (lowT (.vi 1000) n) = (a : Int) := by
    rw [lowT_iv _ n h1 (by omega)]
    exact hv
  obtain ⟨b0, b1, g1, g2, h⟩ := line_all n a e c h1 h2 ha
  have har : Go.Qm.AR (args n c) [.slice (some ⟨512, 0, none⟩) n c, .int .i64 (Go.Qm.Rho.i 1000)] := by
    refine ⟨.inr ?_, .inr rfl, trivial⟩
    show _ = Value.slice (some ⟨p512.num, 0, none⟩) n c
    rw [p512_num]
  obtain ⟨x, v, F', k1, k2, G, H, _, k3⟩ := Go.Qm.callF_spec TL_ok (tabs_ok n e h2) (sat_facts n b0 b1 a g1 g2 hv2 n h2) har h
  obtain ⟨b, rfl, hb⟩ := Go.Qm.asB_spec k3
  subst hb
  rw [k1, k2.eq (by simp)]
  rfl
end

theorem text : ∃ fn c, Try.prog.funcs[3]? = some fn ∧ (fn.name == "runtime.NumGoroutine") = false ∧ fn.body = some c :=
  ⟨_, _, Try.func3, by kernel_rfl, rfl⟩

/-- A line of some codes. -/
theorem calls_some (zs : List Int) (x : Int) (w : World) (b off n cap : Nat) (hn : n ≤ cap) (hcap : cap ≤ maxLen) (h1 : 1 ≤ n) (h2 : n ≤ 30) (hz : zs.length = cap)
    (hc : ∀ i, i < zs.length → w.cell? ⟨b, off + i, none⟩ = some (.int .i64 (zs.getD i 0))) (hf : ∀ i, i < zs.length → w.frozen? ⟨b, off + i, none⟩ = false) :
    Calls Try.prog 3 #[.slice (some ⟨b, off, none⟩) n cap, .int .i64 x] w fun e w' => e = .returned (.bool true) ∧ Up w w' := by
  letI : Go.Qm.Rho := ⟨fun i => if i = 1000 then x else zs.getD i 0, fun _ => false, fun _ => []⟩
  have hx : Go.Qm.Rho.i 1000 = x := rfl
  -- the row in the world
  obtain ⟨cur, e, fz, hrow⟩ : ∃ cur e fz, w.heap[b]? = some (.cells cur e fz) := by
    have h0 := hc 0 (by omega)
    unfold World.cell? at h0
    split at h0
    · exact ⟨_, _, _, ‹_›⟩
    · cases h0
  have hcell : ∀ i, i < zs.length → cur[off + i]? = some (.int .i64 (zs.getD i 0)) := by
    intro i hi
    have := hc i hi
    simpa [World.cell?, hrow] using this
  have hfz : FzOk off (off + n) fz := by
    intro j j1 j2 hj
    have := hf (j - off) (by omega)
    rw [show off + (j - off) = j by omega] at this
    obtain ⟨f1, f2⟩ := fz
    simp only [World.frozen?, hrow] at this
    simp at this
    simp only at hj
    omega
  have hsz : off + n ≤ cur.size := by
    have := (Array.getElem?_eq_some_iff.1 (hcell (n - 1) (by omega))).1
    omega
  let k : Pl := ⟨b, off, off + n, Try.prog.cellsOf e⟩
  have hor : OR (bset (base0 (fun _ => 0) (fun _ => 0)) 512 k) w k (.cells (Go.Qm.lc (Go.Qm.csOf n cellL) n) e) := by
    rw [Go.Qm.lc_csOf cellL (by omega)]
    refine ⟨cur, ⟨fz, hrow, hfz⟩, ⟨by simp [k], hsz⟩, fun i v hv => ?_⟩
    have hi : i < n := by
      have := (List.getElem?_eq_some_iff.1 hv).1
      simpa using this
    have hv' : Go.Qm.dec (cellL i) = v := by simpa [hi] using hv
    subst hv'
    refine ⟨_, hcell i (by omega), ?_⟩
    have e1 : Go.Qm.dec (cellL i) = .int .i64 (zs.getD i 0) := by
      show Value.int .i64 (if i = 1000 then x else zs.getD i 0) = _
      rw [if_neg (by omega)]
    rw [e1]
    exact .int _ _
  have hw := (WR.base0 (P := Try.prog) (fun _ => 0) (fun _ => 0) w).tab (o := 512) (k := k) (x := .cells (Go.Qm.lc (Go.Qm.csOf n cellL) n) e) rfl (by decide) (.inl ⟨rfl, by decide⟩) (fun o' x' k' ho => by cases ho) hor (fun c' e' he => by cases he; rfl)
  have hrun := runT n e (2 * cap) h1 h2
  rw [hx] at hrun
  refine calls_true_from (us := [.slice (some ⟨b, off, none⟩) n cap, .int .i64 x]) EL_good hrun text w trivial (start_lo n e) (Nat.le_refl _) hw ?_
  refine .cons ?_ (.cons (.int _ _) .nil)
  exact VR.sl (k := k) (bset_same _ _ _) hn (by omega) (by omega) (by omega) hcap (by omega)

end Go.Proofs.Ytjkhpjnhdijchaa.bl
