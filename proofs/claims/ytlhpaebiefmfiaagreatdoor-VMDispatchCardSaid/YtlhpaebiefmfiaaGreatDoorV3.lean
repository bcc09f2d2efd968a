/- The law of the machine: its call comes to true, in every world. No conditions. -/
import Derived.Test.YtlhpaebiefmfiaaGreatDoorV2a
import Derived.Test.YtlhpaebiefmfiaaGreatDoorV2b
import Derived.Test.YtlhpaebiefmfiaaGreatDoorV2c
import Derived.Test.YtlhpaebiefmfiaaGreatDoorV2d
import Derived.Test.YtlhpaebiefmfiaaGreatDoorV2e
import Derived.Test.YtlhpaebiefmfiaaGreatDoorV2f
import Derived.Test.YtlhpaebiefmfiaaGreatDoorV2g
import Derived.Test.YtlhpaebiefmfiaaGreatDoorV2h
import Derived.Test.YtlhpaebiefmfiaaGreatDoorV2i
namespace Go.Proofs.YtlhpaebiefmfiaaGreatDoor.vMDispatch
open Go Go.Am Go.Proofs
set_option maxRecDepth 1000000

theorem cases_all (come : Bool) (a b c : Nat) (ha : a = 0 ∨ a = 1 ∨ a = 2) (hb : b = 0 ∨ b = 1) (hc : c = 0 ∨ c = 1 ∨ c = 2) : case1 come a b c = true := by
  have h1 := run_V2a
  have h2 := run_V2b
  have h3 := run_V2c
  have h4 := run_V2d
  have h5 := run_V2e
  have h6 := run_V2f
  have h7 := run_V2g
  have h8 := run_V2h
  have h9 := run_V2i
  simp only [Bool.and_eq_true] at h1 h2 h3 h4 h5 h6 h7 h8 h9
  obtain ⟨⟨⟨c1, c2⟩, c3⟩, c4⟩ := h1
  obtain ⟨⟨⟨c5, c6⟩, c7⟩, c8⟩ := h2
  obtain ⟨⟨⟨c9, c10⟩, c11⟩, c12⟩ := h3
  obtain ⟨⟨⟨c13, c14⟩, c15⟩, c16⟩ := h4
  obtain ⟨⟨⟨c17, c18⟩, c19⟩, c20⟩ := h5
  obtain ⟨⟨⟨c21, c22⟩, c23⟩, c24⟩ := h6
  obtain ⟨⟨⟨c25, c26⟩, c27⟩, c28⟩ := h7
  obtain ⟨⟨⟨c29, c30⟩, c31⟩, c32⟩ := h8
  obtain ⟨⟨⟨c33, c34⟩, c35⟩, c36⟩ := h9
  cases come <;> rcases ha with rfl | rfl | rfl <;> rcases hb with rfl | rfl <;> rcases hc with rfl | rfl | rfl
  · exact c1
  · exact c2
  · exact c3
  · exact c4
  · exact c5
  · exact c6
  · exact c7
  · exact c8
  · exact c9
  · exact c10
  · exact c11
  · exact c12
  · exact c13
  · exact c14
  · exact c15
  · exact c16
  · exact c17
  · exact c18
  · exact c19
  · exact c20
  · exact c21
  · exact c22
  · exact c23
  · exact c24
  · exact c25
  · exact c26
  · exact c27
  · exact c28
  · exact c29
  · exact c30
  · exact c31
  · exact c32
  · exact c33
  · exact c34
  · exact c35
  · exact c36

noncomputable def lvV : Nat → Bool := lvOf fnV codeV
noncomputable def vsV (come : Bool) (x y z : Int) : List Value := [.bool come, .int .i64 x, .int .i64 y, .int .i64 z]
noncomputable def midV (come : Bool) (x y z : Int) : CR :=
  codeA Tryz.prog lvV fnV.ntmps (callA Tryz.prog EV 999) 600 (.seq r0 (.seq r1 .skip)) ((argsT (vsV come x y z) 0 ⟨[], .nil⟩).flush lvV) ⟨.nil, 600⟩
noncomputable def tmV (come : Bool) (x y z : Int) : TM := Go.Qm.tmOf (midV come x y z)

theorem mid_run (come : Bool) (x y z : Int) : midV come x y z = some (.norm, tmV come x y z, ⟨.nil, 600⟩) := by kernel_rfl
theorem mid_loc (come : Bool) (x y z : Int) : (tmV come x y z).loc = [] := by kernel_rfl
theorem mid0 (come : Bool) (x y z : Int) : TM.val lvV (tmV come x y z) 0 = .bool come := by kernel_rfl
theorem mid1 (come : Bool) (x y z : Int) : TM.val lvV (tmV come x y z) 1 = .int .i64 (low x 3) := by kernel_rfl
theorem mid2 (come : Bool) (x y z : Int) : TM.val lvV (tmV come x y z) 2 = .int .i64 (low y 2) := by kernel_rfl
theorem mid3 (come : Bool) (x y z : Int) : TM.val lvV (tmV come x y z) 3 = .int .i64 (low z 3) := by kernel_rfl
theorem mid8 (come : Bool) (x y z : Int) : TM.val lvV (tmV come x y z) 8 = .bool false := by kernel_rfl

theorem dec_i (n : Nat) (h : n < 100) : Go.Qm.dec (.i n) = .int .i64 (n : Int) := by
  have : Go.Qm.sg n = (n : Int) := Go.Qm.sg_small (by omega)
  show Value.int .i64 (Go.Qm.sg n) = _
  rw [this]

theorem vq {n : Nat} {m : Int} {v : Value} (hv : v = .int .i64 m) (hm : m = (n : Int)) (hn : n < 100) : Go.Qm.VQ (.i n) v := by
  subst hm
  subst hv
  exact .inr (dec_i n hn).symm

theorem fn_body : fnV.body = some codeV := by kernel_rfl
theorem fn_code : codeV = .seq r0 (.seq r1 rest) := by kernel_rfl
theorem fn_name : (fnV.name == "runtime.NumGoroutine") = false := by kernel_rfl
theorem fn_len (come : Bool) (x y z : Int) : (Nat.ble (vsV come x y z).length fnV.ntmps && Nat.ble (vsV come x y z).length 1000000) = true := by kernel_rfl

theorem mid_er (come : Bool) (x y z : Int) (a b c : Nat) (ha : low x 3 = (a : Int)) (hb : low y 2 = (b : Int)) (hc : low z 3 = (c : Int)) (la : a < 100) (lb : b < 100) (lc : c < 100) :
    Go.Qm.ER lvV [some 0, some 1, some 2, some 3, some 8] (.cons (.b come) (.cons (.i a) (.cons (.i b) (.cons (.i c) (.cons (.b false) .nil))))) (tmV come x y z) := by
  intro i t hi
  match i, hi with
  | 0, hi =>
    obtain rfl : 0 = t := by simpa using hi
    exact .inr (mid0 come x y z)
  | 1, hi =>
    obtain rfl : 1 = t := by simpa using hi
    exact vq (mid1 come x y z) ha la
  | 2, hi =>
    obtain rfl : 2 = t := by simpa using hi
    exact vq (mid2 come x y z) hb lb
  | 3, hi =>
    obtain rfl : 3 = t := by simpa using hi
    exact vq (mid3 come x y z) hc lc
  | 4, hi =>
    obtain rfl : 8 = t := by simpa using hi
    exact .inr (mid8 come x y z)
  | n + 5, hi => simp at hi

theorem low3n (x : Int) : ∃ a : Nat, (a = 0 ∨ a = 1 ∨ a = 2) ∧ low x 3 = (a : Int) := by
  rcases low3 x with h | h | h
  · exact ⟨0, .inl rfl, h⟩
  · exact ⟨1, .inr (.inl rfl), h⟩
  · exact ⟨2, .inr (.inr rfl), h⟩
theorem low2n (x : Int) : ∃ a : Nat, (a = 0 ∨ a = 1) ∧ low x 2 = (a : Int) := by
  rcases low2 x with h | h
  · exact ⟨0, .inl rfl, h⟩
  · exact ⟨1, .inr rfl, h⟩

theorem run (come : Bool) (x y z : Int) : isT (callA Tryz.prog EV 1000 600 3 (vsV come x y z) ⟨.nil, 600⟩) = true := by
  obtain ⟨a, ha, ea⟩ := low3n x
  obtain ⟨b, hb, eb⟩ := low2n y
  obtain ⟨c, hc, ec⟩ := low3n z
  have h := cases_all come a b c ha hb hc
  exact Go.Qm.isT_mid TV_ok (f := 999) (g := 3) (fn := fnV) (c := codeV) (r0 := r0) (r1 := r1) (b := rest) (vs := vsV come x y z) (tm1 := tmV come x y z) Tryz.func3 fn_name fn_body fn_code rfl (fn_len come x y z) (mid_run come x y z) (mid_loc come x y z)
    (mid_er come x y z a b c ea eb ec (by omega) (by omega) (by omega)) h

theorem text : ∃ fn c, Tryz.prog.funcs[3]? = some fn ∧ (fn.name == "runtime.NumGoroutine") = false ∧ fn.body = some c :=
  ⟨_, _, Tryz.func3, fn_name, fn_body⟩

theorem calls (come : Bool) (x y z : Int) (w : World) : Calls Tryz.prog 3 #[.bool come, .int .i64 x, .int .i64 y, .int .i64 z] w fun e w' => e = .returned (.bool true) ∧ Up w w' :=
  calls_true (us := vsV come x y z) EV_good (run come x y z) text (fun _ => .cons (.bool _) (.cons (.int _ _) (.cons (.int _ _) (.cons (.int _ _) .nil)))) w

end Go.Proofs.YtlhpaebiefmfiaaGreatDoor.vMDispatch
