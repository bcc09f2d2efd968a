/- errors.Is of one of the program's own errors that wraps none, at one that stands for a code: whether the codes are one. errors.Is of one of the program's own errors that wraps none. An error's code and place, by the program's own search. No conditions. -/
import Derived.Test.YtidjangjfekfjaaGreatDoorR1
import Derived.Stop.Asserts
import Derived.Deep.QuietTactic
import Derived.BigQuiet
import Derived.Test.YtidjangjfekfjaaGreatDoorWr
set_option linter.unusedVariables false
set_option linter.unusedSimpArgs false
set_option linter.unusedSectionVars false
namespace Go.Proofs.YtidjangjfekfjaaGreatDoor.rl
open Go Go.RowKit Go.Extern.Stop Go.Stop Go.Extern
set_option maxRecDepth 1000000
noncomputable section
theorem sameAddr_new {P : Program} (w : World) {a b : Addr} {va : Value} {cb : Array Value} {tb : TypeId} (hne : a.block ≠ b.block) (ha : w.cell? a = some va) (hb : w.heap[b.block]? = some (.cells cb tb (0, 0))) (hs : cb.size ≠ 0) :
    (sameAddr a b).run P w = .ok false w := by
  unfold World.cell? at ha
  cases h : w.heap[a.block]? with
  | none => rw [h] at ha; cases ha
  | some o =>
    rw [h] at ha
    cases o with
    | cells c t fr =>
      obtain ⟨lo, hi⟩ := fr
      have hc : ∃ n, c.size = n + 1 := by
        have hc0 : c.size ≠ 0 := by
          intro h0
          have : c[a.off]? = none := by rw [Array.getElem?_eq_none_iff]; omega
          simp [this] at ha
        exact ⟨c.size - 1, by omega⟩
      obtain ⟨n, hn⟩ := hc
      simp [sameAddr, hne, World.frozen?, h, hb, noView, viewAt, World.shape?, mayBeOne, stringish, hs, hn]
    | _ => cases ha
theorem equalIn_new {P : Program} (w : World) (d : Nat) {ti tp te : TypeId} {ms : Array (String × TypeId)} {i j : TypeInfo} {a b : Addr} {va : Value} {cb : Array Value} {tb : TypeId}
    (hi : P.underlying ti = some (.interface ms)) (hp : P.underlying tp = some (.pointer te)) (hinfo : P.info? tp = some i) (hcomp : i.comparable = true) (hte : P.info? te = some j) (hsz : j.size ≠ 0)
    (hne : a.block ≠ b.block) (ha : w.cell? a = some va) (hb : w.heap[b.block]? = some (.cells cb tb (0, 0))) (hs : cb.size ≠ 0) :
    (Op.equalIn (d + 2) ti (.iface tp (.pointer (some a))) (.iface tp (.pointer (some b)))).run P w = .ok false w := by
  simp [Op.equalIn, run_underlying hi, run_underlying hp, typeInfo, hinfo, hcomp, sizeOf, hte, hsz, sameAddr_new w hne ha hb hs]
theorem eql_new {P : Program} (w : World) {ti tp te : TypeId} {ms : Array (String × TypeId)} {i j : TypeInfo} {a b : Addr} {va : Value} {cb : Array Value} {tb : TypeId}
    (hi : P.underlying ti = some (.interface ms)) (hp : P.underlying tp = some (.pointer te)) (hinfo : P.info? tp = some i) (hcomp : i.comparable = true) (hte : P.info? te = some j) (hsz : j.size ≠ 0)
    (hne : a.block ≠ b.block) (ha : w.cell? a = some va) (hb : w.heap[b.block]? = some (.cells cb tb (0, 0))) (hs : cb.size ≠ 0) :
    (binOp .eql ti (.iface tp (.pointer (some a))) (.iface tp (.pointer (some b)))).run P w = .ok (.bool false) w := by
  simp only [binOp]
  simp [Op.equal, Op.maxDepth, equalIn_new w 9998 hi hp hinfo hcomp hte hsz hne ha hb hs]
theorem isComp : (Tryz.prog.info? 96).map (·.comparable) = some true := by kernel_rfl
theorem isSize : (Tryz.prog.info? 100).map (·.size) = some 3 := by kernel_rfl
theorem isComparable (w : World) : ((ReflectliteType.method fun t => do Rtype.noPackHeld "Comparable" t; Functor.map (fun a => Value.bool a.comparable) (typeInfo t)) #[.agg #[.pointer (some ⟨10, 96, none⟩)]]).run Tryz.prog w = .ok (.bool true) w := by kernel_rfl
theorem isMethodComparable (h : Value) (w : World) : (Go.method 362 155 (.agg #[h]) "Comparable").run Tryz.prog w = .ok (188, .agg #[h]) w := by kernel_rfl
theorem hasIs (v : Value) (xT : TypeId) (w : World) : (Instr.typeAssert (.iface 96 v) xT 171 true).run Tryz.prog w = .ok (.tuple #[.iface 96 v, .bool true]) w := run_typeAssert_hasB Tryz.underlying171 (by kernel_rfl) v xT w
theorem hasUnwrap (v : Value) (xT : TypeId) (w : World) : (Instr.typeAssert (.iface 96 v) xT 162 true).run Tryz.prog w = .ok (.tuple #[.iface 96 v, .bool true]) w := run_typeAssert_hasB Tryz.underlying162 (by kernel_rfl) v xT w
theorem methodIs (v : Value) (w : World) : (Go.method 362 96 v "Is").run Tryz.prog w = .ok (181, v) w := by kernel_rfl
theorem methodUnwrap (v : Value) (w : World) : (Go.method 362 96 v "Unwrap").run Tryz.prog w = .ok (182, v) w := by kernel_rfl
theorem toP (v : Value) (xT : TypeId) (w : World) : (Instr.typeAssert (.iface 96 v) xT 96 true).run Tryz.prog w = .ok (.tuple #[v, .bool true]) w := by kernel_rfl
set_option maxHeartbeats 8000000 in
theorem meth_is (b off t : Nat) (c a k : Int) (w : World) (h0 : w.cell? ⟨b, off, none⟩ = some (.int .i64 c)) (h1 : w.cell? ⟨b, off + 1, none⟩ = some (.int .i64 a)) (h2 : w.cell? ⟨b, off + 2, none⟩ = some .nilIface)
    (ht : w.heap[t]? = some (.cells #[.int .i64 k, .int .i64 (-1), .nilIface] 100 (0, 0))) :
    Calls Tryz.prog 181 #[.pointer (some ⟨b, off, none⟩), .iface 96 (.pointer (some ⟨t, 0, none⟩))] w fun e w' => e = .returned (.bool (decide (k = c))) ∧ ∃ m, w' = w.drewN m := by
  have mixed : Tryz.prog.follows .mixedOrders = true := by kernel_rfl
  have tP := toP
  have t0 : w.cell? ⟨t, 0, none⟩ = some (.int .i64 k) := by simp [World.cell?, ht]
  have t1 : w.cell? ⟨t, 0 + 1, none⟩ = some (.int .i64 (-1)) := by simp [World.cell?, ht]
  have t2 : w.cell? ⟨t, 0 + 2, none⟩ = some .nilIface := by simp [World.cell?, ht]
  go_enter Tryz.func181, Tryz.ntmps181
  go_wp2
  by_cases hk : k = c
  · subst hk
    go_quiet (fail)
    go_wp2
    go_ret
    exact ⟨by simp, _, rfl⟩
  · go_quiet (fail)
    go_wp2
    go_ret
    exact ⟨by simp [hk], _, rfl⟩
end
end Go.Proofs.YtidjangjfekfjaaGreatDoor.rl

set_option linter.unusedVariables false
set_option linter.unusedSimpArgs false
set_option linter.unusedSectionVars false
namespace Go.Proofs.YtidjangjfekfjaaGreatDoor.rl
open Go Go.RowKit Go.Extern.Stop Go.Stop Go.Extern
set_option maxRecDepth 1000000
noncomputable section
set_option maxHeartbeats 8000000 in
theorem is_leaf (b off t : Nat) (c a k : Int) (w : World) (hne : b ≠ t) (h0 : w.cell? ⟨b, off, none⟩ = some (.int .i64 c)) (h1 : w.cell? ⟨b, off + 1, none⟩ = some (.int .i64 a)) (h2 : w.cell? ⟨b, off + 2, none⟩ = some .nilIface)
    (ht : w.heap[t]? = some (.cells #[.int .i64 k, .int .i64 (-1), .nilIface] 100 (0, 0))) :
    Calls Tryz.prog 62 #[.iface 96 (.pointer (some ⟨b, off, none⟩)), .iface 96 (.pointer (some ⟨t, 0, none⟩))] w fun e w' => e = .returned (.bool (decide (k = c))) ∧ ∃ m, w' = w.drewN m := by
  obtain ⟨i, hi, hcmp⟩ := Option.map_eq_some_iff.1 isComp
  obtain ⟨j, hj, hjs⟩ := Option.map_eq_some_iff.1 isSize
  have h8 := @run_callFunc_extern Tryz.prog 95 _ ReflectliteType.typeOf Tryz.func95 (by kernel_rfl) (by kernel_rfl) (by kernel_rfl) (by kernel_rfl)
  have h32 := @run_callFunc_extern Tryz.prog 188 _ (ReflectliteType.method fun t => do Rtype.noPackHeld "Comparable" t; pure (.bool (← typeInfo t).comparable)) Tryz.func188 (by kernel_rfl) (by kernel_rfl) (by kernel_rfl) (by kernel_rfl)
  have tT := typeOfP
  have cT := isComparable
  have mR := isMethodComparable
  have aI := hasIs
  have aU := hasUnwrap
  have mI := methodIs
  have mU := methodUnwrap
  have t0 : w.cell? ⟨t, 0, none⟩ = some (.int .i64 k) := by simp [World.cell?, ht]
  have heq := eql_new (P := Tryz.prog) w (a := ⟨b, off, none⟩) (b := ⟨t, 0, none⟩) Tryz.underlying27 Tryz.underlying96 hi hcmp hj (by rw [hjs]; decide) hne h0 ht (by simp)
  have hM := meth_is b off t c a k w h0 h1 h2 ht
  by_cases hk : k = c
  · rw [decide_eq_true hk] at hM ⊢
    go_enter Tryz.func62, Tryz.ntmps62
    go_wp2
    refine wp_loop_rounds 1 ?_
    rw [rounds_succ]
    go_wp2_with (go_at_call 181; refine hM.mono ?_; rintro e w' ⟨rfl, m, rfl⟩)
    go_ret
    exact ⟨rfl, _, rfl⟩
  · rw [decide_eq_false hk] at hM ⊢
    go_enter Tryz.func62, Tryz.ntmps62
    go_wp2
    refine wp_loop_rounds 1 ?_
    rw [rounds_succ]
    go_wp2_with (go_at_call 181; refine hM.mono ?_; rintro e w' ⟨rfl, m, rfl⟩)
    have h3 : (w.drewN m).cell? ⟨b, off + 2, none⟩ = some .nilIface := h2
    go_wp2
    go_ret
    exact ⟨rfl, _, rfl⟩
end
end Go.Proofs.YtidjangjfekfjaaGreatDoor.rl

set_option linter.unusedVariables false
set_option linter.unusedSimpArgs false
set_option linter.unusedSectionVars false
namespace Go.Proofs.YtidjangjfekfjaaGreatDoor
open Go Go.Proofs Go.RowKit Go.Dl Go.Shelf
set_option maxRecDepth 1000000
theorem belowD {n : Nat} {w w' : World} (h : RowKit.Below n w w') (m : Nat) : RowKit.Below n w (w'.drewN m) := ⟨h.os, h.tape, h.output, h.size, h.block⟩
set_option maxHeartbeats 8000000 in
theorem first_err (b off : Nat) (w : World) (c a : Int) (hg : w.cell? ⟨0, 0, none⟩ = some (.iface 155 (.agg #[.pointer (some ⟨10, 27, none⟩)])))
    (h0 : w.cell? ⟨b, off, none⟩ = some (.int .i64 c)) (h1 : w.cell? ⟨b, off + 1, none⟩ = some (.int .i64 a)) :
    Calls Tryz.prog 97 #[.iface 96 (.pointer (some ⟨b, off, none⟩))] w fun e w' => e = .returned (.tuple #[.pointer (some ⟨b, off, none⟩), .bool true]) ∧ w'.cell? ⟨b, off, none⟩ = some (.int .i64 c) ∧ w'.cell? ⟨b, off + 1, none⟩ = some (.int .i64 a) ∧ RowKit.Below w.heap.size w w' := by
  have mixed : Tryz.prog.follows .mixedOrders = true := by kernel_rfl
  have hA := as_err b off w c a hg h0 h1
  go_enter Tryz.func97, Tryz.ntmps97
  go_wp2_with (go_at_call 49; refine hA.mono ?_; rintro e w' ⟨rfl, c1, c2, c3, hbl⟩)
  go_quiet (fail)
  go_wp2
  go_ret2
  exact ⟨rfl, c2, c3, belowD hbl _⟩
set_option maxHeartbeats 8000000 in
theorem find_err (b off : Nat) (w : World) (c a : Int) (hg : w.cell? ⟨0, 0, none⟩ = some (.iface 155 (.agg #[.pointer (some ⟨10, 27, none⟩)])))
    (h0 : w.cell? ⟨b, off, none⟩ = some (.int .i64 c)) (h1 : w.cell? ⟨b, off + 1, none⟩ = some (.int .i64 a)) :
    Calls Tryz.prog 64 #[.iface 96 (.pointer (some ⟨b, off, none⟩))] w fun e w' => e = .returned (.tuple #[.int .i64 c, .int .i64 a, .bool true]) ∧ RowKit.Below w.heap.size w w' := by
  have mixed : Tryz.prog.follows .mixedOrders = true := by kernel_rfl
  have hA := first_err b off w c a hg h0 h1
  go_enter Tryz.func64, Tryz.ntmps64
  go_wp2_with (go_at_call 97; refine hA.mono ?_; rintro e w' ⟨rfl, c2, c3, hbl⟩)
  go_quiet (fail)
  go_wp2
  go_ret3
  exact ⟨rfl, belowD hbl _⟩
theorem of_new (k : Int) (w : World) : Calls Tryz.prog 63 #[.int .i64 k] w fun e w' => e = .returned (.iface 96 (.pointer (some ⟨w.heap.size, 0, none⟩))) ∧ w' = w.alloc (.cells #[.int .i64 k, .int .i64 (-1), .nilIface] 100) := by
  go_enter Tryz.func63, Tryz.ntmps63
  go_wp2
  go_ret
  exact ⟨rfl, rfl⟩
theorem wrap_new (p : Value) (c a : Int) (w : World) : Calls Tryz.prog 65 #[.iface 96 p, .int .i64 c, .int .i64 a] w fun e w' => e = .returned (.iface 96 (.pointer (some ⟨w.heap.size, 0, none⟩))) ∧ w' = w.alloc (.cells #[.int .i64 c, .int .i64 a, .iface 96 p] 100) := by
  go_enter Tryz.func65, Tryz.ntmps65
  go_wp2
  go_ret
  exact ⟨rfl, rfl⟩
structure Lf (b off : Nat) (c a : Int) (w : World) : Prop where
  h0 : w.cell? ⟨b, off, none⟩ = some (.int .i64 c)
  h1 : w.cell? ⟨b, off + 1, none⟩ = some (.int .i64 a)
  h2 : w.cell? ⟨b, off + 2, none⟩ = some .nilIface
  hg : w.cell? ⟨0, 0, none⟩ = some (.iface 155 (.agg #[.pointer (some ⟨10, 27, none⟩)]))
theorem cell_lt {w : World} {x : Addr} {v : Value} (h : w.cell? x = some v) : x.block < w.heap.size := by
  rcases Nat.lt_or_ge x.block w.heap.size with hl | hl
  · exact hl
  · simp [World.cell?, Array.getElem?_eq_none hl] at h
theorem Lf.alloc {b off : Nat} {c a : Int} {w : World} (h : Lf b off c a w) (o : Go.Obj) : Lf b off c a (w.alloc o) := by
  have k : ∀ {x : Addr} {v : Value}, w.cell? x = some v → (w.alloc o).cell? x = some v := fun h => (World.cell?_alloc_lt _ _ _ (cell_lt h)).trans h
  exact ⟨k h.h0, k h.h1, k h.h2, k h.hg⟩
theorem Lf.drew {b off : Nat} {c a : Int} {w : World} (h : Lf b off c a w) (m : Nat) : Lf b off c a (w.drewN m) := ⟨h.h0, h.h1, h.h2, h.hg⟩
theorem Lf.lt {b off : Nat} {c a : Int} {w : World} (h : Lf b off c a w) : b < w.heap.size := cell_lt h.h0
theorem is_lf {b off t : Nat} {c a k : Int} {w : World} (L : Lf b off c a w) (hne : b ≠ t) (ht : w.heap[t]? = some (.cells #[.int .i64 k, .int .i64 (-1), .nilIface] 100 (0, 0))) :
    Calls Tryz.prog 62 #[.iface 96 (.pointer (some ⟨b, off, none⟩)), .iface 96 (.pointer (some ⟨t, 0, none⟩))] w fun e w' => e = .returned (.bool (decide (k = c))) ∧ ∃ m, w' = w.drewN m := rl.is_leaf b off t c a k w hne L.h0 L.h1 L.h2 ht
theorem new_at {w : World} {o : Go.Obj} {t : Nat} (h : t = w.heap.size) : (w.alloc o).heap[t]? = some o := by
  subst h; exact heap_alloc_new w o
theorem find_lf {b off : Nat} {c a : Int} {w : World} (L : Lf b off c a w) : Calls Tryz.prog 64 #[.iface 96 (.pointer (some ⟨b, off, none⟩))] w fun e w' => e = .returned (.tuple #[.int .i64 c, .int .i64 a, .bool true]) ∧ RowKit.Below w.heap.size w w' :=
  find_err b off w c a L.hg L.h0 L.h1
theorem belowA {w w' : World} (h : RowKit.Below w.heap.size w w') (o : Go.Obj) : RowKit.Below w.heap.size w (w'.alloc o) := h.trans ((below_alloc w' o).mono h.size)
theorem belowT {w w1 w2 : World} (h : RowKit.Below w.heap.size w w1) (h2 : RowKit.Below w1.heap.size w1 w2) : RowKit.Below w.heap.size w w2 := h.trans (h2.mono h.size)
def Wrapped (b off : Nat) (c a : Int) (w : World) (e : Ending) (w' : World) : Prop := ∃ B, e = .returned (.iface 96 (.pointer (some ⟨B, 0, none⟩))) ∧ w.heap.size ≤ B ∧
      w'.heap[B]? = some (.cells #[.int .i64 c, .int .i64 a, .iface 96 (.pointer (some ⟨b, off, none⟩))] 100 (0, 0)) ∧ RowKit.Below w.heap.size w w'
theorem Wrapped.of {b off : Nat} {c a : Int} {w w1 w2 : World} (h : RowKit.Below w.heap.size w w1) (h2 : RowKit.Below w1.heap.size w1 w2) :
    Wrapped b off c a w (.returned (.iface 96 (.pointer (some ⟨w2.heap.size, 0, none⟩)))) (w2.alloc (.cells #[.int .i64 c, .int .i64 a, .iface 96 (.pointer (some ⟨b, off, none⟩))] 100)) :=
  ⟨_, rfl, (belowT h h2).size, heap_alloc_new _ _, belowA (belowT h h2) _⟩
set_option maxHeartbeats 8000000 in
theorem wrapped_one (b off : Nat) (w : World) (a : Int) (L : Lf b off 1 a w) : Calls Tryz.prog 34 #[.iface 96 (.pointer (some ⟨b, off, none⟩))] w (Wrapped b off 1 a w) := by
  have hb : b < w.heap.size := L.lt
  go_enter Tryz.func34, Tryz.ntmps34
  go_wp2
  refine wp_loop_rounds 1 ?_
  rw [rounds_succ]
  go_wp2_with (first | (go_at_call 63; refine (of_new _ _).mono ?_; rintro e w' ⟨rfl, rfl⟩) | (go_at_call 62; refine (is_lf (c := 1) (a := a) (by repeat' (first | exact L | apply Lf.alloc | apply Lf.drew)) (by omega) (new_at (by simp))).mono ?_; rintro e w' ⟨rfl, m0, rfl⟩) | (go_at_call 64; refine (find_lf (c := 1) (a := a) (by repeat' (first | exact L | apply Lf.alloc | apply Lf.drew))).mono ?_; rintro e w' ⟨rfl, hbl⟩) | (go_at_call 65; refine (wrap_new _ _ _ _).mono ?_; rintro e w' ⟨rfl, rfl⟩))
  go_ret
  exact Wrapped.of (by repeat' (first | exact RowKit.Below.refl _ _ | apply belowA | apply belowD)) hbl
set_option maxHeartbeats 8000000 in
theorem wrapped_two (b off : Nat) (w : World) (a : Int) (L : Lf b off 2 a w) : Calls Tryz.prog 34 #[.iface 96 (.pointer (some ⟨b, off, none⟩))] w (Wrapped b off 2 a w) := by
  have hb : b < w.heap.size := L.lt
  go_enter Tryz.func34, Tryz.ntmps34
  go_wp2
  refine wp_loop_rounds 2 ?_
  rw [rounds_succ]
  go_wp2_with (first | (go_at_call 63; refine (of_new _ _).mono ?_; rintro e w' ⟨rfl, rfl⟩) | (go_at_call 62; refine (is_lf (c := 2) (a := a) (by repeat' (first | exact L | apply Lf.alloc | apply Lf.drew)) (by omega) (new_at (by simp))).mono ?_; rintro e w' ⟨rfl, m0, rfl⟩) | (go_at_call 64; refine (find_lf (c := 2) (a := a) (by repeat' (first | exact L | apply Lf.alloc | apply Lf.drew))).mono ?_; rintro e w' ⟨rfl, hbl⟩) | (go_at_call 65; refine (wrap_new _ _ _ _).mono ?_; rintro e w' ⟨rfl, rfl⟩))
  rw [rounds_succ]
  go_wp2_with (first | (go_at_call 63; refine (of_new _ _).mono ?_; rintro e w' ⟨rfl, rfl⟩) | (go_at_call 62; refine (is_lf (c := 2) (a := a) (by repeat' (first | exact L | apply Lf.alloc | apply Lf.drew)) (by omega) (new_at (by simp))).mono ?_; rintro e w' ⟨rfl, m1, rfl⟩) | (go_at_call 64; refine (find_lf (c := 2) (a := a) (by repeat' (first | exact L | apply Lf.alloc | apply Lf.drew))).mono ?_; rintro e w' ⟨rfl, hbl⟩) | (go_at_call 65; refine (wrap_new _ _ _ _).mono ?_; rintro e w' ⟨rfl, rfl⟩))
  go_ret
  exact Wrapped.of (by repeat' (first | exact RowKit.Below.refl _ _ | apply belowA | apply belowD)) hbl
set_option maxHeartbeats 8000000 in
theorem wrapped_five (b off : Nat) (w : World) (a : Int) (L : Lf b off 5 a w) : Calls Tryz.prog 34 #[.iface 96 (.pointer (some ⟨b, off, none⟩))] w (Wrapped b off 5 a w) := by
  have hb : b < w.heap.size := L.lt
  go_enter Tryz.func34, Tryz.ntmps34
  go_wp2
  refine wp_loop_rounds 3 ?_
  rw [rounds_succ]
  go_wp2_with (first | (go_at_call 63; refine (of_new _ _).mono ?_; rintro e w' ⟨rfl, rfl⟩) | (go_at_call 62; refine (is_lf (c := 5) (a := a) (by repeat' (first | exact L | apply Lf.alloc | apply Lf.drew)) (by omega) (new_at (by simp))).mono ?_; rintro e w' ⟨rfl, m0, rfl⟩) | (go_at_call 64; refine (find_lf (c := 5) (a := a) (by repeat' (first | exact L | apply Lf.alloc | apply Lf.drew))).mono ?_; rintro e w' ⟨rfl, hbl⟩) | (go_at_call 65; refine (wrap_new _ _ _ _).mono ?_; rintro e w' ⟨rfl, rfl⟩))
  rw [rounds_succ]
  go_wp2_with (first | (go_at_call 63; refine (of_new _ _).mono ?_; rintro e w' ⟨rfl, rfl⟩) | (go_at_call 62; refine (is_lf (c := 5) (a := a) (by repeat' (first | exact L | apply Lf.alloc | apply Lf.drew)) (by omega) (new_at (by simp))).mono ?_; rintro e w' ⟨rfl, m1, rfl⟩) | (go_at_call 64; refine (find_lf (c := 5) (a := a) (by repeat' (first | exact L | apply Lf.alloc | apply Lf.drew))).mono ?_; rintro e w' ⟨rfl, hbl⟩) | (go_at_call 65; refine (wrap_new _ _ _ _).mono ?_; rintro e w' ⟨rfl, rfl⟩))
  rw [rounds_succ]
  go_wp2_with (first | (go_at_call 63; refine (of_new _ _).mono ?_; rintro e w' ⟨rfl, rfl⟩) | (go_at_call 62; refine (is_lf (c := 5) (a := a) (by repeat' (first | exact L | apply Lf.alloc | apply Lf.drew)) (by omega) (new_at (by simp))).mono ?_; rintro e w' ⟨rfl, m2, rfl⟩) | (go_at_call 64; refine (find_lf (c := 5) (a := a) (by repeat' (first | exact L | apply Lf.alloc | apply Lf.drew))).mono ?_; rintro e w' ⟨rfl, hbl⟩) | (go_at_call 65; refine (wrap_new _ _ _ _).mono ?_; rintro e w' ⟨rfl, rfl⟩))
  go_ret
  exact Wrapped.of (by repeat' (first | exact RowKit.Below.refl _ _ | apply belowA | apply belowD)) hbl
end Go.Proofs.YtidjangjfekfjaaGreatDoor
