/- Plain functions, and that the Go functions do what these do: printed by gen2.py. No conditions. -/
import Derived.Test.YtaoklnkjcobokaaDoorPGa
import Derived.Test.YtaoklnkjcobokaaDoorProg
set_option linter.unusedVariables false
set_option linter.unusedSimpArgs false
set_option linter.unusedSectionVars false
namespace Go.Proofs.YtaoklnkjcobokaaDoor
open Go Go.Proofs Go.Dl

mutual

/-- (*governor/print.writer).stmts -/
def F35 : (K : Nat) → (S62) → ((List S43)) → Option ((S62) ⊕ (S62))
 | 0, _, _ => none
 | K + 1, a0, a1 =>
 (bindS (blockS ((iter K (fun (u20 : (List Bytes) × Int) => (letV (decide ((u20.2 : Int) < (Int.ofNat a1.length))) (fun (x26 : Bool) => (if x26 = true then (bindS (blockS (chk [inb u20.2 a1.length] ((fnS (F51 K (⟨u20.1⟩ : S62) (a1.getD (u20.2 : Int).toNat default))).bind (fun r29 => (some (.inr (r29.fl))))))) (fun (u28 : (List Bytes)) => (some (.inr (u28, (IntKind.i64.wrap (u20.2 + 1))))))) else (some (.inl (Sum.inl (u20.1)))))))) (a0.fl, 0)).map .inl)) (fun (u15 : (List Bytes)) => (some (.inr ((⟨u15⟩ : S62))))))

/-- (*governor/print.writer).stmt -/
def F51 : (K : Nat) → (S62) → (S43) → Option ((S62) ⊕ (S62))
 | 0, _, _ => none
 | K + 1, a0, a1 =>
 (bindS (blockS (bindS (blockS (bindS (blockS (bindS (blockS (bindS (blockS (bindS (blockS (bindS (blockS (bindS (blockS (bindS (blockS (bindS (blockS (bindS (blockS (bindS (blockS (bindS (blockS (if ((a1.fKind : Int) == 1) = true then (some (.inl (Sum.inl ()))) else (if ((a1.fKind : Int) == 2) = true then (some (.inl (Sum.inr (Sum.inl ())))) else (if ((a1.fKind : Int) == 3) = true then (some (.inl (Sum.inr (Sum.inr (Sum.inl ()))))) else (if ((a1.fKind : Int) == 4) = true then (some (.inl (Sum.inr (Sum.inr (Sum.inr (Sum.inl (a0.fl))))))) else (if ((a1.fKind : Int) == 5) = true then (some (.inl (Sum.inr (Sum.inr (Sum.inr (Sum.inr (Sum.inl ()))))))) else (if ((a1.fKind : Int) == 6) = true then (some (.inl (Sum.inr (Sum.inr (Sum.inr (Sum.inr (Sum.inr (Sum.inl ())))))))) else (if ((a1.fKind : Int) == 7) = true then (some (.inl (Sum.inr (Sum.inr (Sum.inr (Sum.inr (Sum.inr (Sum.inr (Sum.inl ()))))))))) else (if ((a1.fKind : Int) == 8) = true then (some (.inl (Sum.inr (Sum.inr (Sum.inr (Sum.inr (Sum.inr (Sum.inr (Sum.inr (Sum.inl ())))))))))) else (if ((a1.fKind : Int) == 9) = true then (some (.inl (Sum.inr (Sum.inr (Sum.inr (Sum.inr (Sum.inr (Sum.inr (Sum.inr (Sum.inr (Sum.inl ()))))))))))) else (if ((a1.fKind : Int) == 10) = true then (some (.inl (Sum.inr (Sum.inr (Sum.inr (Sum.inr (Sum.inr (Sum.inr (Sum.inr (Sum.inr (Sum.inr (Sum.inl ())))))))))))) else (if ((a1.fKind : Int) == 11) = true then (some (.inl (Sum.inr (Sum.inr (Sum.inr (Sum.inr (Sum.inr (Sum.inr (Sum.inr (Sum.inr (Sum.inr (Sum.inr (Sum.inl ()))))))))))))) else (some (.inl (Sum.inr (Sum.inr (Sum.inr (Sum.inr (Sum.inr (Sum.inr (Sum.inr (Sum.inr (Sum.inr (Sum.inr (Sum.inr (Sum.inl ())))))))))))))))))))))))))) (fun (u27177 : Unit) => ((fnS (F33 K (⟨a0.fl⟩ : S62) [a1.fName, ([58, 61] : Bytes)])).bind (fun r27178 => ((fnS (F44 K (⟨r27178.fl⟩ : S62) a1.fExprs 0)).bind (fun r27179 => (some (.inl (Sum.inr (Sum.inr (Sum.inr (Sum.inr (Sum.inr (Sum.inr (Sum.inr (Sum.inr (Sum.inr (Sum.inr (Sum.inr (Sum.inl (r27179.fl)))))))))))))))))))))) (fun (u27176 : Unit) => ((fnS (F33 K (⟨a0.fl⟩ : S62) [a1.fName, ([91] : Bytes)])).bind (fun r27180 => ((fnS (F44 K (⟨r27180.fl⟩ : S62) a1.fExprs 0)).bind (fun r27181 => ((fnS (F33 K (⟨r27181.fl⟩ : S62) [([93] : Bytes), ([58, 61] : Bytes)])).bind (fun r27182 => ((fnS (F44 K (⟨r27182.fl⟩ : S62) a1.fExprs 1)).bind (fun r27183 => (some (.inl (Sum.inr (Sum.inr (Sum.inr (Sum.inr (Sum.inr (Sum.inr (Sum.inr (Sum.inr (Sum.inr (Sum.inr (Sum.inl (r27183.fl))))))))))))))))))))))))) (fun (u27172 : Unit) => ((fnS (F33 K (⟨a0.fl⟩ : S62) [a1.fName, ([63, 61] : Bytes)])).bind (fun r27184 => (some (.inr (r27184.fl)))))))) (fun (u27160 : (List Bytes)) => ((fnS (F44 K (⟨u27160⟩ : S62) a1.fExprs 0)).bind (fun r27185 => (some (.inl (Sum.inr (Sum.inr (Sum.inr (Sum.inr (Sum.inr (Sum.inr (Sum.inr (Sum.inr (Sum.inl (r27185.fl))))))))))))))))) (fun (u27135 : Unit) => ((fnS (F56 K (⟨a0.fl⟩ : S62) a1)).bind (fun r27186 => (some (.inl (Sum.inr (Sum.inr (Sum.inr (Sum.inr (Sum.inr (Sum.inr (Sum.inr (Sum.inl (r27186.fl)))))))))))))))) (fun (u27084 : Unit) => ((fnS (F57 K (⟨a0.fl⟩ : S62) a1)).bind (fun r27187 => (some (.inl (Sum.inr (Sum.inr (Sum.inr (Sum.inr (Sum.inr (Sum.inr (Sum.inl (r27187.fl))))))))))))))) (fun (u26981 : Unit) => ((fnS (F33 K (⟨a0.fl⟩ : S62) [([87, 72, 73, 76, 69] : Bytes)])).bind (fun r27188 => ((fnS (F44 K (⟨r27188.fl⟩ : S62) a1.fExprs 0)).bind (fun r27189 => ((fnS (F33 K (⟨r27189.fl⟩ : S62) [([68, 79] : Bytes)])).bind (fun r27190 => ((fnS (F58 K (⟨r27190.fl⟩ : S62) a1.fBlocks 0)).bind (fun r27191 => ((fnS (F33 K (⟨r27191.fl⟩ : S62) [([69, 78, 68, 95, 87, 72, 73, 76, 69] : Bytes)])).bind (fun r27192 => (some (.inl (Sum.inr (Sum.inr (Sum.inr (Sum.inr (Sum.inr (Sum.inl (r27192.fl)))))))))))))))))))))) (fun (u26774 : Unit) => ((fnS (F33 K (⟨a0.fl⟩ : S62) [([70, 79, 82] : Bytes), a1.fName, ([58, 61] : Bytes)])).bind (fun r27193 => ((fnS (F44 K (⟨r27193.fl⟩ : S62) a1.fExprs 0)).bind (fun r27194 => ((fnS (F33 K (⟨r27194.fl⟩ : S62) [([84, 79] : Bytes)])).bind (fun r27195 => ((fnS (F44 K (⟨r27195.fl⟩ : S62) a1.fExprs 1)).bind (fun r27196 => ((fnS (F33 K (⟨r27196.fl⟩ : S62) [([66, 89] : Bytes)])).bind (fun r27197 => ((fnS (F36 K (⟨r27197.fl⟩ : S62) a1.fN)).bind (fun r27198 => ((fnS (F33 K (⟨r27198.fl⟩ : S62) [([68, 79] : Bytes)])).bind (fun r27199 => ((fnS (F58 K (⟨r27199.fl⟩ : S62) a1.fBlocks 0)).bind (fun r27200 => ((fnS (F33 K (⟨r27200.fl⟩ : S62) [([69, 78, 68, 95, 70, 79, 82] : Bytes)])).bind (fun r27201 => (some (.inl (Sum.inr (Sum.inr (Sum.inr (Sum.inr (Sum.inl (r27201.fl))))))))))))))))))))))))))))) (fun (u26355 : Unit) => ((fnS (F33 K (⟨a0.fl⟩ : S62) [([82, 69, 84, 85, 82, 78] : Bytes)])).bind (fun r27202 => (letV (decide (((Int.ofNat a1.fExprs.length) : Int) > 0)) (fun (x27203 : Bool) => (bindS (if x27203 = true then (chk [inb 0 a1.fExprs.length] ((fnS (F23 K (⟨r27202.fl⟩ : S62) (a1.fExprs.getD (0 : Int).toNat default))).bind (fun r27206 => (some (.inr (r27206.fl)))))) else (some (.inr (r27202.fl)))) (fun (u27205 : (List Bytes)) => (some (.inl (Sum.inr (Sum.inr (Sum.inr (Sum.inl (u27205)))))))))))))))) (fun (u25508 : Unit) => ((fnS (F33 K (⟨a0.fl⟩ : S62) [([69, 88, 73, 84] : Bytes)])).bind (fun r27207 => (some (.inl (Sum.inr (Sum.inr (Sum.inl (r27207.fl))))))))))) (fun (u23809 : Unit) => ((fnS (F33 K (⟨a0.fl⟩ : S62) [([83, 84, 69, 80] : Bytes), a1.fName, ([40] : Bytes)])).bind (fun r27208 => ((fnS (F44 K (⟨r27208.fl⟩ : S62) a1.fExprs 0)).bind (fun r27209 => ((fnS (F33 K (⟨r27209.fl⟩ : S62) [([44] : Bytes)])).bind (fun r27210 => ((fnS (F44 K (⟨r27210.fl⟩ : S62) a1.fExprs 1)).bind (fun r27211 => ((fnS (F33 K (⟨r27211.fl⟩ : S62) [([41] : Bytes)])).bind (fun r27212 => (some (.inl (Sum.inr (Sum.inl (r27212.fl)))))))))))))))))) (fun (u20410 : Unit) => ((fnS (F33 K (⟨a0.fl⟩ : S62) [([63] : Bytes)])).bind (fun r27213 => (some (.inl (Sum.inl (r27213.fl))))))))) (fun (u13607 : (List Bytes)) => ((fnS (F33 K (⟨u13607⟩ : S62) [([59] : Bytes)])).bind (fun r27214 => (some (.inr ((⟨r27214.fl⟩ : S62))))))))

/-- (*governor/print.writer).choice -/
def F56 : (K : Nat) → (S62) → (S43) → Option ((S62) ⊕ (S62))
 | 0, _, _ => none
 | K + 1, a0, a1 =>
 (letV (if 1 > (Int.ofNat a1.fExprs.length) then 1 else (Int.ofNat a1.fExprs.length)) (fun (x1 : Int) => (bindS (blockS ((iter K (fun (u43 : (List Bytes) × Bytes × Int) => (if (decide ((u43.2.2 : Int) < x1)) = true then (bindS (blockS ((fnS (F33 K (⟨u43.1⟩ : S62) [u43.2.1])).bind (fun r59 => ((fnS (F44 K (⟨r59.fl⟩ : S62) a1.fExprs u43.2.2)).bind (fun r60 => ((fnS (F33 K (⟨r60.fl⟩ : S62) [([84, 72, 69, 78] : Bytes)])).bind (fun r61 => ((fnS (F58 K (⟨r61.fl⟩ : S62) a1.fBlocks u43.2.2)).bind (fun r62 => (some (.inr (r62.fl, ([69, 76, 83, 73, 70] : Bytes))))))))))))) (fun (u58 : (List Bytes) × Bytes) => (some (.inr (u58.1, u58.2, (IntKind.i64.wrap (u43.2.2 + 1))))))) else (some (.inl (Sum.inl (u43.1)))))) (a0.fl, ([73, 70] : Bytes), 0)).map .inl)) (fun (u32 : (List Bytes)) => ((fnS (F64 K (⟨u32⟩ : S62) a1.fBlocks x1 ([69, 78, 68, 95, 73, 70] : Bytes))).bind (fun r63 => (some (.inr ((⟨r63.fl⟩ : S62))))))))))

/-- (*governor/print.writer).cases -/
def F57 : (K : Nat) → (S62) → (S43) → Option ((S62) ⊕ (S62))
 | 0, _, _ => none
 | K + 1, a0, a1 =>
 ((fnS (F33 K (⟨a0.fl⟩ : S62) [([67, 65, 83, 69] : Bytes)])).bind (fun r1 => ((fnS (F44 K (⟨r1.fl⟩ : S62) a1.fExprs 0)).bind (fun r2 => ((fnS (F33 K (⟨r2.fl⟩ : S62) [([79, 70] : Bytes)])).bind (fun r3 => (bindS (blockS ((iter K (fun (u601 : (List Bytes) × Int) => (letV (decide ((u601.2 : Int) < (Int.ofNat a1.fLabels.length))) (fun (x745 : Bool) => (if x745 = true then (bindS (blockS (chk [inb u601.2 a1.fLabels.length] (letV (a1.fLabels.getD (u601.2 : Int).toNat default) (fun (x817 : (List Int)) => (bindS (blockS ((iter K (fun (u863 : (List Bytes) × Int) => (letV (decide ((u863.2 : Int) < (Int.ofNat x817.length))) (fun (x875 : Bool) => (if x875 = true then (bindS (blockS (chk [inb u863.2 x817.length] (bindS (if (decide ((u863.2 : Int) > 0)) = true then ((fnS (F33 K (⟨u863.1⟩ : S62) [([44] : Bytes)])).bind (fun r883 => (some (.inr (r883.fl))))) else (some (.inr (u863.1)))) (fun (u882 : (List Bytes)) => ((fnS (F36 K (⟨u882⟩ : S62) (x817.getD (u863.2 : Int).toNat default))).bind (fun r884 => (some (.inr (r884.fl))))))))) (fun (u880 : (List Bytes)) => (some (.inr (u880, (IntKind.i64.wrap (u863.2 + 1))))))) else (some (.inl (Sum.inl (u863.1)))))))) (u601.1, 0)).map .inl)) (fun (u851 : (List Bytes)) => ((fnS (F33 K (⟨u851⟩ : S62) [([58] : Bytes)])).bind (fun r885 => ((fnS (F58 K (⟨r885.fl⟩ : S62) a1.fBlocks u601.2)).bind (fun r886 => (some (.inr (r886.fl))))))))))))) (fun (u816 : (List Bytes)) => (some (.inr (u816, (IntKind.i64.wrap (u601.2 + 1))))))) else (some (.inl (Sum.inl (u601.1)))))))) (r3.fl, 0)).map .inl)) (fun (u445 : (List Bytes)) => ((fnS (F64 K (⟨u445⟩ : S62) a1.fBlocks (Int.ofNat a1.fLabels.length) ([69, 78, 68, 95, 67, 65, 83, 69] : Bytes))).bind (fun r887 => (some (.inr ((⟨r887.fl⟩ : S62))))))))))))))

/-- (*governor/print.writer).block -/
def F58 : (K : Nat) → (S62) → ((List (List S43))) → (Int) → Option ((S62) ⊕ (S62))
 | 0, _, _, _ => none
 | K + 1, a0, a1, a2 =>
 (letV (decide ((a2 : Int) < (Int.ofNat a1.length))) (fun (x1 : Bool) => (if x1 = true then (chk [inb a2 a1.length] ((fnS (F35 K (⟨a0.fl⟩ : S62) (a1.getD (a2 : Int).toNat default))).bind (fun r2 => (some (.inr ((⟨r2.fl⟩ : S62))))))) else (some (.inr ((⟨a0.fl⟩ : S62)))))))

/-- (*governor/print.writer).otherwise -/
def F64 : (K : Nat) → (S62) → ((List (List S43))) → (Int) → (Bytes) → Option ((S62) ⊕ (S62))
 | 0, _, _, _, _ => none
 | K + 1, a0, a1, a2, a3 =>
 (letV (decide ((a2 : Int) < (Int.ofNat a1.length))) (fun (x1 : Bool) => (chk [!x1 || inb a2 a1.length] (letV (x1 && (decide (((Int.ofNat (a1.getD (a2 : Int).toNat default).length) : Int) > 0))) (fun (x2 : Bool) => (bindS (if x2 = true then ((fnS (F33 K (⟨a0.fl⟩ : S62) [([69, 76, 83, 69] : Bytes)])).bind (fun r6 => (chk [inb a2 a1.length] ((fnS (F35 K (⟨r6.fl⟩ : S62) (a1.getD (a2 : Int).toNat default))).bind (fun r7 => (some (.inr (r7.fl)))))))) else (some (.inr (a0.fl)))) (fun (u5 : (List Bytes)) => ((fnS (F33 K (⟨u5⟩ : S62) [a3])).bind (fun r8 => (some (.inr ((⟨r8.fl⟩ : S62)))))))))))))

end

theorem G35_ok : ∀ K : Nat, (∀ (a0 : S62), ∀ (a1 : (List S43)), DFun Tryd.prog 35 [.c (.ptr 0 0 0), .c (E43.tree a1)] [.cells [.own 1 a0.fl.length], E9.row a0.fl] (fnS (F35 K a0 a1)) (fun r => .tup []) (fun r => [.cells [.own 2 r.fl.length], .dead, E9.row r.fl])) ∧ (∀ (a0 : S62), ∀ (a1 : S43), DFun Tryd.prog 51 [.c (.ptr 0 0 0), .agg (E43.cs a1)] [.cells [.own 1 a0.fl.length], E9.row a0.fl] (fnS (F51 K a0 a1)) (fun r => .tup []) (fun r => [.cells [.own 2 r.fl.length], .dead, E9.row r.fl])) ∧ (∀ (a0 : S62), ∀ (a1 : S43), DFun Tryd.prog 56 [.c (.ptr 0 0 0), .agg (E43.cs a1)] [.cells [.own 1 a0.fl.length], E9.row a0.fl] (fnS (F56 K a0 a1)) (fun r => .tup []) (fun r => [.cells [.own 2 r.fl.length], .dead, E9.row r.fl])) ∧ (∀ (a0 : S62), ∀ (a1 : S43), DFun Tryd.prog 57 [.c (.ptr 0 0 0), .agg (E43.cs a1)] [.cells [.own 1 a0.fl.length], E9.row a0.fl] (fnS (F57 K a0 a1)) (fun r => .tup []) (fun r => [.cells [.own 2 r.fl.length], .dead, E9.row r.fl])) ∧ (∀ (a0 : S62), ∀ (a1 : (List (List S43))), ∀ (a2 : Int), DFun Tryd.prog 58 [.c (.ptr 0 0 0), .c (E44.tree a1), .c (.val (.int .i64 a2))] [.cells [.own 1 a0.fl.length], E9.row a0.fl] (fnS (F58 K a0 a1 a2)) (fun r => .tup []) (fun r => [.cells [.own 2 r.fl.length], .dead, E9.row r.fl])) ∧ (∀ (a0 : S62), ∀ (a1 : (List (List S43))), ∀ (a2 : Int), ∀ (a3 : Bytes), DFun Tryd.prog 64 [.c (.ptr 0 0 0), .c (E44.tree a1), .c (.val (.int .i64 a2)), .c (.str a3)] [.cells [.own 1 a0.fl.length], E9.row a0.fl] (fnS (F64 K a0 a1 a2 a3)) (fun r => .tup []) (fun r => [.cells [.own 2 r.fl.length], .dead, E9.row r.fl])) := by
 intro K
 induction K with
 | zero => exact ⟨fun a0 a1 => DFun.none (by rw [F35]; rfl), fun a0 a1 => DFun.none (by rw [F51]; rfl), fun a0 a1 => DFun.none (by rw [F56]; rfl), fun a0 a1 => DFun.none (by rw [F57]; rfl), fun a0 a1 a2 => DFun.none (by rw [F58]; rfl), fun a0 a1 a2 a3 => DFun.none (by rw [F64]; rfl)⟩
 | succ K ih =>
  obtain ⟨ih35, ih51, ih56, ih57, ih58, ih64⟩ := ih
  refine ⟨?_, ?_, ?_, ?_, ?_, ?_⟩

  ·
   intro a0 a1
   refine DFun.intro (fn := Tryd.f35) (c := cd (bd Tryd.f35) []) (rs := fun r => ⟨[], [.cells [.own 2 r.fl.length], .dead, E9.row r.fl], [], 2⟩) (by kernel_rfl) (by kernel_rfl) (by kernel_rfl) ?_ (fun r => by kernel_rfl) (fun r => by kernel_rfl) (fun r => by kernel_rfl) (fun r => by kernel_rfl)
   rw [F35]
   refine Ref.sq ?_
   refine Ref.rn 0 ?_
   refine RefR.e0 (st' := ⟨[sP 0 0 0 0, (6, .c (E43.tree a1)), sI 7 (Int.ofNat a1.length), sI 8 0], [.cells [.own 1 a0.fl.length], E9.row a0.fl], [], 2⟩) 0 3 3 [0, 6, 7, 8] [0, 1] ?_
   refine RefR.nl 3 ?_
   refine Ref.codeEq (c' := .block 0 (cd (bd Tryd.f35) [1, 0])) (by kernel_rfl) ?_
   refine Ref.block (go1 := fun u15 => ⟨[], [.cells [.own 2 u15.length], .dead, E9.row u15], [], 2⟩) ?_ (fun _ h => by cases h) (fun u15 => ?_)
   ·
    refine Ref.codeEq (c' := .loop (cd (bd Tryd.f35) [1, 0, 0])) (by kernel_rfl) ?_
    refine Ref.conv (Conv.move (st' := ⟨[sP 0 0 0 0, (6, .c (E43.tree a1)), sI 7 (Int.ofNat a1.length), sI 8 0], [.cells [.own 2 a0.fl.length], .dead, E9.row a0.fl], [], 2⟩) 1 (by kernel_rfl) (by kernel_rfl)) ?_
    refine Ref.loop (hd := fun u20 => ⟨[sP 0 0 0 0, (6, .c (E43.tree a1)), sI 7 (Int.ofNat a1.length), sI 8 u20.2], [.cells [.own 2 u20.1.length], .dead, E9.row u20.1], [], 2⟩) K (a0.fl, 0) (by kernel_rfl) (fun u20 => ?_)
    refine Ref.sq ?_
    refine Ref.rn 1 ?_
    refine RefR.e0 (st' := ⟨[sP 0 0 0 0, (6, .c (E43.tree a1)), sI 7 (Int.ofNat a1.length), sI 8 u20.2, sB 9 (decide ((u20.2 : Int) < (Int.ofNat a1.length)))], [.cells [.own 2 u20.1.length], .dead, E9.row u20.1], [], 2⟩) 0 1 1 [0, 6, 7, 8, 9] [0, 1, 2] ?_
    refine RefR.letC (stf := fun x26 => ⟨[sP 0 0 0 0, (6, .c (E43.tree a1)), sI 7 (Int.ofNat a1.length), sI 8 u20.2, sB 9 x26], [.cells [.own 2 u20.1.length], .dead, E9.row u20.1], [], 2⟩) (by kernel_rfl) (fun x26 => ?_)
    refine RefR.nl 1 ?_
    refine Ref.sq ?_
    refine Ref.cn (.tmp 9) x26 (fun hc => ?_) (fun hc => ?_)
    ·
     refine Ref.sk ?_
     refine Ref.sq ?_
     refine Ref.codeEq (c' := .block 1 (cd (bd Tryd.f35) [1, 0, 0, 1, 1, 0, 0])) (by kernel_rfl) ?_
     refine Ref.block (go1 := fun u28 => ⟨[sP 0 0 0 0, (6, .c (E43.tree a1)), sI 7 (Int.ofNat a1.length), sI 8 u20.2], [.cells [.own 2 u28.length], .dead, E9.row u28], [], 2⟩) ?_ (fun a => match a with | .inl _ => (fun h => by cases h) | .inr _ => (fun h => by cases h)) (fun u28 => ?_)
     ·
      refine Ref.sq ?_
      refine Ref.rn 2 ?_
      refine RefR.evC (vs := [inb u20.2 a1.length]) (st' := ⟨[sP 0 0 0 0, sP 5 3 0 0, (6, .c (E43.tree a1)), sI 7 (Int.ofNat a1.length), sI 8 u20.2], [.cells [.own 2 u20.1.length], .dead, E9.row u20.1, .cells (E43.cs (a1.getD (u20.2 : Int).toNat default))], [], 2⟩) 0 4 4 [0, 5, 6, 7, 8] [0, 1, 2, 3] rfl (by kernel_rfl) ?_
      refine RefR.nl 4 ?_
      refine Ref.rn 3 ?_
      refine RefR.e0 (st' := ⟨[sP 0 0 0 0, (6, .c (E43.tree a1)), sI 7 (Int.ofNat a1.length), sI 8 u20.2, sP 12 0 0 0, (13, .agg (E43.cs (a1.getD (u20.2 : Int).toNat default)))], [.cells [.own 2 u20.1.length], .dead, E9.row u20.1], [], 2⟩) 0 2 2 [0, 6, 7, 8, 12, 13] [0, 1, 2] ?_
      refine RefR.callC (t := 14) 2 3 [0, 2] rfl (by kernel_rfl) (ih51 (⟨u20.1⟩ : S62) (a1.getD (u20.2 : Int).toNat default)) (fun r29 => ?_)
      refine RefR.nl 3 ?_
      refine Ref.conv (Conv.keep (st' := ⟨[sP 0 0 0 0, (6, .c (E43.tree a1)), sI 7 (Int.ofNat a1.length), sI 8 u20.2], [.cells [.own 2 r29.fl.length], .dead, E9.row r29.fl], [], 2⟩) [0, 6, 7, 8] [0, 1, 3] (by kernel_rfl)) ?_
      exact Ref.n0 (t := (r29.fl))
     ·
      refine Ref.rn 4 ?_
      refine RefR.e0 (st' := ⟨[sP 0 0 0 0, (6, .c (E43.tree a1)), sI 7 (Int.ofNat a1.length), sI 8 (IntKind.i64.wrap (u20.2 + 1))], [.cells [.own 2 u28.length], .dead, E9.row u28], [], 2⟩) 0 2 2 [0, 6, 7, 8] [0, 1, 2] ?_
      refine RefR.nl 2 ?_
      exact Ref.n0 (t := (u28, (IntKind.i64.wrap (u20.2 + 1))))
    ·
     refine Ref.conv (Conv.keep (st' := ⟨[], [.cells [.own 2 u20.1.length], .dead, E9.row u20.1], [], 2⟩) [] [0, 1, 2] (by kernel_rfl)) ?_
     exact Ref.xt 0 (t := (Sum.inl (u20.1)))
   ·
    exact Ref.n0 (t := ((⟨u15⟩ : S62)))

  ·
   intro a0 a1
   refine DFun.intro (fn := Tryd.f51) (c := cd (bd Tryd.f51) []) (rs := fun r => ⟨[], [.cells [.own 2 r.fl.length], .dead, E9.row r.fl], [], 2⟩) (by kernel_rfl) (by kernel_rfl) (by kernel_rfl) ?_ (fun r => by kernel_rfl) (fun r => by kernel_rfl) (fun r => by kernel_rfl) (fun r => by kernel_rfl)
   rw [F51]
   refine Ref.sq ?_
   refine Ref.rn 0 ?_
   refine RefR.e0 (st' := ⟨[sP 0 0 0 0, sP 3 2 0 0], [.cells [.own 1 a0.fl.length], E9.row a0.fl, .cells (E43.cs a1)], [], 2⟩) 0 1 1 [0, 3] [0, 1, 2] ?_
   refine RefR.nl 1 ?_
   refine Ref.sq ?_
   refine Ref.sq ?_
   refine Ref.rn 1 ?_
   refine RefR.e0 (st' := ⟨[sP 0 0 0 0, sP 3 2 0 0, sI 5 a1.fKind], [.cells [.own 1 a0.fl.length], E9.row a0.fl, .cells (E43.cs a1)], [], 2⟩) 0 2 2 [0, 3, 5] [0, 1, 2] ?_
   refine RefR.nl 2 ?_
   refine Ref.codeEq (c' := .block 0 (cd (bd Tryd.f51) [1, 0, 1, 0])) (by kernel_rfl) ?_
   refine Ref.block (go1 := fun u13607 => ⟨[sP 0 0 0 0], [.cells [.own 2 u13607.length], .dead, E9.row u13607], [], 2⟩) ?_ (fun _ h => by cases h) (fun u13607 => ?_)
   ·
    refine Ref.sq ?_
    refine Ref.codeEq (c' := .block 12 (cd (bd Tryd.f51) [1, 0, 1, 0, 0, 0])) (by kernel_rfl) ?_
    refine Ref.block (go1 := fun u20410 => ⟨[sP 0 0 0 0], [.cells [.own 1 a0.fl.length], E9.row a0.fl], [], 2⟩) ?_ (fun a => match a with | .inl _ => (fun h => by cases h) | .inr _ => (fun h => by cases h)) (fun u20410 => ?_)
    ·
     refine Ref.sq ?_
     refine Ref.codeEq (c' := .block 11 (cd (bd Tryd.f51) [1, 0, 1, 0, 0, 0, 0, 0])) (by kernel_rfl) ?_
     refine Ref.block (go1 := fun u23809 => ⟨[sP 0 0 0 0, sP 3 2 0 0], [.cells [.own 1 a0.fl.length], E9.row a0.fl, .cells (E43.cs a1)], [], 2⟩) ?_ (fun a => match a with | .inl _ => (fun h => by cases h) | .inr (.inl _) => (fun h => by cases h) | .inr (.inr _) => (fun h => by cases h)) (fun u23809 => ?_)
     ·
      refine Ref.sq ?_
      refine Ref.codeEq (c' := .block 10 (cd (bd Tryd.f51) [1, 0, 1, 0, 0, 0, 0, 0, 0, 0])) (by kernel_rfl) ?_
      refine Ref.block (go1 := fun u25508 => ⟨[sP 0 0 0 0], [.cells [.own 1 a0.fl.length], E9.row a0.fl], [], 2⟩) ?_ (fun a => match a with | .inl _ => (fun h => by cases h) | .inr (.inl _) => (fun h => by cases h) | .inr (.inr (.inl _)) => (fun h => by cases h) | .inr (.inr (.inr _)) => (fun h => by cases h)) (fun u25508 => ?_)
      ·
       refine Ref.sq ?_
       refine Ref.codeEq (c' := .block 9 (cd (bd Tryd.f51) [1, 0, 1, 0, 0, 0, 0, 0, 0, 0, 0, 0])) (by kernel_rfl) ?_
       refine Ref.block (go1 := fun u26355 => ⟨[sP 0 0 0 0, sP 3 2 0 0], [.cells [.own 1 a0.fl.length], E9.row a0.fl, .cells (E43.cs a1)], [], 2⟩) ?_ (fun a => match a with | .inl _ => (fun h => by cases h) | .inr (.inl _) => (fun h => by cases h) | .inr (.inr (.inl _)) => (fun h => by cases h) | .inr (.inr (.inr (.inl _))) => (fun h => by cases h) | .inr (.inr (.inr (.inr _))) => (fun h => by cases h)) (fun u26355 => ?_)
       ·
        refine Ref.sq ?_
        refine Ref.codeEq (c' := .block 8 (cd (bd Tryd.f51) [1, 0, 1, 0, 0, 0, 0, 0, 0, 0, 0, 0, 0, 0])) (by kernel_rfl) ?_
        refine Ref.block (go1 := fun u26774 => ⟨[sP 0 0 0 0, sP 3 2 0 0], [.cells [.own 1 a0.fl.length], E9.row a0.fl, .cells (E43.cs a1)], [], 2⟩) ?_ (fun a => match a with | .inl _ => (fun h => by cases h) | .inr (.inl _) => (fun h => by cases h) | .inr (.inr (.inl _)) => (fun h => by cases h) | .inr (.inr (.inr (.inl _))) => (fun h => by cases h) | .inr (.inr (.inr (.inr (.inl _)))) => (fun h => by cases h) | .inr (.inr (.inr (.inr (.inr _)))) => (fun h => by cases h)) (fun u26774 => ?_)
        ·
         refine Ref.sq ?_
         refine Ref.codeEq (c' := .block 7 (cd (bd Tryd.f51) [1, 0, 1, 0, 0, 0, 0, 0, 0, 0, 0, 0, 0, 0, 0, 0])) (by kernel_rfl) ?_
         refine Ref.block (go1 := fun u26981 => ⟨[sP 0 0 0 0, sP 3 2 0 0], [.cells [.own 1 a0.fl.length], E9.row a0.fl, .cells (E43.cs a1)], [], 2⟩) ?_ (fun a => match a with | .inl _ => (fun h => by cases h) | .inr (.inl _) => (fun h => by cases h) | .inr (.inr (.inl _)) => (fun h => by cases h) | .inr (.inr (.inr (.inl _))) => (fun h => by cases h) | .inr (.inr (.inr (.inr (.inl _)))) => (fun h => by cases h) | .inr (.inr (.inr (.inr (.inr (.inl _))))) => (fun h => by cases h) | .inr (.inr (.inr (.inr (.inr (.inr _))))) => (fun h => by cases h)) (fun u26981 => ?_)
         ·
          refine Ref.sq ?_
          refine Ref.codeEq (c' := .block 6 (cd (bd Tryd.f51) [1, 0, 1, 0, 0, 0, 0, 0, 0, 0, 0, 0, 0, 0, 0, 0, 0, 0])) (by kernel_rfl) ?_
          refine Ref.block (go1 := fun u27084 => ⟨[sP 0 0 0 0, sP 3 2 0 0], [.cells [.own 1 a0.fl.length], E9.row a0.fl, .cells (E43.cs a1)], [], 2⟩) ?_ (fun a => match a with | .inl _ => (fun h => by cases h) | .inr (.inl _) => (fun h => by cases h) | .inr (.inr (.inl _)) => (fun h => by cases h) | .inr (.inr (.inr (.inl _))) => (fun h => by cases h) | .inr (.inr (.inr (.inr (.inl _)))) => (fun h => by cases h) | .inr (.inr (.inr (.inr (.inr (.inl _))))) => (fun h => by cases h) | .inr (.inr (.inr (.inr (.inr (.inr (.inl _)))))) => (fun h => by cases h) | .inr (.inr (.inr (.inr (.inr (.inr (.inr _)))))) => (fun h => by cases h)) (fun u27084 => ?_)
          ·
           refine Ref.sq ?_
           refine Ref.codeEq (c' := .block 5 (cd (bd Tryd.f51) [1, 0, 1, 0, 0, 0, 0, 0, 0, 0, 0, 0, 0, 0, 0, 0, 0, 0, 0, 0])) (by kernel_rfl) ?_
           refine Ref.block (go1 := fun u27135 => ⟨[sP 0 0 0 0, sP 3 2 0 0], [.cells [.own 1 a0.fl.length], E9.row a0.fl, .cells (E43.cs a1)], [], 2⟩) ?_ (fun a => match a with | .inl _ => (fun h => by cases h) | .inr (.inl _) => (fun h => by cases h) | .inr (.inr (.inl _)) => (fun h => by cases h) | .inr (.inr (.inr (.inl _))) => (fun h => by cases h) | .inr (.inr (.inr (.inr (.inl _)))) => (fun h => by cases h) | .inr (.inr (.inr (.inr (.inr (.inl _))))) => (fun h => by cases h) | .inr (.inr (.inr (.inr (.inr (.inr (.inl _)))))) => (fun h => by cases h) | .inr (.inr (.inr (.inr (.inr (.inr (.inr (.inl _))))))) => (fun h => by cases h) | .inr (.inr (.inr (.inr (.inr (.inr (.inr (.inr _))))))) => (fun h => by cases h)) (fun u27135 => ?_)
           ·
            refine Ref.sq ?_
            refine Ref.codeEq (c' := .block 4 (cd (bd Tryd.f51) [1, 0, 1, 0, 0, 0, 0, 0, 0, 0, 0, 0, 0, 0, 0, 0, 0, 0, 0, 0, 0, 0])) (by kernel_rfl) ?_
            refine Ref.block (go1 := fun u27160 => ⟨[sP 0 0 0 0, sP 3 3 0 0], [.cells [.own 2 u27160.length], .dead, E9.row u27160, .cells (E43.cs a1)], [], 2⟩) ?_ (fun a => match a with | .inl _ => (fun h => by cases h) | .inr (.inl _) => (fun h => by cases h) | .inr (.inr (.inl _)) => (fun h => by cases h) | .inr (.inr (.inr (.inl _))) => (fun h => by cases h) | .inr (.inr (.inr (.inr (.inl _)))) => (fun h => by cases h) | .inr (.inr (.inr (.inr (.inr (.inl _))))) => (fun h => by cases h) | .inr (.inr (.inr (.inr (.inr (.inr (.inl _)))))) => (fun h => by cases h) | .inr (.inr (.inr (.inr (.inr (.inr (.inr (.inl _))))))) => (fun h => by cases h) | .inr (.inr (.inr (.inr (.inr (.inr (.inr (.inr (.inl _)))))))) => (fun h => by cases h) | .inr (.inr (.inr (.inr (.inr (.inr (.inr (.inr (.inr _)))))))) => (fun h => by cases h)) (fun u27160 => ?_)
            ·
             refine Ref.sq ?_
             refine Ref.codeEq (c' := .block 3 (cd (bd Tryd.f51) [1, 0, 1, 0, 0, 0, 0, 0, 0, 0, 0, 0, 0, 0, 0, 0, 0, 0, 0, 0, 0, 0, 0, 0])) (by kernel_rfl) ?_
             refine Ref.block (go1 := fun u27172 => ⟨[sP 0 0 0 0, sP 3 2 0 0], [.cells [.own 1 a0.fl.length], E9.row a0.fl, .cells (E43.cs a1)], [], 2⟩) ?_ (fun a => match a with | .inl _ => (fun h => by cases h) | .inr (.inl _) => (fun h => by cases h) | .inr (.inr (.inl _)) => (fun h => by cases h) | .inr (.inr (.inr (.inl _))) => (fun h => by cases h) | .inr (.inr (.inr (.inr (.inl _)))) => (fun h => by cases h) | .inr (.inr (.inr (.inr (.inr (.inl _))))) => (fun h => by cases h) | .inr (.inr (.inr (.inr (.inr (.inr (.inl _)))))) => (fun h => by cases h) | .inr (.inr (.inr (.inr (.inr (.inr (.inr (.inl _))))))) => (fun h => by cases h) | .inr (.inr (.inr (.inr (.inr (.inr (.inr (.inr (.inl _)))))))) => (fun h => by cases h) | .inr (.inr (.inr (.inr (.inr (.inr (.inr (.inr (.inr (.inl _))))))))) => (fun h => by cases h) | .inr (.inr (.inr (.inr (.inr (.inr (.inr (.inr (.inr (.inr _))))))))) => (fun h => by cases h)) (fun u27172 => ?_)
             ·
              refine Ref.sq ?_
              refine Ref.codeEq (c' := .block 2 (cd (bd Tryd.f51) [1, 0, 1, 0, 0, 0, 0, 0, 0, 0, 0, 0, 0, 0, 0, 0, 0, 0, 0, 0, 0, 0, 0, 0, 0, 0])) (by kernel_rfl) ?_
              refine Ref.block (go1 := fun u27176 => ⟨[sP 0 0 0 0, sP 3 2 0 0], [.cells [.own 1 a0.fl.length], E9.row a0.fl, .cells (E43.cs a1)], [], 2⟩) ?_ (fun a => match a with | .inl _ => (fun h => by cases h) | .inr (.inl _) => (fun h => by cases h) | .inr (.inr (.inl _)) => (fun h => by cases h) | .inr (.inr (.inr (.inl _))) => (fun h => by cases h) | .inr (.inr (.inr (.inr (.inl _)))) => (fun h => by cases h) | .inr (.inr (.inr (.inr (.inr (.inl _))))) => (fun h => by cases h) | .inr (.inr (.inr (.inr (.inr (.inr (.inl _)))))) => (fun h => by cases h) | .inr (.inr (.inr (.inr (.inr (.inr (.inr (.inl _))))))) => (fun h => by cases h) | .inr (.inr (.inr (.inr (.inr (.inr (.inr (.inr (.inl _)))))))) => (fun h => by cases h) | .inr (.inr (.inr (.inr (.inr (.inr (.inr (.inr (.inr (.inl _))))))))) => (fun h => by cases h) | .inr (.inr (.inr (.inr (.inr (.inr (.inr (.inr (.inr (.inr (.inl _)))))))))) => (fun h => by cases h) | .inr (.inr (.inr (.inr (.inr (.inr (.inr (.inr (.inr (.inr (.inr _)))))))))) => (fun h => by cases h)) (fun u27176 => ?_)
              ·
               refine Ref.sq ?_
               refine Ref.codeEq (c' := .block 1 (cd (bd Tryd.f51) [1, 0, 1, 0, 0, 0, 0, 0, 0, 0, 0, 0, 0, 0, 0, 0, 0, 0, 0, 0, 0, 0, 0, 0, 0, 0, 0, 0])) (by kernel_rfl) ?_
               refine Ref.block (go1 := fun u27177 => ⟨[sP 0 0 0 0, sP 3 2 0 0], [.cells [.own 1 a0.fl.length], E9.row a0.fl, .cells (E43.cs a1)], [], 2⟩) ?_ (fun a => match a with | .inl _ => (fun h => by cases h) | .inr (.inl _) => (fun h => by cases h) | .inr (.inr (.inl _)) => (fun h => by cases h) | .inr (.inr (.inr (.inl _))) => (fun h => by cases h) | .inr (.inr (.inr (.inr (.inl _)))) => (fun h => by cases h) | .inr (.inr (.inr (.inr (.inr (.inl _))))) => (fun h => by cases h) | .inr (.inr (.inr (.inr (.inr (.inr (.inl _)))))) => (fun h => by cases h) | .inr (.inr (.inr (.inr (.inr (.inr (.inr (.inl _))))))) => (fun h => by cases h) | .inr (.inr (.inr (.inr (.inr (.inr (.inr (.inr (.inl _)))))))) => (fun h => by cases h) | .inr (.inr (.inr (.inr (.inr (.inr (.inr (.inr (.inr (.inl _))))))))) => (fun h => by cases h) | .inr (.inr (.inr (.inr (.inr (.inr (.inr (.inr (.inr (.inr (.inl _)))))))))) => (fun h => by cases h) | .inr (.inr (.inr (.inr (.inr (.inr (.inr (.inr (.inr (.inr (.inr (.inl _))))))))))) => (fun h => by cases h) | .inr (.inr (.inr (.inr (.inr (.inr (.inr (.inr (.inr (.inr (.inr (.inr _))))))))))) => (fun h => by cases h)) (fun u27177 => ?_)
               ·
                refine Ref.sq ?_
                refine Ref.sq ?_
                refine Ref.sq ?_
                refine Ref.rn 2 ?_
                refine RefR.e0 (st' := ⟨[sP 0 0 0 0, sP 3 2 0 0, sI 5 a1.fKind, sB 6 ((a1.fKind : Int) == 1)], [.cells [.own 1 a0.fl.length], E9.row a0.fl, .cells (E43.cs a1)], [], 2⟩) 0 2 2 [0, 3, 5, 6] [0, 1, 2] ?_
                refine RefR.nl 2 ?_
                refine Ref.cn (.tmp 6) ((a1.fKind : Int) == 1) (fun hc => ?_) (fun hc => ?_)
                ·
                 refine Ref.conv (Conv.keep (st' := ⟨[sP 0 0 0 0, sP 3 2 0 0], [.cells [.own 1 a0.fl.length], E9.row a0.fl, .cells (E43.cs a1)], [], 2⟩) [0, 3] [0, 1, 2] (by kernel_rfl)) ?_
                 exact Ref.xt 1 (t := (Sum.inl ()))
                ·
                 refine Ref.sk ?_
                 refine Ref.sq ?_
                 refine Ref.sq ?_
                 refine Ref.rn 3 ?_
                 refine RefR.e0 (st' := ⟨[sP 0 0 0 0, sP 3 2 0 0, sI 5 a1.fKind, sB 8 ((a1.fKind : Int) == 2)], [.cells [.own 1 a0.fl.length], E9.row a0.fl, .cells (E43.cs a1)], [], 2⟩) 0 2 2 [0, 3, 5, 8] [0, 1, 2] ?_
                 refine RefR.nl 2 ?_
                 refine Ref.cn (.tmp 8) ((a1.fKind : Int) == 2) (fun hc => ?_) (fun hc => ?_)
                 ·
                  refine Ref.conv (Conv.keep (st' := ⟨[sP 0 0 0 0, sP 3 2 0 0], [.cells [.own 1 a0.fl.length], E9.row a0.fl, .cells (E43.cs a1)], [], 2⟩) [0, 3] [0, 1, 2] (by kernel_rfl)) ?_
                  exact Ref.xt 2 (t := (Sum.inr (Sum.inl ())))
                 ·
                  refine Ref.sk ?_
                  refine Ref.sq ?_
                  refine Ref.sq ?_
                  refine Ref.rn 4 ?_
                  refine RefR.e0 (st' := ⟨[sP 0 0 0 0, sP 3 2 0 0, sI 5 a1.fKind, sB 10 ((a1.fKind : Int) == 3)], [.cells [.own 1 a0.fl.length], E9.row a0.fl, .cells (E43.cs a1)], [], 2⟩) 0 2 2 [0, 3, 5, 10] [0, 1, 2] ?_
                  refine RefR.nl 2 ?_
                  refine Ref.cn (.tmp 10) ((a1.fKind : Int) == 3) (fun hc => ?_) (fun hc => ?_)
                  ·
                   refine Ref.conv (Conv.keep (st' := ⟨[sP 0 0 0 0, sP 3 2 0 0], [.cells [.own 1 a0.fl.length], E9.row a0.fl, .cells (E43.cs a1)], [], 2⟩) [0, 3] [0, 1, 2] (by kernel_rfl)) ?_
                   exact Ref.xt 3 (t := (Sum.inr (Sum.inr (Sum.inl ()))))
                  ·
                   refine Ref.sk ?_
                   refine Ref.sq ?_
                   refine Ref.sq ?_
                   refine Ref.rn 5 ?_
                   refine RefR.e0 (st' := ⟨[sP 0 0 0 0, sP 3 2 0 0, sI 5 a1.fKind, sB 12 ((a1.fKind : Int) == 4)], [.cells [.own 1 a0.fl.length], E9.row a0.fl, .cells (E43.cs a1)], [], 2⟩) 0 2 2 [0, 3, 5, 12] [0, 1, 2] ?_
                   refine RefR.nl 2 ?_
                   refine Ref.cn (.tmp 12) ((a1.fKind : Int) == 4) (fun hc => ?_) (fun hc => ?_)
                   ·
                    refine Ref.conv (Conv.move (st' := ⟨[sP 0 0 0 0, sP 3 2 0 0, sI 5 a1.fKind, sB 12 ((a1.fKind : Int) == 4)], [.cells [.own 3 a0.fl.length], .dead, .cells (E43.cs a1), E9.row a0.fl], [], 2⟩) 1 (by kernel_rfl) (by kernel_rfl)) ?_
                    refine Ref.conv (Conv.keep (st' := ⟨[sP 0 0 0 0, sP 3 3 0 0], [.cells [.own 2 a0.fl.length], .dead, E9.row a0.fl, .cells (E43.cs a1)], [], 2⟩) [0, 3] [0, 1, 3, 2] (by kernel_rfl)) ?_
                    exact Ref.xt 4 (t := (Sum.inr (Sum.inr (Sum.inr (Sum.inl (a0.fl))))))
                   ·
                    refine Ref.sk ?_
                    refine Ref.sq ?_
                    refine Ref.sq ?_
                    refine Ref.rn 6 ?_
                    refine RefR.e0 (st' := ⟨[sP 0 0 0 0, sP 3 2 0 0, sI 5 a1.fKind, sB 14 ((a1.fKind : Int) == 5)], [.cells [.own 1 a0.fl.length], E9.row a0.fl, .cells (E43.cs a1)], [], 2⟩) 0 2 2 [0, 3, 5, 14] [0, 1, 2] ?_
                    refine RefR.nl 2 ?_
                    refine Ref.cn (.tmp 14) ((a1.fKind : Int) == 5) (fun hc => ?_) (fun hc => ?_)
                    ·
                     refine Ref.conv (Conv.keep (st' := ⟨[sP 0 0 0 0, sP 3 2 0 0], [.cells [.own 1 a0.fl.length], E9.row a0.fl, .cells (E43.cs a1)], [], 2⟩) [0, 3] [0, 1, 2] (by kernel_rfl)) ?_
                     exact Ref.xt 5 (t := (Sum.inr (Sum.inr (Sum.inr (Sum.inr (Sum.inl ()))))))
                    ·
                     refine Ref.sk ?_
                     refine Ref.sq ?_
                     refine Ref.sq ?_
                     refine Ref.rn 7 ?_
                     refine RefR.e0 (st' := ⟨[sP 0 0 0 0, sP 3 2 0 0, sI 5 a1.fKind, sB 16 ((a1.fKind : Int) == 6)], [.cells [.own 1 a0.fl.length], E9.row a0.fl, .cells (E43.cs a1)], [], 2⟩) 0 2 2 [0, 3, 5, 16] [0, 1, 2] ?_
                     refine RefR.nl 2 ?_
                     refine Ref.cn (.tmp 16) ((a1.fKind : Int) == 6) (fun hc => ?_) (fun hc => ?_)
                     ·
                      refine Ref.conv (Conv.keep (st' := ⟨[sP 0 0 0 0, sP 3 2 0 0], [.cells [.own 1 a0.fl.length], E9.row a0.fl, .cells (E43.cs a1)], [], 2⟩) [0, 3] [0, 1, 2] (by kernel_rfl)) ?_
                      exact Ref.xt 6 (t := (Sum.inr (Sum.inr (Sum.inr (Sum.inr (Sum.inr (Sum.inl ())))))))
                     ·
                      refine Ref.sk ?_
                      refine Ref.sq ?_
                      refine Ref.sq ?_
                      refine Ref.rn 8 ?_
                      refine RefR.e0 (st' := ⟨[sP 0 0 0 0, sP 3 2 0 0, sI 5 a1.fKind, sB 18 ((a1.fKind : Int) == 7)], [.cells [.own 1 a0.fl.length], E9.row a0.fl, .cells (E43.cs a1)], [], 2⟩) 0 2 2 [0, 3, 5, 18] [0, 1, 2] ?_
                      refine RefR.nl 2 ?_
                      refine Ref.cn (.tmp 18) ((a1.fKind : Int) == 7) (fun hc => ?_) (fun hc => ?_)
                      ·
                       refine Ref.conv (Conv.keep (st' := ⟨[sP 0 0 0 0, sP 3 2 0 0], [.cells [.own 1 a0.fl.length], E9.row a0.fl, .cells (E43.cs a1)], [], 2⟩) [0, 3] [0, 1, 2] (by kernel_rfl)) ?_
                       exact Ref.xt 7 (t := (Sum.inr (Sum.inr (Sum.inr (Sum.inr (Sum.inr (Sum.inr (Sum.inl ()))))))))
                      ·
                       refine Ref.sk ?_
                       refine Ref.sq ?_
                       refine Ref.sq ?_
                       refine Ref.rn 9 ?_
                       refine RefR.e0 (st' := ⟨[sP 0 0 0 0, sP 3 2 0 0, sI 5 a1.fKind, sB 20 ((a1.fKind : Int) == 8)], [.cells [.own 1 a0.fl.length], E9.row a0.fl, .cells (E43.cs a1)], [], 2⟩) 0 2 2 [0, 3, 5, 20] [0, 1, 2] ?_
                       refine RefR.nl 2 ?_
                       refine Ref.cn (.tmp 20) ((a1.fKind : Int) == 8) (fun hc => ?_) (fun hc => ?_)
                       ·
                        refine Ref.conv (Conv.keep (st' := ⟨[sP 0 0 0 0, sP 3 2 0 0], [.cells [.own 1 a0.fl.length], E9.row a0.fl, .cells (E43.cs a1)], [], 2⟩) [0, 3] [0, 1, 2] (by kernel_rfl)) ?_
                        exact Ref.xt 8 (t := (Sum.inr (Sum.inr (Sum.inr (Sum.inr (Sum.inr (Sum.inr (Sum.inr (Sum.inl ())))))))))
                       ·
                        refine Ref.sk ?_
                        refine Ref.sq ?_
                        refine Ref.sq ?_
                        refine Ref.rn 10 ?_
                        refine RefR.e0 (st' := ⟨[sP 0 0 0 0, sP 3 2 0 0, sI 5 a1.fKind, sB 22 ((a1.fKind : Int) == 9)], [.cells [.own 1 a0.fl.length], E9.row a0.fl, .cells (E43.cs a1)], [], 2⟩) 0 2 2 [0, 3, 5, 22] [0, 1, 2] ?_
                        refine RefR.nl 2 ?_
                        refine Ref.cn (.tmp 22) ((a1.fKind : Int) == 9) (fun hc => ?_) (fun hc => ?_)
                        ·
                         refine Ref.conv (Conv.keep (st' := ⟨[sP 0 0 0 0, sP 3 2 0 0], [.cells [.own 1 a0.fl.length], E9.row a0.fl, .cells (E43.cs a1)], [], 2⟩) [0, 3] [0, 1, 2] (by kernel_rfl)) ?_
                         exact Ref.xt 9 (t := (Sum.inr (Sum.inr (Sum.inr (Sum.inr (Sum.inr (Sum.inr (Sum.inr (Sum.inr (Sum.inl ()))))))))))
                        ·
                         refine Ref.sk ?_
                         refine Ref.sq ?_
                         refine Ref.sq ?_
                         refine Ref.rn 11 ?_
                         refine RefR.e0 (st' := ⟨[sP 0 0 0 0, sP 3 2 0 0, sI 5 a1.fKind, sB 24 ((a1.fKind : Int) == 10)], [.cells [.own 1 a0.fl.length], E9.row a0.fl, .cells (E43.cs a1)], [], 2⟩) 0 2 2 [0, 3, 5, 24] [0, 1, 2] ?_
                         refine RefR.nl 2 ?_
                         refine Ref.cn (.tmp 24) ((a1.fKind : Int) == 10) (fun hc => ?_) (fun hc => ?_)
                         ·
                          refine Ref.conv (Conv.keep (st' := ⟨[sP 0 0 0 0], [.cells [.own 1 a0.fl.length], E9.row a0.fl], [], 2⟩) [0] [0, 1] (by kernel_rfl)) ?_
                          exact Ref.xt 10 (t := (Sum.inr (Sum.inr (Sum.inr (Sum.inr (Sum.inr (Sum.inr (Sum.inr (Sum.inr (Sum.inr (Sum.inl ())))))))))))
                         ·
                          refine Ref.sk ?_
                          refine Ref.sq ?_
                          refine Ref.rn 12 ?_
                          refine RefR.e0 (st' := ⟨[sP 0 0 0 0, sP 3 2 0 0, sB 26 ((a1.fKind : Int) == 11)], [.cells [.own 1 a0.fl.length], E9.row a0.fl, .cells (E43.cs a1)], [], 2⟩) 0 2 2 [0, 3, 26] [0, 1, 2] ?_
                          refine RefR.nl 2 ?_
                          refine Ref.cn (.tmp 26) ((a1.fKind : Int) == 11) (fun hc => ?_) (fun hc => ?_)
                          ·
                           refine Ref.conv (Conv.keep (st' := ⟨[sP 0 0 0 0, sP 3 2 0 0], [.cells [.own 1 a0.fl.length], E9.row a0.fl, .cells (E43.cs a1)], [], 2⟩) [0, 3] [0, 1, 2] (by kernel_rfl)) ?_
                           exact Ref.xt 11 (t := (Sum.inr (Sum.inr (Sum.inr (Sum.inr (Sum.inr (Sum.inr (Sum.inr (Sum.inr (Sum.inr (Sum.inr (Sum.inl ()))))))))))))
                          ·
                           refine Ref.sk ?_
                           refine Ref.conv (Conv.keep (st' := ⟨[sP 0 0 0 0], [.cells [.own 1 a0.fl.length], E9.row a0.fl], [], 2⟩) [0] [0, 1] (by kernel_rfl)) ?_
                           exact Ref.xt 12 (t := (Sum.inr (Sum.inr (Sum.inr (Sum.inr (Sum.inr (Sum.inr (Sum.inr (Sum.inr (Sum.inr (Sum.inr (Sum.inr (Sum.inl ())))))))))))))
               ·
                refine Ref.sq ?_
                refine Ref.sq ?_
                refine Ref.rn 13 ?_
                refine RefR.e0 (st' := ⟨[sP 0 0 0 0, sP 3 2 0 0, sP 28 0 0 0, sS 30 a1.fName], [.cells [.own 1 a0.fl.length], E9.row a0.fl, .cells (E43.cs a1)], [], 2⟩) 0 3 3 [0, 3, 28, 30] [0, 1, 2] ?_
                refine RefR.e0 (st' := ⟨[sP 0 0 0 0, sP 3 2 0 0, sP 28 0 0 0, (31, .c (.own 3 2))], [.cells [.own 1 a0.fl.length], E9.row a0.fl, .cells (E43.cs a1), .row 9 1 2 (tbl [[.str a1.fName], [.str ([58, 61] : Bytes)]])], [], 2⟩) 3 1 4 [0, 3, 28, 31] [0, 1, 2, 3] ?_
                refine RefR.conv (Conv.obj 3 (E9.row [a1.fName, ([58, 61] : Bytes)]) (El.row_build E9 [a1.fName, ([58, 61] : Bytes)] rfl (by kernel_rfl)) (by kernel_rfl)) ?_
                refine RefR.conv (Conv.slot 31 (.c (.own 3 ([a1.fName, ([58, 61] : Bytes)].length))) (DLe.c (CLe.own (by simp <;> omega))) (by kernel_rfl)) ?_
                refine RefR.conv (Conv.freeze (st' := ⟨[(31, .c (E9.tree [a1.fName, ([58, 61] : Bytes)])), sP 0 0 0 0, sP 3 2 0 0, sP 28 0 0 0], [.cells [.own 1 a0.fl.length], E9.row a0.fl, .cells (E43.cs a1), .dead], [], 2⟩) 3 (by kernel_rfl)) ?_
                refine RefR.callC (t := 32) 4 5 [0, 1] rfl (by kernel_rfl) (F33_ok K (⟨a0.fl⟩ : S62) [a1.fName, ([58, 61] : Bytes)]) (fun r27178 => ?_)
                refine RefR.nl 5 ?_
                refine Ref.rn 14 ?_
                refine RefR.e0 (st' := ⟨[sP 0 0 0 0, sP 33 0 0 0, (35, .c (E27.tree a1.fExprs))], [.cells [.own 2 r27178.fl.length], .dead, E9.row r27178.fl], [], 2⟩) 0 3 3 [0, 33, 35] [0, 1, 4] ?_
                refine RefR.callC (t := 36) 3 4 [0, 2] rfl (by kernel_rfl) (F44_ok K (⟨r27178.fl⟩ : S62) a1.fExprs 0) (fun r27179 => ?_)
                refine RefR.nl 4 ?_
                refine Ref.conv (Conv.keep (st' := ⟨[sP 0 0 0 0], [.cells [.own 2 r27179.fl.length], .dead, E9.row r27179.fl], [], 2⟩) [0] [0, 1, 3] (by kernel_rfl)) ?_
                exact Ref.xt 0 (t := (Sum.inr (Sum.inr (Sum.inr (Sum.inr (Sum.inr (Sum.inr (Sum.inr (Sum.inr (Sum.inr (Sum.inr (Sum.inr (Sum.inl (r27179.fl))))))))))))))
              ·
               refine Ref.sq ?_
               refine Ref.sq ?_
               refine Ref.rn 15 ?_
               refine RefR.e0 (st' := ⟨[sP 0 0 0 0, sP 3 2 0 0, sP 37 0 0 0, sS 39 a1.fName], [.cells [.own 1 a0.fl.length], E9.row a0.fl, .cells (E43.cs a1)], [], 2⟩) 0 3 3 [0, 3, 37, 39] [0, 1, 2] ?_
               refine RefR.e0 (st' := ⟨[sP 0 0 0 0, sP 3 2 0 0, sP 37 0 0 0, (40, .c (.own 3 2))], [.cells [.own 1 a0.fl.length], E9.row a0.fl, .cells (E43.cs a1), .row 9 1 2 (tbl [[.str a1.fName], [.str ([91] : Bytes)]])], [], 2⟩) 3 1 4 [0, 3, 37, 40] [0, 1, 2, 3] ?_
               refine RefR.conv (Conv.obj 3 (E9.row [a1.fName, ([91] : Bytes)]) (El.row_build E9 [a1.fName, ([91] : Bytes)] rfl (by kernel_rfl)) (by kernel_rfl)) ?_
               refine RefR.conv (Conv.slot 40 (.c (.own 3 ([a1.fName, ([91] : Bytes)].length))) (DLe.c (CLe.own (by simp <;> omega))) (by kernel_rfl)) ?_
               refine RefR.conv (Conv.freeze (st' := ⟨[(40, .c (E9.tree [a1.fName, ([91] : Bytes)])), sP 0 0 0 0, sP 3 2 0 0, sP 37 0 0 0], [.cells [.own 1 a0.fl.length], E9.row a0.fl, .cells (E43.cs a1), .dead], [], 2⟩) 3 (by kernel_rfl)) ?_
               refine RefR.callC (t := 41) 4 5 [0, 1] rfl (by kernel_rfl) (F33_ok K (⟨a0.fl⟩ : S62) [a1.fName, ([91] : Bytes)]) (fun r27180 => ?_)
               refine RefR.nl 5 ?_
               refine Ref.sq ?_
               refine Ref.rn 16 ?_
               refine RefR.e0 (st' := ⟨[sP 0 0 0 0, sP 3 2 0 0, sP 42 0 0 0, (44, .c (E27.tree a1.fExprs))], [.cells [.own 3 r27180.fl.length], .dead, .cells (E43.cs a1), E9.row r27180.fl], [], 2⟩) 0 3 3 [0, 3, 42, 44] [0, 1, 2, 4] ?_
               refine RefR.callC (t := 45) 3 4 [0, 3] rfl (by kernel_rfl) (F44_ok K (⟨r27180.fl⟩ : S62) a1.fExprs 0) (fun r27181 => ?_)
               refine RefR.nl 4 ?_
               refine Ref.sq ?_
               refine Ref.rn 17 ?_
               refine RefR.e0 (st' := ⟨[sP 0 0 0 0, sP 3 2 0 0, sP 46 0 0 0], [.cells [.own 3 r27181.fl.length], .dead, .cells (E43.cs a1), E9.row r27181.fl], [], 2⟩) 0 1 1 [0, 3, 46] [0, 1, 2, 4] ?_
               refine RefR.e0 (st' := ⟨[sP 0 0 0 0, sP 3 2 0 0, sP 46 0 0 0, (47, .c (.own 4 2))], [.cells [.own 3 r27181.fl.length], .dead, .cells (E43.cs a1), E9.row r27181.fl, .row 9 1 2 (tbl [[.str ([93] : Bytes)], [.str ([58, 61] : Bytes)]])], [], 2⟩) 1 1 2 [0, 3, 46, 47] [0, 1, 2, 3, 4] ?_
               refine RefR.conv (Conv.obj 4 (E9.row [([93] : Bytes), ([58, 61] : Bytes)]) (El.row_build E9 [([93] : Bytes), ([58, 61] : Bytes)] rfl (by kernel_rfl)) (by kernel_rfl)) ?_
               refine RefR.conv (Conv.slot 47 (.c (.own 4 ([([93] : Bytes), ([58, 61] : Bytes)].length))) (DLe.c (CLe.own (by simp <;> omega))) (by kernel_rfl)) ?_
               refine RefR.conv (Conv.freeze (st' := ⟨[(47, .c (E9.tree [([93] : Bytes), ([58, 61] : Bytes)])), sP 0 0 0 0, sP 3 2 0 0, sP 46 0 0 0], [.cells [.own 3 r27181.fl.length], .dead, .cells (E43.cs a1), E9.row r27181.fl, .dead], [], 2⟩) 4 (by kernel_rfl)) ?_
               refine RefR.callC (t := 48) 2 3 [0, 3] rfl (by kernel_rfl) (F33_ok K (⟨r27181.fl⟩ : S62) [([93] : Bytes), ([58, 61] : Bytes)]) (fun r27182 => ?_)
               refine RefR.nl 3 ?_
               refine Ref.rn 18 ?_
               refine RefR.e0 (st' := ⟨[sP 0 0 0 0, sP 49 0 0 0, (51, .c (E27.tree a1.fExprs))], [.cells [.own 2 r27182.fl.length], .dead, E9.row r27182.fl], [], 2⟩) 0 3 3 [0, 49, 51] [0, 1, 5] ?_
               refine RefR.callC (t := 52) 3 4 [0, 2] rfl (by kernel_rfl) (F44_ok K (⟨r27182.fl⟩ : S62) a1.fExprs 1) (fun r27183 => ?_)
               refine RefR.nl 4 ?_
               refine Ref.conv (Conv.keep (st' := ⟨[sP 0 0 0 0], [.cells [.own 2 r27183.fl.length], .dead, E9.row r27183.fl], [], 2⟩) [0] [0, 1, 3] (by kernel_rfl)) ?_
               exact Ref.xt 0 (t := (Sum.inr (Sum.inr (Sum.inr (Sum.inr (Sum.inr (Sum.inr (Sum.inr (Sum.inr (Sum.inr (Sum.inr (Sum.inl (r27183.fl)))))))))))))
             ·
              refine Ref.rn 19 ?_
              refine RefR.e0 (st' := ⟨[sP 0 0 0 0, sP 3 2 0 0, sP 53 0 0 0, sS 55 a1.fName], [.cells [.own 1 a0.fl.length], E9.row a0.fl, .cells (E43.cs a1)], [], 2⟩) 0 3 3 [0, 3, 53, 55] [0, 1, 2] ?_
              refine RefR.e0 (st' := ⟨[sP 0 0 0 0, sP 3 2 0 0, sP 53 0 0 0, (56, .c (.own 3 2))], [.cells [.own 1 a0.fl.length], E9.row a0.fl, .cells (E43.cs a1), .row 9 1 2 (tbl [[.str a1.fName], [.str ([63, 61] : Bytes)]])], [], 2⟩) 3 1 4 [0, 3, 53, 56] [0, 1, 2, 3] ?_
              refine RefR.conv (Conv.obj 3 (E9.row [a1.fName, ([63, 61] : Bytes)]) (El.row_build E9 [a1.fName, ([63, 61] : Bytes)] rfl (by kernel_rfl)) (by kernel_rfl)) ?_
              refine RefR.conv (Conv.slot 56 (.c (.own 3 ([a1.fName, ([63, 61] : Bytes)].length))) (DLe.c (CLe.own (by simp <;> omega))) (by kernel_rfl)) ?_
              refine RefR.conv (Conv.freeze (st' := ⟨[(56, .c (E9.tree [a1.fName, ([63, 61] : Bytes)])), sP 0 0 0 0, sP 3 2 0 0, sP 53 0 0 0], [.cells [.own 1 a0.fl.length], E9.row a0.fl, .cells (E43.cs a1), .dead], [], 2⟩) 3 (by kernel_rfl)) ?_
              refine RefR.callC (t := 57) 4 5 [0, 1] rfl (by kernel_rfl) (F33_ok K (⟨a0.fl⟩ : S62) [a1.fName, ([63, 61] : Bytes)]) (fun r27184 => ?_)
              refine RefR.nl 5 ?_
              refine Ref.conv (Conv.keep (st' := ⟨[sP 0 0 0 0, sP 3 3 0 0], [.cells [.own 2 r27184.fl.length], .dead, E9.row r27184.fl, .cells (E43.cs a1)], [], 2⟩) [0, 3] [0, 1, 4, 2] (by kernel_rfl)) ?_
              exact Ref.n0 (t := (r27184.fl))
            ·
             refine Ref.sq ?_
             refine Ref.rn 20 ?_
             refine RefR.e0 (st' := ⟨[sP 0 0 0 0, sP 58 0 0 0, (60, .c (E27.tree a1.fExprs))], [.cells [.own 2 u27160.length], .dead, E9.row u27160], [], 2⟩) 0 3 3 [0, 58, 60] [0, 1, 2] ?_
             refine RefR.callC (t := 61) 3 4 [0, 2] rfl (by kernel_rfl) (F44_ok K (⟨u27160⟩ : S62) a1.fExprs 0) (fun r27185 => ?_)
             refine RefR.nl 4 ?_
             refine Ref.conv (Conv.keep (st' := ⟨[sP 0 0 0 0], [.cells [.own 2 r27185.fl.length], .dead, E9.row r27185.fl], [], 2⟩) [0] [0, 1, 3] (by kernel_rfl)) ?_
             exact Ref.xt 0 (t := (Sum.inr (Sum.inr (Sum.inr (Sum.inr (Sum.inr (Sum.inr (Sum.inr (Sum.inr (Sum.inl (r27185.fl)))))))))))
           ·
            refine Ref.sq ?_
            refine Ref.rn 21 ?_
            refine RefR.e0 (st' := ⟨[sP 0 0 0 0, sP 62 0 0 0, (63, .agg (E43.cs a1))], [.cells [.own 1 a0.fl.length], E9.row a0.fl], [], 2⟩) 0 2 2 [0, 62, 63] [0, 1] ?_
            refine RefR.callC (t := 64) 2 3 [0, 1] rfl (by kernel_rfl) (ih56 (⟨a0.fl⟩ : S62) a1) (fun r27186 => ?_)
            refine RefR.nl 3 ?_
            refine Ref.conv (Conv.keep (st' := ⟨[sP 0 0 0 0], [.cells [.own 2 r27186.fl.length], .dead, E9.row r27186.fl], [], 2⟩) [0] [0, 1, 2] (by kernel_rfl)) ?_
            exact Ref.xt 0 (t := (Sum.inr (Sum.inr (Sum.inr (Sum.inr (Sum.inr (Sum.inr (Sum.inr (Sum.inl (r27186.fl))))))))))
          ·
           refine Ref.sq ?_
           refine Ref.rn 22 ?_
           refine RefR.e0 (st' := ⟨[sP 0 0 0 0, sP 65 0 0 0, (66, .agg (E43.cs a1))], [.cells [.own 1 a0.fl.length], E9.row a0.fl], [], 2⟩) 0 2 2 [0, 65, 66] [0, 1] ?_
           refine RefR.callC (t := 67) 2 3 [0, 1] rfl (by kernel_rfl) (ih57 (⟨a0.fl⟩ : S62) a1) (fun r27187 => ?_)
           refine RefR.nl 3 ?_
           refine Ref.conv (Conv.keep (st' := ⟨[sP 0 0 0 0], [.cells [.own 2 r27187.fl.length], .dead, E9.row r27187.fl], [], 2⟩) [0] [0, 1, 2] (by kernel_rfl)) ?_
           exact Ref.xt 0 (t := (Sum.inr (Sum.inr (Sum.inr (Sum.inr (Sum.inr (Sum.inr (Sum.inl (r27187.fl)))))))))
         ·
          refine Ref.sq ?_
          refine Ref.sq ?_
          refine Ref.rn 23 ?_
          refine RefR.e0 (st' := ⟨[sP 0 0 0 0, sP 3 2 0 0, sP 68 0 0 0], [.cells [.own 1 a0.fl.length], E9.row a0.fl, .cells (E43.cs a1)], [], 2⟩) 0 1 1 [0, 3, 68] [0, 1, 2] ?_
          refine RefR.e0 (st' := ⟨[sP 0 0 0 0, sP 3 2 0 0, sP 68 0 0 0, (69, .c (.own 3 1))], [.cells [.own 1 a0.fl.length], E9.row a0.fl, .cells (E43.cs a1), .row 9 1 1 (tbl [[.str ([87, 72, 73, 76, 69] : Bytes)]])], [], 2⟩) 1 1 2 [0, 3, 68, 69] [0, 1, 2, 3] ?_
          refine RefR.conv (Conv.obj 3 (E9.row [([87, 72, 73, 76, 69] : Bytes)]) (El.row_build E9 [([87, 72, 73, 76, 69] : Bytes)] rfl (by kernel_rfl)) (by kernel_rfl)) ?_
          refine RefR.conv (Conv.slot 69 (.c (.own 3 ([([87, 72, 73, 76, 69] : Bytes)].length))) (DLe.c (CLe.own (by simp <;> omega))) (by kernel_rfl)) ?_
          refine RefR.conv (Conv.freeze (st' := ⟨[(69, .c (E9.tree [([87, 72, 73, 76, 69] : Bytes)])), sP 0 0 0 0, sP 3 2 0 0, sP 68 0 0 0], [.cells [.own 1 a0.fl.length], E9.row a0.fl, .cells (E43.cs a1), .dead], [], 2⟩) 3 (by kernel_rfl)) ?_
          refine RefR.callC (t := 70) 2 3 [0, 1] rfl (by kernel_rfl) (F33_ok K (⟨a0.fl⟩ : S62) [([87, 72, 73, 76, 69] : Bytes)]) (fun r27188 => ?_)
          refine RefR.nl 3 ?_
          refine Ref.sq ?_
          refine Ref.rn 24 ?_
          refine RefR.e0 (st' := ⟨[sP 0 0 0 0, sP 3 2 0 0, sP 71 0 0 0, (73, .c (E27.tree a1.fExprs))], [.cells [.own 3 r27188.fl.length], .dead, .cells (E43.cs a1), E9.row r27188.fl], [], 2⟩) 0 3 3 [0, 3, 71, 73] [0, 1, 2, 4] ?_
          refine RefR.callC (t := 74) 3 4 [0, 3] rfl (by kernel_rfl) (F44_ok K (⟨r27188.fl⟩ : S62) a1.fExprs 0) (fun r27189 => ?_)
          refine RefR.nl 4 ?_
          refine Ref.sq ?_
          refine Ref.rn 25 ?_
          refine RefR.e0 (st' := ⟨[sP 0 0 0 0, sP 3 2 0 0, sP 75 0 0 0], [.cells [.own 3 r27189.fl.length], .dead, .cells (E43.cs a1), E9.row r27189.fl], [], 2⟩) 0 1 1 [0, 3, 75] [0, 1, 2, 4] ?_
          refine RefR.e0 (st' := ⟨[sP 0 0 0 0, sP 3 2 0 0, sP 75 0 0 0, (76, .c (.own 4 1))], [.cells [.own 3 r27189.fl.length], .dead, .cells (E43.cs a1), E9.row r27189.fl, .row 9 1 1 (tbl [[.str ([68, 79] : Bytes)]])], [], 2⟩) 1 1 2 [0, 3, 75, 76] [0, 1, 2, 3, 4] ?_
          refine RefR.conv (Conv.obj 4 (E9.row [([68, 79] : Bytes)]) (El.row_build E9 [([68, 79] : Bytes)] rfl (by kernel_rfl)) (by kernel_rfl)) ?_
          refine RefR.conv (Conv.slot 76 (.c (.own 4 ([([68, 79] : Bytes)].length))) (DLe.c (CLe.own (by simp <;> omega))) (by kernel_rfl)) ?_
          refine RefR.conv (Conv.freeze (st' := ⟨[(76, .c (E9.tree [([68, 79] : Bytes)])), sP 0 0 0 0, sP 3 2 0 0, sP 75 0 0 0], [.cells [.own 3 r27189.fl.length], .dead, .cells (E43.cs a1), E9.row r27189.fl, .dead], [], 2⟩) 4 (by kernel_rfl)) ?_
          refine RefR.callC (t := 77) 2 3 [0, 3] rfl (by kernel_rfl) (F33_ok K (⟨r27189.fl⟩ : S62) [([68, 79] : Bytes)]) (fun r27190 => ?_)
          refine RefR.nl 3 ?_
          refine Ref.sq ?_
          refine Ref.rn 26 ?_
          refine RefR.e0 (st' := ⟨[sP 0 0 0 0, sP 78 0 0 0, (80, .c (NTT43 a1.fBlocks))], [.cells [.own 2 r27190.fl.length], .dead, E9.row r27190.fl], [], 2⟩) 0 3 3 [0, 78, 80] [0, 1, 5] ?_
          refine RefR.conv (Conv.slot 80 (.c (E44.tree a1.fBlocks)) (DLe.c (NTT43_le _)) (by kernel_rfl)) ?_
          refine RefR.callC (t := 81) 3 4 [0, 2] rfl (by kernel_rfl) (ih58 (⟨r27190.fl⟩ : S62) a1.fBlocks 0) (fun r27191 => ?_)
          refine RefR.nl 4 ?_
          refine Ref.rn 27 ?_
          refine RefR.e0 (st' := ⟨[sP 0 0 0 0, sP 82 0 0 0], [.cells [.own 2 r27191.fl.length], .dead, E9.row r27191.fl], [], 2⟩) 0 1 1 [0, 82] [0, 1, 3] ?_
          refine RefR.e0 (st' := ⟨[sP 0 0 0 0, sP 82 0 0 0, (83, .c (.own 3 1))], [.cells [.own 2 r27191.fl.length], .dead, E9.row r27191.fl, .row 9 1 1 (tbl [[.str ([69, 78, 68, 95, 87, 72, 73, 76, 69] : Bytes)]])], [], 2⟩) 1 1 2 [0, 82, 83] [0, 1, 2, 3] ?_
          refine RefR.conv (Conv.obj 3 (E9.row [([69, 78, 68, 95, 87, 72, 73, 76, 69] : Bytes)]) (El.row_build E9 [([69, 78, 68, 95, 87, 72, 73, 76, 69] : Bytes)] rfl (by kernel_rfl)) (by kernel_rfl)) ?_
          refine RefR.conv (Conv.slot 83 (.c (.own 3 ([([69, 78, 68, 95, 87, 72, 73, 76, 69] : Bytes)].length))) (DLe.c (CLe.own (by simp <;> omega))) (by kernel_rfl)) ?_
          refine RefR.conv (Conv.freeze (st' := ⟨[(83, .c (E9.tree [([69, 78, 68, 95, 87, 72, 73, 76, 69] : Bytes)])), sP 0 0 0 0, sP 82 0 0 0], [.cells [.own 2 r27191.fl.length], .dead, E9.row r27191.fl, .dead], [], 2⟩) 3 (by kernel_rfl)) ?_
          refine RefR.callC (t := 84) 2 3 [0, 2] rfl (by kernel_rfl) (F33_ok K (⟨r27191.fl⟩ : S62) [([69, 78, 68, 95, 87, 72, 73, 76, 69] : Bytes)]) (fun r27192 => ?_)
          refine RefR.nl 3 ?_
          refine Ref.conv (Conv.keep (st' := ⟨[sP 0 0 0 0], [.cells [.own 2 r27192.fl.length], .dead, E9.row r27192.fl], [], 2⟩) [0] [0, 1, 4] (by kernel_rfl)) ?_
          exact Ref.xt 0 (t := (Sum.inr (Sum.inr (Sum.inr (Sum.inr (Sum.inr (Sum.inl (r27192.fl))))))))
        ·
         refine Ref.sq ?_
         refine Ref.sq ?_
         refine Ref.rn 28 ?_
         refine RefR.e0 (st' := ⟨[sP 0 0 0 0, sP 3 2 0 0, sP 85 0 0 0, sS 87 a1.fName], [.cells [.own 1 a0.fl.length], E9.row a0.fl, .cells (E43.cs a1)], [], 2⟩) 0 3 3 [0, 3, 85, 87] [0, 1, 2] ?_
         refine RefR.e0 (st' := ⟨[sP 0 0 0 0, sP 3 2 0 0, sP 85 0 0 0, (88, .c (.own 3 3))], [.cells [.own 1 a0.fl.length], E9.row a0.fl, .cells (E43.cs a1), .row 9 1 3 (tbl [[.str ([70, 79, 82] : Bytes)], [.str a1.fName], [.str ([58, 61] : Bytes)]])], [], 2⟩) 3 1 4 [0, 3, 85, 88] [0, 1, 2, 3] ?_
         refine RefR.conv (Conv.obj 3 (E9.row [([70, 79, 82] : Bytes), a1.fName, ([58, 61] : Bytes)]) (El.row_build E9 [([70, 79, 82] : Bytes), a1.fName, ([58, 61] : Bytes)] rfl (by kernel_rfl)) (by kernel_rfl)) ?_
         refine RefR.conv (Conv.slot 88 (.c (.own 3 ([([70, 79, 82] : Bytes), a1.fName, ([58, 61] : Bytes)].length))) (DLe.c (CLe.own (by simp <;> omega))) (by kernel_rfl)) ?_
         refine RefR.conv (Conv.freeze (st' := ⟨[(88, .c (E9.tree [([70, 79, 82] : Bytes), a1.fName, ([58, 61] : Bytes)])), sP 0 0 0 0, sP 3 2 0 0, sP 85 0 0 0], [.cells [.own 1 a0.fl.length], E9.row a0.fl, .cells (E43.cs a1), .dead], [], 2⟩) 3 (by kernel_rfl)) ?_
         refine RefR.callC (t := 89) 4 5 [0, 1] rfl (by kernel_rfl) (F33_ok K (⟨a0.fl⟩ : S62) [([70, 79, 82] : Bytes), a1.fName, ([58, 61] : Bytes)]) (fun r27193 => ?_)
         refine RefR.nl 5 ?_
         refine Ref.sq ?_
         refine Ref.rn 29 ?_
         refine RefR.e0 (st' := ⟨[sP 0 0 0 0, sP 3 2 0 0, sP 90 0 0 0, (92, .c (E27.tree a1.fExprs))], [.cells [.own 3 r27193.fl.length], .dead, .cells (E43.cs a1), E9.row r27193.fl], [], 2⟩) 0 3 3 [0, 3, 90, 92] [0, 1, 2, 4] ?_
         refine RefR.callC (t := 93) 3 4 [0, 3] rfl (by kernel_rfl) (F44_ok K (⟨r27193.fl⟩ : S62) a1.fExprs 0) (fun r27194 => ?_)
         refine RefR.nl 4 ?_
         refine Ref.sq ?_
         refine Ref.rn 30 ?_
         refine RefR.e0 (st' := ⟨[sP 0 0 0 0, sP 3 2 0 0, sP 94 0 0 0], [.cells [.own 3 r27194.fl.length], .dead, .cells (E43.cs a1), E9.row r27194.fl], [], 2⟩) 0 1 1 [0, 3, 94] [0, 1, 2, 4] ?_
         refine RefR.e0 (st' := ⟨[sP 0 0 0 0, sP 3 2 0 0, sP 94 0 0 0, (95, .c (.own 4 1))], [.cells [.own 3 r27194.fl.length], .dead, .cells (E43.cs a1), E9.row r27194.fl, .row 9 1 1 (tbl [[.str ([84, 79] : Bytes)]])], [], 2⟩) 1 1 2 [0, 3, 94, 95] [0, 1, 2, 3, 4] ?_
         refine RefR.conv (Conv.obj 4 (E9.row [([84, 79] : Bytes)]) (El.row_build E9 [([84, 79] : Bytes)] rfl (by kernel_rfl)) (by kernel_rfl)) ?_
         refine RefR.conv (Conv.slot 95 (.c (.own 4 ([([84, 79] : Bytes)].length))) (DLe.c (CLe.own (by simp <;> omega))) (by kernel_rfl)) ?_
         refine RefR.conv (Conv.freeze (st' := ⟨[(95, .c (E9.tree [([84, 79] : Bytes)])), sP 0 0 0 0, sP 3 2 0 0, sP 94 0 0 0], [.cells [.own 3 r27194.fl.length], .dead, .cells (E43.cs a1), E9.row r27194.fl, .dead], [], 2⟩) 4 (by kernel_rfl)) ?_
         refine RefR.callC (t := 96) 2 3 [0, 3] rfl (by kernel_rfl) (F33_ok K (⟨r27194.fl⟩ : S62) [([84, 79] : Bytes)]) (fun r27195 => ?_)
         refine RefR.nl 3 ?_
         refine Ref.sq ?_
         refine Ref.rn 31 ?_
         refine RefR.e0 (st' := ⟨[sP 0 0 0 0, sP 3 2 0 0, sP 97 0 0 0, (99, .c (E27.tree a1.fExprs))], [.cells [.own 3 r27195.fl.length], .dead, .cells (E43.cs a1), E9.row r27195.fl], [], 2⟩) 0 3 3 [0, 3, 97, 99] [0, 1, 2, 5] ?_
         refine RefR.callC (t := 100) 3 4 [0, 3] rfl (by kernel_rfl) (F44_ok K (⟨r27195.fl⟩ : S62) a1.fExprs 1) (fun r27196 => ?_)
         refine RefR.nl 4 ?_
         refine Ref.sq ?_
         refine Ref.rn 32 ?_
         refine RefR.e0 (st' := ⟨[sP 0 0 0 0, sP 3 2 0 0, sP 101 0 0 0], [.cells [.own 3 r27196.fl.length], .dead, .cells (E43.cs a1), E9.row r27196.fl], [], 2⟩) 0 1 1 [0, 3, 101] [0, 1, 2, 4] ?_
         refine RefR.e0 (st' := ⟨[sP 0 0 0 0, sP 3 2 0 0, sP 101 0 0 0, (102, .c (.own 4 1))], [.cells [.own 3 r27196.fl.length], .dead, .cells (E43.cs a1), E9.row r27196.fl, .row 9 1 1 (tbl [[.str ([66, 89] : Bytes)]])], [], 2⟩) 1 1 2 [0, 3, 101, 102] [0, 1, 2, 3, 4] ?_
         refine RefR.conv (Conv.obj 4 (E9.row [([66, 89] : Bytes)]) (El.row_build E9 [([66, 89] : Bytes)] rfl (by kernel_rfl)) (by kernel_rfl)) ?_
         refine RefR.conv (Conv.slot 102 (.c (.own 4 ([([66, 89] : Bytes)].length))) (DLe.c (CLe.own (by simp <;> omega))) (by kernel_rfl)) ?_
         refine RefR.conv (Conv.freeze (st' := ⟨[(102, .c (E9.tree [([66, 89] : Bytes)])), sP 0 0 0 0, sP 3 2 0 0, sP 101 0 0 0], [.cells [.own 3 r27196.fl.length], .dead, .cells (E43.cs a1), E9.row r27196.fl, .dead], [], 2⟩) 4 (by kernel_rfl)) ?_
         refine RefR.callC (t := 103) 2 3 [0, 3] rfl (by kernel_rfl) (F33_ok K (⟨r27196.fl⟩ : S62) [([66, 89] : Bytes)]) (fun r27197 => ?_)
         refine RefR.nl 3 ?_
         refine Ref.sq ?_
         refine Ref.rn 33 ?_
         refine RefR.e0 (st' := ⟨[sP 0 0 0 0, sP 3 2 0 0, sP 104 0 0 0, sI 106 a1.fN], [.cells [.own 3 r27197.fl.length], .dead, .cells (E43.cs a1), E9.row r27197.fl], [], 2⟩) 0 3 3 [0, 3, 104, 106] [0, 1, 2, 5] ?_
         refine RefR.callC (t := 107) 3 4 [0, 3] rfl (by kernel_rfl) (F36_ok K (⟨r27197.fl⟩ : S62) a1.fN) (fun r27198 => ?_)
         refine RefR.nl 4 ?_
         refine Ref.sq ?_
         refine Ref.rn 34 ?_
         refine RefR.e0 (st' := ⟨[sP 0 0 0 0, sP 3 2 0 0, sP 108 0 0 0], [.cells [.own 3 r27198.fl.length], .dead, .cells (E43.cs a1), E9.row r27198.fl], [], 2⟩) 0 1 1 [0, 3, 108] [0, 1, 2, 4] ?_
         refine RefR.e0 (st' := ⟨[sP 0 0 0 0, sP 3 2 0 0, sP 108 0 0 0, (109, .c (.own 4 1))], [.cells [.own 3 r27198.fl.length], .dead, .cells (E43.cs a1), E9.row r27198.fl, .row 9 1 1 (tbl [[.str ([68, 79] : Bytes)]])], [], 2⟩) 1 1 2 [0, 3, 108, 109] [0, 1, 2, 3, 4] ?_
         refine RefR.conv (Conv.obj 4 (E9.row [([68, 79] : Bytes)]) (El.row_build E9 [([68, 79] : Bytes)] rfl (by kernel_rfl)) (by kernel_rfl)) ?_
         refine RefR.conv (Conv.slot 109 (.c (.own 4 ([([68, 79] : Bytes)].length))) (DLe.c (CLe.own (by simp <;> omega))) (by kernel_rfl)) ?_
         refine RefR.conv (Conv.freeze (st' := ⟨[(109, .c (E9.tree [([68, 79] : Bytes)])), sP 0 0 0 0, sP 3 2 0 0, sP 108 0 0 0], [.cells [.own 3 r27198.fl.length], .dead, .cells (E43.cs a1), E9.row r27198.fl, .dead], [], 2⟩) 4 (by kernel_rfl)) ?_
         refine RefR.callC (t := 110) 2 3 [0, 3] rfl (by kernel_rfl) (F33_ok K (⟨r27198.fl⟩ : S62) [([68, 79] : Bytes)]) (fun r27199 => ?_)
         refine RefR.nl 3 ?_
         refine Ref.sq ?_
         refine Ref.rn 35 ?_
         refine RefR.e0 (st' := ⟨[sP 0 0 0 0, sP 111 0 0 0, (113, .c (NTT43 a1.fBlocks))], [.cells [.own 2 r27199.fl.length], .dead, E9.row r27199.fl], [], 2⟩) 0 3 3 [0, 111, 113] [0, 1, 5] ?_
         refine RefR.conv (Conv.slot 113 (.c (E44.tree a1.fBlocks)) (DLe.c (NTT43_le _)) (by kernel_rfl)) ?_
         refine RefR.callC (t := 114) 3 4 [0, 2] rfl (by kernel_rfl) (ih58 (⟨r27199.fl⟩ : S62) a1.fBlocks 0) (fun r27200 => ?_)
         refine RefR.nl 4 ?_
         refine Ref.rn 36 ?_
         refine RefR.e0 (st' := ⟨[sP 0 0 0 0, sP 115 0 0 0], [.cells [.own 2 r27200.fl.length], .dead, E9.row r27200.fl], [], 2⟩) 0 1 1 [0, 115] [0, 1, 3] ?_
         refine RefR.e0 (st' := ⟨[sP 0 0 0 0, sP 115 0 0 0, (116, .c (.own 3 1))], [.cells [.own 2 r27200.fl.length], .dead, E9.row r27200.fl, .row 9 1 1 (tbl [[.str ([69, 78, 68, 95, 70, 79, 82] : Bytes)]])], [], 2⟩) 1 1 2 [0, 115, 116] [0, 1, 2, 3] ?_
         refine RefR.conv (Conv.obj 3 (E9.row [([69, 78, 68, 95, 70, 79, 82] : Bytes)]) (El.row_build E9 [([69, 78, 68, 95, 70, 79, 82] : Bytes)] rfl (by kernel_rfl)) (by kernel_rfl)) ?_
         refine RefR.conv (Conv.slot 116 (.c (.own 3 ([([69, 78, 68, 95, 70, 79, 82] : Bytes)].length))) (DLe.c (CLe.own (by simp <;> omega))) (by kernel_rfl)) ?_
         refine RefR.conv (Conv.freeze (st' := ⟨[(116, .c (E9.tree [([69, 78, 68, 95, 70, 79, 82] : Bytes)])), sP 0 0 0 0, sP 115 0 0 0], [.cells [.own 2 r27200.fl.length], .dead, E9.row r27200.fl, .dead], [], 2⟩) 3 (by kernel_rfl)) ?_
         refine RefR.callC (t := 117) 2 3 [0, 2] rfl (by kernel_rfl) (F33_ok K (⟨r27200.fl⟩ : S62) [([69, 78, 68, 95, 70, 79, 82] : Bytes)]) (fun r27201 => ?_)
         refine RefR.nl 3 ?_
         refine Ref.conv (Conv.keep (st' := ⟨[sP 0 0 0 0], [.cells [.own 2 r27201.fl.length], .dead, E9.row r27201.fl], [], 2⟩) [0] [0, 1, 4] (by kernel_rfl)) ?_
         exact Ref.xt 0 (t := (Sum.inr (Sum.inr (Sum.inr (Sum.inr (Sum.inl (r27201.fl)))))))
       ·
        refine Ref.sq ?_
        refine Ref.sq ?_
        refine Ref.rn 37 ?_
        refine RefR.e0 (st' := ⟨[sP 0 0 0 0, sP 3 2 0 0, sP 118 0 0 0], [.cells [.own 1 a0.fl.length], E9.row a0.fl, .cells (E43.cs a1)], [], 2⟩) 0 1 1 [0, 3, 118] [0, 1, 2] ?_
        refine RefR.e0 (st' := ⟨[sP 0 0 0 0, sP 3 2 0 0, sP 118 0 0 0, (119, .c (.own 3 1))], [.cells [.own 1 a0.fl.length], E9.row a0.fl, .cells (E43.cs a1), .row 9 1 1 (tbl [[.str ([82, 69, 84, 85, 82, 78] : Bytes)]])], [], 2⟩) 1 1 2 [0, 3, 118, 119] [0, 1, 2, 3] ?_
        refine RefR.conv (Conv.obj 3 (E9.row [([82, 69, 84, 85, 82, 78] : Bytes)]) (El.row_build E9 [([82, 69, 84, 85, 82, 78] : Bytes)] rfl (by kernel_rfl)) (by kernel_rfl)) ?_
        refine RefR.conv (Conv.slot 119 (.c (.own 3 ([([82, 69, 84, 85, 82, 78] : Bytes)].length))) (DLe.c (CLe.own (by simp <;> omega))) (by kernel_rfl)) ?_
        refine RefR.conv (Conv.freeze (st' := ⟨[(119, .c (E9.tree [([82, 69, 84, 85, 82, 78] : Bytes)])), sP 0 0 0 0, sP 3 2 0 0, sP 118 0 0 0], [.cells [.own 1 a0.fl.length], E9.row a0.fl, .cells (E43.cs a1), .dead], [], 2⟩) 3 (by kernel_rfl)) ?_
        refine RefR.callC (t := 120) 2 3 [0, 1] rfl (by kernel_rfl) (F33_ok K (⟨a0.fl⟩ : S62) [([82, 69, 84, 85, 82, 78] : Bytes)]) (fun r27202 => ?_)
        refine RefR.nl 3 ?_
        refine Ref.sq ?_
        refine Ref.rn 38 ?_
        refine RefR.e0 (st' := ⟨[sP 0 0 0 0, sP 3 2 0 0, sB 124 (decide (((Int.ofNat a1.fExprs.length) : Int) > 0))], [.cells [.own 3 r27202.fl.length], .dead, .cells (E43.cs a1), E9.row r27202.fl], [], 2⟩) 0 4 4 [0, 3, 124] [0, 1, 2, 4] ?_
        refine RefR.letC (stf := fun x27203 => ⟨[sP 0 0 0 0, sP 3 2 0 0, sB 124 x27203], [.cells [.own 3 r27202.fl.length], .dead, .cells (E43.cs a1), E9.row r27202.fl], [], 2⟩) (by kernel_rfl) (fun x27203 => ?_)
        refine RefR.nl 4 ?_
        refine Ref.bind (go1 := fun u27205 => ⟨[sP 0 0 0 0], [.cells [.own 2 u27205.length], .dead, E9.row u27205], [], 2⟩) ?_ (fun u27205 => ?_)
        ·
         refine Ref.cn (.tmp 124) x27203 (fun hc => ?_) (fun hc => ?_)
         ·
          refine Ref.rn 39 ?_
          refine RefR.e0 (st' := ⟨[sP 0 0 0 0, sP 125 0 0 0, (127, .c (E27.tree a1.fExprs))], [.cells [.own 2 r27202.fl.length], .dead, E9.row r27202.fl], [], 2⟩) 0 3 3 [0, 125, 127] [0, 1, 3] ?_
          refine RefR.evC (vs := [inb 0 a1.fExprs.length]) (st' := ⟨[sP 0 0 0 0, sP 125 0 0 0, (129, .agg (E27.cs (a1.fExprs.getD (0 : Int).toNat default)))], [.cells [.own 2 r27202.fl.length], .dead, E9.row r27202.fl], [], 2⟩) 3 2 5 [0, 125, 129] [0, 1, 2] rfl (by kernel_rfl) ?_
          refine RefR.callC (t := 130) 5 6 [0, 2] rfl (by kernel_rfl) (F23_ok K (⟨r27202.fl⟩ : S62) (a1.fExprs.getD (0 : Int).toNat default)) (fun r27206 => ?_)
          refine RefR.nl 6 ?_
          refine Ref.conv (Conv.keep (st' := ⟨[sP 0 0 0 0], [.cells [.own 2 r27206.fl.length], .dead, E9.row r27206.fl], [], 2⟩) [0] [0, 1, 3] (by kernel_rfl)) ?_
          exact Ref.n0 (t := (r27206.fl))
         ·
          refine Ref.sk ?_
          refine Ref.conv (Conv.keep (st' := ⟨[sP 0 0 0 0], [.cells [.own 2 r27202.fl.length], .dead, E9.row r27202.fl], [], 2⟩) [0] [0, 1, 3] (by kernel_rfl)) ?_
          exact Ref.n0 (t := (r27202.fl))
        ·
         exact Ref.xt 0 (t := (Sum.inr (Sum.inr (Sum.inr (Sum.inl (u27205))))))
      ·
       refine Ref.sq ?_
       refine Ref.rn 40 ?_
       refine RefR.e0 (st' := ⟨[sP 0 0 0 0, sP 131 0 0 0], [.cells [.own 1 a0.fl.length], E9.row a0.fl], [], 2⟩) 0 1 1 [0, 131] [0, 1] ?_
       refine RefR.e0 (st' := ⟨[sP 0 0 0 0, sP 131 0 0 0, (132, .c (.own 2 1))], [.cells [.own 1 a0.fl.length], E9.row a0.fl, .row 9 1 1 (tbl [[.str ([69, 88, 73, 84] : Bytes)]])], [], 2⟩) 1 1 2 [0, 131, 132] [0, 1, 2] ?_
       refine RefR.conv (Conv.obj 2 (E9.row [([69, 88, 73, 84] : Bytes)]) (El.row_build E9 [([69, 88, 73, 84] : Bytes)] rfl (by kernel_rfl)) (by kernel_rfl)) ?_
       refine RefR.conv (Conv.slot 132 (.c (.own 2 ([([69, 88, 73, 84] : Bytes)].length))) (DLe.c (CLe.own (by simp <;> omega))) (by kernel_rfl)) ?_
       refine RefR.conv (Conv.freeze (st' := ⟨[(132, .c (E9.tree [([69, 88, 73, 84] : Bytes)])), sP 0 0 0 0, sP 131 0 0 0], [.cells [.own 1 a0.fl.length], E9.row a0.fl, .dead], [], 2⟩) 2 (by kernel_rfl)) ?_
       refine RefR.callC (t := 133) 2 3 [0, 1] rfl (by kernel_rfl) (F33_ok K (⟨a0.fl⟩ : S62) [([69, 88, 73, 84] : Bytes)]) (fun r27207 => ?_)
       refine RefR.nl 3 ?_
       refine Ref.conv (Conv.keep (st' := ⟨[sP 0 0 0 0], [.cells [.own 2 r27207.fl.length], .dead, E9.row r27207.fl], [], 2⟩) [0] [0, 1, 3] (by kernel_rfl)) ?_
       exact Ref.xt 0 (t := (Sum.inr (Sum.inr (Sum.inl (r27207.fl)))))
     ·
      refine Ref.sq ?_
      refine Ref.sq ?_
      refine Ref.rn 41 ?_
      refine RefR.e0 (st' := ⟨[sP 0 0 0 0, sP 3 2 0 0, sP 134 0 0 0, sS 136 a1.fName], [.cells [.own 1 a0.fl.length], E9.row a0.fl, .cells (E43.cs a1)], [], 2⟩) 0 3 3 [0, 3, 134, 136] [0, 1, 2] ?_
      refine RefR.e0 (st' := ⟨[sP 0 0 0 0, sP 3 2 0 0, sP 134 0 0 0, (137, .c (.own 3 3))], [.cells [.own 1 a0.fl.length], E9.row a0.fl, .cells (E43.cs a1), .row 9 1 3 (tbl [[.str ([83, 84, 69, 80] : Bytes)], [.str a1.fName], [.str ([40] : Bytes)]])], [], 2⟩) 3 1 4 [0, 3, 134, 137] [0, 1, 2, 3] ?_
      refine RefR.conv (Conv.obj 3 (E9.row [([83, 84, 69, 80] : Bytes), a1.fName, ([40] : Bytes)]) (El.row_build E9 [([83, 84, 69, 80] : Bytes), a1.fName, ([40] : Bytes)] rfl (by kernel_rfl)) (by kernel_rfl)) ?_
      refine RefR.conv (Conv.slot 137 (.c (.own 3 ([([83, 84, 69, 80] : Bytes), a1.fName, ([40] : Bytes)].length))) (DLe.c (CLe.own (by simp <;> omega))) (by kernel_rfl)) ?_
      refine RefR.conv (Conv.freeze (st' := ⟨[(137, .c (E9.tree [([83, 84, 69, 80] : Bytes), a1.fName, ([40] : Bytes)])), sP 0 0 0 0, sP 3 2 0 0, sP 134 0 0 0], [.cells [.own 1 a0.fl.length], E9.row a0.fl, .cells (E43.cs a1), .dead], [], 2⟩) 3 (by kernel_rfl)) ?_
      refine RefR.callC (t := 138) 4 5 [0, 1] rfl (by kernel_rfl) (F33_ok K (⟨a0.fl⟩ : S62) [([83, 84, 69, 80] : Bytes), a1.fName, ([40] : Bytes)]) (fun r27208 => ?_)
      refine RefR.nl 5 ?_
      refine Ref.sq ?_
      refine Ref.rn 42 ?_
      refine RefR.e0 (st' := ⟨[sP 0 0 0 0, sP 3 2 0 0, sP 139 0 0 0, (141, .c (E27.tree a1.fExprs))], [.cells [.own 3 r27208.fl.length], .dead, .cells (E43.cs a1), E9.row r27208.fl], [], 2⟩) 0 3 3 [0, 3, 139, 141] [0, 1, 2, 4] ?_
      refine RefR.callC (t := 142) 3 4 [0, 3] rfl (by kernel_rfl) (F44_ok K (⟨r27208.fl⟩ : S62) a1.fExprs 0) (fun r27209 => ?_)
      refine RefR.nl 4 ?_
      refine Ref.sq ?_
      refine Ref.rn 43 ?_
      refine RefR.e0 (st' := ⟨[sP 0 0 0 0, sP 3 2 0 0, sP 143 0 0 0], [.cells [.own 3 r27209.fl.length], .dead, .cells (E43.cs a1), E9.row r27209.fl], [], 2⟩) 0 1 1 [0, 3, 143] [0, 1, 2, 4] ?_
      refine RefR.e0 (st' := ⟨[sP 0 0 0 0, sP 3 2 0 0, sP 143 0 0 0, (144, .c (.own 4 1))], [.cells [.own 3 r27209.fl.length], .dead, .cells (E43.cs a1), E9.row r27209.fl, .row 9 1 1 (tbl [[.str ([44] : Bytes)]])], [], 2⟩) 1 1 2 [0, 3, 143, 144] [0, 1, 2, 3, 4] ?_
      refine RefR.conv (Conv.obj 4 (E9.row [([44] : Bytes)]) (El.row_build E9 [([44] : Bytes)] rfl (by kernel_rfl)) (by kernel_rfl)) ?_
      refine RefR.conv (Conv.slot 144 (.c (.own 4 ([([44] : Bytes)].length))) (DLe.c (CLe.own (by simp <;> omega))) (by kernel_rfl)) ?_
      refine RefR.conv (Conv.freeze (st' := ⟨[(144, .c (E9.tree [([44] : Bytes)])), sP 0 0 0 0, sP 3 2 0 0, sP 143 0 0 0], [.cells [.own 3 r27209.fl.length], .dead, .cells (E43.cs a1), E9.row r27209.fl, .dead], [], 2⟩) 4 (by kernel_rfl)) ?_
      refine RefR.callC (t := 145) 2 3 [0, 3] rfl (by kernel_rfl) (F33_ok K (⟨r27209.fl⟩ : S62) [([44] : Bytes)]) (fun r27210 => ?_)
      refine RefR.nl 3 ?_
      refine Ref.sq ?_
      refine Ref.rn 44 ?_
      refine RefR.e0 (st' := ⟨[sP 0 0 0 0, sP 146 0 0 0, (148, .c (E27.tree a1.fExprs))], [.cells [.own 2 r27210.fl.length], .dead, E9.row r27210.fl], [], 2⟩) 0 3 3 [0, 146, 148] [0, 1, 5] ?_
      refine RefR.callC (t := 149) 3 4 [0, 2] rfl (by kernel_rfl) (F44_ok K (⟨r27210.fl⟩ : S62) a1.fExprs 1) (fun r27211 => ?_)
      refine RefR.nl 4 ?_
      refine Ref.rn 45 ?_
      refine RefR.e0 (st' := ⟨[sP 0 0 0 0, sP 150 0 0 0], [.cells [.own 2 r27211.fl.length], .dead, E9.row r27211.fl], [], 2⟩) 0 1 1 [0, 150] [0, 1, 3] ?_
      refine RefR.e0 (st' := ⟨[sP 0 0 0 0, sP 150 0 0 0, (151, .c (.own 3 1))], [.cells [.own 2 r27211.fl.length], .dead, E9.row r27211.fl, .row 9 1 1 (tbl [[.str ([41] : Bytes)]])], [], 2⟩) 1 1 2 [0, 150, 151] [0, 1, 2, 3] ?_
      refine RefR.conv (Conv.obj 3 (E9.row [([41] : Bytes)]) (El.row_build E9 [([41] : Bytes)] rfl (by kernel_rfl)) (by kernel_rfl)) ?_
      refine RefR.conv (Conv.slot 151 (.c (.own 3 ([([41] : Bytes)].length))) (DLe.c (CLe.own (by simp <;> omega))) (by kernel_rfl)) ?_
      refine RefR.conv (Conv.freeze (st' := ⟨[(151, .c (E9.tree [([41] : Bytes)])), sP 0 0 0 0, sP 150 0 0 0], [.cells [.own 2 r27211.fl.length], .dead, E9.row r27211.fl, .dead], [], 2⟩) 3 (by kernel_rfl)) ?_
      refine RefR.callC (t := 152) 2 3 [0, 2] rfl (by kernel_rfl) (F33_ok K (⟨r27211.fl⟩ : S62) [([41] : Bytes)]) (fun r27212 => ?_)
      refine RefR.nl 3 ?_
      refine Ref.conv (Conv.keep (st' := ⟨[sP 0 0 0 0], [.cells [.own 2 r27212.fl.length], .dead, E9.row r27212.fl], [], 2⟩) [0] [0, 1, 4] (by kernel_rfl)) ?_
      exact Ref.xt 0 (t := (Sum.inr (Sum.inl (r27212.fl))))
    ·
     refine Ref.sq ?_
     refine Ref.rn 46 ?_
     refine RefR.e0 (st' := ⟨[sP 0 0 0 0, sP 153 0 0 0], [.cells [.own 1 a0.fl.length], E9.row a0.fl], [], 2⟩) 0 1 1 [0, 153] [0, 1] ?_
     refine RefR.e0 (st' := ⟨[sP 0 0 0 0, sP 153 0 0 0, (154, .c (.own 2 1))], [.cells [.own 1 a0.fl.length], E9.row a0.fl, .row 9 1 1 (tbl [[.str ([63] : Bytes)]])], [], 2⟩) 1 1 2 [0, 153, 154] [0, 1, 2] ?_
     refine RefR.conv (Conv.obj 2 (E9.row [([63] : Bytes)]) (El.row_build E9 [([63] : Bytes)] rfl (by kernel_rfl)) (by kernel_rfl)) ?_
     refine RefR.conv (Conv.slot 154 (.c (.own 2 ([([63] : Bytes)].length))) (DLe.c (CLe.own (by simp <;> omega))) (by kernel_rfl)) ?_
     refine RefR.conv (Conv.freeze (st' := ⟨[(154, .c (E9.tree [([63] : Bytes)])), sP 0 0 0 0, sP 153 0 0 0], [.cells [.own 1 a0.fl.length], E9.row a0.fl, .dead], [], 2⟩) 2 (by kernel_rfl)) ?_
     refine RefR.callC (t := 155) 2 3 [0, 1] rfl (by kernel_rfl) (F33_ok K (⟨a0.fl⟩ : S62) [([63] : Bytes)]) (fun r27213 => ?_)
     refine RefR.nl 3 ?_
     refine Ref.conv (Conv.keep (st' := ⟨[sP 0 0 0 0], [.cells [.own 2 r27213.fl.length], .dead, E9.row r27213.fl], [], 2⟩) [0] [0, 1, 3] (by kernel_rfl)) ?_
     exact Ref.xt 0 (t := (Sum.inl (r27213.fl)))
   ·
    refine Ref.rn 47 ?_
    refine RefR.e0 (st' := ⟨[sP 156 0 0 0], [.cells [.own 2 u13607.length], .dead, E9.row u13607], [], 2⟩) 0 1 1 [156] [0, 1, 2] ?_
    refine RefR.e0 (st' := ⟨[sP 156 0 0 0, (157, .c (.own 3 1))], [.cells [.own 2 u13607.length], .dead, E9.row u13607, .row 9 1 1 (tbl [[.str ([59] : Bytes)]])], [], 2⟩) 1 1 2 [156, 157] [0, 1, 2, 3] ?_
    refine RefR.conv (Conv.obj 3 (E9.row [([59] : Bytes)]) (El.row_build E9 [([59] : Bytes)] rfl (by kernel_rfl)) (by kernel_rfl)) ?_
    refine RefR.conv (Conv.slot 157 (.c (.own 3 ([([59] : Bytes)].length))) (DLe.c (CLe.own (by simp <;> omega))) (by kernel_rfl)) ?_
    refine RefR.conv (Conv.freeze (st' := ⟨[(157, .c (E9.tree [([59] : Bytes)])), sP 156 0 0 0], [.cells [.own 2 u13607.length], .dead, E9.row u13607, .dead], [], 2⟩) 3 (by kernel_rfl)) ?_
    refine RefR.callC (t := 158) 2 3 [0, 2] rfl (by kernel_rfl) (F33_ok K (⟨u13607⟩ : S62) [([59] : Bytes)]) (fun r27214 => ?_)
    refine RefR.nl 3 ?_
    refine Ref.conv (Conv.keep (st' := ⟨[], [.cells [.own 2 r27214.fl.length], .dead, E9.row r27214.fl], [], 2⟩) [] [0, 1, 4] (by kernel_rfl)) ?_
    exact Ref.n0 (t := ((⟨r27214.fl⟩ : S62)))

  ·
   intro a0 a1
   refine DFun.intro (fn := Tryd.f56) (c := cd (bd Tryd.f56) []) (rs := fun r => ⟨[], [.cells [.own 2 r.fl.length], .dead, E9.row r.fl], [], 2⟩) (by kernel_rfl) (by kernel_rfl) (by kernel_rfl) ?_ (fun r => by kernel_rfl) (fun r => by kernel_rfl) (fun r => by kernel_rfl) (fun r => by kernel_rfl)
   rw [F56]
   refine Ref.sq ?_
   refine Ref.rn 0 ?_
   refine RefR.e0 (st' := ⟨[sP 0 0 0 0, sP 3 2 0 0], [.cells [.own 1 a0.fl.length], E9.row a0.fl, .cells (E43.cs a1)], [], 2⟩) 0 1 1 [0, 3] [0, 1, 2] ?_
   refine RefR.nl 1 ?_
   refine Ref.sq ?_
   refine Ref.rn 1 ?_
   refine RefR.e0 (st' := ⟨[sP 0 0 0 0, sP 3 2 0 0, sS 4 ([73, 70] : Bytes)], [.cells [.own 1 a0.fl.length], E9.row a0.fl, .cells (E43.cs a1)], [], 2⟩) 0 1 1 [0, 3, 4] [0, 1, 2] ?_
   refine RefR.nl 1 ?_
   refine Ref.sq ?_
   refine Ref.rn 2 ?_
   refine RefR.e0 (st' := ⟨[sP 0 0 0 0, sP 3 2 0 0, sS 4 ([73, 70] : Bytes), sI 5 (if 1 > (Int.ofNat a1.fExprs.length) then 1 else (Int.ofNat a1.fExprs.length))], [.cells [.own 1 a0.fl.length], E9.row a0.fl, .cells (E43.cs a1)], [], 2⟩) 0 5 5 [0, 3, 4, 5] [0, 1, 2] ?_
   refine RefR.letC (stf := fun x1 => ⟨[sP 0 0 0 0, sP 3 2 0 0, sS 4 ([73, 70] : Bytes), sI 5 x1], [.cells [.own 1 a0.fl.length], E9.row a0.fl, .cells (E43.cs a1)], [], 2⟩) (by kernel_rfl) (fun x1 => ?_)
   refine RefR.nl 5 ?_
   refine Ref.sq ?_
   refine Ref.sq ?_
   refine Ref.rn 3 ?_
   refine RefR.e0 (st' := ⟨[sP 0 0 0 0, sP 3 2 0 0, sS 4 ([73, 70] : Bytes), sI 5 x1, sI 11 x1, sI 12 0], [.cells [.own 1 a0.fl.length], E9.row a0.fl, .cells (E43.cs a1)], [], 2⟩) 0 2 2 [0, 3, 4, 5, 11, 12] [0, 1, 2] ?_
   refine RefR.nl 2 ?_
   refine Ref.codeEq (c' := .block 0 (cd (bd Tryd.f56) [1, 1, 1, 0, 1, 0])) (by kernel_rfl) ?_
   refine Ref.block (go1 := fun u32 => ⟨[sP 0 0 0 0, sP 3 3 0 0, sI 5 x1], [.cells [.own 2 u32.length], .dead, E9.row u32, .cells (E43.cs a1)], [], 2⟩) ?_ (fun _ h => by cases h) (fun u32 => ?_)
   ·
    refine Ref.codeEq (c' := .loop (cd (bd Tryd.f56) [1, 1, 1, 0, 1, 0, 0])) (by kernel_rfl) ?_
    refine Ref.conv (Conv.move (st' := ⟨[sP 0 0 0 0, sP 3 2 0 0, sS 4 ([73, 70] : Bytes), sI 5 x1, sI 11 x1, sI 12 0], [.cells [.own 3 a0.fl.length], .dead, .cells (E43.cs a1), E9.row a0.fl], [], 2⟩) 1 (by kernel_rfl) (by kernel_rfl)) ?_
    refine Ref.conv (Conv.keep (st' := ⟨[sP 0 0 0 0, sP 3 3 0 0, sS 4 ([73, 70] : Bytes), sI 5 x1, sI 11 x1, sI 12 0], [.cells [.own 2 a0.fl.length], .dead, E9.row a0.fl, .cells (E43.cs a1)], [], 2⟩) [0, 3, 4, 5, 11, 12] [0, 1, 3, 2] (by kernel_rfl)) ?_
    refine Ref.loop (hd := fun u43 => ⟨[sP 0 0 0 0, sP 3 3 0 0, sS 4 u43.2.1, sI 5 x1, sI 11 x1, sI 12 u43.2.2], [.cells [.own 2 u43.1.length], .dead, E9.row u43.1, .cells (E43.cs a1)], [], 2⟩) K (a0.fl, ([73, 70] : Bytes), 0) (by kernel_rfl) (fun u43 => ?_)
    refine Ref.sq ?_
    refine Ref.rn 4 ?_
    refine RefR.e0 (st' := ⟨[sP 0 0 0 0, sP 3 3 0 0, sS 4 u43.2.1, sI 5 x1, sI 11 x1, sI 12 u43.2.2, sB 13 (decide ((u43.2.2 : Int) < x1))], [.cells [.own 2 u43.1.length], .dead, E9.row u43.1, .cells (E43.cs a1)], [], 2⟩) 0 1 1 [0, 3, 4, 5, 11, 12, 13] [0, 1, 2, 3] ?_
    refine RefR.nl 1 ?_
    refine Ref.sq ?_
    refine Ref.cn (.tmp 13) (decide ((u43.2.2 : Int) < x1)) (fun hc => ?_) (fun hc => ?_)
    ·
     refine Ref.sk ?_
     refine Ref.sq ?_
     refine Ref.codeEq (c' := .block 1 (cd (bd Tryd.f56) [1, 1, 1, 0, 1, 0, 0, 1, 1, 0, 0])) (by kernel_rfl) ?_
     refine Ref.block (go1 := fun u58 => ⟨[sP 0 0 0 0, sP 3 3 0 0, sS 4 u58.2, sI 5 x1, sI 11 x1, sI 12 u43.2.2], [.cells [.own 2 u58.1.length], .dead, E9.row u58.1, .cells (E43.cs a1)], [], 2⟩) ?_ (fun a => match a with | .inl _ => (fun h => by cases h) | .inr _ => (fun h => by cases h)) (fun u58 => ?_)
     ·
      refine Ref.sq ?_
      refine Ref.rn 5 ?_
      refine RefR.e0 (st' := ⟨[sP 0 0 0 0, sP 3 3 0 0, sS 4 u43.2.1, sI 5 x1, sI 6 u43.2.2, sI 11 x1, sI 12 u43.2.2], [.cells [.own 2 u43.1.length], .dead, E9.row u43.1, .cells (E43.cs a1)], [], 2⟩) 0 2 2 [0, 3, 4, 5, 6, 11, 12] [0, 1, 2, 3] ?_
      refine RefR.nl 2 ?_
      refine Ref.sq ?_
      refine Ref.rn 6 ?_
      refine RefR.e0 (st' := ⟨[sP 0 0 0 0, sP 3 3 0 0, sI 5 x1, sI 6 u43.2.2, sI 11 x1, sI 12 u43.2.2, sP 15 0 0 0, sS 16 u43.2.1], [.cells [.own 2 u43.1.length], .dead, E9.row u43.1, .cells (E43.cs a1)], [], 2⟩) 0 2 2 [0, 3, 5, 6, 11, 12, 15, 16] [0, 1, 2, 3] ?_
      refine RefR.e0 (st' := ⟨[sP 0 0 0 0, sP 3 3 0 0, sI 5 x1, sI 6 u43.2.2, sI 11 x1, sI 12 u43.2.2, sP 15 0 0 0, (17, .c (.own 4 1))], [.cells [.own 2 u43.1.length], .dead, E9.row u43.1, .cells (E43.cs a1), .row 9 1 1 (tbl [[.str u43.2.1]])], [], 2⟩) 2 1 3 [0, 3, 5, 6, 11, 12, 15, 17] [0, 1, 2, 3, 4] ?_
      refine RefR.conv (Conv.obj 4 (E9.row [u43.2.1]) (El.row_build E9 [u43.2.1] rfl (by kernel_rfl)) (by kernel_rfl)) ?_
      refine RefR.conv (Conv.slot 17 (.c (.own 4 ([u43.2.1].length))) (DLe.c (CLe.own (by simp <;> omega))) (by kernel_rfl)) ?_
      refine RefR.conv (Conv.freeze (st' := ⟨[(17, .c (E9.tree [u43.2.1])), sP 0 0 0 0, sP 3 3 0 0, sI 5 x1, sI 6 u43.2.2, sI 11 x1, sI 12 u43.2.2, sP 15 0 0 0], [.cells [.own 2 u43.1.length], .dead, E9.row u43.1, .cells (E43.cs a1), .dead], [], 2⟩) 4 (by kernel_rfl)) ?_
      refine RefR.callC (t := 18) 3 4 [0, 2] rfl (by kernel_rfl) (F33_ok K (⟨u43.1⟩ : S62) [u43.2.1]) (fun r59 => ?_)
      refine RefR.nl 4 ?_
      refine Ref.sq ?_
      refine Ref.rn 7 ?_
      refine RefR.e0 (st' := ⟨[sP 0 0 0 0, sP 3 2 0 0, sI 5 x1, sI 6 u43.2.2, sI 11 x1, sI 12 u43.2.2, sP 19 0 0 0, (21, .c (E27.tree a1.fExprs)), sI 22 u43.2.2], [.cells [.own 3 r59.fl.length], .dead, .cells (E43.cs a1), E9.row r59.fl], [], 2⟩) 0 4 4 [0, 3, 5, 6, 11, 12, 19, 21, 22] [0, 1, 3, 5] ?_
      refine RefR.callC (t := 23) 4 5 [0, 3] rfl (by kernel_rfl) (F44_ok K (⟨r59.fl⟩ : S62) a1.fExprs u43.2.2) (fun r60 => ?_)
      refine RefR.nl 5 ?_
      refine Ref.sq ?_
      refine Ref.rn 8 ?_
      refine RefR.e0 (st' := ⟨[sP 0 0 0 0, sP 3 2 0 0, sI 5 x1, sI 6 u43.2.2, sI 11 x1, sI 12 u43.2.2, sP 24 0 0 0], [.cells [.own 3 r60.fl.length], .dead, .cells (E43.cs a1), E9.row r60.fl], [], 2⟩) 0 1 1 [0, 3, 5, 6, 11, 12, 24] [0, 1, 2, 4] ?_
      refine RefR.e0 (st' := ⟨[sP 0 0 0 0, sP 3 2 0 0, sI 5 x1, sI 6 u43.2.2, sI 11 x1, sI 12 u43.2.2, sP 24 0 0 0, (25, .c (.own 4 1))], [.cells [.own 3 r60.fl.length], .dead, .cells (E43.cs a1), E9.row r60.fl, .row 9 1 1 (tbl [[.str ([84, 72, 69, 78] : Bytes)]])], [], 2⟩) 1 1 2 [0, 3, 5, 6, 11, 12, 24, 25] [0, 1, 2, 3, 4] ?_
      refine RefR.conv (Conv.obj 4 (E9.row [([84, 72, 69, 78] : Bytes)]) (El.row_build E9 [([84, 72, 69, 78] : Bytes)] rfl (by kernel_rfl)) (by kernel_rfl)) ?_
      refine RefR.conv (Conv.slot 25 (.c (.own 4 ([([84, 72, 69, 78] : Bytes)].length))) (DLe.c (CLe.own (by simp <;> omega))) (by kernel_rfl)) ?_
      refine RefR.conv (Conv.freeze (st' := ⟨[(25, .c (E9.tree [([84, 72, 69, 78] : Bytes)])), sP 0 0 0 0, sP 3 2 0 0, sI 5 x1, sI 6 u43.2.2, sI 11 x1, sI 12 u43.2.2, sP 24 0 0 0], [.cells [.own 3 r60.fl.length], .dead, .cells (E43.cs a1), E9.row r60.fl, .dead], [], 2⟩) 4 (by kernel_rfl)) ?_
      refine RefR.callC (t := 26) 2 3 [0, 3] rfl (by kernel_rfl) (F33_ok K (⟨r60.fl⟩ : S62) [([84, 72, 69, 78] : Bytes)]) (fun r61 => ?_)
      refine RefR.nl 3 ?_
      refine Ref.sq ?_
      refine Ref.rn 9 ?_
      refine RefR.e0 (st' := ⟨[sP 0 0 0 0, sP 3 2 0 0, sI 5 x1, sI 11 x1, sI 12 u43.2.2, sP 27 0 0 0, (29, .c (NTT43 a1.fBlocks)), sI 30 u43.2.2], [.cells [.own 3 r61.fl.length], .dead, .cells (E43.cs a1), E9.row r61.fl], [], 2⟩) 0 4 4 [0, 3, 5, 11, 12, 27, 29, 30] [0, 1, 2, 5] ?_
      refine RefR.conv (Conv.slot 29 (.c (E44.tree a1.fBlocks)) (DLe.c (NTT43_le _)) (by kernel_rfl)) ?_
      refine RefR.callC (t := 31) 4 5 [0, 3] rfl (by kernel_rfl) (ih58 (⟨r61.fl⟩ : S62) a1.fBlocks u43.2.2) (fun r62 => ?_)
      refine RefR.nl 5 ?_
      refine Ref.rn 10 ?_
      refine RefR.e0 (st' := ⟨[sP 0 0 0 0, sP 3 2 0 0, sS 4 ([69, 76, 83, 73, 70] : Bytes), sI 5 x1, sI 11 x1, sI 12 u43.2.2], [.cells [.own 3 r62.fl.length], .dead, .cells (E43.cs a1), E9.row r62.fl], [], 2⟩) 0 1 1 [0, 3, 4, 5, 11, 12] [0, 1, 2, 4] ?_
      refine RefR.nl 1 ?_
      refine Ref.conv (Conv.keep (st' := ⟨[sP 0 0 0 0, sP 3 3 0 0, sS 4 ([69, 76, 83, 73, 70] : Bytes), sI 5 x1, sI 11 x1, sI 12 u43.2.2], [.cells [.own 2 r62.fl.length], .dead, E9.row r62.fl, .cells (E43.cs a1)], [], 2⟩) [0, 3, 4, 5, 11, 12] [0, 1, 3, 2] (by kernel_rfl)) ?_
      exact Ref.n0 (t := (r62.fl, ([69, 76, 83, 73, 70] : Bytes)))
     ·
      refine Ref.rn 11 ?_
      refine RefR.e0 (st' := ⟨[sP 0 0 0 0, sP 3 3 0 0, sS 4 u58.2, sI 5 x1, sI 11 x1, sI 12 (IntKind.i64.wrap (u43.2.2 + 1))], [.cells [.own 2 u58.1.length], .dead, E9.row u58.1, .cells (E43.cs a1)], [], 2⟩) 0 2 2 [0, 3, 4, 5, 11, 12] [0, 1, 2, 3] ?_
      refine RefR.nl 2 ?_
      exact Ref.n0 (t := (u58.1, u58.2, (IntKind.i64.wrap (u43.2.2 + 1))))
    ·
     refine Ref.conv (Conv.keep (st' := ⟨[sP 0 0 0 0, sP 3 3 0 0, sI 5 x1], [.cells [.own 2 u43.1.length], .dead, E9.row u43.1, .cells (E43.cs a1)], [], 2⟩) [0, 3, 5] [0, 1, 2, 3] (by kernel_rfl)) ?_
     exact Ref.xt 0 (t := (Sum.inl (u43.1)))
   ·
    refine Ref.rn 12 ?_
    refine RefR.e0 (st' := ⟨[sP 33 0 0 0, (35, .c (NTT43 a1.fBlocks)), sI 36 x1], [.cells [.own 2 u32.length], .dead, E9.row u32], [], 2⟩) 0 4 4 [33, 35, 36] [0, 1, 2] ?_
    refine RefR.conv (Conv.slot 35 (.c (E44.tree a1.fBlocks)) (DLe.c (NTT43_le _)) (by kernel_rfl)) ?_
    refine RefR.callC (t := 37) 4 5 [0, 2] rfl (by kernel_rfl) (ih64 (⟨u32⟩ : S62) a1.fBlocks x1 ([69, 78, 68, 95, 73, 70] : Bytes)) (fun r63 => ?_)
    refine RefR.nl 5 ?_
    refine Ref.conv (Conv.keep (st' := ⟨[], [.cells [.own 2 r63.fl.length], .dead, E9.row r63.fl], [], 2⟩) [] [0, 1, 3] (by kernel_rfl)) ?_
    exact Ref.n0 (t := ((⟨r63.fl⟩ : S62)))

  ·
   intro a0 a1
   refine DFun.intro (fn := Tryd.f57) (c := cd (bd Tryd.f57) []) (rs := fun r => ⟨[], [.cells [.own 2 r.fl.length], .dead, E9.row r.fl], [], 2⟩) (by kernel_rfl) (by kernel_rfl) (by kernel_rfl) ?_ (fun r => by kernel_rfl) (fun r => by kernel_rfl) (fun r => by kernel_rfl) (fun r => by kernel_rfl)
   rw [F57]
   refine Ref.sq ?_
   refine Ref.rn 0 ?_
   refine RefR.e0 (st' := ⟨[sP 0 0 0 0, sP 3 2 0 0], [.cells [.own 1 a0.fl.length], E9.row a0.fl, .cells (E43.cs a1)], [], 2⟩) 0 1 1 [0, 3] [0, 1, 2] ?_
   refine RefR.nl 1 ?_
   refine Ref.sq ?_
   refine Ref.rn 1 ?_
   refine RefR.e0 (st' := ⟨[sP 0 0 0 0, sP 3 2 0 0, sP 8 0 0 0], [.cells [.own 1 a0.fl.length], E9.row a0.fl, .cells (E43.cs a1)], [], 2⟩) 0 1 1 [0, 3, 8] [0, 1, 2] ?_
   refine RefR.e0 (st' := ⟨[sP 0 0 0 0, sP 3 2 0 0, sP 8 0 0 0, (9, .c (.own 3 1))], [.cells [.own 1 a0.fl.length], E9.row a0.fl, .cells (E43.cs a1), .row 9 1 1 (tbl [[.str ([67, 65, 83, 69] : Bytes)]])], [], 2⟩) 1 1 2 [0, 3, 8, 9] [0, 1, 2, 3] ?_
   refine RefR.conv (Conv.obj 3 (E9.row [([67, 65, 83, 69] : Bytes)]) (El.row_build E9 [([67, 65, 83, 69] : Bytes)] rfl (by kernel_rfl)) (by kernel_rfl)) ?_
   refine RefR.conv (Conv.slot 9 (.c (.own 3 ([([67, 65, 83, 69] : Bytes)].length))) (DLe.c (CLe.own (by simp <;> omega))) (by kernel_rfl)) ?_
   refine RefR.conv (Conv.freeze (st' := ⟨[(9, .c (E9.tree [([67, 65, 83, 69] : Bytes)])), sP 0 0 0 0, sP 3 2 0 0, sP 8 0 0 0], [.cells [.own 1 a0.fl.length], E9.row a0.fl, .cells (E43.cs a1), .dead], [], 2⟩) 3 (by kernel_rfl)) ?_
   refine RefR.callC (t := 10) 2 3 [0, 1] rfl (by kernel_rfl) (F33_ok K (⟨a0.fl⟩ : S62) [([67, 65, 83, 69] : Bytes)]) (fun r1 => ?_)
   refine RefR.nl 3 ?_
   refine Ref.sq ?_
   refine Ref.rn 2 ?_
   refine RefR.e0 (st' := ⟨[sP 0 0 0 0, sP 3 2 0 0, sP 11 0 0 0, (13, .c (E27.tree a1.fExprs))], [.cells [.own 3 r1.fl.length], .dead, .cells (E43.cs a1), E9.row r1.fl], [], 2⟩) 0 3 3 [0, 3, 11, 13] [0, 1, 2, 4] ?_
   refine RefR.callC (t := 14) 3 4 [0, 3] rfl (by kernel_rfl) (F44_ok K (⟨r1.fl⟩ : S62) a1.fExprs 0) (fun r2 => ?_)
   refine RefR.nl 4 ?_
   refine Ref.sq ?_
   refine Ref.rn 3 ?_
   refine RefR.e0 (st' := ⟨[sP 0 0 0 0, sP 3 2 0 0, sP 15 0 0 0], [.cells [.own 3 r2.fl.length], .dead, .cells (E43.cs a1), E9.row r2.fl], [], 2⟩) 0 1 1 [0, 3, 15] [0, 1, 2, 4] ?_
   refine RefR.e0 (st' := ⟨[sP 0 0 0 0, sP 3 2 0 0, sP 15 0 0 0, (16, .c (.own 4 1))], [.cells [.own 3 r2.fl.length], .dead, .cells (E43.cs a1), E9.row r2.fl, .row 9 1 1 (tbl [[.str ([79, 70] : Bytes)]])], [], 2⟩) 1 1 2 [0, 3, 15, 16] [0, 1, 2, 3, 4] ?_
   refine RefR.conv (Conv.obj 4 (E9.row [([79, 70] : Bytes)]) (El.row_build E9 [([79, 70] : Bytes)] rfl (by kernel_rfl)) (by kernel_rfl)) ?_
   refine RefR.conv (Conv.slot 16 (.c (.own 4 ([([79, 70] : Bytes)].length))) (DLe.c (CLe.own (by simp <;> omega))) (by kernel_rfl)) ?_
   refine RefR.conv (Conv.freeze (st' := ⟨[(16, .c (E9.tree [([79, 70] : Bytes)])), sP 0 0 0 0, sP 3 2 0 0, sP 15 0 0 0], [.cells [.own 3 r2.fl.length], .dead, .cells (E43.cs a1), E9.row r2.fl, .dead], [], 2⟩) 4 (by kernel_rfl)) ?_
   refine RefR.callC (t := 17) 2 3 [0, 3] rfl (by kernel_rfl) (F33_ok K (⟨r2.fl⟩ : S62) [([79, 70] : Bytes)]) (fun r3 => ?_)
   refine RefR.nl 3 ?_
   refine Ref.sq ?_
   refine Ref.sq ?_
   refine Ref.rn 4 ?_
   refine RefR.e0 (st' := ⟨[sP 0 0 0 0, sP 3 2 0 0, (19, .c (E76.tree a1.fLabels)), sI 20 (Int.ofNat a1.fLabels.length), sI 21 0], [.cells [.own 3 r3.fl.length], .dead, .cells (E43.cs a1), E9.row r3.fl], [], 2⟩) 0 4 4 [0, 3, 19, 20, 21] [0, 1, 2, 5] ?_
   refine RefR.nl 4 ?_
   refine Ref.codeEq (c' := .block 0 (cd (bd Tryd.f57) [1, 1, 1, 1, 0, 1, 0])) (by kernel_rfl) ?_
   refine Ref.block (go1 := fun u445 => ⟨[sP 0 0 0 0, sP 3 3 0 0], [.cells [.own 2 u445.length], .dead, E9.row u445, .cells (E43.cs a1)], [], 2⟩) ?_ (fun _ h => by cases h) (fun u445 => ?_)
   ·
    refine Ref.codeEq (c' := .loop (cd (bd Tryd.f57) [1, 1, 1, 1, 0, 1, 0, 0])) (by kernel_rfl) ?_
    refine Ref.conv (Conv.keep (st' := ⟨[sP 0 0 0 0, sP 3 3 0 0, (19, .c (E76.tree a1.fLabels)), sI 20 (Int.ofNat a1.fLabels.length), sI 21 0], [.cells [.own 2 r3.fl.length], .dead, E9.row r3.fl, .cells (E43.cs a1)], [], 2⟩) [0, 3, 19, 20, 21] [0, 1, 3, 2] (by kernel_rfl)) ?_
    refine Ref.loop (hd := fun u601 => ⟨[sP 0 0 0 0, sP 3 3 0 0, (19, .c (E76.tree a1.fLabels)), sI 20 (Int.ofNat a1.fLabels.length), sI 21 u601.2], [.cells [.own 2 u601.1.length], .dead, E9.row u601.1, .cells (E43.cs a1)], [], 2⟩) K (r3.fl, 0) (by kernel_rfl) (fun u601 => ?_)
    refine Ref.sq ?_
    refine Ref.rn 5 ?_
    refine RefR.e0 (st' := ⟨[sP 0 0 0 0, sP 3 3 0 0, (19, .c (E76.tree a1.fLabels)), sI 20 (Int.ofNat a1.fLabels.length), sI 21 u601.2, sB 22 (decide ((u601.2 : Int) < (Int.ofNat a1.fLabels.length)))], [.cells [.own 2 u601.1.length], .dead, E9.row u601.1, .cells (E43.cs a1)], [], 2⟩) 0 1 1 [0, 3, 19, 20, 21, 22] [0, 1, 2, 3] ?_
    refine RefR.letC (stf := fun x745 => ⟨[sP 0 0 0 0, sP 3 3 0 0, (19, .c (E76.tree a1.fLabels)), sI 20 (Int.ofNat a1.fLabels.length), sI 21 u601.2, sB 22 x745], [.cells [.own 2 u601.1.length], .dead, E9.row u601.1, .cells (E43.cs a1)], [], 2⟩) (by kernel_rfl) (fun x745 => ?_)
    refine RefR.nl 1 ?_
    refine Ref.sq ?_
    refine Ref.cn (.tmp 22) x745 (fun hc => ?_) (fun hc => ?_)
    ·
     refine Ref.sk ?_
     refine Ref.sq ?_
     refine Ref.codeEq (c' := .block 1 (cd (bd Tryd.f57) [1, 1, 1, 1, 0, 1, 0, 0, 1, 1, 0, 0])) (by kernel_rfl) ?_
     refine Ref.block (go1 := fun u816 => ⟨[sP 0 0 0 0, sP 3 3 0 0, (19, .c (E76.tree a1.fLabels)), sI 20 (Int.ofNat a1.fLabels.length), sI 21 u601.2], [.cells [.own 2 u816.length], .dead, E9.row u816, .cells (E43.cs a1)], [], 2⟩) ?_ (fun a => match a with | .inl _ => (fun h => by cases h) | .inr _ => (fun h => by cases h)) (fun u816 => ?_)
     ·
      refine Ref.sq ?_
      refine Ref.rn 6 ?_
      refine RefR.evC (vs := [inb u601.2 a1.fLabels.length]) (st' := ⟨[sP 0 0 0 0, sP 3 3 0 0, sI 4 u601.2, (5, .c (E3.tree (a1.fLabels.getD (u601.2 : Int).toNat default))), (19, .c (E76.tree a1.fLabels)), sI 20 (Int.ofNat a1.fLabels.length), sI 21 u601.2], [.cells [.own 2 u601.1.length], .dead, E9.row u601.1, .cells (E43.cs a1)], [], 2⟩) 0 5 5 [0, 3, 4, 5, 19, 20, 21] [0, 1, 2, 3] rfl (by kernel_rfl) ?_
      refine RefR.letC (stf := fun x817 => ⟨[sP 0 0 0 0, sP 3 3 0 0, sI 4 u601.2, (5, .c (E3.tree x817)), (19, .c (E76.tree a1.fLabels)), sI 20 (Int.ofNat a1.fLabels.length), sI 21 u601.2], [.cells [.own 2 u601.1.length], .dead, E9.row u601.1, .cells (E43.cs a1)], [], 2⟩) (by kernel_rfl) (fun x817 => ?_)
      refine RefR.nl 5 ?_
      refine Ref.sq ?_
      refine Ref.sq ?_
      refine Ref.rn 7 ?_
      refine RefR.e0 (st' := ⟨[sP 0 0 0 0, sP 3 3 0 0, sI 4 u601.2, (19, .c (E76.tree a1.fLabels)), sI 20 (Int.ofNat a1.fLabels.length), sI 21 u601.2, (26, .c (E3.tree x817)), sI 27 (Int.ofNat x817.length), sI 28 0], [.cells [.own 2 u601.1.length], .dead, E9.row u601.1, .cells (E43.cs a1)], [], 2⟩) 0 3 3 [0, 3, 4, 19, 20, 21, 26, 27, 28] [0, 1, 2, 3] ?_
      refine RefR.nl 3 ?_
      refine Ref.codeEq (c' := .block 2 (cd (bd Tryd.f57) [1, 1, 1, 1, 0, 1, 0, 0, 1, 1, 0, 0, 1, 0, 1, 0])) (by kernel_rfl) ?_
      refine Ref.block (go1 := fun u851 => ⟨[sP 0 0 0 0, sP 3 3 0 0, sI 4 u601.2, (19, .c (E76.tree a1.fLabels)), sI 20 (Int.ofNat a1.fLabels.length), sI 21 u601.2], [.cells [.own 2 u851.length], .dead, E9.row u851, .cells (E43.cs a1)], [], 2⟩) ?_ (fun a => match a with | .inl _ => (fun h => by cases h) | .inr (.inl _) => (fun h => by cases h) | .inr (.inr _) => (fun h => by cases h)) (fun u851 => ?_)
      ·
       refine Ref.codeEq (c' := .loop (cd (bd Tryd.f57) [1, 1, 1, 1, 0, 1, 0, 0, 1, 1, 0, 0, 1, 0, 1, 0, 0])) (by kernel_rfl) ?_
       refine Ref.loop (hd := fun u863 => ⟨[sP 0 0 0 0, sP 3 3 0 0, sI 4 u601.2, (19, .c (E76.tree a1.fLabels)), sI 20 (Int.ofNat a1.fLabels.length), sI 21 u601.2, (26, .c (E3.tree x817)), sI 27 (Int.ofNat x817.length), sI 28 u863.2], [.cells [.own 2 u863.1.length], .dead, E9.row u863.1, .cells (E43.cs a1)], [], 2⟩) K (u601.1, 0) (by kernel_rfl) (fun u863 => ?_)
       refine Ref.sq ?_
       refine Ref.rn 8 ?_
       refine RefR.e0 (st' := ⟨[sP 0 0 0 0, sP 3 3 0 0, sI 4 u601.2, (19, .c (E76.tree a1.fLabels)), sI 20 (Int.ofNat a1.fLabels.length), sI 21 u601.2, (26, .c (E3.tree x817)), sI 27 (Int.ofNat x817.length), sI 28 u863.2, sB 29 (decide ((u863.2 : Int) < (Int.ofNat x817.length)))], [.cells [.own 2 u863.1.length], .dead, E9.row u863.1, .cells (E43.cs a1)], [], 2⟩) 0 1 1 [0, 3, 4, 19, 20, 21, 26, 27, 28, 29] [0, 1, 2, 3] ?_
       refine RefR.letC (stf := fun x875 => ⟨[sP 0 0 0 0, sP 3 3 0 0, sI 4 u601.2, (19, .c (E76.tree a1.fLabels)), sI 20 (Int.ofNat a1.fLabels.length), sI 21 u601.2, (26, .c (E3.tree x817)), sI 27 (Int.ofNat x817.length), sI 28 u863.2, sB 29 x875], [.cells [.own 2 u863.1.length], .dead, E9.row u863.1, .cells (E43.cs a1)], [], 2⟩) (by kernel_rfl) (fun x875 => ?_)
       refine RefR.nl 1 ?_
       refine Ref.sq ?_
       refine Ref.cn (.tmp 29) x875 (fun hc => ?_) (fun hc => ?_)
       ·
        refine Ref.sk ?_
        refine Ref.sq ?_
        refine Ref.codeEq (c' := .block 3 (cd (bd Tryd.f57) [1, 1, 1, 1, 0, 1, 0, 0, 1, 1, 0, 0, 1, 0, 1, 0, 0, 1, 1, 0, 0])) (by kernel_rfl) ?_
        refine Ref.block (go1 := fun u880 => ⟨[sP 0 0 0 0, sP 3 3 0 0, sI 4 u601.2, (19, .c (E76.tree a1.fLabels)), sI 20 (Int.ofNat a1.fLabels.length), sI 21 u601.2, (26, .c (E3.tree x817)), sI 27 (Int.ofNat x817.length), sI 28 u863.2], [.cells [.own 2 u880.length], .dead, E9.row u880, .cells (E43.cs a1)], [], 2⟩) ?_ (fun a => match a with | .inl _ => (fun h => by cases h) | .inr (.inl _) => (fun h => by cases h) | .inr (.inr (.inl _)) => (fun h => by cases h) | .inr (.inr (.inr _)) => (fun h => by cases h)) (fun u880 => ?_)
        ·
         refine Ref.sq ?_
         refine Ref.rn 9 ?_
         refine RefR.evC (vs := [inb u863.2 x817.length]) (st' := ⟨[sP 0 0 0 0, sP 3 3 0 0, sI 4 u601.2, sI 6 u863.2, sI 7 (x817.getD (u863.2 : Int).toNat default), (19, .c (E76.tree a1.fLabels)), sI 20 (Int.ofNat a1.fLabels.length), sI 21 u601.2, (26, .c (E3.tree x817)), sI 27 (Int.ofNat x817.length), sI 28 u863.2], [.cells [.own 2 u863.1.length], .dead, E9.row u863.1, .cells (E43.cs a1)], [], 2⟩) 0 5 5 [0, 3, 4, 6, 7, 19, 20, 21, 26, 27, 28] [0, 1, 2, 3] rfl (by kernel_rfl) ?_
         refine RefR.nl 5 ?_
         refine Ref.sq ?_
         refine Ref.sq ?_
         refine Ref.rn 10 ?_
         refine RefR.e0 (st' := ⟨[sP 0 0 0 0, sP 3 3 0 0, sI 4 u601.2, sI 7 (x817.getD (u863.2 : Int).toNat default), (19, .c (E76.tree a1.fLabels)), sI 20 (Int.ofNat a1.fLabels.length), sI 21 u601.2, (26, .c (E3.tree x817)), sI 27 (Int.ofNat x817.length), sI 28 u863.2, sB 34 (decide ((u863.2 : Int) > 0))], [.cells [.own 2 u863.1.length], .dead, E9.row u863.1, .cells (E43.cs a1)], [], 2⟩) 0 2 2 [0, 3, 4, 7, 19, 20, 21, 26, 27, 28, 34] [0, 1, 2, 3] ?_
         refine RefR.nl 2 ?_
         refine Ref.bind (go1 := fun u882 => ⟨[sP 0 0 0 0, sP 3 3 0 0, sI 4 u601.2, sI 7 (x817.getD (u863.2 : Int).toNat default), (19, .c (E76.tree a1.fLabels)), sI 20 (Int.ofNat a1.fLabels.length), sI 21 u601.2, (26, .c (E3.tree x817)), sI 27 (Int.ofNat x817.length), sI 28 u863.2], [.cells [.own 2 u882.length], .dead, E9.row u882, .cells (E43.cs a1)], [], 2⟩) ?_ (fun u882 => ?_)
         ·
          refine Ref.cn (.tmp 34) (decide ((u863.2 : Int) > 0)) (fun hc => ?_) (fun hc => ?_)
          ·
           refine Ref.rn 11 ?_
           refine RefR.e0 (st' := ⟨[sP 0 0 0 0, sP 3 3 0 0, sI 4 u601.2, sI 7 (x817.getD (u863.2 : Int).toNat default), (19, .c (E76.tree a1.fLabels)), sI 20 (Int.ofNat a1.fLabels.length), sI 21 u601.2, (26, .c (E3.tree x817)), sI 27 (Int.ofNat x817.length), sI 28 u863.2, sP 35 0 0 0], [.cells [.own 2 u863.1.length], .dead, E9.row u863.1, .cells (E43.cs a1)], [], 2⟩) 0 1 1 [0, 3, 4, 7, 19, 20, 21, 26, 27, 28, 35] [0, 1, 2, 3] ?_
           refine RefR.e0 (st' := ⟨[sP 0 0 0 0, sP 3 3 0 0, sI 4 u601.2, sI 7 (x817.getD (u863.2 : Int).toNat default), (19, .c (E76.tree a1.fLabels)), sI 20 (Int.ofNat a1.fLabels.length), sI 21 u601.2, (26, .c (E3.tree x817)), sI 27 (Int.ofNat x817.length), sI 28 u863.2, sP 35 0 0 0, (36, .c (.own 4 1))], [.cells [.own 2 u863.1.length], .dead, E9.row u863.1, .cells (E43.cs a1), .row 9 1 1 (tbl [[.str ([44] : Bytes)]])], [], 2⟩) 1 1 2 [0, 3, 4, 7, 19, 20, 21, 26, 27, 28, 35, 36] [0, 1, 2, 3, 4] ?_
           refine RefR.conv (Conv.obj 4 (E9.row [([44] : Bytes)]) (El.row_build E9 [([44] : Bytes)] rfl (by kernel_rfl)) (by kernel_rfl)) ?_
           refine RefR.conv (Conv.slot 36 (.c (.own 4 ([([44] : Bytes)].length))) (DLe.c (CLe.own (by simp <;> omega))) (by kernel_rfl)) ?_
           refine RefR.conv (Conv.freeze (st' := ⟨[(36, .c (E9.tree [([44] : Bytes)])), sP 0 0 0 0, sP 3 3 0 0, sI 4 u601.2, sI 7 (x817.getD (u863.2 : Int).toNat default), (19, .c (E76.tree a1.fLabels)), sI 20 (Int.ofNat a1.fLabels.length), sI 21 u601.2, (26, .c (E3.tree x817)), sI 27 (Int.ofNat x817.length), sI 28 u863.2, sP 35 0 0 0], [.cells [.own 2 u863.1.length], .dead, E9.row u863.1, .cells (E43.cs a1), .dead], [], 2⟩) 4 (by kernel_rfl)) ?_
           refine RefR.callC (t := 37) 2 3 [0, 2] rfl (by kernel_rfl) (F33_ok K (⟨u863.1⟩ : S62) [([44] : Bytes)]) (fun r883 => ?_)
           refine RefR.nl 3 ?_
           refine Ref.conv (Conv.keep (st' := ⟨[sP 0 0 0 0, sP 3 3 0 0, sI 4 u601.2, sI 7 (x817.getD (u863.2 : Int).toNat default), (19, .c (E76.tree a1.fLabels)), sI 20 (Int.ofNat a1.fLabels.length), sI 21 u601.2, (26, .c (E3.tree x817)), sI 27 (Int.ofNat x817.length), sI 28 u863.2], [.cells [.own 2 r883.fl.length], .dead, E9.row r883.fl, .cells (E43.cs a1)], [], 2⟩) [0, 3, 4, 7, 19, 20, 21, 26, 27, 28] [0, 1, 5, 3] (by kernel_rfl)) ?_
           exact Ref.n0 (t := (r883.fl))
          ·
           refine Ref.sk ?_
           refine Ref.conv (Conv.keep (st' := ⟨[sP 0 0 0 0, sP 3 3 0 0, sI 4 u601.2, sI 7 (x817.getD (u863.2 : Int).toNat default), (19, .c (E76.tree a1.fLabels)), sI 20 (Int.ofNat a1.fLabels.length), sI 21 u601.2, (26, .c (E3.tree x817)), sI 27 (Int.ofNat x817.length), sI 28 u863.2], [.cells [.own 2 u863.1.length], .dead, E9.row u863.1, .cells (E43.cs a1)], [], 2⟩) [0, 3, 4, 7, 19, 20, 21, 26, 27, 28] [0, 1, 2, 3] (by kernel_rfl)) ?_
           exact Ref.n0 (t := (u863.1))
         ·
          refine Ref.rn 12 ?_
          refine RefR.e0 (st' := ⟨[sP 0 0 0 0, sP 3 3 0 0, sI 4 u601.2, (19, .c (E76.tree a1.fLabels)), sI 20 (Int.ofNat a1.fLabels.length), sI 21 u601.2, (26, .c (E3.tree x817)), sI 27 (Int.ofNat x817.length), sI 28 u863.2, sP 38 0 0 0, sI 39 (x817.getD (u863.2 : Int).toNat default)], [.cells [.own 2 u882.length], .dead, E9.row u882, .cells (E43.cs a1)], [], 2⟩) 0 2 2 [0, 3, 4, 19, 20, 21, 26, 27, 28, 38, 39] [0, 1, 2, 3] ?_
          refine RefR.callC (t := 40) 2 3 [0, 2] rfl (by kernel_rfl) (F36_ok K (⟨u882⟩ : S62) (x817.getD (u863.2 : Int).toNat default)) (fun r884 => ?_)
          refine RefR.nl 3 ?_
          refine Ref.conv (Conv.keep (st' := ⟨[sP 0 0 0 0, sP 3 3 0 0, sI 4 u601.2, (19, .c (E76.tree a1.fLabels)), sI 20 (Int.ofNat a1.fLabels.length), sI 21 u601.2, (26, .c (E3.tree x817)), sI 27 (Int.ofNat x817.length), sI 28 u863.2], [.cells [.own 2 r884.fl.length], .dead, E9.row r884.fl, .cells (E43.cs a1)], [], 2⟩) [0, 3, 4, 19, 20, 21, 26, 27, 28] [0, 1, 4, 3] (by kernel_rfl)) ?_
          exact Ref.n0 (t := (r884.fl))
        ·
         refine Ref.rn 13 ?_
         refine RefR.e0 (st' := ⟨[sP 0 0 0 0, sP 3 3 0 0, sI 4 u601.2, (19, .c (E76.tree a1.fLabels)), sI 20 (Int.ofNat a1.fLabels.length), sI 21 u601.2, (26, .c (E3.tree x817)), sI 27 (Int.ofNat x817.length), sI 28 (IntKind.i64.wrap (u863.2 + 1))], [.cells [.own 2 u880.length], .dead, E9.row u880, .cells (E43.cs a1)], [], 2⟩) 0 2 2 [0, 3, 4, 19, 20, 21, 26, 27, 28] [0, 1, 2, 3] ?_
         refine RefR.nl 2 ?_
         exact Ref.n0 (t := (u880, (IntKind.i64.wrap (u863.2 + 1))))
       ·
        refine Ref.conv (Conv.keep (st' := ⟨[sP 0 0 0 0, sP 3 3 0 0, sI 4 u601.2, (19, .c (E76.tree a1.fLabels)), sI 20 (Int.ofNat a1.fLabels.length), sI 21 u601.2], [.cells [.own 2 u863.1.length], .dead, E9.row u863.1, .cells (E43.cs a1)], [], 2⟩) [0, 3, 4, 19, 20, 21] [0, 1, 2, 3] (by kernel_rfl)) ?_
        exact Ref.xt 2 (t := (Sum.inl (u863.1)))
      ·
       refine Ref.sq ?_
       refine Ref.rn 14 ?_
       refine RefR.e0 (st' := ⟨[sP 0 0 0 0, sP 3 3 0 0, sI 4 u601.2, (19, .c (E76.tree a1.fLabels)), sI 20 (Int.ofNat a1.fLabels.length), sI 21 u601.2, sP 42 0 0 0], [.cells [.own 2 u851.length], .dead, E9.row u851, .cells (E43.cs a1)], [], 2⟩) 0 1 1 [0, 3, 4, 19, 20, 21, 42] [0, 1, 2, 3] ?_
       refine RefR.e0 (st' := ⟨[sP 0 0 0 0, sP 3 3 0 0, sI 4 u601.2, (19, .c (E76.tree a1.fLabels)), sI 20 (Int.ofNat a1.fLabels.length), sI 21 u601.2, sP 42 0 0 0, (43, .c (.own 4 1))], [.cells [.own 2 u851.length], .dead, E9.row u851, .cells (E43.cs a1), .row 9 1 1 (tbl [[.str ([58] : Bytes)]])], [], 2⟩) 1 1 2 [0, 3, 4, 19, 20, 21, 42, 43] [0, 1, 2, 3, 4] ?_
       refine RefR.conv (Conv.obj 4 (E9.row [([58] : Bytes)]) (El.row_build E9 [([58] : Bytes)] rfl (by kernel_rfl)) (by kernel_rfl)) ?_
       refine RefR.conv (Conv.slot 43 (.c (.own 4 ([([58] : Bytes)].length))) (DLe.c (CLe.own (by simp <;> omega))) (by kernel_rfl)) ?_
       refine RefR.conv (Conv.freeze (st' := ⟨[(43, .c (E9.tree [([58] : Bytes)])), sP 0 0 0 0, sP 3 3 0 0, sI 4 u601.2, (19, .c (E76.tree a1.fLabels)), sI 20 (Int.ofNat a1.fLabels.length), sI 21 u601.2, sP 42 0 0 0], [.cells [.own 2 u851.length], .dead, E9.row u851, .cells (E43.cs a1), .dead], [], 2⟩) 4 (by kernel_rfl)) ?_
       refine RefR.callC (t := 44) 2 3 [0, 2] rfl (by kernel_rfl) (F33_ok K (⟨u851⟩ : S62) [([58] : Bytes)]) (fun r885 => ?_)
       refine RefR.nl 3 ?_
       refine Ref.rn 15 ?_
       refine RefR.e0 (st' := ⟨[sP 0 0 0 0, sP 3 2 0 0, (19, .c (E76.tree a1.fLabels)), sI 20 (Int.ofNat a1.fLabels.length), sI 21 u601.2, sP 45 0 0 0, (47, .c (NTT43 a1.fBlocks)), sI 48 u601.2], [.cells [.own 3 r885.fl.length], .dead, .cells (E43.cs a1), E9.row r885.fl], [], 2⟩) 0 4 4 [0, 3, 19, 20, 21, 45, 47, 48] [0, 1, 3, 5] ?_
       refine RefR.conv (Conv.slot 47 (.c (E44.tree a1.fBlocks)) (DLe.c (NTT43_le _)) (by kernel_rfl)) ?_
       refine RefR.callC (t := 49) 4 5 [0, 3] rfl (by kernel_rfl) (ih58 (⟨r885.fl⟩ : S62) a1.fBlocks u601.2) (fun r886 => ?_)
       refine RefR.nl 5 ?_
       refine Ref.conv (Conv.keep (st' := ⟨[sP 0 0 0 0, sP 3 3 0 0, (19, .c (E76.tree a1.fLabels)), sI 20 (Int.ofNat a1.fLabels.length), sI 21 u601.2], [.cells [.own 2 r886.fl.length], .dead, E9.row r886.fl, .cells (E43.cs a1)], [], 2⟩) [0, 3, 19, 20, 21] [0, 1, 4, 2] (by kernel_rfl)) ?_
       exact Ref.n0 (t := (r886.fl))
     ·
      refine Ref.rn 16 ?_
      refine RefR.e0 (st' := ⟨[sP 0 0 0 0, sP 3 3 0 0, (19, .c (E76.tree a1.fLabels)), sI 20 (Int.ofNat a1.fLabels.length), sI 21 (IntKind.i64.wrap (u601.2 + 1))], [.cells [.own 2 u816.length], .dead, E9.row u816, .cells (E43.cs a1)], [], 2⟩) 0 2 2 [0, 3, 19, 20, 21] [0, 1, 2, 3] ?_
      refine RefR.nl 2 ?_
      exact Ref.n0 (t := (u816, (IntKind.i64.wrap (u601.2 + 1))))
    ·
     refine Ref.conv (Conv.keep (st' := ⟨[sP 0 0 0 0, sP 3 3 0 0], [.cells [.own 2 u601.1.length], .dead, E9.row u601.1, .cells (E43.cs a1)], [], 2⟩) [0, 3] [0, 1, 2, 3] (by kernel_rfl)) ?_
     exact Ref.xt 0 (t := (Sum.inl (u601.1)))
   ·
    refine Ref.rn 17 ?_
    refine RefR.e0 (st' := ⟨[sP 51 0 0 0, (53, .c (NTT43 a1.fBlocks)), sI 56 (Int.ofNat a1.fLabels.length)], [.cells [.own 2 u445.length], .dead, E9.row u445], [], 2⟩) 0 6 6 [51, 53, 56] [0, 1, 2] ?_
    refine RefR.conv (Conv.slot 53 (.c (E44.tree a1.fBlocks)) (DLe.c (NTT43_le _)) (by kernel_rfl)) ?_
    refine RefR.callC (t := 57) 6 7 [0, 2] rfl (by kernel_rfl) (ih64 (⟨u445⟩ : S62) a1.fBlocks (Int.ofNat a1.fLabels.length) ([69, 78, 68, 95, 67, 65, 83, 69] : Bytes)) (fun r887 => ?_)
    refine RefR.nl 7 ?_
    refine Ref.conv (Conv.keep (st' := ⟨[], [.cells [.own 2 r887.fl.length], .dead, E9.row r887.fl], [], 2⟩) [] [0, 1, 3] (by kernel_rfl)) ?_
    exact Ref.n0 (t := ((⟨r887.fl⟩ : S62)))

  ·
   intro a0 a1 a2
   refine DFun.intro (fn := Tryd.f58) (c := cd (bd Tryd.f58) []) (rs := fun r => ⟨[], [.cells [.own 2 r.fl.length], .dead, E9.row r.fl], [], 2⟩) (by kernel_rfl) (by kernel_rfl) (by kernel_rfl) ?_ (fun r => by kernel_rfl) (fun r => by kernel_rfl) (fun r => by kernel_rfl) (fun r => by kernel_rfl)
   rw [F58]
   refine Ref.sq ?_
   refine Ref.rn 0 ?_
   refine RefR.e0 (st' := ⟨[sP 0 0 0 0, (1, .c (E44.tree a1)), sI 2 a2, sB 9 (decide ((a2 : Int) < (Int.ofNat a1.length)))], [.cells [.own 1 a0.fl.length], E9.row a0.fl], [], 2⟩) 0 4 4 [0, 1, 2, 9] [0, 1] ?_
   refine RefR.letC (stf := fun x1 => ⟨[sP 0 0 0 0, (1, .c (E44.tree a1)), sI 2 a2, sB 9 x1], [.cells [.own 1 a0.fl.length], E9.row a0.fl], [], 2⟩) (by kernel_rfl) (fun x1 => ?_)
   refine RefR.nl 4 ?_
   refine Ref.cn (.tmp 9) x1 (fun hc => ?_) (fun hc => ?_)
   ·
    refine Ref.rn 1 ?_
    refine RefR.e0 (st' := ⟨[sP 10 0 0 0, (11, .c (E44.tree a1)), sI 12 a2], [.cells [.own 1 a0.fl.length], E9.row a0.fl], [], 2⟩) 0 3 3 [10, 11, 12] [0, 1] ?_
    refine RefR.evC (vs := [inb a2 a1.length]) (st' := ⟨[sP 10 0 0 0, (14, .c (E43.tree (a1.getD (a2 : Int).toNat default)))], [.cells [.own 1 a0.fl.length], E9.row a0.fl], [], 2⟩) 3 2 5 [10, 14] [0, 1] rfl (by kernel_rfl) ?_
    refine RefR.callC (t := 15) 5 6 [0, 1] rfl (by kernel_rfl) (ih35 (⟨a0.fl⟩ : S62) (a1.getD (a2 : Int).toNat default)) (fun r2 => ?_)
    refine RefR.nl 6 ?_
    refine Ref.conv (Conv.keep (st' := ⟨[], [.cells [.own 2 r2.fl.length], .dead, E9.row r2.fl], [], 2⟩) [] [0, 1, 2] (by kernel_rfl)) ?_
    exact Ref.n0 (t := ((⟨r2.fl⟩ : S62)))
   ·
    refine Ref.sk ?_
    refine Ref.conv (Conv.move (st' := ⟨[sP 0 0 0 0, (1, .c (E44.tree a1)), sI 2 a2, sB 9 x1], [.cells [.own 2 a0.fl.length], .dead, E9.row a0.fl], [], 2⟩) 1 (by kernel_rfl) (by kernel_rfl)) ?_
    refine Ref.conv (Conv.keep (st' := ⟨[], [.cells [.own 2 a0.fl.length], .dead, E9.row a0.fl], [], 2⟩) [] [0, 1, 2] (by kernel_rfl)) ?_
    exact Ref.n0 (t := ((⟨a0.fl⟩ : S62)))

  ·
   intro a0 a1 a2 a3
   refine DFun.intro (fn := Tryd.f64) (c := cd (bd Tryd.f64) []) (rs := fun r => ⟨[], [.cells [.own 2 r.fl.length], .dead, E9.row r.fl], [], 2⟩) (by kernel_rfl) (by kernel_rfl) (by kernel_rfl) ?_ (fun r => by kernel_rfl) (fun r => by kernel_rfl) (fun r => by kernel_rfl) (fun r => by kernel_rfl)
   rw [F64]
   refine Ref.sq ?_
   refine Ref.sq ?_
   refine Ref.rn 0 ?_
   refine RefR.e0 (st' := ⟨[sP 0 0 0 0, (1, .c (E44.tree a1)), sI 2 a2, sS 3 a3, sB 12 (decide ((a2 : Int) < (Int.ofNat a1.length))), (13, .c (E44.tree a1)), sI 14 a2], [.cells [.own 1 a0.fl.length], E9.row a0.fl], [(14, [(12, true)]), (13, [(12, true)])], 2⟩) 0 7 7 [0, 1, 2, 3, 12, 13, 14] [0, 1] ?_
   refine RefR.letC (stf := fun x1 => ⟨[sP 0 0 0 0, (1, .c (E44.tree a1)), sI 2 a2, sS 3 a3, sB 12 x1, (13, .c (E44.tree a1)), sI 14 a2], [.cells [.own 1 a0.fl.length], E9.row a0.fl], [(14, [(12, true)]), (13, [(12, true)])], 2⟩) (by kernel_rfl) (fun x1 => ?_)
   refine RefR.evC (vs := [!x1 || inb a2 a1.length]) (st' := ⟨[sP 0 0 0 0, (1, .c (E44.tree a1)), sI 2 a2, sS 3 a3, sB 19 (x1 && (decide (((Int.ofNat (a1.getD (a2 : Int).toNat default).length) : Int) > 0)))], [.cells [.own 1 a0.fl.length], E9.row a0.fl], [], 2⟩) 7 5 12 [0, 1, 2, 3, 19] [0, 1] rfl (by kernel_rfl) ?_
   refine RefR.letC (stf := fun x2 => ⟨[sP 0 0 0 0, (1, .c (E44.tree a1)), sI 2 a2, sS 3 a3, sB 19 x2], [.cells [.own 1 a0.fl.length], E9.row a0.fl], [], 2⟩) (by kernel_rfl) (fun x2 => ?_)
   refine RefR.nl 12 ?_
   refine Ref.bind (go1 := fun u5 => ⟨[sP 0 0 0 0, sS 3 a3], [.cells [.own 2 u5.length], .dead, E9.row u5], [], 2⟩) ?_ (fun u5 => ?_)
   ·
    refine Ref.cn (.tmp 19) x2 (fun hc => ?_) (fun hc => ?_)
    ·
     refine Ref.sq ?_
     refine Ref.rn 1 ?_
     refine RefR.e0 (st' := ⟨[sP 0 0 0 0, (1, .c (E44.tree a1)), sI 2 a2, sS 3 a3, sP 20 0 0 0], [.cells [.own 1 a0.fl.length], E9.row a0.fl], [], 2⟩) 0 1 1 [0, 1, 2, 3, 20] [0, 1] ?_
     refine RefR.e0 (st' := ⟨[sP 0 0 0 0, (1, .c (E44.tree a1)), sI 2 a2, sS 3 a3, sP 20 0 0 0, (21, .c (.own 2 1))], [.cells [.own 1 a0.fl.length], E9.row a0.fl, .row 9 1 1 (tbl [[.str ([69, 76, 83, 69] : Bytes)]])], [], 2⟩) 1 1 2 [0, 1, 2, 3, 20, 21] [0, 1, 2] ?_
     refine RefR.conv (Conv.obj 2 (E9.row [([69, 76, 83, 69] : Bytes)]) (El.row_build E9 [([69, 76, 83, 69] : Bytes)] rfl (by kernel_rfl)) (by kernel_rfl)) ?_
     refine RefR.conv (Conv.slot 21 (.c (.own 2 ([([69, 76, 83, 69] : Bytes)].length))) (DLe.c (CLe.own (by simp <;> omega))) (by kernel_rfl)) ?_
     refine RefR.conv (Conv.freeze (st' := ⟨[(21, .c (E9.tree [([69, 76, 83, 69] : Bytes)])), sP 0 0 0 0, (1, .c (E44.tree a1)), sI 2 a2, sS 3 a3, sP 20 0 0 0], [.cells [.own 1 a0.fl.length], E9.row a0.fl, .dead], [], 2⟩) 2 (by kernel_rfl)) ?_
     refine RefR.callC (t := 22) 2 3 [0, 1] rfl (by kernel_rfl) (F33_ok K (⟨a0.fl⟩ : S62) [([69, 76, 83, 69] : Bytes)]) (fun r6 => ?_)
     refine RefR.nl 3 ?_
     refine Ref.rn 2 ?_
     refine RefR.e0 (st' := ⟨[sP 0 0 0 0, sS 3 a3, sP 23 0 0 0, (24, .c (E44.tree a1)), sI 25 a2], [.cells [.own 2 r6.fl.length], .dead, E9.row r6.fl], [], 2⟩) 0 3 3 [0, 3, 23, 24, 25] [0, 1, 3] ?_
     refine RefR.evC (vs := [inb a2 a1.length]) (st' := ⟨[sP 0 0 0 0, sS 3 a3, sP 23 0 0 0, (27, .c (E43.tree (a1.getD (a2 : Int).toNat default)))], [.cells [.own 2 r6.fl.length], .dead, E9.row r6.fl], [], 2⟩) 3 2 5 [0, 3, 23, 27] [0, 1, 2] rfl (by kernel_rfl) ?_
     refine RefR.callC (t := 28) 5 6 [0, 2] rfl (by kernel_rfl) (ih35 (⟨r6.fl⟩ : S62) (a1.getD (a2 : Int).toNat default)) (fun r7 => ?_)
     refine RefR.nl 6 ?_
     refine Ref.conv (Conv.keep (st' := ⟨[sP 0 0 0 0, sS 3 a3], [.cells [.own 2 r7.fl.length], .dead, E9.row r7.fl], [], 2⟩) [0, 3] [0, 1, 3] (by kernel_rfl)) ?_
     exact Ref.n0 (t := (r7.fl))
    ·
     refine Ref.sk ?_
     refine Ref.conv (Conv.move (st' := ⟨[sP 0 0 0 0, (1, .c (E44.tree a1)), sI 2 a2, sS 3 a3, sB 19 x2], [.cells [.own 2 a0.fl.length], .dead, E9.row a0.fl], [], 2⟩) 1 (by kernel_rfl) (by kernel_rfl)) ?_
     refine Ref.conv (Conv.keep (st' := ⟨[sP 0 0 0 0, sS 3 a3], [.cells [.own 2 a0.fl.length], .dead, E9.row a0.fl], [], 2⟩) [0, 3] [0, 1, 2] (by kernel_rfl)) ?_
     exact Ref.n0 (t := (a0.fl))
   ·
    refine Ref.rn 3 ?_
    refine RefR.e0 (st' := ⟨[sP 29 0 0 0, sS 30 a3], [.cells [.own 2 u5.length], .dead, E9.row u5], [], 2⟩) 0 2 2 [29, 30] [0, 1, 2] ?_
    refine RefR.e0 (st' := ⟨[sP 29 0 0 0, (31, .c (.own 3 1))], [.cells [.own 2 u5.length], .dead, E9.row u5, .row 9 1 1 (tbl [[.str a3]])], [], 2⟩) 2 1 3 [29, 31] [0, 1, 2, 3] ?_
    refine RefR.conv (Conv.obj 3 (E9.row [a3]) (El.row_build E9 [a3] rfl (by kernel_rfl)) (by kernel_rfl)) ?_
    refine RefR.conv (Conv.slot 31 (.c (.own 3 ([a3].length))) (DLe.c (CLe.own (by simp <;> omega))) (by kernel_rfl)) ?_
    refine RefR.conv (Conv.freeze (st' := ⟨[(31, .c (E9.tree [a3])), sP 29 0 0 0], [.cells [.own 2 u5.length], .dead, E9.row u5, .dead], [], 2⟩) 3 (by kernel_rfl)) ?_
    refine RefR.callC (t := 32) 3 4 [0, 2] rfl (by kernel_rfl) (F33_ok K (⟨u5⟩ : S62) [a3]) (fun r8 => ?_)
    refine RefR.nl 4 ?_
    refine Ref.conv (Conv.keep (st' := ⟨[], [.cells [.own 2 r8.fl.length], .dead, E9.row r8.fl], [], 2⟩) [] [0, 1, 4] (by kernel_rfl)) ?_
    exact Ref.n0 (t := ((⟨r8.fl⟩ : S62)))

theorem F35_ok (K : Nat) (a0 : S62) (a1 : (List S43)) : DFun Tryd.prog 35 [.c (.ptr 0 0 0), .c (E43.tree a1)] [.cells [.own 1 a0.fl.length], E9.row a0.fl] (fnS (F35 K a0 a1)) (fun r => .tup []) (fun r => [.cells [.own 2 r.fl.length], .dead, E9.row r.fl]) := (G35_ok K).1 a0 a1

theorem F51_ok (K : Nat) (a0 : S62) (a1 : S43) : DFun Tryd.prog 51 [.c (.ptr 0 0 0), .agg (E43.cs a1)] [.cells [.own 1 a0.fl.length], E9.row a0.fl] (fnS (F51 K a0 a1)) (fun r => .tup []) (fun r => [.cells [.own 2 r.fl.length], .dead, E9.row r.fl]) := (G35_ok K).2.1 a0 a1

theorem F56_ok (K : Nat) (a0 : S62) (a1 : S43) : DFun Tryd.prog 56 [.c (.ptr 0 0 0), .agg (E43.cs a1)] [.cells [.own 1 a0.fl.length], E9.row a0.fl] (fnS (F56 K a0 a1)) (fun r => .tup []) (fun r => [.cells [.own 2 r.fl.length], .dead, E9.row r.fl]) := (G35_ok K).2.2.1 a0 a1

theorem F57_ok (K : Nat) (a0 : S62) (a1 : S43) : DFun Tryd.prog 57 [.c (.ptr 0 0 0), .agg (E43.cs a1)] [.cells [.own 1 a0.fl.length], E9.row a0.fl] (fnS (F57 K a0 a1)) (fun r => .tup []) (fun r => [.cells [.own 2 r.fl.length], .dead, E9.row r.fl]) := (G35_ok K).2.2.2.1 a0 a1

theorem F58_ok (K : Nat) (a0 : S62) (a1 : (List (List S43))) (a2 : Int) : DFun Tryd.prog 58 [.c (.ptr 0 0 0), .c (E44.tree a1), .c (.val (.int .i64 a2))] [.cells [.own 1 a0.fl.length], E9.row a0.fl] (fnS (F58 K a0 a1 a2)) (fun r => .tup []) (fun r => [.cells [.own 2 r.fl.length], .dead, E9.row r.fl]) := (G35_ok K).2.2.2.2.1 a0 a1 a2

theorem F64_ok (K : Nat) (a0 : S62) (a1 : (List (List S43))) (a2 : Int) (a3 : Bytes) : DFun Tryd.prog 64 [.c (.ptr 0 0 0), .c (E44.tree a1), .c (.val (.int .i64 a2)), .c (.str a3)] [.cells [.own 1 a0.fl.length], E9.row a0.fl] (fnS (F64 K a0 a1 a2 a3)) (fun r => .tup []) (fun r => [.cells [.own 2 r.fl.length], .dead, E9.row r.fl]) := (G35_ok K).2.2.2.2.2 a0 a1 a2 a3

/-- (*governor/print.writer).head -/
def F49 (K : Nat) (a0 : S62) (a1 : S54) : Option ((S62) ⊕ (S62)) :=
 ((fnS (F33 K (⟨a0.fl⟩ : S62) [a1.fName, ([40] : Bytes)])).bind (fun r1 => (bindS (blockS ((iter K (fun (u63 : (List Bytes) × Int) => (letV (decide ((u63.2 : Int) < (Int.ofNat a1.fParams.length))) (fun (x79 : Bool) => (if x79 = true then (bindS (blockS (chk [inb u63.2 a1.fParams.length] (bindS (if (decide ((u63.2 : Int) > 0)) = true then ((fnS (F33 K (⟨u63.1⟩ : S62) [([44] : Bytes)])).bind (fun r89 => (some (.inr (r89.fl))))) else (some (.inr (u63.1)))) (fun (u88 : (List Bytes)) => (letV ((a1.fParams.getD (u63.2 : Int).toNat default).fName) (fun (x90 : Bytes) => ((fnS (F33 K (⟨u88⟩ : S62) [x90, ([58] : Bytes)])).bind (fun r91 => ((fnS (F29 K (⟨r91.fl⟩ : S62) ((a1.fParams.getD (u63.2 : Int).toNat default).fType))).bind (fun r92 => (some (.inr (r92.fl))))))))))))) (fun (u86 : (List Bytes)) => (some (.inr (u86, (IntKind.i64.wrap (u63.2 + 1))))))) else (some (.inl (Sum.inl (u63.1)))))))) (r1.fl, 0)).map .inl)) (fun (u47 : (List Bytes)) => ((fnS (F33 K (⟨u47⟩ : S62) [([41] : Bytes)])).bind (fun r93 => (bindS (if ((a1.fResult.fKind : Int) != 0) = true then ((fnS (F33 K (⟨r93.fl⟩ : S62) [([58] : Bytes)])).bind (fun r97 => ((fnS (F29 K (⟨r97.fl⟩ : S62) a1.fResult)).bind (fun r98 => (some (.inr (r98.fl))))))) else (some (.inr (r93.fl)))) (fun (u96 : (List Bytes)) => ((fnS (F33 K (⟨u96⟩ : S62) [([59] : Bytes)])).bind (fun r99 => (some (.inr ((⟨r99.fl⟩ : S62))))))))))))))

theorem F49_ok (K : Nat) (a0 : S62) (a1 : S54) : DFun Tryd.prog 49 [.c (.ptr 0 0 0), .agg (E54.cs a1)] [.cells [.own 1 a0.fl.length], E9.row a0.fl] (fnS (F49 K a0 a1)) (fun r => .tup []) (fun r => [.cells [.own 2 r.fl.length], .dead, E9.row r.fl]) := by
 refine DFun.intro (fn := Tryd.f49) (c := cd (bd Tryd.f49) []) (rs := fun r => ⟨[], [.cells [.own 2 r.fl.length], .dead, E9.row r.fl], [], 2⟩) (by kernel_rfl) (by kernel_rfl) (by kernel_rfl) ?_ (fun r => by kernel_rfl) (fun r => by kernel_rfl) (fun r => by kernel_rfl) (fun r => by kernel_rfl)
 unfold F49
 refine Ref.sq ?_
 refine Ref.rn 0 ?_
 refine RefR.e0 (st' := ⟨[sP 0 0 0 0, sP 3 2 0 0], [.cells [.own 1 a0.fl.length], E9.row a0.fl, .cells (E54.cs a1)], [], 2⟩) 0 1 1 [0, 3] [0, 1, 2] ?_
 refine RefR.nl 1 ?_
 refine Ref.sq ?_
 refine Ref.rn 1 ?_
 refine RefR.e0 (st' := ⟨[sP 0 0 0 0, sP 3 2 0 0, sP 6 0 0 0, sS 8 a1.fName], [.cells [.own 1 a0.fl.length], E9.row a0.fl, .cells (E54.cs a1)], [], 2⟩) 0 3 3 [0, 3, 6, 8] [0, 1, 2] ?_
 refine RefR.e0 (st' := ⟨[sP 0 0 0 0, sP 3 2 0 0, sP 6 0 0 0, (9, .c (.own 3 2))], [.cells [.own 1 a0.fl.length], E9.row a0.fl, .cells (E54.cs a1), .row 9 1 2 (tbl [[.str a1.fName], [.str ([40] : Bytes)]])], [], 2⟩) 3 1 4 [0, 3, 6, 9] [0, 1, 2, 3] ?_
 refine RefR.conv (Conv.obj 3 (E9.row [a1.fName, ([40] : Bytes)]) (El.row_build E9 [a1.fName, ([40] : Bytes)] rfl (by kernel_rfl)) (by kernel_rfl)) ?_
 refine RefR.conv (Conv.slot 9 (.c (.own 3 ([a1.fName, ([40] : Bytes)].length))) (DLe.c (CLe.own (by simp <;> omega))) (by kernel_rfl)) ?_
 refine RefR.conv (Conv.freeze (st' := ⟨[(9, .c (E9.tree [a1.fName, ([40] : Bytes)])), sP 0 0 0 0, sP 3 2 0 0, sP 6 0 0 0], [.cells [.own 1 a0.fl.length], E9.row a0.fl, .cells (E54.cs a1), .dead], [], 2⟩) 3 (by kernel_rfl)) ?_
 refine RefR.callC (t := 10) 4 5 [0, 1] rfl (by kernel_rfl) (F33_ok K (⟨a0.fl⟩ : S62) [a1.fName, ([40] : Bytes)]) (fun r1 => ?_)
 refine RefR.nl 5 ?_
 refine Ref.sq ?_
 refine Ref.sq ?_
 refine Ref.rn 2 ?_
 refine RefR.e0 (st' := ⟨[sP 0 0 0 0, sP 3 2 0 0, (12, .c (E38.tree a1.fParams)), sI 13 (Int.ofNat a1.fParams.length), sI 14 0], [.cells [.own 3 r1.fl.length], .dead, .cells (E54.cs a1), E9.row r1.fl], [], 2⟩) 0 4 4 [0, 3, 12, 13, 14] [0, 1, 2, 4] ?_
 refine RefR.nl 4 ?_
 refine Ref.codeEq (c' := .block 0 (cd (bd Tryd.f49) [1, 1, 0, 1, 0])) (by kernel_rfl) ?_
 refine Ref.block (go1 := fun u47 => ⟨[sP 0 0 0 0, sP 3 3 0 0], [.cells [.own 2 u47.length], .dead, E9.row u47, .cells (E54.cs a1)], [], 2⟩) ?_ (fun _ h => by cases h) (fun u47 => ?_)
 ·
  refine Ref.codeEq (c' := .loop (cd (bd Tryd.f49) [1, 1, 0, 1, 0, 0])) (by kernel_rfl) ?_
  refine Ref.conv (Conv.keep (st' := ⟨[sP 0 0 0 0, sP 3 3 0 0, (12, .c (E38.tree a1.fParams)), sI 13 (Int.ofNat a1.fParams.length), sI 14 0], [.cells [.own 2 r1.fl.length], .dead, E9.row r1.fl, .cells (E54.cs a1)], [], 2⟩) [0, 3, 12, 13, 14] [0, 1, 3, 2] (by kernel_rfl)) ?_
  refine Ref.loop (hd := fun u63 => ⟨[sP 0 0 0 0, sP 3 3 0 0, (12, .c (E38.tree a1.fParams)), sI 13 (Int.ofNat a1.fParams.length), sI 14 u63.2], [.cells [.own 2 u63.1.length], .dead, E9.row u63.1, .cells (E54.cs a1)], [], 2⟩) K (r1.fl, 0) (by kernel_rfl) (fun u63 => ?_)
  refine Ref.sq ?_
  refine Ref.rn 3 ?_
  refine RefR.e0 (st' := ⟨[sP 0 0 0 0, sP 3 3 0 0, (12, .c (E38.tree a1.fParams)), sI 13 (Int.ofNat a1.fParams.length), sI 14 u63.2, sB 15 (decide ((u63.2 : Int) < (Int.ofNat a1.fParams.length)))], [.cells [.own 2 u63.1.length], .dead, E9.row u63.1, .cells (E54.cs a1)], [], 2⟩) 0 1 1 [0, 3, 12, 13, 14, 15] [0, 1, 2, 3] ?_
  refine RefR.letC (stf := fun x79 => ⟨[sP 0 0 0 0, sP 3 3 0 0, (12, .c (E38.tree a1.fParams)), sI 13 (Int.ofNat a1.fParams.length), sI 14 u63.2, sB 15 x79], [.cells [.own 2 u63.1.length], .dead, E9.row u63.1, .cells (E54.cs a1)], [], 2⟩) (by kernel_rfl) (fun x79 => ?_)
  refine RefR.nl 1 ?_
  refine Ref.sq ?_
  refine Ref.cn (.tmp 15) x79 (fun hc => ?_) (fun hc => ?_)
  ·
   refine Ref.sk ?_
   refine Ref.sq ?_
   refine Ref.codeEq (c' := .block 1 (cd (bd Tryd.f49) [1, 1, 0, 1, 0, 0, 1, 1, 0, 0])) (by kernel_rfl) ?_
   refine Ref.block (go1 := fun u86 => ⟨[sP 0 0 0 0, sP 3 3 0 0, (12, .c (E38.tree a1.fParams)), sI 13 (Int.ofNat a1.fParams.length), sI 14 u63.2], [.cells [.own 2 u86.length], .dead, E9.row u86, .cells (E54.cs a1)], [], 2⟩) ?_ (fun a => match a with | .inl _ => (fun h => by cases h) | .inr _ => (fun h => by cases h)) (fun u86 => ?_)
   ·
    refine Ref.sq ?_
    refine Ref.rn 4 ?_
    refine RefR.evC (vs := [inb u63.2 a1.fParams.length]) (st' := ⟨[sP 0 0 0 0, sP 3 3 0 0, sI 4 u63.2, sP 5 4 0 0, (12, .c (E38.tree a1.fParams)), sI 13 (Int.ofNat a1.fParams.length), sI 14 u63.2], [.cells [.own 2 u63.1.length], .dead, E9.row u63.1, .cells (E54.cs a1), .cells (E38.cs (a1.fParams.getD (u63.2 : Int).toNat default))], [], 2⟩) 0 6 6 [0, 3, 4, 5, 12, 13, 14] [0, 1, 2, 3, 4] rfl (by kernel_rfl) ?_
    refine RefR.nl 6 ?_
    refine Ref.sq ?_
    refine Ref.sq ?_
    refine Ref.rn 5 ?_
    refine RefR.e0 (st' := ⟨[sP 0 0 0 0, sP 3 3 0 0, sP 5 4 0 0, (12, .c (E38.tree a1.fParams)), sI 13 (Int.ofNat a1.fParams.length), sI 14 u63.2, sB 20 (decide ((u63.2 : Int) > 0))], [.cells [.own 2 u63.1.length], .dead, E9.row u63.1, .cells (E54.cs a1), .cells (E38.cs (a1.fParams.getD (u63.2 : Int).toNat default))], [], 2⟩) 0 2 2 [0, 3, 5, 12, 13, 14, 20] [0, 1, 2, 3, 4] ?_
    refine RefR.nl 2 ?_
    refine Ref.bind (go1 := fun u88 => ⟨[sP 0 0 0 0, sP 3 3 0 0, sP 5 4 0 0, (12, .c (E38.tree a1.fParams)), sI 13 (Int.ofNat a1.fParams.length), sI 14 u63.2], [.cells [.own 2 u88.length], .dead, E9.row u88, .cells (E54.cs a1), .cells (E38.cs (a1.fParams.getD (u63.2 : Int).toNat default))], [], 2⟩) ?_ (fun u88 => ?_)
    ·
     refine Ref.cn (.tmp 20) (decide ((u63.2 : Int) > 0)) (fun hc => ?_) (fun hc => ?_)
     ·
      refine Ref.rn 6 ?_
      refine RefR.e0 (st' := ⟨[sP 0 0 0 0, sP 3 3 0 0, sP 5 4 0 0, (12, .c (E38.tree a1.fParams)), sI 13 (Int.ofNat a1.fParams.length), sI 14 u63.2, sP 21 0 0 0], [.cells [.own 2 u63.1.length], .dead, E9.row u63.1, .cells (E54.cs a1), .cells (E38.cs (a1.fParams.getD (u63.2 : Int).toNat default))], [], 2⟩) 0 1 1 [0, 3, 5, 12, 13, 14, 21] [0, 1, 2, 3, 4] ?_
      refine RefR.e0 (st' := ⟨[sP 0 0 0 0, sP 3 3 0 0, sP 5 4 0 0, (12, .c (E38.tree a1.fParams)), sI 13 (Int.ofNat a1.fParams.length), sI 14 u63.2, sP 21 0 0 0, (22, .c (.own 5 1))], [.cells [.own 2 u63.1.length], .dead, E9.row u63.1, .cells (E54.cs a1), .cells (E38.cs (a1.fParams.getD (u63.2 : Int).toNat default)), .row 9 1 1 (tbl [[.str ([44] : Bytes)]])], [], 2⟩) 1 1 2 [0, 3, 5, 12, 13, 14, 21, 22] [0, 1, 2, 3, 4, 5] ?_
      refine RefR.conv (Conv.obj 5 (E9.row [([44] : Bytes)]) (El.row_build E9 [([44] : Bytes)] rfl (by kernel_rfl)) (by kernel_rfl)) ?_
      refine RefR.conv (Conv.slot 22 (.c (.own 5 ([([44] : Bytes)].length))) (DLe.c (CLe.own (by simp <;> omega))) (by kernel_rfl)) ?_
      refine RefR.conv (Conv.freeze (st' := ⟨[(22, .c (E9.tree [([44] : Bytes)])), sP 0 0 0 0, sP 3 3 0 0, sP 5 4 0 0, (12, .c (E38.tree a1.fParams)), sI 13 (Int.ofNat a1.fParams.length), sI 14 u63.2, sP 21 0 0 0], [.cells [.own 2 u63.1.length], .dead, E9.row u63.1, .cells (E54.cs a1), .cells (E38.cs (a1.fParams.getD (u63.2 : Int).toNat default)), .dead], [], 2⟩) 5 (by kernel_rfl)) ?_
      refine RefR.callC (t := 23) 2 3 [0, 2] rfl (by kernel_rfl) (F33_ok K (⟨u63.1⟩ : S62) [([44] : Bytes)]) (fun r89 => ?_)
      refine RefR.nl 3 ?_
      refine Ref.conv (Conv.keep (st' := ⟨[sP 0 0 0 0, sP 3 3 0 0, sP 5 4 0 0, (12, .c (E38.tree a1.fParams)), sI 13 (Int.ofNat a1.fParams.length), sI 14 u63.2], [.cells [.own 2 r89.fl.length], .dead, E9.row r89.fl, .cells (E54.cs a1), .cells (E38.cs (a1.fParams.getD (u63.2 : Int).toNat default))], [], 2⟩) [0, 3, 5, 12, 13, 14] [0, 1, 6, 3, 4] (by kernel_rfl)) ?_
      exact Ref.n0 (t := (r89.fl))
     ·
      refine Ref.sk ?_
      refine Ref.conv (Conv.keep (st' := ⟨[sP 0 0 0 0, sP 3 3 0 0, sP 5 4 0 0, (12, .c (E38.tree a1.fParams)), sI 13 (Int.ofNat a1.fParams.length), sI 14 u63.2], [.cells [.own 2 u63.1.length], .dead, E9.row u63.1, .cells (E54.cs a1), .cells (E38.cs (a1.fParams.getD (u63.2 : Int).toNat default))], [], 2⟩) [0, 3, 5, 12, 13, 14] [0, 1, 2, 3, 4] (by kernel_rfl)) ?_
      exact Ref.n0 (t := (u63.1))
    ·
     refine Ref.sq ?_
     refine Ref.rn 7 ?_
     refine RefR.e0 (st' := ⟨[sP 0 0 0 0, sP 3 3 0 0, sP 5 4 0 0, (12, .c (E38.tree a1.fParams)), sI 13 (Int.ofNat a1.fParams.length), sI 14 u63.2, sP 24 0 0 0, sS 26 ((a1.fParams.getD (u63.2 : Int).toNat default).fName)], [.cells [.own 2 u88.length], .dead, E9.row u88, .cells (E54.cs a1), .cells (E38.cs (a1.fParams.getD (u63.2 : Int).toNat default))], [], 2⟩) 0 3 3 [0, 3, 5, 12, 13, 14, 24, 26] [0, 1, 2, 3, 4] ?_
     refine RefR.letC (stf := fun x90 => ⟨[sP 0 0 0 0, sP 3 3 0 0, sP 5 4 0 0, (12, .c (E38.tree a1.fParams)), sI 13 (Int.ofNat a1.fParams.length), sI 14 u63.2, sP 24 0 0 0, sS 26 x90], [.cells [.own 2 u88.length], .dead, E9.row u88, .cells (E54.cs a1), .cells (E38.cs (a1.fParams.getD (u63.2 : Int).toNat default))], [], 2⟩) (by kernel_rfl) (fun x90 => ?_)
     refine RefR.e0 (st' := ⟨[sP 0 0 0 0, sP 3 3 0 0, sP 5 4 0 0, (12, .c (E38.tree a1.fParams)), sI 13 (Int.ofNat a1.fParams.length), sI 14 u63.2, sP 24 0 0 0, (27, .c (.own 5 2))], [.cells [.own 2 u88.length], .dead, E9.row u88, .cells (E54.cs a1), .cells (E38.cs (a1.fParams.getD (u63.2 : Int).toNat default)), .row 9 1 2 (tbl [[.str x90], [.str ([58] : Bytes)]])], [], 2⟩) 3 1 4 [0, 3, 5, 12, 13, 14, 24, 27] [0, 1, 2, 3, 4, 5] ?_
     refine RefR.conv (Conv.obj 5 (E9.row [x90, ([58] : Bytes)]) (El.row_build E9 [x90, ([58] : Bytes)] rfl (by kernel_rfl)) (by kernel_rfl)) ?_
     refine RefR.conv (Conv.slot 27 (.c (.own 5 ([x90, ([58] : Bytes)].length))) (DLe.c (CLe.own (by simp <;> omega))) (by kernel_rfl)) ?_
     refine RefR.conv (Conv.freeze (st' := ⟨[(27, .c (E9.tree [x90, ([58] : Bytes)])), sP 0 0 0 0, sP 3 3 0 0, sP 5 4 0 0, (12, .c (E38.tree a1.fParams)), sI 13 (Int.ofNat a1.fParams.length), sI 14 u63.2, sP 24 0 0 0], [.cells [.own 2 u88.length], .dead, E9.row u88, .cells (E54.cs a1), .cells (E38.cs (a1.fParams.getD (u63.2 : Int).toNat default)), .dead], [], 2⟩) 5 (by kernel_rfl)) ?_
     refine RefR.callC (t := 28) 4 5 [0, 2] rfl (by kernel_rfl) (F33_ok K (⟨u88⟩ : S62) [x90, ([58] : Bytes)]) (fun r91 => ?_)
     refine RefR.nl 5 ?_
     refine Ref.rn 8 ?_
     refine RefR.e0 (st' := ⟨[sP 0 0 0 0, sP 3 2 0 0, (12, .c (E38.tree a1.fParams)), sI 13 (Int.ofNat a1.fParams.length), sI 14 u63.2, sP 29 0 0 0, (31, .agg (E29.cs ((a1.fParams.getD (u63.2 : Int).toNat default).fType)))], [.cells [.own 3 r91.fl.length], .dead, .cells (E54.cs a1), E9.row r91.fl], [], 2⟩) 0 3 3 [0, 3, 12, 13, 14, 29, 31] [0, 1, 3, 6] ?_
     refine RefR.callC (t := 32) 3 4 [0, 3] rfl (by kernel_rfl) (F29_ok K (⟨r91.fl⟩ : S62) ((a1.fParams.getD (u63.2 : Int).toNat default).fType)) (fun r92 => ?_)
     refine RefR.nl 4 ?_
     refine Ref.conv (Conv.keep (st' := ⟨[sP 0 0 0 0, sP 3 3 0 0, (12, .c (E38.tree a1.fParams)), sI 13 (Int.ofNat a1.fParams.length), sI 14 u63.2], [.cells [.own 2 r92.fl.length], .dead, E9.row r92.fl, .cells (E54.cs a1)], [], 2⟩) [0, 3, 12, 13, 14] [0, 1, 4, 2] (by kernel_rfl)) ?_
     exact Ref.n0 (t := (r92.fl))
   ·
    refine Ref.rn 9 ?_
    refine RefR.e0 (st' := ⟨[sP 0 0 0 0, sP 3 3 0 0, (12, .c (E38.tree a1.fParams)), sI 13 (Int.ofNat a1.fParams.length), sI 14 (IntKind.i64.wrap (u63.2 + 1))], [.cells [.own 2 u86.length], .dead, E9.row u86, .cells (E54.cs a1)], [], 2⟩) 0 2 2 [0, 3, 12, 13, 14] [0, 1, 2, 3] ?_
    refine RefR.nl 2 ?_
    exact Ref.n0 (t := (u86, (IntKind.i64.wrap (u63.2 + 1))))
  ·
   refine Ref.conv (Conv.keep (st' := ⟨[sP 0 0 0 0, sP 3 3 0 0], [.cells [.own 2 u63.1.length], .dead, E9.row u63.1, .cells (E54.cs a1)], [], 2⟩) [0, 3] [0, 1, 2, 3] (by kernel_rfl)) ?_
   exact Ref.xt 0 (t := (Sum.inl (u63.1)))
 ·
  refine Ref.sq ?_
  refine Ref.rn 10 ?_
  refine RefR.e0 (st' := ⟨[sP 0 0 0 0, sP 3 3 0 0, sP 34 0 0 0], [.cells [.own 2 u47.length], .dead, E9.row u47, .cells (E54.cs a1)], [], 2⟩) 0 1 1 [0, 3, 34] [0, 1, 2, 3] ?_
  refine RefR.e0 (st' := ⟨[sP 0 0 0 0, sP 3 3 0 0, sP 34 0 0 0, (35, .c (.own 4 1))], [.cells [.own 2 u47.length], .dead, E9.row u47, .cells (E54.cs a1), .row 9 1 1 (tbl [[.str ([41] : Bytes)]])], [], 2⟩) 1 1 2 [0, 3, 34, 35] [0, 1, 2, 3, 4] ?_
  refine RefR.conv (Conv.obj 4 (E9.row [([41] : Bytes)]) (El.row_build E9 [([41] : Bytes)] rfl (by kernel_rfl)) (by kernel_rfl)) ?_
  refine RefR.conv (Conv.slot 35 (.c (.own 4 ([([41] : Bytes)].length))) (DLe.c (CLe.own (by simp <;> omega))) (by kernel_rfl)) ?_
  refine RefR.conv (Conv.freeze (st' := ⟨[(35, .c (E9.tree [([41] : Bytes)])), sP 0 0 0 0, sP 3 3 0 0, sP 34 0 0 0], [.cells [.own 2 u47.length], .dead, E9.row u47, .cells (E54.cs a1), .dead], [], 2⟩) 4 (by kernel_rfl)) ?_
  refine RefR.callC (t := 36) 2 3 [0, 2] rfl (by kernel_rfl) (F33_ok K (⟨u47⟩ : S62) [([41] : Bytes)]) (fun r93 => ?_)
  refine RefR.nl 3 ?_
  refine Ref.sq ?_
  refine Ref.sq ?_
  refine Ref.rn 11 ?_
  refine RefR.e0 (st' := ⟨[sP 0 0 0 0, sP 3 2 0 0, sB 40 ((a1.fResult.fKind : Int) != 0)], [.cells [.own 3 r93.fl.length], .dead, .cells (E54.cs a1), E9.row r93.fl], [], 2⟩) 0 4 4 [0, 3, 40] [0, 1, 3, 5] ?_
  refine RefR.nl 4 ?_
  refine Ref.bind (go1 := fun u96 => ⟨[sP 0 0 0 0], [.cells [.own 2 u96.length], .dead, E9.row u96], [], 2⟩) ?_ (fun u96 => ?_)
  ·
   refine Ref.cn (.tmp 40) ((a1.fResult.fKind : Int) != 0) (fun hc => ?_) (fun hc => ?_)
   ·
    refine Ref.sq ?_
    refine Ref.rn 12 ?_
    refine RefR.e0 (st' := ⟨[sP 0 0 0 0, sP 3 2 0 0, sP 41 0 0 0], [.cells [.own 3 r93.fl.length], .dead, .cells (E54.cs a1), E9.row r93.fl], [], 2⟩) 0 1 1 [0, 3, 41] [0, 1, 2, 3] ?_
    refine RefR.e0 (st' := ⟨[sP 0 0 0 0, sP 3 2 0 0, sP 41 0 0 0, (42, .c (.own 4 1))], [.cells [.own 3 r93.fl.length], .dead, .cells (E54.cs a1), E9.row r93.fl, .row 9 1 1 (tbl [[.str ([58] : Bytes)]])], [], 2⟩) 1 1 2 [0, 3, 41, 42] [0, 1, 2, 3, 4] ?_
    refine RefR.conv (Conv.obj 4 (E9.row [([58] : Bytes)]) (El.row_build E9 [([58] : Bytes)] rfl (by kernel_rfl)) (by kernel_rfl)) ?_
    refine RefR.conv (Conv.slot 42 (.c (.own 4 ([([58] : Bytes)].length))) (DLe.c (CLe.own (by simp <;> omega))) (by kernel_rfl)) ?_
    refine RefR.conv (Conv.freeze (st' := ⟨[(42, .c (E9.tree [([58] : Bytes)])), sP 0 0 0 0, sP 3 2 0 0, sP 41 0 0 0], [.cells [.own 3 r93.fl.length], .dead, .cells (E54.cs a1), E9.row r93.fl, .dead], [], 2⟩) 4 (by kernel_rfl)) ?_
    refine RefR.callC (t := 43) 2 3 [0, 3] rfl (by kernel_rfl) (F33_ok K (⟨r93.fl⟩ : S62) [([58] : Bytes)]) (fun r97 => ?_)
    refine RefR.nl 3 ?_
    refine Ref.rn 13 ?_
    refine RefR.e0 (st' := ⟨[sP 0 0 0 0, sP 44 0 0 0, (46, .agg (E29.cs a1.fResult))], [.cells [.own 2 r97.fl.length], .dead, E9.row r97.fl], [], 2⟩) 0 3 3 [0, 44, 46] [0, 1, 5] ?_
    refine RefR.callC (t := 47) 3 4 [0, 2] rfl (by kernel_rfl) (F29_ok K (⟨r97.fl⟩ : S62) a1.fResult) (fun r98 => ?_)
    refine RefR.nl 4 ?_
    refine Ref.conv (Conv.keep (st' := ⟨[sP 0 0 0 0], [.cells [.own 2 r98.fl.length], .dead, E9.row r98.fl], [], 2⟩) [0] [0, 1, 3] (by kernel_rfl)) ?_
    exact Ref.n0 (t := (r98.fl))
   ·
    refine Ref.sk ?_
    refine Ref.conv (Conv.keep (st' := ⟨[sP 0 0 0 0], [.cells [.own 2 r93.fl.length], .dead, E9.row r93.fl], [], 2⟩) [0] [0, 1, 3] (by kernel_rfl)) ?_
    exact Ref.n0 (t := (r93.fl))
  ·
   refine Ref.rn 14 ?_
   refine RefR.e0 (st' := ⟨[sP 48 0 0 0], [.cells [.own 2 u96.length], .dead, E9.row u96], [], 2⟩) 0 1 1 [48] [0, 1, 2] ?_
   refine RefR.e0 (st' := ⟨[sP 48 0 0 0, (49, .c (.own 3 1))], [.cells [.own 2 u96.length], .dead, E9.row u96, .row 9 1 1 (tbl [[.str ([59] : Bytes)]])], [], 2⟩) 1 1 2 [48, 49] [0, 1, 2, 3] ?_
   refine RefR.conv (Conv.obj 3 (E9.row [([59] : Bytes)]) (El.row_build E9 [([59] : Bytes)] rfl (by kernel_rfl)) (by kernel_rfl)) ?_
   refine RefR.conv (Conv.slot 49 (.c (.own 3 ([([59] : Bytes)].length))) (DLe.c (CLe.own (by simp <;> omega))) (by kernel_rfl)) ?_
   refine RefR.conv (Conv.freeze (st' := ⟨[(49, .c (E9.tree [([59] : Bytes)])), sP 48 0 0 0], [.cells [.own 2 u96.length], .dead, E9.row u96, .dead], [], 2⟩) 3 (by kernel_rfl)) ?_
   refine RefR.callC (t := 50) 2 3 [0, 2] rfl (by kernel_rfl) (F33_ok K (⟨u96⟩ : S62) [([59] : Bytes)]) (fun r99 => ?_)
   refine RefR.nl 3 ?_
   refine Ref.conv (Conv.keep (st' := ⟨[], [.cells [.own 2 r99.fl.length], .dead, E9.row r99.fl], [], 2⟩) [] [0, 1, 4] (by kernel_rfl)) ?_
   exact Ref.n0 (t := ((⟨r99.fl⟩ : S62)))

/-- (*governor/print.writer).face -/
def F31 (K : Nat) (a0 : S62) (a1 : S48) : Option ((S62) ⊕ (S62)) :=
 ((fnS (F33 K (⟨a0.fl⟩ : S62) [([73, 78, 84, 69, 82, 70, 65, 67, 69] : Bytes), a1.fName, ([59] : Bytes)])).bind (fun r1 => (bindS (blockS ((iter K (fun (u31 : (List Bytes) × Int) => (letV (decide ((u31.2 : Int) < (Int.ofNat a1.fMethods.length))) (fun (x39 : Bool) => (if x39 = true then (bindS (blockS (chk [inb u31.2 a1.fMethods.length] ((fnS (F33 K (⟨u31.1⟩ : S62) [([77, 69, 84, 72, 79, 68] : Bytes)])).bind (fun r43 => ((fnS (F49 K (⟨r43.fl⟩ : S62) (a1.fMethods.getD (u31.2 : Int).toNat default))).bind (fun r44 => (some (.inr (r44.fl))))))))) (fun (u42 : (List Bytes)) => (some (.inr (u42, (IntKind.i64.wrap (u31.2 + 1))))))) else (some (.inl (Sum.inl (u31.1)))))))) (r1.fl, 0)).map .inl)) (fun (u23 : (List Bytes)) => ((fnS (F33 K (⟨u23⟩ : S62) [([69, 78, 68, 95, 73, 78, 84, 69, 82, 70, 65, 67, 69] : Bytes)])).bind (fun r45 => (some (.inr ((⟨r45.fl⟩ : S62))))))))))

theorem F31_ok (K : Nat) (a0 : S62) (a1 : S48) : DFun Tryd.prog 31 [.c (.ptr 0 0 0), .agg (E48.cs a1)] [.cells [.own 1 a0.fl.length], E9.row a0.fl] (fnS (F31 K a0 a1)) (fun r => .tup []) (fun r => [.cells [.own 2 r.fl.length], .dead, E9.row r.fl]) := by
 refine DFun.intro (fn := Tryd.f31) (c := cd (bd Tryd.f31) []) (rs := fun r => ⟨[], [.cells [.own 2 r.fl.length], .dead, E9.row r.fl], [], 2⟩) (by kernel_rfl) (by kernel_rfl) (by kernel_rfl) ?_ (fun r => by kernel_rfl) (fun r => by kernel_rfl) (fun r => by kernel_rfl) (fun r => by kernel_rfl)
 unfold F31
 refine Ref.sq ?_
 refine Ref.rn 0 ?_
 refine RefR.e0 (st' := ⟨[sP 0 0 0 0, sP 3 2 0 0], [.cells [.own 1 a0.fl.length], E9.row a0.fl, .cells (E48.cs a1)], [], 2⟩) 0 1 1 [0, 3] [0, 1, 2] ?_
 refine RefR.nl 1 ?_
 refine Ref.sq ?_
 refine Ref.rn 1 ?_
 refine RefR.e0 (st' := ⟨[sP 0 0 0 0, sP 3 2 0 0, sP 6 0 0 0, sS 8 a1.fName], [.cells [.own 1 a0.fl.length], E9.row a0.fl, .cells (E48.cs a1)], [], 2⟩) 0 3 3 [0, 3, 6, 8] [0, 1, 2] ?_
 refine RefR.e0 (st' := ⟨[sP 0 0 0 0, sP 3 2 0 0, sP 6 0 0 0, (9, .c (.own 3 3))], [.cells [.own 1 a0.fl.length], E9.row a0.fl, .cells (E48.cs a1), .row 9 1 3 (tbl [[.str ([73, 78, 84, 69, 82, 70, 65, 67, 69] : Bytes)], [.str a1.fName], [.str ([59] : Bytes)]])], [], 2⟩) 3 1 4 [0, 3, 6, 9] [0, 1, 2, 3] ?_
 refine RefR.conv (Conv.obj 3 (E9.row [([73, 78, 84, 69, 82, 70, 65, 67, 69] : Bytes), a1.fName, ([59] : Bytes)]) (El.row_build E9 [([73, 78, 84, 69, 82, 70, 65, 67, 69] : Bytes), a1.fName, ([59] : Bytes)] rfl (by kernel_rfl)) (by kernel_rfl)) ?_
 refine RefR.conv (Conv.slot 9 (.c (.own 3 ([([73, 78, 84, 69, 82, 70, 65, 67, 69] : Bytes), a1.fName, ([59] : Bytes)].length))) (DLe.c (CLe.own (by simp <;> omega))) (by kernel_rfl)) ?_
 refine RefR.conv (Conv.freeze (st' := ⟨[(9, .c (E9.tree [([73, 78, 84, 69, 82, 70, 65, 67, 69] : Bytes), a1.fName, ([59] : Bytes)])), sP 0 0 0 0, sP 3 2 0 0, sP 6 0 0 0], [.cells [.own 1 a0.fl.length], E9.row a0.fl, .cells (E48.cs a1), .dead], [], 2⟩) 3 (by kernel_rfl)) ?_
 refine RefR.callC (t := 10) 4 5 [0, 1] rfl (by kernel_rfl) (F33_ok K (⟨a0.fl⟩ : S62) [([73, 78, 84, 69, 82, 70, 65, 67, 69] : Bytes), a1.fName, ([59] : Bytes)]) (fun r1 => ?_)
 refine RefR.nl 5 ?_
 refine Ref.sq ?_
 refine Ref.sq ?_
 refine Ref.rn 2 ?_
 refine RefR.e0 (st' := ⟨[sP 0 0 0 0, (12, .c (E54.tree a1.fMethods)), sI 13 (Int.ofNat a1.fMethods.length), sI 14 0], [.cells [.own 2 r1.fl.length], .dead, E9.row r1.fl], [], 2⟩) 0 4 4 [0, 12, 13, 14] [0, 1, 4] ?_
 refine RefR.nl 4 ?_
 refine Ref.codeEq (c' := .block 0 (cd (bd Tryd.f31) [1, 1, 0, 1, 0])) (by kernel_rfl) ?_
 refine Ref.block (go1 := fun u23 => ⟨[sP 0 0 0 0], [.cells [.own 2 u23.length], .dead, E9.row u23], [], 2⟩) ?_ (fun _ h => by cases h) (fun u23 => ?_)
 ·
  refine Ref.codeEq (c' := .loop (cd (bd Tryd.f31) [1, 1, 0, 1, 0, 0])) (by kernel_rfl) ?_
  refine Ref.loop (hd := fun u31 => ⟨[sP 0 0 0 0, (12, .c (E54.tree a1.fMethods)), sI 13 (Int.ofNat a1.fMethods.length), sI 14 u31.2], [.cells [.own 2 u31.1.length], .dead, E9.row u31.1], [], 2⟩) K (r1.fl, 0) (by kernel_rfl) (fun u31 => ?_)
  refine Ref.sq ?_
  refine Ref.rn 3 ?_
  refine RefR.e0 (st' := ⟨[sP 0 0 0 0, (12, .c (E54.tree a1.fMethods)), sI 13 (Int.ofNat a1.fMethods.length), sI 14 u31.2, sB 15 (decide ((u31.2 : Int) < (Int.ofNat a1.fMethods.length)))], [.cells [.own 2 u31.1.length], .dead, E9.row u31.1], [], 2⟩) 0 1 1 [0, 12, 13, 14, 15] [0, 1, 2] ?_
  refine RefR.letC (stf := fun x39 => ⟨[sP 0 0 0 0, (12, .c (E54.tree a1.fMethods)), sI 13 (Int.ofNat a1.fMethods.length), sI 14 u31.2, sB 15 x39], [.cells [.own 2 u31.1.length], .dead, E9.row u31.1], [], 2⟩) (by kernel_rfl) (fun x39 => ?_)
  refine RefR.nl 1 ?_
  refine Ref.sq ?_
  refine Ref.cn (.tmp 15) x39 (fun hc => ?_) (fun hc => ?_)
  ·
   refine Ref.sk ?_
   refine Ref.sq ?_
   refine Ref.codeEq (c' := .block 1 (cd (bd Tryd.f31) [1, 1, 0, 1, 0, 0, 1, 1, 0, 0])) (by kernel_rfl) ?_
   refine Ref.block (go1 := fun u42 => ⟨[sP 0 0 0 0, (12, .c (E54.tree a1.fMethods)), sI 13 (Int.ofNat a1.fMethods.length), sI 14 u31.2], [.cells [.own 2 u42.length], .dead, E9.row u42], [], 2⟩) ?_ (fun a => match a with | .inl _ => (fun h => by cases h) | .inr _ => (fun h => by cases h)) (fun u42 => ?_)
   ·
    refine Ref.sq ?_
    refine Ref.rn 4 ?_
    refine RefR.evC (vs := [inb u31.2 a1.fMethods.length]) (st' := ⟨[sP 0 0 0 0, sP 5 3 0 0, (12, .c (E54.tree a1.fMethods)), sI 13 (Int.ofNat a1.fMethods.length), sI 14 u31.2], [.cells [.own 2 u31.1.length], .dead, E9.row u31.1, .cells (E54.cs (a1.fMethods.getD (u31.2 : Int).toNat default))], [], 2⟩) 0 4 4 [0, 5, 12, 13, 14] [0, 1, 2, 3] rfl (by kernel_rfl) ?_
    refine RefR.nl 4 ?_
    refine Ref.sq ?_
    refine Ref.rn 5 ?_
    refine RefR.e0 (st' := ⟨[sP 0 0 0 0, sP 5 3 0 0, (12, .c (E54.tree a1.fMethods)), sI 13 (Int.ofNat a1.fMethods.length), sI 14 u31.2, sP 18 0 0 0], [.cells [.own 2 u31.1.length], .dead, E9.row u31.1, .cells (E54.cs (a1.fMethods.getD (u31.2 : Int).toNat default))], [], 2⟩) 0 1 1 [0, 5, 12, 13, 14, 18] [0, 1, 2, 3] ?_
    refine RefR.e0 (st' := ⟨[sP 0 0 0 0, sP 5 3 0 0, (12, .c (E54.tree a1.fMethods)), sI 13 (Int.ofNat a1.fMethods.length), sI 14 u31.2, sP 18 0 0 0, (19, .c (.own 4 1))], [.cells [.own 2 u31.1.length], .dead, E9.row u31.1, .cells (E54.cs (a1.fMethods.getD (u31.2 : Int).toNat default)), .row 9 1 1 (tbl [[.str ([77, 69, 84, 72, 79, 68] : Bytes)]])], [], 2⟩) 1 1 2 [0, 5, 12, 13, 14, 18, 19] [0, 1, 2, 3, 4] ?_
    refine RefR.conv (Conv.obj 4 (E9.row [([77, 69, 84, 72, 79, 68] : Bytes)]) (El.row_build E9 [([77, 69, 84, 72, 79, 68] : Bytes)] rfl (by kernel_rfl)) (by kernel_rfl)) ?_
    refine RefR.conv (Conv.slot 19 (.c (.own 4 ([([77, 69, 84, 72, 79, 68] : Bytes)].length))) (DLe.c (CLe.own (by simp <;> omega))) (by kernel_rfl)) ?_
    refine RefR.conv (Conv.freeze (st' := ⟨[(19, .c (E9.tree [([77, 69, 84, 72, 79, 68] : Bytes)])), sP 0 0 0 0, sP 5 3 0 0, (12, .c (E54.tree a1.fMethods)), sI 13 (Int.ofNat a1.fMethods.length), sI 14 u31.2, sP 18 0 0 0], [.cells [.own 2 u31.1.length], .dead, E9.row u31.1, .cells (E54.cs (a1.fMethods.getD (u31.2 : Int).toNat default)), .dead], [], 2⟩) 4 (by kernel_rfl)) ?_
    refine RefR.callC (t := 20) 2 3 [0, 2] rfl (by kernel_rfl) (F33_ok K (⟨u31.1⟩ : S62) [([77, 69, 84, 72, 79, 68] : Bytes)]) (fun r43 => ?_)
    refine RefR.nl 3 ?_
    refine Ref.rn 6 ?_
    refine RefR.e0 (st' := ⟨[sP 0 0 0 0, (12, .c (E54.tree a1.fMethods)), sI 13 (Int.ofNat a1.fMethods.length), sI 14 u31.2, sP 21 0 0 0, (22, .agg (E54.cs (a1.fMethods.getD (u31.2 : Int).toNat default)))], [.cells [.own 2 r43.fl.length], .dead, E9.row r43.fl], [], 2⟩) 0 2 2 [0, 12, 13, 14, 21, 22] [0, 1, 5] ?_
    refine RefR.callC (t := 23) 2 3 [0, 2] rfl (by kernel_rfl) (F49_ok K (⟨r43.fl⟩ : S62) (a1.fMethods.getD (u31.2 : Int).toNat default)) (fun r44 => ?_)
    refine RefR.nl 3 ?_
    refine Ref.conv (Conv.keep (st' := ⟨[sP 0 0 0 0, (12, .c (E54.tree a1.fMethods)), sI 13 (Int.ofNat a1.fMethods.length), sI 14 u31.2], [.cells [.own 2 r44.fl.length], .dead, E9.row r44.fl], [], 2⟩) [0, 12, 13, 14] [0, 1, 3] (by kernel_rfl)) ?_
    exact Ref.n0 (t := (r44.fl))
   ·
    refine Ref.rn 7 ?_
    refine RefR.e0 (st' := ⟨[sP 0 0 0 0, (12, .c (E54.tree a1.fMethods)), sI 13 (Int.ofNat a1.fMethods.length), sI 14 (IntKind.i64.wrap (u31.2 + 1))], [.cells [.own 2 u42.length], .dead, E9.row u42], [], 2⟩) 0 2 2 [0, 12, 13, 14] [0, 1, 2] ?_
    refine RefR.nl 2 ?_
    exact Ref.n0 (t := (u42, (IntKind.i64.wrap (u31.2 + 1))))
  ·
   refine Ref.conv (Conv.keep (st' := ⟨[sP 0 0 0 0], [.cells [.own 2 u31.1.length], .dead, E9.row u31.1], [], 2⟩) [0] [0, 1, 2] (by kernel_rfl)) ?_
   exact Ref.xt 0 (t := (Sum.inl (u31.1)))
 ·
  refine Ref.rn 8 ?_
  refine RefR.e0 (st' := ⟨[sP 25 0 0 0], [.cells [.own 2 u23.length], .dead, E9.row u23], [], 2⟩) 0 1 1 [25] [0, 1, 2] ?_
  refine RefR.e0 (st' := ⟨[sP 25 0 0 0, (26, .c (.own 3 1))], [.cells [.own 2 u23.length], .dead, E9.row u23, .row 9 1 1 (tbl [[.str ([69, 78, 68, 95, 73, 78, 84, 69, 82, 70, 65, 67, 69] : Bytes)]])], [], 2⟩) 1 1 2 [25, 26] [0, 1, 2, 3] ?_
  refine RefR.conv (Conv.obj 3 (E9.row [([69, 78, 68, 95, 73, 78, 84, 69, 82, 70, 65, 67, 69] : Bytes)]) (El.row_build E9 [([69, 78, 68, 95, 73, 78, 84, 69, 82, 70, 65, 67, 69] : Bytes)] rfl (by kernel_rfl)) (by kernel_rfl)) ?_
  refine RefR.conv (Conv.slot 26 (.c (.own 3 ([([69, 78, 68, 95, 73, 78, 84, 69, 82, 70, 65, 67, 69] : Bytes)].length))) (DLe.c (CLe.own (by simp <;> omega))) (by kernel_rfl)) ?_
  refine RefR.conv (Conv.freeze (st' := ⟨[(26, .c (E9.tree [([69, 78, 68, 95, 73, 78, 84, 69, 82, 70, 65, 67, 69] : Bytes)])), sP 25 0 0 0], [.cells [.own 2 u23.length], .dead, E9.row u23, .dead], [], 2⟩) 3 (by kernel_rfl)) ?_
  refine RefR.callC (t := 27) 2 3 [0, 2] rfl (by kernel_rfl) (F33_ok K (⟨u23⟩ : S62) [([69, 78, 68, 95, 73, 78, 84, 69, 82, 70, 65, 67, 69] : Bytes)]) (fun r45 => ?_)
  refine RefR.nl 3 ?_
  refine Ref.conv (Conv.keep (st' := ⟨[], [.cells [.own 2 r45.fl.length], .dead, E9.row r45.fl], [], 2⟩) [] [0, 1, 4] (by kernel_rfl)) ?_
  exact Ref.n0 (t := ((⟨r45.fl⟩ : S62)))

/-- (*governor/print.writer).class -/
def F32 (K : Nat) (a0 : S62) (a1 : S48) : Option ((S62) ⊕ (S62)) :=
 ((fnS (F33 K (⟨a0.fl⟩ : S62) [([67, 76, 65, 83, 83] : Bytes)])).bind (fun r1 => ((fnS (F50 K (⟨r1.fl⟩ : S62) a1.fAbstract ([65, 66, 83, 84, 82, 65, 67, 84] : Bytes))).bind (fun r2 => ((fnS (F50 K (⟨r2.fl⟩ : S62) a1.fFinal ([70, 73, 78, 65, 76] : Bytes))).bind (fun r3 => ((fnS (F33 K (⟨r3.fl⟩ : S62) [a1.fName])).bind (fun r4 => (bindS (if (!(a1.fBase == ([] : Bytes))) = true then ((fnS (F33 K (⟨r4.fl⟩ : S62) [([69, 88, 84, 69, 78, 68, 83] : Bytes), a1.fBase])).bind (fun r7 => (some (.inr (r7.fl))))) else (some (.inr (r4.fl)))) (fun (u6 : (List Bytes)) => (bindS (blockS ((iter K (fun (u45 : (List Bytes) × Int) => (letV (decide ((u45.2 : Int) < (Int.ofNat a1.fFaces.length))) (fun (x55 : Bool) => (if x55 = true then (bindS (blockS (chk [inb u45.2 a1.fFaces.length] (letV (IntKind.i64.wrap ((if 1 < u45.2 then 1 else u45.2) + 1)) (fun (x60 : Int) => ((condM true (fnS (F45 K x60 [([73, 77, 80, 76, 69, 77, 69, 78, 84, 83] : Bytes), ([44] : Bytes)])) default).bind (fun r61 => ((fnS (F33 K (⟨u45.1⟩ : S62) [r61, (a1.fFaces.getD (u45.2 : Int).toNat default)])).bind (fun r62 => (some (.inr (r62.fl))))))))))) (fun (u59 : (List Bytes)) => (some (.inr (u59, (IntKind.i64.wrap (u45.2 + 1))))))) else (some (.inl (Sum.inl (u45.1)))))))) (u6, 0)).map .inl)) (fun (u35 : (List Bytes)) => ((fnS (F33 K (⟨u35⟩ : S62) [([59] : Bytes)])).bind (fun r63 => ((fnS (F34 K (⟨r63.fl⟩ : S62) a1.fVars)).bind (fun r64 => (bindS (blockS ((iter K (fun (u182 : (List Bytes) × Int) => (letV (decide ((u182.2 : Int) < (Int.ofNat a1.fMethods.length))) (fun (x212 : Bool) => (if x212 = true then (bindS (blockS (chk [inb u182.2 a1.fMethods.length] ((fnS (F33 K (⟨u182.1⟩ : S62) [([77, 69, 84, 72, 79, 68] : Bytes)])).bind (fun r227 => (letV ((a1.fMethods.getD (u182.2 : Int).toNat default).fOver) (fun (x228 : Bool) => ((fnS (F50 K (⟨r227.fl⟩ : S62) x228 ([79, 86, 69, 82, 82, 73, 68, 69] : Bytes))).bind (fun r229 => (letV ((a1.fMethods.getD (u182.2 : Int).toNat default).fAbstract) (fun (x230 : Bool) => ((fnS (F50 K (⟨r229.fl⟩ : S62) x230 ([65, 66, 83, 84, 82, 65, 67, 84] : Bytes))).bind (fun r231 => (letV ((a1.fMethods.getD (u182.2 : Int).toNat default).fFinal) (fun (x232 : Bool) => ((fnS (F50 K (⟨r231.fl⟩ : S62) x232 ([70, 73, 78, 65, 76] : Bytes))).bind (fun r233 => ((fnS (F49 K (⟨r233.fl⟩ : S62) (a1.fMethods.getD (u182.2 : Int).toNat default))).bind (fun r234 => (letV ((a1.fMethods.getD (u182.2 : Int).toNat default).fVars) (fun (x235 : (List S38)) => ((fnS (F34 K (⟨r234.fl⟩ : S62) x235)).bind (fun r236 => (letV ((a1.fMethods.getD (u182.2 : Int).toNat default).fBody) (fun (x237 : (List S43)) => ((fnS (F35 K (⟨r236.fl⟩ : S62) x237)).bind (fun r238 => ((fnS (F33 K (⟨r238.fl⟩ : S62) [([69, 78, 68, 95, 77, 69, 84, 72, 79, 68] : Bytes)])).bind (fun r239 => (some (.inr (r239.fl))))))))))))))))))))))))))))))) (fun (u226 : (List Bytes)) => (some (.inr (u226, (IntKind.i64.wrap (u182.2 + 1))))))) else (some (.inl (Sum.inl (u182.1)))))))) (r64.fl, 0)).map .inl)) (fun (u152 : (List Bytes)) => ((fnS (F33 K (⟨u152⟩ : S62) [([69, 78, 68, 95, 67, 76, 65, 83, 83] : Bytes)])).bind (fun r240 => (some (.inr ((⟨r240.fl⟩ : S62))))))))))))))))))))))))

theorem F32_ok (K : Nat) (a0 : S62) (a1 : S48) : DFun Tryd.prog 32 [.c (.ptr 0 0 0), .agg (E48.cs a1)] [.cells [.own 1 a0.fl.length], E9.row a0.fl] (fnS (F32 K a0 a1)) (fun r => .tup []) (fun r => [.cells [.own 2 r.fl.length], .dead, E9.row r.fl]) := by
 refine DFun.intro (fn := Tryd.f32) (c := cd (bd Tryd.f32) []) (rs := fun r => ⟨[], [.cells [.own 2 r.fl.length], .dead, E9.row r.fl], [], 2⟩) (by kernel_rfl) (by kernel_rfl) (by kernel_rfl) ?_ (fun r => by kernel_rfl) (fun r => by kernel_rfl) (fun r => by kernel_rfl) (fun r => by kernel_rfl)
 unfold F32
 refine Ref.sq ?_
 refine Ref.rn 0 ?_
 refine RefR.e0 (st' := ⟨[sP 0 0 0 0, sP 3 2 0 0], [.cells [.own 1 a0.fl.length], E9.row a0.fl, .cells (E48.cs a1)], [], 2⟩) 0 1 1 [0, 3] [0, 1, 2] ?_
 refine RefR.nl 1 ?_
 refine Ref.sq ?_
 refine Ref.rn 1 ?_
 refine RefR.e0 (st' := ⟨[sP 0 0 0 0, sP 3 2 0 0, sP 8 0 0 0], [.cells [.own 1 a0.fl.length], E9.row a0.fl, .cells (E48.cs a1)], [], 2⟩) 0 1 1 [0, 3, 8] [0, 1, 2] ?_
 refine RefR.e0 (st' := ⟨[sP 0 0 0 0, sP 3 2 0 0, sP 8 0 0 0, (9, .c (.own 3 1))], [.cells [.own 1 a0.fl.length], E9.row a0.fl, .cells (E48.cs a1), .row 9 1 1 (tbl [[.str ([67, 76, 65, 83, 83] : Bytes)]])], [], 2⟩) 1 1 2 [0, 3, 8, 9] [0, 1, 2, 3] ?_
 refine RefR.conv (Conv.obj 3 (E9.row [([67, 76, 65, 83, 83] : Bytes)]) (El.row_build E9 [([67, 76, 65, 83, 83] : Bytes)] rfl (by kernel_rfl)) (by kernel_rfl)) ?_
 refine RefR.conv (Conv.slot 9 (.c (.own 3 ([([67, 76, 65, 83, 83] : Bytes)].length))) (DLe.c (CLe.own (by simp <;> omega))) (by kernel_rfl)) ?_
 refine RefR.conv (Conv.freeze (st' := ⟨[(9, .c (E9.tree [([67, 76, 65, 83, 83] : Bytes)])), sP 0 0 0 0, sP 3 2 0 0, sP 8 0 0 0], [.cells [.own 1 a0.fl.length], E9.row a0.fl, .cells (E48.cs a1), .dead], [], 2⟩) 3 (by kernel_rfl)) ?_
 refine RefR.callC (t := 10) 2 3 [0, 1] rfl (by kernel_rfl) (F33_ok K (⟨a0.fl⟩ : S62) [([67, 76, 65, 83, 83] : Bytes)]) (fun r1 => ?_)
 refine RefR.nl 3 ?_
 refine Ref.sq ?_
 refine Ref.rn 2 ?_
 refine RefR.e0 (st' := ⟨[sP 0 0 0 0, sP 3 2 0 0, sP 11 0 0 0, sB 13 a1.fAbstract], [.cells [.own 3 r1.fl.length], .dead, .cells (E48.cs a1), E9.row r1.fl], [], 2⟩) 0 3 3 [0, 3, 11, 13] [0, 1, 2, 4] ?_
 refine RefR.callC (t := 14) 3 4 [0, 3] rfl (by kernel_rfl) (F50_ok K (⟨r1.fl⟩ : S62) a1.fAbstract ([65, 66, 83, 84, 82, 65, 67, 84] : Bytes)) (fun r2 => ?_)
 refine RefR.nl 4 ?_
 refine Ref.sq ?_
 refine Ref.rn 3 ?_
 refine RefR.e0 (st' := ⟨[sP 0 0 0 0, sP 3 2 0 0, sP 15 0 0 0, sB 17 a1.fFinal], [.cells [.own 3 r2.fl.length], .dead, .cells (E48.cs a1), E9.row r2.fl], [], 2⟩) 0 3 3 [0, 3, 15, 17] [0, 1, 2, 4] ?_
 refine RefR.callC (t := 18) 3 4 [0, 3] rfl (by kernel_rfl) (F50_ok K (⟨r2.fl⟩ : S62) a1.fFinal ([70, 73, 78, 65, 76] : Bytes)) (fun r3 => ?_)
 refine RefR.nl 4 ?_
 refine Ref.sq ?_
 refine Ref.rn 4 ?_
 refine RefR.e0 (st' := ⟨[sP 0 0 0 0, sP 3 2 0 0, sP 19 0 0 0, sS 21 a1.fName], [.cells [.own 3 r3.fl.length], .dead, .cells (E48.cs a1), E9.row r3.fl], [], 2⟩) 0 3 3 [0, 3, 19, 21] [0, 1, 2, 4] ?_
 refine RefR.e0 (st' := ⟨[sP 0 0 0 0, sP 3 2 0 0, sP 19 0 0 0, (22, .c (.own 4 1))], [.cells [.own 3 r3.fl.length], .dead, .cells (E48.cs a1), E9.row r3.fl, .row 9 1 1 (tbl [[.str a1.fName]])], [], 2⟩) 3 1 4 [0, 3, 19, 22] [0, 1, 2, 3, 4] ?_
 refine RefR.conv (Conv.obj 4 (E9.row [a1.fName]) (El.row_build E9 [a1.fName] rfl (by kernel_rfl)) (by kernel_rfl)) ?_
 refine RefR.conv (Conv.slot 22 (.c (.own 4 ([a1.fName].length))) (DLe.c (CLe.own (by simp <;> omega))) (by kernel_rfl)) ?_
 refine RefR.conv (Conv.freeze (st' := ⟨[(22, .c (E9.tree [a1.fName])), sP 0 0 0 0, sP 3 2 0 0, sP 19 0 0 0], [.cells [.own 3 r3.fl.length], .dead, .cells (E48.cs a1), E9.row r3.fl, .dead], [], 2⟩) 4 (by kernel_rfl)) ?_
 refine RefR.callC (t := 23) 4 5 [0, 3] rfl (by kernel_rfl) (F33_ok K (⟨r3.fl⟩ : S62) [a1.fName]) (fun r4 => ?_)
 refine RefR.nl 5 ?_
 refine Ref.sq ?_
 refine Ref.sq ?_
 refine Ref.rn 5 ?_
 refine RefR.e0 (st' := ⟨[sP 0 0 0 0, sP 3 2 0 0, sB 26 (!(a1.fBase == ([] : Bytes)))], [.cells [.own 3 r4.fl.length], .dead, .cells (E48.cs a1), E9.row r4.fl], [], 2⟩) 0 3 3 [0, 3, 26] [0, 1, 2, 5] ?_
 refine RefR.nl 3 ?_
 refine Ref.bind (go1 := fun u6 => ⟨[sP 0 0 0 0, sP 3 3 0 0], [.cells [.own 2 u6.length], .dead, E9.row u6, .cells (E48.cs a1)], [], 2⟩) ?_ (fun u6 => ?_)
 ·
  refine Ref.cn (.tmp 26) (!(a1.fBase == ([] : Bytes))) (fun hc => ?_) (fun hc => ?_)
  ·
   refine Ref.rn 6 ?_
   refine RefR.e0 (st' := ⟨[sP 0 0 0 0, sP 3 2 0 0, sP 27 0 0 0, sS 29 a1.fBase], [.cells [.own 3 r4.fl.length], .dead, .cells (E48.cs a1), E9.row r4.fl], [], 2⟩) 0 3 3 [0, 3, 27, 29] [0, 1, 2, 3] ?_
   refine RefR.e0 (st' := ⟨[sP 0 0 0 0, sP 3 2 0 0, sP 27 0 0 0, (30, .c (.own 4 2))], [.cells [.own 3 r4.fl.length], .dead, .cells (E48.cs a1), E9.row r4.fl, .row 9 1 2 (tbl [[.str ([69, 88, 84, 69, 78, 68, 83] : Bytes)], [.str a1.fBase]])], [], 2⟩) 3 1 4 [0, 3, 27, 30] [0, 1, 2, 3, 4] ?_
   refine RefR.conv (Conv.obj 4 (E9.row [([69, 88, 84, 69, 78, 68, 83] : Bytes), a1.fBase]) (El.row_build E9 [([69, 88, 84, 69, 78, 68, 83] : Bytes), a1.fBase] rfl (by kernel_rfl)) (by kernel_rfl)) ?_
   refine RefR.conv (Conv.slot 30 (.c (.own 4 ([([69, 88, 84, 69, 78, 68, 83] : Bytes), a1.fBase].length))) (DLe.c (CLe.own (by simp <;> omega))) (by kernel_rfl)) ?_
   refine RefR.conv (Conv.freeze (st' := ⟨[(30, .c (E9.tree [([69, 88, 84, 69, 78, 68, 83] : Bytes), a1.fBase])), sP 0 0 0 0, sP 3 2 0 0, sP 27 0 0 0], [.cells [.own 3 r4.fl.length], .dead, .cells (E48.cs a1), E9.row r4.fl, .dead], [], 2⟩) 4 (by kernel_rfl)) ?_
   refine RefR.callC (t := 31) 4 5 [0, 3] rfl (by kernel_rfl) (F33_ok K (⟨r4.fl⟩ : S62) [([69, 88, 84, 69, 78, 68, 83] : Bytes), a1.fBase]) (fun r7 => ?_)
   refine RefR.nl 5 ?_
   refine Ref.conv (Conv.keep (st' := ⟨[sP 0 0 0 0, sP 3 3 0 0], [.cells [.own 2 r7.fl.length], .dead, E9.row r7.fl, .cells (E48.cs a1)], [], 2⟩) [0, 3] [0, 1, 5, 2] (by kernel_rfl)) ?_
   exact Ref.n0 (t := (r7.fl))
  ·
   refine Ref.sk ?_
   refine Ref.conv (Conv.keep (st' := ⟨[sP 0 0 0 0, sP 3 3 0 0], [.cells [.own 2 r4.fl.length], .dead, E9.row r4.fl, .cells (E48.cs a1)], [], 2⟩) [0, 3] [0, 1, 3, 2] (by kernel_rfl)) ?_
   exact Ref.n0 (t := (r4.fl))
 ·
  refine Ref.sq ?_
  refine Ref.sq ?_
  refine Ref.rn 7 ?_
  refine RefR.e0 (st' := ⟨[sP 0 0 0 0, sP 3 3 0 0, (33, .c (E9.tree a1.fFaces)), sI 34 (Int.ofNat a1.fFaces.length), sI 35 0], [.cells [.own 2 u6.length], .dead, E9.row u6, .cells (E48.cs a1)], [], 2⟩) 0 4 4 [0, 3, 33, 34, 35] [0, 1, 2, 3] ?_
  refine RefR.nl 4 ?_
  refine Ref.codeEq (c' := .block 0 (cd (bd Tryd.f32) [1, 1, 1, 1, 1, 1, 0, 1, 0])) (by kernel_rfl) ?_
  refine Ref.block (go1 := fun u35 => ⟨[sP 0 0 0 0, sP 3 3 0 0], [.cells [.own 2 u35.length], .dead, E9.row u35, .cells (E48.cs a1)], [], 2⟩) ?_ (fun _ h => by cases h) (fun u35 => ?_)
  ·
   refine Ref.codeEq (c' := .loop (cd (bd Tryd.f32) [1, 1, 1, 1, 1, 1, 0, 1, 0, 0])) (by kernel_rfl) ?_
   refine Ref.loop (hd := fun u45 => ⟨[sP 0 0 0 0, sP 3 3 0 0, (33, .c (E9.tree a1.fFaces)), sI 34 (Int.ofNat a1.fFaces.length), sI 35 u45.2], [.cells [.own 2 u45.1.length], .dead, E9.row u45.1, .cells (E48.cs a1)], [], 2⟩) K (u6, 0) (by kernel_rfl) (fun u45 => ?_)
   refine Ref.sq ?_
   refine Ref.rn 8 ?_
   refine RefR.e0 (st' := ⟨[sP 0 0 0 0, sP 3 3 0 0, (33, .c (E9.tree a1.fFaces)), sI 34 (Int.ofNat a1.fFaces.length), sI 35 u45.2, sB 36 (decide ((u45.2 : Int) < (Int.ofNat a1.fFaces.length)))], [.cells [.own 2 u45.1.length], .dead, E9.row u45.1, .cells (E48.cs a1)], [], 2⟩) 0 1 1 [0, 3, 33, 34, 35, 36] [0, 1, 2, 3] ?_
   refine RefR.letC (stf := fun x55 => ⟨[sP 0 0 0 0, sP 3 3 0 0, (33, .c (E9.tree a1.fFaces)), sI 34 (Int.ofNat a1.fFaces.length), sI 35 u45.2, sB 36 x55], [.cells [.own 2 u45.1.length], .dead, E9.row u45.1, .cells (E48.cs a1)], [], 2⟩) (by kernel_rfl) (fun x55 => ?_)
   refine RefR.nl 1 ?_
   refine Ref.sq ?_
   refine Ref.cn (.tmp 36) x55 (fun hc => ?_) (fun hc => ?_)
   ·
    refine Ref.sk ?_
    refine Ref.sq ?_
    refine Ref.codeEq (c' := .block 1 (cd (bd Tryd.f32) [1, 1, 1, 1, 1, 1, 0, 1, 0, 0, 1, 1, 0, 0])) (by kernel_rfl) ?_
    refine Ref.block (go1 := fun u59 => ⟨[sP 0 0 0 0, sP 3 3 0 0, (33, .c (E9.tree a1.fFaces)), sI 34 (Int.ofNat a1.fFaces.length), sI 35 u45.2], [.cells [.own 2 u59.length], .dead, E9.row u59, .cells (E48.cs a1)], [], 2⟩) ?_ (fun a => match a with | .inl _ => (fun h => by cases h) | .inr _ => (fun h => by cases h)) (fun u59 => ?_)
    ·
     refine Ref.sq ?_
     refine Ref.rn 9 ?_
     refine RefR.evC (vs := [inb u45.2 a1.fFaces.length]) (st' := ⟨[sP 0 0 0 0, sP 3 3 0 0, sI 4 u45.2, sS 5 (a1.fFaces.getD (u45.2 : Int).toNat default), (33, .c (E9.tree a1.fFaces)), sI 34 (Int.ofNat a1.fFaces.length), sI 35 u45.2], [.cells [.own 2 u45.1.length], .dead, E9.row u45.1, .cells (E48.cs a1)], [], 2⟩) 0 5 5 [0, 3, 4, 5, 33, 34, 35] [0, 1, 2, 3] rfl (by kernel_rfl) ?_
     refine RefR.nl 5 ?_
     refine Ref.rn 10 ?_
     refine RefR.e0 (st' := ⟨[sP 0 0 0 0, sP 3 3 0 0, sS 5 (a1.fFaces.getD (u45.2 : Int).toNat default), (33, .c (E9.tree a1.fFaces)), sI 34 (Int.ofNat a1.fFaces.length), sI 35 u45.2, sP 40 0 0 0, sI 43 (IntKind.i64.wrap ((if 1 < u45.2 then 1 else u45.2) + 1))], [.cells [.own 2 u45.1.length], .dead, E9.row u45.1, .cells (E48.cs a1)], [], 2⟩) 0 4 4 [0, 3, 5, 33, 34, 35, 40, 43] [0, 1, 2, 3] ?_
     refine RefR.letC (stf := fun x60 => ⟨[sP 0 0 0 0, sP 3 3 0 0, sS 5 (a1.fFaces.getD (u45.2 : Int).toNat default), (33, .c (E9.tree a1.fFaces)), sI 34 (Int.ofNat a1.fFaces.length), sI 35 u45.2, sP 40 0 0 0, sI 43 x60], [.cells [.own 2 u45.1.length], .dead, E9.row u45.1, .cells (E48.cs a1)], [], 2⟩) (by kernel_rfl) (fun x60 => ?_)
     refine RefR.e0 (st' := ⟨[sP 0 0 0 0, sP 3 3 0 0, sS 5 (a1.fFaces.getD (u45.2 : Int).toNat default), (33, .c (E9.tree a1.fFaces)), sI 34 (Int.ofNat a1.fFaces.length), sI 35 u45.2, sP 40 0 0 0, sI 43 x60, (44, .c (.own 4 2))], [.cells [.own 2 u45.1.length], .dead, E9.row u45.1, .cells (E48.cs a1), .row 9 1 2 (tbl [[.str ([73, 77, 80, 76, 69, 77, 69, 78, 84, 83] : Bytes)], [.str ([44] : Bytes)]])], [], 2⟩) 4 1 5 [0, 3, 5, 33, 34, 35, 40, 43, 44] [0, 1, 2, 3, 4] ?_
     refine RefR.conv (Conv.obj 4 (E9.row [([73, 77, 80, 76, 69, 77, 69, 78, 84, 83] : Bytes), ([44] : Bytes)]) (El.row_build E9 [([73, 77, 80, 76, 69, 77, 69, 78, 84, 83] : Bytes), ([44] : Bytes)] rfl (by kernel_rfl)) (by kernel_rfl)) ?_
     refine RefR.conv (Conv.slot 44 (.c (.own 4 ([([73, 77, 80, 76, 69, 77, 69, 78, 84, 83] : Bytes), ([44] : Bytes)].length))) (DLe.c (CLe.own (by simp <;> omega))) (by kernel_rfl)) ?_
     refine RefR.lookC (t := 45) (g := []) (b := true) 5 6 [4] (default : Bytes) rfl (by kernel_rfl) (F45_ok K x60 [([73, 77, 80, 76, 69, 77, 69, 78, 84, 83] : Bytes), ([44] : Bytes)]) (fun _ => rfl) (fun r61 => ?_)
     refine RefR.e0 (st' := ⟨[sP 0 0 0 0, sP 3 3 0 0, (33, .c (E9.tree a1.fFaces)), sI 34 (Int.ofNat a1.fFaces.length), sI 35 u45.2, sP 40 0 0 0, sS 45 r61, sS 46 (a1.fFaces.getD (u45.2 : Int).toNat default)], [.cells [.own 2 u45.1.length], .dead, E9.row u45.1, .cells (E48.cs a1)], [], 2⟩) 6 1 7 [0, 3, 33, 34, 35, 40, 45, 46] [0, 1, 2, 3] ?_
     refine RefR.e0 (st' := ⟨[sP 0 0 0 0, sP 3 3 0 0, (33, .c (E9.tree a1.fFaces)), sI 34 (Int.ofNat a1.fFaces.length), sI 35 u45.2, sP 40 0 0 0, (47, .c (.own 4 2))], [.cells [.own 2 u45.1.length], .dead, E9.row u45.1, .cells (E48.cs a1), .row 9 1 2 (tbl [[.str r61], [.str (a1.fFaces.getD (u45.2 : Int).toNat default)]])], [], 2⟩) 7 1 8 [0, 3, 33, 34, 35, 40, 47] [0, 1, 2, 3, 4] ?_
     refine RefR.conv (Conv.obj 4 (E9.row [r61, (a1.fFaces.getD (u45.2 : Int).toNat default)]) (El.row_build E9 [r61, (a1.fFaces.getD (u45.2 : Int).toNat default)] rfl (by kernel_rfl)) (by kernel_rfl)) ?_
     refine RefR.conv (Conv.slot 47 (.c (.own 4 ([r61, (a1.fFaces.getD (u45.2 : Int).toNat default)].length))) (DLe.c (CLe.own (by simp <;> omega))) (by kernel_rfl)) ?_
     refine RefR.conv (Conv.freeze (st' := ⟨[(47, .c (E9.tree [r61, (a1.fFaces.getD (u45.2 : Int).toNat default)])), sP 0 0 0 0, sP 3 3 0 0, (33, .c (E9.tree a1.fFaces)), sI 34 (Int.ofNat a1.fFaces.length), sI 35 u45.2, sP 40 0 0 0], [.cells [.own 2 u45.1.length], .dead, E9.row u45.1, .cells (E48.cs a1), .dead], [], 2⟩) 4 (by kernel_rfl)) ?_
     refine RefR.callC (t := 48) 8 9 [0, 2] rfl (by kernel_rfl) (F33_ok K (⟨u45.1⟩ : S62) [r61, (a1.fFaces.getD (u45.2 : Int).toNat default)]) (fun r62 => ?_)
     refine RefR.nl 9 ?_
     refine Ref.conv (Conv.keep (st' := ⟨[sP 0 0 0 0, sP 3 3 0 0, (33, .c (E9.tree a1.fFaces)), sI 34 (Int.ofNat a1.fFaces.length), sI 35 u45.2], [.cells [.own 2 r62.fl.length], .dead, E9.row r62.fl, .cells (E48.cs a1)], [], 2⟩) [0, 3, 33, 34, 35] [0, 1, 5, 3] (by kernel_rfl)) ?_
     exact Ref.n0 (t := (r62.fl))
    ·
     refine Ref.rn 11 ?_
     refine RefR.e0 (st' := ⟨[sP 0 0 0 0, sP 3 3 0 0, (33, .c (E9.tree a1.fFaces)), sI 34 (Int.ofNat a1.fFaces.length), sI 35 (IntKind.i64.wrap (u45.2 + 1))], [.cells [.own 2 u59.length], .dead, E9.row u59, .cells (E48.cs a1)], [], 2⟩) 0 2 2 [0, 3, 33, 34, 35] [0, 1, 2, 3] ?_
     refine RefR.nl 2 ?_
     exact Ref.n0 (t := (u59, (IntKind.i64.wrap (u45.2 + 1))))
   ·
    refine Ref.conv (Conv.keep (st' := ⟨[sP 0 0 0 0, sP 3 3 0 0], [.cells [.own 2 u45.1.length], .dead, E9.row u45.1, .cells (E48.cs a1)], [], 2⟩) [0, 3] [0, 1, 2, 3] (by kernel_rfl)) ?_
    exact Ref.xt 0 (t := (Sum.inl (u45.1)))
  ·
   refine Ref.sq ?_
   refine Ref.rn 12 ?_
   refine RefR.e0 (st' := ⟨[sP 0 0 0 0, sP 3 3 0 0, sP 50 0 0 0], [.cells [.own 2 u35.length], .dead, E9.row u35, .cells (E48.cs a1)], [], 2⟩) 0 1 1 [0, 3, 50] [0, 1, 2, 3] ?_
   refine RefR.e0 (st' := ⟨[sP 0 0 0 0, sP 3 3 0 0, sP 50 0 0 0, (51, .c (.own 4 1))], [.cells [.own 2 u35.length], .dead, E9.row u35, .cells (E48.cs a1), .row 9 1 1 (tbl [[.str ([59] : Bytes)]])], [], 2⟩) 1 1 2 [0, 3, 50, 51] [0, 1, 2, 3, 4] ?_
   refine RefR.conv (Conv.obj 4 (E9.row [([59] : Bytes)]) (El.row_build E9 [([59] : Bytes)] rfl (by kernel_rfl)) (by kernel_rfl)) ?_
   refine RefR.conv (Conv.slot 51 (.c (.own 4 ([([59] : Bytes)].length))) (DLe.c (CLe.own (by simp <;> omega))) (by kernel_rfl)) ?_
   refine RefR.conv (Conv.freeze (st' := ⟨[(51, .c (E9.tree [([59] : Bytes)])), sP 0 0 0 0, sP 3 3 0 0, sP 50 0 0 0], [.cells [.own 2 u35.length], .dead, E9.row u35, .cells (E48.cs a1), .dead], [], 2⟩) 4 (by kernel_rfl)) ?_
   refine RefR.callC (t := 52) 2 3 [0, 2] rfl (by kernel_rfl) (F33_ok K (⟨u35⟩ : S62) [([59] : Bytes)]) (fun r63 => ?_)
   refine RefR.nl 3 ?_
   refine Ref.sq ?_
   refine Ref.rn 13 ?_
   refine RefR.e0 (st' := ⟨[sP 0 0 0 0, sP 3 2 0 0, sP 53 0 0 0, (55, .c (E38.tree a1.fVars))], [.cells [.own 3 r63.fl.length], .dead, .cells (E48.cs a1), E9.row r63.fl], [], 2⟩) 0 3 3 [0, 3, 53, 55] [0, 1, 3, 5] ?_
   refine RefR.callC (t := 56) 3 4 [0, 3] rfl (by kernel_rfl) (F34_ok K (⟨r63.fl⟩ : S62) a1.fVars) (fun r64 => ?_)
   refine RefR.nl 4 ?_
   refine Ref.sq ?_
   refine Ref.sq ?_
   refine Ref.rn 14 ?_
   refine RefR.e0 (st' := ⟨[sP 0 0 0 0, (58, .c (E54.tree a1.fMethods)), sI 59 (Int.ofNat a1.fMethods.length), sI 60 0], [.cells [.own 2 r64.fl.length], .dead, E9.row r64.fl], [], 2⟩) 0 4 4 [0, 58, 59, 60] [0, 1, 4] ?_
   refine RefR.nl 4 ?_
   refine Ref.codeEq (c' := .block 2 (cd (bd Tryd.f32) [1, 1, 1, 1, 1, 1, 1, 1, 1, 0, 1, 0])) (by kernel_rfl) ?_
   refine Ref.block (go1 := fun u152 => ⟨[sP 0 0 0 0], [.cells [.own 2 u152.length], .dead, E9.row u152], [], 2⟩) ?_ (fun _ h => by cases h) (fun u152 => ?_)
   ·
    refine Ref.codeEq (c' := .loop (cd (bd Tryd.f32) [1, 1, 1, 1, 1, 1, 1, 1, 1, 0, 1, 0, 0])) (by kernel_rfl) ?_
    refine Ref.loop (hd := fun u182 => ⟨[sP 0 0 0 0, (58, .c (E54.tree a1.fMethods)), sI 59 (Int.ofNat a1.fMethods.length), sI 60 u182.2], [.cells [.own 2 u182.1.length], .dead, E9.row u182.1], [], 2⟩) K (r64.fl, 0) (by kernel_rfl) (fun u182 => ?_)
    refine Ref.sq ?_
    refine Ref.rn 15 ?_
    refine RefR.e0 (st' := ⟨[sP 0 0 0 0, (58, .c (E54.tree a1.fMethods)), sI 59 (Int.ofNat a1.fMethods.length), sI 60 u182.2, sB 61 (decide ((u182.2 : Int) < (Int.ofNat a1.fMethods.length)))], [.cells [.own 2 u182.1.length], .dead, E9.row u182.1], [], 2⟩) 0 1 1 [0, 58, 59, 60, 61] [0, 1, 2] ?_
    refine RefR.letC (stf := fun x212 => ⟨[sP 0 0 0 0, (58, .c (E54.tree a1.fMethods)), sI 59 (Int.ofNat a1.fMethods.length), sI 60 u182.2, sB 61 x212], [.cells [.own 2 u182.1.length], .dead, E9.row u182.1], [], 2⟩) (by kernel_rfl) (fun x212 => ?_)
    refine RefR.nl 1 ?_
    refine Ref.sq ?_
    refine Ref.cn (.tmp 61) x212 (fun hc => ?_) (fun hc => ?_)
    ·
     refine Ref.sk ?_
     refine Ref.sq ?_
     refine Ref.codeEq (c' := .block 3 (cd (bd Tryd.f32) [1, 1, 1, 1, 1, 1, 1, 1, 1, 0, 1, 0, 0, 1, 1, 0, 0])) (by kernel_rfl) ?_
     refine Ref.block (go1 := fun u226 => ⟨[sP 0 0 0 0, (58, .c (E54.tree a1.fMethods)), sI 59 (Int.ofNat a1.fMethods.length), sI 60 u182.2], [.cells [.own 2 u226.length], .dead, E9.row u226], [], 2⟩) ?_ (fun a => match a with | .inl _ => (fun h => by cases h) | .inr _ => (fun h => by cases h)) (fun u226 => ?_)
     ·
      refine Ref.sq ?_
      refine Ref.rn 16 ?_
      refine RefR.evC (vs := [inb u182.2 a1.fMethods.length]) (st' := ⟨[sP 0 0 0 0, sP 7 3 0 0, (58, .c (E54.tree a1.fMethods)), sI 59 (Int.ofNat a1.fMethods.length), sI 60 u182.2], [.cells [.own 2 u182.1.length], .dead, E9.row u182.1, .cells (E54.cs (a1.fMethods.getD (u182.2 : Int).toNat default))], [], 2⟩) 0 4 4 [0, 7, 58, 59, 60] [0, 1, 2, 3] rfl (by kernel_rfl) ?_
      refine RefR.nl 4 ?_
      refine Ref.sq ?_
      refine Ref.rn 17 ?_
      refine RefR.e0 (st' := ⟨[sP 0 0 0 0, sP 7 3 0 0, (58, .c (E54.tree a1.fMethods)), sI 59 (Int.ofNat a1.fMethods.length), sI 60 u182.2, sP 64 0 0 0], [.cells [.own 2 u182.1.length], .dead, E9.row u182.1, .cells (E54.cs (a1.fMethods.getD (u182.2 : Int).toNat default))], [], 2⟩) 0 1 1 [0, 7, 58, 59, 60, 64] [0, 1, 2, 3] ?_
      refine RefR.e0 (st' := ⟨[sP 0 0 0 0, sP 7 3 0 0, (58, .c (E54.tree a1.fMethods)), sI 59 (Int.ofNat a1.fMethods.length), sI 60 u182.2, sP 64 0 0 0, (65, .c (.own 4 1))], [.cells [.own 2 u182.1.length], .dead, E9.row u182.1, .cells (E54.cs (a1.fMethods.getD (u182.2 : Int).toNat default)), .row 9 1 1 (tbl [[.str ([77, 69, 84, 72, 79, 68] : Bytes)]])], [], 2⟩) 1 1 2 [0, 7, 58, 59, 60, 64, 65] [0, 1, 2, 3, 4] ?_
      refine RefR.conv (Conv.obj 4 (E9.row [([77, 69, 84, 72, 79, 68] : Bytes)]) (El.row_build E9 [([77, 69, 84, 72, 79, 68] : Bytes)] rfl (by kernel_rfl)) (by kernel_rfl)) ?_
      refine RefR.conv (Conv.slot 65 (.c (.own 4 ([([77, 69, 84, 72, 79, 68] : Bytes)].length))) (DLe.c (CLe.own (by simp <;> omega))) (by kernel_rfl)) ?_
      refine RefR.conv (Conv.freeze (st' := ⟨[(65, .c (E9.tree [([77, 69, 84, 72, 79, 68] : Bytes)])), sP 0 0 0 0, sP 7 3 0 0, (58, .c (E54.tree a1.fMethods)), sI 59 (Int.ofNat a1.fMethods.length), sI 60 u182.2, sP 64 0 0 0], [.cells [.own 2 u182.1.length], .dead, E9.row u182.1, .cells (E54.cs (a1.fMethods.getD (u182.2 : Int).toNat default)), .dead], [], 2⟩) 4 (by kernel_rfl)) ?_
      refine RefR.callC (t := 66) 2 3 [0, 2] rfl (by kernel_rfl) (F33_ok K (⟨u182.1⟩ : S62) [([77, 69, 84, 72, 79, 68] : Bytes)]) (fun r227 => ?_)
      refine RefR.nl 3 ?_
      refine Ref.sq ?_
      refine Ref.rn 18 ?_
      refine RefR.e0 (st' := ⟨[sP 0 0 0 0, sP 7 2 0 0, (58, .c (E54.tree a1.fMethods)), sI 59 (Int.ofNat a1.fMethods.length), sI 60 u182.2, sP 67 0 0 0, sB 69 ((a1.fMethods.getD (u182.2 : Int).toNat default).fOver)], [.cells [.own 3 r227.fl.length], .dead, .cells (E54.cs (a1.fMethods.getD (u182.2 : Int).toNat default)), E9.row r227.fl], [], 2⟩) 0 3 3 [0, 7, 58, 59, 60, 67, 69] [0, 1, 3, 5] ?_
      refine RefR.letC (stf := fun x228 => ⟨[sP 0 0 0 0, sP 7 2 0 0, (58, .c (E54.tree a1.fMethods)), sI 59 (Int.ofNat a1.fMethods.length), sI 60 u182.2, sP 67 0 0 0, sB 69 x228], [.cells [.own 3 r227.fl.length], .dead, .cells (E54.cs (a1.fMethods.getD (u182.2 : Int).toNat default)), E9.row r227.fl], [], 2⟩) (by kernel_rfl) (fun x228 => ?_)
      refine RefR.callC (t := 70) 3 4 [0, 3] rfl (by kernel_rfl) (F50_ok K (⟨r227.fl⟩ : S62) x228 ([79, 86, 69, 82, 82, 73, 68, 69] : Bytes)) (fun r229 => ?_)
      refine RefR.nl 4 ?_
      refine Ref.sq ?_
      refine Ref.rn 19 ?_
      refine RefR.e0 (st' := ⟨[sP 0 0 0 0, sP 7 2 0 0, (58, .c (E54.tree a1.fMethods)), sI 59 (Int.ofNat a1.fMethods.length), sI 60 u182.2, sP 71 0 0 0, sB 73 ((a1.fMethods.getD (u182.2 : Int).toNat default).fAbstract)], [.cells [.own 3 r229.fl.length], .dead, .cells (E54.cs (a1.fMethods.getD (u182.2 : Int).toNat default)), E9.row r229.fl], [], 2⟩) 0 3 3 [0, 7, 58, 59, 60, 71, 73] [0, 1, 2, 4] ?_
      refine RefR.letC (stf := fun x230 => ⟨[sP 0 0 0 0, sP 7 2 0 0, (58, .c (E54.tree a1.fMethods)), sI 59 (Int.ofNat a1.fMethods.length), sI 60 u182.2, sP 71 0 0 0, sB 73 x230], [.cells [.own 3 r229.fl.length], .dead, .cells (E54.cs (a1.fMethods.getD (u182.2 : Int).toNat default)), E9.row r229.fl], [], 2⟩) (by kernel_rfl) (fun x230 => ?_)
      refine RefR.callC (t := 74) 3 4 [0, 3] rfl (by kernel_rfl) (F50_ok K (⟨r229.fl⟩ : S62) x230 ([65, 66, 83, 84, 82, 65, 67, 84] : Bytes)) (fun r231 => ?_)
      refine RefR.nl 4 ?_
      refine Ref.sq ?_
      refine Ref.rn 20 ?_
      refine RefR.e0 (st' := ⟨[sP 0 0 0 0, sP 7 2 0 0, (58, .c (E54.tree a1.fMethods)), sI 59 (Int.ofNat a1.fMethods.length), sI 60 u182.2, sP 75 0 0 0, sB 77 ((a1.fMethods.getD (u182.2 : Int).toNat default).fFinal)], [.cells [.own 3 r231.fl.length], .dead, .cells (E54.cs (a1.fMethods.getD (u182.2 : Int).toNat default)), E9.row r231.fl], [], 2⟩) 0 3 3 [0, 7, 58, 59, 60, 75, 77] [0, 1, 2, 4] ?_
      refine RefR.letC (stf := fun x232 => ⟨[sP 0 0 0 0, sP 7 2 0 0, (58, .c (E54.tree a1.fMethods)), sI 59 (Int.ofNat a1.fMethods.length), sI 60 u182.2, sP 75 0 0 0, sB 77 x232], [.cells [.own 3 r231.fl.length], .dead, .cells (E54.cs (a1.fMethods.getD (u182.2 : Int).toNat default)), E9.row r231.fl], [], 2⟩) (by kernel_rfl) (fun x232 => ?_)
      refine RefR.callC (t := 78) 3 4 [0, 3] rfl (by kernel_rfl) (F50_ok K (⟨r231.fl⟩ : S62) x232 ([70, 73, 78, 65, 76] : Bytes)) (fun r233 => ?_)
      refine RefR.nl 4 ?_
      refine Ref.sq ?_
      refine Ref.rn 21 ?_
      refine RefR.e0 (st' := ⟨[sP 0 0 0 0, sP 7 2 0 0, (58, .c (E54.tree a1.fMethods)), sI 59 (Int.ofNat a1.fMethods.length), sI 60 u182.2, sP 79 0 0 0, (80, .agg (E54.cs (a1.fMethods.getD (u182.2 : Int).toNat default)))], [.cells [.own 3 r233.fl.length], .dead, .cells (E54.cs (a1.fMethods.getD (u182.2 : Int).toNat default)), E9.row r233.fl], [], 2⟩) 0 2 2 [0, 7, 58, 59, 60, 79, 80] [0, 1, 2, 4] ?_
      refine RefR.callC (t := 81) 2 3 [0, 3] rfl (by kernel_rfl) (F49_ok K (⟨r233.fl⟩ : S62) (a1.fMethods.getD (u182.2 : Int).toNat default)) (fun r234 => ?_)
      refine RefR.nl 3 ?_
      refine Ref.sq ?_
      refine Ref.rn 22 ?_
      refine RefR.e0 (st' := ⟨[sP 0 0 0 0, sP 7 2 0 0, (58, .c (E54.tree a1.fMethods)), sI 59 (Int.ofNat a1.fMethods.length), sI 60 u182.2, sP 82 0 0 0, (84, .c (E38.tree ((a1.fMethods.getD (u182.2 : Int).toNat default).fVars)))], [.cells [.own 3 r234.fl.length], .dead, .cells (E54.cs (a1.fMethods.getD (u182.2 : Int).toNat default)), E9.row r234.fl], [], 2⟩) 0 3 3 [0, 7, 58, 59, 60, 82, 84] [0, 1, 2, 4] ?_
      refine RefR.letC (stf := fun x235 => ⟨[sP 0 0 0 0, sP 7 2 0 0, (58, .c (E54.tree a1.fMethods)), sI 59 (Int.ofNat a1.fMethods.length), sI 60 u182.2, sP 82 0 0 0, (84, .c (E38.tree x235))], [.cells [.own 3 r234.fl.length], .dead, .cells (E54.cs (a1.fMethods.getD (u182.2 : Int).toNat default)), E9.row r234.fl], [], 2⟩) (by kernel_rfl) (fun x235 => ?_)
      refine RefR.callC (t := 85) 3 4 [0, 3] rfl (by kernel_rfl) (F34_ok K (⟨r234.fl⟩ : S62) x235) (fun r236 => ?_)
      refine RefR.nl 4 ?_
      refine Ref.sq ?_
      refine Ref.rn 23 ?_
      refine RefR.e0 (st' := ⟨[sP 0 0 0 0, (58, .c (E54.tree a1.fMethods)), sI 59 (Int.ofNat a1.fMethods.length), sI 60 u182.2, sP 86 0 0 0, (88, .c (E43.tree ((a1.fMethods.getD (u182.2 : Int).toNat default).fBody)))], [.cells [.own 2 r236.fl.length], .dead, E9.row r236.fl], [], 2⟩) 0 3 3 [0, 58, 59, 60, 86, 88] [0, 1, 4] ?_
      refine RefR.letC (stf := fun x237 => ⟨[sP 0 0 0 0, (58, .c (E54.tree a1.fMethods)), sI 59 (Int.ofNat a1.fMethods.length), sI 60 u182.2, sP 86 0 0 0, (88, .c (E43.tree x237))], [.cells [.own 2 r236.fl.length], .dead, E9.row r236.fl], [], 2⟩) (by kernel_rfl) (fun x237 => ?_)
      refine RefR.callC (t := 89) 3 4 [0, 2] rfl (by kernel_rfl) (F35_ok K (⟨r236.fl⟩ : S62) x237) (fun r238 => ?_)
      refine RefR.nl 4 ?_
      refine Ref.rn 24 ?_
      refine RefR.e0 (st' := ⟨[sP 0 0 0 0, (58, .c (E54.tree a1.fMethods)), sI 59 (Int.ofNat a1.fMethods.length), sI 60 u182.2, sP 90 0 0 0], [.cells [.own 2 r238.fl.length], .dead, E9.row r238.fl], [], 2⟩) 0 1 1 [0, 58, 59, 60, 90] [0, 1, 3] ?_
      refine RefR.e0 (st' := ⟨[sP 0 0 0 0, (58, .c (E54.tree a1.fMethods)), sI 59 (Int.ofNat a1.fMethods.length), sI 60 u182.2, sP 90 0 0 0, (91, .c (.own 3 1))], [.cells [.own 2 r238.fl.length], .dead, E9.row r238.fl, .row 9 1 1 (tbl [[.str ([69, 78, 68, 95, 77, 69, 84, 72, 79, 68] : Bytes)]])], [], 2⟩) 1 1 2 [0, 58, 59, 60, 90, 91] [0, 1, 2, 3] ?_
      refine RefR.conv (Conv.obj 3 (E9.row [([69, 78, 68, 95, 77, 69, 84, 72, 79, 68] : Bytes)]) (El.row_build E9 [([69, 78, 68, 95, 77, 69, 84, 72, 79, 68] : Bytes)] rfl (by kernel_rfl)) (by kernel_rfl)) ?_
      refine RefR.conv (Conv.slot 91 (.c (.own 3 ([([69, 78, 68, 95, 77, 69, 84, 72, 79, 68] : Bytes)].length))) (DLe.c (CLe.own (by simp <;> omega))) (by kernel_rfl)) ?_
      refine RefR.conv (Conv.freeze (st' := ⟨[(91, .c (E9.tree [([69, 78, 68, 95, 77, 69, 84, 72, 79, 68] : Bytes)])), sP 0 0 0 0, (58, .c (E54.tree a1.fMethods)), sI 59 (Int.ofNat a1.fMethods.length), sI 60 u182.2, sP 90 0 0 0], [.cells [.own 2 r238.fl.length], .dead, E9.row r238.fl, .dead], [], 2⟩) 3 (by kernel_rfl)) ?_
      refine RefR.callC (t := 92) 2 3 [0, 2] rfl (by kernel_rfl) (F33_ok K (⟨r238.fl⟩ : S62) [([69, 78, 68, 95, 77, 69, 84, 72, 79, 68] : Bytes)]) (fun r239 => ?_)
      refine RefR.nl 3 ?_
      refine Ref.conv (Conv.keep (st' := ⟨[sP 0 0 0 0, (58, .c (E54.tree a1.fMethods)), sI 59 (Int.ofNat a1.fMethods.length), sI 60 u182.2], [.cells [.own 2 r239.fl.length], .dead, E9.row r239.fl], [], 2⟩) [0, 58, 59, 60] [0, 1, 4] (by kernel_rfl)) ?_
      exact Ref.n0 (t := (r239.fl))
     ·
      refine Ref.rn 25 ?_
      refine RefR.e0 (st' := ⟨[sP 0 0 0 0, (58, .c (E54.tree a1.fMethods)), sI 59 (Int.ofNat a1.fMethods.length), sI 60 (IntKind.i64.wrap (u182.2 + 1))], [.cells [.own 2 u226.length], .dead, E9.row u226], [], 2⟩) 0 2 2 [0, 58, 59, 60] [0, 1, 2] ?_
      refine RefR.nl 2 ?_
      exact Ref.n0 (t := (u226, (IntKind.i64.wrap (u182.2 + 1))))
    ·
     refine Ref.conv (Conv.keep (st' := ⟨[sP 0 0 0 0], [.cells [.own 2 u182.1.length], .dead, E9.row u182.1], [], 2⟩) [0] [0, 1, 2] (by kernel_rfl)) ?_
     exact Ref.xt 2 (t := (Sum.inl (u182.1)))
   ·
    refine Ref.rn 26 ?_
    refine RefR.e0 (st' := ⟨[sP 94 0 0 0], [.cells [.own 2 u152.length], .dead, E9.row u152], [], 2⟩) 0 1 1 [94] [0, 1, 2] ?_
    refine RefR.e0 (st' := ⟨[sP 94 0 0 0, (95, .c (.own 3 1))], [.cells [.own 2 u152.length], .dead, E9.row u152, .row 9 1 1 (tbl [[.str ([69, 78, 68, 95, 67, 76, 65, 83, 83] : Bytes)]])], [], 2⟩) 1 1 2 [94, 95] [0, 1, 2, 3] ?_
    refine RefR.conv (Conv.obj 3 (E9.row [([69, 78, 68, 95, 67, 76, 65, 83, 83] : Bytes)]) (El.row_build E9 [([69, 78, 68, 95, 67, 76, 65, 83, 83] : Bytes)] rfl (by kernel_rfl)) (by kernel_rfl)) ?_
    refine RefR.conv (Conv.slot 95 (.c (.own 3 ([([69, 78, 68, 95, 67, 76, 65, 83, 83] : Bytes)].length))) (DLe.c (CLe.own (by simp <;> omega))) (by kernel_rfl)) ?_
    refine RefR.conv (Conv.freeze (st' := ⟨[(95, .c (E9.tree [([69, 78, 68, 95, 67, 76, 65, 83, 83] : Bytes)])), sP 94 0 0 0], [.cells [.own 2 u152.length], .dead, E9.row u152, .dead], [], 2⟩) 3 (by kernel_rfl)) ?_
    refine RefR.callC (t := 96) 2 3 [0, 2] rfl (by kernel_rfl) (F33_ok K (⟨u152⟩ : S62) [([69, 78, 68, 95, 67, 76, 65, 83, 83] : Bytes)]) (fun r240 => ?_)
    refine RefR.nl 3 ?_
    refine Ref.conv (Conv.keep (st' := ⟨[], [.cells [.own 2 r240.fl.length], .dead, E9.row r240.fl], [], 2⟩) [] [0, 1, 4] (by kernel_rfl)) ?_
    exact Ref.n0 (t := ((⟨r240.fl⟩ : S62)))

/-- (*governor/print.writer).decl -/
def F18 (K : Nat) (a0 : S62) (a1 : S48) : Option ((S62) ⊕ (S62)) :=
 (bindS (blockS (if ((a1.fKind : Int) == 1) = true then ((fnS (F31 K (⟨a0.fl⟩ : S62) a1)).bind (fun r14 => (some (.inr (r14.fl))))) else (if ((a1.fKind : Int) == 2) = true then ((fnS (F32 K (⟨a0.fl⟩ : S62) a1)).bind (fun r15 => (some (.inr (r15.fl))))) else (if ((a1.fKind : Int) == 3) = true then ((fnS (F33 K (⟨a0.fl⟩ : S62) [([80, 82, 79, 71, 82, 65, 77] : Bytes), a1.fName, ([59] : Bytes)])).bind (fun r16 => ((fnS (F34 K (⟨r16.fl⟩ : S62) a1.fVars)).bind (fun r17 => ((fnS (F35 K (⟨r17.fl⟩ : S62) a1.fBody)).bind (fun r18 => ((fnS (F33 K (⟨r18.fl⟩ : S62) [([69, 78, 68, 95, 80, 82, 79, 71, 82, 65, 77] : Bytes)])).bind (fun r19 => (some (.inr (r19.fl))))))))))) else (if ((a1.fKind : Int) == 4) = true then ((fnS (F33 K (⟨a0.fl⟩ : S62) [([84, 65, 83, 75] : Bytes), a1.fName, ([40] : Bytes), ([73, 78, 84, 69, 82, 86, 65, 76] : Bytes)])).bind (fun r20 => ((fnS (F36 K (⟨r20.fl⟩ : S62) a1.fEvery)).bind (fun r21 => ((fnS (F33 K (⟨r21.fl⟩ : S62) [([44] : Bytes), ([80, 82, 73, 79, 82, 73, 84, 89] : Bytes)])).bind (fun r22 => ((fnS (F36 K (⟨r22.fl⟩ : S62) a1.fFirst)).bind (fun r23 => ((fnS (F33 K (⟨r23.fl⟩ : S62) [([41] : Bytes), ([58] : Bytes), a1.fBase, ([59] : Bytes)])).bind (fun r24 => (some (.inr (r24.fl))))))))))))) else ((fnS (F33 K (⟨a0.fl⟩ : S62) [([63] : Bytes)])).bind (fun r25 => (some (.inr (r25.fl)))))))))) (fun (u13 : (List Bytes)) => (some (.inr ((⟨u13⟩ : S62))))))

theorem F18_ok (K : Nat) (a0 : S62) (a1 : S48) : DFun Tryd.prog 18 [.c (.ptr 0 0 0), .agg (E48.cs a1)] [.cells [.own 1 a0.fl.length], E9.row a0.fl] (fnS (F18 K a0 a1)) (fun r => .tup []) (fun r => [.cells [.own 2 r.fl.length], .dead, E9.row r.fl]) := by
 refine DFun.intro (fn := Tryd.f18) (c := cd (bd Tryd.f18) []) (rs := fun r => ⟨[], [.cells [.own 2 r.fl.length], .dead, E9.row r.fl], [], 2⟩) (by kernel_rfl) (by kernel_rfl) (by kernel_rfl) ?_ (fun r => by kernel_rfl) (fun r => by kernel_rfl) (fun r => by kernel_rfl) (fun r => by kernel_rfl)
 unfold F18
 refine Ref.sq ?_
 refine Ref.rn 0 ?_
 refine RefR.e0 (st' := ⟨[sP 0 0 0 0, sP 3 2 0 0], [.cells [.own 1 a0.fl.length], E9.row a0.fl, .cells (E48.cs a1)], [], 2⟩) 0 1 1 [0, 3] [0, 1, 2] ?_
 refine RefR.nl 1 ?_
 refine Ref.sq ?_
 refine Ref.rn 1 ?_
 refine RefR.e0 (st' := ⟨[sP 0 0 0 0, sP 3 2 0 0, sI 5 a1.fKind], [.cells [.own 1 a0.fl.length], E9.row a0.fl, .cells (E48.cs a1)], [], 2⟩) 0 2 2 [0, 3, 5] [0, 1, 2] ?_
 refine RefR.nl 2 ?_
 refine Ref.codeEq (c' := .block 0 (cd (bd Tryd.f18) [1, 1, 0])) (by kernel_rfl) ?_
 refine Ref.block (go1 := fun u13 => ⟨[], [.cells [.own 2 u13.length], .dead, E9.row u13], [], 2⟩) ?_ (fun _ h => by cases h) (fun u13 => ?_)
 ·
  refine Ref.sq ?_
  refine Ref.rn 3 ?_
  refine RefR.e0 (st' := ⟨[sP 0 0 0 0, sP 3 2 0 0, sI 5 a1.fKind, sB 9 ((a1.fKind : Int) == 1)], [.cells [.own 1 a0.fl.length], E9.row a0.fl, .cells (E48.cs a1)], [], 2⟩) 0 2 2 [0, 3, 5, 9] [0, 1, 2] ?_
  refine RefR.nl 2 ?_
  refine Ref.cn (.tmp 9) ((a1.fKind : Int) == 1) (fun hc => ?_) (fun hc => ?_)
  ·
   refine Ref.rn 4 ?_
   refine RefR.e0 (st' := ⟨[sP 11 0 0 0, (12, .agg (E48.cs a1))], [.cells [.own 1 a0.fl.length], E9.row a0.fl], [], 2⟩) 0 2 2 [11, 12] [0, 1] ?_
   refine RefR.callC (t := 13) 2 3 [0, 1] rfl (by kernel_rfl) (F31_ok K (⟨a0.fl⟩ : S62) a1) (fun r14 => ?_)
   refine RefR.nl 3 ?_
   refine Ref.conv (Conv.keep (st' := ⟨[], [.cells [.own 2 r14.fl.length], .dead, E9.row r14.fl], [], 2⟩) [] [0, 1, 2] (by kernel_rfl)) ?_
   exact Ref.n0 (t := (r14.fl))
  ·
   refine Ref.sq ?_
   refine Ref.rn 5 ?_
   refine RefR.e0 (st' := ⟨[sP 0 0 0 0, sP 3 2 0 0, sI 5 a1.fKind, sB 14 ((a1.fKind : Int) == 2)], [.cells [.own 1 a0.fl.length], E9.row a0.fl, .cells (E48.cs a1)], [], 2⟩) 0 2 2 [0, 3, 5, 14] [0, 1, 2] ?_
   refine RefR.nl 2 ?_
   refine Ref.cn (.tmp 14) ((a1.fKind : Int) == 2) (fun hc => ?_) (fun hc => ?_)
   ·
    refine Ref.rn 6 ?_
    refine RefR.e0 (st' := ⟨[sP 16 0 0 0, (17, .agg (E48.cs a1))], [.cells [.own 1 a0.fl.length], E9.row a0.fl], [], 2⟩) 0 2 2 [16, 17] [0, 1] ?_
    refine RefR.callC (t := 18) 2 3 [0, 1] rfl (by kernel_rfl) (F32_ok K (⟨a0.fl⟩ : S62) a1) (fun r15 => ?_)
    refine RefR.nl 3 ?_
    refine Ref.conv (Conv.keep (st' := ⟨[], [.cells [.own 2 r15.fl.length], .dead, E9.row r15.fl], [], 2⟩) [] [0, 1, 2] (by kernel_rfl)) ?_
    exact Ref.n0 (t := (r15.fl))
   ·
    refine Ref.sq ?_
    refine Ref.rn 7 ?_
    refine RefR.e0 (st' := ⟨[sP 0 0 0 0, sP 3 2 0 0, sI 5 a1.fKind, sB 19 ((a1.fKind : Int) == 3)], [.cells [.own 1 a0.fl.length], E9.row a0.fl, .cells (E48.cs a1)], [], 2⟩) 0 2 2 [0, 3, 5, 19] [0, 1, 2] ?_
    refine RefR.nl 2 ?_
    refine Ref.cn (.tmp 19) ((a1.fKind : Int) == 3) (fun hc => ?_) (fun hc => ?_)
    ·
     refine Ref.sq ?_
     refine Ref.rn 8 ?_
     refine RefR.e0 (st' := ⟨[sP 0 0 0 0, sP 3 2 0 0, sP 21 0 0 0, sS 23 a1.fName], [.cells [.own 1 a0.fl.length], E9.row a0.fl, .cells (E48.cs a1)], [], 2⟩) 0 3 3 [0, 3, 21, 23] [0, 1, 2] ?_
     refine RefR.e0 (st' := ⟨[sP 0 0 0 0, sP 3 2 0 0, sP 21 0 0 0, (24, .c (.own 3 3))], [.cells [.own 1 a0.fl.length], E9.row a0.fl, .cells (E48.cs a1), .row 9 1 3 (tbl [[.str ([80, 82, 79, 71, 82, 65, 77] : Bytes)], [.str a1.fName], [.str ([59] : Bytes)]])], [], 2⟩) 3 1 4 [0, 3, 21, 24] [0, 1, 2, 3] ?_
     refine RefR.conv (Conv.obj 3 (E9.row [([80, 82, 79, 71, 82, 65, 77] : Bytes), a1.fName, ([59] : Bytes)]) (El.row_build E9 [([80, 82, 79, 71, 82, 65, 77] : Bytes), a1.fName, ([59] : Bytes)] rfl (by kernel_rfl)) (by kernel_rfl)) ?_
     refine RefR.conv (Conv.slot 24 (.c (.own 3 ([([80, 82, 79, 71, 82, 65, 77] : Bytes), a1.fName, ([59] : Bytes)].length))) (DLe.c (CLe.own (by simp <;> omega))) (by kernel_rfl)) ?_
     refine RefR.conv (Conv.freeze (st' := ⟨[(24, .c (E9.tree [([80, 82, 79, 71, 82, 65, 77] : Bytes), a1.fName, ([59] : Bytes)])), sP 0 0 0 0, sP 3 2 0 0, sP 21 0 0 0], [.cells [.own 1 a0.fl.length], E9.row a0.fl, .cells (E48.cs a1), .dead], [], 2⟩) 3 (by kernel_rfl)) ?_
     refine RefR.callC (t := 25) 4 5 [0, 1] rfl (by kernel_rfl) (F33_ok K (⟨a0.fl⟩ : S62) [([80, 82, 79, 71, 82, 65, 77] : Bytes), a1.fName, ([59] : Bytes)]) (fun r16 => ?_)
     refine RefR.nl 5 ?_
     refine Ref.sq ?_
     refine Ref.rn 9 ?_
     refine RefR.e0 (st' := ⟨[sP 0 0 0 0, sP 3 2 0 0, sP 26 0 0 0, (28, .c (E38.tree a1.fVars))], [.cells [.own 3 r16.fl.length], .dead, .cells (E48.cs a1), E9.row r16.fl], [], 2⟩) 0 3 3 [0, 3, 26, 28] [0, 1, 2, 4] ?_
     refine RefR.callC (t := 29) 3 4 [0, 3] rfl (by kernel_rfl) (F34_ok K (⟨r16.fl⟩ : S62) a1.fVars) (fun r17 => ?_)
     refine RefR.nl 4 ?_
     refine Ref.sq ?_
     refine Ref.rn 10 ?_
     refine RefR.e0 (st' := ⟨[sP 0 0 0 0, sP 30 0 0 0, (32, .c (E43.tree a1.fBody))], [.cells [.own 2 r17.fl.length], .dead, E9.row r17.fl], [], 2⟩) 0 3 3 [0, 30, 32] [0, 1, 4] ?_
     refine RefR.callC (t := 33) 3 4 [0, 2] rfl (by kernel_rfl) (F35_ok K (⟨r17.fl⟩ : S62) a1.fBody) (fun r18 => ?_)
     refine RefR.nl 4 ?_
     refine Ref.rn 11 ?_
     refine RefR.e0 (st' := ⟨[sP 34 0 0 0], [.cells [.own 2 r18.fl.length], .dead, E9.row r18.fl], [], 2⟩) 0 1 1 [34] [0, 1, 3] ?_
     refine RefR.e0 (st' := ⟨[sP 34 0 0 0, (35, .c (.own 3 1))], [.cells [.own 2 r18.fl.length], .dead, E9.row r18.fl, .row 9 1 1 (tbl [[.str ([69, 78, 68, 95, 80, 82, 79, 71, 82, 65, 77] : Bytes)]])], [], 2⟩) 1 1 2 [34, 35] [0, 1, 2, 3] ?_
     refine RefR.conv (Conv.obj 3 (E9.row [([69, 78, 68, 95, 80, 82, 79, 71, 82, 65, 77] : Bytes)]) (El.row_build E9 [([69, 78, 68, 95, 80, 82, 79, 71, 82, 65, 77] : Bytes)] rfl (by kernel_rfl)) (by kernel_rfl)) ?_
     refine RefR.conv (Conv.slot 35 (.c (.own 3 ([([69, 78, 68, 95, 80, 82, 79, 71, 82, 65, 77] : Bytes)].length))) (DLe.c (CLe.own (by simp <;> omega))) (by kernel_rfl)) ?_
     refine RefR.conv (Conv.freeze (st' := ⟨[(35, .c (E9.tree [([69, 78, 68, 95, 80, 82, 79, 71, 82, 65, 77] : Bytes)])), sP 34 0 0 0], [.cells [.own 2 r18.fl.length], .dead, E9.row r18.fl, .dead], [], 2⟩) 3 (by kernel_rfl)) ?_
     refine RefR.callC (t := 36) 2 3 [0, 2] rfl (by kernel_rfl) (F33_ok K (⟨r18.fl⟩ : S62) [([69, 78, 68, 95, 80, 82, 79, 71, 82, 65, 77] : Bytes)]) (fun r19 => ?_)
     refine RefR.nl 3 ?_
     refine Ref.conv (Conv.keep (st' := ⟨[], [.cells [.own 2 r19.fl.length], .dead, E9.row r19.fl], [], 2⟩) [] [0, 1, 4] (by kernel_rfl)) ?_
     exact Ref.n0 (t := (r19.fl))
    ·
     refine Ref.sq ?_
     refine Ref.rn 12 ?_
     refine RefR.e0 (st' := ⟨[sP 0 0 0 0, sP 3 2 0 0, sB 37 ((a1.fKind : Int) == 4)], [.cells [.own 1 a0.fl.length], E9.row a0.fl, .cells (E48.cs a1)], [], 2⟩) 0 2 2 [0, 3, 37] [0, 1, 2] ?_
     refine RefR.nl 2 ?_
     refine Ref.cn (.tmp 37) ((a1.fKind : Int) == 4) (fun hc => ?_) (fun hc => ?_)
     ·
      refine Ref.sq ?_
      refine Ref.rn 13 ?_
      refine RefR.e0 (st' := ⟨[sP 0 0 0 0, sP 3 2 0 0, sP 39 0 0 0, sS 41 a1.fName], [.cells [.own 1 a0.fl.length], E9.row a0.fl, .cells (E48.cs a1)], [], 2⟩) 0 3 3 [0, 3, 39, 41] [0, 1, 2] ?_
      refine RefR.e0 (st' := ⟨[sP 0 0 0 0, sP 3 2 0 0, sP 39 0 0 0, (42, .c (.own 3 4))], [.cells [.own 1 a0.fl.length], E9.row a0.fl, .cells (E48.cs a1), .row 9 1 4 (tbl [[.str ([84, 65, 83, 75] : Bytes)], [.str a1.fName], [.str ([40] : Bytes)], [.str ([73, 78, 84, 69, 82, 86, 65, 76] : Bytes)]])], [], 2⟩) 3 1 4 [0, 3, 39, 42] [0, 1, 2, 3] ?_
      refine RefR.conv (Conv.obj 3 (E9.row [([84, 65, 83, 75] : Bytes), a1.fName, ([40] : Bytes), ([73, 78, 84, 69, 82, 86, 65, 76] : Bytes)]) (El.row_build E9 [([84, 65, 83, 75] : Bytes), a1.fName, ([40] : Bytes), ([73, 78, 84, 69, 82, 86, 65, 76] : Bytes)] rfl (by kernel_rfl)) (by kernel_rfl)) ?_
      refine RefR.conv (Conv.slot 42 (.c (.own 3 ([([84, 65, 83, 75] : Bytes), a1.fName, ([40] : Bytes), ([73, 78, 84, 69, 82, 86, 65, 76] : Bytes)].length))) (DLe.c (CLe.own (by simp <;> omega))) (by kernel_rfl)) ?_
      refine RefR.conv (Conv.freeze (st' := ⟨[(42, .c (E9.tree [([84, 65, 83, 75] : Bytes), a1.fName, ([40] : Bytes), ([73, 78, 84, 69, 82, 86, 65, 76] : Bytes)])), sP 0 0 0 0, sP 3 2 0 0, sP 39 0 0 0], [.cells [.own 1 a0.fl.length], E9.row a0.fl, .cells (E48.cs a1), .dead], [], 2⟩) 3 (by kernel_rfl)) ?_
      refine RefR.callC (t := 43) 4 5 [0, 1] rfl (by kernel_rfl) (F33_ok K (⟨a0.fl⟩ : S62) [([84, 65, 83, 75] : Bytes), a1.fName, ([40] : Bytes), ([73, 78, 84, 69, 82, 86, 65, 76] : Bytes)]) (fun r20 => ?_)
      refine RefR.nl 5 ?_
      refine Ref.sq ?_
      refine Ref.rn 14 ?_
      refine RefR.e0 (st' := ⟨[sP 0 0 0 0, sP 3 2 0 0, sP 44 0 0 0, sI 46 a1.fEvery], [.cells [.own 3 r20.fl.length], .dead, .cells (E48.cs a1), E9.row r20.fl], [], 2⟩) 0 3 3 [0, 3, 44, 46] [0, 1, 2, 4] ?_
      refine RefR.callC (t := 47) 3 4 [0, 3] rfl (by kernel_rfl) (F36_ok K (⟨r20.fl⟩ : S62) a1.fEvery) (fun r21 => ?_)
      refine RefR.nl 4 ?_
      refine Ref.sq ?_
      refine Ref.rn 15 ?_
      refine RefR.e0 (st' := ⟨[sP 0 0 0 0, sP 3 2 0 0, sP 48 0 0 0], [.cells [.own 3 r21.fl.length], .dead, .cells (E48.cs a1), E9.row r21.fl], [], 2⟩) 0 1 1 [0, 3, 48] [0, 1, 2, 4] ?_
      refine RefR.e0 (st' := ⟨[sP 0 0 0 0, sP 3 2 0 0, sP 48 0 0 0, (49, .c (.own 4 2))], [.cells [.own 3 r21.fl.length], .dead, .cells (E48.cs a1), E9.row r21.fl, .row 9 1 2 (tbl [[.str ([44] : Bytes)], [.str ([80, 82, 73, 79, 82, 73, 84, 89] : Bytes)]])], [], 2⟩) 1 1 2 [0, 3, 48, 49] [0, 1, 2, 3, 4] ?_
      refine RefR.conv (Conv.obj 4 (E9.row [([44] : Bytes), ([80, 82, 73, 79, 82, 73, 84, 89] : Bytes)]) (El.row_build E9 [([44] : Bytes), ([80, 82, 73, 79, 82, 73, 84, 89] : Bytes)] rfl (by kernel_rfl)) (by kernel_rfl)) ?_
      refine RefR.conv (Conv.slot 49 (.c (.own 4 ([([44] : Bytes), ([80, 82, 73, 79, 82, 73, 84, 89] : Bytes)].length))) (DLe.c (CLe.own (by simp <;> omega))) (by kernel_rfl)) ?_
      refine RefR.conv (Conv.freeze (st' := ⟨[(49, .c (E9.tree [([44] : Bytes), ([80, 82, 73, 79, 82, 73, 84, 89] : Bytes)])), sP 0 0 0 0, sP 3 2 0 0, sP 48 0 0 0], [.cells [.own 3 r21.fl.length], .dead, .cells (E48.cs a1), E9.row r21.fl, .dead], [], 2⟩) 4 (by kernel_rfl)) ?_
      refine RefR.callC (t := 50) 2 3 [0, 3] rfl (by kernel_rfl) (F33_ok K (⟨r21.fl⟩ : S62) [([44] : Bytes), ([80, 82, 73, 79, 82, 73, 84, 89] : Bytes)]) (fun r22 => ?_)
      refine RefR.nl 3 ?_
      refine Ref.sq ?_
      refine Ref.rn 16 ?_
      refine RefR.e0 (st' := ⟨[sP 0 0 0 0, sP 3 2 0 0, sP 51 0 0 0, sI 53 a1.fFirst], [.cells [.own 3 r22.fl.length], .dead, .cells (E48.cs a1), E9.row r22.fl], [], 2⟩) 0 3 3 [0, 3, 51, 53] [0, 1, 2, 5] ?_
      refine RefR.callC (t := 54) 3 4 [0, 3] rfl (by kernel_rfl) (F36_ok K (⟨r22.fl⟩ : S62) a1.fFirst) (fun r23 => ?_)
      refine RefR.nl 4 ?_
      refine Ref.rn 17 ?_
      refine RefR.e0 (st' := ⟨[sP 55 0 0 0, sS 57 a1.fBase], [.cells [.own 2 r23.fl.length], .dead, E9.row r23.fl], [], 2⟩) 0 3 3 [55, 57] [0, 1, 4] ?_
      refine RefR.e0 (st' := ⟨[sP 55 0 0 0, (58, .c (.own 3 4))], [.cells [.own 2 r23.fl.length], .dead, E9.row r23.fl, .row 9 1 4 (tbl [[.str ([41] : Bytes)], [.str ([58] : Bytes)], [.str a1.fBase], [.str ([59] : Bytes)]])], [], 2⟩) 3 1 4 [55, 58] [0, 1, 2, 3] ?_
      refine RefR.conv (Conv.obj 3 (E9.row [([41] : Bytes), ([58] : Bytes), a1.fBase, ([59] : Bytes)]) (El.row_build E9 [([41] : Bytes), ([58] : Bytes), a1.fBase, ([59] : Bytes)] rfl (by kernel_rfl)) (by kernel_rfl)) ?_
      refine RefR.conv (Conv.slot 58 (.c (.own 3 ([([41] : Bytes), ([58] : Bytes), a1.fBase, ([59] : Bytes)].length))) (DLe.c (CLe.own (by simp <;> omega))) (by kernel_rfl)) ?_
      refine RefR.conv (Conv.freeze (st' := ⟨[(58, .c (E9.tree [([41] : Bytes), ([58] : Bytes), a1.fBase, ([59] : Bytes)])), sP 55 0 0 0], [.cells [.own 2 r23.fl.length], .dead, E9.row r23.fl, .dead], [], 2⟩) 3 (by kernel_rfl)) ?_
      refine RefR.callC (t := 59) 4 5 [0, 2] rfl (by kernel_rfl) (F33_ok K (⟨r23.fl⟩ : S62) [([41] : Bytes), ([58] : Bytes), a1.fBase, ([59] : Bytes)]) (fun r24 => ?_)
      refine RefR.nl 5 ?_
      refine Ref.conv (Conv.keep (st' := ⟨[], [.cells [.own 2 r24.fl.length], .dead, E9.row r24.fl], [], 2⟩) [] [0, 1, 4] (by kernel_rfl)) ?_
      exact Ref.n0 (t := (r24.fl))
     ·
      refine Ref.rn 2 ?_
      refine RefR.e0 (st' := ⟨[sP 6 0 0 0], [.cells [.own 1 a0.fl.length], E9.row a0.fl], [], 2⟩) 0 1 1 [6] [0, 1] ?_
      refine RefR.e0 (st' := ⟨[sP 6 0 0 0, (7, .c (.own 2 1))], [.cells [.own 1 a0.fl.length], E9.row a0.fl, .row 9 1 1 (tbl [[.str ([63] : Bytes)]])], [], 2⟩) 1 1 2 [6, 7] [0, 1, 2] ?_
      refine RefR.conv (Conv.obj 2 (E9.row [([63] : Bytes)]) (El.row_build E9 [([63] : Bytes)] rfl (by kernel_rfl)) (by kernel_rfl)) ?_
      refine RefR.conv (Conv.slot 7 (.c (.own 2 ([([63] : Bytes)].length))) (DLe.c (CLe.own (by simp <;> omega))) (by kernel_rfl)) ?_
      refine RefR.conv (Conv.freeze (st' := ⟨[(7, .c (E9.tree [([63] : Bytes)])), sP 6 0 0 0], [.cells [.own 1 a0.fl.length], E9.row a0.fl, .dead], [], 2⟩) 2 (by kernel_rfl)) ?_
      refine RefR.callC (t := 8) 2 3 [0, 1] rfl (by kernel_rfl) (F33_ok K (⟨a0.fl⟩ : S62) [([63] : Bytes)]) (fun r25 => ?_)
      refine RefR.nl 3 ?_
      refine Ref.conv (Conv.keep (st' := ⟨[], [.cells [.own 2 r25.fl.length], .dead, E9.row r25.fl], [], 2⟩) [] [0, 1, 3] (by kernel_rfl)) ?_
      exact Ref.n0 (t := (r25.fl))
 ·
  exact Ref.n0 (t := ((⟨u13⟩ : S62)))

/-- (*governor/print.writer).text -/
def F20 (K : Nat) (a0 : S62) : Option ((Bytes × S62) ⊕ (Bytes × S62)) :=
 ((condM true (fnS (F38 K a0.fl ([32] : Bytes))) default).bind (fun r1 => (some (.inl (r1, (⟨a0.fl⟩ : S62))))))

theorem F20_ok (K : Nat) (a0 : S62) : DFun Tryd.prog 20 [.c (.ptr 0 0 0)] [.cells [.own 1 a0.fl.length], E9.row a0.fl] (fnS (F20 K a0)) (fun r => .c (.str r.1)) (fun r => [.cells [.own 2 r.2.fl.length], .dead, E9.row r.2.fl]) := by
 refine DFun.intro (fn := Tryd.f20) (c := cd (bd Tryd.f20) []) (rs := fun r => ⟨[sS 2 r.1], [.cells [.own 2 r.2.fl.length], .dead, E9.row r.2.fl], [], 2⟩) (by kernel_rfl) (by kernel_rfl) (by kernel_rfl) ?_ (fun r => by kernel_rfl) (fun r => by kernel_rfl) (fun r => by kernel_rfl) (fun r => by kernel_rfl)
 unfold F20
 refine Ref.sq ?_
 refine Ref.rn 0 ?_
 refine RefR.e0 (st' := ⟨[sP 0 0 0 0], [.cells [.own 1 a0.fl.length], E9.row a0.fl], [], 2⟩) 0 1 1 [0] [0, 1] ?_
 refine RefR.nl 1 ?_
 refine Ref.sq ?_
 refine Ref.rn 1 ?_
 refine RefR.e0 (st' := ⟨[(6, .c (.own 1 a0.fl.length))], [.cells [.own 1 a0.fl.length], E9.row a0.fl], [], 2⟩) 0 4 4 [6] [0, 1] ?_
 refine RefR.lookC (t := 7) (g := []) (b := true) 4 5 [1] (default : Bytes) rfl (by kernel_rfl) (F38_ok K a0.fl ([32] : Bytes)) (fun _ => rfl) (fun r1 => ?_)
 refine RefR.e0 (st' := ⟨[sS 2 r1], [.cells [.own 1 a0.fl.length], E9.row a0.fl], [], 2⟩) 5 1 6 [2] [0, 1] ?_
 refine RefR.nl 6 ?_
 refine Ref.conv (Conv.move (st' := ⟨[sS 2 r1], [.cells [.own 2 a0.fl.length], .dead, E9.row a0.fl], [], 2⟩) 1 (by kernel_rfl) (by kernel_rfl)) ?_
 exact Ref.rt (t := (r1, (⟨a0.fl⟩ : S62)))

/-- governor/print.Type -/
def F12 (K : Nat) (a0 : S29) : Option ((Bytes) ⊕ (Bytes)) :=
 ((fnS (F29 K (⟨[]⟩ : S62) a0)).bind (fun r1 => ((fnS (F20 K (⟨r1.fl⟩ : S62))).bind (fun r2 => (some (.inl (r2.1)))))))

theorem F12_ok (K : Nat) (a0 : S29) : DFun Tryd.prog 12 [.agg (E29.cs a0)] [] (fnS (F12 K a0)) (fun r => .c (.str r)) (fun r => []) := by
 refine DFun.intro (fn := Tryd.f12) (c := cd (bd Tryd.f12) []) (rs := fun r => ⟨[sS 2 r], [], [], 0⟩) (by kernel_rfl) (by kernel_rfl) (by kernel_rfl) ?_ (fun r => by kernel_rfl) (fun r => by kernel_rfl) (fun r => by kernel_rfl) (fun r => by kernel_rfl)
 unfold F12
 refine Ref.sq ?_
 refine Ref.rn 0 ?_
 refine RefR.e0 (st' := ⟨[sP 1 0 0 0], [.cells (E29.cs a0)], [], 0⟩) 0 2 2 [1] [0] ?_
 refine RefR.nl 2 ?_
 refine Ref.sq ?_
 refine Ref.rn 1 ?_
 refine RefR.e0 (st' := ⟨[sP 1 0 0 0, sP 3 1 0 0], [.cells (E29.cs a0), .cells [.nil]], [], 0⟩) 0 3 3 [1, 3] [0, 1] ?_
 refine RefR.nl 3 ?_
 refine Ref.sq ?_
 refine Ref.rn 2 ?_
 refine RefR.e0 (st' := ⟨[sP 3 0 0 0, sP 6 0 0 0, (7, .agg (E29.cs a0))], [.cells [.nil]], [], 0⟩) 0 2 2 [3, 6, 7] [1] ?_
 refine RefR.conv (Conv.adoptCell (st' := ⟨[sP 3 0 0 0, sP 6 0 0 0, (7, .agg (E29.cs a0))], [.cells [.own 1 0], E9.row []], [], 0⟩) 0 0 E9.ty E9.w (E9.at []) (by kernel_rfl)) ?_
 refine RefR.callC (t := 8) 2 3 [0, 1] rfl (by kernel_rfl) (F29_ok K (⟨[]⟩ : S62) a0) (fun r1 => ?_)
 refine RefR.nl 3 ?_
 refine Ref.sq ?_
 refine Ref.rn 3 ?_
 refine RefR.e0 (st' := ⟨[sP 9 0 0 0], [.cells [.own 1 r1.fl.length], E9.row r1.fl], [], 0⟩) 0 1 1 [9] [0, 2] ?_
 refine RefR.callC (t := 10) 1 2 [0, 1] rfl (by kernel_rfl) (F20_ok K (⟨r1.fl⟩ : S62)) (fun r2 => ?_)
 refine RefR.e0 (st' := ⟨[sS 2 r2.1], [], [], 0⟩) 2 1 3 [2] [] ?_
 refine RefR.nl 3 ?_
 exact Ref.rt (t := (r2.1))

/-- governor/print.Expr -/
def F10 (K : Nat) (a0 : S27) : Option ((Bytes) ⊕ (Bytes)) :=
 ((fnS (F23 K (⟨[]⟩ : S62) a0)).bind (fun r1 => ((fnS (F20 K (⟨r1.fl⟩ : S62))).bind (fun r2 => (some (.inl (r2.1)))))))

theorem F10_ok (K : Nat) (a0 : S27) : DFun Tryd.prog 10 [.agg (E27.cs a0)] [] (fnS (F10 K a0)) (fun r => .c (.str r)) (fun r => []) := by
 refine DFun.intro (fn := Tryd.f10) (c := cd (bd Tryd.f10) []) (rs := fun r => ⟨[sS 2 r], [], [], 0⟩) (by kernel_rfl) (by kernel_rfl) (by kernel_rfl) ?_ (fun r => by kernel_rfl) (fun r => by kernel_rfl) (fun r => by kernel_rfl) (fun r => by kernel_rfl)
 unfold F10
 refine Ref.sq ?_
 refine Ref.rn 0 ?_
 refine RefR.e0 (st' := ⟨[sP 1 0 0 0], [.cells (E27.cs a0)], [], 0⟩) 0 2 2 [1] [0] ?_
 refine RefR.nl 2 ?_
 refine Ref.sq ?_
 refine Ref.rn 1 ?_
 refine RefR.e0 (st' := ⟨[sP 1 0 0 0, sP 3 1 0 0], [.cells (E27.cs a0), .cells [.nil]], [], 0⟩) 0 3 3 [1, 3] [0, 1] ?_
 refine RefR.nl 3 ?_
 refine Ref.sq ?_
 refine Ref.rn 2 ?_
 refine RefR.e0 (st' := ⟨[sP 3 0 0 0, sP 6 0 0 0, (7, .agg (E27.cs a0))], [.cells [.nil]], [], 0⟩) 0 2 2 [3, 6, 7] [1] ?_
 refine RefR.conv (Conv.adoptCell (st' := ⟨[sP 3 0 0 0, sP 6 0 0 0, (7, .agg (E27.cs a0))], [.cells [.own 1 0], E9.row []], [], 0⟩) 0 0 E9.ty E9.w (E9.at []) (by kernel_rfl)) ?_
 refine RefR.callC (t := 8) 2 3 [0, 1] rfl (by kernel_rfl) (F23_ok K (⟨[]⟩ : S62) a0) (fun r1 => ?_)
 refine RefR.nl 3 ?_
 refine Ref.sq ?_
 refine Ref.rn 3 ?_
 refine RefR.e0 (st' := ⟨[sP 9 0 0 0], [.cells [.own 1 r1.fl.length], E9.row r1.fl], [], 0⟩) 0 1 1 [9] [0, 2] ?_
 refine RefR.callC (t := 10) 1 2 [0, 1] rfl (by kernel_rfl) (F20_ok K (⟨r1.fl⟩ : S62)) (fun r2 => ?_)
 refine RefR.e0 (st' := ⟨[sS 2 r2.1], [], [], 0⟩) 2 1 3 [2] [] ?_
 refine RefR.nl 3 ?_
 exact Ref.rt (t := (r2.1))

/-- (*strings.Builder).WriteString -/
def F19 (K : Nat) (a0 : S59) (a1 : Bytes) : Option ((Int × Err × S59) ⊕ (Int × Err × S59)) :=
 ((fnS (F37 K a0)).bind (fun r1 => (chk [room ((r1.fbuf.length + a1.length) * 1)] (some (.inl ((Int.ofNat a1.length), none, (⟨r1.faddr, (r1.fbuf ++ a1)⟩ : S59)))))))

theorem F19_ok (K : Nat) (a0 : S59) (a1 : Bytes) : DFun Tryd.prog 19 [.c (.ptr 0 0 0), .c (.str a1)] [.cells [.self 59 a0.faddr 0, .own 1 a0.fbuf.length], E5.row a0.fbuf] (fnS (F19 K a0 a1)) (fun r => .tup [.c (.val (.int .i64 r.1)), .c (errC r.2.1)]) (fun r => [.cells [.self 59 r.2.2.faddr 0, .own 2 r.2.2.fbuf.length], .dead, E5.row r.2.2.fbuf]) := by
 refine DFun.intro (fn := Tryd.f19) (c := cd (bd Tryd.f19) []) (rs := fun r => ⟨[sI 4 r.1, (5, .c (errC r.2.1))], [.cells [.self 59 r.2.2.faddr 0, .own 2 r.2.2.fbuf.length], .dead, E5.row r.2.2.fbuf], [], 2⟩) (by kernel_rfl) (by kernel_rfl) (by kernel_rfl) ?_ (fun r => by kernel_rfl) (fun r => by kernel_rfl) (fun r => by kernel_rfl) (fun r => by kernel_rfl)
 unfold F19
 refine Ref.sq ?_
 refine Ref.rn 0 ?_
 refine RefR.e0 (st' := ⟨[sP 0 0 0 0, sS 1 a1], [.cells [.self 59 a0.faddr 0, .own 1 a0.fbuf.length], E5.row a0.fbuf], [], 2⟩) 0 2 2 [0, 1] [0, 1] ?_
 refine RefR.nl 2 ?_
 refine Ref.sq ?_
 refine Ref.rn 1 ?_
 refine RefR.e0 (st' := ⟨[sP 0 0 0 0, sS 1 a1, sP 6 0 0 0], [.cells [.self 59 a0.faddr 0, .own 1 a0.fbuf.length], E5.row a0.fbuf], [], 2⟩) 0 1 1 [0, 1, 6] [0, 1] ?_
 refine RefR.callC (t := 7) 1 2 [0, 1] rfl (by kernel_rfl) (F37_ok K a0) (fun r1 => ?_)
 refine RefR.nl 2 ?_
 refine Ref.sq ?_
 refine Ref.rn 2 ?_
 refine RefR.e0 (st' := ⟨[sS 1 a1, sP 8 0 0 0, (12, .c (.own 1 r1.fbuf.length)), sS 13 a1], [.cells [.self 59 r1.faddr 0, .own 1 r1.fbuf.length], E5.row r1.fbuf], [], 2⟩) 0 6 6 [1, 8, 12, 13] [0, 1] ?_
 refine RefR.evC (vs := [room ((r1.fbuf.length + a1.length) * 1)]) (st' := ⟨[sS 1 a1, sP 8 0 0 0, (14, .c (.own 2 (r1.fbuf.length + a1.length)))], [.cells [.self 59 r1.faddr 0, .own 1 r1.fbuf.length], .dead, .row 5 1 (r1.fbuf.length + a1.length) fun i j => bif Nat.blt i r1.fbuf.length then E5.at r1.fbuf i j else (fun i _ => .val (.int .u8 (a1.getD i 0).toNat)) (i - r1.fbuf.length) j], [], 2⟩) 6 1 7 [1, 8, 14] [0, 1, 2] rfl (by kernel_rfl) ?_
 refine RefR.conv (Conv.obj 2 (E5.row (r1.fbuf ++ a1)) (El.row_append_str E5 rfl r1.fbuf a1 rfl) (by kernel_rfl)) ?_
 refine RefR.conv (Conv.slot 14 (.c (.own 2 ((r1.fbuf ++ a1).length))) (DLe.c (CLe.own (by simp <;> omega))) (by kernel_rfl)) ?_
 refine RefR.e0 (st' := ⟨[sS 1 a1], [.cells [.self 59 r1.faddr 0, .own 2 ((r1.fbuf ++ a1).length)], .dead, E5.row (r1.fbuf ++ a1)], [], 2⟩) 7 3 10 [1] [0, 1, 2] ?_
 refine RefR.nl 10 ?_
 refine Ref.sq ?_
 refine Ref.rn 3 ?_
 refine RefR.e0 (st' := ⟨[sI 4 (Int.ofNat a1.length), (5, .c (.val .nilIface))], [.cells [.self 59 r1.faddr 0, .own 2 ((r1.fbuf ++ a1).length)], .dead, E5.row (r1.fbuf ++ a1)], [], 2⟩) 0 4 4 [4, 5] [0, 1, 2] ?_
 refine RefR.nl 4 ?_
 refine Ref.conv (Conv.slot 5 (.c (errC none)) (DLe.c (errC_nil)) (by kernel_rfl)) ?_
 refine Ref.conv (Conv.keep (st' := ⟨[sI 4 (Int.ofNat a1.length), (5, .c (errC none))], [.cells [.self 59 r1.faddr 0, .own 2 ((r1.fbuf ++ a1).length)], .dead, E5.row (r1.fbuf ++ a1)], [], 2⟩) [4, 5] [0, 1, 2] (by kernel_rfl)) ?_
 exact Ref.rt (t := ((Int.ofNat a1.length), none, (⟨r1.faddr, (r1.fbuf ++ a1)⟩ : S59)))

/-- governor/print.Unit -/
def F8 (K : Nat) (a0 : S24) : Option ((Bytes) ⊕ (Bytes)) :=
 (bindS (blockS ((iter K (fun (u38 : Bool × (List UInt8) × Int) => (letV (decide ((u38.2.2 : Int) < (Int.ofNat a0.fDecls.length))) (fun (x48 : Bool) => (if x48 = true then (bindS (blockS (chk [inb u38.2.2 a0.fDecls.length] ((fnS (F18 K (⟨[]⟩ : S62) (a0.fDecls.getD (u38.2.2 : Int).toNat default))).bind (fun r53 => ((fnS (F20 K (⟨r53.fl⟩ : S62))).bind (fun r54 => (chk [room (r54.1.length + ([10] : Bytes).length)] ((fnS (F19 K (⟨u38.1, u38.2.1⟩ : S59) (r54.1 ++ ([10] : Bytes)))).bind (fun r55 => (some (.inr (r55.2.2.faddr, r55.2.2.fbuf)))))))))))) (fun (u52 : Bool × (List UInt8)) => (some (.inr (u52.1, u52.2, (IntKind.i64.wrap (u38.2.2 + 1))))))) else (some (.inl (Sum.inl (u38.1, u38.2.1)))))))) (false, [], 0)).map .inl)) (fun (u28 : Bool × (List UInt8)) => ((fnS (F21 K (⟨u28.1, u28.2⟩ : S59))).bind (fun r56 => (some (.inl (r56)))))))

theorem F8_ok (K : Nat) (a0 : S24) : DFun Tryd.prog 8 [.agg (E24.cs a0)] [] (fnS (F8 K a0)) (fun r => .c (.str r)) (fun r => []) := by
 refine DFun.intro (fn := Tryd.f8) (c := cd (bd Tryd.f8) []) (rs := fun r => ⟨[sS 2 r], [], [], 0⟩) (by kernel_rfl) (by kernel_rfl) (by kernel_rfl) ?_ (fun r => by kernel_rfl) (fun r => by kernel_rfl) (fun r => by kernel_rfl) (fun r => by kernel_rfl)
 unfold F8
 refine Ref.sq ?_
 refine Ref.rn 0 ?_
 refine RefR.e0 (st' := ⟨[sP 1 0 0 0], [.cells (E24.cs a0)], [], 0⟩) 0 2 2 [1] [0] ?_
 refine RefR.nl 2 ?_
 refine Ref.sq ?_
 refine Ref.rn 1 ?_
 refine RefR.allocSelf (d := 3) (t := 59) (cl := [.nil]) 0 1 (by kernel_rfl) (by kernel_rfl) ?_
 refine RefR.nl 1 ?_
 refine Ref.sq ?_
 refine Ref.sq ?_
 refine Ref.rn 2 ?_
 refine RefR.e0 (st' := ⟨[sP 3 0 0 0, (8, .c (E48.tree a0.fDecls)), sI 9 (Int.ofNat a0.fDecls.length), sI 10 0], [.cells [.self 59 false 0, .nil]], [], 0⟩) 0 4 4 [3, 8, 9, 10] [1] ?_
 refine RefR.nl 4 ?_
 refine Ref.codeEq (c' := .block 0 (cd (bd Tryd.f8) [1, 1, 0, 1, 0])) (by kernel_rfl) ?_
 refine Ref.block (go1 := fun u28 => ⟨[sP 3 0 0 0], [.cells [.self 59 u28.1 0, .own 1 u28.2.length], E5.row u28.2], [], 0⟩) ?_ (fun _ h => by cases h) (fun u28 => ?_)
 ·
  refine Ref.codeEq (c' := .loop (cd (bd Tryd.f8) [1, 1, 0, 1, 0, 0])) (by kernel_rfl) ?_
  refine Ref.conv (Conv.adoptCell (st' := ⟨[sP 3 0 0 0, (8, .c (E48.tree a0.fDecls)), sI 9 (Int.ofNat a0.fDecls.length), sI 10 0], [.cells [.self 59 false 0, .own 1 0], E5.row []], [], 0⟩) 0 1 E5.ty E5.w (E5.at []) (by kernel_rfl)) ?_
  refine Ref.loop (hd := fun u38 => ⟨[sP 3 0 0 0, (8, .c (E48.tree a0.fDecls)), sI 9 (Int.ofNat a0.fDecls.length), sI 10 u38.2.2], [.cells [.self 59 u38.1 0, .own 1 u38.2.1.length], E5.row u38.2.1], [], 0⟩) K (false, [], 0) (by kernel_rfl) (fun u38 => ?_)
  refine Ref.sq ?_
  refine Ref.rn 3 ?_
  refine RefR.e0 (st' := ⟨[sP 3 0 0 0, (8, .c (E48.tree a0.fDecls)), sI 9 (Int.ofNat a0.fDecls.length), sI 10 u38.2.2, sB 11 (decide ((u38.2.2 : Int) < (Int.ofNat a0.fDecls.length)))], [.cells [.self 59 u38.1 0, .own 1 u38.2.1.length], E5.row u38.2.1], [], 0⟩) 0 1 1 [3, 8, 9, 10, 11] [0, 1] ?_
  refine RefR.letC (stf := fun x48 => ⟨[sP 3 0 0 0, (8, .c (E48.tree a0.fDecls)), sI 9 (Int.ofNat a0.fDecls.length), sI 10 u38.2.2, sB 11 x48], [.cells [.self 59 u38.1 0, .own 1 u38.2.1.length], E5.row u38.2.1], [], 0⟩) (by kernel_rfl) (fun x48 => ?_)
  refine RefR.nl 1 ?_
  refine Ref.sq ?_
  refine Ref.cn (.tmp 11) x48 (fun hc => ?_) (fun hc => ?_)
  ·
   refine Ref.sk ?_
   refine Ref.sq ?_
   refine Ref.codeEq (c' := .block 1 (cd (bd Tryd.f8) [1, 1, 0, 1, 0, 0, 1, 1, 0, 0])) (by kernel_rfl) ?_
   refine Ref.block (go1 := fun u52 => ⟨[sP 3 0 0 0, (8, .c (E48.tree a0.fDecls)), sI 9 (Int.ofNat a0.fDecls.length), sI 10 u38.2.2], [.cells [.self 59 u52.1 0, .own 1 u52.2.length], E5.row u52.2], [], 0⟩) ?_ (fun a => match a with | .inl _ => (fun h => by cases h) | .inr _ => (fun h => by cases h)) (fun u52 => ?_)
   ·
    refine Ref.sq ?_
    refine Ref.rn 4 ?_
    refine RefR.evC (vs := [inb u38.2.2 a0.fDecls.length]) (st' := ⟨[sP 3 0 0 0, sP 5 2 0 0, (8, .c (E48.tree a0.fDecls)), sI 9 (Int.ofNat a0.fDecls.length), sI 10 u38.2.2], [.cells [.self 59 u38.1 0, .own 1 u38.2.1.length], E5.row u38.2.1, .cells (E48.cs (a0.fDecls.getD (u38.2.2 : Int).toNat default))], [], 0⟩) 0 4 4 [3, 5, 8, 9, 10] [0, 1, 2] rfl (by kernel_rfl) ?_
    refine RefR.nl 4 ?_
    refine Ref.sq ?_
    refine Ref.rn 5 ?_
    refine RefR.e0 (st' := ⟨[sP 3 0 0 0, sP 5 2 0 0, sP 6 3 0 0, (8, .c (E48.tree a0.fDecls)), sI 9 (Int.ofNat a0.fDecls.length), sI 10 u38.2.2], [.cells [.self 59 u38.1 0, .own 1 u38.2.1.length], E5.row u38.2.1, .cells (E48.cs (a0.fDecls.getD (u38.2.2 : Int).toNat default)), .cells [.nil]], [], 0⟩) 0 3 3 [3, 5, 6, 8, 9, 10] [0, 1, 2, 3] ?_
    refine RefR.nl 3 ?_
    refine Ref.sq ?_
    refine Ref.rn 6 ?_
    refine RefR.e0 (st' := ⟨[sP 3 0 0 0, sP 6 2 0 0, (8, .c (E48.tree a0.fDecls)), sI 9 (Int.ofNat a0.fDecls.length), sI 10 u38.2.2, sP 16 2 0 0, (17, .agg (E48.cs (a0.fDecls.getD (u38.2.2 : Int).toNat default)))], [.cells [.self 59 u38.1 0, .own 1 u38.2.1.length], E5.row u38.2.1, .cells [.nil]], [], 0⟩) 0 2 2 [3, 6, 8, 9, 10, 16, 17] [0, 1, 3] ?_
    refine RefR.conv (Conv.adoptCell (st' := ⟨[sP 3 0 0 0, sP 6 2 0 0, (8, .c (E48.tree a0.fDecls)), sI 9 (Int.ofNat a0.fDecls.length), sI 10 u38.2.2, sP 16 2 0 0, (17, .agg (E48.cs (a0.fDecls.getD (u38.2.2 : Int).toNat default)))], [.cells [.self 59 u38.1 0, .own 1 u38.2.1.length], E5.row u38.2.1, .cells [.own 3 0], E9.row []], [], 0⟩) 2 0 E9.ty E9.w (E9.at []) (by kernel_rfl)) ?_
    refine RefR.callC (t := 18) 2 3 [2, 3] rfl (by kernel_rfl) (F18_ok K (⟨[]⟩ : S62) (a0.fDecls.getD (u38.2.2 : Int).toNat default)) (fun r53 => ?_)
    refine RefR.nl 3 ?_
    refine Ref.rn 7 ?_
    refine RefR.e0 (st' := ⟨[sP 3 0 0 0, (8, .c (E48.tree a0.fDecls)), sI 9 (Int.ofNat a0.fDecls.length), sI 10 u38.2.2, sP 19 2 0 0], [.cells [.self 59 u38.1 0, .own 1 u38.2.1.length], E5.row u38.2.1, .cells [.own 3 r53.fl.length], E9.row r53.fl], [], 0⟩) 0 1 1 [3, 8, 9, 10, 19] [0, 1, 2, 4] ?_
    refine RefR.callC (t := 20) 1 2 [2, 3] rfl (by kernel_rfl) (F20_ok K (⟨r53.fl⟩ : S62)) (fun r54 => ?_)
    refine RefR.evC (vs := [room (r54.1.length + ([10] : Bytes).length)]) (st' := ⟨[sP 3 0 0 0, (8, .c (E48.tree a0.fDecls)), sI 9 (Int.ofNat a0.fDecls.length), sI 10 u38.2.2, sS 21 (r54.1 ++ ([10] : Bytes))], [.cells [.self 59 u38.1 0, .own 1 u38.2.1.length], E5.row u38.2.1], [], 0⟩) 2 1 3 [3, 8, 9, 10, 21] [0, 1] rfl (by kernel_rfl) ?_
    refine RefR.callC (t := 22) 3 4 [0, 1] rfl (by kernel_rfl) (F19_ok K (⟨u38.1, u38.2.1⟩ : S59) (r54.1 ++ ([10] : Bytes))) (fun r55 => ?_)
    refine RefR.nl 4 ?_
    refine Ref.conv (Conv.keep (st' := ⟨[sP 3 0 0 0, (8, .c (E48.tree a0.fDecls)), sI 9 (Int.ofNat a0.fDecls.length), sI 10 u38.2.2], [.cells [.self 59 r55.2.2.faddr 0, .own 1 r55.2.2.fbuf.length], E5.row r55.2.2.fbuf], [], 0⟩) [3, 8, 9, 10] [0, 2] (by kernel_rfl)) ?_
    exact Ref.n0 (t := (r55.2.2.faddr, r55.2.2.fbuf))
   ·
    refine Ref.rn 8 ?_
    refine RefR.e0 (st' := ⟨[sP 3 0 0 0, (8, .c (E48.tree a0.fDecls)), sI 9 (Int.ofNat a0.fDecls.length), sI 10 (IntKind.i64.wrap (u38.2.2 + 1))], [.cells [.self 59 u52.1 0, .own 1 u52.2.length], E5.row u52.2], [], 0⟩) 0 2 2 [3, 8, 9, 10] [0, 1] ?_
    refine RefR.nl 2 ?_
    exact Ref.n0 (t := (u52.1, u52.2, (IntKind.i64.wrap (u38.2.2 + 1))))
  ·
   refine Ref.conv (Conv.keep (st' := ⟨[sP 3 0 0 0], [.cells [.self 59 u38.1 0, .own 1 u38.2.1.length], E5.row u38.2.1], [], 0⟩) [3] [0, 1] (by kernel_rfl)) ?_
   exact Ref.xt 0 (t := (Sum.inl (u38.1, u38.2.1)))
 ·
  refine Ref.sq ?_
  refine Ref.rn 9 ?_
  refine RefR.callC (t := 24) 0 1 [0, 1] rfl (by kernel_rfl) (F21_ok K (⟨u28.1, u28.2⟩ : S59)) (fun r56 => ?_)
  refine RefR.e0 (st' := ⟨[sS 2 r56], [], [], 0⟩) 1 1 2 [2] [] ?_
  refine RefR.nl 2 ?_
  exact Ref.rt (t := (r56))

end Go.Proofs.YtaoklnkjcobokaaDoor
