/- Plain functions, and that the Go functions do what these do: printed by gen2.py. No conditions. -/
import Derived.Test.YtidjangjfekfjaaGreatDoorGa
import Derived.Test.YtidjangjfekfjaaGreatDoorProg
set_option linter.unusedVariables false
set_option linter.unusedSimpArgs false
set_option linter.unusedSectionVars false
namespace Go.Proofs.YtidjangjfekfjaaGreatDoor
open Go Go.Proofs Go.Dl
variable [WInv]
set_option maxRecDepth 100000
set_option maxHeartbeats 4000000
def F39 (K : Nat) : Option (((List Bytes)) ⊕ ((List Bytes))) :=
 (some (.inl ([([43] : Bytes), ([45] : Bytes), ([42] : Bytes), ([47] : Bytes), ([77, 79, 68] : Bytes), ([61] : Bytes), ([60, 62] : Bytes), ([60] : Bytes), ([60, 61] : Bytes), ([62] : Bytes), ([62, 61] : Bytes), ([65, 78, 68] : Bytes), ([79, 82] : Bytes), ([88, 79, 82] : Bytes)])))
theorem F39_ok (K : Nat) : DFun Tryz.prog 39 [] [] (fnS (F39 K)) (fun r => .c (E9.tree r)) (fun r => []) := by
 refine DFun.it Tryz.f39 (fun r => ⟨[(0, .c (E9.tree r))], [], [], 0⟩) ?_
 unfold F39
 refine Ref.sq ?_
 refine Ref.rn 0 ?_
 refine RefR.e0 (st' := ⟨[], [], [], 0⟩) 0 1 1 [] [] ?_
 refine RefR.nl 1 ?_
 refine Ref.sq ?_
 refine Ref.rn 1 ?_
 refine RefR.e0 (st' := ⟨[(1, .c (.own 0 14))], [.row 9 1 14 (tbl [[.str w_43], [.str w_45], [.str w_42], [.str w_47], [.str wMOD], [.str w_61], [.str w_60_62], [.str w_60], [.str w_60_61], [.str w_62], [.str w_62_61], [.str wAND], [.str wOR], [.str wXOR]])], [], 0⟩) 0 1 1 [1] [0] ?_
 refine RefR.conv (Conv.ob 0 (E9.row [w_43, w_45, w_42, w_47, wMOD, w_61, w_60_62, w_60, w_60_61, w_62, w_62_61, wAND, wOR, wXOR]) (El.row_build E9 [w_43, w_45, w_42, w_47, wMOD, w_61, w_60_62, w_60, w_60_61, w_62, w_62_61, wAND, wOR, wXOR] rfl (by kernel_rfl))) ?_
 refine RefR.conv (Conv.sl 1 (.c (.own 0 ([w_43, w_45, w_42, w_47, wMOD, w_61, w_60_62, w_60, w_60_61, w_62, w_62_61, wAND, wOR, wXOR].length))) (DLe.c (CLe.own (by simp <;> omega)))) ?_
 refine RefR.e0 (st' := ⟨[(0, .c (.own 0 ([w_43, w_45, w_42, w_47, wMOD, w_61, w_60_62, w_60, w_60_61, w_62, w_62_61, wAND, wOR, wXOR].length)))], [E9.row [w_43, w_45, w_42, w_47, wMOD, w_61, w_60_62, w_60, w_60_61, w_62, w_62_61, wAND, wOR, wXOR]], [], 0⟩) 1 1 2 [0] [0] ?_
 refine RefR.nl 2 ?_
 refine Ref.conv (Conv.freeze (st' := ⟨[(0, .c (E9.tree [w_43, w_45, w_42, w_47, wMOD, w_61, w_60_62, w_60, w_60_61, w_62, w_62_61, wAND, wOR, wXOR]))], [.dead], [], 0⟩) 0 (by kernel_rfl)) ?_
 refine Ref.ck ⟨[(0, .c (E9.tree [w_43, w_45, w_42, w_47, wMOD, w_61, w_60_62, w_60, w_60_61, w_62, w_62_61, wAND, wOR, wXOR]))], [], [], 0⟩ [0] [] ?_
 exact Ref.rt (t := ([w_43, w_45, w_42, w_47, wMOD, w_61, w_60_62, w_60, w_60_61, w_62, w_62_61, wAND, wOR, wXOR]))
mutual
def F15 : (K : Nat) → (S56) → (Int) → Option ((S25 × S56) ⊕ (S25 × S56))
 | 0, _, _ => none
 | K + 1, a0, a1 =>
 ((condM true (fnS (F22 K a0 ([[45], [78, 79, 84]] : List Bytes))) default).bind (fun r1 => ((condM (!r1) (fnS (F35 K a0)) default).bind (fun r2 => (bindS (if (r1 || r2) = true then ((fnS (F36 K a0 a1)).bind (fun r5 => (some (.inr (r5))))) else (some (.inr (a0)))) (fun (u4 : S56) => (bindS (blockS ((fnS (F37 K u4 ([45] : Bytes))).bind (fun r11 => (if r11.1 = true then ((fnS (F38 K r11.2 a1)).bind (fun r12 => (some (.inl (Sum.inr ((⟨7, 0, ([] : Bytes), ([] : Bytes), [r12.1]⟩ : S25), r12.2)))))) else ((fnS (F37 K r11.2 ([78, 79, 84] : Bytes))).bind (fun r13 => (if r13.1 = true then ((fnS (F38 K r13.2 a1)).bind (fun r14 => (some (.inl (Sum.inr ((⟨8, 0, ([] : Bytes), ([] : Bytes), [r14.1]⟩ : S25), r14.2)))))) else (some (.inr (r13.2)))))))))) (fun (u10 : S56) => ((fnS (F38 K u10 a1)).bind (fun r15 => ((condM true (fnS (F24 K r15.2)) default).bind (fun r16 => ((fnS (F39 K)).bind (fun r17 => ((condM true (fnS (F22 K r15.2 r17)) default).bind (fun r18 => (if (!r18) = true then (some (.inl (r15.1, r15.2))) else ((fnS (F39 K)).bind (fun r19 => ((condM true (fnS (F40 K r19 r16.fText)) default).bind (fun r20 => ((fnS (F38 K (⟨r15.2.ftokens, (IntKind.i64.wrap (r15.2.fi + 1)), r15.2.fend, r15.2.ferr⟩ : S56) a1)).bind (fun r21 => (some (.inl ((⟨9, (IntKind.i64.wrap (r20 + 1)), ([] : Bytes), ([] : Bytes), [r15.1, r21.1]⟩ : S25), r21.2))))))))))))))))))))))))))
def F38 : (K : Nat) → (S56) → (Int) → Option ((S25 × S56) ⊕ (S25 × S56))
 | 0, _, _ => none
 | K + 1, a0, a1 =>
 ((condM true (fnS (F24 K a0)) default).bind (fun r1 => (bindS (blockS ((condM true (fnS (F66 K a0 3)) default).bind (fun r21 => (if r21 = true then ((fnS (F67 K a0)).bind (fun r22 => (some (.inl (Sum.inr ((⟨1, r22.1, ([] : Bytes), ([] : Bytes), []⟩ : S25), r22.2)))))) else ((fnS (F37 K a0 ([84, 82, 85, 69] : Bytes))).bind (fun r23 => (if r23.1 = true then (some (.inl (Sum.inr ((⟨2, 0, ([] : Bytes), ([] : Bytes), []⟩ : S25), r23.2)))) else ((fnS (F37 K r23.2 ([70, 65, 76, 83, 69] : Bytes))).bind (fun r24 => (if r24.1 = true then (some (.inl (Sum.inr ((⟨3, 0, ([] : Bytes), ([] : Bytes), []⟩ : S25), r24.2)))) else ((fnS (F37 K r24.2 ([78, 85, 76, 76] : Bytes))).bind (fun r25 => (if r25.1 = true then (some (.inl (Sum.inr ((⟨4, 0, ([] : Bytes), ([] : Bytes), []⟩ : S25), r25.2)))) else ((fnS (F37 K r25.2 ([82, 69, 70] : Bytes))).bind (fun r26 => (if r26.1 = true then ((fnS (F68 K r26.2)).bind (fun r27 => (some (.inl (Sum.inr ((⟨10, 0, r27.1, ([] : Bytes), []⟩ : S25), r27.2)))))) else ((fnS (F37 K r26.2 ([68, 79, 78, 69] : Bytes))).bind (fun r28 => (if r28.1 = true then ((fnS (F68 K r28.2)).bind (fun r29 => (some (.inl (Sum.inr ((⟨11, 0, r29.1, ([] : Bytes), []⟩ : S25), r29.2)))))) else ((fnS (F37 K r28.2 ([67, 79, 85, 78, 84] : Bytes))).bind (fun r30 => (if r30.1 = true then ((fnS (F68 K r30.2)).bind (fun r31 => (some (.inl (Sum.inr ((⟨12, 0, r31.1, ([] : Bytes), []⟩ : S25), r31.2)))))) else ((fnS (F37 K r30.2 ([65, 83] : Bytes))).bind (fun r32 => (if r32.1 = true then ((fnS (F69 K r32.2)).bind (fun r33 => ((fnS (F70 K r33.2 a1 ([40] : Bytes) ([41] : Bytes))).bind (fun r34 => (some (.inl (Sum.inr ((⟨14, 0, r33.1, ([] : Bytes), [r34.1]⟩ : S25), r34.2)))))))) else ((condM true (fnS (F22 K r32.2 ([[40]] : List Bytes))) default).bind (fun r35 => (if r35 = true then ((fnS (F70 K r32.2 a1 ([40] : Bytes) ([41] : Bytes))).bind (fun r36 => (some (.inl (Sum.inr (r36.1, r36.2)))))) else ((condM true (fnS (F22 K r32.2 ([[84, 72, 73, 83], [83, 85, 80, 69, 82]] : List Bytes))) default).bind (fun r37 => (if r37 = true then ((fnS (F71 K r32.2 a1)).bind (fun r38 => (some (.inl (Sum.inr (r38.1, r38.2)))))) else (some (.inr (r32.2)))))))))))))))))))))))))))))))))) (fun (u20 : S56) => ((fnS (F69 K u20)).bind (fun r39 => (bindS (blockS ((condM true (fnS (F22 K r39.2 ([[91]] : List Bytes))) default).bind (fun r46 => (if r46 = true then ((fnS (F70 K r39.2 a1 ([91] : Bytes) ([93] : Bytes))).bind (fun r47 => (some (.inl (Sum.inr ((⟨6, 0, r1.fText, ([] : Bytes), [r47.1]⟩ : S25), r47.2)))))) else ((condM true (fnS (F22 K r39.2 ([[46]] : List Bytes))) default).bind (fun r49 => (if r49 = true then ((fnS (F72 K r39.2 (⟨13, 0, r1.fText, ([] : Bytes), []⟩ : S25) a1)).bind (fun r50 => (some (.inl (Sum.inr (r50.1, r50.2)))))) else (some (.inr ()))))))))) (fun (u45 : Unit) => (some (.inl ((⟨5, 0, r1.fText, ([] : Bytes), []⟩ : S25), r39.2)))))))))))
def F70 : (K : Nat) → (S56) → (Int) → (Bytes) → (Bytes) → Option ((S25 × S56) ⊕ (S25 × S56))
 | 0, _, _, _, _ => none
 | K + 1, a0, a1, a2, a3 =>
 ((fnS (F79 K a0 [a2])).bind (fun r1 => ((fnS (F15 K r1 (IntKind.i64.wrap (a1 + 1)))).bind (fun r2 => ((fnS (F79 K r2.2 [a3])).bind (fun r3 => (some (.inl (r2.1, r3)))))))))
def F71 : (K : Nat) → (S56) → (Int) → Option ((S25 × S56) ⊕ (S25 × S56))
 | 0, _, _ => none
 | K + 1, a0, a1 =>
 ((fnS (F37 K a0 ([84, 72, 73, 83] : Bytes))).bind (fun r1 => (bindS (if (!r1.1) = true then ((fnS (F79 K r1.2 ([[83, 85, 80, 69, 82]] : List Bytes))).bind (fun r4 => (some (.inr (r4, 2))))) else (some (.inr (r1.2, 1)))) (fun (u3 : S56 × Int) => ((fnS (F72 K u3.1 (⟨13, u3.2, ([] : Bytes), ([] : Bytes), []⟩ : S25) a1)).bind (fun r5 => (some (.inl (r5.1, r5.2)))))))))
def F72 : (K : Nat) → (S56) → (S25) → (Int) → Option ((S25 × S56) ⊕ (S25 × S56))
 | 0, _, _, _ => none
 | K + 1, a0, a1, a2 =>
 ((fnS (F79 K a0 ([[46]] : List Bytes))).bind (fun r1 => ((fnS (F69 K r1)).bind (fun r2 => ((fnS (F79 K r2.2 ([[40]] : List Bytes))).bind (fun r3 => ((fnS (F37 K r3 ([41] : Bytes))).bind (fun r4 => (if r4.1 = true then (some (.inl ((⟨a1.fKind, a1.fN, a1.fName, r2.1, []⟩ : S25), r4.2))) else (bindS (blockS ((iter K (fun (u86 : S56 × (List S25) × Bool) => ((condM u86.2.2 (fnS (F17 K u86.1)) default).bind (fun r107 => (if (u86.2.2 && r107) = true then (bindS (blockS (letV ((decide (((Int.ofNat u86.2.1.length) : Int) ≥ 3)) && (decide ((a2 : Int) < 6))) (fun (x117 : Bool) => ((condM x117 (fnS (F22 K u86.1 ([[45], [78, 79, 84]] : List Bytes))) default).bind (fun r118 => ((condM ((!r118) && x117) (fnS (F35 K u86.1)) default).bind (fun r119 => (bindS (if (x117 && (r118 || r119)) = true then ((fnS (F16 K u86.1 5)).bind (fun r122 => (some (.inr (r122))))) else (some (.inr (u86.1)))) (fun (u121 : S56) => ((fnS (F15 K u121 (IntKind.i64.wrap (a2 + 1)))).bind (fun r123 => (chk [room ((u86.2.1.length + ([r123.1].length)) * 72)] (some (.inr (r123.2, (u86.2.1 ++ [r123.1])))))))))))))))) (fun (u116 : S56 × (List S25)) => ((fnS (F37 K u116.1 ([44] : Bytes))).bind (fun r125 => (some (.inr (r125.2, u116.2, r125.1))))))) else (some (.inl (Sum.inl (u86.1, u86.2.1)))))))) (r4.2, [], true)).map .inl)) (fun (u65 : S56 × (List S25)) => ((fnS (F79 K u65.1 ([[41]] : List Bytes))).bind (fun r126 => (some (.inl ((⟨a1.fKind, a1.fN, a1.fName, r2.1, u65.2⟩ : S25), r126))))))))))))))))
end
theorem G15_ok : ∀ K : Nat, (∀ (a0 : S56), ∀ (a1 : Int), DFun Tryz.prog 15 [.c (.ptr 0 0 0), .c (.val (.int .i64 a1))] [E56.o a0] (fnS (F15 K a0 a1)) (fun r => .agg (E25.cs r.1)) (fun r => [E56.o r.2, E25.o r.1])) ∧ (∀ (a0 : S56), ∀ (a1 : Int), DFun Tryz.prog 38 [.c (.ptr 0 0 0), .c (.val (.int .i64 a1))] [E56.o a0] (fnS (F38 K a0 a1)) (fun r => .agg (E25.cs r.1)) (fun r => [E56.o r.2, E25.o r.1])) ∧ (∀ (a0 : S56), ∀ (a1 : Int), ∀ (a2 : Bytes), ∀ (a3 : Bytes), DFun Tryz.prog 70 [.c (.ptr 0 0 0), .c (.val (.int .i64 a1)), .c (.str a2), .c (.str a3)] [E56.o a0] (fnS (F70 K a0 a1 a2 a3)) (fun r => .agg (E25.cs r.1)) (fun r => [E56.o r.2, E25.o r.1])) ∧ (∀ (a0 : S56), ∀ (a1 : Int), DFun Tryz.prog 71 [.c (.ptr 0 0 0), .c (.val (.int .i64 a1))] [E56.o a0] (fnS (F71 K a0 a1)) (fun r => .agg (E25.cs r.1)) (fun r => [E56.o r.2, E25.o r.1])) ∧ (∀ (a0 : S56), ∀ (a1 : S25), ∀ (a2 : Int), DFun Tryz.prog 72 [.c (.ptr 0 0 0), .agg [.val (.int .i64 a1.fKind), .val (.int .i64 a1.fN), .str a1.fName, .str a1.fWhat, .nil], .c (.val (.int .i64 a2))] [E56.o a0] (fnS (F72 K a0 a1 a2)) (fun r => .agg (E25.cs r.1)) (fun r => [E56.o r.2, E25.o r.1])) := by
 intro K
 induction K with
 | zero => exact ⟨fun a0 a1 => DFun.none (by rw [F15]; rfl), fun a0 a1 => DFun.none (by rw [F38]; rfl), fun a0 a1 a2 a3 => DFun.none (by rw [F70]; rfl), fun a0 a1 => DFun.none (by rw [F71]; rfl), fun a0 a1 a2 => DFun.none (by rw [F72]; rfl)⟩
 | succ K ih =>
  obtain ⟨ih15, ih38, ih70, ih71, ih72⟩ := ih
  refine ⟨?_, ?_, ?_, ?_, ?_⟩
  ·
   intro a0 a1
   refine DFun.it Tryz.f15 (fun r => ⟨[sP 4 1 0 0], [E56.o r.2, E25.o r.1], [], 1⟩) ?_
   rw [F15]
   refine Ref.sq ?_
   refine Ref.rn 0 ?_
   refine RefR.e0 (st' := ⟨[sP 0 0 0 0, sI 1 a1, sP 4 1 0 0], [E56.o a0, oX0], [], 1⟩) 0 1 1 [0, 1, 4] [0, 1] ?_
   refine RefR.nl 1 ?_
   refine Ref.sq ?_
   refine Ref.sq ?_
   refine Ref.rn 1 ?_
   refine RefR.e0 (st' := ⟨[sP 0 0 0 0, sI 1 a1, sP 4 1 0 0, sP 7 0 0 0], [E56.o a0, oX0], [], 1⟩) 0 1 1 [0, 1, 4, 7] [0, 1] ?_
   refine RefR.li 8 [] E9 ([[45], [78, 79, 84]] : List Bytes) 1 2 ?_
   refine RefR.lookC (t := 9) (g := []) (b := true) 2 3 [0] (default : Bool) rfl (by kernel_rfl) (F22_ok K a0 ([[45], [78, 79, 84]] : List Bytes)) (fun _ => rfl) (fun r1 => ?_)
   refine RefR.e1 3 2 5 [0, 1, 4, 10, 11] [0, 1] ?_
   refine RefR.lookC (t := 12) (g := [(10, false)]) (b := (!r1)) 5 6 [0] (default : Bool) rfl (by kernel_rfl) (F35_ok K a0) (fun _ => rfl) (fun r2 => ?_)
   refine RefR.e0 (st' := ⟨[sP 0 0 0 0, sI 1 a1, sP 4 1 0 0, sB 13 (r1 || r2)], [E56.o a0, oX0], [], 1⟩) 6 1 7 [0, 1, 4, 13] [0, 1] ?_
   refine RefR.nl 7 ?_
   refine Ref.bind (go1 := fun u4 => ⟨[sP 0 0 0 0, sI 1 a1, sP 4 1 0 0], [E56.o u4, oX0], [], 1⟩) ?_ (fun u4 => ?_)
   ·
    refine Ref.cn (.tmp 13) (r1 || r2) (fun hc => ?_) (fun hc => ?_)
    ·
     refine Ref.rn 2 ?_
     refine RefR.e1 0 2 2 [0, 1, 4, 14, 15] [0, 1] ?_
     refine RefR.cc 16 2 3 [0] (F36_ok K a0 a1) (fun r5 => ?_)
     refine RefR.nl 3 ?_
     refine Ref.ck ⟨[sP 0 0 0 0, sI 1 a1, sP 4 1 0 0], [E56.o r5, oX0], [], 1⟩ [0, 1, 4] [0, 1] ?_
     exact Ref.n0 (t := (r5))
    ·
     refine Ref.sk ?_
     refine Ref.ck ⟨[sP 0 0 0 0, sI 1 a1, sP 4 1 0 0], [E56.o a0, oX0], [], 1⟩ [0, 1, 4] [0, 1] ?_
     exact Ref.n0 (t := (a0))
   ·
    refine Ref.sq ?_
    refine Ref.ce (.block 0 (cd (bd Tryz.f15) [1, 1, 0, 0])) ?_
    refine Ref.block (go1 := fun u10 => ⟨[sP 0 0 0 0, sI 1 a1, sP 4 1 0 0], [E56.o u10, oX0], [], 1⟩) ?_ (fun _ h => by cases h) (fun u10 => ?_)
    ·
     refine Ref.sq ?_
     refine Ref.rn 3 ?_
     refine RefR.e1 0 1 1 [0, 1, 4, 18] [0, 1] ?_
     refine RefR.cc 19 1 2 [0] (F37_ok K u4 w_45) (fun r11 => ?_)
     refine RefR.e0 (st' := ⟨[sP 0 0 0 0, sI 1 a1, sP 4 1 0 0, sB 17 r11.1], [E56.o r11.2, oX0], [], 1⟩) 2 1 3 [0, 1, 4, 17] [0, 1] ?_
     refine RefR.nl 3 ?_
     refine Ref.cn (.tmp 17) r11.1 (fun hc => ?_) (fun hc => ?_)
     ·
      refine Ref.sq ?_
      refine Ref.rn 4 ?_
      refine RefR.e1 0 2 2 [4, 20, 21] [0, 1] ?_
      refine RefR.cc 22 2 3 [0] (ih38 r11.2 a1) (fun r12 => ?_)
      refine RefR.e0 (st' := ⟨[sP 4 1 0 0, (23, .c (.own 2 1))], [E56.o r12.2, oX0, .row 25 5 1 (tbl [(E25.cs r12.1)])], [], 1⟩) 3 1 4 [4, 23] [0, 1, 3] ?_
      refine RefR.conv (Conv.ob 2 (E25.row [r12.1]) (El.row_build E25 [r12.1] rfl (by kernel_rfl))) ?_
      refine RefR.conv (Conv.sl 23 (.c (.own 2 ([r12.1].length))) (DLe.c (CLe.own (by simp <;> omega)))) ?_
      refine RefR.e0 (st' := ⟨[sP 4 1 0 0], [E56.o r12.2, .cells [iC 7, iC 0, .str [], .str [], .own 2 ([r12.1].length)], E25.row [r12.1]], [], 1⟩) 4 2 6 [4] [0, 1, 2] ?_
      refine RefR.nl 6 ?_
      refine Ref.conv (Conv.freeze (st' := ⟨[sP 4 1 0 0], [E56.o r12.2, .cells [iC 7, iC 0, .str [], .str [], E25.tree [r12.1]], .dead], [], 1⟩) 2 (by kernel_rfl)) ?_
      refine Ref.conv (Conv.ob 1 (.cells [iC 7, iC 0, .str [], .str [], NT25 [r12.1]]) (OLe.cells (All2.cons (CLe.refl _) (All2.cons (CLe.refl _) (All2.cons (CLe.refl _) (All2.cons (CLe.refl _) (All2.cons (NT25_ge _) (All2.nil)))))))) ?_
      refine Ref.ck ⟨[sP 4 1 0 0], [E56.o r12.2, .cells [iC 7, iC 0, .str [], .str [], NT25 [r12.1]]], [], 1⟩ [4] [0, 1] ?_
      exact Ref.rt (t := (Sum.inr ((⟨7, 0, ([] : Bytes), ([] : Bytes), [r12.1]⟩ : S25), r12.2)))
     ·
      refine Ref.sq ?_
      refine Ref.rn 5 ?_
      refine RefR.e1 0 1 1 [0, 1, 4, 26] [0, 1] ?_
      refine RefR.cc 27 1 2 [0] (F37_ok K r11.2 ([78, 79, 84] : Bytes)) (fun r13 => ?_)
      refine RefR.e0 (st' := ⟨[sP 0 0 0 0, sI 1 a1, sP 4 1 0 0, sB 25 r13.1], [E56.o r13.2, oX0], [], 1⟩) 2 1 3 [0, 1, 4, 25] [0, 1] ?_
      refine RefR.nl 3 ?_
      refine Ref.cn (.tmp 25) r13.1 (fun hc => ?_) (fun hc => ?_)
      ·
       refine Ref.sq ?_
       refine Ref.rn 6 ?_
       refine RefR.e1 0 2 2 [4, 28, 29] [0, 1] ?_
       refine RefR.cc 30 2 3 [0] (ih38 r13.2 a1) (fun r14 => ?_)
       refine RefR.e0 (st' := ⟨[sP 4 1 0 0, (31, .c (.own 2 1))], [E56.o r14.2, oX0, .row 25 5 1 (tbl [(E25.cs r14.1)])], [], 1⟩) 3 1 4 [4, 31] [0, 1, 3] ?_
       refine RefR.conv (Conv.ob 2 (E25.row [r14.1]) (El.row_build E25 [r14.1] rfl (by kernel_rfl))) ?_
       refine RefR.conv (Conv.sl 31 (.c (.own 2 ([r14.1].length))) (DLe.c (CLe.own (by simp <;> omega)))) ?_
       refine RefR.e0 (st' := ⟨[sP 4 1 0 0], [E56.o r14.2, .cells [iC 8, iC 0, .str [], .str [], .own 2 ([r14.1].length)], E25.row [r14.1]], [], 1⟩) 4 2 6 [4] [0, 1, 2] ?_
       refine RefR.nl 6 ?_
       refine Ref.conv (Conv.freeze (st' := ⟨[sP 4 1 0 0], [E56.o r14.2, .cells [iC 8, iC 0, .str [], .str [], E25.tree [r14.1]], .dead], [], 1⟩) 2 (by kernel_rfl)) ?_
       refine Ref.conv (Conv.ob 1 (.cells [iC 8, iC 0, .str [], .str [], NT25 [r14.1]]) (OLe.cells (All2.cons (CLe.refl _) (All2.cons (CLe.refl _) (All2.cons (CLe.refl _) (All2.cons (CLe.refl _) (All2.cons (NT25_ge _) (All2.nil)))))))) ?_
       refine Ref.ck ⟨[sP 4 1 0 0], [E56.o r14.2, .cells [iC 8, iC 0, .str [], .str [], NT25 [r14.1]]], [], 1⟩ [4] [0, 1] ?_
       exact Ref.rt (t := (Sum.inr ((⟨8, 0, ([] : Bytes), ([] : Bytes), [r14.1]⟩ : S25), r14.2)))
      ·
       refine Ref.sk ?_
       refine Ref.ck ⟨[sP 0 0 0 0, sI 1 a1, sP 4 1 0 0], [E56.o r13.2, oX0], [], 1⟩ [0, 1, 4] [0, 1] ?_
       exact Ref.n0 (t := (r13.2))
    ·
     refine Ref.sq ?_
     refine Ref.rn 7 ?_
     refine RefR.e1 0 2 2 [0, 1, 4, 33, 34] [0, 1] ?_
     refine RefR.cc 35 2 3 [0] (ih38 u10 a1) (fun r15 => ?_)
     refine RefR.e0 (st' := ⟨[sP 0 0 0 0, sI 1 a1, sP 4 1 0 0, sP 5 2 0 0], [E56.o r15.2, oX0, E25.o r15.1], [], 1⟩) 3 2 5 [0, 1, 4, 5] [0, 1, 3] ?_
     refine RefR.nl 5 ?_
     refine Ref.sq ?_
     refine Ref.rn 8 ?_
     refine RefR.e1 0 1 1 [0, 1, 4, 5, 36] [0, 1, 2] ?_
     refine RefR.lookC (t := 37) (g := []) (b := true) 1 2 [0] (default : S69) rfl (by kernel_rfl) (DFun.forget (F24_ok K r15.2) (fun _ => rfl)) (fun _ => rfl) (fun r16 => ?_)
     refine RefR.e0 (st' := ⟨[sP 0 0 0 0, sI 1 a1, sP 4 1 0 0, sP 5 2 0 0, sP 6 3 0 0], [E56.o r15.2, oX0, E25.o r15.1, E69.o r16], [], 1⟩) 2 2 4 [0, 1, 4, 5, 6] [0, 1, 2, 3] ?_
     refine RefR.nl 4 ?_
     refine Ref.sq ?_
     refine Ref.sq ?_
     refine Ref.rn 9 ?_
     refine RefR.e1 0 1 1 [0, 1, 4, 5, 6, 38] [0, 1, 2, 3] ?_
     refine RefR.cc 39 1 2 [] (F39_ok K) (fun r17 => ?_)
     refine RefR.lookC (t := 40) (g := []) (b := true) 2 3 [0] (default : Bool) rfl (by kernel_rfl) (F22_ok K r15.2 r17) (fun _ => rfl) (fun r18 => ?_)
     refine RefR.e0 (st' := ⟨[sP 0 0 0 0, sI 1 a1, sP 4 1 0 0, sP 5 2 0 0, sP 6 3 0 0, sB 41 (!r18)], [E56.o r15.2, oX0, E25.o r15.1, E69.o r16], [], 1⟩) 3 1 4 [0, 1, 4, 5, 6, 41] [0, 1, 2, 3] ?_
     refine RefR.nl 4 ?_
     refine Ref.cn (.tmp 41) (!r18) (fun hc => ?_) (fun hc => ?_)
     ·
      refine Ref.sq ?_
      refine Ref.rn 10 ?_
      refine RefR.e0 (st' := ⟨[sP 4 1 0 0], [E56.o r15.2, E25.o r15.1], [], 1⟩) 0 2 2 [4] [0, 1] ?_
      refine RefR.nl 2 ?_
      exact Ref.rt (t := (r15.1, r15.2))
     ·
      refine Ref.sk ?_
      refine Ref.sq ?_
      refine Ref.rn 11 ?_
      refine RefR.e0 (st' := ⟨[sP 0 0 0 0, sI 1 a1, sP 4 1 0 0, sP 5 2 0 0, sP 6 3 0 0], [.cells [E69.tree r15.2.ftokens, iC (IntKind.i64.wrap (r15.2.fi + 1)), iC r15.2.fend, errC r15.2.ferr], oX0, E25.o r15.1, E69.o r16], [], 1⟩) 0 8 8 [0, 1, 4, 5, 6] [0, 1, 2, 3] ?_
      refine RefR.nl 8 ?_
      refine Ref.sq ?_
      refine Ref.drawnY 12 (by kernel_rfl) (by kernel_rfl) ?_
      refine RefY.evC0 (st' := ⟨[sP 4 1 0 0, sP 5 2 0 0, sP 51 3 0 1, sP 56 0 0 0, sI 57 a1], [.cells [E69.tree r15.2.ftokens, iC (IntKind.i64.wrap (r15.2.fi + 1)), iC r15.2.fend, errC r15.2.ferr], oX0, E25.o r15.1, E69.o r16], [], 1⟩) (fuel' := 9) [1, 6, 7] [4, 5, 51, 56, 57] [0, 1, 2, 3] rfl (by kernel_rfl) (by kernel_rfl) ?_
      refine RefY.toX [0, 8, 11] ?_
      refine RefX.withK2 (fun (r20 : Int) (r21 : S25 × S56) => ⟨[sP 4 1 0 0], [E56.o r21.2, .cells [iC 9, iC (IntKind.i64.wrap (r20 + 1)), .str [], .str [], .own 2 ([r15.1, r21.1].length)], E25.row [r15.1, r21.1]], [], 1⟩) (fun (r20 : Int) (r21 : S25 × S56) => (some (.inl ((⟨9, (IntKind.i64.wrap (r20 + 1)), ([] : Bytes), ([] : Bytes), [r15.1, r21.1]⟩ : S25), r21.2)))) (fun r20 r21 => ?_) (fun hk => ?_)
      ·
       refine Ref.conv (Conv.freeze (st' := ⟨[sP 4 1 0 0], [E56.o r21.2, .cells [iC 9, iC (IntKind.i64.wrap (r20 + 1)), .str [], .str [], E25.tree [r15.1, r21.1]], .dead], [], 1⟩) 2 (by kernel_rfl)) ?_
       refine Ref.conv (Conv.ob 1 (.cells [iC 9, iC (IntKind.i64.wrap (r20 + 1)), .str [], .str [], NT25 [r15.1, r21.1]]) (OLe.cells (All2.cons (CLe.refl _) (All2.cons (CLe.refl _) (All2.cons (CLe.refl _) (All2.cons (CLe.refl _) (All2.cons (NT25_ge _) (All2.nil)))))))) ?_
       refine Ref.ck ⟨[sP 4 1 0 0], [E56.o r21.2, .cells [iC 9, iC (IntKind.i64.wrap (r20 + 1)), .str [], .str [], NT25 [r15.1, r21.1]]], [], 1⟩ [4] [0, 1] ?_
       exact Ref.rt (t := ((⟨9, (IntKind.i64.wrap (r20 + 1)), ([] : Bytes), ([] : Bytes), [r15.1, r21.1]⟩ : S25), r21.2))
      ·
       refine RefX.fork3 (fuel' := 8) 0 2 5 (by kernel_rfl) ?_ ?_ ?_
       ·
        refine RefXi.callC (t := 50) 0 [] rfl (by kernel_rfl) (F39_ok K) (fun r19 => ?_)
        refine RefX.v0 (fuel' := 7) [2] [4, 5, 50, 52, 56, 57] [0, 1, 2] ?_
        refine RefX.lookC (t := 53) (g := []) (b := true) (fuel' := 6) 3 [] (default : Int) rfl (by kernel_rfl) (by kernel_rfl) (F40_ok K r19 r16.fText) (fun _ => rfl) (fun r20 => ?_)
        refine RefX.pend0 (fuel' := 4) [[], [(4, 54)], [(5, 55)], [(4, 54), (5, 55)]] [(4, 54), (5, 55)] [4, 5, 50, 52, 53, 56, 57] [0, 1, 2] ⟨[sP 4 1 0 0, sP 5 2 0 0, (50, .c (E9.tree r19)), sS 52 r16.fText, sI 53 r20, sI 54 (IntKind.i64.wrap (r20 + 1)), (55, .agg (E25.cs r15.1)), sP 56 0 0 0, sI 57 a1], [.cells [E69.tree r15.2.ftokens, iC (IntKind.i64.wrap (r15.2.fi + 1)), iC r15.2.fend, errC r15.2.ferr], oX0, E25.o r15.1], [], 1⟩ ?_
        refine RefXq.fork1 (fuel' := 3) 8 ?_
        refine RefXqi.callC (t := 58) 8 [0] rfl (by kernel_rfl) (ih38 (⟨r15.2.ftokens, (IntKind.i64.wrap (r15.2.fi + 1)), r15.2.fend, r15.2.ferr⟩ : S56) a1) (fun r21 => ?_)
        refine RefXq.less [[], [(4, 54)]] ?_
        refine RefXq.fork1 (fuel' := 2) 9 ?_
        refine RefXqi.adds0 (st' := ⟨[sP 4 1 0 0, sI 53 r20, sI 54 (IntKind.i64.wrap (r20 + 1)), (59, .c (.own 2 2))], [E56.o r21.2, oX0, .row 25 5 2 (tbl [(E25.cs r15.1), (E25.cs r21.1)])], [], 1⟩) 9 [4, 53, 54, 59] [0, 1, 4] (by kernel_rfl) (by kernel_rfl) ?_
        refine RefXq.conv (Conv2.obj 2 (E25.row [r15.1, r21.1]) (El.row_build E25 [r15.1, r21.1] rfl (by kernel_rfl)) (by kernel_rfl)) ?_
        refine RefXq.conv (Conv2.slot 59 (.c (.own 2 ([r15.1, r21.1].length))) (DLe.c (CLe.own (by simp <;> omega))) (by kernel_rfl)) ?_
        refine RefXq.close ?_
        refine RefX.v0 (fuel' := 1) [10] [4, 60] [0, 1, 2] ?_
        refine RefX.fork1 (fuel' := 0) 11 (by kernel_rfl) ?_
        refine RefXi.w0 11 [4] [0, 1, 2] ?_
        refine RefX.done (by kernel_rfl) ?_
        refine Ref.ck ⟨[sP 4 1 0 0], [E56.o r21.2, .cells [iC 9, iC (IntKind.i64.wrap (r20 + 1)), .str [], .str [], .own 2 ([r15.1, r21.1].length)], E25.row [r15.1, r21.1]], [], 1⟩ [4] [0, 1, 2] ?_
        exact hk r20 r21
       ·
        refine RefXi.a0 2 [4, 5, 52, 56, 57] [0, 1, 2] ?_
        refine RefX.fork2 (fuel' := 7) 0 5 (by kernel_rfl) ?_ ?_
        ·
         refine RefXi.callC (t := 50) 0 [] rfl (by kernel_rfl) (F39_ok K) (fun r19 => ?_)
         refine RefX.lookC (t := 53) (g := []) (b := true) (fuel' := 6) 3 [] (default : Int) rfl (by kernel_rfl) (by kernel_rfl) (F40_ok K r19 r16.fText) (fun _ => rfl) (fun r20 => ?_)
         refine RefX.pend0 (fuel' := 4) [[], [(4, 54)], [(5, 55)], [(4, 54), (5, 55)]] [(4, 54), (5, 55)] [4, 5, 50, 52, 53, 56, 57] [0, 1, 2] ⟨[sP 4 1 0 0, sP 5 2 0 0, (50, .c (E9.tree r19)), sS 52 r16.fText, sI 53 r20, sI 54 (IntKind.i64.wrap (r20 + 1)), (55, .agg (E25.cs r15.1)), sP 56 0 0 0, sI 57 a1], [.cells [E69.tree r15.2.ftokens, iC (IntKind.i64.wrap (r15.2.fi + 1)), iC r15.2.fend, errC r15.2.ferr], oX0, E25.o r15.1], [], 1⟩ ?_
         refine RefXq.fork1 (fuel' := 3) 8 ?_
         refine RefXqi.callC (t := 58) 8 [0] rfl (by kernel_rfl) (ih38 (⟨r15.2.ftokens, (IntKind.i64.wrap (r15.2.fi + 1)), r15.2.fend, r15.2.ferr⟩ : S56) a1) (fun r21 => ?_)
         refine RefXq.less [[], [(4, 54)]] ?_
         refine RefXq.fork1 (fuel' := 2) 9 ?_
         refine RefXqi.adds0 (st' := ⟨[sP 4 1 0 0, sI 53 r20, sI 54 (IntKind.i64.wrap (r20 + 1)), (59, .c (.own 2 2))], [E56.o r21.2, oX0, .row 25 5 2 (tbl [(E25.cs r15.1), (E25.cs r21.1)])], [], 1⟩) 9 [4, 53, 54, 59] [0, 1, 4] (by kernel_rfl) (by kernel_rfl) ?_
         refine RefXq.conv (Conv2.obj 2 (E25.row [r15.1, r21.1]) (El.row_build E25 [r15.1, r21.1] rfl (by kernel_rfl)) (by kernel_rfl)) ?_
         refine RefXq.conv (Conv2.slot 59 (.c (.own 2 ([r15.1, r21.1].length))) (DLe.c (CLe.own (by simp <;> omega))) (by kernel_rfl)) ?_
         refine RefXq.close ?_
         refine RefX.v0 (fuel' := 1) [10] [4, 60] [0, 1, 2] ?_
         refine RefX.fork1 (fuel' := 0) 11 (by kernel_rfl) ?_
         refine RefXi.w0 11 [4] [0, 1, 2] ?_
         refine RefX.done (by kernel_rfl) ?_
         refine Ref.ck ⟨[sP 4 1 0 0], [E56.o r21.2, .cells [iC 9, iC (IntKind.i64.wrap (r20 + 1)), .str [], .str [], .own 2 ([r15.1, r21.1].length)], E25.row [r15.1, r21.1]], [], 1⟩ [4] [0, 1, 2] ?_
         exact hk r20 r21
        ·
         refine RefXi.a0 5 [4, 52, 55, 56, 57] [0, 1] ?_
         refine RefX.fork1 (fuel' := 6) 0 (by kernel_rfl) ?_
         refine RefXi.callC (t := 50) 0 [] rfl (by kernel_rfl) (F39_ok K) (fun r19 => ?_)
         refine RefX.lookC (t := 53) (g := []) (b := true) (fuel' := 5) 3 [] (default : Int) rfl (by kernel_rfl) (by kernel_rfl) (F40_ok K r19 r16.fText) (fun _ => rfl) (fun r20 => ?_)
         refine RefX.pend0 (fuel' := 4) [[], [(4, 54)]] [(4, 54)] [4, 50, 52, 53, 55, 56, 57] [0, 1] ⟨[sP 4 1 0 0, (50, .c (E9.tree r19)), sS 52 r16.fText, sI 53 r20, sI 54 (IntKind.i64.wrap (r20 + 1)), (55, .agg (E25.cs r15.1)), sP 56 0 0 0, sI 57 a1], [.cells [E69.tree r15.2.ftokens, iC (IntKind.i64.wrap (r15.2.fi + 1)), iC r15.2.fend, errC r15.2.ferr], oX0], [], 1⟩ ?_
         refine RefXq.fork1 (fuel' := 3) 8 ?_
         refine RefXqi.callC (t := 58) 8 [0] rfl (by kernel_rfl) (ih38 (⟨r15.2.ftokens, (IntKind.i64.wrap (r15.2.fi + 1)), r15.2.fend, r15.2.ferr⟩ : S56) a1) (fun r21 => ?_)
         refine RefXq.fork1 (fuel' := 2) 9 ?_
         refine RefXqi.adds0 (st' := ⟨[sP 4 1 0 0, sI 53 r20, sI 54 (IntKind.i64.wrap (r20 + 1)), (59, .c (.own 2 2))], [E56.o r21.2, oX0, .row 25 5 2 (tbl [(E25.cs r15.1), (E25.cs r21.1)])], [], 1⟩) 9 [4, 53, 54, 59] [0, 1, 3] (by kernel_rfl) (by kernel_rfl) ?_
         refine RefXq.conv (Conv2.obj 2 (E25.row [r15.1, r21.1]) (El.row_build E25 [r15.1, r21.1] rfl (by kernel_rfl)) (by kernel_rfl)) ?_
         refine RefXq.conv (Conv2.slot 59 (.c (.own 2 ([r15.1, r21.1].length))) (DLe.c (CLe.own (by simp <;> omega))) (by kernel_rfl)) ?_
         refine RefXq.close ?_
         refine RefX.v0 (fuel' := 1) [10] [4, 60] [0, 1, 2] ?_
         refine RefX.fork1 (fuel' := 0) 11 (by kernel_rfl) ?_
         refine RefXi.w0 11 [4] [0, 1, 2] ?_
         refine RefX.done (by kernel_rfl) ?_
         refine Ref.ck ⟨[sP 4 1 0 0], [E56.o r21.2, .cells [iC 9, iC (IntKind.i64.wrap (r20 + 1)), .str [], .str [], .own 2 ([r15.1, r21.1].length)], E25.row [r15.1, r21.1]], [], 1⟩ [4] [0, 1, 2] ?_
         exact hk r20 r21
       ·
        refine RefXi.adds0 (st' := ⟨[sP 4 1 0 0, sP 51 2 0 1, (55, .agg (E25.cs r15.1)), sP 56 0 0 0, sI 57 a1], [.cells [E69.tree r15.2.ftokens, iC (IntKind.i64.wrap (r15.2.fi + 1)), iC r15.2.fend, errC r15.2.ferr], oX0, E69.o r16], [], 1⟩) 5 [4, 51, 55, 56, 57] [0, 1, 3] (by kernel_rfl) (by kernel_rfl) ?_
        refine RefX.pend0 (fuel' := 7) [[], [(2, 52)]] [(2, 52)] [4, 51, 55, 56, 57] [0, 1, 2] ⟨[sP 4 1 0 0, sP 51 2 0 1, sS 52 r16.fText, (55, .agg (E25.cs r15.1)), sP 56 0 0 0, sI 57 a1], [.cells [E69.tree r15.2.ftokens, iC (IntKind.i64.wrap (r15.2.fi + 1)), iC r15.2.fend, errC r15.2.ferr], oX0, E69.o r16], [], 1⟩ ?_
        refine RefXq.fork1 (fuel' := 6) 0 ?_
        refine RefXqi.callC (t := 50) 0 [] rfl (by kernel_rfl) (F39_ok K) (fun r19 => ?_)
        refine RefXq.close ?_
        refine RefX.lookC (t := 53) (g := []) (b := true) (fuel' := 5) 3 [] (default : Int) rfl (by kernel_rfl) (by kernel_rfl) (F40_ok K r19 r16.fText) (fun _ => rfl) (fun r20 => ?_)
        refine RefX.pend0 (fuel' := 4) [[], [(4, 54)]] [(4, 54)] [4, 50, 51, 52, 53, 55, 56, 57] [0, 1, 2] ⟨[sP 4 1 0 0, (50, .c (E9.tree r19)), sP 51 2 0 1, sS 52 r16.fText, sI 53 r20, sI 54 (IntKind.i64.wrap (r20 + 1)), (55, .agg (E25.cs r15.1)), sP 56 0 0 0, sI 57 a1], [.cells [E69.tree r15.2.ftokens, iC (IntKind.i64.wrap (r15.2.fi + 1)), iC r15.2.fend, errC r15.2.ferr], oX0, E69.o r16], [], 1⟩ ?_
        refine RefXq.fork1 (fuel' := 3) 8 ?_
        refine RefXqi.callC (t := 58) 8 [0] rfl (by kernel_rfl) (ih38 (⟨r15.2.ftokens, (IntKind.i64.wrap (r15.2.fi + 1)), r15.2.fend, r15.2.ferr⟩ : S56) a1) (fun r21 => ?_)
        refine RefXq.fork1 (fuel' := 2) 9 ?_
        refine RefXqi.adds0 (st' := ⟨[sP 4 1 0 0, sI 53 r20, sI 54 (IntKind.i64.wrap (r20 + 1)), (59, .c (.own 2 2))], [E56.o r21.2, oX0, .row 25 5 2 (tbl [(E25.cs r15.1), (E25.cs r21.1)])], [], 1⟩) 9 [4, 53, 54, 59] [0, 1, 4] (by kernel_rfl) (by kernel_rfl) ?_
        refine RefXq.conv (Conv2.obj 2 (E25.row [r15.1, r21.1]) (El.row_build E25 [r15.1, r21.1] rfl (by kernel_rfl)) (by kernel_rfl)) ?_
        refine RefXq.conv (Conv2.slot 59 (.c (.own 2 ([r15.1, r21.1].length))) (DLe.c (CLe.own (by simp <;> omega))) (by kernel_rfl)) ?_
        refine RefXq.close ?_
        refine RefX.v0 (fuel' := 1) [10] [4, 60] [0, 1, 2] ?_
        refine RefX.fork1 (fuel' := 0) 11 (by kernel_rfl) ?_
        refine RefXi.w0 11 [4] [0, 1, 2] ?_
        refine RefX.done (by kernel_rfl) ?_
        refine Ref.ck ⟨[sP 4 1 0 0], [E56.o r21.2, .cells [iC 9, iC (IntKind.i64.wrap (r20 + 1)), .str [], .str [], .own 2 ([r15.1, r21.1].length)], E25.row [r15.1, r21.1]], [], 1⟩ [4] [0, 1, 2] ?_
        exact hk r20 r21
  ·
   intro a0 a1
   refine DFun.it Tryz.f38 (fun r => ⟨[sP 4 1 0 0], [E56.o r.2, E25.o r.1], [], 1⟩) ?_
   rw [F38]
   refine Ref.sq ?_
   refine Ref.rn 0 ?_
   refine RefR.e0 (st' := ⟨[sP 0 0 0 0, sI 1 a1, sP 4 1 0 0], [E56.o a0, oX0], [], 1⟩) 0 1 1 [0, 1, 4] [0, 1] ?_
   refine RefR.nl 1 ?_
   refine Ref.sq ?_
   refine Ref.rn 1 ?_
   refine RefR.e1 0 1 1 [0, 1, 4, 7] [0, 1] ?_
   refine RefR.lookC (t := 8) (g := []) (b := true) 1 2 [0] (default : S69) rfl (by kernel_rfl) (DFun.forget (F24_ok K a0) (fun _ => rfl)) (fun _ => rfl) (fun r1 => ?_)
   refine RefR.e0 (st' := ⟨[sP 0 0 0 0, sI 1 a1, sP 4 1 0 0, sP 5 2 0 0], [E56.o a0, oX0, E69.o r1], [], 1⟩) 2 2 4 [0, 1, 4, 5] [0, 1, 2] ?_
   refine RefR.nl 4 ?_
   refine Ref.sq ?_
   refine Ref.ce (.block 0 (cd (bd Tryz.f38) [1, 1, 0, 0])) ?_
   refine Ref.block (go1 := fun u20 => ⟨[sP 0 0 0 0, sI 1 a1, sP 4 1 0 0, sP 5 2 0 0], [E56.o u20, oX0, E69.o r1], [], 1⟩) ?_ (fun _ h => by cases h) (fun u20 => ?_)
   ·
    refine Ref.sq ?_
    refine Ref.rn 2 ?_
    refine RefR.e1 0 1 1 [0, 1, 4, 5, 10] [0, 1, 2] ?_
    refine RefR.lookC (t := 11) (g := []) (b := true) 1 2 [0] (default : Bool) rfl (by kernel_rfl) (F66_ok K a0 3) (fun _ => rfl) (fun r21 => ?_)
    refine RefR.e0 (st' := ⟨[sP 0 0 0 0, sI 1 a1, sP 4 1 0 0, sP 5 2 0 0, sB 9 r21], [E56.o a0, oX0, E69.o r1], [], 1⟩) 2 1 3 [0, 1, 4, 5, 9] [0, 1, 2] ?_
    refine RefR.nl 3 ?_
    refine Ref.cn (.tmp 9) r21 (fun hc => ?_) (fun hc => ?_)
    ·
     refine Ref.sq ?_
     refine Ref.rn 3 ?_
     refine RefR.e1 0 1 1 [4, 12] [0, 1] ?_
     refine RefR.cc 13 1 2 [0] (F67_ok K a0) (fun r22 => ?_)
     refine RefR.e0 (st' := ⟨[sP 4 1 0 0], [E56.o r22.2, .cells [iC 1, iC r22.1, .str [], .str [], .nil]], [], 1⟩) 2 2 4 [4] [0, 1] ?_
     refine RefR.nl 4 ?_
     refine Ref.conv (Conv.ob 1 (.cells [iC 1, iC r22.1, .str [], .str [], E25.tree []]) (OLe.cells (All2.cons (CLe.refl _) (All2.cons (CLe.refl _) (All2.cons (CLe.refl _) (All2.cons (CLe.refl _) (All2.cons (El.tree_nil E25) (All2.nil)))))))) ?_
     refine Ref.conv (Conv.ob 1 (.cells [iC 1, iC r22.1, .str [], .str [], NT25 []]) (OLe.cells (All2.cons (CLe.refl _) (All2.cons (CLe.refl _) (All2.cons (CLe.refl _) (All2.cons (CLe.refl _) (All2.cons (NT25_ge _) (All2.nil)))))))) ?_
     exact Ref.rt (t := (Sum.inr ((⟨1, r22.1, ([] : Bytes), ([] : Bytes), []⟩ : S25), r22.2)))
    ·
     refine Ref.sq ?_
     refine Ref.rn 4 ?_
     refine RefR.e1 0 1 1 [0, 1, 4, 5, 16] [0, 1, 2] ?_
     refine RefR.cc 17 1 2 [0] (F37_ok K a0 ([84, 82, 85, 69] : Bytes)) (fun r23 => ?_)
     refine RefR.e0 (st' := ⟨[sP 0 0 0 0, sI 1 a1, sP 4 1 0 0, sP 5 2 0 0, sB 15 r23.1], [E56.o r23.2, oX0, E69.o r1], [], 1⟩) 2 1 3 [0, 1, 4, 5, 15] [0, 1, 2] ?_
     refine RefR.nl 3 ?_
     refine Ref.cn (.tmp 15) r23.1 (fun hc => ?_) (fun hc => ?_)
     ·
      refine Ref.sq ?_
      refine Ref.rn 5 ?_
      refine RefR.e0 (st' := ⟨[sP 4 1 0 0], [E56.o r23.2, .cells [iC 2, iC 0, .str [], .str [], .nil]], [], 1⟩) 0 2 2 [4] [0, 1] ?_
      refine RefR.nl 2 ?_
      refine Ref.conv (Conv.ob 1 (.cells [iC 2, iC 0, .str [], .str [], E25.tree []]) (OLe.cells (All2.cons (CLe.refl _) (All2.cons (CLe.refl _) (All2.cons (CLe.refl _) (All2.cons (CLe.refl _) (All2.cons (El.tree_nil E25) (All2.nil)))))))) ?_
      refine Ref.conv (Conv.ob 1 (.cells [iC 2, iC 0, .str [], .str [], NT25 []]) (OLe.cells (All2.cons (CLe.refl _) (All2.cons (CLe.refl _) (All2.cons (CLe.refl _) (All2.cons (CLe.refl _) (All2.cons (NT25_ge _) (All2.nil)))))))) ?_
      exact Ref.rt (t := (Sum.inr ((⟨2, 0, ([] : Bytes), ([] : Bytes), []⟩ : S25), r23.2)))
     ·
      refine Ref.sq ?_
      refine Ref.rn 6 ?_
      refine RefR.e1 0 1 1 [0, 1, 4, 5, 20] [0, 1, 2] ?_
      refine RefR.cc 21 1 2 [0] (F37_ok K r23.2 ([70, 65, 76, 83, 69] : Bytes)) (fun r24 => ?_)
      refine RefR.e0 (st' := ⟨[sP 0 0 0 0, sI 1 a1, sP 4 1 0 0, sP 5 2 0 0, sB 19 r24.1], [E56.o r24.2, oX0, E69.o r1], [], 1⟩) 2 1 3 [0, 1, 4, 5, 19] [0, 1, 2] ?_
      refine RefR.nl 3 ?_
      refine Ref.cn (.tmp 19) r24.1 (fun hc => ?_) (fun hc => ?_)
      ·
       refine Ref.sq ?_
       refine Ref.rn 7 ?_
       refine RefR.e0 (st' := ⟨[sP 4 1 0 0], [E56.o r24.2, .cells [iC 3, iC 0, .str [], .str [], .nil]], [], 1⟩) 0 2 2 [4] [0, 1] ?_
       refine RefR.nl 2 ?_
       refine Ref.conv (Conv.ob 1 (.cells [iC 3, iC 0, .str [], .str [], E25.tree []]) (OLe.cells (All2.cons (CLe.refl _) (All2.cons (CLe.refl _) (All2.cons (CLe.refl _) (All2.cons (CLe.refl _) (All2.cons (El.tree_nil E25) (All2.nil)))))))) ?_
       refine Ref.conv (Conv.ob 1 (.cells [iC 3, iC 0, .str [], .str [], NT25 []]) (OLe.cells (All2.cons (CLe.refl _) (All2.cons (CLe.refl _) (All2.cons (CLe.refl _) (All2.cons (CLe.refl _) (All2.cons (NT25_ge _) (All2.nil)))))))) ?_
       exact Ref.rt (t := (Sum.inr ((⟨3, 0, ([] : Bytes), ([] : Bytes), []⟩ : S25), r24.2)))
      ·
       refine Ref.sq ?_
       refine Ref.rn 8 ?_
       refine RefR.e1 0 1 1 [0, 1, 4, 5, 24] [0, 1, 2] ?_
       refine RefR.cc 25 1 2 [0] (F37_ok K r24.2 ([78, 85, 76, 76] : Bytes)) (fun r25 => ?_)
       refine RefR.e0 (st' := ⟨[sP 0 0 0 0, sI 1 a1, sP 4 1 0 0, sP 5 2 0 0, sB 23 r25.1], [E56.o r25.2, oX0, E69.o r1], [], 1⟩) 2 1 3 [0, 1, 4, 5, 23] [0, 1, 2] ?_
       refine RefR.nl 3 ?_
       refine Ref.cn (.tmp 23) r25.1 (fun hc => ?_) (fun hc => ?_)
       ·
        refine Ref.sq ?_
        refine Ref.rn 9 ?_
        refine RefR.e0 (st' := ⟨[sP 4 1 0 0], [E56.o r25.2, .cells [iC 4, iC 0, .str [], .str [], .nil]], [], 1⟩) 0 2 2 [4] [0, 1] ?_
        refine RefR.nl 2 ?_
        refine Ref.conv (Conv.ob 1 (.cells [iC 4, iC 0, .str [], .str [], E25.tree []]) (OLe.cells (All2.cons (CLe.refl _) (All2.cons (CLe.refl _) (All2.cons (CLe.refl _) (All2.cons (CLe.refl _) (All2.cons (El.tree_nil E25) (All2.nil)))))))) ?_
        refine Ref.conv (Conv.ob 1 (.cells [iC 4, iC 0, .str [], .str [], NT25 []]) (OLe.cells (All2.cons (CLe.refl _) (All2.cons (CLe.refl _) (All2.cons (CLe.refl _) (All2.cons (CLe.refl _) (All2.cons (NT25_ge _) (All2.nil)))))))) ?_
        exact Ref.rt (t := (Sum.inr ((⟨4, 0, ([] : Bytes), ([] : Bytes), []⟩ : S25), r25.2)))
       ·
        refine Ref.sq ?_
        refine Ref.rn 10 ?_
        refine RefR.e1 0 1 1 [0, 1, 4, 5, 28] [0, 1, 2] ?_
        refine RefR.cc 29 1 2 [0] (F37_ok K r25.2 wREF) (fun r26 => ?_)
        refine RefR.e0 (st' := ⟨[sP 0 0 0 0, sI 1 a1, sP 4 1 0 0, sP 5 2 0 0, sB 27 r26.1], [E56.o r26.2, oX0, E69.o r1], [], 1⟩) 2 1 3 [0, 1, 4, 5, 27] [0, 1, 2] ?_
        refine RefR.nl 3 ?_
        refine Ref.cn (.tmp 27) r26.1 (fun hc => ?_) (fun hc => ?_)
        ·
         refine Ref.sq ?_
         refine Ref.rn 11 ?_
         refine RefR.e1 0 1 1 [4, 30] [0, 1] ?_
         refine RefR.cc 31 1 2 [0] (F68_ok K r26.2) (fun r27 => ?_)
         refine RefR.e0 (st' := ⟨[sP 4 1 0 0], [E56.o r27.2, .cells [iC 10, iC 0, .str r27.1, .str [], .nil]], [], 1⟩) 2 2 4 [4] [0, 1] ?_
         refine RefR.nl 4 ?_
         refine Ref.conv (Conv.ob 1 (.cells [iC 10, iC 0, .str r27.1, .str [], E25.tree []]) (OLe.cells (All2.cons (CLe.refl _) (All2.cons (CLe.refl _) (All2.cons (CLe.refl _) (All2.cons (CLe.refl _) (All2.cons (El.tree_nil E25) (All2.nil)))))))) ?_
         refine Ref.conv (Conv.ob 1 (.cells [iC 10, iC 0, .str r27.1, .str [], NT25 []]) (OLe.cells (All2.cons (CLe.refl _) (All2.cons (CLe.refl _) (All2.cons (CLe.refl _) (All2.cons (CLe.refl _) (All2.cons (NT25_ge _) (All2.nil)))))))) ?_
         exact Ref.rt (t := (Sum.inr ((⟨10, 0, r27.1, ([] : Bytes), []⟩ : S25), r27.2)))
        ·
         refine Ref.sq ?_
         refine Ref.rn 12 ?_
         refine RefR.e1 0 1 1 [0, 1, 4, 5, 34] [0, 1, 2] ?_
         refine RefR.cc 35 1 2 [0] (F37_ok K r26.2 wDONE) (fun r28 => ?_)
         refine RefR.e0 (st' := ⟨[sP 0 0 0 0, sI 1 a1, sP 4 1 0 0, sP 5 2 0 0, sB 33 r28.1], [E56.o r28.2, oX0, E69.o r1], [], 1⟩) 2 1 3 [0, 1, 4, 5, 33] [0, 1, 2] ?_
         refine RefR.nl 3 ?_
         refine Ref.cn (.tmp 33) r28.1 (fun hc => ?_) (fun hc => ?_)
         ·
          refine Ref.sq ?_
          refine Ref.rn 13 ?_
          refine RefR.e1 0 1 1 [4, 36] [0, 1] ?_
          refine RefR.cc 37 1 2 [0] (F68_ok K r28.2) (fun r29 => ?_)
          refine RefR.e0 (st' := ⟨[sP 4 1 0 0], [E56.o r29.2, .cells [iC 11, iC 0, .str r29.1, .str [], .nil]], [], 1⟩) 2 2 4 [4] [0, 1] ?_
          refine RefR.nl 4 ?_
          refine Ref.conv (Conv.ob 1 (.cells [iC 11, iC 0, .str r29.1, .str [], E25.tree []]) (OLe.cells (All2.cons (CLe.refl _) (All2.cons (CLe.refl _) (All2.cons (CLe.refl _) (All2.cons (CLe.refl _) (All2.cons (El.tree_nil E25) (All2.nil)))))))) ?_
          refine Ref.conv (Conv.ob 1 (.cells [iC 11, iC 0, .str r29.1, .str [], NT25 []]) (OLe.cells (All2.cons (CLe.refl _) (All2.cons (CLe.refl _) (All2.cons (CLe.refl _) (All2.cons (CLe.refl _) (All2.cons (NT25_ge _) (All2.nil)))))))) ?_
          exact Ref.rt (t := (Sum.inr ((⟨11, 0, r29.1, ([] : Bytes), []⟩ : S25), r29.2)))
         ·
          refine Ref.sq ?_
          refine Ref.rn 14 ?_
          refine RefR.e1 0 1 1 [0, 1, 4, 5, 40] [0, 1, 2] ?_
          refine RefR.cc 41 1 2 [0] (F37_ok K r28.2 wCOUNT) (fun r30 => ?_)
          refine RefR.e0 (st' := ⟨[sP 0 0 0 0, sI 1 a1, sP 4 1 0 0, sP 5 2 0 0, sB 39 r30.1], [E56.o r30.2, oX0, E69.o r1], [], 1⟩) 2 1 3 [0, 1, 4, 5, 39] [0, 1, 2] ?_
          refine RefR.nl 3 ?_
          refine Ref.cn (.tmp 39) r30.1 (fun hc => ?_) (fun hc => ?_)
          ·
           refine Ref.sq ?_
           refine Ref.rn 15 ?_
           refine RefR.e1 0 1 1 [4, 42] [0, 1] ?_
           refine RefR.cc 43 1 2 [0] (F68_ok K r30.2) (fun r31 => ?_)
           refine RefR.e0 (st' := ⟨[sP 4 1 0 0], [E56.o r31.2, .cells [iC 12, iC 0, .str r31.1, .str [], .nil]], [], 1⟩) 2 2 4 [4] [0, 1] ?_
           refine RefR.nl 4 ?_
           refine Ref.conv (Conv.ob 1 (.cells [iC 12, iC 0, .str r31.1, .str [], E25.tree []]) (OLe.cells (All2.cons (CLe.refl _) (All2.cons (CLe.refl _) (All2.cons (CLe.refl _) (All2.cons (CLe.refl _) (All2.cons (El.tree_nil E25) (All2.nil)))))))) ?_
           refine Ref.conv (Conv.ob 1 (.cells [iC 12, iC 0, .str r31.1, .str [], NT25 []]) (OLe.cells (All2.cons (CLe.refl _) (All2.cons (CLe.refl _) (All2.cons (CLe.refl _) (All2.cons (CLe.refl _) (All2.cons (NT25_ge _) (All2.nil)))))))) ?_
           exact Ref.rt (t := (Sum.inr ((⟨12, 0, r31.1, ([] : Bytes), []⟩ : S25), r31.2)))
          ·
           refine Ref.sq ?_
           refine Ref.rn 16 ?_
           refine RefR.e1 0 1 1 [0, 1, 4, 5, 46] [0, 1, 2] ?_
           refine RefR.cc 47 1 2 [0] (F37_ok K r30.2 wAS) (fun r32 => ?_)
           refine RefR.e0 (st' := ⟨[sP 0 0 0 0, sI 1 a1, sP 4 1 0 0, sP 5 2 0 0, sB 45 r32.1], [E56.o r32.2, oX0, E69.o r1], [], 1⟩) 2 1 3 [0, 1, 4, 5, 45] [0, 1, 2] ?_
           refine RefR.nl 3 ?_
           refine Ref.cn (.tmp 45) r32.1 (fun hc => ?_) (fun hc => ?_)
           ·
            refine Ref.sq ?_
            refine Ref.rn 17 ?_
            refine RefR.e1 0 1 1 [0, 1, 4, 48] [0, 1] ?_
            refine RefR.cc 49 1 2 [0] (F69_ok K r32.2) (fun r33 => ?_)
            refine RefR.e0 (st' := ⟨[sP 0 0 0 0, sI 1 a1, sP 4 1 0 0, sS 6 r33.1], [E56.o r33.2, oX0], [], 1⟩) 2 1 3 [0, 1, 4, 6] [0, 1] ?_
            refine RefR.nl 3 ?_
            refine Ref.sq ?_
            refine Ref.rn 18 ?_
            refine RefR.e1 0 3 3 [4, 50, 51, 52] [0, 1] ?_
            refine RefR.cc 53 3 4 [0] (ih70 r33.2 a1 w_40 w_41) (fun r34 => ?_)
            refine RefR.e0 (st' := ⟨[sP 4 1 0 0, sS 50 r33.1, (54, .c (.own 2 1))], [E56.o r34.2, oX0, .row 25 5 1 (tbl [(E25.cs r34.1)])], [], 1⟩) 4 1 5 [4, 50, 54] [0, 1, 3] ?_
            refine RefR.conv (Conv.ob 2 (E25.row [r34.1]) (El.row_build E25 [r34.1] rfl (by kernel_rfl))) ?_
            refine RefR.conv (Conv.sl 54 (.c (.own 2 ([r34.1].length))) (DLe.c (CLe.own (by simp <;> omega)))) ?_
            refine RefR.e0 (st' := ⟨[sP 4 1 0 0], [E56.o r34.2, .cells [iC 14, iC 0, .str r33.1, .str [], .own 2 ([r34.1].length)], E25.row [r34.1]], [], 1⟩) 5 2 7 [4] [0, 1, 2] ?_
            refine RefR.nl 7 ?_
            refine Ref.conv (Conv.freeze (st' := ⟨[sP 4 1 0 0], [E56.o r34.2, .cells [iC 14, iC 0, .str r33.1, .str [], E25.tree [r34.1]], .dead], [], 1⟩) 2 (by kernel_rfl)) ?_
            refine Ref.conv (Conv.ob 1 (.cells [iC 14, iC 0, .str r33.1, .str [], NT25 [r34.1]]) (OLe.cells (All2.cons (CLe.refl _) (All2.cons (CLe.refl _) (All2.cons (CLe.refl _) (All2.cons (CLe.refl _) (All2.cons (NT25_ge _) (All2.nil)))))))) ?_
            refine Ref.ck ⟨[sP 4 1 0 0], [E56.o r34.2, .cells [iC 14, iC 0, .str r33.1, .str [], NT25 [r34.1]]], [], 1⟩ [4] [0, 1] ?_
            exact Ref.rt (t := (Sum.inr ((⟨14, 0, r33.1, ([] : Bytes), [r34.1]⟩ : S25), r34.2)))
           ·
            refine Ref.sq ?_
            refine Ref.rn 19 ?_
            refine RefR.e0 (st' := ⟨[sP 0 0 0 0, sI 1 a1, sP 4 1 0 0, sP 5 2 0 0, sP 57 0 0 0], [E56.o r32.2, oX0, E69.o r1], [], 1⟩) 0 1 1 [0, 1, 4, 5, 57] [0, 1, 2] ?_
            refine RefR.li 58 [] E9 ([[40]] : List Bytes) 1 2 ?_
            refine RefR.lookC (t := 59) (g := []) (b := true) 2 3 [0] (default : Bool) rfl (by kernel_rfl) (F22_ok K r32.2 ([[40]] : List Bytes)) (fun _ => rfl) (fun r35 => ?_)
            refine RefR.e0 (st' := ⟨[sP 0 0 0 0, sI 1 a1, sP 4 1 0 0, sP 5 2 0 0, sB 56 r35], [E56.o r32.2, oX0, E69.o r1], [], 1⟩) 3 1 4 [0, 1, 4, 5, 56] [0, 1, 2] ?_
            refine RefR.nl 4 ?_
            refine Ref.cn (.tmp 56) r35 (fun hc => ?_) (fun hc => ?_)
            ·
             refine Ref.sq ?_
             refine Ref.rn 20 ?_
             refine RefR.e1 0 2 2 [4, 60, 61] [0, 1] ?_
             refine RefR.cc 62 2 3 [0] (ih70 r32.2 a1 w_40 w_41) (fun r36 => ?_)
             refine RefR.e0 (st' := ⟨[sP 4 1 0 0], [E56.o r36.2, E25.o r36.1], [], 1⟩) 3 1 4 [4] [0, 1] ?_
             refine RefR.nl 4 ?_
             exact Ref.rt (t := (Sum.inr (r36.1, r36.2)))
            ·
             refine Ref.sq ?_
             refine Ref.rn 21 ?_
             refine RefR.e0 (st' := ⟨[sP 0 0 0 0, sI 1 a1, sP 4 1 0 0, sP 5 2 0 0, sP 64 0 0 0], [E56.o r32.2, oX0, E69.o r1], [], 1⟩) 0 1 1 [0, 1, 4, 5, 64] [0, 1, 2] ?_
             refine RefR.li 65 [] E9 ([[84, 72, 73, 83], [83, 85, 80, 69, 82]] : List Bytes) 1 2 ?_
             refine RefR.lookC (t := 66) (g := []) (b := true) 2 3 [0] (default : Bool) rfl (by kernel_rfl) (F22_ok K r32.2 ([[84, 72, 73, 83], [83, 85, 80, 69, 82]] : List Bytes)) (fun _ => rfl) (fun r37 => ?_)
             refine RefR.e0 (st' := ⟨[sP 0 0 0 0, sI 1 a1, sP 4 1 0 0, sP 5 2 0 0, sB 63 r37], [E56.o r32.2, oX0, E69.o r1], [], 1⟩) 3 1 4 [0, 1, 4, 5, 63] [0, 1, 2] ?_
             refine RefR.nl 4 ?_
             refine Ref.cn (.tmp 63) r37 (fun hc => ?_) (fun hc => ?_)
             ·
              refine Ref.sq ?_
              refine Ref.rn 22 ?_
              refine RefR.e1 0 2 2 [4, 67, 68] [0, 1] ?_
              refine RefR.cc 69 2 3 [0] (ih71 r32.2 a1) (fun r38 => ?_)
              refine RefR.e0 (st' := ⟨[sP 4 1 0 0], [E56.o r38.2, E25.o r38.1], [], 1⟩) 3 1 4 [4] [0, 1] ?_
              refine RefR.nl 4 ?_
              exact Ref.rt (t := (Sum.inr (r38.1, r38.2)))
             ·
              refine Ref.sk ?_
              refine Ref.ck ⟨[sP 0 0 0 0, sI 1 a1, sP 4 1 0 0, sP 5 2 0 0], [E56.o r32.2, oX0, E69.o r1], [], 1⟩ [0, 1, 4, 5] [0, 1, 2] ?_
              exact Ref.n0 (t := (r32.2))
   ·
    refine Ref.sq ?_
    refine Ref.rn 23 ?_
    refine RefR.e1 0 1 1 [0, 1, 4, 5, 70] [0, 1, 2] ?_
    refine RefR.cc 71 1 2 [0] (F69_ok K u20) (fun r39 => ?_)
    refine RefR.nl 2 ?_
    refine Ref.sq ?_
    refine Ref.ce (.block 1 (cd (bd Tryz.f38) [1, 1, 1, 1, 0, 0])) ?_
    refine Ref.block (go1 := fun u45 => ⟨[sP 4 1 0 0, sP 5 2 0 0], [E56.o r39.2, oX0, E69.o r1], [], 1⟩) ?_ (fun _ h => by cases h) (fun u45 => ?_)
    ·
     refine Ref.sq ?_
     refine Ref.rn 24 ?_
     refine RefR.e0 (st' := ⟨[sP 0 0 0 0, sI 1 a1, sP 4 1 0 0, sP 5 2 0 0, sP 73 0 0 0], [E56.o r39.2, oX0, E69.o r1], [], 1⟩) 0 1 1 [0, 1, 4, 5, 73] [0, 1, 2] ?_
     refine RefR.li 74 [] E9 ([[91]] : List Bytes) 1 2 ?_
     refine RefR.lookC (t := 75) (g := []) (b := true) 2 3 [0] (default : Bool) rfl (by kernel_rfl) (F22_ok K r39.2 ([[91]] : List Bytes)) (fun _ => rfl) (fun r46 => ?_)
     refine RefR.e0 (st' := ⟨[sP 0 0 0 0, sI 1 a1, sP 4 1 0 0, sP 5 2 0 0, sB 72 r46], [E56.o r39.2, oX0, E69.o r1], [], 1⟩) 3 1 4 [0, 1, 4, 5, 72] [0, 1, 2] ?_
     refine RefR.nl 4 ?_
     refine Ref.cn (.tmp 72) r46 (fun hc => ?_) (fun hc => ?_)
     ·
      refine Ref.sq ?_
      refine Ref.drawnY 25 (by kernel_rfl) (by kernel_rfl) ?_
      refine RefY.evC0 (st' := ⟨[sP 4 1 0 0, sP 76 2 0 1, sP 78 0 0 0, sI 79 a1], [E56.o r39.2, oX0, E69.o r1], [], 1⟩) (fuel' := 5) [0, 2, 3] [4, 76, 78, 79] [0, 1, 2] rfl (by kernel_rfl) (by kernel_rfl) ?_
      refine RefY.toX [4, 7] ?_
      refine RefX.withK1 (fun (r47 : S25 × S56) => ⟨[sP 4 1 0 0], [E56.o r47.2, .cells [iC 6, iC 0, .str r1.fText, .str [], .own 2 ([r47.1].length)], E25.row [r47.1]], [], 1⟩) (fun (r47 : S25 × S56) => (some (.inl (Sum.inr ((⟨6, 0, r1.fText, ([] : Bytes), [r47.1]⟩ : S25), r47.2))))) (fun r47 => ?_) (fun hk => ?_)
      ·
       refine Ref.conv (Conv.freeze (st' := ⟨[sP 4 1 0 0], [E56.o r47.2, .cells [iC 6, iC 0, .str r1.fText, .str [], E25.tree [r47.1]], .dead], [], 1⟩) 2 (by kernel_rfl)) ?_
       refine Ref.conv (Conv.ob 1 (.cells [iC 6, iC 0, .str r1.fText, .str [], NT25 [r47.1]]) (OLe.cells (All2.cons (CLe.refl _) (All2.cons (CLe.refl _) (All2.cons (CLe.refl _) (All2.cons (CLe.refl _) (All2.cons (NT25_ge _) (All2.nil)))))))) ?_
       refine Ref.ck ⟨[sP 4 1 0 0], [E56.o r47.2, .cells [iC 6, iC 0, .str r1.fText, .str [], NT25 [r47.1]]], [], 1⟩ [4] [0, 1] ?_
       exact Ref.rt (t := (Sum.inr ((⟨6, 0, r1.fText, ([] : Bytes), [r47.1]⟩ : S25), r47.2)))
      ·
       refine RefX.pend0 (fuel' := 4) [[], [(1, 77)]] [(1, 77)] [4, 76, 78, 79] [0, 1, 2] ⟨[sP 4 1 0 0, sP 76 2 0 1, sS 77 r1.fText, sP 78 0 0 0, sI 79 a1], [E56.o r39.2, oX0, E69.o r1], [], 1⟩ ?_
       refine RefXq.fork1 (fuel' := 3) 4 ?_
       refine RefXqi.callC (t := 80) 4 [0] rfl (by kernel_rfl) (ih70 r39.2 a1 w_91 ([93] : Bytes)) (fun r47 => ?_)
       refine RefXq.fork1 (fuel' := 2) 5 ?_
       refine RefXqi.adds0 (st' := ⟨[sP 4 1 0 0, sP 76 2 0 1, sS 77 r1.fText, (81, .c (.own 3 1))], [E56.o r47.2, oX0, E69.o r1, .row 25 5 1 (tbl [(E25.cs r47.1)])], [], 1⟩) 5 [4, 76, 77, 81] [0, 1, 2, 4] (by kernel_rfl) (by kernel_rfl) ?_
       refine RefXq.conv (Conv2.obj 3 (E25.row [r47.1]) (El.row_build E25 [r47.1] rfl (by kernel_rfl)) (by kernel_rfl)) ?_
       refine RefXq.conv (Conv2.slot 81 (.c (.own 3 ([r47.1].length))) (DLe.c (CLe.own (by simp <;> omega))) (by kernel_rfl)) ?_
       refine RefXq.close ?_
       refine RefX.v0 (fuel' := 1) [6] [4, 82] [0, 1, 3] ?_
       refine RefX.fork1 (fuel' := 0) 7 (by kernel_rfl) ?_
       refine RefXi.w0 7 [4] [0, 1, 2] ?_
       refine RefX.done (by kernel_rfl) ?_
       refine Ref.ck ⟨[sP 4 1 0 0], [E56.o r47.2, .cells [iC 6, iC 0, .str r1.fText, .str [], .own 2 ([r47.1].length)], E25.row [r47.1]], [], 1⟩ [4] [0, 1, 2] ?_
       exact hk r47
     ·
      refine Ref.sq ?_
      refine Ref.rn 26 ?_
      refine RefR.e0 (st' := ⟨[sP 0 0 0 0, sI 1 a1, sP 4 1 0 0, sP 5 2 0 0, sP 84 0 0 0], [E56.o r39.2, oX0, E69.o r1], [], 1⟩) 0 1 1 [0, 1, 4, 5, 84] [0, 1, 2] ?_
      refine RefR.li 85 [] E9 ([[46]] : List Bytes) 1 2 ?_
      refine RefR.lookC (t := 86) (g := []) (b := true) 2 3 [0] (default : Bool) rfl (by kernel_rfl) (F22_ok K r39.2 ([[46]] : List Bytes)) (fun _ => rfl) (fun r49 => ?_)
      refine RefR.e0 (st' := ⟨[sP 0 0 0 0, sI 1 a1, sP 4 1 0 0, sP 5 2 0 0, sB 83 r49], [E56.o r39.2, oX0, E69.o r1], [], 1⟩) 3 1 4 [0, 1, 4, 5, 83] [0, 1, 2] ?_
      refine RefR.nl 4 ?_
      refine Ref.cn (.tmp 83) r49 (fun hc => ?_) (fun hc => ?_)
      ·
       refine Ref.sq ?_
       refine Ref.rn 27 ?_
       refine RefR.e1 0 5 5 [4, 87, 90, 91] [0, 1] ?_
       refine RefR.cc 92 5 6 [0] (ih72 r39.2 (⟨13, 0, r1.fText, ([] : Bytes), []⟩ : S25) a1) (fun r50 => ?_)
       refine RefR.e0 (st' := ⟨[sP 4 1 0 0], [E56.o r50.2, E25.o r50.1], [], 1⟩) 6 1 7 [4] [0, 1] ?_
       refine RefR.nl 7 ?_
       exact Ref.rt (t := (Sum.inr (r50.1, r50.2)))
      ·
       refine Ref.sk ?_
       refine Ref.ck ⟨[sP 4 1 0 0, sP 5 2 0 0], [E56.o r39.2, oX0, E69.o r1], [], 1⟩ [4, 5] [0, 1, 2] ?_
       exact Ref.n0 (t := ())
    ·
     refine Ref.sq ?_
     refine Ref.rn 28 ?_
     refine RefR.e0 (st' := ⟨[sP 4 1 0 0], [E56.o r39.2, .cells [iC 5, iC 0, .str r1.fText, .str [], .nil]], [], 1⟩) 0 4 4 [4] [0, 1] ?_
     refine RefR.nl 4 ?_
     refine Ref.conv (Conv.ob 1 (.cells [iC 5, iC 0, .str r1.fText, .str [], E25.tree []]) (OLe.cells (All2.cons (CLe.refl _) (All2.cons (CLe.refl _) (All2.cons (CLe.refl _) (All2.cons (CLe.refl _) (All2.cons (El.tree_nil E25) (All2.nil)))))))) ?_
     refine Ref.conv (Conv.ob 1 (.cells [iC 5, iC 0, .str r1.fText, .str [], NT25 []]) (OLe.cells (All2.cons (CLe.refl _) (All2.cons (CLe.refl _) (All2.cons (CLe.refl _) (All2.cons (CLe.refl _) (All2.cons (NT25_ge _) (All2.nil)))))))) ?_
     exact Ref.rt (t := ((⟨5, 0, r1.fText, ([] : Bytes), []⟩ : S25), r39.2))
  ·
   intro a0 a1 a2 a3
   refine DFun.it Tryz.f70 (fun r => ⟨[sP 8 1 0 0], [E56.o r.2, E25.o r.1], [], 1⟩) ?_
   rw [F70]
   refine Ref.sq ?_
   refine Ref.rn 0 ?_
   refine RefR.e0 (st' := ⟨[sP 0 0 0 0, sI 1 a1, sS 2 a2, sS 3 a3, sP 8 1 0 0], [E56.o a0, oX0], [], 1⟩) 0 1 1 [0, 1, 2, 3, 8] [0, 1] ?_
   refine RefR.nl 1 ?_
   refine Ref.sq ?_
   refine Ref.rn 1 ?_
   refine RefR.e0 (st' := ⟨[sP 0 0 0 0, sI 1 a1, sS 3 a3, sP 8 1 0 0, sP 10 0 0 0, sS 11 a2], [E56.o a0, oX0], [], 1⟩) 0 2 2 [0, 1, 3, 8, 10, 11] [0, 1] ?_
   refine RefR.e0 (st' := ⟨[sP 0 0 0 0, sI 1 a1, sS 3 a3, sP 8 1 0 0, sP 10 0 0 0, (12, .c (.own 2 1))], [E56.o a0, oX0, .row 9 1 1 (tbl [[.str a2]])], [], 1⟩) 2 1 3 [0, 1, 3, 8, 10, 12] [0, 1, 2] ?_
   refine RefR.conv (Conv.ob 2 (E9.row [a2]) (El.row_build E9 [a2] rfl (by kernel_rfl))) ?_
   refine RefR.conv (Conv.sl 12 (.c (.own 2 ([a2].length))) (DLe.c (CLe.own (by simp <;> omega)))) ?_
   refine RefR.conv (Conv.freeze (st' := ⟨[(12, .c (E9.tree [a2])), sP 0 0 0 0, sI 1 a1, sS 3 a3, sP 8 1 0 0, sP 10 0 0 0], [E56.o a0, oX0, .dead], [], 1⟩) 2 (by kernel_rfl)) ?_
   refine RefR.cc 13 3 4 [0] (F79_ok K a0 [a2]) (fun r1 => ?_)
   refine RefR.nl 4 ?_
   refine Ref.sq ?_
   refine Ref.rn 2 ?_
   refine RefR.e1 0 3 3 [0, 3, 8, 14, 16] [0, 1] ?_
   refine RefR.cc 17 3 4 [0] (ih15 r1 (IntKind.i64.wrap (a1 + 1))) (fun r2 => ?_)
   refine RefR.e0 (st' := ⟨[sP 0 0 0 0, sS 3 a3, sP 8 1 0 0, sP 9 2 0 0], [E56.o r2.2, oX0, E25.o r2.1], [], 1⟩) 4 2 6 [0, 3, 8, 9] [0, 1, 3] ?_
   refine RefR.nl 6 ?_
   refine Ref.sq ?_
   refine Ref.rn 3 ?_
   refine RefR.e0 (st' := ⟨[sP 8 1 0 0, sP 9 2 0 0, sP 18 0 0 0, sS 19 a3], [E56.o r2.2, oX0, E25.o r2.1], [], 1⟩) 0 2 2 [8, 9, 18, 19] [0, 1, 2] ?_
   refine RefR.e0 (st' := ⟨[sP 8 1 0 0, sP 9 2 0 0, sP 18 0 0 0, (20, .c (.own 3 1))], [E56.o r2.2, oX0, E25.o r2.1, .row 9 1 1 (tbl [[.str a3]])], [], 1⟩) 2 1 3 [8, 9, 18, 20] [0, 1, 2, 3] ?_
   refine RefR.conv (Conv.ob 3 (E9.row [a3]) (El.row_build E9 [a3] rfl (by kernel_rfl))) ?_
   refine RefR.conv (Conv.sl 20 (.c (.own 3 ([a3].length))) (DLe.c (CLe.own (by simp <;> omega)))) ?_
   refine RefR.conv (Conv.freeze (st' := ⟨[(20, .c (E9.tree [a3])), sP 8 1 0 0, sP 9 2 0 0, sP 18 0 0 0], [E56.o r2.2, oX0, E25.o r2.1, .dead], [], 1⟩) 3 (by kernel_rfl)) ?_
   refine RefR.cc 21 3 4 [0] (F79_ok K r2.2 [a3]) (fun r3 => ?_)
   refine RefR.nl 4 ?_
   refine Ref.sq ?_
   refine Ref.rn 4 ?_
   refine RefR.e0 (st' := ⟨[sP 8 1 0 0], [E56.o r3, E25.o r2.1], [], 1⟩) 0 2 2 [8] [0, 1] ?_
   refine RefR.nl 2 ?_
   exact Ref.rt (t := (r2.1, r3))
  ·
   intro a0 a1
   refine DFun.it Tryz.f71 (fun r => ⟨[sP 4 1 0 0], [E56.o r.2, E25.o r.1], [], 1⟩) ?_
   rw [F71]
   refine Ref.sq ?_
   refine Ref.rn 0 ?_
   refine RefR.e0 (st' := ⟨[sP 0 0 0 0, sI 1 a1, sP 4 1 0 0], [E56.o a0, oX0], [], 1⟩) 0 1 1 [0, 1, 4] [0, 1] ?_
   refine RefR.nl 1 ?_
   refine Ref.sq ?_
   refine Ref.rn 1 ?_
   refine RefR.e0 (st' := ⟨[sP 0 0 0 0, sI 1 a1, sP 4 1 0 0, sP 5 2 0 0], [E56.o a0, oX0, oX2], [], 1⟩) 0 3 3 [0, 1, 4, 5] [0, 1, 2] ?_
   refine RefR.nl 3 ?_
   refine Ref.sq ?_
   refine Ref.sq ?_
   refine Ref.rn 2 ?_
   refine RefR.e1 0 1 1 [0, 1, 4, 5, 7] [0, 1, 2] ?_
   refine RefR.cc 8 1 2 [0] (F37_ok K a0 wTHIS) (fun r1 => ?_)
   refine RefR.e0 (st' := ⟨[sP 0 0 0 0, sI 1 a1, sP 4 1 0 0, sP 5 2 0 0, sB 9 (!r1.1)], [E56.o r1.2, oX0, oX2], [], 1⟩) 2 1 3 [0, 1, 4, 5, 9] [0, 1, 2] ?_
   refine RefR.nl 3 ?_
   refine Ref.bind (go1 := fun u3 => ⟨[sP 0 0 0 0, sI 1 a1, sP 4 1 0 0, sP 5 2 0 0], [E56.o u3.1, oX0, .cells [iC 13, iC u3.2, .str [], .str [], .nil]], [], 1⟩) ?_ (fun u3 => ?_)
   ·
    refine Ref.cn (.tmp 9) (!r1.1) (fun hc => ?_) (fun hc => ?_)
    ·
     refine Ref.sq ?_
     refine Ref.rn 3 ?_
     refine RefR.e0 (st' := ⟨[sP 0 0 0 0, sI 1 a1, sP 4 1 0 0, sP 5 2 0 0, sP 10 0 0 0], [E56.o r1.2, oX0, oX2], [], 1⟩) 0 1 1 [0, 1, 4, 5, 10] [0, 1, 2] ?_
     refine RefR.li 11 [] E9 ([[83, 85, 80, 69, 82]] : List Bytes) 1 2 ?_
     refine RefR.cc 12 2 3 [0] (F79_ok K r1.2 ([[83, 85, 80, 69, 82]] : List Bytes)) (fun r4 => ?_)
     refine RefR.nl 3 ?_
     refine Ref.rn 4 ?_
     refine RefR.e0 (st' := ⟨[sP 0 0 0 0, sI 1 a1, sP 4 1 0 0, sP 5 2 0 0], [E56.o r4, oX0, .cells [iC 13, iC 2, .str [], .str [], .nil]], [], 1⟩) 0 2 2 [0, 1, 4, 5] [0, 1, 2] ?_
     refine RefR.nl 2 ?_
     exact Ref.n0 (t := (r4, 2))
    ·
     refine Ref.sk ?_
     refine Ref.ck ⟨[sP 0 0 0 0, sI 1 a1, sP 4 1 0 0, sP 5 2 0 0], [E56.o r1.2, oX0, oX2], [], 1⟩ [0, 1, 4, 5] [0, 1, 2] ?_
     exact Ref.n0 (t := (r1.2, 1))
   ·
    refine Ref.sq ?_
    refine Ref.rn 5 ?_
    refine RefR.e1 0 3 3 [4, 14, 15, 16] [0, 1] ?_
    refine RefR.cc 17 3 4 [0] (ih72 u3.1 (⟨13, u3.2, ([] : Bytes), ([] : Bytes), []⟩ : S25) a1) (fun r5 => ?_)
    refine RefR.e0 (st' := ⟨[sP 4 1 0 0], [E56.o r5.2, E25.o r5.1], [], 1⟩) 4 1 5 [4] [0, 1] ?_
    refine RefR.nl 5 ?_
    exact Ref.rt (t := (r5.1, r5.2))
  ·
   intro a0 a1 a2
   refine DFun.it Tryz.f72 (fun r => ⟨[sP 6 1 0 0], [E56.o r.2, E25.o r.1], [], 1⟩) ?_
   rw [F72]
   refine Ref.sq ?_
   refine Ref.rn 0 ?_
   refine RefR.e0 (st' := ⟨[sP 0 0 0 0, sI 2 a2, sP 4 1 0 0, sP 6 2 0 0], [E56.o a0, .cells [iC a1.fKind, iC a1.fN, .str a1.fName, .str a1.fWhat, .nil], oX0], [], 1⟩) 0 2 2 [0, 2, 4, 6] [0, 1, 2] ?_
   refine RefR.nl 2 ?_
   refine Ref.sq ?_
   refine Ref.rn 1 ?_
   refine RefR.e0 (st' := ⟨[sP 0 0 0 0, sI 2 a2, sP 4 1 0 0, sP 6 2 0 0, sP 8 0 0 0], [E56.o a0, .cells [iC a1.fKind, iC a1.fN, .str a1.fName, .str a1.fWhat, .nil], oX0], [], 1⟩) 0 1 1 [0, 2, 4, 6, 8] [0, 1, 2] ?_
   refine RefR.li 9 [] E9 ([[46]] : List Bytes) 1 2 ?_
   refine RefR.cc 10 2 3 [0] (F79_ok K a0 ([[46]] : List Bytes)) (fun r1 => ?_)
   refine RefR.nl 3 ?_
   refine Ref.sq ?_
   refine Ref.rn 2 ?_
   refine RefR.e1 0 1 1 [0, 2, 4, 6, 11] [0, 1, 2] ?_
   refine RefR.cc 12 1 2 [0] (F69_ok K r1) (fun r2 => ?_)
   refine RefR.e0 (st' := ⟨[sP 0 0 0 0, sI 2 a2, sP 4 1 0 0, sP 6 2 0 0], [E56.o r2.2, .cells [iC a1.fKind, iC a1.fN, .str a1.fName, .str r2.1, .nil], oX0], [], 1⟩) 2 2 4 [0, 2, 4, 6] [0, 1, 2] ?_
   refine RefR.nl 4 ?_
   refine Ref.sq ?_
   refine Ref.rn 3 ?_
   refine RefR.e0 (st' := ⟨[sP 0 0 0 0, sI 2 a2, sP 4 1 0 0, sP 6 2 0 0, sP 14 0 0 0], [E56.o r2.2, .cells [iC a1.fKind, iC a1.fN, .str a1.fName, .str r2.1, .nil], oX0], [], 1⟩) 0 1 1 [0, 2, 4, 6, 14] [0, 1, 2] ?_
   refine RefR.li 15 [] E9 ([[40]] : List Bytes) 1 2 ?_
   refine RefR.cc 16 2 3 [0] (F79_ok K r2.2 ([[40]] : List Bytes)) (fun r3 => ?_)
   refine RefR.nl 3 ?_
   refine Ref.sq ?_
   refine Ref.sq ?_
   refine Ref.rn 4 ?_
   refine RefR.e1 0 1 1 [0, 2, 4, 6, 17] [0, 1, 2] ?_
   refine RefR.cc 18 1 2 [0] (F37_ok K r3 w_41) (fun r4 => ?_)
   refine RefR.nl 2 ?_
   refine Ref.cn (.tmp 18) r4.1 (fun hc => ?_) (fun hc => ?_)
   ·
    refine Ref.sq ?_
    refine Ref.rn 5 ?_
    refine RefR.e0 (st' := ⟨[sP 6 1 0 0], [E56.o r4.2, .cells [iC a1.fKind, iC a1.fN, .str a1.fName, .str r2.1, .nil]], [], 1⟩) 0 2 2 [6] [0, 2] ?_
    refine RefR.nl 2 ?_
    refine Ref.conv (Conv.ob 1 (.cells [iC a1.fKind, iC a1.fN, .str a1.fName, .str r2.1, E25.tree []]) (OLe.cells (All2.cons (CLe.refl _) (All2.cons (CLe.refl _) (All2.cons (CLe.refl _) (All2.cons (CLe.refl _) (All2.cons (El.tree_nil E25) (All2.nil)))))))) ?_
    refine Ref.conv (Conv.ob 1 (.cells [iC a1.fKind, iC a1.fN, .str a1.fName, .str r2.1, NT25 []]) (OLe.cells (All2.cons (CLe.refl _) (All2.cons (CLe.refl _) (All2.cons (CLe.refl _) (All2.cons (CLe.refl _) (All2.cons (NT25_ge _) (All2.nil)))))))) ?_
    exact Ref.rt (t := ((⟨a1.fKind, a1.fN, a1.fName, r2.1, []⟩ : S25), r4.2))
   ·
    refine Ref.sk ?_
    refine Ref.sq ?_
    refine Ref.sq ?_
    refine Ref.rn 6 ?_
    refine RefR.e0 (st' := ⟨[sP 0 0 0 0, sI 2 a2, sP 4 1 0 0, sP 6 2 0 0, sB 7 true], [E56.o r4.2, .cells [iC a1.fKind, iC a1.fN, .str a1.fName, .str r2.1, .nil], oX0], [], 1⟩) 0 1 1 [0, 2, 4, 6, 7] [0, 1, 2] ?_
    refine RefR.nl 1 ?_
    refine Ref.ce (.block 0 (cd (bd Tryz.f72) [1, 1, 1, 1, 1, 0, 1, 0])) ?_
    refine Ref.block (go1 := fun u65 => ⟨[sP 0 0 0 0, sP 4 1 0 0, sP 6 3 0 0], [E56.o u65.1, .cells [iC a1.fKind, iC a1.fN, .str a1.fName, .str r2.1, .own 2 u65.2.length], E25.row u65.2, oX0], [], 1⟩) ?_ (fun _ h => by cases h) (fun u65 => ?_)
    ·
     refine Ref.ce (.loop (cd (bd Tryz.f72) [1, 1, 1, 1, 1, 0, 1, 0, 0])) ?_
     refine Ref.conv (Conv.adoptCell (st' := ⟨[sP 0 0 0 0, sI 2 a2, sP 4 1 0 0, sP 6 2 0 0, sB 7 true], [E56.o r4.2, .cells [iC a1.fKind, iC a1.fN, .str a1.fName, .str r2.1, .own 3 0], oX0, E25.row []], [], 1⟩) 1 4 E25.ty E25.w (E25.at []) (by kernel_rfl)) ?_
     refine Ref.ck ⟨[sP 0 0 0 0, sI 2 a2, sP 4 1 0 0, sP 6 3 0 0, sB 7 true], [E56.o r4.2, .cells [iC a1.fKind, iC a1.fN, .str a1.fName, .str r2.1, .own 2 0], E25.row [], oX0], [], 1⟩ [0, 2, 4, 6, 7] [0, 1, 3, 2] ?_
     refine Ref.loop (hd := fun u86 => ⟨[sP 0 0 0 0, sI 2 a2, sP 4 1 0 0, sP 6 3 0 0, sB 7 u86.2.2], [E56.o u86.1, .cells [iC a1.fKind, iC a1.fN, .str a1.fName, .str r2.1, .own 2 u86.2.1.length], E25.row u86.2.1, oX0], [], 1⟩) K (r4.2, [], true) (by kernel_rfl) (fun u86 => ?_)
     refine Ref.sq ?_
     refine Ref.sq ?_
     refine Ref.rn 7 ?_
     refine RefR.e1 0 3 3 [0, 2, 4, 6, 21, 22] [0, 1, 2, 3] ?_
     refine RefR.lookC (t := 23) (g := [(21, true)]) (b := u86.2.2) 3 4 [0] (default : Bool) rfl (by kernel_rfl) (F17_ok K u86.1) (fun _ => rfl) (fun r107 => ?_)
     refine RefR.e0 (st' := ⟨[sP 0 0 0 0, sI 2 a2, sP 4 1 0 0, sP 6 3 0 0, sB 24 (u86.2.2 && r107)], [E56.o u86.1, .cells [iC a1.fKind, iC a1.fN, .str a1.fName, .str r2.1, .own 2 u86.2.1.length], E25.row u86.2.1, oX0], [], 1⟩) 4 1 5 [0, 2, 4, 6, 24] [0, 1, 2, 3] ?_
     refine RefR.nl 5 ?_
     refine Ref.cn (.tmp 24) (u86.2.2 && r107) (fun hc => ?_) (fun hc => ?_)
     ·
      refine Ref.sk ?_
      refine Ref.sq ?_
      refine Ref.ce (.block 1 (cd (bd Tryz.f72) [1, 1, 1, 1, 1, 0, 1, 0, 0, 1, 0, 0])) ?_
      refine Ref.block (go1 := fun u116 => ⟨[sP 0 0 0 0, sI 2 a2, sP 4 1 0 0, sP 6 3 0 0], [E56.o u116.1, .cells [iC a1.fKind, iC a1.fN, .str a1.fName, .str r2.1, .own 2 u116.2.length], E25.row u116.2, oX0], [], 1⟩) ?_ (fun a => match a with | .inl _ => (fun h => by cases h) | .inr _ => (fun h => by cases h)) (fun u116 => ?_)
      ·
       refine Ref.sq ?_
       refine Ref.sq ?_
       refine Ref.rn 9 ?_
       refine RefR.e0 (st' := ⟨[sP 0 0 0 0, sI 2 a2, sP 4 1 0 0, sP 6 3 0 0, sB 35 ((decide (((Int.ofNat u86.2.1.length) : Int) ≥ 3)) && (decide ((a2 : Int) < 6))), sP 36 0 0 0], [E56.o u86.1, .cells [iC a1.fKind, iC a1.fN, .str a1.fName, .str r2.1, .own 2 u86.2.1.length], E25.row u86.2.1, oX0], [(36, [(35, true)])], 1⟩) 0 10 10 [0, 2, 4, 6, 35, 36] [0, 1, 2, 3] ?_
       refine RefR.letC (stf := fun x117 => ⟨[sP 0 0 0 0, sI 2 a2, sP 4 1 0 0, sP 6 3 0 0, sB 35 x117, sP 36 0 0 0], [E56.o u86.1, .cells [iC a1.fKind, iC a1.fN, .str a1.fName, .str r2.1, .own 2 u86.2.1.length], E25.row u86.2.1, oX0], [(36, [(35, true)])], 1⟩) (by kernel_rfl) (fun x117 => ?_)
       refine RefR.li 37 [(35, true)] E9 ([[45], [78, 79, 84]] : List Bytes) 10 11 ?_
       refine RefR.lookC (t := 38) (g := [(35, true)]) (b := x117) 11 12 [0] (default : Bool) rfl (by kernel_rfl) (F22_ok K u86.1 ([[45], [78, 79, 84]] : List Bytes)) (fun _ => rfl) (fun r118 => ?_)
       refine RefR.e1 12 2 14 [0, 2, 4, 6, 35, 39, 40] [0, 1, 2, 3] ?_
       refine RefR.lookC (t := 41) (g := [(39, false), (35, true)]) (b := ((!r118) && x117)) 14 15 [0] (default : Bool) rfl (by kernel_rfl) (F35_ok K u86.1) (fun _ => rfl) (fun r119 => ?_)
       refine RefR.e0 (st' := ⟨[sP 0 0 0 0, sI 2 a2, sP 4 1 0 0, sP 6 3 0 0, sB 43 (x117 && (r118 || r119))], [E56.o u86.1, .cells [iC a1.fKind, iC a1.fN, .str a1.fName, .str r2.1, .own 2 u86.2.1.length], E25.row u86.2.1, oX0], [], 1⟩) 15 2 17 [0, 2, 4, 6, 43] [0, 1, 2, 3] ?_
       refine RefR.nl 17 ?_
       refine Ref.bind (go1 := fun u121 => ⟨[sP 0 0 0 0, sI 2 a2, sP 4 1 0 0, sP 6 3 0 0], [E56.o u121, .cells [iC a1.fKind, iC a1.fN, .str a1.fName, .str r2.1, .own 2 u86.2.1.length], E25.row u86.2.1, oX0], [], 1⟩) ?_ (fun u121 => ?_)
       ·
        refine Ref.cn (.tmp 43) (x117 && (r118 || r119)) (fun hc => ?_) (fun hc => ?_)
        ·
         refine Ref.rn 10 ?_
         refine RefR.e1 0 1 1 [0, 2, 4, 6, 44] [0, 1, 2, 3] ?_
         refine RefR.cc 45 1 2 [0] (F16_ok K u86.1 5) (fun r122 => ?_)
         refine RefR.nl 2 ?_
         refine Ref.ck ⟨[sP 0 0 0 0, sI 2 a2, sP 4 1 0 0, sP 6 3 0 0], [E56.o r122, .cells [iC a1.fKind, iC a1.fN, .str a1.fName, .str r2.1, .own 2 u86.2.1.length], E25.row u86.2.1, oX0], [], 1⟩ [0, 2, 4, 6] [0, 1, 2, 3] ?_
         exact Ref.n0 (t := (r122))
        ·
         refine Ref.sk ?_
         refine Ref.ck ⟨[sP 0 0 0 0, sI 2 a2, sP 4 1 0 0, sP 6 3 0 0], [E56.o u86.1, .cells [iC a1.fKind, iC a1.fN, .str a1.fName, .str r2.1, .own 2 u86.2.1.length], E25.row u86.2.1, oX0], [], 1⟩ [0, 2, 4, 6] [0, 1, 2, 3] ?_
         exact Ref.n0 (t := (u86.1))
       ·
        refine Ref.drawnY 11 (by kernel_rfl) (by kernel_rfl) ?_
        refine RefY.evC0 (st' := ⟨[sP 0 0 0 0, sI 2 a2, sP 4 1 0 0, sP 6 3 0 0, sP 46 1 0 4, sP 48 0 0 0, sI 50 (IntKind.i64.wrap (a2 + 1))], [E56.o u121, .cells [iC a1.fKind, iC a1.fN, .str a1.fName, .str r2.1, .own 2 u86.2.1.length], E25.row u86.2.1, oX0], [], 1⟩) (fuel' := 6) [0, 2, 3, 4] [0, 2, 4, 6, 46, 48, 50] [0, 1, 2, 3] rfl (by kernel_rfl) (by kernel_rfl) ?_
        refine RefY.toX [5, 7, 9] ?_
        refine RefX.withK1 (fun (r123 : S25 × S56) => ⟨[sP 0 0 0 0, sI 2 a2, sP 4 1 0 0, sP 6 2 0 0], [E56.o r123.2, .cells [iC a1.fKind, iC a1.fN, .str a1.fName, .str r2.1, .own 3 ((u86.2.1 ++ [r123.1]).length)], oX0, E25.row (u86.2.1 ++ [r123.1])], [], 1⟩) (fun (r123 : S25 × S56) => (some (.inr (r123.2, (u86.2.1 ++ [r123.1]))))) (fun r123 => ?_) (fun hk => ?_)
        ·
         refine Ref.ck ⟨[sP 0 0 0 0, sI 2 a2, sP 4 1 0 0, sP 6 3 0 0], [E56.o r123.2, .cells [iC a1.fKind, iC a1.fN, .str a1.fName, .str r2.1, .own 2 ((u86.2.1 ++ [r123.1]).length)], E25.row (u86.2.1 ++ [r123.1]), oX0], [], 1⟩ [0, 2, 4, 6] [0, 1, 3, 2] ?_
         exact Ref.n0 (t := (r123.2, (u86.2.1 ++ [r123.1])))
        ·
         refine RefX.pend0 (fuel' := 5) [[], [(1, 47)]] [(1, 47)] [0, 2, 4, 6, 46, 48, 50] [0, 1, 2, 3] ⟨[sP 0 0 0 0, sI 2 a2, sP 4 1 0 0, sP 6 3 0 0, sP 46 1 0 4, (47, .c (.own 2 u86.2.1.length)), sP 48 0 0 0, sI 50 (IntKind.i64.wrap (a2 + 1))], [E56.o u121, .cells [iC a1.fKind, iC a1.fN, .str a1.fName, .str r2.1, .own 2 u86.2.1.length], E25.row u86.2.1, oX0], [], 1⟩ ?_
         refine RefXq.fork1 (fuel' := 4) 5 ?_
         refine RefXqi.callC (t := 51) 5 [0] rfl (by kernel_rfl) (ih15 u121 (IntKind.i64.wrap (a2 + 1))) (fun r123 => ?_)
         refine RefXq.fork1 (fuel' := 3) 6 ?_
         refine RefXqi.adds0 (st' := ⟨[sP 0 0 0 0, sI 2 a2, sP 4 1 0 0, sP 6 3 0 0, sP 46 1 0 4, (47, .c (.own 2 u86.2.1.length)), (52, .c (.own 4 1))], [E56.o r123.2, .cells [iC a1.fKind, iC a1.fN, .str a1.fName, .str r2.1, .own 2 u86.2.1.length], E25.row u86.2.1, oX0, .row 25 5 1 (tbl [(E25.cs r123.1)])], [], 1⟩) 6 [0, 2, 4, 6, 46, 47, 52] [0, 1, 2, 3, 5] (by kernel_rfl) (by kernel_rfl) ?_
         refine RefXq.conv (Conv2.obj 4 (E25.row [r123.1]) (El.row_build E25 [r123.1] rfl (by kernel_rfl)) (by kernel_rfl)) ?_
         refine RefXq.conv (Conv2.slot 52 (.c (.own 4 ([r123.1].length))) (DLe.c (CLe.own (by simp <;> omega))) (by kernel_rfl)) ?_
         refine RefXq.close ?_
         refine RefX.fork1 (fuel' := 2) 7 (by kernel_rfl) ?_
         refine RefXi.writes (vs := [room ((u86.2.1.length + ([r123.1].length)) * 72)]) (st' := ⟨[sP 0 0 0 0, sI 2 a2, sP 4 1 0 0, sP 6 3 0 0, (53, .c (.own 4 (u86.2.1.length + ([r123.1].length))))], [E56.o r123.2, .cells [iC a1.fKind, iC a1.fN, .str a1.fName, .str r2.1, .own 2 u86.2.1.length], .dead, oX0, .row 25 5 (u86.2.1.length + ([r123.1].length)) fun i j => bif Nat.blt i u86.2.1.length then E25.at u86.2.1 i j else (E25.at [r123.1]) (i - u86.2.1.length) j], [], 1⟩) 7 [0, 2, 4, 6, 53] [0, 1, 2, 3, 5] (by kernel_rfl) (by kernel_rfl) ?_
         refine RefX.conv (Conv.ob 4 (E25.row (u86.2.1 ++ [r123.1])) (El.row_append E25 u86.2.1 [r123.1] rfl rfl)) ?_
         refine RefX.conv (Conv.sl 53 (.c (.own 4 ((u86.2.1 ++ [r123.1]).length))) (DLe.c (CLe.own (by simp <;> omega)))) ?_
         refine RefX.v0 (fuel' := 1) [8] [0, 2, 4, 6, 53, 54] [0, 1, 2, 3, 4] ?_
         refine RefX.fork1 (fuel' := 0) 9 (by kernel_rfl) ?_
         refine RefXi.w0 9 [0, 2, 4, 6] [0, 1, 3, 4] ?_
         refine RefX.done (by kernel_rfl) ?_
         refine Ref.ck ⟨[sP 0 0 0 0, sI 2 a2, sP 4 1 0 0, sP 6 2 0 0], [E56.o r123.2, .cells [iC a1.fKind, iC a1.fN, .str a1.fName, .str r2.1, .own 3 ((u86.2.1 ++ [r123.1]).length)], oX0, E25.row (u86.2.1 ++ [r123.1])], [], 1⟩ [0, 2, 4, 6] [0, 1, 2, 3] ?_
         exact hk r123
      ·
       refine Ref.rn 8 ?_
       refine RefR.e1 0 1 1 [0, 2, 4, 6, 25] [0, 1, 2, 3] ?_
       refine RefR.cc 26 1 2 [0] (F37_ok K u116.1 ([44] : Bytes)) (fun r125 => ?_)
       refine RefR.e0 (st' := ⟨[sP 0 0 0 0, sI 2 a2, sP 4 1 0 0, sP 6 3 0 0, sB 7 r125.1], [E56.o r125.2, .cells [iC a1.fKind, iC a1.fN, .str a1.fName, .str r2.1, .own 2 u116.2.length], E25.row u116.2, oX0], [], 1⟩) 2 1 3 [0, 2, 4, 6, 7] [0, 1, 2, 3] ?_
       refine RefR.nl 3 ?_
       exact Ref.n0 (t := (r125.2, u116.2, r125.1))
     ·
      refine Ref.ck ⟨[sP 0 0 0 0, sP 4 1 0 0, sP 6 3 0 0], [E56.o u86.1, .cells [iC a1.fKind, iC a1.fN, .str a1.fName, .str r2.1, .own 2 u86.2.1.length], E25.row u86.2.1, oX0], [], 1⟩ [0, 4, 6] [0, 1, 2, 3] ?_
      exact Ref.xt 0 (t := (Sum.inl (u86.1, u86.2.1)))
    ·
     refine Ref.sq ?_
     refine Ref.rn 12 ?_
     refine RefR.e0 (st' := ⟨[sP 4 1 0 0, sP 6 3 0 0, sP 55 0 0 0], [E56.o u65.1, .cells [iC a1.fKind, iC a1.fN, .str a1.fName, .str r2.1, .own 2 u65.2.length], E25.row u65.2, oX0], [], 1⟩) 0 1 1 [4, 6, 55] [0, 1, 2, 3] ?_
     refine RefR.li 56 [] E9 ([[41]] : List Bytes) 1 2 ?_
     refine RefR.cc 57 2 3 [0] (F79_ok K u65.1 ([[41]] : List Bytes)) (fun r126 => ?_)
     refine RefR.nl 3 ?_
     refine Ref.sq ?_
     refine Ref.rn 13 ?_
     refine RefR.e0 (st' := ⟨[sP 6 2 0 0], [E56.o r126, E25.row u65.2, .cells [iC a1.fKind, iC a1.fN, .str a1.fName, .str r2.1, .own 1 u65.2.length]], [], 1⟩) 0 2 2 [6] [0, 2, 3] ?_
     refine RefR.nl 2 ?_
     refine Ref.conv (Conv.freeze (st' := ⟨[sP 6 2 0 0], [E56.o r126, .dead, .cells [iC a1.fKind, iC a1.fN, .str a1.fName, .str r2.1, E25.tree u65.2]], [], 1⟩) 1 (by kernel_rfl)) ?_
     refine Ref.conv (Conv.ob 2 (.cells [iC a1.fKind, iC a1.fN, .str a1.fName, .str r2.1, NT25 u65.2]) (OLe.cells (All2.cons (CLe.refl _) (All2.cons (CLe.refl _) (All2.cons (CLe.refl _) (All2.cons (CLe.refl _) (All2.cons (NT25_ge _) (All2.nil)))))))) ?_
     refine Ref.ck ⟨[sP 6 1 0 0], [E56.o r126, .cells [iC a1.fKind, iC a1.fN, .str a1.fName, .str r2.1, NT25 u65.2]], [], 1⟩ [6] [0, 2] ?_
     exact Ref.rt (t := ((⟨a1.fKind, a1.fN, a1.fName, r2.1, u65.2⟩ : S25), r126))
theorem F15_ok (K : Nat) (a0 : S56) (a1 : Int) : DFun Tryz.prog 15 [.c (.ptr 0 0 0), .c (.val (.int .i64 a1))] [E56.o a0] (fnS (F15 K a0 a1)) (fun r => .agg (E25.cs r.1)) (fun r => [E56.o r.2, E25.o r.1]) := (G15_ok K).1 a0 a1
end Go.Proofs.YtidjangjfekfjaaGreatDoor
