/- A script's text as the document reads it. A script's text as the program writes it. The statements on script, in the words of the plain functions: each is true. What is printed is read again; what is read is printed, and read, again the same: in the words of the plain functions. No conditions. -/
import Derived.Test.YtmllhpnlceaneaaDoorWA
import Derived.Test.YtmllhpnlceaneaaDoorGd
set_option linter.unusedVariables false
set_option linter.unusedSimpArgs false
set_option linter.unusedSectionVars false
namespace Go.Proofs.YtmllhpnlceaneaaDoor
open Go Go.Proofs Go.Dl
set_option maxRecDepth 100000

theorem split_ref (K : Nat) (s : Bytes) (c : UInt8) (hl : s.length ≤ 1000000) (hK : s.length + 1 < K) : fnS (F39 K s c) = some (sp.splitC c s) := by
  unfold F39
  simp only [letV]
  rw [iter_run (fun t : List Bytes × Int × Int => s.length + 1 - t.2.2.toNat) (fun t => Sum.inl (if t.2.2.toNat ≤ s.length then t.1 ++ sp.splitW c ((s.drop t.2.1.toNat).take (t.2.2.toNat - t.2.1.toNat)) (s.drop t.2.2.toNat) else t.1))
    (fun t => 0 ≤ t.2.1 ∧ 0 ≤ t.2.2 ∧ t.2.2.toNat ≤ s.length + 1 ∧ (t.2.2.toNat ≤ s.length → t.2.1.toNat ≤ t.2.2.toNat) ∧ t.1.length ≤ t.2.2.toNat) ?_ K _ (by simp) (by simpa using hK)]
  · simp only [Int.toNat_zero, List.drop_zero, Nat.sub_zero, List.take_zero, List.nil_append, Nat.zero_le, if_true]
    rw [sp.splitW_nil]; rfl
  · rintro ⟨out, at', i⟩ ⟨g1, g2, g3, g4, g5⟩
    dsimp +instances only at g1 g2 g3 g4 g5 ⊢
    obtain ⟨n, rfl⟩ : ∃ n : Nat, i = (n : Int) := ⟨i.toNat, by omega⟩
    obtain ⟨a, rfl⟩ : ∃ a : Nat, at' = (a : Int) := ⟨at'.toNat, by omega⟩
    simp only [Int.toNat_natCast] at g3 g4 g5 ⊢
    have en : IntKind.i64.wrap ((n : Int) + 1) = ((n + 1 : Nat) : Int) := wrap64 (by omega) (by omega)
    by_cases hn : n ≤ s.length
    · have ha := g4 hn
      rw [if_pos (c := decide _ = true) (by simp; omega), if_pos hn]
      by_cases he : n = s.length
      · subst he
        left
        have hc : (((s.length : Int) == Int.ofNat s.length) || ((Int.ofNat (s.getD s.length 0).toNat) == Int.ofNat c.toNat)) = true := by simp
        rw [chk_t (by simp), chk_nil, hc, if_pos (c := true = true) rfl, chk_t (vs := []) (by simp [bndOk]; omega), chk_nil, chk_t (vs := []) (room_le (by simp; omega)), chk_nil, en]
        refine ⟨(out ++ [(s.drop a).take (s.length - a)], ((s.length + 1 : Nat) : Int), ((s.length + 1 : Nat) : Int)), rfl, ⟨by dsimp only; omega, by dsimp only; omega, by simp, by simp, by simp; omega⟩, by simp, ?_⟩
        simp only [Int.toNat_natCast]
        rw [if_neg (by omega), List.drop_length, sp.splitW]
      · left
        have hlt : n < s.length := by omega
        have hd := drop_getD s n hlt
        have hne : ((n : Int) == Int.ofNat s.length) = false := by rw [beq_eq_false_iff_ne]; simp; omega
        have hin : inb (n : Int) s.length = true := inb_nat hlt
        rw [hne, chk_t (by rw [hin]; rfl), chk_nil, hd, sp.splitW]
        have htk : (s.drop a).take (n + 1 - a) = (s.drop a).take (n - a) ++ [s.getD n 0] := by
          have h1 : n + 1 - a = (n - a) + 1 := by omega
          have h2 : n - a < (s.drop a).length := by simp; omega
          rw [h1, List.take_add_one, List.getElem?_eq_getElem h2]
          simp only [List.getElem_drop, Option.toList_some]
          congr 2
          simp [List.getD, List.getElem?_eq_getElem hlt, show a + (n - a) = n by omega]
        generalize s.getD n 0 = b at *
        by_cases hb : b = c
        · have hc : (false || ((Int.ofNat b.toNat) == Int.ofNat c.toNat)) = true := by rw [hb]; simp
          rw [hc, if_pos (c := true = true) rfl, if_pos hb, chk_t (vs := []) (by simp [bndOk]; omega), chk_nil, chk_t (vs := []) (room_le (by simp; omega)), chk_nil, en]
          refine ⟨(out ++ [(s.drop a).take (n - a)], ((n + 1 : Nat) : Int), ((n + 1 : Nat) : Int)), rfl, ⟨by dsimp only; omega, by dsimp only; omega, by simp; omega, by simp, by simp; omega⟩, by simp; omega, ?_⟩
          simp only [Int.toNat_natCast]
          rw [if_pos (by omega)]
          simp
        · have hc : (false || ((Int.ofNat b.toNat) == Int.ofNat c.toNat)) = false := by
            rw [Bool.false_or, beq_eq_false_iff_ne]
            intro e
            exact hb (UInt8.toNat_inj.1 (Int.ofNat.inj e))
          rw [hc, if_neg (c := false = true) (by simp), if_neg hb, en]
          refine ⟨(out, (a : Int), ((n + 1 : Nat) : Int)), rfl, ⟨by dsimp only; omega, by dsimp only; omega, by simp; omega, by simp; omega, by simp; omega⟩, by simp; omega, ?_⟩
          simp only [Int.toNat_natCast]
          rw [if_pos (by omega), htk]
    · right
      rw [if_neg (c := decide _ = true) (by simp; omega), if_neg hn]

theorem lines_ref (K : Nat) (s : Bytes) (hl : s.length ≤ 1000000) (hK : s.length + 1 < K) : fnS (F28 K s) = some (sp.linesL s) := by
  unfold F28
  have h10 : b8 10 = 10 := rfl
  rw [h10, split_ref K s 10 hl hK, Option.bind_some]
  simp only [letV]
  have hne := sp.splitC_ne 10 s
  have hlen := splitC_count 10 s
  have hcl : s.count 10 ≤ s.length := List.count_le_length
  unfold sp.linesL
  generalize sp.splitC 10 s = l at *
  have hp : 0 < l.length := List.length_pos_iff.2 hne
  have e1 : IntKind.i64.wrap (Int.ofNat l.length - 1) = ((l.length - 1 : Nat) : Int) := by rw [wrap64 (by simp; omega) (by simp; omega)]; simp; omega
  rw [e1, chk_t (vs := []) (inb_nat (by omega)), chk_nil]
  simp only [Int.toNat_natCast]
  have hg : l.getD (l.length - 1) default = l.getLast?.getD [] := by
    rw [List.getLast?_eq_getElem?]; rfl
  rw [hg]
  by_cases h : l.getLast? = some []
  · rw [if_pos h, h, if_pos (by rfl), chk_t (vs := []) (by simp [bndOk]), chk_nil]
    simp only [bindS_r, fnS]
    rw [List.dropLast_eq_take]
    simp
  · rw [if_neg h, if_neg ?_]
    · rfl
    · intro e
      apply h
      cases hl2 : l.getLast? with
      | none => exact absurd (List.getLast?_eq_none_iff.1 hl2) hne
      | some x =>
        rw [hl2] at e
        have : x = [] := by simpa using e
        rw [this]

theorem read_ref (K : Nat) (l : List Bytes) (hl : l.length ≤ 70000) (hw : ∀ x ∈ l, x.length ≤ 70000) (hK : 1000000 < K) :
    fnS (F27 K l) = some (match sp.parseL l 1 [] [] with
      | .inl (src, sc) => (src, sc, 0)
      | .inr p => ([], [], (p : Int))) := by
  unfold F27
  simp only [letV]
  refine iter_ctx (C := fun o => fnS (bindS (blockS (o.map .inl)) _) = some _) (fun t : List UInt8 × List S45 × Int => l.length - t.2.2.toNat)
    (fun t (a : (List UInt8 × List S45) ⊕ (Bytes × List S45 × Int)) => match sp.parseL (l.drop t.2.2.toNat) (t.2.2.toNat + 1) t.1 t.2.1 with
      | .inl (src, sc) => a = .inl (src, sc)
      | .inr p => a = .inr ([], [], (p : Int)))
    (fun t => 0 ≤ t.2.2 ∧ t.2.2.toNat ≤ l.length ∧ t.1.length ≤ 70000 * t.2.2.toNat ∧ t.2.1.length ≤ t.2.2.toNat) (by simp) (by simp; omega) ?_ ?_
  · rintro ⟨src, sc, i⟩ ⟨g1, g2, g3, g4⟩
    dsimp +instances only at g1 g2 g3 g4 ⊢
    obtain ⟨n, rfl⟩ : ∃ n : Nat, i = (n : Int) := ⟨i.toNat, by omega⟩
    simp only [Int.toNat_natCast] at g2 g3 g4 ⊢
    have en : IntKind.i64.wrap ((n : Int) + 1) = ((n + 1 : Nat) : Int) := wrap64 (by omega) (by omega)
    by_cases hn : n < l.length
    · have hd := drop_getDT l default n hn
      have hm : l.getD n default ∈ l := by simp [List.getD, List.getElem?_eq_getElem hn]
      have hxl := hw _ hm
      rw [if_pos (c := decide _ = true) (by simp; omega), chk_t (vs := []) (inb_nat hn), chk_nil, hd, sp.parseL]
      generalize l.getD n default = line at *
      have h32 : b8 32 = 32 := rfl
      rw [h32, split_ref K line 32 (by omega) (by omega), Option.bind_some]
      have hne := sp.splitC_ne 32 line
      have hwl : ∀ x ∈ sp.splitC 32 line, x.length ≤ line.length := splitC_len 32 line
      generalize sp.splitC 32 line = w at *
      cases w with
      | nil => exact absurd rfl hne
      | cons w0 ws =>
        have ew0 : ∀ d, (w0 :: ws).getD (0 : Int).toNat d = w0 := fun _ => rfl
        have c0 : inb 0 (w0 :: ws).length = true := by simp [inb]
        rw [chk_t (vs := []) c0, chk_nil]
        simp only [ew0]
        by_cases hsrc : w0 = sp.srcB ∧ (w0 :: ws).length = 2
        · have hr : sp.readW (w0 :: ws) = if (sh.bytesF ((w0 :: ws).getD 1 [])).2 = true then some (.inl (sh.bytesF ((w0 :: ws).getD 1 [])).1) else none := by
            unfold sp.readW
            rw [if_pos (by simpa using hsrc)]
          obtain ⟨h1, h2⟩ := hsrc
          have hcond : ((w0 == ([115, 114, 99] : Bytes)) && (((Int.ofNat (w0 :: ws).length) : Int) == 2)) = true := by rw [h2, h1]; rfl
          have hcond2 : (w0 == ([115, 99, 97, 110] : Bytes)) = false := by rw [h1]; rfl
          rw [hr, hcond, hcond2, if_pos (c := true = true) rfl, chk_t (vs := []) (by rw [h2]; rfl), chk_nil]
          have hb : (w0 :: ws).getD (1 : Int).toNat default = (w0 :: ws).getD 1 [] := rfl
          rw [hb]
          generalize hx : (w0 :: ws).getD 1 [] = x
          have hxl : x.length ≤ line.length := by
            apply hwl
            rw [← hx]
            cases ws with
            | nil => simp at h2
            | cons a r => simp
          rw [bytes_ref K x (by omega) (by omega), Option.bind_some]
          have hbl := bytesF_len x
          generalize sh.bytesF x = y at *
          obtain ⟨b, ok⟩ := y
          dsimp +instances only at hbl ⊢
          rw [chk_t (vs := []) (room_le (by simp; omega)), chk_nil, bindS_r, chk_t (vs := []) c0, chk_nil]
          simp only [Bool.false_and, bindS_r]
          rw [if_neg (c := false = true) (by simp), bindS_r]
          cases ok with
          | true =>
            left
            rw [if_neg (by simp)]
            refine ⟨(src ++ b, sc, ((n + 1 : Nat) : Int)), ?_, ⟨by dsimp only; omega, by simp; omega, by simp; omega, by simp; omega⟩, by simp; omega, ?_⟩
            · simp only [blockS_r, bindS_r]
              rw [en]
            · intro a ha
              exact ha
          | false =>
            right
            refine ⟨.inr ([], [], ((n + 1 : Nat) : Int)), ?_, rfl⟩
            rw [if_pos (by simp), en]
            rfl
        · have hcond : ((w0 == ([115, 114, 99] : Bytes)) && (((Int.ofNat (w0 :: ws).length) : Int) == 2)) = false := by
            rw [Bool.eq_false_iff]
            intro e
            simp only [Bool.and_eq_true, beq_iff_eq] at e
            exact hsrc ⟨e.1, by have := e.2; simp only [Int.ofNat_eq_natCast] at this; omega⟩
          rw [hcond, if_neg (c := false = true) (by simp), bindS_r, chk_t (vs := []) c0, chk_nil]
          by_cases hscan : w0 = sp.scanB
          · have hr : sp.readW (w0 :: ws) = (sp.scanF ws).map .inr := by
              unfold sp.readW
              rw [if_neg (by simpa using hsrc), if_pos (by simpa using hscan)]; rfl
            have hcond2 : (w0 == ([115, 99, 97, 110] : Bytes)) = true := by rw [hscan]; rfl
            rw [hr, hcond2]
            by_cases hln : 1 ≤ ws.length ∧ ws.length ≤ 17
            · have hc3 : ((true && decide ((Int.ofNat (w0 :: ws).length : Int) ≥ 2)) && decide ((Int.ofNat (w0 :: ws).length : Int) ≤ 18)) = true := by simp; omega
              rw [hc3, if_pos (c := true = true) rfl]
              generalize hit : iter K _ (true, ([] : List Int), (0 : Int), (1 : Int)) = o
              have hQ : ∃ ok ns tk, o = some (.inl (ok, ns, tk)) ∧ (ok = true → ws.mapM sp.numberF = some (tk :: ns)) ∧ (ok = false → ws.mapM sp.numberF = none) := by
                rw [← hit]
                refine iter_ctx (C := fun o => ∃ ok ns tk, o = some (Sum.inl (ok, ns, tk)) ∧ (ok = true → ws.mapM sp.numberF = some (tk :: ns)) ∧ (ok = false → ws.mapM sp.numberF = none))
                  (fun t : Bool × List Int × Int × Int => ws.length + 1 - t.2.2.2.toNat)
                  (fun t a => ∃ ok ns tk, a = Sum.inl (ok, ns, tk) ∧ (ok = true → t.1 = true ∧ ∃ m, ((w0 :: ws).drop t.2.2.2.toNat).mapM sp.numberF = some m ∧ (if t.2.2.2.toNat = 1 then m = tk :: ns else tk = t.2.2.1 ∧ ns = t.2.1 ++ m)) ∧ (ok = false → t.1 = false ∨ ((w0 :: ws).drop t.2.2.2.toNat).mapM sp.numberF = none))
                  (fun t => 1 ≤ t.2.2.2 ∧ t.2.2.2.toNat ≤ ws.length + 1 ∧ t.2.1.length ≤ t.2.2.2.toNat ∧ (t.2.2.2.toNat = 1 → t.2.1 = [])) (by simp) (by simp; omega) ?_ ?_
                · rintro ⟨ok, ns, tk, i⟩ ⟨f1, f2, f3, f4⟩
                  dsimp +instances only at f1 f2 f3 f4 ⊢
                  obtain ⟨k, rfl⟩ : ∃ k : Nat, i = (k : Int) := ⟨i.toNat, by omega⟩
                  simp only [Int.toNat_natCast] at f2 f3 f4 ⊢
                  have ek : IntKind.i64.wrap ((k : Int) + 1) = ((k + 1 : Nat) : Int) := wrap64 (by omega) (by omega)
                  by_cases hk : k < ws.length + 1
                  · left
                    have hd := drop_getDT (w0 :: ws) default k (by simpa using hk)
                    have hm : (w0 :: ws).getD k default ∈ w0 :: ws := by
                      have : k < (w0 :: ws).length := by simpa using hk
                      simp only [List.getD, List.getElem?_eq_getElem this, Option.getD_some]
                      exact List.getElem_mem this
                    have hxl := hwl _ hm
                    rw [if_pos (c := decide _ = true) (by simp; omega), chk_t (vs := []) (inb_nat (by simpa using hk)), chk_nil, hd]
                    generalize (w0 :: ws).getD k default = x at *
                    obtain ⟨v, okv, e1, e2, e3⟩ := number_ref K x (by omega) (by omega)
                    rw [e1, Option.bind_some]
                    by_cases hk1 : k = 1
                    · subst hk1
                      obtain rfl := f4 rfl
                      rw [if_pos (c := (((1 : Nat) : Int) == 1) = true) rfl]
                      refine ⟨(ok && okv, [], v, ((2 : Nat) : Int)), rfl, ⟨by dsimp only; omega, by simp; omega, by simp, by simp⟩, by simp; omega, ?_⟩
                      rintro a ⟨ok2, ns2, tk2, q1, q2, q3⟩
                      simp only [Int.toNat_natCast] at q2 q3
                      refine ⟨ok2, ns2, tk2, q1, fun h => ?_, fun h => ?_⟩
                      · obtain ⟨q4, m, q5, q6⟩ := q2 h
                        simp only [Bool.and_eq_true] at q4
                        rw [if_neg (by omega)] at q6
                        refine ⟨q4.1, v :: m, ?_, ?_⟩
                        · rw [mapM_cons, e2 q4.2, q5]; rfl
                        · rw [if_pos rfl, q6.1, q6.2]; rfl
                      · rcases q3 h with h5 | h5
                        · simp only [Bool.and_eq_false_iff] at h5
                          rcases h5 with h5 | h5
                          · exact .inl h5
                          · right; rw [mapM_cons, e3 h5]; rfl
                        · right
                          rw [mapM_cons, h5]
                          cases sp.numberF x <;> rfl
                    · have hb1 : ((k : Int) == 1) = false := by rw [beq_eq_false_iff_ne]; omega
                      rw [hb1, if_neg (c := false = true) (by simp), chk_t (vs := []) (room_le (by simp; omega)), chk_nil, blockS_r, bindS_r, ek]
                      refine ⟨(ok && okv, ns ++ [v], tk, ((k + 1 : Nat) : Int)), rfl, ⟨by dsimp only; omega, by simp; omega, by simp; omega, by simp; omega⟩, by simp; omega, ?_⟩
                      rintro a ⟨ok2, ns2, tk2, q1, q2, q3⟩
                      simp only [Int.toNat_natCast] at q2 q3
                      refine ⟨ok2, ns2, tk2, q1, fun h => ?_, fun h => ?_⟩
                      · obtain ⟨q4, m, q5, q6⟩ := q2 h
                        simp only [Bool.and_eq_true] at q4
                        rw [if_neg (by omega)] at q6
                        refine ⟨q4.1, v :: m, ?_, ?_⟩
                        · rw [mapM_cons, e2 q4.2, q5]; rfl
                        · rw [if_neg hk1, q6.1, q6.2]
                          exact ⟨rfl, by simp⟩
                      · rcases q3 h with h5 | h5
                        · simp only [Bool.and_eq_false_iff] at h5
                          rcases h5 with h5 | h5
                          · exact .inl h5
                          · right; rw [mapM_cons, e3 h5]; rfl
                        · right
                          rw [mapM_cons, h5]
                          cases sp.numberF x <;> rfl
                  · right
                    rw [if_neg (c := decide _ = true) (by simp; omega)]
                    refine ⟨_, rfl, ok, ns, tk, rfl, fun h => ⟨h, [], ?_, ?_⟩, fun h => .inl h⟩
                    · rw [List.drop_eq_nil_of_le (by simp; omega)]; rfl
                    · rw [if_neg (by omega)]; simp
                · rintro a ⟨ok, ns, tk, q1, q2, q3⟩
                  refine ⟨ok, ns, tk, by rw [q1], fun h => ?_, fun h => ?_⟩
                  · obtain ⟨_, m, q5, q6⟩ := q2 h
                    have q7 : m = tk :: ns := q6
                    rw [← q7]; exact q5
                  · rcases q3 h with h5 | h5
                    · cases h5
                    · exact h5
              obtain ⟨ok, ns, tk, rfl, q2, q3⟩ := hQ
              have hsf : sp.scanF ws = match ws.mapM sp.numberF with | some (t :: ns) => some ⟨ns, t⟩ | _ => none := by
                unfold sp.scanF
                rw [if_neg (by omega)]
                cases ws.mapM sp.numberF with
                | none => rfl
                | some m => cases m <;> rfl
              rw [hsf]
              cases ok with
              | true =>
                left
                rw [q2 rfl]
                refine ⟨(src, sc ++ [⟨ns, tk⟩], ((n + 1 : Nat) : Int)), ?_, ⟨by dsimp only; omega, by simp; omega, by simp; omega, by simp; omega⟩, by simp; omega, ?_⟩
                · show bindS (blockS (bindS (chk [room ((sc.length + 1) * 32)] (some (Sum.inr (sc ++ [⟨ns, tk⟩], true)))) _)) _ = _
                  rw [chk_t (vs := []) (room_le (by omega)), chk_nil, bindS_r, if_neg (by simp), en]
                  rfl
                · intro a ha
                  exact ha
              | false =>
                right
                rw [q3 rfl]
                refine ⟨.inr ([], [], ((n + 1 : Nat) : Int)), ?_, rfl⟩
                show bindS (blockS (bindS (chk [room ((sc.length + 1) * 32)] (some (Sum.inr (sc ++ [⟨ns, tk⟩], false)))) _)) _ = _
                rw [chk_t (vs := []) (room_le (by omega)), chk_nil, bindS_r, if_pos (by simp), en]
                rfl
            · right
              have hc3 : ((true && decide ((Int.ofNat (w0 :: ws).length : Int) ≥ 2)) && decide ((Int.ofNat (w0 :: ws).length : Int) ≤ 18)) = false := by
                rw [Bool.eq_false_iff]; intro e; apply hln; simp at e; omega
              have hsf : sp.scanF ws = none := by
                unfold sp.scanF
                rw [if_pos (by omega)]
              rw [hc3, hsf, if_neg (c := false = true) (by simp), bindS_r]
              refine ⟨.inr ([], [], ((n + 1 : Nat) : Int)), ?_, rfl⟩
              rw [if_pos (by simp), en]
              rfl
          · right
            have hr : sp.readW (w0 :: ws) = none := by
              unfold sp.readW
              rw [if_neg (by simpa using hsrc), if_neg (by simpa using hscan)]
            have hcond2 : (w0 == ([115, 99, 97, 110] : Bytes)) = false := by
              rw [Bool.eq_false_iff]; intro e; exact hscan (beq_iff_eq.1 e)
            rw [hr, hcond2]
            simp only [Bool.false_and]
            rw [if_neg (c := false = true) (by simp), bindS_r]
            refine ⟨.inr ([], [], ((n + 1 : Nat) : Int)), ?_, rfl⟩
            rw [if_pos (by simp), en]
            rfl
    · right
      rw [if_neg (c := decide _ = true) (by simp; omega), List.drop_eq_nil_of_le (by omega)]
      exact ⟨_, rfl, rfl⟩
  · intro a ha
    dsimp only at ha
    cases hp : sp.parseL l 1 [] [] with
    | inl r =>
      obtain ⟨s1, s2⟩ := r
      have ha' : a = .inl (s1, s2) := by
        have := ha
        rw [show l.drop (0 : Int).toNat = l from rfl, show (0 : Int).toNat + 1 = 1 from rfl, hp] at this
        exact this
      subst ha'
      rfl
    | inr p =>
      have ha' : a = .inr ([], [], (p : Int)) := by
        have := ha
        rw [show l.drop (0 : Int).toNat = l from rfl, show (0 : Int).toNat + 1 = 1 from rfl, hp] at this
        exact this
      subst ha'
      rfl

theorem linesL_len (s : Bytes) : (sp.linesL s).length ≤ s.length + 1 ∧ ∀ x ∈ sp.linesL s, x.length ≤ s.length := by
  have h1 := splitC_count 10 s
  have h2 : s.count 10 ≤ s.length := List.count_le_length
  have h3 := splitC_len 10 s
  unfold sp.linesL
  split
  · exact ⟨by rw [List.length_dropLast]; omega, fun x hx => h3 x (List.dropLast_subset _ hx)⟩
  · exact ⟨by omega, h3⟩

/-- What a text is read as, by codes. -/
def parseR (s : Bytes) : Bytes × List S45 × Int × Int :=
  if 65536 < s.length then ([], [], 24, 0) else
    match sp.parseL (sp.linesL s) 1 [] [] with
    | .inl (src, sc) => (src, sc, 0, 0)
    | .inr p => ([], [], 23, (p : Int))

theorem parse_ref (K : Nat) (s : Bytes) (hl : s.length ≤ 1000000) (hK : 1000001 < K) : fnS (F13 K s) = some (parseR s) := by
  unfold F13 parseR
  simp only [letV]
  by_cases h0 : 65536 < s.length
  · rw [if_pos (by simp; omega), if_pos h0]
    rfl
  · rw [if_neg (by simp; omega), if_neg h0, lines_ref K s hl (by omega), Option.bind_some]
    obtain ⟨h1, h2⟩ := linesL_len s
    rw [read_ref K _ (by omega) (fun x hx => by have := h2 x hx; omega) (by omega), Option.bind_some]
    cases hp : sp.parseL (sp.linesL s) 1 [] [] with
    | inl r => rfl
    | inr p =>
      have := sp.parseL_ge _ _ _ _ _ hp
      dsimp only
      rw [if_pos (by simp; omega)]
      rfl

end Go.Proofs.YtmllhpnlceaneaaDoor

set_option linter.unusedVariables false
set_option linter.unusedSimpArgs false
set_option linter.unusedSectionVars false
namespace Go.Proofs.YtmllhpnlceaneaaDoor
open Go Go.Proofs Go.Dl
set_option maxRecDepth 100000

def i64r (n : Int) : Prop := -9223372036854775808 ≤ n ∧ n ≤ 9223372036854775807

theorem write73 (K : Nat) (addr : Bool) (buf : Bytes) (bad : Bool) (b : Bytes) (h : buf.length + b.length ≤ 140737488355328) :
    fnS (F24x73 K (⟨⟨addr, buf⟩, bad⟩ : S73) b) = some ((Int.ofNat b.length), none, (⟨⟨true, buf ++ b⟩, bad⟩ : S73)) := by
  unfold F24x73
  have e37 : fnS (F37x73 K (⟨⟨addr, buf⟩, bad⟩ : S73)) = some ⟨⟨true, buf⟩, bad⟩ := rfl
  rw [e37, Option.bind_some, chk_t (room_le (by simpa using h)), chk_nil]
  rfl

theorem byte73 (K : Nat) (addr : Bool) (buf : Bytes) (bad : Bool) (b : UInt8) (h : buf.length + 1 ≤ 140737488355328) :
    fnS (F32x73 K (⟨⟨addr, buf⟩, bad⟩ : S73) b) = some (none, (⟨⟨true, buf ++ [b]⟩, bad⟩ : S73)) := by
  unfold F32x73
  have e37 : fnS (F37x73 K (⟨⟨addr, buf⟩, bad⟩ : S73)) = some ⟨⟨true, buf⟩, bad⟩ := rfl
  rw [e37, Option.bind_some, chk_t (room_le (by simpa using h)), chk_nil]
  rfl

instance (n : Int) : Decidable (sp.okN n) := inferInstanceAs (Decidable (_ ∧ _))

theorem num_lib (K : Nat) (addr : Bool) (buf : Bytes) (bad : Bool) (n : Int) (hn : i64r n) (h : buf.length ≤ 100000000) :
    fnS (F31 K (⟨⟨addr, buf⟩, bad⟩ : S73) n) = some (⟨⟨true, buf ++ 32 :: Lib.itoa n⟩, bad || !decide (sp.okN n)⟩ : S73) := by
  unfold F31
  have e45 : fnS (F45 K n) = some (Lib.itoa n) := by unfold F45; rw [if_pos ⟨hn.1, hn.2⟩]; rfl
  have hl := Lib.itoa_length_le n hn.1 hn.2
  rw [e45, Option.bind_some, chk_t (vs := []) (room_le (by simp; omega)), chk_nil, write73 K addr buf _ _ (by simp; omega), Option.bind_some]
  have e : ((bad || decide (n < -2147483648)) || decide (n > 2147483648)) = (bad || !decide (sp.okN n)) := by
    rw [Bool.or_assoc]
    congr 1
    by_cases hk : sp.okN n
    · obtain ⟨h1, h2⟩ := id hk
      rw [decide_eq_true hk, decide_eq_false (by omega), decide_eq_false (by omega)]; rfl
    · rw [decide_eq_false hk, Bool.eq_iff_iff]
      simp only [Bool.or_eq_true, decide_eq_true_eq, Bool.not_false, iff_true]
      have : ¬ (-2147483648 ≤ n ∧ n ≤ 2147483648) := hk
      omega
  show some _ = some _
  rw [show ((⟨⟨addr, buf⟩, bad⟩ : S73).fbad || decide (n < -2147483648) || decide (n > 2147483648)) = _ from e]
  rfl

/-- May a scan be written? -/
def scOk (x : S45) : Bool := decide (sp.okN x.fTicks) && x.fIn.all (fun n => decide (sp.okN n)) && decide (x.fIn.length ≤ 16)

theorem scOk_iff (x : S45) : scOk x = true ↔ sp.okS x := by
  unfold scOk
  simp only [Bool.and_eq_true, decide_eq_true_eq, List.all_eq_true]
  constructor
  · rintro ⟨⟨h1, h2⟩, h3⟩; exact ⟨h1, h2, h3⟩
  · rintro ⟨h1, h2, h3⟩; exact ⟨⟨h1, h2⟩, h3⟩

theorem numsB_append : ∀ (a b : List Int), sp.numsB (a ++ b) = sp.numsB a ++ sp.numsB b
  | [], b => rfl
  | n :: a, b => by simp [sp.numsB, numsB_append a b]

theorem numsB_len : ∀ (l : List Int), (∀ n ∈ l, i64r n) → (sp.numsB l).length ≤ 22 * l.length
  | [], _ => by simp [sp.numsB]
  | n :: r, h => by
    have h1 := Lib.itoa_length_le n (h n (List.mem_cons_self ..)).1 (h n (List.mem_cons_self ..)).2
    have h2 := numsB_len r (fun m hm => h m (List.mem_cons_of_mem _ hm))
    simp only [sp.numsB, List.cons_append, List.length_cons, List.length_append]
    omega

/-- What is written, or what is wrong. -/
def printF (src : Bytes) (l : List S45) : Bytes × Err :=
  if l.all scOk = true then (if 65536 < (sp.printB src l).length then ([], some (24, 0)) else (sp.printB src l, none)) else ([], some (22, 0))

/-- The numbers of a scan that a call may be handed. -/
structure ScR (x : S45) : Prop where
  t : i64r x.fTicks
  n : ∀ m ∈ x.fIn, i64r m
  len : x.fIn.length ≤ 20

theorem print_lib (K : Nat) (src : Bytes) (l : List S45) (hs : src.length ≤ 40000) (hl : l.length ≤ 80000) (hr : ∀ x ∈ l, ScR x) (hK : 100000 < K) : fnS (F17 K src l) = some (printF src l) := by
  unfold F17
  have hh : (sh.hexF src).length ≤ 80001 := by
    unfold sh.hexF
    split
    · simp
    · rw [sh.hexL_len]; omega
  rw [hex_eq K src (by omega) (by omega), Option.bind_some]
  rw [chk_t (room_le (by simp; omega)), chk_t (vs := []) (room_le (by simp; omega)), chk_nil]
  simp only [letV]
  rw [write73 K false [] false _ (by simp; omega), Option.bind_some]
  simp only [List.nil_append]
  have e0 : ([115, 114, 99, 32] : Bytes) ++ sh.hexF src ++ [10] = sp.srcB ++ 32 :: sh.hexF src ++ [10] := by simp [sp.srcB]
  rw [e0]
  generalize hp0 : sp.srcB ++ 32 :: sh.hexF src ++ [10] = p0
  have hp0l : p0.length ≤ 80010 := by rw [← hp0]; simp [sp.srcB]; omega
  -- the scans
  refine iter_ctx (C := fun o => fnS (bindS (blockS (o.map .inl)) _) = some _) (fun t : Bool × List UInt8 × Bool × Int => l.length - t.2.2.2.toNat)
    (fun t (a : (Bool × List UInt8 × Bool) ⊕ (Bytes × Err)) => ∃ f bad, a = .inl (f, t.2.1 ++ sp.linesB (l.drop t.2.2.2.toNat), bad) ∧ bad = (t.2.2.1 || !(l.drop t.2.2.2.toNat).all scOk))
    (fun t => 0 ≤ t.2.2.2 ∧ t.2.2.2.toNat ≤ l.length ∧ t.2.1.length ≤ 80010 + 1000 * t.2.2.2.toNat) (by simp; omega) (by simp; omega) ?_ ?_
  · rintro ⟨addr, buf, bad, i⟩ ⟨g1, g2, g3⟩
    dsimp +instances only at g1 g2 g3 ⊢
    obtain ⟨x, hxe⟩ : ∃ x, x = l.getD i.toNat default := ⟨_, rfl⟩
    rw [← hxe]
    obtain ⟨n, rfl⟩ : ∃ n : Nat, i = (n : Int) := ⟨i.toNat, by omega⟩
    simp only [Int.toNat_natCast] at g2 g3 hxe ⊢
    have en : IntKind.i64.wrap ((n : Int) + 1) = ((n + 1 : Nat) : Int) := wrap64 (by omega) (by omega)
    by_cases hn : n < l.length
    · left
      have hd := drop_getDT l default n hn
      have hm : l.getD n default ∈ l := by simp [List.getD, List.getElem?_eq_getElem hn]
      rw [if_pos (c := decide _ = true) (by simp; omega), chk_t (vs := []) (inb_nat hn), chk_nil, hd]
      rw [← hxe] at hm ⊢
      have hx := hr _ hm
      rw [write73 K addr buf bad _ (by simp; omega), Option.bind_some, num_lib K true _ _ _ hx.t (by simp; omega), Option.bind_some]
      generalize hit : iter K _ _ = o
      have hQ : ∃ f, o = some (.inl (f, buf ++ sp.lineB x, bad || !scOk x)) := by
        rw [← hit]
        have hb0 : ∀ (a b c : Bool), ((bad || !a) || c) = (bad || !(a && !c)) := by intro a b c; cases bad <;> cases a <;> cases c <;> rfl
        refine iter_ctx (C := fun o => ∃ f, o = some (Sum.inl (f, buf ++ sp.lineB x, bad || !scOk x))) (fun t : Bool × List UInt8 × Bool × Int => x.fIn.length - t.2.2.2.toNat)
          (fun t a => ∃ f, a = Sum.inl (f, t.2.1 ++ sp.numsB (x.fIn.drop t.2.2.2.toNat), t.2.2.1 || !(x.fIn.drop t.2.2.2.toNat).all (fun n => decide (sp.okN n))))
          (fun t => 0 ≤ t.2.2.2 ∧ t.2.2.2.toNat ≤ x.fIn.length ∧ t.2.1.length ≤ 90000000 + 22 * t.2.2.2.toNat) (by
            have := Lib.itoa_length_le x.fTicks hx.t.1 hx.t.2
            simp; omega) (by have := hx.len; simp; omega) ?_ ?_
        · rintro ⟨addr2, buf2, bad2, j⟩ ⟨f1, f2, f3⟩
          dsimp +instances only at f1 f2 f3 ⊢
          obtain ⟨k, rfl⟩ : ∃ k : Nat, j = (k : Int) := ⟨j.toNat, by omega⟩
          simp only [Int.toNat_natCast] at f2 f3 ⊢
          have hlen := hx.len
          have ek : IntKind.i64.wrap ((k : Int) + 1) = ((k + 1 : Nat) : Int) := wrap64 (by omega) (by omega)
          by_cases hk : k < x.fIn.length
          · left
            have hd2 := drop_getDT x.fIn default k hk
            have hm2 : x.fIn.getD k default ∈ x.fIn := by simp [List.getD, List.getElem?_eq_getElem hk]
            have hy := hx.n _ hm2
            rw [if_pos (c := decide _ = true) (by simp; omega), chk_t (vs := []) (inb_nat hk), chk_nil, hd2]
            generalize x.fIn.getD k default = y at *
            have hyl := Lib.itoa_length_le y hy.1 hy.2
            rw [num_lib K addr2 buf2 bad2 y hy (by omega), Option.bind_some]
            refine ⟨(true, buf2 ++ 32 :: Lib.itoa y, bad2 || !decide (sp.okN y), ((k + 1 : Nat) : Int)), ?_, ⟨by dsimp only; omega, by simp; omega, by simp; omega⟩, by simp; omega, ?_⟩
            · rw [blockS_r, bindS_r, ek]
            · rintro a ⟨f, rfl⟩
              refine ⟨f, ?_⟩
              simp only [Int.toNat_natCast, sp.numsB, List.all_cons, List.append_assoc, List.cons_append, Bool.or_assoc, Bool.not_and]
          · right
            rw [if_neg (c := decide _ = true) (by simp; omega)]
            refine ⟨_, rfl, addr2, ?_⟩
            rw [List.drop_eq_nil_of_le (by omega)]
            simp [sp.numsB]
        · rintro a ⟨f, rfl⟩
          refine ⟨f, ?_⟩
          simp only [Int.toNat_zero, List.drop_zero]
          congr 4
          · simp [sp.lineB, sp.numsB, sp.scanB]
          · have hd16 : decide ((Int.ofNat x.fIn.length) > 16) = !decide (x.fIn.length ≤ 16) := by
              rw [Bool.eq_iff_iff]
              simp only [decide_eq_true_eq, Bool.not_eq_true', decide_eq_false_iff_not, Int.ofNat_eq_natCast]
              omega
            unfold scOk
            rw [hd16]
            cases bad <;> cases decide (sp.okN x.fTicks) <;> cases x.fIn.all (fun n => decide (sp.okN n)) <;> cases decide (x.fIn.length ≤ 16) <;> rfl
      obtain ⟨f, rfl⟩ := hQ
      have hll : (sp.lineB x).length ≤ 600 := by
        have := numsB_len (x.fTicks :: x.fIn) (fun m hm => by
          rcases List.mem_cons.1 hm with rfl | hm
          · exact hx.t
          · exact hx.n m hm)
        have h4 := hx.len
        simp only [List.length_cons] at this
        unfold sp.lineB
        simp only [List.length_append, sp.scanB, List.length_cons, List.length_nil]
        omega
      refine ⟨(true, buf ++ sp.lineB x ++ [10], bad || !scOk x, ((n + 1 : Nat) : Int)), ?_, ⟨by dsimp only; omega, by simp; omega, by simp; omega⟩, by simp; omega, ?_⟩
      · show bindS (blockS (bindS (some (Sum.inr (f, buf ++ sp.lineB x, bad || !scOk x))) _)) _ = _
        rw [bindS_r]
        have h10 : b8 10 = 10 := rfl
        rw [h10]
        dsimp only
        rw [byte73 K f _ _ 10 (by simp; omega), Option.bind_some, blockS_r, bindS_r, en]
      · rintro a ⟨f2, bad2, rfl, rfl⟩
        refine ⟨f2, _, ?_, rfl⟩
        simp only [Int.toNat_natCast, List.all_cons, Bool.or_assoc, Bool.not_and, sp.linesB, List.append_assoc, List.cons_append, List.nil_append]
    · right
      rw [if_neg (c := decide _ = true) (by simp; omega)]
      refine ⟨_, rfl, addr, bad, ?_, ?_⟩
      · rw [List.drop_eq_nil_of_le (by omega)]; simp [sp.linesB]
      · rw [List.drop_eq_nil_of_le (by omega)]; simp
  · rintro a ⟨f, bad, rfl, rfl⟩
    simp only [Int.toNat_zero, List.drop_zero, Bool.false_or]
    show fnS (bindS (some (Sum.inr (f, p0 ++ sp.linesB l, !l.all scOk))) _) = _
    rw [bindS_r]
    dsimp only
    unfold printF
    have hpb : sp.printB src l = p0 ++ sp.linesB l := by rw [← hp0]; unfold sp.printB; simp
    rw [hpb]
    cases hall : l.all scOk with
    | false => rfl
    | true =>
      rw [if_neg (by simp), if_pos rfl]
      have e33 : fnS (F33x73 K (⟨⟨f, p0 ++ sp.linesB l⟩, !true⟩ : S73)) = some (Int.ofNat (p0 ++ sp.linesB l).length, ⟨⟨f, p0 ++ sp.linesB l⟩, !true⟩) := rfl
      rw [e33, Option.bind_some]
      dsimp only
      by_cases hb : 65536 < (p0 ++ sp.linesB l).length
      · rw [if_pos hb, if_pos (by simp at hb ⊢; omega)]
        rfl
      · rw [if_neg hb, if_neg (by simp at hb ⊢; omega)]
        rfl

end Go.Proofs.YtmllhpnlceaneaaDoor

set_option linter.unusedVariables false
set_option linter.unusedSimpArgs false
set_option linter.unusedSectionVars false
namespace Go.Proofs.YtmllhpnlceaneaaDoor
open Go Go.Proofs Go.Dl
set_option maxRecDepth 100000

theorem parse1 : parseF ([115, 114, 99, 32, 54, 49, 54, 50, 10, 115, 99, 97, 110, 32, 50, 32, 45, 53, 32, 55, 10, 115, 114, 99, 32, 54, 51, 10] : Bytes) = ([97, 98, 99], [⟨[-5, 7], 2⟩], none) := by kernel_rfl
theorem parse2 : parseF ([115, 114, 99, 32, 54, 49, 10, 115, 99, 97, 110, 32, 48, 50] : Bytes) = ([], [], some (23, 2)) := by kernel_rfl
theorem hex1 : sh.hexF ([15, 122] : Bytes) = [48, 102, 55, 97] := by kernel_rfl

theorem awake_true (K : Nat) (hK : 1000001 < K) : fnS (F7 K) = some true := by
  unfold F7
  rw [parse_lib K _ (by simp) (by omega), Option.bind_some, parse1, parse_lib K _ (by simp) (by omega), Option.bind_some, parse2]
  have e14 : fnS (F14 K (some (23, 2))) = some (23, 2) := rfl
  dsimp only
  rw [e14, Option.bind_some, sameScans K _ _ (by simp) (by simp; omega) (fun x hx => by
    simp only [List.mem_singleton] at hx
    subst hx
    exact ⟨by simp, by simp; omega⟩), decide_eq_true rfl, chk_t (by rfl), chk_nil, condM_t, Option.bind_some]
  simp only [letV]
  rw [hex_eq K _ (by simp) (by simp; omega), hex1]
  rfl

theorem and_awake (K : Nat) (hK : 1000001 < K) (x : Bool) (hx : x = true) : fnS ((condM x (fnS (F7 K)) default).bind (fun r => (some (.inl (x && r)) : Option (Bool ⊕ Bool)))) = some true := by
  subst hx
  rw [condM_t, awake_true K hK]; rfl

theorem hex_law (K : Nat) (hK : 1000001 < K) (b s : Bytes) : fnS (F3 K b s) = some true := by
  unfold F3
  simp only [letV]
  by_cases h : b.length > 500 ∨ s.length > 500
  · rw [if_pos (by simp; omega), awake_true K hK]; rfl
  · have hh : (sh.hexF b).length ≤ 1001 := by
      unfold sh.hexF
      split
      · simp
      · rw [sh.hexL_len]; omega
    rw [if_neg (by simp; omega), hex_eq K b (by omega) (by omega), Option.bind_some, bytes_eq K _ (by omega) (by omega), Option.bind_some, bytes_eq K s (by omega) (by omega), Option.bind_some, bytes_ref K s (by omega) (by omega), Option.bind_some, hex_ref K b (by omega) (by omega), Option.bind_some, sh.bytes_hex]
    exact and_awake K hK _ (by simp)

theorem wrong_some (K : Nat) (x : Int × Int) : fnS (F14 K (some x)) = some x := rfl
theorem wrong_none (K : Nat) : fnS (F14 K none) = some (0, 0) := rfl

theorem parseF_sc (s : Bytes) : (parseF s).2.1.length ≤ 70000 ∧ ∀ x ∈ (parseF s).2.1, sp.okS x := by
  unfold parseF
  by_cases h : 65536 < s.length
  · rw [if_pos h]; exact ⟨by simp, fun x hx => by cases hx⟩
  · rw [if_neg h]
    cases hp : sp.parseL (sp.linesL s) 1 [] [] with
    | inr p => exact ⟨by simp, fun x hx => by cases hx⟩
    | inl r =>
      obtain ⟨src, sc⟩ := r
      refine ⟨?_, sp.parseL_ok _ _ _ _ _ _ (fun x hx => by cases hx) hp⟩
      have hlen : ∀ (l : List Bytes) (p : Nat) (a : Bytes) (b : List S45) (c : Bytes) (d : List S45), sp.parseL l p a b = .inl (c, d) → d.length ≤ b.length + l.length := by
        intro l
        induction l with
        | nil => intro p a b c d h; simp only [sp.parseL, Sum.inl.injEq, Prod.mk.injEq] at h; rw [← h.2]; simp
        | cons x r ih =>
          intro p a b c d h
          simp only [sp.parseL] at h
          split at h
          · cases h
          · have := ih _ _ _ _ _ h; simp; omega
          · have := ih _ _ _ _ _ h; simp at this ⊢; omega
      have h1 := hlen _ _ _ _ _ _ hp
      have h2 := (linesL_len s).1
      simp only [List.length_nil] at h1
      show sc.length ≤ 70000
      omega

theorem okS_len {x : S45} (K : Nat) (hK : 1000001 < K) (h : sp.okS x) : x.fIn.length ≤ 1000000 ∧ x.fIn.length < K := by
  have := h.len
  exact ⟨by omega, by omega⟩

theorem reads_law (K : Nat) (hK : 1000001 < K) (s : Bytes) : fnS (F4 K s) = some true := by
  unfold F4
  simp only [letV]
  by_cases h : s.length > 66000
  · rw [if_pos (by simp; omega), awake_true K hK]; rfl
  · rw [if_neg (by simp; omega), parse_lib K s (by omega) (by omega), Option.bind_some, parse_ref K s (by omega) hK, Option.bind_some]
    have hsc := parseF_sc s
    have hsame : (parseR s).1 = (parseF s).1 ∧ (parseR s).2.1 = (parseF s).2.1 ∧ (parseR s).2.2 = (parseF s).2.2.getD (0, 0) := by
      unfold parseF parseR
      by_cases h1 : 65536 < s.length
      · rw [if_pos h1, if_pos h1]; exact ⟨rfl, rfl, rfl⟩
      · rw [if_neg h1, if_neg h1]
        cases sp.parseL (sp.linesL s) 1 [] [] with
        | inl r => exact ⟨rfl, rfl, rfl⟩
        | inr p => exact ⟨rfl, rfl, rfl⟩
    obtain ⟨e1, e2, e3⟩ := hsame
    rw [e1, e2, e3]
    generalize parseF s = q at *
    obtain ⟨src, sc, er⟩ := q
    dsimp only at hsc ⊢
    have e14 : fnS (F14 K er) = some (er.getD (0, 0)) := rfl
    rw [e14, Option.bind_some, beq_self_eq_true, condM_t, sameScans K sc sc (by omega) (by omega) (fun x hx => okS_len K hK (hsc.2 x hx)), Option.bind_some, decide_eq_true rfl]
    exact and_awake K hK _ (by simp)

def outF (r : (Bytes × List S45) ⊕ Nat) : Bytes × List S45 × Err :=
  match r with
  | .inl (src, sc) => (src, sc, none)
  | .inr p => ([], [], some (23, (p : Int)))
theorem parseF_le (s : Bytes) (h : s.length ≤ 65536) : parseF s = outF (sp.parseL (sp.linesL s) 1 [] []) := by
  unfold parseF; rw [if_neg (by omega)]; rfl
theorem outF_l (a : Bytes) (b : List S45) : outF (.inl (a, b)) = (a, b, none) := rfl
theorem outF_r (p : Nat) : outF (.inr p) = ([], [], some (23, (p : Int))) := rfl

theorem parts_law (K : Nat) (hK : 1000001 < K) (s t : Bytes) : fnS (F5 K s t) = some true := by
  unfold F5
  simp only [letV]
  by_cases h : s.length > 10000 ∨ t.length > 10000
  · rw [if_pos (by simp; omega), awake_true K hK]; rfl
  · have hst : ((s ++ ([10] : Bytes)) ++ t).length ≤ 20001 := by simp; omega
    rw [if_neg (by simp; omega), parse_lib K s (by omega) (by omega), Option.bind_some, chk_t (room_le (by simp; omega)), chk_t (vs := []) (room_le (by simp; omega)), chk_nil,
      parse_lib K _ (by omega) (by omega), Option.bind_some]
    rw [parseF_le s (by omega), parseF_le _ (by omega)]
    have happ : (s ++ ([10] : Bytes)) ++ t = s ++ 10 :: t := by simp
    rw [happ]
    by_cases hs0 : s = []
    · -- nothing stands ahead
      subst hs0
      rw [sp.linesL_nil]
      have e0 : outF (sp.parseL [] 1 [] []) = ([], [], none) := rfl
      rw [e0]
      dsimp +instances only
      rw [if_neg (c := (!!Option.isSome (none : Err)) = true) (by simp)]
      generalize sp.parseL (sp.linesL ([] ++ 10 :: t)) 1 [] [] = r
      cases r with
      | inl r => exact and_awake K hK _ rfl
      | inr p => exact and_awake K hK _ rfl
    · have hlines : ∃ m, sp.linesL (s ++ 10 :: t) = sp.linesL s ++ m := by
        by_cases hl : s.getLast? = some 10
        · exact ⟨_, sp.linesL_append_nl hl⟩
        · exact ⟨_, sp.linesL_append hs0 hl⟩
      obtain ⟨m, hm⟩ := hlines
      rw [hm, sp.parseL_append]
      cases hp : sp.parseL (sp.linesL s) 1 [] [] with
      | inl r =>
        obtain ⟨src, sc⟩ := r
        dsimp only
        rw [outF_l]
        dsimp +instances only
        rw [if_neg (c := (!!Option.isSome (none : Err)) = true) (by simp)]
        generalize sp.parseL m _ src sc = r
        cases r with
        | inl r => exact and_awake K hK _ rfl
        | inr p => exact and_awake K hK _ rfl
      | inr p =>
        dsimp only
        rw [outF_r]
        dsimp +instances only
        rw [if_pos (c := (!!Option.isSome (some (23, (p : Int)))) = true) (by simp), wrong_some, Option.bind_some, Option.bind_some]
        have hpos : 0 < s.length := List.length_pos_iff.2 hs0
        have ew : IntKind.i64.wrap ((Int.ofNat s.length) - 1) = ((s.length - 1 : Nat) : Int) := by rw [wrap64 (by simp; omega) (by simp; omega)]; simp; omega
        rw [ew, chk_t (vs := []) (by rw [inb_nat (by omega)]; simp), chk_nil]
        generalize ((!(s == ([] : Bytes))) && (((Int.ofNat (s.getD (((s.length - 1 : Nat) : Int)).toNat 0).toNat) : Int) != 10)) = cc
        cases cc with
        | true => rw [if_pos rfl]; exact and_awake K hK _ (by simp)
        | false => rw [if_neg (by simp)]; exact and_awake K hK _ rfl

end Go.Proofs.YtmllhpnlceaneaaDoor

set_option linter.unusedVariables false
set_option linter.unusedSimpArgs false
set_option linter.unusedSectionVars false
namespace Go.Proofs.YtmllhpnlceaneaaDoor
open Go Go.Proofs Go.Dl
set_option maxRecDepth 100000

def sumL : List Bytes → Nat
  | [] => 0
  | x :: r => x.length + sumL r

theorem split_sum (c : UInt8) : ∀ s : Bytes, sumL (sp.splitC c s) ≤ s.length
  | [] => by simp [sp.splitC, sumL]
  | b :: r => by
    have ih := split_sum c r
    have hh := sp.splitC_hd c r
    unfold sp.splitC
    split
    · simp only [sumL, List.length_nil, List.length_cons]; omega
    · rw [hh] at ih
      simp only [sumL, List.length_cons] at ih ⊢
      omega

theorem sum_dropLast : ∀ l : List Bytes, sumL l.dropLast ≤ sumL l
  | [] => Nat.le_refl _
  | [a] => by simp [sumL]
  | a :: b :: r => by
    have := sum_dropLast (b :: r)
    simp only [List.dropLast_cons_cons, sumL] at this ⊢
    omega

theorem lines_sum (s : Bytes) : sumL (sp.linesL s) ≤ s.length := by
  unfold sp.linesL
  have := split_sum 10 s
  split
  · have := sum_dropLast (sp.splitC 10 s); omega
  · exact this

theorem readW_len {w : List Bytes} {b : Bytes} {n : Nat} (hw : ∀ x ∈ w, x.length ≤ n) (h : sp.readW w = some (.inl b)) : b.length ≤ n := by
  unfold sp.readW at h
  split at h
  · rename_i hc
    split at h
    · simp only [Option.some.injEq, Sum.inl.injEq] at h
      subst h
      have h1 := bytesF_len (w.getD 1 [])
      have h2 : w.getD 1 [] ∈ w := by
        cases w with
        | nil => simp at hc
        | cons a r => cases r with
          | nil => simp at hc
          | cons b t => simp
      have := hw _ h2
      omega
    · cases h
  · split at h
    · cases hs : sp.scanF w.tail with
      | none => rw [hs] at h; cases h
      | some y => rw [hs] at h; cases h
    · cases h

theorem parseL_src : ∀ (l : List Bytes) (p : Nat) (a : Bytes) (b : List S45) (c : Bytes) (d : List S45), sp.parseL l p a b = .inl (c, d) → c.length ≤ a.length + sumL l
  | [], p, a, b, c, d, h => by
    simp only [sp.parseL, Sum.inl.injEq, Prod.mk.injEq] at h
    rw [← h.1]; simp [sumL]
  | x :: r, p, a, b, c, d, h => by
    simp only [sp.parseL] at h
    split at h
    · cases h
    · rename_i y hy
      have h1 := parseL_src r _ _ _ _ _ h
      have h2 := readW_len (splitC_len 32 x) hy
      simp only [List.length_append, sumL] at h1 ⊢
      omega
    · have h1 := parseL_src r _ _ _ _ _ h
      simp only [sumL]
      omega

theorem parseF_src (s : Bytes) : (parseF s).1.length ≤ s.length := by
  unfold parseF
  split
  · simp
  · cases hp : sp.parseL (sp.linesL s) 1 [] [] with
    | inr p => simp
    | inl r =>
      have h1 := parseL_src _ _ _ _ _ _ hp
      have h2 := lines_sum s
      simp only [List.length_nil] at h1
      show r.1.length ≤ _
      omega

theorem great_eq (K : Nat) (hK : 1000001 < K) (l : List S45) : fnS (F16 K l 40) = some (decide (40 < l.length) || l.any fun x => decide (20 < x.fIn.length)) := by
  unfold F16
  simp only [letV]
  rw [iter_run (fun t : Int => if 40 < l.length then 0 else l.length - t.toNat) (fun t => bif (!decide (40 < l.length) && (l.drop t.toNat).any fun x => decide (20 < x.fIn.length)) then (Sum.inr true : Unit ⊕ Bool) else Sum.inl ()) (fun t => 0 ≤ t ∧ t.toNat ≤ l.length) ?_ K _ (by simp) (by split <;> (try simp only [Int.toNat_zero]) <;> omega)]
  · simp only [Int.toNat_zero, List.drop_zero]
    have e : decide ((Int.ofNat l.length : Int) > 40) = decide (40 < l.length) := by
      rw [Bool.eq_iff_iff]; simp only [decide_eq_true_eq, Int.ofNat_eq_natCast]; omega
    rw [e]
    cases decide (40 < l.length) <;> cases (l.any fun x => decide (20 < x.fIn.length)) <;> rfl
  · rintro i ⟨g1, g2⟩
    obtain ⟨x, hxe⟩ : ∃ x, x = l.getD i.toNat default := ⟨_, rfl⟩
    rw [← hxe]
    obtain ⟨n, rfl⟩ : ∃ n : Nat, i = (n : Int) := ⟨i.toNat, by omega⟩
    simp only [Int.toNat_natCast] at g2 hxe ⊢
    by_cases h40 : 40 < l.length
    · right
      rw [if_neg (c := (_ && _) = true) (by simp; omega), decide_eq_true h40]
      rfl
    · rw [decide_eq_false h40]
      simp only [Bool.not_false, Bool.true_and]
      by_cases hn : n < l.length
      · have hd := drop_getDT l default n hn
        rw [if_pos (c := (_ && _) = true) (by simp; omega), chk_t (vs := []) (inb_nat hn), chk_nil, hd, ← hxe, List.any_cons]
        by_cases hx : 20 < x.fIn.length
        · right
          rw [if_pos (c := decide _ = true) (by simp; omega), decide_eq_true hx]
          rfl
        · left
          rw [if_neg (c := decide _ = true) (by simp; omega), decide_eq_false hx]
          refine ⟨((n + 1 : Nat) : Int), ?_, ⟨by omega, by simp; omega⟩, ?_, ?_⟩
          · rw [blockS_r, bindS_r, wrap64 (by omega) (by omega)]; rfl
          · rw [if_neg h40, if_neg h40]; simp; omega
          · simp
      · right
        rw [if_neg (c := (_ && _) = true) (by simp; omega), List.drop_eq_nil_of_le (by omega)]
        rfl

theorem all_scOk {l : List S45} : l.all scOk = true ↔ ∀ x ∈ l, sp.okS x := by
  rw [List.all_eq_true]
  exact ⟨fun h x hx => (scOk_iff x).1 (h x hx), fun h x hx => (scOk_iff x).2 (h x hx)⟩

theorem okS_r {x : S45} (h : sp.okS x) : ScR x := by
  obtain ⟨⟨h1, h2⟩, h3, h4⟩ := h
  refine ⟨⟨by omega, by omega⟩, fun m hm => ?_, by omega⟩
  obtain ⟨h5, h6⟩ := h3 m hm
  exact ⟨by omega, by omega⟩

/-- Printed, and read. -/
theorem print_parse (src : Bytes) (l : List S45) : ((printF src l).2 = none ∧ parseF (printF src l).1 = (src, l, none) ∧ (printF src l).1.length ≤ 65536 ∧ ∀ x ∈ l, sp.okS x) ∨ (∃ c, (printF src l).2 = some (c, 0) ∧ (printF src l).1 = [] ∧ ((∀ x ∈ l, sp.okS x) → c = 24)) := by
  unfold printF
  by_cases h : l.all scOk = true
  · rw [if_pos h]
    have hok := all_scOk.1 h
    by_cases h2 : 65536 < (sp.printB src l).length
    · right
      rw [if_pos h2]
      exact ⟨24, rfl, rfl, fun _ => rfl⟩
    · left
      rw [if_neg h2]
      refine ⟨rfl, ?_, by dsimp only; omega, hok⟩
      dsimp only
      rw [parseF_le _ (by omega), sp.parse_print src l hok]
      rfl
  · right
    rw [if_neg h]
    exact ⟨22, rfl, rfl, fun h3 => absurd (all_scOk.2 h3) h⟩

theorem parse_nil : parseF [] = ([], [], none) := by kernel_rfl

theorem back_law (K : Nat) (hK : 1000001 < K) (src : Bytes) (l : List S45) (s : Bytes) (hr : ∀ x ∈ l, i64r x.fTicks ∧ ∀ m ∈ x.fIn, i64r m) : fnS (F6 K src l s) = some true := by
  unfold F6
  simp only [letV]
  by_cases h1 : src.length > 20000
  · have e1 : decide ((Int.ofNat src.length : Int) > 20000) = true := by simp; omega
    rw [e1]
    simp only [Bool.not_true, condM_f, Option.bind_some, Bool.true_or, if_true]
    rw [awake_true K hK]; rfl
  · have e1 : decide ((Int.ofNat src.length : Int) > 20000) = false := by simp; omega
    rw [e1]
    simp only [Bool.not_false, condM_t]
    rw [great_eq K hK l, Option.bind_some]
    by_cases h2 : (((decide (40 < l.length) || l.any fun x => decide (20 < x.fIn.length)) || decide ((Int.ofNat s.length : Int) > 20000)) = true)
    · rw [Bool.false_or, if_pos h2, awake_true K hK]; rfl
    · rw [Bool.false_or, if_neg h2]
      simp only [Bool.or_eq_true, decide_eq_true_eq, List.any_eq_true, not_or, not_exists, not_and, Int.ofNat_eq_natCast] at h2
      obtain ⟨⟨h3, h4⟩, h5⟩ := h2
      have hsr : ∀ x ∈ l, ScR x := fun x hx => ⟨(hr x hx).1, (hr x hx).2, by have := h4 x hx; omega⟩
      rw [print_lib K src l (by omega) (by omega) hsr (by omega), Option.bind_some]
      -- what is behind the first half
      have second : ∀ (g : Unit → Option (Bool ⊕ Bool)), fnS (g ()) = some true → fnS (bindS (if (!(printF src l).2.isSome) = true then ((fnS (F12 K (printF src l).1)).bind (fun r10 => ((condM (!((!(!r10.2.2.isSome)) || (!(r10.1 == src)))) (fnS (F15 K r10.2.1 l)) default).bind (fun r11 => (if (((!(!r10.2.2.isSome)) || (!(r10.1 == src))) || (!r11)) = true then (some (.inl (false))) else (some (.inr ()))))))) else (if (!((printF src l).1 == ([] : Bytes))) = true then (some (.inl (false))) else (some (.inr ())))) g) = some true := by
        intro g hg
        rcases print_parse src l with ⟨p1, p2, p3, p4⟩ | ⟨c, p1, p2, _⟩
        · rw [p1, if_pos (c := (!Option.isSome (none : Err)) = true) rfl, parse_lib K _ (by omega) (by omega), Option.bind_some, p2]
          dsimp +instances only
          rw [beq_self_eq_true]
          simp only [Option.isSome_none, Bool.not_false, Bool.not_true, Bool.or_self, Bool.or_false, Bool.false_or, condM_t]
          rw [sameScans K l l (by omega) (by omega) (fun x hx => okS_len K hK (p4 x hx)), Option.bind_some, decide_eq_true rfl]
          exact hg
        · rw [p1, p2, if_neg (by simp), if_neg (by simp)]
          exact hg
      refine second _ ?_
      rw [parse_lib K s (by omega) (by omega), Option.bind_some]
      have hsc := parseF_sc s
      have hsl := parseF_src s
      have hnil : (parseF s).2.2 ≠ none → (parseF s).1 = [] ∧ (parseF s).2.1 = [] := by
        intro hne
        unfold parseF at hne ⊢
        split
        · exact ⟨rfl, rfl⟩
        · rename_i hh
          rw [if_neg hh] at hne
          cases hp : sp.parseL (sp.linesL s) 1 [] [] with
          | inl r => rw [hp] at hne; exact absurd rfl hne
          | inr p => exact ⟨rfl, rfl⟩
      generalize parseF s = q at *
      obtain ⟨a, b, er⟩ := q
      dsimp +instances only at hsc hsl hnil ⊢
      cases er with
      | some x =>
        obtain ⟨ha, hb⟩ := hnil (by simp)
        subst ha; subst hb
        rw [if_pos (by simp)]
        exact and_awake K hK _ rfl
      | none =>
        rw [if_neg (by simp), print_lib K a b (by omega) (by omega) (fun x hx => okS_r (hsc.2 x hx)) (by omega), Option.bind_some]
        rcases print_parse a b with ⟨p1, p2, p3, p4⟩ | ⟨c, p1, p2, p3⟩
        · rw [parse_lib K _ (by omega) (by omega), Option.bind_some, p2, p1]
          dsimp +instances only
          rw [beq_self_eq_true]
          simp only [Option.isSome_none, Bool.not_false, Bool.not_true, Bool.and_self, condM_t]
          rw [sameScans K b b (by omega) (by omega) (fun x hx => okS_len K hK (p4 x hx)), Option.bind_some, decide_eq_true rfl]
          simp only [Bool.false_or, Bool.and_true, Bool.and_self, Bool.false_and, condM_f, Option.bind_some, Bool.true_or]
          exact and_awake K hK _ rfl
        · rw [p1, p2, parse_lib K _ (by simp) (by omega), Option.bind_some, parse_nil]
          dsimp +instances only
          have hc := p3 hsc.2
          subst hc
          simp only [Option.isSome_some, Option.isSome_none, Bool.not_false, Bool.not_true, Bool.and_false, condM_f, Option.bind_some, Bool.true_or, Bool.and_self, condM_t]
          have e18 : fnS (F18 K (some (24, 0))) = some 24 := rfl
          rw [e18, Option.bind_some]
          exact and_awake K hK _ rfl

end Go.Proofs.YtmllhpnlceaneaaDoor
