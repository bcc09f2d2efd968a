/- Tokens of trees, and their text: plain. Numbers as both write them. Tokens of types and expressions: plain. What print writes of a type. Tokens of statements and declarations: plain. What print writes of an expression. What the document writes of types and expressions. The text of what was gathered. No conditions. -/
import Derived.Test.YtidjangjfekfjaaGreatDoorTyA
import Derived.Lib.Join
import Derived.Lib.ItoaLen
import Derived.KernelRfl
import Derived.Test.YtidjangjfekfjaaGreatDoorHb
set_option linter.unusedVariables false
set_option linter.unusedSimpArgs false
set_option linter.unusedSectionVars false
namespace Go.Proofs.YtidjangjfekfjaaGreatDoor.pr
open Go Go.Dl
abbrev Bs := List UInt8
abbrev Tk := List Bs
def B (l : Tk) : Bs := l.flatMap (· ++ [32])
theorem B_cons (x : Bs) (l : Tk) : B (x :: l) = x ++ 32 :: B l := by simp [B]
theorem B_app (a b : Tk) : B (a ++ b) = B a ++ B b := by simp [B]
theorem B_join : ∀ l : Tk, l ≠ [] → Lib.join l [32] ++ [32] = B l
  | [], h => absurd rfl h
  | [x], _ => by simp [Lib.join, B, List.intercalate]
  | x :: y :: r, _ => by
    have ih := B_join (y :: r) (by simp)
    rw [B_cons, ← ih]
    simp [Lib.join, List.intercalate, List.intersperse]
def Txt (x : Bs) (t : Tk) : Prop := x ++ [32] = B t
theorem Txt.app {x : Bs} {t : Tk} (h : Txt x t) (y : Bs) : x ++ 32 :: y = B t ++ y := by
  have : x ++ 32 :: y = (x ++ [32]) ++ y := by simp
  rw [this, h]
theorem Txt.join {x : Bs} {t : Tk} (h : Txt x t) : x = Lib.join t [32] := by
  have hne : t ≠ [] := by
    rintro rfl
    have := congrArg List.length h
    simp [B] at this
  have := B_join t hne
  rw [← show x ++ [32] = B t from h] at this
  exact (List.append_cancel_right this).symm
mutual
def sz : S25 → Nat
  | ⟨_, _, nm, wh, a⟩ => 1 + nm.length + wh.length + szl a
def szl : List S25 → Nat
  | [] => 0
  | x :: r => sz x + szl r
end
end Go.Proofs.YtidjangjfekfjaaGreatDoor.pr

set_option linter.unusedVariables false
set_option linter.unusedSimpArgs false
set_option linter.unusedSectionVars false
namespace Go.Proofs.YtidjangjfekfjaaGreatDoor
open Go Go.Proofs Go.Dl
set_option maxRecDepth 100000
def numT (n : Int) : List Bytes := if n < 0 then [[45], Lib.decDigits n.natAbs] else [Lib.decDigits n.toNat]
def I64 (n : Int) : Prop := -9223372036854775808 ≤ n ∧ n ≤ 9223372036854775807
theorem put_eq (K : Nat) (w l : List Bytes) (h : w.length + l.length ≤ 1000000000) : fnS (F43 K (⟨w⟩ : S60) l) = some ⟨w ++ l⟩ := by
  unfold F43
  rw [chk_t (vs := []) (room_le (by dsimp only; omega)), chk_nil]; rfl
theorem numT_len (n : Int) : (numT n).length ≤ 2 := by unfold numT; split <;> simp
theorem pnumber_eq (K : Nat) (w : List Bytes) (n : Int) (h : I64 n) (hw : w.length + (numT n).length ≤ 1000000000) : fnS (F42 K (⟨w⟩ : S60) n) = some ⟨w ++ numT n⟩ := by
  unfold F42
  unfold numT at hw ⊢
  have e52 : fnS (F73 K n) = some (Lib.itoa n) := by unfold F73; rw [if_pos (show _ ∧ _ from h)]; rfl
  rw [e52, Option.bind_some]
  have hil := Lib.itoa_length_le n h.1 h.2
  by_cases hn : n < 0
  · have hi : Lib.itoa n = 45 :: Lib.decDigits n.natAbs := by unfold Lib.itoa; rw [if_pos hn]
    rw [if_pos hn] at hw
    simp only [List.length_cons, List.length_nil] at hw
    rw [if_pos (by rw [decide_eq_true_eq]; exact hn), if_pos hn, put_eq K w _ (by simp; omega), Option.bind_some, chk_t (vs := []) (by rw [hi]; simp [bndOk]; omega), chk_nil]
    simp only [letV]
    rw [bindS_r]
    dsimp only
    have ed : ((Lib.itoa n).drop (1 : Int).toNat).take (((Int.ofNat (Lib.itoa n).length) : Int).toNat - (1 : Int).toNat) = Lib.decDigits n.natAbs := by
      rw [hi]; simp
    rw [ed, put_eq K _ _ (by simp; omega), Option.bind_some, List.append_assoc]; rfl
  · have hi : Lib.itoa n = Lib.decDigits n.toNat := by unfold Lib.itoa; rw [if_neg hn]
    rw [if_neg hn] at hw
    simp only [List.length_cons, List.length_nil] at hw
    rw [if_neg (by rw [decide_eq_true_eq]; exact hn), if_neg hn, bindS_r]
    dsimp only
    rw [put_eq K _ _ (by simp; omega), Option.bind_some, hi]; rfl
end Go.Proofs.YtidjangjfekfjaaGreatDoor

set_option linter.unusedVariables false
set_option linter.unusedSimpArgs false
set_option linter.unusedSectionVars false
namespace Go.Proofs.YtidjangjfekfjaaGreatDoor.pr
open Go Go.Dl
def named (n : Int) (l : List Bs) : Bs := if n < 1 ∨ (l.length : Int) < n then [63] else l.getD (n - 1).toNat []
def timers : List Bs := [[84, 79, 78], [84, 79, 70], [84, 80], [67, 84, 85], [67, 84, 68], [82, 95, 84, 82, 73, 71], [70, 95, 84, 82, 73, 71]]
def tyT (t : S44) : Tk :=
  if t.fKind = 1 then [[73, 78, 84]]
  else if t.fKind = 2 then [[66, 79, 79, 76]]
  else if t.fKind = 3 then [[73, 78, 84], [40]] ++ numT t.fLo ++ [[46, 46]] ++ numT t.fHi ++ [[41]]
  else if t.fKind = 4 then [[65, 82, 82, 65, 89], [91]] ++ numT t.fHi ++ [[93], [79, 70], [73, 78, 84]]
  else if t.fKind = 5 then [[82, 69, 70, 95, 84, 79], t.fName]
  else if t.fKind = 6 then [t.fName]
  else if t.fKind = 7 then [named t.fLo timers]
  else [[63]]
def ops : List Bs := [[43], [45], [42], [47], [77, 79, 68], [61], [60, 62], [60], [60, 61], [62], [62, 61], [65, 78, 68], [79, 82], [88, 79, 82]]
def atT (ag : List (Int × Tk)) (i : Nat) : Tk := match ag[i]? with
  | none => [[63]]
  | some p => p.2
def opdT (ag : List (Int × Tk)) (i : Nat) : Tk := match ag[i]? with
  | none => [[63]]
  | some p => if p.1 = 7 ∨ p.1 = 8 ∨ p.1 = 9 then [[40]] ++ p.2 ++ [[41]] else p.2
def gat {X E : Type} (g : Nat → X → List E) : Nat → List X → List E
  | _, [] => []
  | n, x :: r => g n x ++ gat g (n + 1) r
def com (i : Nat) : Tk := if 0 < i then [[44]] else []
def listT (l : List (Int × Tk)) : Tk := gat (fun i p => com i ++ p.2) 0 l
def exprT (k n : Int) (nm wh : Bs) (ag : List (Int × Tk)) : Tk :=
  if k = 1 then numT n
  else if k = 2 then [[84, 82, 85, 69]]
  else if k = 3 then [[70, 65, 76, 83, 69]]
  else if k = 4 then [[78, 85, 76, 76]]
  else if k = 5 then [nm]
  else if k = 6 then [nm, [91]] ++ atT ag 0 ++ [[93]]
  else if k = 7 then [[45]] ++ opdT ag 0
  else if k = 8 then [[78, 79, 84]] ++ opdT ag 0
  else if k = 9 then opdT ag 0 ++ [named n ops] ++ opdT ag 1
  else if k = 10 then [[82, 69, 70], [40], nm, [41]]
  else if k = 11 then [[68, 79, 78, 69], [40], nm, [41]]
  else if k = 12 then [[67, 79, 85, 78, 84], [40], nm, [41]]
  else if k = 14 then [[65, 83], nm, [40]] ++ atT ag 0 ++ [[41]]
  else if k = 13 then [named (n + 1) [nm, [84, 72, 73, 83], [83, 85, 80, 69, 82]], [46], wh, [40]] ++ listT ag ++ [[41]]
  else [[63]]
mutual
def tkE : S25 → Tk
  | ⟨k, n, nm, wh, ag⟩ => exprT k n nm wh (tkL ag)
def tkL : List S25 → List (Int × Tk)
  | [] => []
  | x :: r => (x.fKind, tkE x) :: tkL r
end
theorem tkL_map : ∀ l : List S25, tkL l = l.map fun x => (x.fKind, tkE x)
  | [] => by rw [tkL]; rfl
  | x :: r => by rw [tkL, tkL_map r]; rfl
theorem tkE_eq (e : S25) : tkE e = exprT e.fKind e.fN e.fName e.fWhat (e.fArgs.map fun x => (x.fKind, tkE x)) := by
  obtain ⟨k, n, nm, wh, ag⟩ := e
  rw [tkE, tkL_map]
theorem szl_mem : ∀ (l : List S25) (x : S25), x ∈ l → sz x ≤ szl l
  | [], x, h => by cases h
  | y :: r, x, h => by
    rw [szl]
    rcases List.mem_cons.1 h with rfl | h
    · omega
    · have := szl_mem r x h; omega
theorem sz_eq (e : S25) : sz e = 1 + e.fName.length + e.fWhat.length + szl e.fArgs := by
  obtain ⟨k, n, nm, wh, ag⟩ := e
  rw [sz]
mutual
def okE : S25 → Prop
  | ⟨_, n, _, _, ag⟩ => I64 n ∧ okL ag
def okL : List S25 → Prop
  | [] => True
  | x :: r => okE x ∧ okL r
end
theorem okL_mem : ∀ (l : List S25), okL l → ∀ x ∈ l, okE x
  | [], _, x, h => by cases h
  | y :: r, hl, x, h => by
    rw [okL] at hl
    rcases List.mem_cons.1 h with rfl | h
    · exact hl.1
    · exact okL_mem r hl.2 x h
theorem okE_eq (e : S25) : okE e ↔ I64 e.fN ∧ okL e.fArgs := by
  obtain ⟨k, n, nm, wh, ag⟩ := e
  rw [okE]
end Go.Proofs.YtidjangjfekfjaaGreatDoor.pr

set_option linter.unusedVariables false
set_option linter.unusedSimpArgs false
set_option linter.unusedSectionVars false
namespace Go.Proofs.YtidjangjfekfjaaGreatDoor
open Go Go.Proofs Go.Dl
set_option maxRecDepth 100000
theorem named_eq (K : Nat) (n : Int) (l : List Bytes) (hl : l.length ≤ 1000) : fnS (F45 K n l) = some (pr.named n l) := by
  unfold F45 pr.named
  simp only [letV]
  by_cases h : n < 1 ∨ (l.length : Int) < n
  · rw [if_pos (by simp; omega), if_pos h]; rfl
  · rw [if_neg (by simp; omega), if_neg h]
    have ew : IntKind.i64.wrap (n - 1) = n - 1 := wrap64 (by omega) (by omega)
    have hi : inb (n - 1) l.length = true := by simp [inb]; omega
    rw [ew, hi, chk_t (vs := []) rfl, chk_nil]
    rfl
end Go.Proofs.YtidjangjfekfjaaGreatDoor

set_option linter.unusedVariables false
set_option linter.unusedSimpArgs false
set_option linter.unusedSectionVars false
namespace Go.Proofs.YtidjangjfekfjaaGreatDoor.pr
open Go Go.Dl
theorem getD_el {X : Type} {l : List X} {d : X} {i : Nat} (h : i < l.length) : l.getD i d = l[i] := by simp [List.getD, List.getElem?_eq_getElem h]
theorem getD_mem {X : Type} [Inhabited X] : ∀ {l : List X} {i : Nat}, i < l.length → l.getD i default ∈ l := by
  intro l i h
  rw [getD_el h]
  exact List.getElem_mem h
theorem drop_getDT {α : Type} (l : List α) (d : α) (n : Nat) (h : n < l.length) : l.drop n = l.getD n d :: l.drop (n + 1) := by
  rw [List.drop_eq_getElem_cons h]
  simp [List.getD, List.getElem?_eq_getElem h]
theorem gat_drop {X E : Type} [Inhabited X] (g : Nat → X → List E) (l : List X) (i n : Nat) (h : i < l.length) : gat g n (l.drop i) = g n (l.getD i default) ++ gat g (n + 1) (l.drop (i + 1)) := by
  rw [drop_getDT l default i h]; rfl
theorem iter_st {X E A S : Type} [Inhabited X] {f : S → Option (A ⊕ S)} (st : Nat → List E → S) (out : List E → A) (l : List X) (g : Nat → X → List E) (T lo : Nat)
    (h : ∀ (i : Nat), lo ≤ i → i < l.length → ∀ v : List E, v.length + (g i (l.getD i default)).length ≤ T → f (st i v) = some (.inr (st (i + 1) (v ++ g i (l.getD i default)))))
    (hs : ∀ v, f (st l.length v) = some (.inl (out v))) :
    ∀ (d i K : Nat) (v : List E), lo ≤ i → i + d = l.length → d < K → v.length + (gat g i (l.drop i)).length ≤ T → iter K f (st i v) = some (out (v ++ gat g i (l.drop i)))
  | 0, i, K, v, hlo, hi, hk, hT => by
    obtain ⟨K, rfl⟩ : ∃ k, K = k + 1 := ⟨K - 1, by omega⟩
    have hi' : i = l.length := by omega
    subst hi'
    unfold iter
    rw [hs v, List.drop_length]
    show some (out v) = some (out (v ++ []))
    rw [List.append_nil]
  | d + 1, i, K, v, hlo, hi, hk, hT => by
    obtain ⟨K, rfl⟩ : ∃ k, K = k + 1 := ⟨K - 1, by omega⟩
    have hil : i < l.length := by omega
    rw [gat_drop g l i i hil, List.length_append] at hT
    unfold iter
    rw [h i hlo hil v (by omega)]
    dsimp only
    rw [iter_st st out l g T lo h hs d (i + 1) K _ (by omega) (by omega) (by omega) (by rw [List.length_append]; omega), gat_drop g l i i hil, List.append_assoc]
theorem iter_gat {X E A : Type} [Inhabited X] {f : List E × Int → Option (A ⊕ (List E × Int))} (out : List E → A) (l : List X) (g : Nat → X → List E) (T : Nat) {K : Nat} {w : List E} (hk : l.length < K) (hT : w.length + (gat g 0 l).length ≤ T)
    (h : ∀ (i : Nat), i < l.length → ∀ v : List E, v.length + (g i (l.getD i default)).length ≤ T → f (v, (i : Int)) = some (.inr (v ++ g i (l.getD i default), ((i + 1 : Nat) : Int))))
    (hs : ∀ v, f (v, (l.length : Int)) = some (.inl (out v))) : iter K f (w, 0) = some (out (w ++ gat g 0 l)) := by
  have := iter_st (fun i v => (v, (i : Int))) out l g T 0 (fun i _ => h i) hs l.length 0 K w (by omega) (by omega) hk (by simpa using hT)
  simpa using this
def blkT (bl : List (List Tk)) (i : Nat) : Tk := (bl.getD i []).flatten
def retT (ex : List (Int × Tk)) : Tk := match ex with
  | [] => []
  | p :: _ => p.2
def agE (l : List S25) : List (Int × Tk) := l.map fun x => (x.fKind, tkE x)
def varT (v : S106) : Tk := [[86, 65, 82], v.fName, [58]] ++ tyT v.fType ++ (if v.fInit = 0 then [] else [[58, 61]] ++ numT v.fInit) ++ (if v.fDir = 1 then [[65, 84], [73, 78]] ++ numT v.fSlot else if v.fDir = 2 then [[65, 84], [79, 85, 84]] ++ numT v.fSlot else []) ++ [[59]]
def J (t : Tk) : Bs := Lib.join t [32]
def szLab (l : List (List Int)) : Nat := (l.map fun x => 1 + x.length).sum
mutual
def szS : S110 → Nat
  | ⟨_, _, nm, ex, lb, bl⟩ => 1 + nm.length + szl ex + szLab lb + szSll bl
def szSl : List S110 → Nat
  | [] => 0
  | x :: r => szS x + szSl r
def szSll : List (List S110) → Nat
  | [] => 0
  | x :: r => 1 + szSl x + szSll r
end
theorem szl_len : ∀ l : List S25, l.length ≤ szl l
  | [] => by simp
  | x :: r => by
    have := szl_len r
    have h1 := sz_eq x
    rw [szl, List.length_cons]; omega
def fitM (m : S83) : Prop := m.fParams.length ≤ 2000000 ∧ m.fVars.length ≤ 2000000 ∧ szSl m.fBody ≤ 2000000
end Go.Proofs.YtidjangjfekfjaaGreatDoor.pr

set_option linter.unusedVariables false
set_option linter.unusedSimpArgs false
set_option linter.unusedSectionVars false
namespace Go.Proofs.YtidjangjfekfjaaGreatDoor
open Go Go.Proofs Go.Dl
set_option maxRecDepth 100000
theorem at_none {l : List (Int × List Bytes)} {i : Nat} (h : l.length ≤ i) : pr.atT l i = [[63]] := by
  unfold pr.atT; rw [List.getElem?_eq_none h]
theorem at_some {l : List S25} {i : Nat} (h : i < l.length) : pr.atT (pr.agE l) i = pr.tkE (l.getD i default) := by
  unfold pr.atT pr.agE
  rw [List.getElem?_map, List.getElem?_eq_getElem h, pr.getD_el h]; rfl
theorem opd_none {l : List (Int × List Bytes)} {i : Nat} (h : l.length ≤ i) : pr.opdT l i = [[63]] := by
  unfold pr.opdT; rw [List.getElem?_eq_none h]
theorem opd_some {l : List S25} {i : Nat} (h : i < l.length) : pr.opdT (pr.agE l) i = if (l.getD i default).fKind = 7 ∨ (l.getD i default).fKind = 8 ∨ (l.getD i default).fKind = 9 then [[40]] ++ pr.tkE (l.getD i default) ++ [[41]] else pr.tkE (l.getD i default) := by
  unfold pr.opdT pr.agE
  rw [List.getElem?_map, List.getElem?_eq_getElem h, pr.getD_el h]; rfl
theorem agE_len (l : List S25) : (pr.agE l).length = l.length := by simp [pr.agE]
def HE (K : Nat) (l : List S25) : Prop := ∀ x ∈ l, ∀ w : List Bytes, w.length + (pr.tkE x).length ≤ 1000000000 → fnS (F18 K (⟨w⟩ : S60) x) = some ⟨w ++ pr.tkE x⟩
theorem at_eq (K : Nat) (w : List Bytes) (l : List S25) (H : HE K l) (i : Nat) (hw : w.length + (pr.atT (pr.agE l) i).length ≤ 1000000000) : fnS (F44 (K + 1) (⟨w⟩ : S60) l (i : Int)) = some ⟨w ++ pr.atT (pr.agE l) i⟩ := by
  rw [F44]
  simp only [letV]
  by_cases h : l.length ≤ i
  · rw [at_none (by rw [agE_len]; exact h)] at hw ⊢
    rw [if_pos (by simp; omega), put_eq _ _ _ hw]; rfl
  · rw [at_some (by omega)] at hw ⊢
    rw [if_neg (by simp; omega), chk_t (vs := []) (inb_nat (by omega)), chk_nil, Int.toNat_natCast, H _ (pr.getD_mem (by omega)) _ hw]; rfl
theorem opd_eq (K : Nat) (w : List Bytes) (l : List S25) (H : HE K l) (i : Nat) (hw : w.length + (pr.opdT (pr.agE l) i).length ≤ 1000000000) : fnS (F46 (K + 2) (⟨w⟩ : S60) l (i : Int)) = some ⟨w ++ pr.opdT (pr.agE l) i⟩ := by
  rw [F46]
  simp only [letV]
  by_cases h : l.length ≤ i
  · have e : pr.opdT (pr.agE l) i = pr.atT (pr.agE l) i := by rw [opd_none (by rw [agE_len]; exact h), at_none (by rw [agE_len]; exact h)]
    rw [e] at hw ⊢
    rw [if_neg (by simp; omega), bindS_r, at_eq K w l H i hw]; rfl
  · have e : pr.atT (pr.agE l) i = pr.tkE (l.getD i default) := at_some (by omega)
    rw [opd_some (by omega)] at hw ⊢
    rw [if_pos (by simp; omega), chk_t (vs := []) (inb_nat (by omega)), chk_nil, bindS_r, Int.toNat_natCast]
    by_cases hk : (l.getD i default).fKind = 7 ∨ (l.getD i default).fKind = 8 ∨ (l.getD i default).fKind = 9
    · rw [if_pos hk] at hw ⊢
      simp only [List.length_append, List.length_cons, List.length_nil] at hw
      have hp : ∀ {A : Type} (a b c : Option (A ⊕ Bool)), (if ((l.getD i default).fKind == 7) = true then (some (.inr ((l.getD i default).fKind == 7)) : Option (A ⊕ Bool)) else if ((l.getD i default).fKind == 8) = true then some (.inr ((l.getD i default).fKind == 8)) else some (.inr ((l.getD i default).fKind == 9))) = some (.inr true) := by
        intro A _ _ _
        rcases hk with hk | hk | hk <;> rw [hk] <;> rfl
      rw [hp none none none, bindS_r, if_pos rfl, put_eq _ _ _ (by simp only [List.length_cons, List.length_nil]; omega)]
      simp only [Option.bind_some]
      rw [at_eq K _ l H i (by rw [e]; simp only [List.length_append, List.length_cons, List.length_nil]; omega), e]
      simp only [Option.bind_some]
      rw [put_eq _ _ _ (by simp only [List.length_append, List.length_cons, List.length_nil]; omega)]
      simp only [Option.bind_some, blockS_r, bindS_r, fnS_r, List.append_assoc]
    · rw [if_neg hk] at hw ⊢
      have hp : ∀ {A : Type}, (if ((l.getD i default).fKind == 7) = true then (some (.inr ((l.getD i default).fKind == 7)) : Option (A ⊕ Bool)) else if ((l.getD i default).fKind == 8) = true then some (.inr ((l.getD i default).fKind == 8)) else some (.inr ((l.getD i default).fKind == 9))) = some (.inr false) := by
        intro A
        simp only [not_or] at hk
        generalize (l.getD i default).fKind = z at hk
        simp [hk.1, hk.2.1, hk.2.2]
      rw [hp, bindS_r, if_neg (by simp), at_eq K _ l H i (by rw [e]; exact hw), e]; rfl
theorem list_eq (K : Nat) (w : List Bytes) (l : List S25) (H : HE K l) (hK : l.length < K) (h62 : l.length ≤ 1000000000) (hw : w.length + (pr.listT (pr.agE l)).length ≤ 1000000000) : fnS (F47 (K + 1) (⟨w⟩ : S60) l) = some ⟨w ++ pr.listT (pr.agE l)⟩ := by
  rw [F47]
  have eg : pr.listT (pr.agE l) = pr.gat (fun i x => pr.com i ++ pr.tkE x) 0 l := by
    unfold pr.listT pr.agE
    have : ∀ (l : List S25) (n : Nat), pr.gat (fun i (p : Int × List Bytes) => pr.com i ++ p.2) n (l.map fun x => (x.fKind, pr.tkE x)) = pr.gat (fun i x => pr.com i ++ pr.tkE x) n l := by
      intro l
      induction l with
      | nil => intro n; rfl
      | cons x r ih => intro n; simp only [List.map_cons, pr.gat]; rw [ih]
    exact this l 0
  rw [eg] at hw ⊢
  rw [pr.iter_gat (Sum.inl) l (fun i x => pr.com i ++ pr.tkE x) 1000000000 hK hw]
  · rfl
  · intro i hi v hv
    simp only [letV]
    rw [if_pos (by simp; omega), chk_t (vs := []) (inb_nat hi), chk_nil, Int.toNat_natCast, wrap64 (by omega) (by omega)]
    have hm := pr.getD_mem (l := l) hi
    by_cases h0 : 0 < i
    · have ec : pr.com i = [[44]] := by unfold pr.com; rw [if_pos h0]
      rw [ec] at hv ⊢
      simp only [List.length_append, List.length_cons, List.length_nil] at hv
      rw [if_pos (by simp; omega), put_eq _ _ _ (by simp only [List.length_cons, List.length_nil]; omega)]
      simp only [Option.bind_some, bindS_r]
      rw [H _ hm _ (by simp only [List.length_append, List.length_cons, List.length_nil]; omega)]
      simp only [Option.bind_some, blockS_r, bindS_r, List.append_assoc]
      rfl
    · have ec : pr.com i = [] := by unfold pr.com; rw [if_neg h0]
      rw [ec] at hv ⊢
      simp only [List.nil_append] at hv
      rw [if_neg (by simp; omega), bindS_r, H _ hm _ hv]
      simp only [Option.bind_some, blockS_r, bindS_r, List.append_assoc]
      rfl
  · intro v
    simp only [letV]
    rw [if_neg (by simp)]
theorem named_wrap {n : Int} (h : I64 n) (l : List Bytes) (hl : l.length ≤ 1000) : pr.named (IntKind.i64.wrap (n + 1)) l = pr.named (n + 1) l := by
  obtain ⟨h1, h2⟩ := h
  by_cases hn : n = 9223372036854775807
  · subst hn
    have e : IntKind.i64.wrap (9223372036854775807 + 1) = -9223372036854775808 := by kernel_rfl
    rw [e]
    unfold pr.named
    rw [if_pos (by omega), if_pos (by omega)]
  · rw [wrap64 (by omega) (by omega)]
theorem expr_eq : ∀ (n K : Nat) (e : S25) (w : List Bytes), pr.sz e ≤ n → 4 * n + 40 ≤ K → n ≤ 100000000 → pr.okE e → w.length + (pr.tkE e).length ≤ 1000000000 → fnS (F18 K (⟨w⟩ : S60) e) = some ⟨w ++ pr.tkE e⟩
  | 0, K, e, w, hn, hK, hb, ho, hw => by have := pr.sz_eq e; omega
  | n + 1, K, e, w, hn, hK, hb, ho, hw => by
    have hs := pr.sz_eq e
    rw [pr.okE_eq] at ho
    rw [pr.tkE_eq] at hw ⊢
    obtain ⟨k, nn, nm, wh, ag⟩ := e
    dsimp only at hs ho hw ⊢
    obtain ⟨ho1, ho4⟩ := ho
    have hl := pr.szl_len ag
    obtain ⟨K, rfl⟩ : ∃ j, K = j + 4 := ⟨K - 4, by omega⟩
    have H : ∀ K', 4 * n + 40 ≤ K' → HE K' ag := fun K' hK' x hx w hw => expr_eq n K' x w (by have := pr.szl_mem ag x hx; omega) hK' (by omega) (pr.okL_mem ag ho4 x hx) hw
    have hA0 : ∀ w : List Bytes, w.length + (pr.atT (pr.agE ag) 0).length ≤ 1000000000 → fnS (F44 (K + 3) (⟨w⟩ : S60) ag 0) = some ⟨w ++ pr.atT (pr.agE ag) 0⟩ := fun w hw => at_eq (K + 2) w ag (H _ (by omega)) 0 hw
    have hO0 : ∀ w : List Bytes, w.length + (pr.opdT (pr.agE ag) 0).length ≤ 1000000000 → fnS (F46 (K + 3) (⟨w⟩ : S60) ag 0) = some ⟨w ++ pr.opdT (pr.agE ag) 0⟩ := fun w hw => opd_eq (K + 1) w ag (H _ (by omega)) 0 hw
    have hO1 : ∀ w : List Bytes, w.length + (pr.opdT (pr.agE ag) 1).length ≤ 1000000000 → fnS (F46 (K + 3) (⟨w⟩ : S60) ag 1) = some ⟨w ++ pr.opdT (pr.agE ag) 1⟩ := fun w hw => opd_eq (K + 1) w ag (H _ (by omega)) 1 hw
    have hL : ∀ w : List Bytes, w.length + (pr.listT (pr.agE ag)).length ≤ 1000000000 → fnS (F47 (K + 3) (⟨w⟩ : S60) ag) = some ⟨w ++ pr.listT (pr.agE ag)⟩ := fun w hw => list_eq (K + 2) w ag (H _ (by omega)) (by omega) (by omega) hw
    have hag : (ag.map fun x => (x.fKind, pr.tkE x)) = pr.agE ag := rfl
    rw [hag] at hw ⊢
    rw [F18]
    dsimp only
    have hnw := named_wrap ho1 [nm, [84, 72, 73, 83], [83, 85, 80, 69, 82]] (by simp)
    clear H hag hs hl ho4
    by_cases h1 : k = 1
    · subst h1
      have hl := numT_len nn
      simp only [pr.exprT, ↓reduceIte] at hw
      simp (disch := (first | assumption | ((try simp only [List.length_append, List.length_cons, List.length_nil]); omega))) only [pr.exprT, ↓reduceIte, Int.reduceBEq, Int.reduceEq, pnumber_eq, put_eq, Option.bind_some, bindS_r, bindS_l, blockS_r, blockS_ll, blockS_lr, fnS_r, fnS_l, letV, condM_t, chk_nil, named_eq, List.append_assoc, List.cons_append, List.nil_append, List.length_append, List.length_cons, List.length_nil]
    by_cases h2 : k = 2
    · subst h2
      simp only [pr.exprT, ↓reduceIte, Int.reduceEq, List.length_append, List.length_cons, List.length_nil] at hw
      simp (disch := (first | assumption | ((try simp only [List.length_append, List.length_cons, List.length_nil]); omega))) only [pr.exprT, ↓reduceIte, Int.reduceBEq, Int.reduceEq, Int.reduceSub, Int.reduceAdd, Bool.false_eq_true, hnw, pr.ops, hA0, hO0, hO1, hL, put_eq, Option.bind_some, bindS_r, bindS_l, blockS_r, blockS_ll, blockS_lr, fnS_r, fnS_l, letV, condM_t, chk_nil, named_eq, List.append_assoc, List.cons_append, List.nil_append, List.length_append, List.length_cons, List.length_nil]
    by_cases h3 : k = 3
    · subst h3
      simp only [pr.exprT, ↓reduceIte, Int.reduceEq, List.length_append, List.length_cons, List.length_nil] at hw
      simp (disch := (first | assumption | ((try simp only [List.length_append, List.length_cons, List.length_nil]); omega))) only [pr.exprT, ↓reduceIte, Int.reduceBEq, Int.reduceEq, Int.reduceSub, Int.reduceAdd, Bool.false_eq_true, hnw, pr.ops, hA0, hO0, hO1, hL, put_eq, Option.bind_some, bindS_r, bindS_l, blockS_r, blockS_ll, blockS_lr, fnS_r, fnS_l, letV, condM_t, chk_nil, named_eq, List.append_assoc, List.cons_append, List.nil_append, List.length_append, List.length_cons, List.length_nil]
    by_cases h4 : k = 4
    · subst h4
      simp only [pr.exprT, ↓reduceIte, Int.reduceEq, List.length_append, List.length_cons, List.length_nil] at hw
      simp (disch := (first | assumption | ((try simp only [List.length_append, List.length_cons, List.length_nil]); omega))) only [pr.exprT, ↓reduceIte, Int.reduceBEq, Int.reduceEq, Int.reduceSub, Int.reduceAdd, Bool.false_eq_true, hnw, pr.ops, hA0, hO0, hO1, hL, put_eq, Option.bind_some, bindS_r, bindS_l, blockS_r, blockS_ll, blockS_lr, fnS_r, fnS_l, letV, condM_t, chk_nil, named_eq, List.append_assoc, List.cons_append, List.nil_append, List.length_append, List.length_cons, List.length_nil]
    by_cases h5 : k = 5
    · subst h5
      simp only [pr.exprT, ↓reduceIte, Int.reduceEq, List.length_append, List.length_cons, List.length_nil] at hw
      simp (disch := (first | assumption | ((try simp only [List.length_append, List.length_cons, List.length_nil]); omega))) only [pr.exprT, ↓reduceIte, Int.reduceBEq, Int.reduceEq, Int.reduceSub, Int.reduceAdd, Bool.false_eq_true, hnw, pr.ops, hA0, hO0, hO1, hL, put_eq, Option.bind_some, bindS_r, bindS_l, blockS_r, blockS_ll, blockS_lr, fnS_r, fnS_l, letV, condM_t, chk_nil, named_eq, List.append_assoc, List.cons_append, List.nil_append, List.length_append, List.length_cons, List.length_nil]
    by_cases h6 : k = 6
    · subst h6
      simp only [pr.exprT, ↓reduceIte, Int.reduceEq, List.length_append, List.length_cons, List.length_nil] at hw
      simp (disch := (first | assumption | ((try simp only [List.length_append, List.length_cons, List.length_nil]); omega))) only [pr.exprT, ↓reduceIte, Int.reduceBEq, Int.reduceEq, Int.reduceSub, Int.reduceAdd, Bool.false_eq_true, hnw, pr.ops, hA0, hO0, hO1, hL, put_eq, Option.bind_some, bindS_r, bindS_l, blockS_r, blockS_ll, blockS_lr, fnS_r, fnS_l, letV, condM_t, chk_nil, named_eq, List.append_assoc, List.cons_append, List.nil_append, List.length_append, List.length_cons, List.length_nil]
    by_cases h7 : k = 7
    · subst h7
      simp only [pr.exprT, ↓reduceIte, Int.reduceEq, List.length_append, List.length_cons, List.length_nil] at hw
      simp (disch := (first | assumption | ((try simp only [List.length_append, List.length_cons, List.length_nil]); omega))) only [pr.exprT, ↓reduceIte, Int.reduceBEq, Int.reduceEq, Int.reduceSub, Int.reduceAdd, Bool.false_eq_true, hnw, pr.ops, hA0, hO0, hO1, hL, put_eq, Option.bind_some, bindS_r, bindS_l, blockS_r, blockS_ll, blockS_lr, fnS_r, fnS_l, letV, condM_t, chk_nil, named_eq, List.append_assoc, List.cons_append, List.nil_append, List.length_append, List.length_cons, List.length_nil]
      rfl
    by_cases h8 : k = 8
    · subst h8
      simp only [pr.exprT, ↓reduceIte, Int.reduceEq, List.length_append, List.length_cons, List.length_nil] at hw
      simp (disch := (first | assumption | ((try simp only [List.length_append, List.length_cons, List.length_nil]); omega))) only [pr.exprT, ↓reduceIte, Int.reduceBEq, Int.reduceEq, Int.reduceSub, Int.reduceAdd, Bool.false_eq_true, hnw, pr.ops, hA0, hO0, hO1, hL, put_eq, Option.bind_some, bindS_r, bindS_l, blockS_r, blockS_ll, blockS_lr, fnS_r, fnS_l, letV, condM_t, chk_nil, named_eq, List.append_assoc, List.cons_append, List.nil_append, List.length_append, List.length_cons, List.length_nil]
      rfl
    by_cases h9 : k = 9
    · subst h9
      simp only [pr.exprT, ↓reduceIte, Int.reduceEq, List.length_append, List.length_cons, List.length_nil] at hw
      simp (disch := (first | assumption | ((try simp only [List.length_append, List.length_cons, List.length_nil]); omega))) only [pr.exprT, ↓reduceIte, Int.reduceBEq, Int.reduceEq, Int.reduceSub, Int.reduceAdd, Bool.false_eq_true, hnw, pr.ops, hA0, hO0, hO1, hL, put_eq, Option.bind_some, bindS_r, bindS_l, blockS_r, blockS_ll, blockS_lr, fnS_r, fnS_l, letV, condM_t, chk_nil, named_eq, List.append_assoc, List.cons_append, List.nil_append, List.length_append, List.length_cons, List.length_nil]
    by_cases h10 : k = 10
    · subst h10
      simp only [pr.exprT, ↓reduceIte, Int.reduceEq, List.length_append, List.length_cons, List.length_nil] at hw
      simp (disch := (first | assumption | ((try simp only [List.length_append, List.length_cons, List.length_nil]); omega))) only [pr.exprT, ↓reduceIte, Int.reduceBEq, Int.reduceEq, Int.reduceSub, Int.reduceAdd, Bool.false_eq_true, hnw, pr.ops, hA0, hO0, hO1, hL, put_eq, Option.bind_some, bindS_r, bindS_l, blockS_r, blockS_ll, blockS_lr, fnS_r, fnS_l, letV, condM_t, chk_nil, named_eq, List.append_assoc, List.cons_append, List.nil_append, List.length_append, List.length_cons, List.length_nil]
      rfl
    by_cases h11 : k = 11
    · subst h11
      simp only [pr.exprT, ↓reduceIte, Int.reduceEq, List.length_append, List.length_cons, List.length_nil] at hw
      simp (disch := (first | assumption | ((try simp only [List.length_append, List.length_cons, List.length_nil]); omega))) only [pr.exprT, ↓reduceIte, Int.reduceBEq, Int.reduceEq, Int.reduceSub, Int.reduceAdd, Bool.false_eq_true, hnw, pr.ops, hA0, hO0, hO1, hL, put_eq, Option.bind_some, bindS_r, bindS_l, blockS_r, blockS_ll, blockS_lr, fnS_r, fnS_l, letV, condM_t, chk_nil, named_eq, List.append_assoc, List.cons_append, List.nil_append, List.length_append, List.length_cons, List.length_nil]
      rfl
    by_cases h12 : k = 12
    · subst h12
      simp only [pr.exprT, ↓reduceIte, Int.reduceEq, List.length_append, List.length_cons, List.length_nil] at hw
      simp (disch := (first | assumption | ((try simp only [List.length_append, List.length_cons, List.length_nil]); omega))) only [pr.exprT, ↓reduceIte, Int.reduceBEq, Int.reduceEq, Int.reduceSub, Int.reduceAdd, Bool.false_eq_true, hnw, pr.ops, hA0, hO0, hO1, hL, put_eq, Option.bind_some, bindS_r, bindS_l, blockS_r, blockS_ll, blockS_lr, fnS_r, fnS_l, letV, condM_t, chk_nil, named_eq, List.append_assoc, List.cons_append, List.nil_append, List.length_append, List.length_cons, List.length_nil]
      rfl
    by_cases h13 : k = 13
    · subst h13
      simp only [pr.exprT, ↓reduceIte, Int.reduceEq, List.length_append, List.length_cons, List.length_nil] at hw
      simp (disch := (first | assumption | ((try simp only [List.length_append, List.length_cons, List.length_nil]); omega))) only [pr.exprT, ↓reduceIte, Int.reduceBEq, Int.reduceEq, Int.reduceSub, Int.reduceAdd, Bool.false_eq_true, hnw, pr.ops, hA0, hO0, hO1, hL, put_eq, Option.bind_some, bindS_r, bindS_l, blockS_r, blockS_ll, blockS_lr, fnS_r, fnS_l, letV, condM_t, chk_nil, named_eq, List.append_assoc, List.cons_append, List.nil_append, List.length_append, List.length_cons, List.length_nil]
    by_cases h14 : k = 14
    · subst h14
      simp only [pr.exprT, ↓reduceIte, Int.reduceEq, List.length_append, List.length_cons, List.length_nil] at hw
      simp (disch := (first | assumption | ((try simp only [List.length_append, List.length_cons, List.length_nil]); omega))) only [pr.exprT, ↓reduceIte, Int.reduceBEq, Int.reduceEq, Int.reduceSub, Int.reduceAdd, Bool.false_eq_true, hnw, pr.ops, hA0, hO0, hO1, hL, put_eq, Option.bind_some, bindS_r, bindS_l, blockS_r, blockS_ll, blockS_lr, fnS_r, fnS_l, letV, condM_t, chk_nil, named_eq, List.append_assoc, List.cons_append, List.nil_append, List.length_append, List.length_cons, List.length_nil]
    simp only [pr.exprT, h1, h2, h3, h4, h5, h6, h7, h8, h9, h10, h11, h12, h13, h14, ↓reduceIte, List.length_cons, List.length_nil] at hw
    simp (disch := (first | assumption | ((try simp only [List.length_append, List.length_cons, List.length_nil]); omega))) only [pr.exprT, h1, h2, h3, h4, h5, h6, h7, h8, h9, h10, h11, h12, h13, h14, beq_iff_eq, ↓reduceIte, Bool.false_eq_true, put_eq, Option.bind_some, bindS_r, bindS_l, blockS_r, blockS_ll, blockS_lr, fnS_r, fnS_l, letV, condM_t, chk_nil, named_eq, List.append_assoc, List.cons_append, List.nil_append, List.length_append, List.length_cons, List.length_nil]
end Go.Proofs.YtidjangjfekfjaaGreatDoor

set_option linter.unusedVariables false
set_option linter.unusedSimpArgs false
set_option linter.unusedSectionVars false
namespace Go.Proofs.YtidjangjfekfjaaGreatDoor
open Go Go.Proofs Go.Dl
set_option maxRecDepth 100000
open pr (B J)
theorem J_txt {t : List Bytes} (h : t ≠ []) : J t ++ [32] = B t := pr.B_join t h
theorem J_len {t : List Bytes} (h : t ≠ []) : (J t).length + 1 = (B t).length := by
  rw [← J_txt h]; simp
theorem B_len (t : List Bytes) : t.length ≤ (B t).length := by
  induction t with
  | nil => simp
  | cons x r ih => rw [pr.B_cons]; simp; omega
theorem numT_ne (n : Int) : numT n ≠ [] := by unfold numT; split <;> simp
theorem opdT_ne {l : List (Int × List Bytes)} (h : ∀ p ∈ l, p.2 ≠ []) (i : Nat) : pr.opdT l i ≠ [] := by
  unfold pr.opdT
  cases e : l[i]? with
  | none => simp
  | some p =>
    have := h p (List.mem_of_getElem? e)
    dsimp only
    split <;> simp [this]
theorem ite_ne {X : Type} {c : Prop} [Decidable c] {a b : List X} (ha : a ≠ []) (hb : b ≠ []) : (if c then a else b) ≠ [] := by by_cases h : c <;> simp [h, ha, hb]
theorem exprT_ne (k n : Int) (nm wh : Bytes) (l : List (Int × List Bytes)) (h : ∀ p ∈ l, p.2 ≠ []) : pr.exprT k n nm wh l ≠ [] := by
  have h1 := numT_ne n
  have h2 := opdT_ne h 0
  unfold pr.exprT
  repeat' refine ite_ne ?_ ?_
  all_goals first | exact h1 | (intro hc; simp at hc)
theorem tkE_ne : ∀ (n : Nat) (e : S25), pr.sz e ≤ n → pr.tkE e ≠ []
  | 0, e, h => by have := pr.sz_eq e; omega
  | n + 1, e, h => by
    have := pr.sz_eq e
    rw [pr.tkE_eq]
    refine exprT_ne _ _ _ _ _ ?_
    intro p hp
    obtain ⟨x, hx, rfl⟩ := List.mem_map.1 hp
    exact tkE_ne n x (by have := pr.szl_mem _ x hx; omega)
theorem tk_ne (e : S25) : pr.tkE e ≠ [] := tkE_ne _ e (Nat.le_refl _)
end Go.Proofs.YtidjangjfekfjaaGreatDoor

set_option linter.unusedVariables false
set_option linter.unusedSimpArgs false
set_option linter.unusedSectionVars false
namespace Go.Proofs.YtidjangjfekfjaaGreatDoor
open Go Go.Proofs Go.Dl
set_option maxRecDepth 100000
open pr (B J)
theorem text_eq (K : Nat) (t : List Bytes) (h : t ≠ []) (hw : (B t).length ≤ 1000000000) : fnS (F19 K (⟨t⟩ : S60)) = some (J t, ⟨t⟩) := by
  have h1 := J_len h
  have h2 := B_len t
  unfold F19 F48
  rw [if_pos (show (Lib.join t [32]).length ≤ 140737488355328 ∧ t.length ≤ 140737488355328 from ⟨by change (J t).length ≤ _; omega, by omega⟩)]
  rfl
end Go.Proofs.YtidjangjfekfjaaGreatDoor
