/- Tokens of trees, and their text: plain. Numbers as both write them. Tokens of types and expressions: plain. Tokens of statements and declarations: plain. What print writes of a type. What print writes of an expression. What print writes of variables, statements and declarations. What print writes of statements. No conditions. -/
import Derived.Test.YtaoklnkjcobokaaDoorPTy
import Derived.Lib.Join
import Derived.Lib.ItoaLen
import Derived.KernelRfl
import Derived.Test.YtaoklnkjcobokaaDoorPGd
set_option linter.unusedVariables false
set_option linter.unusedSimpArgs false
set_option linter.unusedSectionVars false
namespace Go.Proofs.YtaoklnkjcobokaaDoor.pr
open Go Go.Dl

abbrev Bs := List UInt8
abbrev Tk := List Bs

/-- Tokens with a blank behind each. -/
def B (l : Tk) : Bs := l.flatMap (· ++ [32])
theorem B_nil : B [] = [] := rfl
theorem B_cons (x : Bs) (l : Tk) : B (x :: l) = x ++ 32 :: B l := by simp [B]
theorem B_app (a b : Tk) : B (a ++ b) = B a ++ B b := by simp [B]
theorem B_join : ∀ l : Tk, l ≠ [] → Lib.join l [32] ++ [32] = B l
  | [], h => absurd rfl h
  | [x], _ => by simp [Lib.join, B, List.intercalate]
  | x :: y :: r, _ => by
    have ih := B_join (y :: r) (by simp)
    rw [B_cons, ← ih]
    simp [Lib.join, List.intercalate, List.intersperse]
/-- The text X of tokens t: with a blank behind it is theirs. -/
def Txt (x : Bs) (t : Tk) : Prop := x ++ [32] = B t
theorem Txt.app {x : Bs} {t : Tk} (h : Txt x t) (y : Bs) : x ++ 32 :: y = B t ++ y := by
  have : x ++ 32 :: y = (x ++ [32]) ++ y := by simp
  rw [this, h]
theorem Txt.join {x : Bs} {t : Tk} (h : Txt x t) : x = Lib.join t [32] := by
  have hne : t ≠ [] := by
    rintro rfl
    have := congrArg List.length h
    simp [B] at this
  have := B_join t hne
  rw [← show x ++ [32] = B t from h] at this
  exact (List.append_cancel_right this).symm

/-! Sizes. -/
mutual
def sz : S27 → Nat
  | ⟨_, _, nm, wh, a⟩ => 1 + nm.length + wh.length + szl a
def szl : List S27 → Nat
  | [] => 0
  | x :: r => sz x + szl r
end
end Go.Proofs.YtaoklnkjcobokaaDoor.pr

set_option linter.unusedVariables false
set_option linter.unusedSimpArgs false
set_option linter.unusedSectionVars false
namespace Go.Proofs.YtaoklnkjcobokaaDoor
open Go Go.Proofs Go.Dl
set_option maxRecDepth 100000

theorem chk_true {α : Type} {vs : List Bool} {m : Option α} : chk (true :: vs) m = chk vs m := rfl

/-- A number's tokens. -/
def numT (n : Int) : List Bytes := if n < 0 then [[45], Lib.decDigits n.natAbs] else [Lib.decDigits n.toNat]

/-- A number that Go's int can be. -/
def I64 (n : Int) : Prop := -9223372036854775808 ≤ n ∧ n ≤ 9223372036854775807

theorem dec_len {n : Nat} (h : n < 18446744073709551616) : (Lib.decDigits n).length ≤ 20 := by rw [Lib.decDigits_length]; exact Lib.nDigits_le20 _ h

theorem put_eq (K : Nat) (w l : List Bytes) (h : w.length + l.length ≤ 1000000000) : fnS (F33 K (⟨w⟩ : S62) l) = some ⟨w ++ l⟩ := by
  unfold F33
  rw [chk_t (vs := []) (room_le (by dsimp only; omega)), chk_nil]; rfl

theorem numT_len (n : Int) : (numT n).length ≤ 2 := by unfold numT; split <;> simp

theorem number_eq (K : Nat) (w : List Bytes) (n : Int) (h : I64 n) (hw : w.length + (numT n).length ≤ 1000000000) : fnS (F36 K (⟨w⟩ : S62) n) = some ⟨w ++ numT n⟩ := by
  unfold F36
  unfold numT at hw ⊢
  have e52 : fnS (F52 K n) = some (Lib.itoa n) := by unfold F52; rw [if_pos (show _ ∧ _ from h)]; rfl
  rw [e52, Option.bind_some]
  have hil := Lib.itoa_length_le n h.1 h.2
  by_cases hn : n < 0
  · have hi : Lib.itoa n = 45 :: Lib.decDigits n.natAbs := by unfold Lib.itoa; rw [if_pos hn]
    rw [if_pos hn] at hw
    simp only [List.length_cons, List.length_nil] at hw
    rw [if_pos (by rw [decide_eq_true_eq]; exact hn), if_pos hn, put_eq K w _ (by simp; omega), Option.bind_some, chk_t (vs := []) (by rw [hi]; simp [bndOk]; omega), chk_nil]
    simp only [letV]
    rw [bindS_r]
    dsimp only
    have ed : ((Lib.itoa n).drop (1 : Int).toNat).take (((Int.ofNat (Lib.itoa n).length) : Int).toNat - (1 : Int).toNat) = Lib.decDigits n.natAbs := by
      rw [hi]; simp
    rw [ed, put_eq K _ _ (by simp; omega), Option.bind_some, List.append_assoc]; rfl
  · have hi : Lib.itoa n = Lib.decDigits n.toNat := by unfold Lib.itoa; rw [if_neg hn]
    rw [if_neg hn] at hw
    simp only [List.length_cons, List.length_nil] at hw
    rw [if_neg (by rw [decide_eq_true_eq]; exact hn), if_neg hn, bindS_r]
    dsimp only
    rw [put_eq K _ _ (by simp; omega), Option.bind_some, hi]; rfl
end Go.Proofs.YtaoklnkjcobokaaDoor

set_option linter.unusedVariables false
set_option linter.unusedSimpArgs false
set_option linter.unusedSectionVars false
namespace Go.Proofs.YtaoklnkjcobokaaDoor.pr
open Go Go.Dl

/-- The n-th of some words, from 1 on. -/
def named (n : Int) (l : List Bs) : Bs := if n < 1 ∨ (l.length : Int) < n then [63] else l.getD (n - 1).toNat []

def timers : List Bs := [[84, 79, 78], [84, 79, 70], [84, 80], [67, 84, 85], [67, 84, 68], [82, 95, 84, 82, 73, 71], [70, 95, 84, 82, 73, 71]]

def tyT (t : S29) : Tk :=
  if t.fKind = 1 then [[73, 78, 84]]
  else if t.fKind = 2 then [[66, 79, 79, 76]]
  else if t.fKind = 3 then [[73, 78, 84], [40]] ++ numT t.fLo ++ [[46, 46]] ++ numT t.fHi ++ [[41]]
  else if t.fKind = 4 then [[65, 82, 82, 65, 89], [91]] ++ numT t.fHi ++ [[93], [79, 70], [73, 78, 84]]
  else if t.fKind = 5 then [[82, 69, 70, 95, 84, 79], t.fName]
  else if t.fKind = 6 then [t.fName]
  else if t.fKind = 7 then [named t.fLo timers]
  else [[63]]

def ops : List Bs := [[43], [45], [42], [47], [77, 79, 68], [61], [60, 62], [60], [60, 61], [62], [62, 61], [65, 78, 68], [79, 82], [88, 79, 82]]

def atT (ag : List (Int × Tk)) (i : Nat) : Tk := match ag[i]? with
  | none => [[63]]
  | some p => p.2
def opdT (ag : List (Int × Tk)) (i : Nat) : Tk := match ag[i]? with
  | none => [[63]]
  | some p => if p.1 = 7 ∨ p.1 = 8 ∨ p.1 = 9 then [[40]] ++ p.2 ++ [[41]] else p.2
/-- Parts, each by its number. -/
def gat {X E : Type} (g : Nat → X → List E) : Nat → List X → List E
  | _, [] => []
  | n, x :: r => g n x ++ gat g (n + 1) r
theorem gat_app {X E : Type} (g : Nat → X → List E) : ∀ (a b : List X) (n : Nat), gat g n (a ++ b) = gat g n a ++ gat g (n + a.length) b
  | [], b, n => rfl
  | x :: r, b, n => by
    show g n x ++ gat g (n + 1) (r ++ b) = (g n x ++ gat g (n + 1) r) ++ _
    rw [gat_app g r b (n + 1), List.append_assoc, List.length_cons]
    rw [show n + 1 + r.length = n + (r.length + 1) by omega]
def com (i : Nat) : Tk := if 0 < i then [[44]] else []
/-- All, a comma between. -/
def listT (l : List (Int × Tk)) : Tk := gat (fun i p => com i ++ p.2) 0 l

def exprT (k n : Int) (nm wh : Bs) (ag : List (Int × Tk)) : Tk :=
  if k = 1 then numT n
  else if k = 2 then [[84, 82, 85, 69]]
  else if k = 3 then [[70, 65, 76, 83, 69]]
  else if k = 4 then [[78, 85, 76, 76]]
  else if k = 5 then [nm]
  else if k = 6 then [nm, [91]] ++ atT ag 0 ++ [[93]]
  else if k = 7 then [[45]] ++ opdT ag 0
  else if k = 8 then [[78, 79, 84]] ++ opdT ag 0
  else if k = 9 then opdT ag 0 ++ [named n ops] ++ opdT ag 1
  else if k = 10 then [[82, 69, 70], [40], nm, [41]]
  else if k = 11 then [[68, 79, 78, 69], [40], nm, [41]]
  else if k = 12 then [[67, 79, 85, 78, 84], [40], nm, [41]]
  else if k = 14 then [[65, 83], nm, [40]] ++ atT ag 0 ++ [[41]]
  else if k = 13 then [named (n + 1) [nm, [84, 72, 73, 83], [83, 85, 80, 69, 82]], [46], wh, [40]] ++ listT ag ++ [[41]]
  else [[63]]

mutual
def tkE : S27 → Tk
  | ⟨k, n, nm, wh, ag⟩ => exprT k n nm wh (tkL ag)
def tkL : List S27 → List (Int × Tk)
  | [] => []
  | x :: r => (x.fKind, tkE x) :: tkL r
end
theorem tkL_map : ∀ l : List S27, tkL l = l.map fun x => (x.fKind, tkE x)
  | [] => by rw [tkL]; rfl
  | x :: r => by rw [tkL, tkL_map r]; rfl
theorem tkE_eq (e : S27) : tkE e = exprT e.fKind e.fN e.fName e.fWhat (e.fArgs.map fun x => (x.fKind, tkE x)) := by
  obtain ⟨k, n, nm, wh, ag⟩ := e
  rw [tkE, tkL_map]
theorem szl_mem : ∀ (l : List S27) (x : S27), x ∈ l → sz x ≤ szl l
  | [], x, h => by cases h
  | y :: r, x, h => by
    rw [szl]
    rcases List.mem_cons.1 h with rfl | h
    · omega
    · have := szl_mem r x h; omega
theorem sz_eq (e : S27) : sz e = 1 + e.fName.length + e.fWhat.length + szl e.fArgs := by
  obtain ⟨k, n, nm, wh, ag⟩ := e
  rw [sz]

/-! All numbers of an expression can be. -/
mutual
def okE : S27 → Prop
  | ⟨_, n, _, _, ag⟩ => I64 n ∧ okL ag
def okL : List S27 → Prop
  | [] => True
  | x :: r => okE x ∧ okL r
end
theorem okL_mem : ∀ (l : List S27), okL l → ∀ x ∈ l, okE x
  | [], _, x, h => by cases h
  | y :: r, hl, x, h => by
    rw [okL] at hl
    rcases List.mem_cons.1 h with rfl | h
    · exact hl.1
    · exact okL_mem r hl.2 x h
theorem okE_eq (e : S27) : okE e ↔ I64 e.fN ∧ okL e.fArgs := by
  obtain ⟨k, n, nm, wh, ag⟩ := e
  rw [okE]
end Go.Proofs.YtaoklnkjcobokaaDoor.pr

set_option linter.unusedVariables false
set_option linter.unusedSimpArgs false
set_option linter.unusedSectionVars false
namespace Go.Proofs.YtaoklnkjcobokaaDoor.pr
open Go Go.Dl

/-! Rounds that put parts behind. -/
theorem getD_el {X : Type} {l : List X} {d : X} {i : Nat} (h : i < l.length) : l.getD i d = l[i] := by simp [List.getD, List.getElem?_eq_getElem h]
theorem getD_mem {X : Type} [Inhabited X] : ∀ {l : List X} {i : Nat}, i < l.length → l.getD i default ∈ l := by
  intro l i h
  rw [getD_el h]
  exact List.getElem_mem h
theorem drop_getDT {α : Type} (l : List α) (d : α) (n : Nat) (h : n < l.length) : l.drop n = l.getD n d :: l.drop (n + 1) := by
  rw [List.drop_eq_getElem_cons h]
  simp [List.getD, List.getElem?_eq_getElem h]
theorem gat_drop {X E : Type} [Inhabited X] (g : Nat → X → List E) (l : List X) (i n : Nat) (h : i < l.length) : gat g n (l.drop i) = g n (l.getD i default) ++ gat g (n + 1) (l.drop (i + 1)) := by
  rw [drop_getDT l default i h]; rfl
theorem iter_st {X E A S : Type} [Inhabited X] {f : S → Option (A ⊕ S)} (st : Nat → List E → S) (out : List E → A) (l : List X) (g : Nat → X → List E) (T lo : Nat)
    (h : ∀ (i : Nat), lo ≤ i → i < l.length → ∀ v : List E, v.length + (g i (l.getD i default)).length ≤ T → f (st i v) = some (.inr (st (i + 1) (v ++ g i (l.getD i default)))))
    (hs : ∀ v, f (st l.length v) = some (.inl (out v))) :
    ∀ (d i K : Nat) (v : List E), lo ≤ i → i + d = l.length → d < K → v.length + (gat g i (l.drop i)).length ≤ T → iter K f (st i v) = some (out (v ++ gat g i (l.drop i)))
  | 0, i, K, v, hlo, hi, hk, hT => by
    obtain ⟨K, rfl⟩ : ∃ k, K = k + 1 := ⟨K - 1, by omega⟩
    have hi' : i = l.length := by omega
    subst hi'
    unfold iter
    rw [hs v, List.drop_length]
    show some (out v) = some (out (v ++ []))
    rw [List.append_nil]
  | d + 1, i, K, v, hlo, hi, hk, hT => by
    obtain ⟨K, rfl⟩ : ∃ k, K = k + 1 := ⟨K - 1, by omega⟩
    have hil : i < l.length := by omega
    rw [gat_drop g l i i hil, List.length_append] at hT
    unfold iter
    rw [h i hlo hil v (by omega)]
    dsimp only
    rw [iter_st st out l g T lo h hs d (i + 1) K _ (by omega) (by omega) (by omega) (by rw [List.length_append]; omega), gat_drop g l i i hil, List.append_assoc]
/-- Rounds over a list, from its first. -/
theorem iter_gat {X E A : Type} [Inhabited X] {f : List E × Int → Option (A ⊕ (List E × Int))} (out : List E → A) (l : List X) (g : Nat → X → List E) (T : Nat) {K : Nat} {w : List E} (hk : l.length < K) (hT : w.length + (gat g 0 l).length ≤ T)
    (h : ∀ (i : Nat), i < l.length → ∀ v : List E, v.length + (g i (l.getD i default)).length ≤ T → f (v, (i : Int)) = some (.inr (v ++ g i (l.getD i default), ((i + 1 : Nat) : Int))))
    (hs : ∀ v, f (v, (l.length : Int)) = some (.inl (out v))) : iter K f (w, 0) = some (out (w ++ gat g 0 l)) := by
  have := iter_st (fun i v => (v, (i : Int))) out l g T 0 (fun i _ => h i) hs l.length 0 K w (by omega) (by omega) hk (by simpa using hT)
  simpa using this
/-- From one of its parts. -/
theorem iter_gat1 {X E A : Type} [Inhabited X] {f : List E × Int → Option (A ⊕ (List E × Int))} (out : List E → A) (l : List X) (g : Nat → X → List E) (T : Nat) {K : Nat} {w : List E} (h1 : 1 ≤ l.length) (hk : l.length < K) (hT : w.length + (gat g 1 (l.drop 1)).length ≤ T)
    (h : ∀ (i : Nat), 1 ≤ i → i < l.length → ∀ v : List E, v.length + (g i (l.getD i default)).length ≤ T → f (v, (i : Int)) = some (.inr (v ++ g i (l.getD i default), ((i + 1 : Nat) : Int))))
    (hs : ∀ v, f (v, (l.length : Int)) = some (.inl (out v))) : iter K f (w, 1) = some (out (w ++ gat g 1 (l.drop 1))) :=
  iter_st (fun i v => (v, (i : Int))) out l g T 1 h hs (l.length - 1) 1 K w (by omega) (by omega) (by omega) hT
/-- With a word beside. -/
theorem iter_gatw {X E A B : Type} [Inhabited X] {f : List E × B × Int → Option (A ⊕ (List E × B × Int))} (wd : Nat → B) {b0 : B} (hb : wd 0 = b0) (out : List E → A) (l : List X) (g : Nat → X → List E) (T : Nat) {K : Nat} {w : List E} (hk : l.length < K) (hT : w.length + (gat g 0 l).length ≤ T)
    (h : ∀ (i : Nat), i < l.length → ∀ v : List E, v.length + (g i (l.getD i default)).length ≤ T → f (v, wd i, (i : Int)) = some (.inr (v ++ g i (l.getD i default), wd (i + 1), ((i + 1 : Nat) : Int))))
    (hs : ∀ v, f (v, wd l.length, (l.length : Int)) = some (.inl (out v))) : iter K f (w, b0, 0) = some (out (w ++ gat g 0 l)) := by
  subst hb
  have := iter_st (fun i v => (v, wd i, (i : Int))) out l g T 0 (fun i _ => h i) hs l.length 0 K w (by omega) (by omega) hk (by simpa using hT)
  simpa using this
theorem lt_dec {i n : Nat} (h : i < n) : decide ((i : Int) < Int.ofNat n) = true := by simp; omega
theorem lt_dec0 {n : Nat} : decide ((n : Int) < Int.ofNat n) = false := by simp
theorem wrap_succ {i : Nat} (h : i ≤ 1000000000000) : IntKind.i64.wrap ((i : Int) + 1) = ((i + 1 : Nat) : Int) := by
  rw [wrap64 (by omega) (by omega)]; rfl

/-! Statements. -/
def blkT (bl : List (List Tk)) (i : Nat) : Tk := (bl.getD i []).flatten
def elseL : List Tk → Tk
  | [] => []
  | x :: r => [[69, 76, 83, 69]] ++ (x :: r).flatten
def elseT (bl : List (List Tk)) (i : Nat) : Tk := elseL (bl.getD i [])
def labT (l : List Int) : Tk := gat (fun i n => com i ++ numT n) 0 l
def ifW (i : Nat) : Bs := if i = 0 then [73, 70] else [69, 76, 83, 73, 70]
def ifT (ex : List (Int × Tk)) (bl : List (List Tk)) : Tk :=
  gat (fun i (_ : Nat) => [ifW i] ++ atT ex i ++ [[84, 72, 69, 78]] ++ blkT bl i) 0 (List.range (max ex.length 1)) ++ elseT bl (max ex.length 1) ++ [[69, 78, 68, 95, 73, 70]]
def caseT (ex : List (Int × Tk)) (lb : List (List Int)) (bl : List (List Tk)) : Tk :=
  [[67, 65, 83, 69]] ++ atT ex 0 ++ [[79, 70]] ++ gat (fun i l => labT l ++ [[58]] ++ blkT bl i) 0 lb ++ elseT bl lb.length ++ [[69, 78, 68, 95, 67, 65, 83, 69]]
def retT (ex : List (Int × Tk)) : Tk := match ex with
  | [] => []
  | p :: _ => p.2
/-- A statement, but for its end. -/
def stmtB (k n : Int) (nm : Bs) (ex : List (Int × Tk)) (lb : List (List Int)) (bl : List (List Tk)) : Tk :=
  if k = 1 then [nm, [58, 61]] ++ atT ex 0
  else if k = 2 then [nm, [91]] ++ atT ex 0 ++ [[93], [58, 61]] ++ atT ex 1
  else if k = 3 then [nm, [63, 61]] ++ atT ex 0
  else if k = 4 then atT ex 0
  else if k = 5 then ifT ex bl
  else if k = 6 then caseT ex lb bl
  else if k = 7 then [[87, 72, 73, 76, 69]] ++ atT ex 0 ++ [[68, 79]] ++ blkT bl 0 ++ [[69, 78, 68, 95, 87, 72, 73, 76, 69]]
  else if k = 8 then [[70, 79, 82], nm, [58, 61]] ++ atT ex 0 ++ [[84, 79]] ++ atT ex 1 ++ [[66, 89]] ++ numT n ++ [[68, 79]] ++ blkT bl 0 ++ [[69, 78, 68, 95, 70, 79, 82]]
  else if k = 9 then [[82, 69, 84, 85, 82, 78]] ++ retT ex
  else if k = 10 then [[69, 88, 73, 84]]
  else if k = 11 then [[83, 84, 69, 80], nm, [40]] ++ atT ex 0 ++ [[44]] ++ atT ex 1 ++ [[41]]
  else [[63]]
def agE (l : List S27) : List (Int × Tk) := l.map fun x => (x.fKind, tkE x)
mutual
def tkS : S43 → Tk
  | ⟨k, n, nm, ex, lb, bl⟩ => stmtB k n nm (agE ex) lb (tkSll bl) ++ [[59]]
def tkSl : List S43 → List Tk
  | [] => []
  | x :: r => tkS x :: tkSl r
def tkSll : List (List S43) → List (List Tk)
  | [] => []
  | x :: r => tkSl x :: tkSll r
end
theorem tkSl_map : ∀ l : List S43, tkSl l = l.map tkS
  | [] => by rw [tkSl]; rfl
  | x :: r => by rw [tkSl, tkSl_map r]; rfl
theorem tkSll_map : ∀ l : List (List S43), tkSll l = l.map fun b => b.map tkS
  | [] => by rw [tkSll]; rfl
  | x :: r => by rw [tkSll, tkSll_map r, tkSl_map]; rfl
def agB (bl : List (List S43)) : List (List Tk) := bl.map fun b => b.map tkS
theorem tkS_eq (s : S43) : tkS s = stmtB s.fKind s.fN s.fName (agE s.fExprs) s.fLabels (agB s.fBlocks) ++ [[59]] := by
  obtain ⟨k, n, nm, ex, lb, bl⟩ := s
  rw [tkS, tkSll_map]; rfl
def stsT (l : List S43) : Tk := (l.map tkS).flatten

/-! Variables, methods, declarations. -/
def varT (v : S38) : Tk := [[86, 65, 82], v.fName, [58]] ++ tyT v.fType ++ (if v.fInit = 0 then [] else [[58, 61]] ++ numT v.fInit) ++ (if v.fDir = 1 then [[65, 84], [73, 78]] ++ numT v.fSlot else if v.fDir = 2 then [[65, 84], [79, 85, 84]] ++ numT v.fSlot else []) ++ [[59]]
def varsT (l : List S38) : Tk := gat (fun _ v => varT v) 0 l
def parT (l : List S38) : Tk := gat (fun i v => com i ++ [v.fName, [58]] ++ tyT v.fType) 0 l
def headT (m : S54) : Tk := [m.fName, [40]] ++ parT m.fParams ++ [[41]] ++ (if m.fResult.fKind = 0 then [] else [[58]] ++ tyT m.fResult) ++ [[59]]
def flag (b : Bool) (w : Bs) : Tk := if b = true then [w] else []
def faceT (m : S54) : Tk := [[77, 69, 84, 72, 79, 68]] ++ headT m
def methT (m : S54) : Tk := [[77, 69, 84, 72, 79, 68]] ++ flag m.fOver [79, 86, 69, 82, 82, 73, 68, 69] ++ flag m.fAbstract [65, 66, 83, 84, 82, 65, 67, 84] ++ flag m.fFinal [70, 73, 78, 65, 76] ++ headT m ++ varsT m.fVars ++ stsT m.fBody ++ [[69, 78, 68, 95, 77, 69, 84, 72, 79, 68]]
def impT (i : Nat) (f : Bs) : Tk := [if i = 0 then [73, 77, 80, 76, 69, 77, 69, 78, 84, 83] else [44], f]
def declT (d : S48) : Tk :=
  if d.fKind = 1 then [[73, 78, 84, 69, 82, 70, 65, 67, 69], d.fName, [59]] ++ gat (fun _ m => faceT m) 0 d.fMethods ++ [[69, 78, 68, 95, 73, 78, 84, 69, 82, 70, 65, 67, 69]]
  else if d.fKind = 2 then [[67, 76, 65, 83, 83]] ++ flag d.fAbstract [65, 66, 83, 84, 82, 65, 67, 84] ++ flag d.fFinal [70, 73, 78, 65, 76] ++ [d.fName] ++ (if d.fBase = [] then [] else [[69, 88, 84, 69, 78, 68, 83], d.fBase]) ++ gat impT 0 d.fFaces ++ [[59]] ++ varsT d.fVars ++ gat (fun _ m => methT m) 0 d.fMethods ++ [[69, 78, 68, 95, 67, 76, 65, 83, 83]]
  else if d.fKind = 3 then [[80, 82, 79, 71, 82, 65, 77], d.fName, [59]] ++ varsT d.fVars ++ stsT d.fBody ++ [[69, 78, 68, 95, 80, 82, 79, 71, 82, 65, 77]]
  else if d.fKind = 4 then [[84, 65, 83, 75], d.fName, [40], [73, 78, 84, 69, 82, 86, 65, 76]] ++ numT d.fEvery ++ [[44], [80, 82, 73, 79, 82, 73, 84, 89]] ++ numT d.fFirst ++ [[41], [58], d.fBase, [59]]
  else [[63]]
def J (t : Tk) : Bs := Lib.join t [32]
def unitT (l : List S48) : Bs := gat (fun _ d => J (declT d) ++ [10]) 0 l

/-! Sizes, and numbers that can be. -/
def szLab (l : List (List Int)) : Nat := (l.map fun x => 1 + x.length).sum
mutual
def szS : S43 → Nat
  | ⟨_, _, nm, ex, lb, bl⟩ => 1 + nm.length + szl ex + szLab lb + szSll bl
def szSl : List S43 → Nat
  | [] => 0
  | x :: r => szS x + szSl r
def szSll : List (List S43) → Nat
  | [] => 0
  | x :: r => 1 + szSl x + szSll r
end
theorem szS_eq (s : S43) : szS s = 1 + s.fName.length + szl s.fExprs + szLab s.fLabels + szSll s.fBlocks := by
  obtain ⟨k, n, nm, ex, lb, bl⟩ := s
  rw [szS]
theorem szSl_mem : ∀ (l : List S43) (x : S43), x ∈ l → szS x ≤ szSl l
  | [], x, h => by cases h
  | y :: r, x, h => by
    rw [szSl]
    rcases List.mem_cons.1 h with rfl | h
    · omega
    · have := szSl_mem r x h; omega
theorem szSll_mem : ∀ (l : List (List S43)) (x : List S43), x ∈ l → 1 + szSl x ≤ szSll l
  | [], x, h => by cases h
  | y :: r, x, h => by
    rw [szSll]
    rcases List.mem_cons.1 h with rfl | h
    · omega
    · have := szSll_mem r x h; omega
theorem szSl_len : ∀ l : List S43, l.length ≤ szSl l
  | [] => by simp
  | x :: r => by
    have := szSl_len r
    have h1 := szS_eq x
    rw [szSl, List.length_cons]; omega
theorem szSll_len : ∀ l : List (List S43), l.length ≤ szSll l
  | [] => by simp
  | x :: r => by
    have := szSll_len r
    rw [szSll, List.length_cons]; omega
theorem szl_len : ∀ l : List S27, l.length ≤ szl l
  | [] => by simp
  | x :: r => by
    have := szl_len r
    have h1 := sz_eq x
    rw [szl, List.length_cons]; omega
theorem szLab_len (l : List (List Int)) : l.length ≤ szLab l := by
  unfold szLab
  induction l with
  | nil => simp
  | cons x r ih => simp only [List.map_cons, List.sum_cons, List.length_cons]; omega
theorem szLab_mem (l : List (List Int)) (x : List Int) (h : x ∈ l) : x.length ≤ szLab l := by
  unfold szLab
  induction l with
  | nil => cases h
  | cons y r ih =>
    simp only [List.map_cons, List.sum_cons]
    rcases List.mem_cons.1 h with rfl | h
    · omega
    · have := ih h; omega
def okLab (l : List (List Int)) : Prop := ∀ x ∈ l, ∀ n ∈ x, I64 n
mutual
def okS : S43 → Prop
  | ⟨_, n, _, ex, lb, bl⟩ => I64 n ∧ okL ex ∧ okLab lb ∧ okSll bl
def okSl : List S43 → Prop
  | [] => True
  | x :: r => okS x ∧ okSl r
def okSll : List (List S43) → Prop
  | [] => True
  | x :: r => okSl x ∧ okSll r
end
theorem okS_eq (s : S43) : okS s ↔ I64 s.fN ∧ okL s.fExprs ∧ okLab s.fLabels ∧ okSll s.fBlocks := by
  obtain ⟨k, n, nm, ex, lb, bl⟩ := s
  rw [okS]
theorem okSl_mem : ∀ (l : List S43), okSl l → ∀ x ∈ l, okS x
  | [], _, x, h => by cases h
  | y :: r, hl, x, h => by
    rw [okSl] at hl
    rcases List.mem_cons.1 h with rfl | h
    · exact hl.1
    · exact okSl_mem r hl.2 x h
theorem okSll_mem : ∀ (l : List (List S43)), okSll l → ∀ x ∈ l, okSl x
  | [], _, x, h => by cases h
  | y :: r, hl, x, h => by
    rw [okSll] at hl
    rcases List.mem_cons.1 h with rfl | h
    · exact hl.1
    · exact okSll_mem r hl.2 x h
def okT (t : S29) : Prop := I64 t.fLo ∧ I64 t.fHi
def okV (v : S38) : Prop := okT v.fType ∧ I64 v.fInit ∧ I64 v.fSlot
def okM (m : S54) : Prop := (∀ v ∈ m.fParams, okV v) ∧ okT m.fResult ∧ (∀ v ∈ m.fVars, okV v) ∧ okSl m.fBody
def okD (d : S48) : Prop := (∀ v ∈ d.fVars, okV v) ∧ (∀ m ∈ d.fMethods, okM m) ∧ okSl d.fBody ∧ I64 d.fEvery ∧ I64 d.fFirst

/-! Lists that are not too long. -/
def fitM (m : S54) : Prop := m.fParams.length ≤ 2000000 ∧ m.fVars.length ≤ 2000000 ∧ szSl m.fBody ≤ 2000000
def fitD (d : S48) : Prop := d.fVars.length ≤ 2000000 ∧ d.fFaces.length ≤ 2000000 ∧ d.fMethods.length ≤ 2000000 ∧ szSl d.fBody ≤ 2000000 ∧ ∀ m ∈ d.fMethods, fitM m
end Go.Proofs.YtaoklnkjcobokaaDoor.pr

set_option linter.unusedVariables false
set_option linter.unusedSimpArgs false
set_option linter.unusedSectionVars false
namespace Go.Proofs.YtaoklnkjcobokaaDoor
open Go Go.Proofs Go.Dl
set_option maxRecDepth 100000

theorem named_eq (K : Nat) (n : Int) (l : List Bytes) (hl : l.length ≤ 1000) : fnS (F45 K n l) = some (pr.named n l) := by
  unfold F45 pr.named
  simp only [letV]
  by_cases h : n < 1 ∨ (l.length : Int) < n
  · rw [if_pos (by simp; omega), if_pos h]; rfl
  · rw [if_neg (by simp; omega), if_neg h]
    have ew : IntKind.i64.wrap (n - 1) = n - 1 := wrap64 (by omega) (by omega)
    have hi : inb (n - 1) l.length = true := by simp [inb]; omega
    rw [ew, hi, chk_t (vs := []) rfl, chk_nil]
    rfl

theorem typ_eq (K : Nat) (w : List Bytes) (t : S29) (hlo : I64 t.fLo) (hhi : I64 t.fHi) (hw : w.length + (pr.tyT t).length ≤ 1000000000) : fnS (F29 K (⟨w⟩ : S62) t) = some ⟨w ++ pr.tyT t⟩ := by
  obtain ⟨k, lo, hi, nm⟩ := t
  dsimp only at hlo hhi
  have hn := named_eq K lo pr.timers (by simp [pr.timers])
  unfold pr.timers at hn
  by_cases h1 : k = 1
  · subst h1
    simp (disch := (first | assumption | ((try simp only [List.length_append, List.length_cons, List.length_nil]); omega))) only [pr.tyT, ↓reduceIte, Int.reduceBEq, Int.reduceEq, Bool.false_eq_true, hn, number_eq, pr.timers, put_eq, Option.bind_some, bindS_r, bindS_l, blockS_r, blockS_ll, blockS_lr, fnS_r, fnS_l, letV, condM_t, chk_nil, List.append_assoc, List.cons_append, List.nil_append, List.length_append, List.length_cons, List.length_nil] at hw
    unfold F29
    simp (disch := (first | assumption | ((try simp only [List.length_append, List.length_cons, List.length_nil]); omega))) only [pr.tyT, ↓reduceIte, Int.reduceBEq, Int.reduceEq, Bool.false_eq_true, hn, number_eq, pr.timers, put_eq, Option.bind_some, bindS_r, bindS_l, blockS_r, blockS_ll, blockS_lr, fnS_r, fnS_l, letV, condM_t, chk_nil, List.append_assoc, List.cons_append, List.nil_append, List.length_append, List.length_cons, List.length_nil]
  by_cases h2 : k = 2
  · subst h2
    simp (disch := (first | assumption | ((try simp only [List.length_append, List.length_cons, List.length_nil]); omega))) only [pr.tyT, ↓reduceIte, Int.reduceBEq, Int.reduceEq, Bool.false_eq_true, hn, number_eq, pr.timers, put_eq, Option.bind_some, bindS_r, bindS_l, blockS_r, blockS_ll, blockS_lr, fnS_r, fnS_l, letV, condM_t, chk_nil, List.append_assoc, List.cons_append, List.nil_append, List.length_append, List.length_cons, List.length_nil] at hw
    unfold F29
    simp (disch := (first | assumption | ((try simp only [List.length_append, List.length_cons, List.length_nil]); omega))) only [pr.tyT, ↓reduceIte, Int.reduceBEq, Int.reduceEq, Bool.false_eq_true, hn, number_eq, pr.timers, put_eq, Option.bind_some, bindS_r, bindS_l, blockS_r, blockS_ll, blockS_lr, fnS_r, fnS_l, letV, condM_t, chk_nil, List.append_assoc, List.cons_append, List.nil_append, List.length_append, List.length_cons, List.length_nil]
  by_cases h3 : k = 3
  · subst h3
    simp (disch := (first | assumption | ((try simp only [List.length_append, List.length_cons, List.length_nil]); omega))) only [pr.tyT, ↓reduceIte, Int.reduceBEq, Int.reduceEq, Bool.false_eq_true, hn, number_eq, pr.timers, put_eq, Option.bind_some, bindS_r, bindS_l, blockS_r, blockS_ll, blockS_lr, fnS_r, fnS_l, letV, condM_t, chk_nil, List.append_assoc, List.cons_append, List.nil_append, List.length_append, List.length_cons, List.length_nil] at hw
    unfold F29
    simp (disch := (first | assumption | ((try simp only [List.length_append, List.length_cons, List.length_nil]); omega))) only [pr.tyT, ↓reduceIte, Int.reduceBEq, Int.reduceEq, Bool.false_eq_true, hn, number_eq, pr.timers, put_eq, Option.bind_some, bindS_r, bindS_l, blockS_r, blockS_ll, blockS_lr, fnS_r, fnS_l, letV, condM_t, chk_nil, List.append_assoc, List.cons_append, List.nil_append, List.length_append, List.length_cons, List.length_nil]
  by_cases h4 : k = 4
  · subst h4
    simp (disch := (first | assumption | ((try simp only [List.length_append, List.length_cons, List.length_nil]); omega))) only [pr.tyT, ↓reduceIte, Int.reduceBEq, Int.reduceEq, Bool.false_eq_true, hn, number_eq, pr.timers, put_eq, Option.bind_some, bindS_r, bindS_l, blockS_r, blockS_ll, blockS_lr, fnS_r, fnS_l, letV, condM_t, chk_nil, List.append_assoc, List.cons_append, List.nil_append, List.length_append, List.length_cons, List.length_nil] at hw
    unfold F29
    simp (disch := (first | assumption | ((try simp only [List.length_append, List.length_cons, List.length_nil]); omega))) only [pr.tyT, ↓reduceIte, Int.reduceBEq, Int.reduceEq, Bool.false_eq_true, hn, number_eq, pr.timers, put_eq, Option.bind_some, bindS_r, bindS_l, blockS_r, blockS_ll, blockS_lr, fnS_r, fnS_l, letV, condM_t, chk_nil, List.append_assoc, List.cons_append, List.nil_append, List.length_append, List.length_cons, List.length_nil]
  by_cases h5 : k = 5
  · subst h5
    simp (disch := (first | assumption | ((try simp only [List.length_append, List.length_cons, List.length_nil]); omega))) only [pr.tyT, ↓reduceIte, Int.reduceBEq, Int.reduceEq, Bool.false_eq_true, hn, number_eq, pr.timers, put_eq, Option.bind_some, bindS_r, bindS_l, blockS_r, blockS_ll, blockS_lr, fnS_r, fnS_l, letV, condM_t, chk_nil, List.append_assoc, List.cons_append, List.nil_append, List.length_append, List.length_cons, List.length_nil] at hw
    unfold F29
    simp (disch := (first | assumption | ((try simp only [List.length_append, List.length_cons, List.length_nil]); omega))) only [pr.tyT, ↓reduceIte, Int.reduceBEq, Int.reduceEq, Bool.false_eq_true, hn, number_eq, pr.timers, put_eq, Option.bind_some, bindS_r, bindS_l, blockS_r, blockS_ll, blockS_lr, fnS_r, fnS_l, letV, condM_t, chk_nil, List.append_assoc, List.cons_append, List.nil_append, List.length_append, List.length_cons, List.length_nil]
  by_cases h6 : k = 6
  · subst h6
    simp (disch := (first | assumption | ((try simp only [List.length_append, List.length_cons, List.length_nil]); omega))) only [pr.tyT, ↓reduceIte, Int.reduceBEq, Int.reduceEq, Bool.false_eq_true, hn, number_eq, pr.timers, put_eq, Option.bind_some, bindS_r, bindS_l, blockS_r, blockS_ll, blockS_lr, fnS_r, fnS_l, letV, condM_t, chk_nil, List.append_assoc, List.cons_append, List.nil_append, List.length_append, List.length_cons, List.length_nil] at hw
    unfold F29
    simp (disch := (first | assumption | ((try simp only [List.length_append, List.length_cons, List.length_nil]); omega))) only [pr.tyT, ↓reduceIte, Int.reduceBEq, Int.reduceEq, Bool.false_eq_true, hn, number_eq, pr.timers, put_eq, Option.bind_some, bindS_r, bindS_l, blockS_r, blockS_ll, blockS_lr, fnS_r, fnS_l, letV, condM_t, chk_nil, List.append_assoc, List.cons_append, List.nil_append, List.length_append, List.length_cons, List.length_nil]
  by_cases h7 : k = 7
  · subst h7
    simp (disch := (first | assumption | ((try simp only [List.length_append, List.length_cons, List.length_nil]); omega))) only [pr.tyT, ↓reduceIte, Int.reduceBEq, Int.reduceEq, Bool.false_eq_true, hn, number_eq, pr.timers, put_eq, Option.bind_some, bindS_r, bindS_l, blockS_r, blockS_ll, blockS_lr, fnS_r, fnS_l, letV, condM_t, chk_nil, List.append_assoc, List.cons_append, List.nil_append, List.length_append, List.length_cons, List.length_nil] at hw
    unfold F29
    simp (disch := (first | assumption | ((try simp only [List.length_append, List.length_cons, List.length_nil]); omega))) only [pr.tyT, ↓reduceIte, Int.reduceBEq, Int.reduceEq, Bool.false_eq_true, hn, number_eq, pr.timers, put_eq, Option.bind_some, bindS_r, bindS_l, blockS_r, blockS_ll, blockS_lr, fnS_r, fnS_l, letV, condM_t, chk_nil, List.append_assoc, List.cons_append, List.nil_append, List.length_append, List.length_cons, List.length_nil]
  simp (disch := (first | assumption | ((try simp only [List.length_append, List.length_cons, List.length_nil]); omega))) only [pr.tyT, h1, h2, h3, h4, h5, h6, h7, ↓reduceIte, hn, number_eq, pr.timers, put_eq, Option.bind_some, bindS_r, bindS_l, blockS_r, blockS_ll, blockS_lr, fnS_r, fnS_l, letV, condM_t, chk_nil, List.append_assoc, List.cons_append, List.nil_append, List.length_append, List.length_cons, List.length_nil] at hw
  unfold F29
  simp (disch := (first | assumption | ((try simp only [List.length_append, List.length_cons, List.length_nil]); omega))) only [pr.tyT, h1, h2, h3, h4, h5, h6, h7, beq_iff_eq, ↓reduceIte, hn, number_eq, pr.timers, put_eq, Option.bind_some, bindS_r, bindS_l, blockS_r, blockS_ll, blockS_lr, fnS_r, fnS_l, letV, condM_t, chk_nil, List.append_assoc, List.cons_append, List.nil_append, List.length_append, List.length_cons, List.length_nil]
end Go.Proofs.YtaoklnkjcobokaaDoor

set_option linter.unusedVariables false
set_option linter.unusedSimpArgs false
set_option linter.unusedSectionVars false
namespace Go.Proofs.YtaoklnkjcobokaaDoor
open Go Go.Proofs Go.Dl
set_option maxRecDepth 100000

theorem at_none {l : List (Int × List Bytes)} {i : Nat} (h : l.length ≤ i) : pr.atT l i = [[63]] := by
  unfold pr.atT; rw [List.getElem?_eq_none h]
theorem at_some {l : List S27} {i : Nat} (h : i < l.length) : pr.atT (pr.agE l) i = pr.tkE (l.getD i default) := by
  unfold pr.atT pr.agE
  rw [List.getElem?_map, List.getElem?_eq_getElem h, pr.getD_el h]; rfl
theorem opd_none {l : List (Int × List Bytes)} {i : Nat} (h : l.length ≤ i) : pr.opdT l i = [[63]] := by
  unfold pr.opdT; rw [List.getElem?_eq_none h]
theorem opd_some {l : List S27} {i : Nat} (h : i < l.length) : pr.opdT (pr.agE l) i = if (l.getD i default).fKind = 7 ∨ (l.getD i default).fKind = 8 ∨ (l.getD i default).fKind = 9 then [[40]] ++ pr.tkE (l.getD i default) ++ [[41]] else pr.tkE (l.getD i default) := by
  unfold pr.opdT pr.agE
  rw [List.getElem?_map, List.getElem?_eq_getElem h, pr.getD_el h]; rfl
theorem agE_len (l : List S27) : (pr.agE l).length = l.length := by simp [pr.agE]

/-- What is known of the parts. -/
def HE (K : Nat) (l : List S27) : Prop := ∀ x ∈ l, ∀ w : List Bytes, w.length + (pr.tkE x).length ≤ 1000000000 → fnS (F23 K (⟨w⟩ : S62) x) = some ⟨w ++ pr.tkE x⟩

theorem at_eq (K : Nat) (w : List Bytes) (l : List S27) (H : HE K l) (i : Nat) (hw : w.length + (pr.atT (pr.agE l) i).length ≤ 1000000000) : fnS (F44 (K + 1) (⟨w⟩ : S62) l (i : Int)) = some ⟨w ++ pr.atT (pr.agE l) i⟩ := by
  rw [F44]
  simp only [letV]
  by_cases h : l.length ≤ i
  · rw [at_none (by rw [agE_len]; exact h)] at hw ⊢
    rw [if_pos (by simp; omega), put_eq _ _ _ hw]; rfl
  · rw [at_some (by omega)] at hw ⊢
    rw [if_neg (by simp; omega), chk_t (vs := []) (inb_nat (by omega)), chk_nil, Int.toNat_natCast, H _ (pr.getD_mem (by omega)) _ hw]; rfl

theorem opd_eq (K : Nat) (w : List Bytes) (l : List S27) (H : HE K l) (i : Nat) (hw : w.length + (pr.opdT (pr.agE l) i).length ≤ 1000000000) : fnS (F46 (K + 2) (⟨w⟩ : S62) l (i : Int)) = some ⟨w ++ pr.opdT (pr.agE l) i⟩ := by
  rw [F46]
  simp only [letV]
  by_cases h : l.length ≤ i
  · have e : pr.opdT (pr.agE l) i = pr.atT (pr.agE l) i := by rw [opd_none (by rw [agE_len]; exact h), at_none (by rw [agE_len]; exact h)]
    rw [e] at hw ⊢
    rw [if_neg (by simp; omega), bindS_r, at_eq K w l H i hw]; rfl
  · have e : pr.atT (pr.agE l) i = pr.tkE (l.getD i default) := at_some (by omega)
    rw [opd_some (by omega)] at hw ⊢
    rw [if_pos (by simp; omega), chk_t (vs := []) (inb_nat (by omega)), chk_nil, bindS_r, Int.toNat_natCast]
    by_cases hk : (l.getD i default).fKind = 7 ∨ (l.getD i default).fKind = 8 ∨ (l.getD i default).fKind = 9
    · rw [if_pos hk] at hw ⊢
      simp only [List.length_append, List.length_cons, List.length_nil] at hw
      have hp : ∀ {A : Type} (a b c : Option (A ⊕ Bool)), (if ((l.getD i default).fKind == 7) = true then (some (.inr ((l.getD i default).fKind == 7)) : Option (A ⊕ Bool)) else if ((l.getD i default).fKind == 8) = true then some (.inr ((l.getD i default).fKind == 8)) else some (.inr ((l.getD i default).fKind == 9))) = some (.inr true) := by
        intro A _ _ _
        rcases hk with hk | hk | hk <;> rw [hk] <;> rfl
      rw [hp none none none, bindS_r, if_pos rfl, put_eq _ _ _ (by simp only [List.length_cons, List.length_nil]; omega)]
      simp only [Option.bind_some]
      rw [at_eq K _ l H i (by rw [e]; simp only [List.length_append, List.length_cons, List.length_nil]; omega), e]
      simp only [Option.bind_some]
      rw [put_eq _ _ _ (by simp only [List.length_append, List.length_cons, List.length_nil]; omega)]
      simp only [Option.bind_some, blockS_r, bindS_r, fnS_r, List.append_assoc]
    · rw [if_neg hk] at hw ⊢
      have hp : ∀ {A : Type}, (if ((l.getD i default).fKind == 7) = true then (some (.inr ((l.getD i default).fKind == 7)) : Option (A ⊕ Bool)) else if ((l.getD i default).fKind == 8) = true then some (.inr ((l.getD i default).fKind == 8)) else some (.inr ((l.getD i default).fKind == 9))) = some (.inr false) := by
        intro A
        simp only [not_or] at hk
        generalize (l.getD i default).fKind = z at hk
        simp [hk.1, hk.2.1, hk.2.2]
      rw [hp, bindS_r, if_neg (by simp), at_eq K _ l H i (by rw [e]; exact hw), e]; rfl

theorem list_eq (K : Nat) (w : List Bytes) (l : List S27) (H : HE K l) (hK : l.length < K) (h62 : l.length ≤ 1000000000) (hw : w.length + (pr.listT (pr.agE l)).length ≤ 1000000000) : fnS (F47 (K + 1) (⟨w⟩ : S62) l) = some ⟨w ++ pr.listT (pr.agE l)⟩ := by
  rw [F47]
  have eg : pr.listT (pr.agE l) = pr.gat (fun i x => pr.com i ++ pr.tkE x) 0 l := by
    unfold pr.listT pr.agE
    have : ∀ (l : List S27) (n : Nat), pr.gat (fun i (p : Int × List Bytes) => pr.com i ++ p.2) n (l.map fun x => (x.fKind, pr.tkE x)) = pr.gat (fun i x => pr.com i ++ pr.tkE x) n l := by
      intro l
      induction l with
      | nil => intro n; rfl
      | cons x r ih => intro n; simp only [List.map_cons, pr.gat]; rw [ih]
    exact this l 0
  rw [eg] at hw ⊢
  rw [pr.iter_gat (Sum.inl) l (fun i x => pr.com i ++ pr.tkE x) 1000000000 hK hw]
  · rfl
  · intro i hi v hv
    simp only [letV]
    rw [if_pos (by simp; omega), chk_t (vs := []) (inb_nat hi), chk_nil, Int.toNat_natCast, wrap64 (by omega) (by omega)]
    have hm := pr.getD_mem (l := l) hi
    by_cases h0 : 0 < i
    · have ec : pr.com i = [[44]] := by unfold pr.com; rw [if_pos h0]
      rw [ec] at hv ⊢
      simp only [List.length_append, List.length_cons, List.length_nil] at hv
      rw [if_pos (by simp; omega), put_eq _ _ _ (by simp only [List.length_cons, List.length_nil]; omega)]
      simp only [Option.bind_some, bindS_r]
      rw [H _ hm _ (by simp only [List.length_append, List.length_cons, List.length_nil]; omega)]
      simp only [Option.bind_some, blockS_r, bindS_r, List.append_assoc]
      rfl
    · have ec : pr.com i = [] := by unfold pr.com; rw [if_neg h0]
      rw [ec] at hv ⊢
      simp only [List.nil_append] at hv
      rw [if_neg (by simp; omega), bindS_r, H _ hm _ hv]
      simp only [Option.bind_some, blockS_r, bindS_r, List.append_assoc]
      rfl
  · intro v
    simp only [letV]
    rw [if_neg (by simp)]

theorem named_wrap {n : Int} (h : I64 n) (l : List Bytes) (hl : l.length ≤ 1000) : pr.named (IntKind.i64.wrap (n + 1)) l = pr.named (n + 1) l := by
  obtain ⟨h1, h2⟩ := h
  by_cases hn : n = 9223372036854775807
  · subst hn
    have e : IntKind.i64.wrap (9223372036854775807 + 1) = -9223372036854775808 := by kernel_rfl
    rw [e]
    unfold pr.named
    rw [if_pos (by omega), if_pos (by omega)]
  · rw [wrap64 (by omega) (by omega)]

theorem expr_eq : ∀ (n K : Nat) (e : S27) (w : List Bytes), pr.sz e ≤ n → 4 * n + 40 ≤ K → n ≤ 100000000 → pr.okE e → w.length + (pr.tkE e).length ≤ 1000000000 → fnS (F23 K (⟨w⟩ : S62) e) = some ⟨w ++ pr.tkE e⟩
  | 0, K, e, w, hn, hK, hb, ho, hw => by have := pr.sz_eq e; omega
  | n + 1, K, e, w, hn, hK, hb, ho, hw => by
    have hs := pr.sz_eq e
    rw [pr.okE_eq] at ho
    rw [pr.tkE_eq] at hw ⊢
    obtain ⟨k, nn, nm, wh, ag⟩ := e
    dsimp only at hs ho hw ⊢
    obtain ⟨ho1, ho4⟩ := ho
    have hl := pr.szl_len ag
    obtain ⟨K, rfl⟩ : ∃ j, K = j + 4 := ⟨K - 4, by omega⟩
    have H : ∀ K', 4 * n + 40 ≤ K' → HE K' ag := fun K' hK' x hx w hw => expr_eq n K' x w (by have := pr.szl_mem ag x hx; omega) hK' (by omega) (pr.okL_mem ag ho4 x hx) hw
    have hA0 : ∀ w : List Bytes, w.length + (pr.atT (pr.agE ag) 0).length ≤ 1000000000 → fnS (F44 (K + 3) (⟨w⟩ : S62) ag 0) = some ⟨w ++ pr.atT (pr.agE ag) 0⟩ := fun w hw => at_eq (K + 2) w ag (H _ (by omega)) 0 hw
    have hO0 : ∀ w : List Bytes, w.length + (pr.opdT (pr.agE ag) 0).length ≤ 1000000000 → fnS (F46 (K + 3) (⟨w⟩ : S62) ag 0) = some ⟨w ++ pr.opdT (pr.agE ag) 0⟩ := fun w hw => opd_eq (K + 1) w ag (H _ (by omega)) 0 hw
    have hO1 : ∀ w : List Bytes, w.length + (pr.opdT (pr.agE ag) 1).length ≤ 1000000000 → fnS (F46 (K + 3) (⟨w⟩ : S62) ag 1) = some ⟨w ++ pr.opdT (pr.agE ag) 1⟩ := fun w hw => opd_eq (K + 1) w ag (H _ (by omega)) 1 hw
    have hL : ∀ w : List Bytes, w.length + (pr.listT (pr.agE ag)).length ≤ 1000000000 → fnS (F47 (K + 3) (⟨w⟩ : S62) ag) = some ⟨w ++ pr.listT (pr.agE ag)⟩ := fun w hw => list_eq (K + 2) w ag (H _ (by omega)) (by omega) (by omega) hw
    have hag : (ag.map fun x => (x.fKind, pr.tkE x)) = pr.agE ag := rfl
    rw [hag] at hw ⊢
    rw [F23]
    dsimp only
    have hnw := named_wrap ho1 [nm, [84, 72, 73, 83], [83, 85, 80, 69, 82]] (by simp)
    clear H hag hs hl ho4
    by_cases h1 : k = 1
    · subst h1
      have hl := numT_len nn
      simp only [pr.exprT, ↓reduceIte] at hw
      simp (disch := (first | assumption | ((try simp only [List.length_append, List.length_cons, List.length_nil]); omega))) only [pr.exprT, ↓reduceIte, Int.reduceBEq, Int.reduceEq, number_eq, put_eq, Option.bind_some, bindS_r, bindS_l, blockS_r, blockS_ll, blockS_lr, fnS_r, fnS_l, letV, condM_t, chk_nil, named_eq, List.append_assoc, List.cons_append, List.nil_append, List.length_append, List.length_cons, List.length_nil]
    by_cases h2 : k = 2
    · subst h2
      simp only [pr.exprT, ↓reduceIte, Int.reduceEq, List.length_append, List.length_cons, List.length_nil] at hw
      simp (disch := (first | assumption | ((try simp only [List.length_append, List.length_cons, List.length_nil]); omega))) only [pr.exprT, ↓reduceIte, Int.reduceBEq, Int.reduceEq, Int.reduceSub, Int.reduceAdd, Bool.false_eq_true, hnw, pr.ops, hA0, hO0, hO1, hL, put_eq, Option.bind_some, bindS_r, bindS_l, blockS_r, blockS_ll, blockS_lr, fnS_r, fnS_l, letV, condM_t, chk_nil, named_eq, List.append_assoc, List.cons_append, List.nil_append, List.length_append, List.length_cons, List.length_nil]
    by_cases h3 : k = 3
    · subst h3
      simp only [pr.exprT, ↓reduceIte, Int.reduceEq, List.length_append, List.length_cons, List.length_nil] at hw
      simp (disch := (first | assumption | ((try simp only [List.length_append, List.length_cons, List.length_nil]); omega))) only [pr.exprT, ↓reduceIte, Int.reduceBEq, Int.reduceEq, Int.reduceSub, Int.reduceAdd, Bool.false_eq_true, hnw, pr.ops, hA0, hO0, hO1, hL, put_eq, Option.bind_some, bindS_r, bindS_l, blockS_r, blockS_ll, blockS_lr, fnS_r, fnS_l, letV, condM_t, chk_nil, named_eq, List.append_assoc, List.cons_append, List.nil_append, List.length_append, List.length_cons, List.length_nil]
    by_cases h4 : k = 4
    · subst h4
      simp only [pr.exprT, ↓reduceIte, Int.reduceEq, List.length_append, List.length_cons, List.length_nil] at hw
      simp (disch := (first | assumption | ((try simp only [List.length_append, List.length_cons, List.length_nil]); omega))) only [pr.exprT, ↓reduceIte, Int.reduceBEq, Int.reduceEq, Int.reduceSub, Int.reduceAdd, Bool.false_eq_true, hnw, pr.ops, hA0, hO0, hO1, hL, put_eq, Option.bind_some, bindS_r, bindS_l, blockS_r, blockS_ll, blockS_lr, fnS_r, fnS_l, letV, condM_t, chk_nil, named_eq, List.append_assoc, List.cons_append, List.nil_append, List.length_append, List.length_cons, List.length_nil]
    by_cases h5 : k = 5
    · subst h5
      simp only [pr.exprT, ↓reduceIte, Int.reduceEq, List.length_append, List.length_cons, List.length_nil] at hw
      simp (disch := (first | assumption | ((try simp only [List.length_append, List.length_cons, List.length_nil]); omega))) only [pr.exprT, ↓reduceIte, Int.reduceBEq, Int.reduceEq, Int.reduceSub, Int.reduceAdd, Bool.false_eq_true, hnw, pr.ops, hA0, hO0, hO1, hL, put_eq, Option.bind_some, bindS_r, bindS_l, blockS_r, blockS_ll, blockS_lr, fnS_r, fnS_l, letV, condM_t, chk_nil, named_eq, List.append_assoc, List.cons_append, List.nil_append, List.length_append, List.length_cons, List.length_nil]
    by_cases h6 : k = 6
    · subst h6
      simp only [pr.exprT, ↓reduceIte, Int.reduceEq, List.length_append, List.length_cons, List.length_nil] at hw
      simp (disch := (first | assumption | ((try simp only [List.length_append, List.length_cons, List.length_nil]); omega))) only [pr.exprT, ↓reduceIte, Int.reduceBEq, Int.reduceEq, Int.reduceSub, Int.reduceAdd, Bool.false_eq_true, hnw, pr.ops, hA0, hO0, hO1, hL, put_eq, Option.bind_some, bindS_r, bindS_l, blockS_r, blockS_ll, blockS_lr, fnS_r, fnS_l, letV, condM_t, chk_nil, named_eq, List.append_assoc, List.cons_append, List.nil_append, List.length_append, List.length_cons, List.length_nil]
    by_cases h7 : k = 7
    · subst h7
      simp only [pr.exprT, ↓reduceIte, Int.reduceEq, List.length_append, List.length_cons, List.length_nil] at hw
      simp (disch := (first | assumption | ((try simp only [List.length_append, List.length_cons, List.length_nil]); omega))) only [pr.exprT, ↓reduceIte, Int.reduceBEq, Int.reduceEq, Int.reduceSub, Int.reduceAdd, Bool.false_eq_true, hnw, pr.ops, hA0, hO0, hO1, hL, put_eq, Option.bind_some, bindS_r, bindS_l, blockS_r, blockS_ll, blockS_lr, fnS_r, fnS_l, letV, condM_t, chk_nil, named_eq, List.append_assoc, List.cons_append, List.nil_append, List.length_append, List.length_cons, List.length_nil]
      rfl
    by_cases h8 : k = 8
    · subst h8
      simp only [pr.exprT, ↓reduceIte, Int.reduceEq, List.length_append, List.length_cons, List.length_nil] at hw
      simp (disch := (first | assumption | ((try simp only [List.length_append, List.length_cons, List.length_nil]); omega))) only [pr.exprT, ↓reduceIte, Int.reduceBEq, Int.reduceEq, Int.reduceSub, Int.reduceAdd, Bool.false_eq_true, hnw, pr.ops, hA0, hO0, hO1, hL, put_eq, Option.bind_some, bindS_r, bindS_l, blockS_r, blockS_ll, blockS_lr, fnS_r, fnS_l, letV, condM_t, chk_nil, named_eq, List.append_assoc, List.cons_append, List.nil_append, List.length_append, List.length_cons, List.length_nil]
      rfl
    by_cases h9 : k = 9
    · subst h9
      simp only [pr.exprT, ↓reduceIte, Int.reduceEq, List.length_append, List.length_cons, List.length_nil] at hw
      simp (disch := (first | assumption | ((try simp only [List.length_append, List.length_cons, List.length_nil]); omega))) only [pr.exprT, ↓reduceIte, Int.reduceBEq, Int.reduceEq, Int.reduceSub, Int.reduceAdd, Bool.false_eq_true, hnw, pr.ops, hA0, hO0, hO1, hL, put_eq, Option.bind_some, bindS_r, bindS_l, blockS_r, blockS_ll, blockS_lr, fnS_r, fnS_l, letV, condM_t, chk_nil, named_eq, List.append_assoc, List.cons_append, List.nil_append, List.length_append, List.length_cons, List.length_nil]
    by_cases h10 : k = 10
    · subst h10
      simp only [pr.exprT, ↓reduceIte, Int.reduceEq, List.length_append, List.length_cons, List.length_nil] at hw
      simp (disch := (first | assumption | ((try simp only [List.length_append, List.length_cons, List.length_nil]); omega))) only [pr.exprT, ↓reduceIte, Int.reduceBEq, Int.reduceEq, Int.reduceSub, Int.reduceAdd, Bool.false_eq_true, hnw, pr.ops, hA0, hO0, hO1, hL, put_eq, Option.bind_some, bindS_r, bindS_l, blockS_r, blockS_ll, blockS_lr, fnS_r, fnS_l, letV, condM_t, chk_nil, named_eq, List.append_assoc, List.cons_append, List.nil_append, List.length_append, List.length_cons, List.length_nil]
      rfl
    by_cases h11 : k = 11
    · subst h11
      simp only [pr.exprT, ↓reduceIte, Int.reduceEq, List.length_append, List.length_cons, List.length_nil] at hw
      simp (disch := (first | assumption | ((try simp only [List.length_append, List.length_cons, List.length_nil]); omega))) only [pr.exprT, ↓reduceIte, Int.reduceBEq, Int.reduceEq, Int.reduceSub, Int.reduceAdd, Bool.false_eq_true, hnw, pr.ops, hA0, hO0, hO1, hL, put_eq, Option.bind_some, bindS_r, bindS_l, blockS_r, blockS_ll, blockS_lr, fnS_r, fnS_l, letV, condM_t, chk_nil, named_eq, List.append_assoc, List.cons_append, List.nil_append, List.length_append, List.length_cons, List.length_nil]
      rfl
    by_cases h12 : k = 12
    · subst h12
      simp only [pr.exprT, ↓reduceIte, Int.reduceEq, List.length_append, List.length_cons, List.length_nil] at hw
      simp (disch := (first | assumption | ((try simp only [List.length_append, List.length_cons, List.length_nil]); omega))) only [pr.exprT, ↓reduceIte, Int.reduceBEq, Int.reduceEq, Int.reduceSub, Int.reduceAdd, Bool.false_eq_true, hnw, pr.ops, hA0, hO0, hO1, hL, put_eq, Option.bind_some, bindS_r, bindS_l, blockS_r, blockS_ll, blockS_lr, fnS_r, fnS_l, letV, condM_t, chk_nil, named_eq, List.append_assoc, List.cons_append, List.nil_append, List.length_append, List.length_cons, List.length_nil]
      rfl
    by_cases h13 : k = 13
    · subst h13
      simp only [pr.exprT, ↓reduceIte, Int.reduceEq, List.length_append, List.length_cons, List.length_nil] at hw
      simp (disch := (first | assumption | ((try simp only [List.length_append, List.length_cons, List.length_nil]); omega))) only [pr.exprT, ↓reduceIte, Int.reduceBEq, Int.reduceEq, Int.reduceSub, Int.reduceAdd, Bool.false_eq_true, hnw, pr.ops, hA0, hO0, hO1, hL, put_eq, Option.bind_some, bindS_r, bindS_l, blockS_r, blockS_ll, blockS_lr, fnS_r, fnS_l, letV, condM_t, chk_nil, named_eq, List.append_assoc, List.cons_append, List.nil_append, List.length_append, List.length_cons, List.length_nil]
    by_cases h14 : k = 14
    · subst h14
      simp only [pr.exprT, ↓reduceIte, Int.reduceEq, List.length_append, List.length_cons, List.length_nil] at hw
      simp (disch := (first | assumption | ((try simp only [List.length_append, List.length_cons, List.length_nil]); omega))) only [pr.exprT, ↓reduceIte, Int.reduceBEq, Int.reduceEq, Int.reduceSub, Int.reduceAdd, Bool.false_eq_true, hnw, pr.ops, hA0, hO0, hO1, hL, put_eq, Option.bind_some, bindS_r, bindS_l, blockS_r, blockS_ll, blockS_lr, fnS_r, fnS_l, letV, condM_t, chk_nil, named_eq, List.append_assoc, List.cons_append, List.nil_append, List.length_append, List.length_cons, List.length_nil]
    simp only [pr.exprT, h1, h2, h3, h4, h5, h6, h7, h8, h9, h10, h11, h12, h13, h14, ↓reduceIte, List.length_cons, List.length_nil] at hw
    simp (disch := (first | assumption | ((try simp only [List.length_append, List.length_cons, List.length_nil]); omega))) only [pr.exprT, h1, h2, h3, h4, h5, h6, h7, h8, h9, h10, h11, h12, h13, h14, beq_iff_eq, ↓reduceIte, Bool.false_eq_true, put_eq, Option.bind_some, bindS_r, bindS_l, blockS_r, blockS_ll, blockS_lr, fnS_r, fnS_l, letV, condM_t, chk_nil, named_eq, List.append_assoc, List.cons_append, List.nil_append, List.length_append, List.length_cons, List.length_nil]
end Go.Proofs.YtaoklnkjcobokaaDoor

set_option linter.unusedVariables false
set_option linter.unusedSimpArgs false
set_option linter.unusedSectionVars false
namespace Go.Proofs.YtaoklnkjcobokaaDoor
open Go Go.Proofs Go.Dl
set_option maxRecDepth 100000

theorem flag_eq (K : Nat) (w : List Bytes) (b : Bool) (x : Bytes) (hw : w.length + (pr.flag b x).length ≤ 1000000000) : fnS (F50 K (⟨w⟩ : S62) b x) = some ⟨w ++ pr.flag b x⟩ := by
  unfold F50
  cases b with
  | true =>
    simp only [pr.flag, ↓reduceIte, List.length_cons, List.length_nil] at hw
    simp (disch := (first | assumption | ((try simp only [List.length_append, List.length_cons, List.length_nil]); omega))) only [pr.flag, ↓reduceIte, put_eq, Option.bind_some, bindS_r, bindS_l, blockS_r, blockS_ll, blockS_lr, fnS_r, fnS_l, letV, condM_t, chk_true, chk_nil, List.append_assoc, List.cons_append, List.nil_append, List.append_nil, List.length_append, List.length_cons, List.length_nil]
  | false => simp [pr.flag, put_eq, Option.bind_some, bindS_r, bindS_l, blockS_r, blockS_ll, blockS_lr, fnS_r, fnS_l, letV, condM_t, chk_true, chk_nil, List.append_assoc, List.cons_append, List.nil_append, List.append_nil, List.length_append, List.length_cons, List.length_nil]

theorem vars_eq (K : Nat) (w : List Bytes) (l : List S38) (hok : ∀ v ∈ l, pr.okV v) (hK : l.length < K) (hl : l.length ≤ 1000000000) (hw : w.length + (pr.varsT l).length ≤ 1000000000) : fnS (F34 K (⟨w⟩ : S62) l) = some ⟨w ++ pr.varsT l⟩ := by
  unfold F34
  dsimp only
  rw [pr.iter_gat Sum.inl l (fun _ v => pr.varT v) 1000000000 hK hw]
  · rfl
  · intro i hi v hv
    have hm := pr.getD_mem (l := l) hi
    have h1 := pr.lt_dec hi
    have h2 := inb_nat hi
    have h3 := pr.wrap_succ (i := i) (by omega)
    have n1 : pr.named 1 [[73, 78], [79, 85, 84]] = [73, 78] := rfl
    have n2 : pr.named 2 [[73, 78], [79, 85, 84]] = [79, 85, 84] := rfl
    simp only [h1, h2, h3, letV, chk_true, chk_nil, ↓reduceIte, Int.toNat_natCast] at hv ⊢
    generalize l.getD i default = x at hm hv ⊢
    obtain ⟨⟨k1, k2⟩, k3, k4⟩ := hok x hm
    obtain ⟨nm, ty, init, dir, slot⟩ := x
    dsimp only at k1 k2 k3 k4 hv ⊢
    by_cases c1 : init = 0 <;> by_cases c2 : dir = 1 <;> by_cases c3 : dir = 2
    · omega
    · subst c1; subst c2; simp only [pr.varT, Int.reduceEq, ↓reduceIte, List.length_append, List.length_cons, List.length_nil] at hv
      simp (disch := (first | assumption | ((try simp only [List.length_append, List.length_cons, List.length_nil]); omega))) only [pr.varT, n1, n2, named_eq, typ_eq, number_eq, bne_self_eq_false, bne_iff_ne, ne_eq, not_false_eq_true, Bool.or_eq_true, Bool.or_self, Bool.true_or, Bool.or_true, Bool.or_false, Bool.false_or, Bool.false_eq_true, beq_iff_eq, or_self, or_true, true_or, false_or, or_false, c3, Int.reduceEq, Int.reduceBEq, ↓reduceIte, put_eq, Option.bind_some, bindS_r, bindS_l, blockS_r, blockS_ll, blockS_lr, fnS_r, fnS_l, letV, condM_t, chk_true, chk_nil, List.append_assoc, List.cons_append, List.nil_append, List.append_nil, List.length_append, List.length_cons, List.length_nil]
    · subst c1; subst c3; simp only [pr.varT, Int.reduceEq, ↓reduceIte, List.length_append, List.length_cons, List.length_nil] at hv
      simp (disch := (first | assumption | ((try simp only [List.length_append, List.length_cons, List.length_nil]); omega))) only [pr.varT, n1, n2, named_eq, typ_eq, number_eq, bne_self_eq_false, bne_iff_ne, ne_eq, not_false_eq_true, Bool.or_eq_true, Bool.or_self, Bool.true_or, Bool.or_true, Bool.or_false, Bool.false_or, Bool.false_eq_true, beq_iff_eq, or_self, or_true, true_or, false_or, or_false, c2, Int.reduceEq, Int.reduceBEq, ↓reduceIte, put_eq, Option.bind_some, bindS_r, bindS_l, blockS_r, blockS_ll, blockS_lr, fnS_r, fnS_l, letV, condM_t, chk_true, chk_nil, List.append_assoc, List.cons_append, List.nil_append, List.append_nil, List.length_append, List.length_cons, List.length_nil]
    · subst c1; simp only [pr.varT, c2, c3, Int.reduceEq, ↓reduceIte, List.length_append, List.length_cons, List.length_nil] at hv
      simp (disch := (first | assumption | ((try simp only [List.length_append, List.length_cons, List.length_nil]); omega))) only [pr.varT, n1, n2, named_eq, typ_eq, number_eq, bne_self_eq_false, bne_iff_ne, ne_eq, not_false_eq_true, Bool.or_eq_true, Bool.or_self, Bool.true_or, Bool.or_true, Bool.or_false, Bool.false_or, Bool.false_eq_true, beq_iff_eq, or_self, or_true, true_or, false_or, or_false, c2, c3, Int.reduceEq, Int.reduceBEq, ↓reduceIte, put_eq, Option.bind_some, bindS_r, bindS_l, blockS_r, blockS_ll, blockS_lr, fnS_r, fnS_l, letV, condM_t, chk_true, chk_nil, List.append_assoc, List.cons_append, List.nil_append, List.append_nil, List.length_append, List.length_cons, List.length_nil]
    · omega
    · subst c2; simp only [pr.varT, c1, Int.reduceEq, ↓reduceIte, List.length_append, List.length_cons, List.length_nil] at hv
      simp (disch := (first | assumption | ((try simp only [List.length_append, List.length_cons, List.length_nil]); omega))) only [pr.varT, n1, n2, named_eq, typ_eq, number_eq, bne_self_eq_false, bne_iff_ne, ne_eq, not_false_eq_true, Bool.or_eq_true, Bool.or_self, Bool.true_or, Bool.or_true, Bool.or_false, Bool.false_or, Bool.false_eq_true, beq_iff_eq, or_self, or_true, true_or, false_or, or_false, c1, c3, Int.reduceEq, Int.reduceBEq, ↓reduceIte, put_eq, Option.bind_some, bindS_r, bindS_l, blockS_r, blockS_ll, blockS_lr, fnS_r, fnS_l, letV, condM_t, chk_true, chk_nil, List.append_assoc, List.cons_append, List.nil_append, List.append_nil, List.length_append, List.length_cons, List.length_nil]
    · subst c3; simp only [pr.varT, c1, Int.reduceEq, ↓reduceIte, List.length_append, List.length_cons, List.length_nil] at hv
      simp (disch := (first | assumption | ((try simp only [List.length_append, List.length_cons, List.length_nil]); omega))) only [pr.varT, n1, n2, named_eq, typ_eq, number_eq, bne_self_eq_false, bne_iff_ne, ne_eq, not_false_eq_true, Bool.or_eq_true, Bool.or_self, Bool.true_or, Bool.or_true, Bool.or_false, Bool.false_or, Bool.false_eq_true, beq_iff_eq, or_self, or_true, true_or, false_or, or_false, c1, c2, Int.reduceEq, Int.reduceBEq, ↓reduceIte, put_eq, Option.bind_some, bindS_r, bindS_l, blockS_r, blockS_ll, blockS_lr, fnS_r, fnS_l, letV, condM_t, chk_true, chk_nil, List.append_assoc, List.cons_append, List.nil_append, List.append_nil, List.length_append, List.length_cons, List.length_nil]
    · simp only [pr.varT, c1, c2, c3, Int.reduceEq, ↓reduceIte, List.length_append, List.length_cons, List.length_nil] at hv
      simp (disch := (first | assumption | ((try simp only [List.length_append, List.length_cons, List.length_nil]); omega))) only [pr.varT, n1, n2, named_eq, typ_eq, number_eq, bne_self_eq_false, bne_iff_ne, ne_eq, not_false_eq_true, Bool.or_eq_true, Bool.or_self, Bool.true_or, Bool.or_true, Bool.or_false, Bool.false_or, Bool.false_eq_true, beq_iff_eq, or_self, or_true, true_or, false_or, or_false, c1, c2, c3, Int.reduceEq, Int.reduceBEq, ↓reduceIte, put_eq, Option.bind_some, bindS_r, bindS_l, blockS_r, blockS_ll, blockS_lr, fnS_r, fnS_l, letV, condM_t, chk_true, chk_nil, List.append_assoc, List.cons_append, List.nil_append, List.append_nil, List.length_append, List.length_cons, List.length_nil]
  · intro v
    simp only [pr.lt_dec0, letV, Bool.false_eq_true, ↓reduceIte]

theorem head_eq (K : Nat) (w : List Bytes) (m : S54) (hok : pr.okM m) (hl : m.fParams.length ≤ 1000000000) (hK : m.fParams.length < K) (hw : w.length + (pr.headT m).length ≤ 1000000000) : fnS (F49 K (⟨w⟩ : S62) m) = some ⟨w ++ pr.headT m⟩ := by
  obtain ⟨o1, ⟨o2, o3⟩, o4, o5⟩ := hok
  obtain ⟨nm, ov, ab, fi, ps, res, vs, bd⟩ := m
  dsimp only at o1 o2 o3 hl hK hw ⊢
  unfold F49
  dsimp only
  simp only [pr.headT, List.length_append, List.length_cons, List.length_nil] at hw
  rw [put_eq _ _ _ (by simp only [List.length_cons, List.length_nil]; omega)]
  simp only [Option.bind_some]
  have hT : (w ++ [nm, [40]]).length + (pr.parT ps).length ≤ 1000000000 := by simp only [List.length_append, List.length_cons, List.length_nil]; omega
  rw [pr.iter_gat Sum.inl ps (fun i v => pr.com i ++ [v.fName, [58]] ++ pr.tyT v.fType) 1000000000 hK hT]
  rotate_left
  · intro i hi v hv
    have hm := pr.getD_mem (l := ps) hi
    have h1 := pr.lt_dec hi
    have h2 := inb_nat hi
    have h3 := pr.wrap_succ (i := i) (by omega)
    simp only [h1, h2, h3, letV, chk_true, chk_nil, ↓reduceIte, Int.toNat_natCast] at hv ⊢
    generalize ps.getD i default = x at hm hv ⊢
    obtain ⟨⟨k1, k2⟩, k3, k4⟩ := o1 x hm
    by_cases h0 : 0 < i
    · have ec : pr.com i = [[44]] := by unfold pr.com; rw [if_pos h0]
      have h5 : decide ((i : Int) > 0) = true := by simp; omega
      simp only [ec, List.length_append, List.length_cons, List.length_nil] at hv
      simp (disch := (first | assumption | ((try simp only [List.length_append, List.length_cons, List.length_nil]); omega))) only [ec, h5, ↓reduceIte, typ_eq, put_eq, Option.bind_some, bindS_r, bindS_l, blockS_r, blockS_ll, blockS_lr, fnS_r, fnS_l, letV, condM_t, chk_true, chk_nil, List.append_assoc, List.cons_append, List.nil_append, List.append_nil, List.length_append, List.length_cons, List.length_nil]
    · have ec : pr.com i = [] := by unfold pr.com; rw [if_neg h0]
      have h5 : decide ((i : Int) > 0) = false := by simp; omega
      simp only [ec, List.length_append, List.length_cons, List.length_nil] at hv
      simp (disch := (first | assumption | ((try simp only [List.length_append, List.length_cons, List.length_nil]); omega))) only [ec, h5, Bool.false_eq_true, ↓reduceIte, typ_eq, put_eq, Option.bind_some, bindS_r, bindS_l, blockS_r, blockS_ll, blockS_lr, fnS_r, fnS_l, letV, condM_t, chk_true, chk_nil, List.append_assoc, List.cons_append, List.nil_append, List.append_nil, List.length_append, List.length_cons, List.length_nil]
  · intro v
    simp only [pr.lt_dec0, letV, Bool.false_eq_true, ↓reduceIte]
  change fnS (bindS (blockS (Option.map Sum.inl (some (Sum.inl ((w ++ [nm, [40]]) ++ pr.parT ps))))) _) = _
  by_cases c : res.fKind = 0
  · have cb : (res.fKind != 0) = false := by simp [c]
    simp only [c, ↓reduceIte, List.length_nil] at hw
    simp (disch := (first | assumption | ((try simp only [List.length_append, List.length_cons, List.length_nil]); omega))) only [pr.headT, c, bne_self_eq_false, Bool.false_eq_true, Option.map_some, ↓reduceIte, put_eq, Option.bind_some, bindS_r, bindS_l, blockS_r, blockS_ll, blockS_lr, fnS_r, fnS_l, letV, condM_t, chk_true, chk_nil, List.append_assoc, List.cons_append, List.nil_append, List.append_nil, List.length_append, List.length_cons, List.length_nil]
  · have cb : (res.fKind != 0) = true := by simp [c]
    simp only [c, ↓reduceIte, List.length_append, List.length_cons, List.length_nil] at hw
    simp (disch := (first | assumption | ((try simp only [List.length_append, List.length_cons, List.length_nil]); omega))) only [pr.headT, c, cb, Bool.false_eq_true, Option.map_some, typ_eq, ↓reduceIte, put_eq, Option.bind_some, bindS_r, bindS_l, blockS_r, blockS_ll, blockS_lr, fnS_r, fnS_l, letV, condM_t, chk_true, chk_nil, List.append_assoc, List.cons_append, List.nil_append, List.append_nil, List.length_append, List.length_cons, List.length_nil]
end Go.Proofs.YtaoklnkjcobokaaDoor

set_option linter.unusedVariables false
set_option linter.unusedSimpArgs false
set_option linter.unusedSectionVars false
namespace Go.Proofs.YtaoklnkjcobokaaDoor
open Go Go.Proofs Go.Dl
set_option maxRecDepth 100000

theorem gat_flat {X : Type} (f : X → List Bytes) : ∀ (l : List X) (n : Nat), pr.gat (fun _ x => f x) n l = (l.map f).flatten
  | [], _ => rfl
  | x :: r, n => by
    simp only [pr.gat, List.map_cons, List.flatten_cons]
    rw [gat_flat f r (n + 1)]

/-- What is known of the parts. -/
def HS (K : Nat) (l : List S43) : Prop := ∀ x ∈ l, ∀ w : List Bytes, w.length + (pr.tkS x).length ≤ 1000000000 → fnS (F51 K (⟨w⟩ : S62) x) = some ⟨w ++ pr.tkS x⟩

theorem sts_eq (K : Nat) (w : List Bytes) (l : List S43) (H : HS K l) (hK : l.length < K) (hl : l.length ≤ 1000000000) (hw : w.length + (pr.stsT l).length ≤ 1000000000) : fnS (F35 (K + 1) (⟨w⟩ : S62) l) = some ⟨w ++ pr.stsT l⟩ := by
  unfold pr.stsT at hw ⊢
  rw [← gat_flat pr.tkS l 0] at hw ⊢
  rw [F35]
  dsimp only
  rw [pr.iter_gat Sum.inl l (fun _ v => pr.tkS v) 1000000000 hK hw]
  · rfl
  · intro i hi v hv
    have hm := pr.getD_mem (l := l) hi
    have h1 := pr.lt_dec hi
    have h2 := inb_nat hi
    have h3 := pr.wrap_succ (i := i) (by omega)
    have h4 := H _ hm v hv
    simp only [h1, h2, h3, h4, ↓reduceIte, Int.toNat_natCast, put_eq, Option.bind_some, bindS_r, bindS_l, blockS_r, blockS_ll, blockS_lr, fnS_r, fnS_l, letV, condM_t, chk_true, chk_nil, List.append_assoc, List.cons_append, List.nil_append, List.append_nil, List.length_append, List.length_cons, List.length_nil]
  · intro v
    simp only [pr.lt_dec0, letV, Bool.false_eq_true, ↓reduceIte]

theorem blk_none {bl : List (List S43)} {i : Nat} (h : bl.length ≤ i) : pr.blkT (pr.agB bl) i = [] := by
  have : (pr.agB bl)[i]? = none := by rw [List.getElem?_eq_none]; simpa [pr.agB] using h
  unfold pr.blkT
  rw [List.getD, this]; rfl
theorem agB_get {bl : List (List S43)} {i : Nat} (h : i < bl.length) : (pr.agB bl).getD i [] = (bl.getD i default).map pr.tkS := by
  rw [pr.getD_el h]
  unfold pr.agB
  rw [List.getD, List.getElem?_map, List.getElem?_eq_getElem h]; rfl
theorem blk_some {bl : List (List S43)} {i : Nat} (h : i < bl.length) : pr.blkT (pr.agB bl) i = pr.stsT (bl.getD i default) := by
  unfold pr.blkT pr.stsT
  rw [agB_get h]

theorem blk_eq (K : Nat) (w : List Bytes) (bl : List (List S43)) (H : ∀ b ∈ bl, HS K b ∧ b.length < K ∧ b.length ≤ 1000000000) (i : Nat) (hw : w.length + (pr.blkT (pr.agB bl) i).length ≤ 1000000000) : fnS (F58 (K + 2) (⟨w⟩ : S62) bl (i : Int)) = some ⟨w ++ pr.blkT (pr.agB bl) i⟩ := by
  rw [F58]
  simp only [letV]
  by_cases h : i < bl.length
  · obtain ⟨a1, a2, a3⟩ := H _ (pr.getD_mem h)
    rw [blk_some h] at hw ⊢
    rw [if_pos (by simp; omega), chk_t (vs := []) (inb_nat h), chk_nil, Int.toNat_natCast, sts_eq K w _ a1 a2 a3 hw]; rfl
  · rw [blk_none (by omega)] at hw ⊢
    rw [if_neg (by simp; omega), List.append_nil]; rfl

theorem else_eq (K : Nat) (w : List Bytes) (bl : List (List S43)) (e : Bytes) (H : ∀ b ∈ bl, HS K b ∧ b.length < K ∧ b.length ≤ 1000000000) (i : Nat) (hw : w.length + (pr.elseT (pr.agB bl) i ++ [e]).length ≤ 1000000000) : fnS (F64 (K + 2) (⟨w⟩ : S62) bl (i : Int) e) = some ⟨w ++ (pr.elseT (pr.agB bl) i ++ [e])⟩ := by
  rw [F64]
  simp only [letV]
  by_cases h : i < bl.length
  · obtain ⟨a1, a2, a3⟩ := H _ (pr.getD_mem h)
    have h1 := pr.lt_dec h
    have h2 := inb_nat h
    have h0 := agB_get h
    unfold pr.elseT at hw ⊢
    rw [h0] at hw ⊢
    rw [Int.toNat_natCast]
    generalize bl.getD i default = b at hw a1 a2 a3 ⊢
    simp only [h1, h2, Bool.not_true, Bool.false_or, Bool.true_and] at hw ⊢
    cases b with
    | nil =>
      simp only [List.map_nil, pr.elseL, List.length_nil, List.nil_append, List.length_cons] at hw
      simp (disch := (first | assumption | ((try simp only [List.length_append, List.length_cons, List.length_nil]); omega))) [pr.elseL, put_eq, Option.bind_some, bindS_r, bindS_l, blockS_r, blockS_ll, blockS_lr, fnS_r, fnS_l, letV, condM_t, chk_true, chk_nil, List.append_assoc, List.cons_append, List.nil_append, List.append_nil, List.length_append, List.length_cons, List.length_nil]
    | cons x r =>
      have hs := sts_eq K
      unfold pr.stsT at hs
      simp only [List.map_cons, pr.elseL, List.length_nil, List.length_append, List.length_cons] at hw hs
      have h3 : decide (Int.ofNat (x :: r).length > 0) = true := by simp
      simp only [h3, ↓reduceIte, List.map_cons, pr.elseL]
      rw [put_eq _ _ _ (by simp only [List.length_nil, List.length_cons]; omega)]
      simp only [Option.bind_some, chk_true, chk_nil]
      have h5 := hs (w ++ [[69, 76, 83, 69]]) (x :: r) a1 a2 a3 (by simp only [List.map_cons, List.length_append, List.length_nil, List.length_cons]; omega)
      simp only [List.map_cons] at h5
      rw [h5]
      simp only [Option.bind_some, bindS_r]
      rw [put_eq _ _ _ (by simp only [List.length_append, List.length_nil, List.length_cons]; omega)]
      simp only [put_eq, Option.bind_some, bindS_r, bindS_l, blockS_r, blockS_ll, blockS_lr, fnS_r, fnS_l, letV, condM_t, chk_true, chk_nil, List.append_assoc, List.cons_append, List.nil_append, List.append_nil, List.length_append, List.length_cons, List.length_nil]
  · have h1 : decide ((i : Int) < Int.ofNat bl.length) = false := by simp; omega
    have h0 : pr.elseT (pr.agB bl) i = [] := by
      unfold pr.elseT
      have : (pr.agB bl)[i]? = none := by rw [List.getElem?_eq_none]; simp only [pr.agB, List.length_map]; omega
      rw [List.getD, this]; rfl
    rw [h0] at hw ⊢
    simp only [List.nil_append, List.length_cons, List.length_nil] at hw
    simp (disch := (first | assumption | ((try simp only [List.length_append, List.length_cons, List.length_nil]); omega))) only [h1, Bool.not_false, Bool.true_or, Bool.false_and, Bool.false_eq_true, ↓reduceIte, put_eq, Option.bind_some, bindS_r, bindS_l, blockS_r, blockS_ll, blockS_lr, fnS_r, fnS_l, letV, condM_t, chk_true, chk_nil, List.append_assoc, List.cons_append, List.nil_append, List.append_nil, List.length_append, List.length_cons, List.length_nil]

theorem lab_eq (K : Nat) (w : List Bytes) (l : List Int) (hok : ∀ n ∈ l, I64 n) (hK : l.length < K) (hl : l.length ≤ 1000000000) (hw : w.length + (pr.labT l).length ≤ 1000000000) {A : Type} {f : List Bytes × Int → Option ((List Bytes ⊕ A) ⊕ (List Bytes × Int))}
    (hf : ∀ (i : Nat), i < l.length → ∀ v : List Bytes, v.length + (pr.com i ++ numT (l.getD i default)).length ≤ 1000000000 → f (v, (i : Int)) = some (.inr (v ++ (pr.com i ++ numT (l.getD i default)), ((i + 1 : Nat) : Int)))) (hs : ∀ v, f (v, (l.length : Int)) = some (.inl (.inl v))) :
    iter K f (w, 0) = some (Sum.inl (w ++ pr.labT l)) := pr.iter_gat Sum.inl l (fun i n => pr.com i ++ numT n) 1000000000 hK hw hf hs

theorem case_eq (K : Nat) (w : List Bytes) (s : S43) (hE : HE (K + 1) s.fExprs) (H : ∀ b ∈ s.fBlocks, HS K b ∧ b.length < K ∧ b.length ≤ 1000000000) (hlab : pr.okLab s.fLabels) (hL : s.fLabels.length < K ∧ s.fLabels.length ≤ 1000000000) (hLl : ∀ x ∈ s.fLabels, x.length < K ∧ x.length ≤ 1000000000) (hw : w.length + (pr.caseT (pr.agE s.fExprs) s.fLabels (pr.agB s.fBlocks)).length ≤ 1000000000) : fnS (F57 (K + 3) (⟨w⟩ : S62) s) = some ⟨w ++ pr.caseT (pr.agE s.fExprs) s.fLabels (pr.agB s.fBlocks)⟩ := by
  obtain ⟨k, n, nm, ex, lb, bl⟩ := s
  dsimp only at hE H hlab hL hLl hw ⊢
  have hA0 : ∀ w : List Bytes, w.length + (pr.atT (pr.agE ex) 0).length ≤ 1000000000 → fnS (F44 (K + 2) (⟨w⟩ : S62) ex 0) = some ⟨w ++ pr.atT (pr.agE ex) 0⟩ := fun w hw => at_eq (K + 1) w ex hE 0 hw
  rw [F57]
  dsimp only
  unfold pr.caseT at hw ⊢
  simp only [List.length_append, List.length_cons, List.length_nil] at hw
  rw [put_eq _ _ _ (by simp only [List.length_cons, List.length_nil]; omega), Option.bind_some, hA0 _ (by simp only [List.length_append, List.length_cons, List.length_nil]; omega), Option.bind_some, put_eq _ _ _ (by simp only [List.length_append, List.length_cons, List.length_nil]; omega), Option.bind_some]
  have hT : (w ++ [[67, 65, 83, 69]] ++ pr.atT (pr.agE ex) 0 ++ [[79, 70]]).length + (pr.gat (fun i l => pr.labT l ++ [[58]] ++ pr.blkT (pr.agB bl) i) 0 lb).length ≤ 1000000000 := by simp only [List.length_append, List.length_cons, List.length_nil]; omega
  dsimp only
  rw [pr.iter_gat Sum.inl lb (fun i l => pr.labT l ++ [[58]] ++ pr.blkT (pr.agB bl) i) 1000000000 (by omega) hT]
  rotate_left
  · intro i hi v hv
    have hm := pr.getD_mem (l := lb) hi
    have h1 := pr.lt_dec hi
    have h2 := inb_nat hi
    have h3 := pr.wrap_succ (i := i) (by omega)
    simp only [List.length_append, List.length_cons, List.length_nil] at hv
    obtain ⟨l1, l2⟩ := hLl _ hm
    have hok := hlab _ hm
    dsimp only
    rw [Int.toNat_natCast]
    generalize lb.getD i default = x at hm hv l1 l2 hok ⊢
    simp only [h1, h2, h3, letV, chk_true, chk_nil, ↓reduceIte] at hv ⊢
    rw [lab_eq (K + 2) v x hok (by omega) l2 (by omega)]
    rotate_left
    · intro j hj v hv
      have hm := pr.getD_mem (l := x) hj
      have h1 := pr.lt_dec hj
      have h2 := inb_nat hj
      have h3 := pr.wrap_succ (i := j) (by omega)
      have hn := hok _ hm
      simp only [h1, h2, h3, letV, chk_true, chk_nil, ↓reduceIte, Int.toNat_natCast] at hv ⊢
      by_cases h0 : 0 < j
      · have ec : pr.com j = [[44]] := by unfold pr.com; rw [if_pos h0]
        have h5 : decide ((j : Int) > 0) = true := by simp; omega
        simp only [ec, List.length_append, List.length_cons, List.length_nil] at hv
        simp (disch := (first | assumption | ((try simp only [List.length_append, List.length_cons, List.length_nil]); omega))) only [ec, h5, ↓reduceIte, number_eq, put_eq, Option.bind_some, bindS_r, bindS_l, blockS_r, blockS_ll, blockS_lr, fnS_r, fnS_l, letV, condM_t, chk_true, chk_nil, List.append_assoc, List.cons_append, List.nil_append, List.append_nil, List.length_append, List.length_cons, List.length_nil]
      · have ec : pr.com j = [] := by unfold pr.com; rw [if_neg h0]
        have h5 : decide ((j : Int) > 0) = false := by simp; omega
        simp only [ec, List.length_append, List.length_cons, List.length_nil] at hv
        simp (disch := (first | assumption | ((try simp only [List.length_append, List.length_cons, List.length_nil]); omega))) only [ec, h5, Bool.false_eq_true, ↓reduceIte, number_eq, put_eq, Option.bind_some, bindS_r, bindS_l, blockS_r, blockS_ll, blockS_lr, fnS_r, fnS_l, letV, condM_t, chk_true, chk_nil, List.append_assoc, List.cons_append, List.nil_append, List.append_nil, List.length_append, List.length_cons, List.length_nil]
    · intro v
      simp only [pr.lt_dec0, letV, Bool.false_eq_true, ↓reduceIte]
    simp only [Option.map_some, blockS_ll, bindS_r]
    rw [put_eq _ _ _ (by simp only [List.length_append, List.length_cons, List.length_nil]; omega), Option.bind_some, blk_eq K _ bl H i (by simp only [List.length_append, List.length_cons, List.length_nil]; omega)]
    simp only [put_eq, Option.bind_some, bindS_r, bindS_l, blockS_r, blockS_ll, blockS_lr, fnS_r, fnS_l, letV, condM_t, chk_true, chk_nil, List.append_assoc, List.cons_append, List.nil_append, List.append_nil, List.length_append, List.length_cons, List.length_nil]
  · intro v
    simp only [pr.lt_dec0, letV, Bool.false_eq_true, ↓reduceIte]
  simp only [Option.map_some, blockS_ll, bindS_r]
  rw [show (Int.ofNat lb.length) = ((lb.length : Nat) : Int) from rfl, else_eq K _ bl _ H lb.length (by simp only [List.length_append, List.length_cons, List.length_nil]; omega)]
  simp only [put_eq, Option.bind_some, bindS_r, bindS_l, blockS_r, blockS_ll, blockS_lr, fnS_r, fnS_l, letV, condM_t, chk_true, chk_nil, List.append_assoc, List.cons_append, List.nil_append, List.append_nil, List.length_append, List.length_cons, List.length_nil]

theorem choice_eq (K : Nat) (w : List Bytes) (s : S43) (hE : HE (K + 1) s.fExprs) (H : ∀ b ∈ s.fBlocks, HS K b ∧ b.length < K ∧ b.length ≤ 1000000000) (hL : s.fExprs.length < K ∧ s.fExprs.length ≤ 1000000000) (hw : w.length + (pr.ifT (pr.agE s.fExprs) (pr.agB s.fBlocks)).length ≤ 1000000000) : fnS (F56 (K + 3) (⟨w⟩ : S62) s) = some ⟨w ++ pr.ifT (pr.agE s.fExprs) (pr.agB s.fBlocks)⟩ := by
  obtain ⟨k, n, nm, ex, lb, bl⟩ := s
  dsimp only at hE H hL hw ⊢
  rw [F56]
  dsimp only
  unfold pr.ifT at hw ⊢
  have em : (if 1 > (Int.ofNat ex.length) then (1 : Int) else (Int.ofNat ex.length)) = ((max ex.length 1 : Nat) : Int) := by
    by_cases h : 1 > Int.ofNat ex.length
    · rw [if_pos h]; have h' : (ex.length : Int) < 1 := h; omega
    · rw [if_neg h]; have h' : ¬ (ex.length : Int) < 1 := h; show (ex.length : Int) = _; omega
  rw [em]
  simp only [letV]
  rw [agE_len] at hw ⊢
  generalize hm : max ex.length 1 = m at hw ⊢
  simp only [List.length_append, List.length_cons, List.length_nil] at hw
  have hT : w.length + (pr.gat (fun i (_ : Nat) => [pr.ifW i] ++ pr.atT (pr.agE ex) i ++ [[84, 72, 69, 78]] ++ pr.blkT (pr.agB bl) i) 0 (List.range m)).length ≤ 1000000000 := by omega
  have hk : (List.range m).length < K + 2 := by rw [List.length_range]; omega
  rw [pr.iter_gatw pr.ifW (b0 := [73, 70]) rfl Sum.inl (List.range m) (fun i (_ : Nat) => [pr.ifW i] ++ pr.atT (pr.agE ex) i ++ [[84, 72, 69, 78]] ++ pr.blkT (pr.agB bl) i) 1000000000 hk hT]
  rotate_left
  · intro i hi v hv
    rw [List.length_range] at hi
    have h1 : decide ((i : Int) < (m : Int)) = true := by simp; omega
    have h3 := pr.wrap_succ (i := i) (by omega)
    simp only [List.length_append, List.length_cons, List.length_nil] at hv
    simp only [h1, h3, ↓reduceIte]
    rw [put_eq _ _ _ (by simp only [List.length_cons, List.length_nil]; omega), Option.bind_some]
    dsimp only
    rw [at_eq (K + 1) _ ex hE i (by simp only [List.length_append, List.length_cons, List.length_nil]; omega), Option.bind_some, put_eq _ _ _ (by simp only [List.length_append, List.length_cons, List.length_nil]; omega), Option.bind_some, blk_eq K _ bl H i (by simp only [List.length_append, List.length_cons, List.length_nil]; omega)]
    have hw : pr.ifW (i + 1) = [69, 76, 83, 73, 70] := by unfold pr.ifW; rw [if_neg (by omega)]
    simp only [hw, put_eq, Option.bind_some, bindS_r, bindS_l, blockS_r, blockS_ll, blockS_lr, fnS_r, fnS_l, letV, condM_t, chk_true, chk_nil, List.append_assoc, List.cons_append, List.nil_append, List.append_nil, List.length_append, List.length_cons, List.length_nil]
  · intro v
    have h1 : decide ((m : Int) < (m : Int)) = false := by simp
    simp only [List.length_range, h1, Bool.false_eq_true, ↓reduceIte]
  simp only [Option.map_some, blockS_ll, bindS_r]
  rw [else_eq K _ bl _ H m (by simp only [List.length_append, List.length_cons, List.length_nil]; omega)]
  simp only [put_eq, Option.bind_some, bindS_r, bindS_l, blockS_r, blockS_ll, blockS_lr, fnS_r, fnS_l, letV, condM_t, chk_true, chk_nil, List.append_assoc, List.cons_append, List.nil_append, List.append_nil, List.length_append, List.length_cons, List.length_nil]
end Go.Proofs.YtaoklnkjcobokaaDoor
