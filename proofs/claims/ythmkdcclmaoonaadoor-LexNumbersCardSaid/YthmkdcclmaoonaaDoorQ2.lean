/- The quick machine's values: numbers as natural numbers, texts as one number; what each says of a value of the store; how they are taken apart. No conditions. -/
import Derived.Test.YthmkdcclmaoonaaDoorQ1
import Derived.Test.YthmkdcclmaoonaaDoorA4
set_option linter.unusedVariables false
set_option linter.unusedSimpArgs false
set_option linter.unusedSectionVars false
set_option linter.constructorNameAsVariable false
namespace Go.Qm
open Go.Am
noncomputable section

/-- What is said of numbers, truths and texts that are not known: by variables. -/
class Rho where
  i : Nat → Int
  b : Nat → Bool
  s : Nat → List UInt8

/-- Sums of some times what is left of a number that is not known: of (a, v, u) the a-fold of variable v's rest by u + 1. -/
inductive Dg where
  | nil
  | cons (a v u : Nat) (r : Dg)

/-- Texts of so many bytes, each such a sum. -/
inductive Tx where
  | nil
  | cons (c : Nat) (l : Dg) (r : Tx)

/-- Terms over them. -/
inductive Sy where
  | po (c : Nat) (l : Dg)
  | tx (t : Tx)
  | vi (n : Nat)
  | vb (n : Nat)
  | vs (n : Nat)
  | ci (n : Nat)
  | cs (l n : Nat)
  | ar (o : BinOp) (k : IntKind) (a b : Sy)
  | cv (k : IntKind) (a : Sy)
  | mx (m : Bool) (a b : Sy)
  | cm (o : BinOp) (a b : Sy)
  | es (a b : Sy)
  | no (a : Sy)
  | cz (n : Int)
  | cb (x : Bool)
  | eb (a b : Sy)
  | an (a b : Sy)

inductive Ks where
  | i (k : IntKind)
  | b
  | s

inductive V where
  | bot
  | i (n : Nat)
  | y (n : Nat)
  | z (k : IntKind) (n : Int)
  | b (x : Bool)
  | p (q : Pt) (o : Nat)
  | s (l n : Nat)
  | l (q : Pt) (o n c : Nat)
  | n (c : Nat)
  | m (q : Pt)
  | f (g : Nat) (x y : V)
  | e (t : Nat) (v : V)
  | nil
  | cons (h t : V)
  | t (l : V)
  | q (kd : Ks) (t : Sy)

/-! Texts. -/

def bytesN : Nat → Nat → List UInt8
  | 0, _ => []
  | k + 1, n => UInt8.ofNat (n % 256) :: bytesN k (n / 256)

def joinN : List UInt8 → Nat
  | [] => 0
  | b :: r => b.toNat + 256 * joinN r

theorem bytesN_length : ∀ (k n : Nat), (bytesN k n).length = k
  | 0, _ => rfl
  | k + 1, n => by simp [bytesN, bytesN_length k]

theorem bytesN_join : ∀ (l : List UInt8), bytesN l.length (joinN l) = l
  | [] => rfl
  | b :: r => by
    have hb : b.toNat < 256 := b.toNat_lt
    have h1 : (b.toNat + 256 * joinN r) % 256 = b.toNat := by omega
    have h2 : (b.toNat + 256 * joinN r) / 256 = joinN r := by omega
    show UInt8.ofNat ((b.toNat + 256 * joinN r) % 256) :: bytesN r.length ((b.toNat + 256 * joinN r) / 256) = b :: r
    rw [h1, h2, bytesN_join r]
    simp

theorem bytesN_mod : ∀ (k n : Nat), bytesN k (n % 256 ^ k) = bytesN k n
  | 0, _ => rfl
  | k + 1, n => by
    have e : 256 ^ (k + 1) = 256 * 256 ^ k := by rw [Nat.pow_succ, Nat.mul_comm]
    have h1 : n % 256 ^ (k + 1) % 256 = n % 256 := by rw [e, Nat.mod_mul_right_mod]
    have h2 : n % 256 ^ (k + 1) / 256 = n / 256 % 256 ^ k := by rw [e, Nat.mod_mul_right_div_self]
    simp only [bytesN]
    rw [h1, h2, bytesN_mod k]

theorem bytesN_append : ∀ (a b n m : Nat), n < 256 ^ a → bytesN (a + b) (n + 256 ^ a * m) = bytesN a n ++ bytesN b m
  | 0, b, n, m, h => by
    have : n = 0 := by simpa using h
    subst this
    simp [bytesN]
  | a + 1, b, n, m, h => by
    have e : 256 ^ (a + 1) = 256 * 256 ^ a := by rw [Nat.pow_succ, Nat.mul_comm]
    rw [e] at h
    have h1 : (n + 256 ^ (a + 1) * m) % 256 = n % 256 := by rw [e, Nat.mul_assoc]; omega
    have h2 : (n + 256 ^ (a + 1) * m) / 256 = n / 256 + 256 ^ a * m := by rw [e, Nat.mul_assoc]; omega
    rw [show a + 1 + b = (a + b) + 1 by omega]
    simp only [bytesN]
    rw [h1, h2, bytesN_append a b _ m (by omega)]
    rfl

theorem bytesN_get : ∀ (k n i : Nat), i < k → (bytesN k n)[i]? = some (UInt8.ofNat (n / 256 ^ i % 256))
  | 0, _, _, h => by omega
  | k + 1, n, 0, _ => by simp [bytesN]
  | k + 1, n, i + 1, h => by
    simp only [bytesN, List.getElem?_cons_succ]
    rw [bytesN_get k _ i (by omega), Nat.div_div_eq_div_mul, Nat.pow_succ, Nat.mul_comm]

theorem bytesN_drop : ∀ (i k n : Nat), (bytesN k n).drop i = bytesN (k - i) (n / 256 ^ i)
  | 0, k, n => by simp
  | i + 1, 0, n => by simp [bytesN]
  | i + 1, k + 1, n => by
    simp only [bytesN, List.drop_succ_cons]
    rw [bytesN_drop i k, Nat.div_div_eq_div_mul, Nat.pow_succ, Nat.mul_comm (256 ^ i), show k + 1 - (i + 1) = k - i by omega]

theorem bytesN_take : ∀ (j k n : Nat), j ≤ k → (bytesN k n).take j = bytesN j n
  | 0, k, n, _ => by simp [bytesN]
  | j + 1, 0, n, h => by omega
  | j + 1, k + 1, n, h => by simp only [bytesN, List.take_succ_cons]; rw [bytesN_take j k _ (by omega)]

theorem joinN_bytes : ∀ (k n : Nat), joinN (bytesN k n) = n % 256 ^ k
  | 0, n => by simp [bytesN, joinN, Nat.mod_one]
  | k + 1, n => by
    have e : 256 ^ (k + 1) = 256 * 256 ^ k := by rw [Nat.pow_succ, Nat.mul_comm]
    simp only [bytesN, joinN]
    rw [joinN_bytes k, e, Nat.mod_mul]
    have : (UInt8.ofNat (n % 256)).toNat = n % 256 := by simp
    rw [this]

theorem bytesN_eq {l n l' n' : Nat} : bytesN l n = bytesN l' n' ↔ l = l' ∧ n % 256 ^ l = n' % 256 ^ l' := by
  constructor
  · intro h
    have h1 : l = l' := by rw [← bytesN_length l n, h, bytesN_length]
    refine ⟨h1, ?_⟩
    rw [← joinN_bytes l n, h, joinN_bytes]
  · rintro ⟨rfl, h⟩
    rw [← bytesN_mod l n, h, bytesN_mod]

/-! Numbers. -/

/-- 64 bits, as a number. -/
def sg (n : Nat) : Int := ((n + 9223372036854775808) % 18446744073709551616 : Nat) - 9223372036854775808

theorem sg_small {n : Nat} (h : n < 9223372036854775808) : sg n = n := by
  unfold sg
  rw [Nat.mod_eq_of_lt (by omega)]
  omega

theorem wrap64_eq (z : Int) : IntKind.i64.wrap z = (z + 9223372036854775808) % 18446744073709551616 - 9223372036854775808 := by
  show (let m := z % (2 ^ 64 : Int); if (true && decide (m ≥ (2 ^ 63 : Int))) = true then m - (2 ^ 64 : Int) else m) = _
  simp only [Bool.true_and, decide_eq_true_eq]
  have e1 : (2 ^ 64 : Int) = 18446744073709551616 := by decide
  have e2 : (2 ^ 63 : Int) = 9223372036854775808 := by decide
  rw [e1, e2]
  split <;> omega

theorem sg_wrap (n : Nat) (z : Int) (h : ((n : Int) - z) % 18446744073709551616 = 0) : sg n = IntKind.i64.wrap z := by
  rw [wrap64_eq, sg]
  omega

theorem sg_mod (n : Nat) : sg (n % 18446744073709551616) = sg n := by unfold sg; omega

theorem sg_add (m n : Nat) : sg ((m + n) % 18446744073709551616) = IntKind.i64.wrap (sg m + sg n) := by
  apply sg_wrap
  unfold sg
  omega

theorem sg_sub (m n : Nat) : sg ((m + (18446744073709551616 - n % 18446744073709551616)) % 18446744073709551616) = IntKind.i64.wrap (sg m - sg n) := by
  apply sg_wrap
  unfold sg
  omega

theorem sg_cong (n : Nat) : ∃ q : Int, (n : Int) = sg n + 18446744073709551616 * q := by
  refine ⟨((n + 9223372036854775808) / 18446744073709551616 : Nat), ?_⟩
  unfold sg
  omega

theorem mul_cong (M a b q r : Int) : (a + M * q) * (b + M * r) - a * b = M * (q * b + a * r + M * (q * r)) := by
  simp only [Int.add_mul, Int.mul_add]
  have h1 : M * q * b = M * (q * b) := by rw [Int.mul_assoc]
  have h2 : a * (M * r) = M * (a * r) := by rw [← Int.mul_assoc, Int.mul_comm a, Int.mul_assoc]
  have h3 : M * q * (M * r) = M * (M * (q * r)) := by
    rw [Int.mul_assoc, ← Int.mul_assoc q, Int.mul_comm q, Int.mul_assoc M q r]
  rw [h1, h2, h3]
  omega

theorem sg_mul (m n : Nat) : sg ((m * n) % 18446744073709551616) = IntKind.i64.wrap (sg m * sg n) := by
  rw [sg_mod]
  apply sg_wrap
  obtain ⟨q, hq⟩ := sg_cong m
  obtain ⟨r, hr⟩ := sg_cong n
  rw [Int.natCast_mul, hq, hr, mul_cong]
  exact Int.mul_emod_right _ _

theorem sg_eq (m n : Nat) : (sg m = sg n) ↔ m % 18446744073709551616 = n % 18446744073709551616 := by unfold sg; omega
theorem sg_lt (m n : Nat) : (sg m < sg n) ↔ (m + 9223372036854775808) % 18446744073709551616 < (n + 9223372036854775808) % 18446744073709551616 := by unfold sg; omega
theorem sg_le (m n : Nat) : (sg m ≤ sg n) ↔ (m + 9223372036854775808) % 18446744073709551616 ≤ (n + 9223372036854775808) % 18446744073709551616 := by unfold sg; omega

/-! Terms. -/

section
variable [Rho]

def dgv : Dg → Nat
  | .nil => 0
  | .cons a v u r => a * ((Rho.i v).toNat % (u + 1)) + dgv r

def txv : Tx → List UInt8
  | .nil => []
  | .cons c l r => UInt8.ofNat (c + dgv l) :: txv r

def iv : Sy → Int
  | .po c l => ((c + dgv l : Nat) : Int)
  | .vi n => Rho.i n
  | .ci n => sg n
  | .cz n => n
  | .ar o k a b => (match intA o k (iv a) k (iv b) with
    | some (.int _ r) => r
    | _ => 0)
  | .cv k a => wrapF k (iv a)
  | .mx m a b => bif m then (bif decide (iv b > iv a) then iv b else iv a) else (bif decide (iv b < iv a) then iv b else iv a)
  | _ => 0

def sv : Sy → List UInt8
  | .tx t => txv t
  | .vs n => Rho.s n
  | .cs l n => bytesN l n
  | _ => []

def bv : Sy → Bool
  | .vb n => Rho.b n
  | .cm o a b => (cmpI o (iv a) (iv b)).getD false
  | .es a b => sv a == sv b
  | .no a => !bv a
  | .cb x => x
  | .eb a b => bv a == bv b
  | .an a b => bv a && bv b
  | _ => false

def qv (kd : Ks) (t : Sy) : Value :=
  match kd with
  | .i k => .int k (iv t)
  | .b => .bool (bv t)
  | .s => .string ⟨⟨sv t⟩⟩

/-! Are two terms the same? -/

def oc : BinOp → Nat
  | .add => 0 | .sub => 1 | .mul => 2 | .quo => 3 | .rem => 4 | .and => 5 | .or => 6 | .xor => 7 | .shl => 8 | .shr => 9 | .andNot => 10 | .eql => 11 | .neq => 12 | .lss => 13 | .leq => 14 | .gtr => 15 | .geq => 16
def kc : IntKind → Nat
  | .i8 => 0 | .i16 => 1 | .i32 => 2 | .i64 => 3 | .u8 => 4 | .u16 => 5 | .u32 => 6 | .u64 => 7
def bc (x : Bool) : Nat := Bool.rec (motive := fun _ => Nat) 0 1 x

def zc (n : Int) : Nat := Int.rec (motive := fun _ => Nat) (fun _ => 0) (fun _ => 1) n
def zd (n : Int) : Nat := Int.rec (motive := fun _ => Nat) (fun m => m) (fun m => m) n
theorem z_inj {a b : Int} (h : zc a = zc b) (k : zd a = zd b) : a = b := by
  cases a <;> cases b <;> first | (have h' : (0 : Nat) = 1 := h; omega) | (have h' : (1 : Nat) = 0 := h; omega) | (exact congrArg _ k)

theorem oc_inj {a b : BinOp} (h : oc a = oc b) : a = b := by cases a <;> cases b <;> first | rfl | (simp [oc] at h)
theorem kc_inj {a b : IntKind} (h : kc a = kc b) : a = b := by cases a <;> cases b <;> first | rfl | (simp [kc] at h)
theorem bc_inj {a b : Bool} (h : bc a = bc b) : a = b := by cases a <;> cases b <;> first | rfl | (simp [bc] at h)

def linD : Dg → List Nat → List Nat
  | .nil, r => 0 :: r
  | .cons a v u l, r => 1 :: a :: v :: u :: linD l r
def linT : Tx → List Nat → List Nat
  | .nil, r => 0 :: r
  | .cons c l t, r => 1 :: c :: linD l (linT t r)

theorem linD_inj : ∀ (a b : Dg) (r s : List Nat), linD a r = linD b s → a = b ∧ r = s
  | .nil, .nil, _, _, h => ⟨rfl, (List.cons.inj h).2⟩
  | .nil, .cons _ _ _ _, _, _, h => by simp [linD] at h
  | .cons _ _ _ _, .nil, _, _, h => by simp [linD] at h
  | .cons a v u l, .cons a' v' u' l', r, s, h => by
    simp only [linD, List.cons.injEq, true_and] at h
    obtain ⟨h1, h2, h3, h⟩ := h
    obtain ⟨e, h⟩ := linD_inj l l' r s h
    exact ⟨by rw [h1, h2, h3, e], h⟩
theorem linT_inj : ∀ (a b : Tx) (r s : List Nat), linT a r = linT b s → a = b ∧ r = s
  | .nil, .nil, _, _, h => ⟨rfl, (List.cons.inj h).2⟩
  | .nil, .cons _ _ _, _, _, h => by simp [linT] at h
  | .cons _ _ _, .nil, _, _, h => by simp [linT] at h
  | .cons c l t, .cons c' l' t', r, s, h => by
    simp only [linT, List.cons.injEq, true_and] at h
    obtain ⟨h1, h⟩ := h
    obtain ⟨e, h⟩ := linD_inj _ _ _ _ h
    obtain ⟨e2, h⟩ := linT_inj _ _ _ _ h
    exact ⟨by rw [h1, e, e2], h⟩

/-- A term as numbers. -/
def lin : Sy → List Nat → List Nat
  | .po c l, r => 16 :: c :: linD l r
  | .tx t, r => 17 :: linT t r
  | .vi n, r => 0 :: n :: r
  | .vb n, r => 1 :: n :: r
  | .vs n, r => 2 :: n :: r
  | .ci n, r => 3 :: n :: r
  | .cs l n, r => 4 :: l :: n :: r
  | .ar o k a b, r => 5 :: oc o :: kc k :: lin a (lin b r)
  | .cv k a, r => 6 :: kc k :: lin a r
  | .mx m a b, r => 7 :: bc m :: lin a (lin b r)
  | .cm o a b, r => 8 :: oc o :: lin a (lin b r)
  | .es a b, r => 9 :: lin a (lin b r)
  | .no a, r => 10 :: lin a r
  | .cz n, r => 11 :: zc n :: zd n :: r
  | .cb x, r => 13 :: bc x :: r
  | .eb a b, r => 14 :: lin a (lin b r)
  | .an a b, r => 15 :: lin a (lin b r)

theorem lin_inj : ∀ (t u : Sy) (r s : List Nat), lin t r = lin u s → t = u ∧ r = s := by
  intro t
  induction t with
  | po c l =>
    intro u r s h
    cases u <;> first | (exfalso; simp [lin] at h; done) | skip
    simp only [lin, List.cons.injEq, true_and] at h
    obtain ⟨h1, h⟩ := h
    obtain ⟨e, h⟩ := linD_inj _ _ _ _ h
    exact ⟨by rw [h1, e], h⟩
  | tx t =>
    intro u r s h
    cases u <;> first | (exfalso; simp [lin] at h; done) | skip
    simp only [lin, List.cons.injEq, true_and] at h
    obtain ⟨e, h⟩ := linT_inj _ _ _ _ h
    exact ⟨by rw [e], h⟩
  | ar o k a b iha ihb =>
    intro u r s h
    cases u <;> first | (exfalso; simp [lin] at h; done) | skip
    rename_i o' k' a' b'
    simp only [lin, List.cons.injEq, true_and] at h
    obtain ⟨h1, h2, h⟩ := h
    obtain ⟨e1, h⟩ := iha _ _ _ h
    obtain ⟨e2, h⟩ := ihb _ _ _ h
    exact ⟨by rw [oc_inj h1, kc_inj h2, e1, e2], h⟩
  | cv k a iha =>
    intro u r s h
    cases u <;> first | (exfalso; simp [lin] at h; done) | skip
    rename_i k' a'
    simp only [lin, List.cons.injEq, true_and] at h
    obtain ⟨h2, h⟩ := h
    obtain ⟨e1, h⟩ := iha _ _ _ h
    exact ⟨by rw [kc_inj h2, e1], h⟩
  | mx m a b iha ihb =>
    intro u r s h
    cases u <;> first | (exfalso; simp [lin] at h; done) | skip
    rename_i m' a' b'
    simp only [lin, List.cons.injEq, true_and] at h
    obtain ⟨h1, h⟩ := h
    obtain ⟨e1, h⟩ := iha _ _ _ h
    obtain ⟨e2, h⟩ := ihb _ _ _ h
    exact ⟨by rw [bc_inj h1, e1, e2], h⟩
  | cm o a b iha ihb =>
    intro u r s h
    cases u <;> first | (exfalso; simp [lin] at h; done) | skip
    rename_i o' a' b'
    simp only [lin, List.cons.injEq, true_and] at h
    obtain ⟨h1, h⟩ := h
    obtain ⟨e1, h⟩ := iha _ _ _ h
    obtain ⟨e2, h⟩ := ihb _ _ _ h
    exact ⟨by rw [oc_inj h1, e1, e2], h⟩
  | es a b iha ihb =>
    intro u r s h
    cases u <;> first | (exfalso; simp [lin] at h; done) | skip
    rename_i a' b'
    simp only [lin, List.cons.injEq, true_and] at h
    obtain ⟨e1, h⟩ := iha _ _ _ h
    obtain ⟨e2, h⟩ := ihb _ _ _ h
    exact ⟨by rw [e1, e2], h⟩
  | eb a b iha ihb =>
    intro u r s h
    cases u <;> first | (exfalso; simp [lin] at h; done) | skip
    rename_i a' b'
    simp only [lin, List.cons.injEq, true_and] at h
    obtain ⟨e1, h⟩ := iha _ _ _ h
    obtain ⟨e2, h⟩ := ihb _ _ _ h
    exact ⟨by rw [e1, e2], h⟩
  | an a b iha ihb =>
    intro u r s h
    cases u <;> first | (exfalso; simp [lin] at h; done) | skip
    rename_i a' b'
    simp only [lin, List.cons.injEq, true_and] at h
    obtain ⟨e1, h⟩ := iha _ _ _ h
    obtain ⟨e2, h⟩ := ihb _ _ _ h
    exact ⟨by rw [e1, e2], h⟩
  | no a iha =>
    intro u r s h
    cases u <;> first | (exfalso; simp [lin] at h; done) | skip
    rename_i a'
    simp only [lin, List.cons.injEq, true_and] at h
    obtain ⟨e1, h⟩ := iha _ _ _ h
    exact ⟨by rw [e1], h⟩
  | vi n =>
    intro u r s h
    cases u <;> first | (exfalso; simp [lin] at h; done) | skip
    rename_i n'
    simp only [lin, List.cons.injEq, true_and] at h
    exact ⟨by rw [h.1], h.2⟩
  | vb n =>
    intro u r s h
    cases u <;> first | (exfalso; simp [lin] at h; done) | skip
    rename_i n'
    simp only [lin, List.cons.injEq, true_and] at h
    exact ⟨by rw [h.1], h.2⟩
  | vs n =>
    intro u r s h
    cases u <;> first | (exfalso; simp [lin] at h; done) | skip
    rename_i n'
    simp only [lin, List.cons.injEq, true_and] at h
    exact ⟨by rw [h.1], h.2⟩
  | ci n =>
    intro u r s h
    cases u <;> first | (exfalso; simp [lin] at h; done) | skip
    rename_i n'
    simp only [lin, List.cons.injEq, true_and] at h
    exact ⟨by rw [h.1], h.2⟩
  | cs l n =>
    intro u r s h
    cases u <;> first | (exfalso; simp [lin] at h; done) | skip
    rename_i l' n'
    simp only [lin, List.cons.injEq, true_and] at h
    exact ⟨by rw [h.1, h.2.1], h.2.2⟩
  | cz n =>
    intro u r s h
    cases u <;> first | (exfalso; simp [lin] at h; done) | skip
    rename_i n'
    simp only [lin, List.cons.injEq, true_and] at h
    exact ⟨by rw [z_inj h.1 h.2.1], h.2.2⟩
  | cb x =>
    intro u r s h
    cases u <;> first | (exfalso; simp [lin] at h; done) | skip
    rename_i x'
    simp only [lin, List.cons.injEq, true_and] at h
    exact ⟨by rw [bc_inj h.1], h.2⟩

def leqN (a : List Nat) : List Nat → Bool :=
  List.rec (motive := fun _ => List Nat → Bool) (fun b => List.rec (motive := fun _ => Bool) true (fun _ _ _ => false) b) (fun x _ ih b => List.rec (motive := fun _ => Bool) false (fun y r _ => Bool.rec (motive := fun _ => Bool) false (ih r) (Nat.beq x y)) b) a

theorem leqN_spec : ∀ (a b : List Nat), leqN a b = true → a = b
  | [], b, h => by cases b <;> first | rfl | cases h
  | x :: a, b, h => by
    cases b with
    | nil => cases h
    | cons y b =>
      have h' : Bool.rec (motive := fun _ => Bool) false (leqN a b) (Nat.beq x y) = true := h
      cases hb : Nat.beq x y with
      | false => rw [hb] at h'; cases h'
      | true => rw [hb] at h'; rw [Nat.eq_of_beq_eq_true hb, leqN_spec a b h']

/-- The same term. -/
def syq (a b : Sy) : Bool := leqN (lin a []) (lin b [])
theorem syq_spec {a b : Sy} (h : syq a b = true) : a = b := (lin_inj a b [] [] (leqN_spec _ _ h)).1

theorem qv_one (kd : Ks) (t : Sy) : oneC (qv kd t) = true ∧ cellsV (qv kd t) = [qv kd t] := by cases kd <;> exact ⟨rfl, rfl⟩

end

variable [Rho]

/-! What a value says. -/

def nilV (c : Nat) : Value :=
  match c with
  | 0 => .pointer none
  | 1 => .slice none 0 0
  | 2 => .map none
  | 3 => .nilFunc
  | _ => .nilIface

theorem nilV_one (c : Nat) : oneC (nilV c) = true := by unfold nilV; split <;> rfl
theorem nilV_cells (c : Nat) : cellsV (nilV c) = [nilV c] := by unfold nilV; split <;> rfl

def dv : V → Value × List Value
  | .bot => (Am.bot, [])
  | .i n => (.int .i64 (sg n), [])
  | .y n => (.int .u8 (.ofNat n), [])
  | .z k n => (.int k n, [])
  | .b x => (.bool x, [])
  | .p q o => (.pointer (some ⟨q.num, o, none⟩), [])
  | .s l n => (.string ⟨⟨bytesN l n⟩⟩, [])
  | .l q o n c => (.slice (some ⟨q.num, o, none⟩) n c, [])
  | .n c => (nilV c, [])
  | .m q => (.map (some q.num), [])
  | .f g x y => (.func (.func g) ⟨(dv x).2⟩ ⟨(dv y).2⟩, [])
  | .e t v => (.iface t (dv v).1, [])
  | .nil => (.agg ⟨[]⟩, [])
  | .cons h t => (.agg ⟨(dv h).1 :: (dv t).2⟩, (dv h).1 :: (dv t).2)
  | .t l => (.tuple ⟨(dv l).2⟩, [])
  | .q kd u => (qv kd u, [])

abbrev dec (x : V) : Value := (dv x).1
abbrev decL (x : V) : List Value := (dv x).2

/-- It says what it says, or nothing. -/
def VQ (x : V) (v : Value) : Prop := x = .bot ∨ v = dec x

theorem VQ.bot (v : Value) : VQ .bot v := .inl rfl
theorem VQ.mk (x : V) : VQ x (dec x) := .inr rfl
theorem VQ.eq {x : V} {v : Value} (h : VQ x v) (hb : x ≠ .bot) : v = dec x := by
  rcases h with h | h
  · exact absurd h hb
  · exact h

def ptO (a : Addr) : Option (Pt × Nat) :=
  match a.spot with
  | some _ => none
  | none => bif Nat.blt a.block 1048576 then some (Pt.of a.block, a.off) else none

theorem ptO_some {a : Addr} {r : Pt × Nat} (h : ptO a = some r) : (⟨r.1.num, r.2, none⟩ : Addr) = a := by
  unfold ptO at h
  obtain ⟨bk, off, sp⟩ := a
  cases sp with
  | some _ => cases h
  | none =>
    cases hb : Nat.blt bk 1048576 with
    | false => rw [hb] at h; cases h
    | true =>
      rw [hb] at h
      simp only [cond_true, Option.some.injEq] at h
      subst h
      have : bk < 1048576 := by simpa [Nat.blt_eq] using hb
      simp only [Pt.of_num this]

/-- A number of 64 bits. -/
def unI (n : Int) : Option Nat :=
  match n with
  | .ofNat m => bif Nat.blt m 9223372036854775808 then some m else none
  | .negSucc m => bif Nat.blt m 9223372036854775808 then some (18446744073709551615 - m) else none

theorem unI_some {n : Int} {m : Nat} (h : unI n = some m) : sg m = n := by
  unfold unI at h
  split at h
  · rename_i q
    cases hb : Nat.blt q 9223372036854775808 with
    | false => rw [hb] at h; cases h
    | true =>
      rw [hb] at h
      simp only [cond_true, Option.some.injEq] at h
      subst h
      have : q < 9223372036854775808 := by simpa [Nat.blt_eq] using hb
      rw [sg_small this]
      rfl
  · rename_i q
    cases hb : Nat.blt q 9223372036854775808 with
    | false => rw [hb] at h; cases h
    | true =>
      rw [hb] at h
      simp only [cond_true, Option.some.injEq] at h
      subst h
      have : q < 9223372036854775808 := by simpa [Nat.blt_eq] using hb
      unfold sg
      omega

def encS (v : Value) : Option V :=
  match v with
  | .int .i64 n => (match unI n with
    | some m => some (.i m)
    | none => none)
  | .int .u8 (.ofNat n) => some (.y n)
  | .int k n => some (.z k n)
  | .bool x => some (.b x)
  | .string s => some (.s s.data.toList.length (joinN s.data.toList))
  | .pointer none => some (.n 0)
  | .slice none 0 0 => some (.n 1)
  | .map none => some (.n 2)
  | .nilFunc => some (.n 3)
  | .nilIface => some (.n 4)
  | .pointer (some a) => (match ptO a with
    | some r => some (.p r.1 r.2)
    | none => none)
  | .slice (some a) n c => (match ptO a with
    | some r => some (.l r.1 r.2 n c)
    | none => none)
  | .map (some r) => bif Nat.blt r 1048576 then some (.m (Pt.of r)) else none
  | .func (.func g) ⟨[]⟩ ⟨[]⟩ => some (.f g .nil .nil)
  | _ => none

theorem encS_some {v : Value} {x : V} (h : encS v = some x) : dec x = v ∧ x ≠ .bot := by
  unfold encS at h
  split at h
  · split at h
    · rename_i hn
      simp only [Option.some.injEq] at h
      subst h
      exact ⟨by show Value.int .i64 (sg _) = _; rw [unI_some hn], by simp⟩
    · cases h
  · simp only [Option.some.injEq] at h; subst h; exact ⟨rfl, by simp⟩
  · simp only [Option.some.injEq] at h; subst h; exact ⟨rfl, by simp⟩
  · simp only [Option.some.injEq] at h; subst h; exact ⟨rfl, by simp⟩
  · rename_i s
    simp only [Option.some.injEq] at h
    subst h
    refine ⟨?_, by simp⟩
    show Value.string ⟨⟨bytesN _ _⟩⟩ = _
    rw [bytesN_join]
  · simp only [Option.some.injEq] at h; subst h; exact ⟨rfl, by simp⟩
  · simp only [Option.some.injEq] at h; subst h; exact ⟨rfl, by simp⟩
  · simp only [Option.some.injEq] at h; subst h; exact ⟨rfl, by simp⟩
  · simp only [Option.some.injEq] at h; subst h; exact ⟨rfl, by simp⟩
  · simp only [Option.some.injEq] at h; subst h; exact ⟨rfl, by simp⟩
  · split at h
    · rename_i hr
      simp only [Option.some.injEq] at h
      subst h
      exact ⟨by show Value.pointer (some ⟨_, _, none⟩) = _; rw [ptO_some hr], by simp⟩
    · cases h
  · split at h
    · rename_i hr
      simp only [Option.some.injEq] at h
      subst h
      exact ⟨by show Value.slice (some ⟨_, _, none⟩) _ _ = _; rw [ptO_some hr], by simp⟩
    · cases h
  · rename_i r
    cases hb : Nat.blt r 1048576 with
    | false => rw [hb] at h; cases h
    | true =>
      rw [hb] at h
      simp only [cond_true, Option.some.injEq] at h
      subst h
      have : r < 1048576 := by simpa [Nat.blt_eq] using hb
      exact ⟨by show Value.map (some _) = _; rw [Pt.of_num this], by simp⟩
  · simp only [Option.some.injEq] at h; subst h; exact ⟨rfl, by simp⟩
  · cases h

def encL : List Value → Option V
  | [] => some .nil
  | v :: r => (match encS v, encL r with
    | some x, some y => some (.cons x y)
    | _, _ => none)

theorem encL_some : ∀ {l : List Value} {x : V}, encL l = some x → decL x = l ∧ dec x = .agg ⟨l⟩ ∧ x ≠ .bot
  | [], x, h => by simp only [encL, Option.some.injEq] at h; subst h; exact ⟨rfl, rfl, by simp⟩
  | v :: r, x, h => by
    simp only [encL] at h
    split at h
    · rename_i a c ha hc
      simp only [Option.some.injEq] at h
      subst h
      obtain ⟨h1, _⟩ := encS_some ha
      obtain ⟨h2, _, _⟩ := encL_some hc
      refine ⟨?_, ?_, by simp⟩
      · show dec a :: decL c = _
        rw [h1, h2]
      · show Value.agg ⟨dec a :: decL c⟩ = _
        rw [h1, h2]
    · cases h

def enc (v : Value) : Option V :=
  match v with
  | .agg cs => encL cs.toList
  | .tuple cs => (match encL cs.toList with
    | some x => some (.t x)
    | none => none)
  | .iface t v => (match encS v with
    | some x => some (.e t x)
    | none => none)
  | v => encS v

theorem enc_some {v : Value} {x : V} (h : enc v = some x) : dec x = v ∧ x ≠ .bot := by
  unfold enc at h
  split at h
  · obtain ⟨_, h2, h3⟩ := encL_some h
    exact ⟨h2, h3⟩
  · split at h
    · rename_i hx
      simp only [Option.some.injEq] at h
      subst h
      obtain ⟨h1, _, _⟩ := encL_some hx
      exact ⟨by show Value.tuple ⟨decL _⟩ = _; rw [h1], by simp⟩
    · cases h
  · split at h
    · rename_i hx
      simp only [Option.some.injEq] at h
      subst h
      exact ⟨by show Value.iface _ (dec _) = _; rw [(encS_some hx).1], by simp⟩
    · cases h
  · exact encS_some h

/-! How they are taken apart. -/

def asI (x : V) (k : Nat → Bool) : Bool := V.rec (motive := fun _ => Bool) false k (fun _ => false) (fun _ _ => false) (fun _ => false) (fun _ _ => false) (fun _ _ => false) (fun _ _ _ _ => false) (fun _ => false) (fun _ => false) (fun _ _ _ _ _ => false) (fun _ _ _ => false) false (fun _ _ _ _ => false) (fun _ _ => false) (fun _ _ => false) x
def asB (x : V) (k : Bool → Bool) : Bool := V.rec (motive := fun _ => Bool) false (fun _ => false) (fun _ => false) (fun _ _ => false) k (fun _ _ => false) (fun _ _ => false) (fun _ _ _ _ => false) (fun _ => false) (fun _ => false) (fun _ _ _ _ _ => false) (fun _ _ _ => false) false (fun _ _ _ _ => false) (fun _ _ => false) (fun _ _ => false) x
def asP (x : V) (k : Pt → Nat → Bool) : Bool := V.rec (motive := fun _ => Bool) false (fun _ => false) (fun _ => false) (fun _ _ => false) (fun _ => false) k (fun _ _ => false) (fun _ _ _ _ => false) (fun _ => false) (fun _ => false) (fun _ _ _ _ _ => false) (fun _ _ _ => false) false (fun _ _ _ _ => false) (fun _ _ => false) (fun _ _ => false) x
def asS (x : V) (k : Nat → Nat → Bool) : Bool := V.rec (motive := fun _ => Bool) false (fun _ => false) (fun _ => false) (fun _ _ => false) (fun _ => false) (fun _ _ => false) k (fun _ _ _ _ => false) (fun _ => false) (fun _ => false) (fun _ _ _ _ _ => false) (fun _ _ _ => false) false (fun _ _ _ _ => false) (fun _ _ => false) (fun _ _ => false) x
def asT (x : V) (k : V → Bool) : Bool := V.rec (motive := fun _ => Bool) false (fun _ => false) (fun _ => false) (fun _ _ => false) (fun _ => false) (fun _ _ => false) (fun _ _ => false) (fun _ _ _ _ => false) (fun _ => false) (fun _ => false) (fun _ _ _ _ _ => false) (fun _ _ _ => false) false (fun _ _ _ _ => false) (fun l _ => k l) (fun _ _ => false) x
def asF (x : V) (k : Nat → V → V → Bool) : Bool := V.rec (motive := fun _ => Bool) false (fun _ => false) (fun _ => false) (fun _ _ => false) (fun _ => false) (fun _ _ => false) (fun _ _ => false) (fun _ _ _ _ => false) (fun _ => false) (fun _ => false) (fun g x y _ _ => k g x y) (fun _ _ _ => false) false (fun _ _ _ _ => false) (fun _ _ => false) (fun _ _ => false) x
/-- A slice: none, or one. -/
def asL (x : V) (kn : Bool) (k : Pt → Nat → Nat → Nat → Bool) : Bool := V.rec (motive := fun _ => Bool) false (fun _ => false) (fun _ => false) (fun _ _ => false) (fun _ => false) (fun _ _ => false) (fun _ _ => false) k (fun c => Bool.rec false kn (Nat.beq c 1)) (fun _ => false) (fun _ _ _ _ _ => false) (fun _ _ _ => false) false (fun _ _ _ _ => false) (fun _ _ => false) (fun _ _ => false) x
/-- A list: none, or one. -/
def asC (x : V) (kn : Bool) (k : V → V → Bool) : Bool := V.rec (motive := fun _ => Bool) false (fun _ => false) (fun _ => false) (fun _ _ => false) (fun _ => false) (fun _ _ => false) (fun _ _ => false) (fun _ _ _ _ => false) (fun _ => false) (fun _ => false) (fun _ _ _ _ _ => false) (fun _ _ _ => false) kn (fun h t _ _ => k h t) (fun _ _ => false) (fun _ _ => false) x
/-- It says something. -/
def nb (x : V) (r : Bool) : Bool := V.rec (motive := fun _ => Bool) false (fun _ => r) (fun _ => r) (fun _ _ => r) (fun _ => r) (fun _ _ => r) (fun _ _ => r) (fun _ _ _ _ => r) (fun _ => r) (fun _ => r) (fun _ _ _ _ _ => r) (fun _ _ _ => r) r (fun _ _ _ _ => r) (fun _ _ => r) (fun _ _ => r) x
/-- It says something that is known. -/
def nq (x : V) (r : Bool) : Bool := V.rec (motive := fun _ => Bool) false (fun _ => r) (fun _ => r) (fun _ _ => r) (fun _ => r) (fun _ _ => r) (fun _ _ => r) (fun _ _ _ _ => r) (fun _ => r) (fun _ => r) (fun _ _ _ _ _ => r) (fun _ _ _ => r) r (fun _ _ _ _ => r) (fun _ _ => r) (fun _ _ => false) x
theorem nq_spec {x : V} {r : Bool} (h : nq x r = true) : x ≠ .bot ∧ r = true := by
  cases x <;> first | exact ⟨by simp, h⟩ | cases h
/-- It is of one cell. -/
def sc (x : V) (r : Bool) : Bool := V.rec (motive := fun _ => Bool) false (fun _ => r) (fun _ => r) (fun _ _ => r) (fun _ => r) (fun _ _ => r) (fun _ _ => r) (fun _ _ _ _ => r) (fun _ => r) (fun _ => r) (fun _ _ _ _ _ => r) (fun _ _ _ => r) false (fun _ _ _ _ => false) (fun _ _ => false) (fun _ _ => r) x
/-- A number, reckoned out. -/
def lit (n : Nat) (k : Nat → Bool) : Bool := Nat.rec (motive := fun _ => Bool) (k 0) (fun m _ => k (Nat.succ m)) n
def lib (x : Bool) (k : Bool → Bool) : Bool := Bool.rec (k false) (k true) x

theorem asI_spec {x : V} {k : Nat → Bool} (h : asI x k = true) : ∃ n, x = .i n ∧ k n = true := by
  cases x <;> first | exact ⟨_, rfl, h⟩ | cases h
theorem asB_spec {x : V} {k : Bool → Bool} (h : asB x k = true) : ∃ n, x = .b n ∧ k n = true := by
  cases x <;> first | exact ⟨_, rfl, h⟩ | cases h
theorem asP_spec {x : V} {k : Pt → Nat → Bool} (h : asP x k = true) : ∃ q o, x = .p q o ∧ k q o = true := by
  cases x <;> first | exact ⟨_, _, rfl, h⟩ | cases h
theorem asS_spec {x : V} {k : Nat → Nat → Bool} (h : asS x k = true) : ∃ l n, x = .s l n ∧ k l n = true := by
  cases x <;> first | exact ⟨_, _, rfl, h⟩ | cases h
theorem asT_spec {x : V} {k : V → Bool} (h : asT x k = true) : ∃ l, x = .t l ∧ k l = true := by
  cases x <;> first | exact ⟨_, rfl, h⟩ | cases h
theorem asF_spec {x : V} {k : Nat → V → V → Bool} (h : asF x k = true) : ∃ g a b, x = .f g a b ∧ k g a b = true := by
  cases x <;> first | exact ⟨_, _, _, rfl, h⟩ | cases h
theorem asL_spec {x : V} {kn : Bool} {k : Pt → Nat → Nat → Nat → Bool} (h : asL x kn k = true) : (x = .n 1 ∧ kn = true) ∨ ∃ q o n c, x = .l q o n c ∧ k q o n c = true := by
  cases x <;> first | exact .inr ⟨_, _, _, _, rfl, h⟩ | skip
  all_goals first | (rename_i c; cases hb : Nat.beq c 1 with
    | false => (simp only [asL, hb] at h; cases h)
    | true => (simp only [asL, hb] at h; have := Nat.eq_of_beq_eq_true hb; subst this; exact .inl ⟨rfl, h⟩)) | cases h
theorem asC_spec {x : V} {kn : Bool} {k : V → V → Bool} (h : asC x kn k = true) : (x = .nil ∧ kn = true) ∨ ∃ a b, x = .cons a b ∧ k a b = true := by
  cases x <;> first | exact .inr ⟨_, _, rfl, h⟩ | exact .inl ⟨rfl, h⟩ | cases h
theorem nb_spec {x : V} {r : Bool} (h : nb x r = true) : x ≠ .bot ∧ r = true := by
  cases x <;> first | exact ⟨by simp, h⟩ | cases h
theorem sc_spec {x : V} {r : Bool} (h : sc x r = true) : x ≠ .bot ∧ oneC (dec x) = true ∧ cellsV (dec x) = [dec x] ∧ r = true := by
  cases x
  case n c => exact ⟨by simp, nilV_one c, nilV_cells c, h⟩
  case q kd u => exact ⟨by simp, (qv_one kd u).1, (qv_one kd u).2, h⟩
  all_goals first | exact ⟨by simp, rfl, rfl, h⟩ | cases h
theorem lit_eq (n : Nat) (k : Nat → Bool) : lit n k = k n := by cases n <;> rfl
theorem lib_eq (x : Bool) (k : Bool → Bool) : lib x k = k x := by cases x <;> rfl

/-- By what is done with values, through the store's own way. -/
def fall1 (f : Value → Option Value) (x : V) (k : V → Bool) : Bool :=
  nq x (Option.rec (motive := fun _ => Bool) false (fun v => Option.rec (motive := fun _ => Bool) false k (enc v)) (f (dec x)))
def fall2 (f : Value → Value → Option Value) (x y : V) (k : V → Bool) : Bool :=
  nq x (nq y (Option.rec (motive := fun _ => Bool) false (fun v => Option.rec (motive := fun _ => Bool) false k (enc v)) (f (dec x) (dec y))))

theorem fall_end {r : Option Value} {k : V → Bool} (h : Option.rec (motive := fun _ => Bool) false (fun v => Option.rec (motive := fun _ => Bool) false k (enc v)) r = true) : ∃ x, r = some (dec x) ∧ x ≠ .bot ∧ k x = true := by
  cases r with
  | none => cases h
  | some v =>
    have h' : Option.rec (motive := fun _ => Bool) false k (enc v) = true := h
    cases he : enc v with
    | none => rw [he] at h'; cases h'
    | some x =>
      rw [he] at h'
      obtain ⟨h1, h2⟩ := enc_some he
      exact ⟨x, by rw [h1], h2, h'⟩

theorem fall1_spec {f : Value → Option Value} {x : V} {v : Value} {k : V → Bool} (hx : VQ x v) (h : fall1 f x k = true) : ∃ r, f v = some (dec r) ∧ k r = true := by
  obtain ⟨h1, h⟩ := nq_spec h
  obtain ⟨r, h2, _, h3⟩ := fall_end h
  exact ⟨r, by rw [hx.eq h1]; exact h2, h3⟩

theorem fall2_spec {f : Value → Value → Option Value} {x y : V} {v u : Value} {k : V → Bool} (hx : VQ x v) (hy : VQ y u) (h : fall2 f x y k = true) : ∃ r, f v u = some (dec r) ∧ k r = true := by
  obtain ⟨h1, h⟩ := nq_spec h
  obtain ⟨h2, h⟩ := nq_spec h
  obtain ⟨r, h3, _, h4⟩ := fall_end h
  exact ⟨r, by rw [hx.eq h1, hy.eq h2]; exact h3, h4⟩

end
end Go.Qm
