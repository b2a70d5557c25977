/- Without Go: Bv, Bit, Bv32, Pr, C01, C01r, C01q, C01b, C01a, C01z, C01j, C01s, C14, C14r, C14c, L14, LValueMakes, LValueCompares, LValueSwaps, LValueBack, LValueOrders, LValueNumbers, LValuePointers, LValueKnown, in one text. -/
import Derived.Laws.Entries
import Derived.RowKit
import Derived.Test.YtnpbhippkcikoaaWMore
import Derived.Test.YtnpbhippkcikoaaPA3
import Derived.Test.YtnpbhippkcikoaaPA4
import Derived.Test.YtnpbhippkcikoaaPA11
import Derived.Test.YtnpbhippkcikoaaPA12
import Derived.Test.YtnpbhippkcikoaaPA13
import Derived.Test.YtnpbhippkcikoaaPA14
import Derived.Test.YtnpbhippkcikoaaPA8
import Derived.Test.YtnpbhippkcikoaaPA16
import Derived.Test.YtnpbhippkcikoaaPA17
import Derived.Test.YtnpbhippkcikoaaPA10
import Derived.Test.YtnpbhippkcikoaaPA19
import Derived.Test.YtnpbhippkcikoaaPA7
import Derived.Test.YtnpbhippkcikoaaPA9
import Derived.Test.YtnpbhippkcikoaaPA15
import Derived.Test.YtnpbhippkcikoaaPA18
import Derived.Test.YtnpbhippkcikoaaPA20
import Derived.Test.YtnpbhippkcikoaaPA21
import Derived.Test.YtnpbhippkcikoaaPA22
import Derived.Test.YtnpbhippkcikoaaPA26
import Derived.Test.YtnpbhippkcikoaaPA24
import Derived.Test.YtnpbhippkcikoaaPA25
import Derived.Test.YtnpbhippkcikoaaPA27
import Derived.Test.YtnpbhippkcikoaaPA23
import Derived.Test.YtnpbhippkcikoaaPA28
set_option linter.unusedVariables false
set_option linter.unusedSimpArgs false
set_option linter.unusedSectionVars false
section
/- Whole numbers of 64 bits as bit vectors: every word of the printed functions, told of bit vectors. -/
namespace Go.Proofs.Ytnpbhippkcikoaa.Bv
open Go.RowKit Go.Proofs.YtnpbhippkcikoaaW.PrintWords Go.Proofs.YtnpbhippkcikoaaW.PrintLast Go.Proofs.YtnpbhippkcikoaaW.PrintMore
abbrev W := BitVec 64
/-- A number without a sign, and with one, of 64 bits. -/
def U (x : W) : Int := (x.toNat : Int)
def S (x : W) : Int := x.toInt
theorem U_nonneg (x : W) : 0 ≤ U x := by unfold U; omega
theorem U_lt (x : W) : U x < 18446744073709551616 := by unfold U; have := x.isLt; omega
theorem S_ge (x : W) : -9223372036854775808 ≤ S x := by unfold S; have := BitVec.le_toInt x; simp at this; omega
theorem S_lt (x : W) : S x < 9223372036854775808 := by unfold S; have := BitVec.toInt_lt (x := x); simp at this; omega
theorem ofInt_U (x : W) : BitVec.ofInt 64 (U x) = x := by
  apply BitVec.eq_of_toNat_eq; unfold U; simp
theorem ofInt_S (x : W) : BitVec.ofInt 64 (S x) = x := BitVec.ofInt_toInt
theorem U_ofInt (n : Int) : U (BitVec.ofInt 64 n) = n % 18446744073709551616 := by
  unfold U; rw [BitVec.toNat_ofInt]; simp; omega
theorem S_ofInt (n : Int) : S (BitVec.ofInt 64 n) = wrap64 n := by
  unfold S wrap64; rw [BitVec.toInt_ofInt]; simp [Int.bmod]; omega
theorem wrap_u64 (n : Int) : IntKind.u64.wrap n = U (BitVec.ofInt 64 n) := by
  rw [U_ofInt]; simp [IntKind.wrap, IntKind.signed, IntKind.bits]
theorem wrap_i64 (n : Int) : wrap64 n = S (BitVec.ofInt 64 n) := (S_ofInt n).symm
theorem exU {a : Int} (h : (Lit.int .u64 a).wf = true) : ∃ x, a = U x := by
  refine ⟨BitVec.ofInt 64 a, ?_⟩
  rw [U_ofInt]
  simp [Lit.wf, IntKind.min, IntKind.max, IntKind.signed, IntKind.bits] at h
  omega
theorem exS {a : Int} (h : (Lit.int .i64 a).wf = true) : ∃ x, a = S x := by
  refine ⟨BitVec.ofInt 64 a, ?_⟩
  rw [S_ofInt]; unfold wrap64
  simp [Lit.wf, IntKind.min, IntKind.max, IntKind.signed, IntKind.bits] at h
  omega
/-! ofInt through sums -/
theorem oi_add (a b : Int) : BitVec.ofInt 64 (a + b) = BitVec.ofInt 64 a + BitVec.ofInt 64 b := BitVec.ofInt_add a b
theorem oi_mul (a b : Int) : BitVec.ofInt 64 (a * b) = BitVec.ofInt 64 a * BitVec.ofInt 64 b := BitVec.ofInt_mul a b
theorem oi_neg (a : Int) : BitVec.ofInt 64 (-a) = - BitVec.ofInt 64 a := BitVec.ofInt_neg
theorem oi_sub (a b : Int) : BitVec.ofInt 64 (a - b) = BitVec.ofInt 64 a - BitVec.ofInt 64 b := by
  rw [Int.sub_eq_add_neg, oi_add, oi_neg, BitVec.sub_eq_add_neg]
theorem oi_nat (n : Nat) : BitVec.ofInt 64 (n : Int) = BitVec.ofNat 64 n := BitVec.ofInt_natCast ..
theorem U_nat {n : Nat} (h : n < 18446744073709551616) : U (BitVec.ofNat 64 n) = n := by unfold U; rw [BitVec.toNat_ofNat]; simp; omega
/-! comparisons -/
theorem U_inj (x y : W) : U x = U y ↔ x = y := by
  constructor
  · intro h; have := congrArg (BitVec.ofInt 64) h; simpa [ofInt_U] using this
  · rintro rfl; rfl
theorem S_inj (x y : W) : S x = S y ↔ x = y := BitVec.toInt_inj
theorem U_lt_iff (x y : W) : U x < U y ↔ x < y := by unfold U; rw [BitVec.lt_def]; omega
theorem U_le_iff (x y : W) : U x ≤ U y ↔ x ≤ y := by unfold U; rw [BitVec.le_def]; omega
theorem S_lt_iff (x y : W) : S x < S y ↔ x.slt y = true := by unfold S; rw [BitVec.slt_iff_toInt_lt]
theorem S_le_iff (x y : W) : S x ≤ S y ↔ x.sle y = true := by unfold S; rw [BitVec.sle_iff_toInt_le]
theorem U_beq (x y : W) : (U x == U y) = (x == y) := by
  rw [Bool.eq_iff_iff]; simp [U_inj]
theorem S_beq (x y : W) : (S x == S y) = (x == y) := by
  rw [Bool.eq_iff_iff]; simp [S_inj]
theorem U_zero : U 0 = 0 := rfl
theorem U_one : U 1 = 1 := rfl
theorem U_eq_zero (x : W) : U x = 0 ↔ x = 0 := by rw [← U_zero, U_inj]
theorem U_eq_lit (x : W) (n : Nat) (h : n < 18446744073709551616) : U x = (n : Int) ↔ x = BitVec.ofNat 64 n := by rw [← U_nat h, U_inj]
/-! bits -/
theorem bits_wrap (z : W) : IntKind.u64.wrap (z.toNat : Int) = U z := by
  rw [wrap_u64, oi_nat]; simp
theorem b_and (a b : Int) : Go.bits .and .u64 a b = U (BitVec.ofInt 64 a &&& BitVec.ofInt 64 b) := bits_wrap _
theorem b_or (a b : Int) : Go.bits .or .u64 a b = U (BitVec.ofInt 64 a ||| BitVec.ofInt 64 b) := bits_wrap _
theorem b_xor (a b : Int) : Go.bits .xor .u64 a b = U (BitVec.ofInt 64 a ^^^ BitVec.ofInt 64 b) := bits_wrap _
theorem b_andNot (a b : Int) : Go.bits .andNot .u64 a b = U (BitVec.ofInt 64 a &&& ~~~ BitVec.ofInt 64 b) := bits_wrap _
theorem bits_wrap_i (z : W) : IntKind.i64.wrap (z.toNat : Int) = S z := by
  have h : ∀ n : Int, IntKind.i64.wrap n = wrap64 n := fun n => by
    simp [IntKind.wrap, wrap64, IntKind.signed, IntKind.bits]; split <;> omega
  rw [h, wrap_i64, oi_nat]; simp
theorem s_and (a b : Int) : Go.bits .and .i64 a b = S (BitVec.ofInt 64 a &&& BitVec.ofInt 64 b) := bits_wrap_i _
theorem s_or (a b : Int) : Go.bits .or .i64 a b = S (BitVec.ofInt 64 a ||| BitVec.ofInt 64 b) := bits_wrap_i _
theorem s_xor (a b : Int) : Go.bits .xor .i64 a b = S (BitVec.ofInt 64 a ^^^ BitVec.ofInt 64 b) := bits_wrap_i _
theorem s_andNot (a b : Int) : Go.bits .andNot .i64 a b = S (BitVec.ofInt 64 a &&& ~~~ BitVec.ofInt 64 b) := bits_wrap_i _
/-! shifts -/
theorem shl_U (x : W) (n : Int) : shl .u64 (U x) n = U (x <<< n.toNat) := by
  unfold shl
  rw [wrap_u64]
  congr 1
  rw [oi_mul, ofInt_U]
  have e : (2 : Int) ^ min n.toNat IntKind.u64.bits = ((2 ^ min n.toNat 64 : Nat) : Int) := by simp [IntKind.bits]
  rw [e, oi_nat]
  apply BitVec.eq_of_toNat_eq
  rw [BitVec.toNat_mul, BitVec.toNat_ofNat, BitVec.toNat_shiftLeft, Nat.shiftLeft_eq]
  by_cases h : n.toNat ≤ 64
  · rw [Nat.min_eq_left h]; simp [Nat.mul_mod]
  · have h2 : n.toNat = 64 + (n.toNat - 64) := by omega
    rw [Nat.min_eq_right (by omega), Nat.mod_self, Nat.mul_zero, Nat.zero_mod, h2, Nat.pow_add, ← Nat.mul_assoc, Nat.mul_right_comm]
    simp
theorem shr_U (x : W) (n : Int) : shr .u64 (U x) n = U (x >>> n.toNat) := by
  unfold shr U
  rw [BitVec.toNat_ushiftRight, Nat.shiftRight_eq_div_pow]
  by_cases h : n.toNat ≤ 64
  · rw [show IntKind.u64.bits = 64 from rfl, Nat.min_eq_left h]; simp
  · rw [show IntKind.u64.bits = 64 from rfl, Nat.min_eq_right (by omega)]
    have hx := x.isLt
    have h1 : x.toNat / 2 ^ n.toNat = 0 := Nat.div_eq_of_lt (Nat.lt_of_lt_of_le hx (Nat.pow_le_pow_right (by decide) (by omega)))
    rw [h1]
    have h2 : (2 : Int) ^ 64 = ((2 ^ 64 : Nat) : Int) := by norm_cast
    rw [h2]
    omega
theorem shr_S (x : W) (n : Int) : shr .i64 (S x) n = S (x.sshiftRight n.toNat) := by
  unfold shr S
  rw [BitVec.toInt_sshiftRight, Int.shiftRight_eq_div_pow]
  by_cases h : n.toNat ≤ 64
  · rw [show IntKind.i64.bits = 64 from rfl, Nat.min_eq_left h]; norm_cast
  · rw [show IntKind.i64.bits = 64 from rfl, Nat.min_eq_right (by omega)]
    have h1 := S_ge x
    have h2 := S_lt x
    unfold S at h1 h2
    have h3 : (2 ^ 64 : Int) = ((2 ^ 64 : Nat) : Int) := by norm_cast
    have h4 : (2 ^ 64 : Nat) ≤ 2 ^ n.toNat := Nat.pow_le_pow_right (by decide) (by omega)
    rw [h3]
    generalize 2 ^ n.toNat = q at h4 ⊢
    have h5 : (18446744073709551616 : Nat) ≤ q := h4
    show x.toInt / 18446744073709551616 = x.toInt / (q : Int)
    by_cases hn : 0 ≤ x.toInt
    · rw [Int.ediv_eq_zero_of_lt hn (by omega), Int.ediv_eq_zero_of_lt hn (by omega)]
    · have a1 : x.toInt / 18446744073709551616 = -1 := by omega
      have a2 : x.toInt / (q : Int) = -1 := by
        rw [Int.ediv_eq_iff_of_pos (by omega)]; omega
      rw [a1, a2]
theorem wrap_i64' (n : Int) : IntKind.i64.wrap n = S (BitVec.ofInt 64 n) := by
  have h : IntKind.i64.wrap n = wrap64 n := by
    simp [IntKind.wrap, wrap64, IntKind.signed, IntKind.bits]; split <;> omega
  rw [h, wrap_i64]
theorem shl_S (x : W) (n : Int) : shl .i64 (S x) n = S (x <<< n.toNat) := by
  unfold shl
  rw [wrap_i64']
  congr 1
  rw [oi_mul, ofInt_S]
  have e : (2 : Int) ^ min n.toNat IntKind.i64.bits = ((2 ^ min n.toNat 64 : Nat) : Int) := by simp [IntKind.bits]
  rw [e, oi_nat]
  apply BitVec.eq_of_toNat_eq
  rw [BitVec.toNat_mul, BitVec.toNat_ofNat, BitVec.toNat_shiftLeft, Nat.shiftLeft_eq]
  by_cases h : n.toNat ≤ 64
  · rw [Nat.min_eq_left h]; simp [Nat.mul_mod]
  · have h2 : n.toNat = 64 + (n.toNat - 64) := by omega
    rw [Nat.min_eq_right (by omega), Nat.mod_self, Nat.mul_zero, Nat.zero_mod, h2, Nat.pow_add, ← Nat.mul_assoc, Nat.mul_right_comm]
    simp
end Go.Proofs.Ytnpbhippkcikoaa.Bv
end
section
/- Loops that go through the bits of a number: what comes of them. -/
namespace Go.Proofs.Ytnpbhippkcikoaa.Bv
open Go.RowKit Go.Proofs.YtnpbhippkcikoaaW.PrintWords Go.Proofs.YtnpbhippkcikoaaW.PrintLast Go.Proofs.YtnpbhippkcikoaaW.PrintMore
theorem getLsbD_one_shl (i j : Nat) (hj : j < 64) : ((1 : W) <<< i).getLsbD j = decide (j = i) := by
  rw [BitVec.getLsbD_shiftLeft]
  by_cases h : j = i
  · subst h; simp [hj]
  · by_cases h2 : j < i
    · simp [h2, h]
    · have : j - i ≠ 0 := by omega
      simp [h2, h, this]
/-- a bit as a number. -/
def b1 (b : Bool) : W := if b then 1 else 0
theorem U_b1 (b : Bool) : U (b1 b) = if b then 1 else 0 := by cases b <;> rfl
theorem bit_at (v : W) (j : Nat) : Int.tmod (shr .u64 (U v) (j : Int)) 2 = U (b1 (v.getLsbD j)) := by
  rw [shr_U]
  have h : (v >>> j).toNat % 2 = (b1 (v.getLsbD j)).toNat := by
    have := BitVec.toNat_ushiftRight v j
    rw [this, BitVec.getLsbD, Nat.testBit, b1]
    rw [Nat.and_comm, Nat.and_one_is_mod]
    rcases Nat.mod_two_eq_zero_or_one (v.toNat >>> j) with h | h <;> simp [h]
  have e : Int.tmod (U (v >>> ((j : Int).toNat))) 2 = (U (v >>> j)) % 2 := by
    rw [Int.tmod_eq_emod_of_nonneg (U_nonneg _)]; simp
  rw [e]; unfold U; omega
theorem bit_eq0 (v : W) (j : Nat) : (Int.tmod (shr .u64 (U v) (j : Int)) 2 = 0) ↔ v.getLsbD j = false := by
  rw [bit_at, U_b1]; cases v.getLsbD j <;> simp
theorem bit_eq1 (v : W) (j : Nat) : (Int.tmod (shr .u64 (U v) (j : Int)) 2 = 1) ↔ v.getLsbD j = true := by
  rw [bit_at, U_b1]; cases v.getLsbD j <;> simp
theorem bit_eq (v x : W) (j : Nat) : (Int.tmod (shr .u64 (U v) (j : Int)) 2 = Int.tmod (shr .u64 (U x) (j : Int)) 2) ↔ v.getLsbD j = x.getLsbD j := by
  rw [bit_at, bit_at, U_b1, U_b1]; cases v.getLsbD j <;> cases x.getLsbD j <;> simp
theorem shl_bit (b : Bool) (i : Nat) : shl .u64 (U (b1 b)) (i : Int) = U (b1 b <<< i) := by rw [shl_U]; simp
/-- the number whose bits below n are b's. -/
def acc (b : Nat → Bool) : Nat → W
  | 0 => 0
  | n + 1 => acc b n ||| b1 (b n) <<< n
theorem getLsbD_b1_shl (b : Bool) (i j : Nat) (hj : j < 64) : (b1 b <<< i).getLsbD j = (decide (j = i) && b) := by
  cases b
  · simp [b1]
  · have := getLsbD_one_shl i j hj
    simpa [b1] using this
theorem acc_bit (b : Nat → Bool) (n j : Nat) (hj : j < 64) : (acc b n).getLsbD j = (decide (j < n) && b j) := by
  induction n with
  | zero => simp [acc]
  | succ n ih =>
    rw [acc, BitVec.getLsbD_or, ih, getLsbD_b1_shl _ _ _ hj]
    by_cases h : j = n
    · subst h; simp
    · by_cases h2 : j < n
      · simp [h2, show j < n + 1 by omega, h]
      · simp [h2, show ¬ j < n + 1 by omega, h]
theorem acc_self (v : W) : acc (fun i => v.getLsbD i) 64 = v := by
  apply BitVec.eq_of_getLsbD_eq
  intro i hi
  rw [acc_bit _ _ _ hi]; simp [hi]
theorem acc_eq {b : Nat → Bool} {v : W} {n : Nat} (hn : n ≤ 64) (h1 : ∀ i, i < n → v.getLsbD i = b i) (h2 : ∀ i, n ≤ i → i < 64 → v.getLsbD i = false) : acc b n = v := by
  apply BitVec.eq_of_getLsbD_eq
  intro i hi
  rw [acc_bit _ _ _ hi]
  by_cases h : i < n
  · simp [h, h1 i h]
  · simp [h, h2 i (by omega) hi]
theorem u_succ (i : Nat) (h : i < 64) : IntKind.u64.wrap ((i : Int) + 1) = ((i + 1 : Nat) : Int) := by
  rw [wrap_u64, U_ofInt]; omega
theorem and_bit {v m : W} (h : v &&& m = 0) (i : Nat) : (v.getLsbD i && m.getLsbD i) = false := by
  rw [← BitVec.getLsbD_and, h]; simp
theorem and_zero_of {v m : W} (h : ∀ i, i < 64 → (v.getLsbD i && m.getLsbD i) = false) : v &&& m = 0 := by
  apply BitVec.eq_of_getLsbD_eq
  intro i hi
  rw [BitVec.getLsbD_and, h i hi]; simp
/-- one step of a printed function: a call, a test. -/
theorem bs {α β : Type} {x : Option α} {f : α → Option β} {a : α} {r : Option β} (h : x = some a) (h2 : f a = r) : x.bind f = r := by rw [h]; exact h2
theorem ift {α : Type} {c : Prop} [Decidable c] {t e r : α} (h : c) (h2 : t = r) : (if c then t else e) = r := by rw [if_pos h]; exact h2
theorem ife {α : Type} {c : Prop} [Decidable c] {t e r : α} (h : ¬ c) (h2 : e = r) : (if c then t else e) = r := by rw [if_neg h]; exact h2
theorem nt : ¬ (false = true) := by decide
end Go.Proofs.Ytnpbhippkcikoaa.Bv
end
section
/- Numbers of 32 bits. -/
namespace Go.Proofs.Ytnpbhippkcikoaa.Bv
open Go.RowKit Go.Proofs.YtnpbhippkcikoaaW.PrintWords Go.Proofs.YtnpbhippkcikoaaW.PrintLast Go.Proofs.YtnpbhippkcikoaaW.PrintMore
abbrev W32 := BitVec 32
def V (x : W32) : Int := (x.toNat : Int)
/-- the lowest 32 bits; and back. -/
def lo (x : W) : W32 := x.setWidth 32
def up (x : W32) : W := x.setWidth 64
theorem U_up (x : W32) : U (up x) = V x := by unfold U V up; rw [BitVec.toNat_setWidth]; have := x.isLt; omega
theorem up_bit (x : W32) (i : Nat) : (up x).getLsbD i = (decide (i < 64) && x.getLsbD i) := by unfold up; rw [BitVec.getLsbD_setWidth]
theorem lo_bit (x : W) (i : Nat) : (lo x).getLsbD i = (decide (i < 32) && x.getLsbD i) := by unfold lo; rw [BitVec.getLsbD_setWidth]
theorem U_mod32 (x : W) : U x % 4294967296 = V (lo x) := by unfold U V lo; rw [BitVec.toNat_setWidth]; omega
theorem V_ofInt (n : Int) : V (BitVec.ofInt 32 n) = n % 4294967296 := by unfold V; rw [BitVec.toNat_ofInt]; simp; omega
theorem ofInt_V (x : W32) : BitVec.ofInt 32 (V x) = x := by apply BitVec.eq_of_toNat_eq; unfold V; simp
theorem toInt_ofInt32 (n : Int) : (BitVec.ofInt 32 n).toInt = wrap32 n := by
  unfold wrap32; rw [BitVec.toInt_ofInt]; simp [Int.bmod]; omega
theorem wrap32_V (x : W32) : wrap32 (V x) = x.toInt := by rw [← toInt_ofInt32, ofInt_V]
theorem toInt_mod (x : W32) : x.toInt % 4294967296 = V x := by
  unfold V; rw [BitVec.toInt_eq_toNat_cond]; have := x.isLt; split <;> omega
theorem shr_i32 (x : W32) (n : Int) : shr .i32 x.toInt n = (x.sshiftRight n.toNat).toInt := by
  unfold shr
  rw [BitVec.toInt_sshiftRight, Int.shiftRight_eq_div_pow]
  by_cases h : n.toNat ≤ 32
  · rw [show IntKind.i32.bits = 32 from rfl, Nat.min_eq_left h]; norm_cast
  · rw [show IntKind.i32.bits = 32 from rfl, Nat.min_eq_right (by omega)]
    have h1 := BitVec.le_toInt x
    have h2 := BitVec.toInt_lt (x := x)
    simp at h1 h2
    have h3 : (2 ^ 32 : Int) = ((2 ^ 32 : Nat) : Int) := by norm_cast
    have h4 : (2 ^ 32 : Nat) ≤ 2 ^ n.toNat := Nat.pow_le_pow_right (by decide) (by omega)
    rw [h3]
    generalize 2 ^ n.toNat = q at h4 ⊢
    have h5 : (4294967296 : Nat) ≤ q := h4
    show x.toInt / 4294967296 = x.toInt / (q : Int)
    by_cases hn : 0 ≤ x.toInt
    · rw [Int.ediv_eq_zero_of_lt hn (by omega), Int.ediv_eq_zero_of_lt hn (by omega)]
    · have a1 : x.toInt / 4294967296 = -1 := by omega
      have a2 : x.toInt / (q : Int) = -1 := by
        rw [Int.ediv_eq_iff_of_pos (by omega)]; omega
      rw [a1, a2]
/-- the lowest 32 bits shifted down, the highest of them coming in. -/
def sar32 (x : W) (n : Nat) : W := up ((lo x).sshiftRight n)
theorem sar32_f (x : W) (n : Nat) : (shr .i32 (wrap32 (U x % 4294967296)) (n : Int)) % 4294967296 = U (sar32 x n) := by
  rw [U_mod32, wrap32_V, shr_i32, toInt_mod, sar32, U_up]; simp
theorem sar32_acc (v : W) (n : Nat) (hn : n < 32) : acc (fun j => v.getLsbD (min (j + n) (32 - 1))) 32 = sar32 v n := by
  apply acc_eq (by omega)
  · intro i hi
    rw [sar32, up_bit, BitVec.getLsbD_sshiftRight]
    simp only [show i < 64 by omega, show ¬ 32 ≤ i by omega, decide_true, decide_false, Bool.not_false, Bool.true_and]
    by_cases h : n + i < 32
    · rw [if_pos h, Nat.min_eq_left (by omega), Nat.add_comm, lo_bit]; simp [show i + n < 32 by omega]
    · rw [if_neg h, Nat.min_eq_right (by omega), BitVec.msb_eq_getLsbD_last, lo_bit]; simp
  · intro i h1 h2
    rw [sar32, up_bit, BitVec.getLsbD_sshiftRight]
    simp [show 32 ≤ i by omega]
end Go.Proofs.Ytnpbhippkcikoaa.Bv
end
section
/- Products by halves and doubles. -/
namespace Go.Proofs.Ytnpbhippkcikoaa.Bv
theorem shl1 (y : W) : y <<< 1 = y + y := by
  apply BitVec.eq_of_toNat_eq
  rw [BitVec.toNat_shiftLeft, BitVec.toNat_add, Nat.shiftLeft_eq]; omega
theorem halves (x : W) : x = b1 (x.getLsbD 0) + ((x >>> 1) + (x >>> 1)) := by
  apply BitVec.eq_of_toNat_eq
  have hx := x.isLt
  have hb : (b1 (x.getLsbD 0)).toNat = x.toNat % 2 := by
    rw [BitVec.getLsbD, Nat.testBit_zero, b1]
    rcases Nat.mod_two_eq_zero_or_one x.toNat with h | h <;> simp [h]
  rw [BitVec.toNat_add, BitVec.toNat_add, hb, BitVec.toNat_ushiftRight, Nat.shiftRight_eq_div_pow]; omega
theorem prod_step (x y : W) : x * y = b1 (x.getLsbD 0) * y + (x >>> 1) * (y <<< 1) := by
  rw [shl1]
  have h := halves x
  generalize b1 (x.getLsbD 0) = b at *
  generalize x >>> 1 = z at *
  subst h
  grind
end Go.Proofs.Ytnpbhippkcikoaa.Bv
end
section
/- Layer 1's Alu, over bit vectors. -/
namespace Go.Proofs.Ytnpbhippkcikoaa.C01
open Go.RowKit Go.Proofs.YtnpbhippkcikoaaW.PrintWords Go.Proofs.YtnpbhippkcikoaaW.PrintLast Go.Proofs.YtnpbhippkcikoaaW.PrintMore Go.Proofs.Ytnpbhippkcikoaa.PA Go.Proofs.Ytnpbhippkcikoaa.Bv
/-- an operation of 64 bits, but for Arsh; is there one. -/
def aluW (op : Int) (a b : W) : W := if op = 0 then a + b else if op = 1 then a - b else if op = 2 then a * b else if op = 3 then a / b else if op = 9 then a % b else if op = 4 then a ||| b else if op = 5 then a &&& b else if op = 10 then a ^^^ b
  else if op = 6 then a <<< (b.toNat % 64) else if op = 7 then a >>> (b.toNat % 64) else if op = 8 then -a else if op = 11 then b else 0
def aluN (op : Int) (a b : W32) : W32 := if op = 0 then a + b else if op = 1 then a - b else if op = 2 then a * b else if op = 3 then a / b else if op = 9 then a % b else if op = 4 then a ||| b else if op = 5 then a &&& b else if op = 10 then a ^^^ b
  else if op = 6 then a <<< (b.toNat % 32) else if op = 7 then a >>> (b.toNat % 32) else if op = 8 then -a else if op = 11 then b else 0
def isAlu (op : Int) : Bool := decide (0 ≤ op ∧ op ≤ 11)
theorem U_div (a b : W) : Int.tdiv (U a) (U b) = U (a / b) := by
  rw [Int.tdiv_eq_ediv_of_nonneg (U_nonneg _)]; unfold U; rw [BitVec.toNat_udiv]; norm_cast
theorem U_mod (a b : W) : Int.tmod (U a) (U b) = U (a % b) := by
  rw [Int.tmod_eq_emod_of_nonneg (U_nonneg _)]; unfold U; rw [BitVec.toNat_umod]; norm_cast
theorem V_nonneg (x : W32) : 0 ≤ V x := by unfold V; omega
theorem V_div (a b : W32) : Int.tdiv (V a) (V b) = V (a / b) := by
  rw [Int.tdiv_eq_ediv_of_nonneg (V_nonneg _)]; unfold V; rw [BitVec.toNat_udiv]; norm_cast
theorem V_mod (a b : W32) : Int.tmod (V a) (V b) = V (a % b) := by
  rw [Int.tmod_eq_emod_of_nonneg (V_nonneg _)]; unfold V; rw [BitVec.toNat_umod]; norm_cast
theorem wrapU (x : W) : IntKind.u64.wrap (U x) = U x := by rw [wrap_u64, ofInt_U]
theorem V_inj (x y : W32) : V x = V y ↔ x = y := by
  constructor
  · intro h; have := congrArg (BitVec.ofInt 32) h; simpa [ofInt_V] using this
  · rintro rfl; rfl
theorem V_eq_zero (x : W32) : V x = 0 ↔ x = 0 := by rw [show (0 : Int) = V 0 from rfl, V_inj]
theorem cntU64 (n : W) : Int.tmod (U n) 64 = ((n.toNat % 64 : Nat) : Int) := by
  rw [Int.tmod_eq_emod_of_nonneg (U_nonneg _)]; unfold U; omega
theorem cntU32 (n : W) : Int.tmod (U n) 32 = ((n.toNat % 32 : Nat) : Int) := by
  rw [Int.tmod_eq_emod_of_nonneg (U_nonneg _)]; unfold U; omega
theorem cntV32 (n : W32) : Int.tmod (V n) 32 = ((n.toNat % 32 : Nat) : Int) := by
  rw [Int.tmod_eq_emod_of_nonneg (V_nonneg _)]; unfold V; omega
theorem mod32 (n : Int) : n % 4294967296 = V (BitVec.ofInt 32 n) := (V_ofInt n).symm
theorem oi32_sub (a b : Int) : BitVec.ofInt 32 (a - b) = BitVec.ofInt 32 a - BitVec.ofInt 32 b := by
  rw [Int.sub_eq_add_neg, BitVec.ofInt_add, BitVec.ofInt_neg, BitVec.sub_eq_add_neg]
theorem wrap_u32 (n : Int) : IntKind.u32.wrap n = V (BitVec.ofInt 32 n) := by
  rw [V_ofInt]; simp [IntKind.wrap, IntKind.signed, IntKind.bits]
theorem b32_wrap (z : W32) : IntKind.u32.wrap (z.toNat : Int) = V z := by
  rw [wrap_u32, BitVec.ofInt_natCast]; simp
theorem n_and (a b : Int) : Go.bits .and .u32 a b = V (BitVec.ofInt 32 a &&& BitVec.ofInt 32 b) := b32_wrap _
theorem n_or (a b : Int) : Go.bits .or .u32 a b = V (BitVec.ofInt 32 a ||| BitVec.ofInt 32 b) := b32_wrap _
theorem n_xor (a b : Int) : Go.bits .xor .u32 a b = V (BitVec.ofInt 32 a ^^^ BitVec.ofInt 32 b) := b32_wrap _
theorem shl_V (x : W32) (n : Nat) (hn : n < 32) : shl .u32 (V x) (n : Int) = V (x <<< n) := by
  unfold shl
  rw [wrap_u32]
  congr 1
  rw [BitVec.ofInt_mul, ofInt_V, Int.toNat_natCast, show IntKind.u32.bits = 32 from rfl, Nat.min_eq_left (by omega)]
  have e : (2 : Int) ^ n = ((2 ^ n : Nat) : Int) := by norm_cast
  rw [e, BitVec.ofInt_natCast]
  apply BitVec.eq_of_toNat_eq
  rw [BitVec.toNat_mul, BitVec.toNat_ofNat, BitVec.toNat_shiftLeft, Nat.shiftLeft_eq]
  simp [Nat.mul_mod]
theorem shr_V (x : W32) (n : Nat) (hn : n < 32) : shr .u32 (V x) (n : Int) = V (x >>> n) := by
  unfold shr V
  rw [BitVec.toNat_ushiftRight, Nat.shiftRight_eq_div_pow, Int.toNat_natCast, show IntKind.u32.bits = 32 from rfl, Nat.min_eq_left (by omega)]; norm_cast
theorem pure64_f (op : Int) (a b : W) : word_pure_uint64.f op (U a) (U b) 64 = some (U (aluW op a b), isAlu op) := by
  unfold word_pure_uint64.f aluW
  by_cases h : 0 ≤ op ∧ op ≤ 11
  · have hi : isAlu op = true := by unfold isAlu; simp [h]
    have z : (0 : Int) = U 0 := rfl
    rw [hi]
    obtain ⟨h1, h2⟩ := h
    have : op = 0 ∨ op = 1 ∨ op = 2 ∨ op = 3 ∨ op = 4 ∨ op = 5 ∨ op = 6 ∨ op = 7 ∨ op = 8 ∨ op = 9 ∨ op = 10 ∨ op = 11 := by omega
    rcases this with rfl | rfl | rfl | rfl | rfl | rfl | rfl | rfl | rfl | rfl | rfl | rfl
    · simp [wrap_u64, oi_add, ofInt_U]
    · simp [wrap_u64, oi_sub, ofInt_U]
    · simp [wrap_u64, oi_mul, ofInt_U]
    · simp only [U_div, wrapU, U_eq_zero]
      by_cases hb : b = 0
      · subst hb; simp [U]
      · rw [if_neg hb]; simp
    · simp [b_or, ofInt_U]
    · simp [b_and, ofInt_U]
    · obtain ⟨m, hm⟩ : ∃ m, m = b.toNat % 64 := ⟨_, rfl⟩
      simp only [cntU64, ← hm]; simp [shl_U]
    · obtain ⟨m, hm⟩ : ∃ m, m = b.toNat % 64 := ⟨_, rfl⟩
      simp only [cntU64, ← hm]; simp [shr_U]
    · simp [wrap_u64, oi_neg, ofInt_U]
    · simp only [U_mod, U_eq_zero]
      by_cases hb : b = 0
      · subst hb; simp
      · simp; intro e; exact absurd e hb
    · simp [b_xor, ofInt_U]
    · simp
  · have hi : isAlu op = false := by unfold isAlu; simp only [decide_eq_false_iff_not]; exact h
    rw [hi]
    have n0 : ∀ j : Int, 0 ≤ j ∧ j ≤ 11 → op ≠ j := fun j hj e => h (e ▸ hj)
    simp only [n0 0 (by decide), n0 1 (by decide), n0 2 (by decide), n0 3 (by decide), n0 4 (by decide), n0 5 (by decide), n0 6 (by decide), n0 7 (by decide), n0 8 (by decide), n0 9 (by decide), n0 10 (by decide), n0 11 (by decide), if_false]
    rfl
theorem pure32_f (op : Int) (a b : W32) : word_pure_uint32.f op (V a) (V b) 32 = some (V (aluN op a b), isAlu op) := by
  unfold word_pure_uint32.f aluN
  by_cases h : 0 ≤ op ∧ op ≤ 11
  · have hi : isAlu op = true := by unfold isAlu; simp [h]
    rw [hi]
    obtain ⟨h1, h2⟩ := h
    have : op = 0 ∨ op = 1 ∨ op = 2 ∨ op = 3 ∨ op = 4 ∨ op = 5 ∨ op = 6 ∨ op = 7 ∨ op = 8 ∨ op = 9 ∨ op = 10 ∨ op = 11 := by omega
    rcases this with rfl | rfl | rfl | rfl | rfl | rfl | rfl | rfl | rfl | rfl | rfl | rfl
    · simp [mod32, BitVec.ofInt_add, ofInt_V]
    · simp [mod32, oi32_sub, ofInt_V]
    · simp [mod32, BitVec.ofInt_mul, ofInt_V]
    · simp only [V_div, mod32, ofInt_V, V_eq_zero]
      by_cases hb : b = 0
      · subst hb; simp [V]
      · rw [if_neg hb]; simp
    · simp [n_or, ofInt_V]
    · simp [n_and, ofInt_V]
    · obtain ⟨m, hm⟩ : ∃ m, m = b.toNat % 32 := ⟨_, rfl⟩
      have hl : m < 32 := by omega
      simp only [cntV32, ← hm]; simp [shl_V _ _ hl]
    · obtain ⟨m, hm⟩ : ∃ m, m = b.toNat % 32 := ⟨_, rfl⟩
      have hl : m < 32 := by omega
      simp only [cntV32, ← hm]; simp [shr_V _ _ hl]
    · simp [mod32, BitVec.ofInt_neg, ofInt_V]
    · simp only [V_mod, V_eq_zero]
      by_cases hb : b = 0
      · subst hb; simp
      · simp; intro e; exact absurd e hb
    · simp [n_xor, ofInt_V]
    · simp
  · have hi : isAlu op = false := by unfold isAlu; simp only [decide_eq_false_iff_not]; exact h
    rw [hi]
    have n0 : ∀ j : Int, 0 ≤ j ∧ j ≤ 11 → op ≠ j := fun j hj e => h (e ▸ hj)
    simp only [n0 0 (by decide), n0 1 (by decide), n0 2 (by decide), n0 3 (by decide), n0 4 (by decide), n0 5 (by decide), n0 6 (by decide), n0 7 (by decide), n0 8 (by decide), n0 9 (by decide), n0 10 (by decide), n0 11 (by decide), if_false]
    rfl
def alu (op : Int) (wide : Bool) (a b : W) : W := if op = 12 then (if wide then a.sshiftRight (b.toNat % 64) else sar32 a (b.toNat % 32)) else if wide then aluW op a b else up (aluN op (lo a) (lo b))
def isOp (op : Int) : Bool := decide (0 ≤ op ∧ op ≤ 12)
theorem alu_f (k : Nat) (hk : 1 ≤ k) (op : Int) (wide : Bool) (a b : W) : word_Alu.f k op wide (U a) (U b) = some (U (alu op wide a b), isOp op) := by
  obtain ⟨k, rfl⟩ : ∃ m, k = m + 1 := ⟨k - 1, by omega⟩
  unfold word_Alu.f alu
  simp only [word_Alu.j0]
  by_cases h : op = 12
  · subst h
    simp only [if_true]
    cases wide
    · simp only [Bool.false_eq_true, if_false, cntU32]
      rw [if_pos (by omega), sar32_f]; rfl
    · simp only [if_true, cntU64, wrap_u64, wrap_i64, ofInt_U]
      rw [if_pos (by omega), shr_S, ofInt_S]; rfl
  · have hi : isOp op = isAlu op := by unfold isOp isAlu; rw [decide_eq_decide]; omega
    simp only [if_neg h, Bool.false_eq_true, if_false, hi]
    cases wide
    · simp only [Bool.false_eq_true, if_false]; rw [U_mod32, U_mod32, pure32_f]; simp only [Option.bind_some, ← U_up, wrapU]
    · simp only [if_true, pure64_f, Option.bind_some]
end Go.Proofs.Ytnpbhippkcikoaa.C01
end
section
/- Layer 1's reference, over bit vectors: sums, products, quotients bit by bit. -/
namespace Go.Proofs.Ytnpbhippkcikoaa.C01
open Go.RowKit Go.Proofs.YtnpbhippkcikoaaW.PrintWords Go.Proofs.YtnpbhippkcikoaaW.PrintLast Go.Proofs.YtnpbhippkcikoaaW.PrintMore Go.Proofs.Ytnpbhippkcikoaa.PA Go.Proofs.Ytnpbhippkcikoaa.Bv
theorem w_nat (i : Nat) (h : i < 18446744073709551616) : IntKind.u64.wrap (i : Int) = (i : Int) := by rw [wrap_u64, U_ofInt]; omega
theorem i_succ (i : Nat) (h : i < 100) : wrap64 ((i : Int) + 1) = ((i + 1 : Nat) : Int) := by unfold wrap64; omega
theorem bit_f (a : W) (i : Nat) (h : i < 64) : lockgateref01_bit.f (U a) (i : Int) = some (U (b1 (a.getLsbD i))) := by
  rw [lockgateref01_bit.f, w_nat i (by omega), if_pos (by omega), bit_at]
theorem ci_succ (i : Nat) (x y : W) (c : Bool) : BitVec.carry (i + 1) x y c = (x.getLsbD i && y.getLsbD i || (x.getLsbD i || y.getLsbD i) && BitVec.carry i x y c) := by
  rw [BitVec.carry_succ, Bool.atLeastTwo]
  cases x.getLsbD i <;> cases y.getLsbD i <;> cases BitVec.carry i x y c <;> rfl
/-- a sum with a carry. -/
def sum (a b : W) (c : Bool) : W := a + b + b1 c
theorem sum_bit (a b : W) (c : Bool) (i : Nat) (h : i < 64) : (sum a b c).getLsbD i = (a.getLsbD i ^^ (b.getLsbD i ^^ BitVec.carry i a b c)) := by
  have e : sum a b c = a + b + (BitVec.ofBool c).setWidth 64 := by unfold sum b1; cases c <;> rfl
  rw [e, BitVec.getLsbD_add_add_bool h]
theorem three (x y z : Bool) : IntKind.u64.wrap (IntKind.u64.wrap (U (b1 x) + U (b1 y)) + U (b1 z)) = U (b1 x + b1 y + b1 z) := by
  simp only [wrap_u64, oi_add, ofInt_U]
theorem three_mod (x y z : Bool) : Int.tmod (U (b1 x + b1 y + b1 z)) 2 = U (b1 (x ^^ (y ^^ z))) := by cases x <;> cases y <;> cases z <;> decide
theorem three_div (x y z : Bool) : IntKind.u64.wrap (Int.tdiv (U (b1 x + b1 y + b1 z)) 2) = U (b1 (x && y || (x || y) && z)) := by cases x <;> cases y <;> cases z <;> decide
theorem add_l (a b : W) (c : Bool) (d : Nat) : ∀ (k i : Nat), i + d = 64 → d < k →
    lockgateref01_add.l0 k (U a) (U b) (U (b1 (BitVec.carry i a b c))) (U (acc (fun j => (sum a b c).getLsbD j) i)) (i : Int) = some (U (sum a b c)) := by
  induction d with
  | zero =>
    intro k i hi hk
    obtain ⟨k, rfl⟩ : ∃ m, k = m + 1 := ⟨k - 1, by omega⟩
    obtain rfl : i = 64 := by omega
    rw [lockgateref01_add.l0, if_neg (by omega), acc_self]
  | succ d ih =>
    intro k i hi hk
    obtain ⟨k, rfl⟩ : ∃ m, k = m + 1 := ⟨k - 1, by omega⟩
    rw [lockgateref01_add.l0, if_pos (by omega), bit_f a i (by omega), bit_f b i (by omega)]
    simp only [Option.bind_some]
    rw [three, three_mod, three_div, w_nat i (by omega), if_pos (by omega), shl_bit, b_or, ofInt_U, ofInt_U, i_succ i (by omega), ← ci_succ, ← sum_bit a b c i (by omega)]
    exact ih k (i + 1) (by omega) (by omega)
theorem add_f (k : Nat) (hk : 65 ≤ k) (a b : W) (c : Bool) : lockgateref01_add.f k (U a) (U b) (U (b1 c)) = some (U (sum a b c)) := by
  have h := add_l a b c 64 k 0 rfl (by omega)
  have e : BitVec.carry 0 a b c = c := by simp
  rw [e] at h
  exact h
theorem add0_f (k : Nat) (hk : 65 ≤ k) (a b : W) : lockgateref01_add.f k (U a) (U b) 0 = some (U (a + b)) := by
  have := add_f k hk a b false
  rw [sum, show b1 false = 0 from rfl, show a + b + 0 = a + b by simp] at this
  exact this
theorem add1_f (k : Nat) (hk : 65 ≤ k) (a b : W) : lockgateref01_add.f k (U a) (U (~~~b)) 1 = some (U (a - b)) := by
  have := add_f k hk a (~~~b) true
  rw [sum, show b1 true = 1 from rfl, show a + ~~~b + 1 = a - b by rw [BitVec.not_eq_neg_add]; grind] at this
  exact this
theorem not_l (a : W) (d : Nat) : ∀ (k i : Nat), i + d = 64 → d < k → lockgateref01_not.l0 k (U a) (U (acc (fun j => !a.getLsbD j) i)) (i : Int) = some (U (acc (fun j => !a.getLsbD j) 64)) := by
  induction d with
  | zero =>
    intro k i hi hk
    obtain ⟨k, rfl⟩ : ∃ m, k = m + 1 := ⟨k - 1, by omega⟩
    obtain rfl : i = 64 := by omega
    rw [lockgateref01_not.l0, if_neg (by omega)]
  | succ d ih =>
    intro k i hi hk
    obtain ⟨k, rfl⟩ : ∃ m, k = m + 1 := ⟨k - 1, by omega⟩
    have e : IntKind.u64.wrap (1 - U (b1 (a.getLsbD i))) = U (b1 (!a.getLsbD i)) := by cases a.getLsbD i <;> decide
    rw [lockgateref01_not.l0, if_pos (by omega), bit_f a i (by omega)]
    simp only [Option.bind_some]
    rw [e, w_nat i (by omega), if_pos (by omega), shl_bit, b_or, ofInt_U, ofInt_U, i_succ i (by omega)]
    exact ih k (i + 1) (by omega) (by omega)
theorem not_f (k : Nat) (hk : 65 ≤ k) (a : W) : lockgateref01_not.f k (U a) = some (U (~~~a)) := by
  have h := not_l a 64 k 0 rfl (by omega)
  have e : acc (fun j => !a.getLsbD j) 64 = ~~~a := by
    apply acc_eq (by omega)
    · intro i hi; rw [BitVec.getLsbD_not]; simp [hi]
    · intro i h1 h2; omega
  rw [e] at h
  exact h
theorem times_l (a b : W) (d : Nat) : ∀ (k i : Nat) (s : W), i + d = 64 → d + 65 < k → lockgateref01_times.l0 k (U a) (U b) (U s) (i : Int) = some (U (s + (a >>> i) * (b <<< i))) := by
  induction d with
  | zero =>
    intro k i s hi hk
    obtain ⟨k, rfl⟩ : ∃ m, k = m + 1 := ⟨k - 1, by omega⟩
    obtain rfl : i = 64 := by omega
    rw [lockgateref01_times.l0, if_neg (by omega)]
    have : a >>> 64 = 0 := by
      apply BitVec.eq_of_toNat_eq; rw [BitVec.toNat_ushiftRight, Nat.shiftRight_eq_div_pow]
      have := a.isLt; simp; omega
    rw [this]; simp
  | succ d ih =>
    intro k i s hi hk
    obtain ⟨k, rfl⟩ : ∃ m, k = m + 1 := ⟨k - 1, by omega⟩
    have e3 : (a >>> i).getLsbD 0 = a.getLsbD i := by rw [BitVec.getLsbD_ushiftRight, Nat.add_zero]
    have e1 : a >>> i >>> 1 = a >>> (i + 1) := by rw [BitVec.shiftRight_add]
    have e2 : b <<< i <<< 1 = b <<< (i + 1) := by rw [BitVec.shiftLeft_add]
    rw [lockgateref01_times.l0, if_pos (by omega), bit_f a i (by omega)]
    simp only [Option.bind_some, w_nat i (by omega), i_succ i (show i < 100 by omega)]
    rw [prod_step (a >>> i) (b <<< i), e1, e2, e3]
    cases h : a.getLsbD i
    · rw [if_neg (by decide), ih k (i + 1) s (by omega) (by omega)]; simp [b1]
    · rw [if_pos (by decide), if_pos (by omega), shl_U, Int.toNat_natCast, add0_f k (by omega)]
      simp only [Option.bind_some]
      rw [ih k (i + 1) _ (by omega) (by omega)]
      simp [b1, BitVec.add_assoc]
theorem times_f (k : Nat) (hk : 131 ≤ k) (a b : W) : lockgateref01_times.f k (U a) (U b) = some (U (a * b)) := by
  have h := times_l a b 64 k 0 0 rfl (by omega)
  rw [BitVec.ushiftRight_zero, BitVec.shiftLeft_zero, show 0 + a * b = a * b by simp] at h
  exact h
end Go.Proofs.Ytnpbhippkcikoaa.C01
end
section
/- Layer 1's reference: quotients, bits, shifts down, orders. -/
namespace Go.Proofs.Ytnpbhippkcikoaa.C01
open Go.RowKit Go.Proofs.YtnpbhippkcikoaaW.PrintWords Go.Proofs.YtnpbhippkcikoaaW.PrintLast Go.Proofs.YtnpbhippkcikoaaW.PrintMore Go.Proofs.Ytnpbhippkcikoaa.PA Go.Proofs.Ytnpbhippkcikoaa.Bv
theorem i_pred (i : Nat) (h : i < 100) : wrap64 ((i : Int) - 1) = (i : Int) - 1 := by unfold wrap64; omega
/-- n bits of a are still to come: the quotient so far, at its place; what is left over so far. -/
def dQ (a b : W) (n : Nat) : W := BitVec.ofNat 64 (a.toNat / 2 ^ n / b.toNat * 2 ^ n)
def dR (a b : W) (n : Nat) : W := BitVec.ofNat 64 (a.toNat / 2 ^ n % b.toNat)
theorem dQ_toNat (a b : W) (n : Nat) : (dQ a b n).toNat = a.toNat / 2 ^ n / b.toNat * 2 ^ n := by
  unfold dQ
  rw [BitVec.toNat_ofNat]
  apply Nat.mod_eq_of_lt
  have h1 : a.toNat / 2 ^ n / b.toNat ≤ a.toNat / 2 ^ n := Nat.div_le_self _ _
  have h2 : a.toNat / 2 ^ n * 2 ^ n ≤ a.toNat := Nat.div_mul_le_self _ _
  have h3 := Nat.mul_le_mul_right (2 ^ n) h1
  have := a.isLt
  omega
theorem dR_toNat (a b : W) (hb : b ≠ 0) (n : Nat) : (dR a b n).toNat = a.toNat / 2 ^ n % b.toNat := by
  unfold dR
  rw [BitVec.toNat_ofNat]
  apply Nat.mod_eq_of_lt
  have h0 : 0 < b.toNat := by
    rcases Nat.eq_zero_or_pos b.toNat with h | h
    · exact absurd (BitVec.eq_of_toNat_eq (by simpa using h)) hb
    · exact h
  have := Nat.mod_lt (a.toNat / 2 ^ n) h0
  have := b.isLt
  omega
theorem half_step (A n : Nat) : A / 2 ^ n = 2 * (A / 2 ^ (n + 1)) + A / 2 ^ n % 2 := by
  rw [Nat.pow_succ, ← Nat.div_div_eq_div_mul]; omega
theorem b1_toNat (b : Bool) : (b1 b).toNat = if b then 1 else 0 := by cases b <;> rfl
theorem bit_nat (a : W) (n : Nat) : (b1 (a.getLsbD n)).toNat = a.toNat / 2 ^ n % 2 := by
  rw [b1_toNat, BitVec.getLsbD, Nat.testBit_eq_decide_div_mod_eq]
  have := Nat.mod_two_eq_zero_or_one (a.toNat / 2 ^ n)
  rcases this with h | h <;> simp [h]
/-- a step down: what the quotient and the rest become. -/
theorem step_nat (m q r b bit : Nat) (hb : 0 < b) (hq : q = m / b) (hr : r = m % b) (hbit : bit < 2) :
    (2 * m + bit) / b = 2 * q + (if b ≤ 2 * r + bit then 1 else 0) ∧ (2 * m + bit) % b = 2 * r + bit - (if b ≤ 2 * r + bit then b else 0) := by
  have h1 : m = b * q + r := by rw [hq, hr]; exact (Nat.div_add_mod m b).symm
  have h2 : r < b := by rw [hr]; exact Nat.mod_lt _ hb
  have h3 : 2 * m + bit = b * (2 * q) + (2 * r + bit) := by rw [h1, Nat.mul_add]; have : b * (2 * q) = 2 * (b * q) := by rw [Nat.mul_left_comm]
                                                            omega
  by_cases h : b ≤ 2 * r + bit
  · rw [if_pos h, if_pos h]
    have h4 : 2 * m + bit = b * (2 * q + 1) + (2 * r + bit - b) := by rw [h3, Nat.mul_add, Nat.mul_one]; omega
    rw [h4]
    constructor
    · rw [Nat.mul_add_div hb, Nat.div_eq_of_lt (show 2 * r + bit - b < b by omega)]
    · rw [Nat.mul_add_mod, Nat.mod_eq_of_lt (by omega)]
  · rw [if_neg h, if_neg h, h3]
    constructor
    · rw [Nat.mul_add_div hb, Nat.div_eq_of_lt (by omega)]
    · rw [Nat.mul_add_mod, Nat.mod_eq_of_lt (by omega), Nat.sub_zero]
theorem divide_l (a b : W) (hb : b ≠ 0) (n : Nat) : ∀ k, n ≤ 64 → 2 * n + 66 < k →
    lockgateref01_divide.l0 k (U a) (U b) (U (dQ a b n)) (U (dR a b n)) ((n : Int) - 1) = some (U (a / b), U (a % b)) := by
  have h0 : 0 < b.toNat := by
    rcases Nat.eq_zero_or_pos b.toNat with h | h
    · exact absurd (BitVec.eq_of_toNat_eq (by simpa using h)) hb
    · exact h
  induction n with
  | zero =>
    intro k _ hk
    obtain ⟨k, rfl⟩ : ∃ m, k = m + 1 := ⟨k - 1, by omega⟩
    rw [lockgateref01_divide.l0, if_neg (by omega)]
    congr 2
    · apply congrArg; apply BitVec.eq_of_toNat_eq; rw [dQ_toNat, BitVec.toNat_udiv]; simp
    · apply congrArg; apply BitVec.eq_of_toNat_eq; rw [dR_toNat a b hb, BitVec.toNat_umod]; simp
  | succ n ih =>
    intro k hn hk
    obtain ⟨k, rfl⟩ : ∃ m, k = m + 2 := ⟨k - 2, by omega⟩
    have ih' := ih k (by omega) (by omega)
    have hi : ((n + 1 : Nat) : Int) - 1 = (n : Int) := by omega
    have e63 : (63 : Int) = ((63 : Nat) : Int) := rfl
    obtain ⟨sQ, sR⟩ := step_nat (a.toNat / 2 ^ (n + 1)) _ _ b.toNat (a.toNat / 2 ^ n % 2) h0 rfl rfl (Nat.mod_lt _ (by decide))
    rw [← half_step] at sQ sR
    have hR := dR_toNat a b hb (n + 1)
    have hR' := dR_toNat a b hb n
    have hlt := Nat.mod_lt (a.toNat / 2 ^ (n + 1)) h0
    have hbl := b.isLt
    have hbit := bit_nat a n
    have hov : (dR a b (n + 1)).getLsbD 63 = decide (2 ^ 63 ≤ (dR a b (n + 1)).toNat) := by
      rw [← BitVec.msb_eq_getLsbD_last, BitVec.msb_eq_decide]
    have hw : IntKind.u64.wrap (IntKind.u64.wrap (U (dR a b (n + 1)) * 2) + U (b1 (a.getLsbD n))) = U (dR a b (n + 1) + dR a b (n + 1) + b1 (a.getLsbD n)) := by
      simp only [wrap_u64, oi_add, oi_mul, ofInt_U]
      apply congrArg
      rw [show BitVec.ofInt 64 2 = (2 : W) by decide]
      grind
    have hsum : (dR a b (n + 1) + dR a b (n + 1) + b1 (a.getLsbD n)).toNat = (2 * (a.toNat / 2 ^ (n + 1) % b.toNat) + a.toNat / 2 ^ n % 2) % 2 ^ 64 := by
      rw [BitVec.toNat_add, BitVec.toNat_add, hR, hbit]; omega
    have hb2 : a.toNat / 2 ^ n % 2 < 2 := Nat.mod_lt _ (by decide)
    rw [lockgateref01_divide.l0, if_pos (by omega), e63, bit_f _ 63 (by omega), hi, bit_f a n (by omega)]
    simp only [Option.bind_some]
    rw [hw]
    have key : (if U (b1 ((dR a b (n + 1)).getLsbD 63)) = 1 then lockgateref01_divide.j1 (k + 1) (U a) (U b) (U (dQ a b (n + 1))) (U (dR a b (n + 1) + dR a b (n + 1) + b1 (a.getLsbD n))) (n : Int) true
        else lockgateref01_divide.j1 (k + 1) (U a) (U b) (U (dQ a b (n + 1))) (U (dR a b (n + 1) + dR a b (n + 1) + b1 (a.getLsbD n))) (n : Int) (decide (U (dR a b (n + 1) + dR a b (n + 1) + b1 (a.getLsbD n)) ≥ U b)))
        = lockgateref01_divide.j1 (k + 1) (U a) (U b) (U (dQ a b (n + 1))) (U (dR a b (n + 1) + dR a b (n + 1) + b1 (a.getLsbD n))) (n : Int) (decide (b.toNat ≤ 2 * (a.toNat / 2 ^ (n + 1) % b.toNat) + a.toNat / 2 ^ n % 2)) := by
      rw [hov]
      by_cases h : 2 ^ 63 ≤ (dR a b (n + 1)).toNat
      · rw [decide_eq_true h, if_pos (by decide)]
        congr 1; symm; rw [decide_eq_true_iff]; omega
      · rw [decide_eq_false h, if_neg (by decide)]
        congr 1; rw [decide_eq_decide, ge_iff_le, U_le_iff, BitVec.le_def, hsum]; omega
    rw [key, lockgateref01_divide.j1, not_f k (by omega)]
    simp only [Option.bind_some]
    rw [show lockgateref01_add.f k (U (dR a b (n + 1) + dR a b (n + 1) + b1 (a.getLsbD n))) (U (~~~b)) 1 = _ from add_f k (by omega) _ _ true, w_nat n (by omega)]
    have hQ := dQ_toNat a b (n + 1)
    have hQ' := dQ_toNat a b n
    have hi2 : wrap64 ((n : Int) - 1) = (n : Int) - 1 := i_pred n (by omega)
    have p0 : (0 : Int) ≤ (n : Int) := by omega
    by_cases h : b.toNat ≤ 2 * (a.toNat / 2 ^ (n + 1) % b.toNat) + a.toNat / 2 ^ n % 2
    · rw [if_pos h] at sQ sR
      simp only [Option.bind_some, if_pos (decide_eq_true h), if_pos p0]
      have eQ : Go.bits .or .u64 (U (dQ a b (n + 1))) (shl .u64 1 (n : Int)) = U (dQ a b n) := by
        rw [show (1 : Int) = U (b1 true) from rfl, shl_bit, b_or, ofInt_U, ofInt_U]
        apply congrArg
        have hz : dQ a b (n + 1) &&& b1 true <<< n = 0 := by
          apply and_zero_of
          intro j hj
          rw [getLsbD_b1_shl _ _ _ hj]
          by_cases e : j = n
          · subst e
            rw [BitVec.getLsbD, hQ, Nat.testBit_mul_two_pow, decide_eq_false (show ¬ j + 1 ≤ j by omega)]; rfl
          · simp [e]
        rw [← BitVec.add_eq_or_of_and_eq_zero _ _ hz]
        apply BitVec.eq_of_toNat_eq
        have h1 : (b1 true <<< n).toNat = 2 ^ n := by
          rw [BitVec.toNat_shiftLeft, Nat.shiftLeft_eq, show (b1 true).toNat = 1 from rfl, Nat.one_mul]
          exact Nat.mod_eq_of_lt (Nat.pow_lt_pow_right (by decide) (by omega))
        have h2 : (dQ a b n).toNat < 2 ^ 64 := (dQ a b n).isLt
        rw [BitVec.toNat_add, hQ, h1, hQ', sQ]
        rw [hQ', sQ] at h2
        rw [Nat.pow_succ, Nat.add_mul, Nat.one_mul] at *
        have : a.toNat / (2 ^ n * 2) / b.toNat * (2 ^ n * 2) = 2 * (a.toNat / (2 ^ n * 2) / b.toNat) * 2 ^ n := by
          rw [Nat.mul_comm (2 ^ n) 2, ← Nat.mul_assoc, Nat.mul_comm _ 2]
        rw [this]
        exact Nat.mod_eq_of_lt h2
      have eR : sum (dR a b (n + 1) + dR a b (n + 1) + b1 (a.getLsbD n)) (~~~b) true = dR a b n := by
        have : sum (dR a b (n + 1) + dR a b (n + 1) + b1 (a.getLsbD n)) (~~~b) true = dR a b (n + 1) + dR a b (n + 1) + b1 (a.getLsbD n) - b := by
          rw [sum, show b1 true = 1 from rfl, BitVec.not_eq_neg_add]; grind
        rw [this]
        apply BitVec.eq_of_toNat_eq
        rw [BitVec.toNat_sub, hsum, hR', sR]
        have := Nat.mod_lt (a.toNat / 2 ^ n) h0
        omega
      rw [eQ, eR, hi2]
      exact ih'
    · rw [if_neg h] at sQ sR
      simp only [Option.bind_some, decide_eq_false h, Bool.false_eq_true, if_false]
      have eQ : dQ a b (n + 1) = dQ a b n := by
        apply BitVec.eq_of_toNat_eq
        rw [hQ, hQ', sQ, Nat.pow_succ, Nat.add_zero, Nat.mul_comm (2 ^ n) 2, ← Nat.mul_assoc, Nat.mul_comm _ 2]
      have eR : dR a b (n + 1) + dR a b (n + 1) + b1 (a.getLsbD n) = dR a b n := by
        apply BitVec.eq_of_toNat_eq
        rw [hsum, hR', sR]; omega
      rw [eQ, eR, hi2]
      exact ih'
theorem divide_f (k : Nat) (hk : 195 ≤ k) (a b : W) (hb : b ≠ 0) : lockgateref01_divide.f k (U a) (U b) = some (U (a / b), U (a % b)) := by
  have h := divide_l a b hb 64 k (by omega) (by omega)
  have e1 : dQ a b 64 = 0 := by
    apply BitVec.eq_of_toNat_eq; rw [dQ_toNat, Nat.div_eq_of_lt a.isLt]; simp
  have e2 : dR a b 64 = 0 := by
    apply BitVec.eq_of_toNat_eq; rw [dR_toNat a b hb, Nat.div_eq_of_lt a.isLt]; simp
  rw [e1, e2] at h
  exact h
end Go.Proofs.Ytnpbhippkcikoaa.C01
end
section
/- Layer 1's reference: bits, shifts down, what is low; its Alu. -/
namespace Go.Proofs.Ytnpbhippkcikoaa.C01
open Go.RowKit Go.Proofs.YtnpbhippkcikoaaW.PrintWords Go.Proofs.YtnpbhippkcikoaaW.PrintLast Go.Proofs.YtnpbhippkcikoaaW.PrintMore Go.Proofs.Ytnpbhippkcikoaa.PA Go.Proofs.Ytnpbhippkcikoaa.Bv
/-- what an operation of the bits makes of two bits. -/
def opB (op : Int) (x y : Bool) : Bool := if op = 4 then x || y else if op = 5 then x && y else if op = 10 then x ^^ y else false
theorem two_bits (x y : Bool) : IntKind.u64.wrap (U (b1 x) + U (b1 y)) = (if x then 1 else 0) + (if y then 1 else 0) := by cases x <;> cases y <;> decide
theorem bits_l (op : Int) (hop : op = 4 ∨ op = 5 ∨ op = 10) (a b : W) (d : Nat) : ∀ (k i : Nat), i + d = 64 → d < k →
    lockgateref01_bits.l0 k op (U a) (U b) (U (acc (fun j => opB op (a.getLsbD j) (b.getLsbD j)) i)) (i : Int) = some (U (acc (fun j => opB op (a.getLsbD j) (b.getLsbD j)) 64)) := by
  induction d with
  | zero =>
    intro k i hi hk
    obtain ⟨k, rfl⟩ : ∃ m, k = m + 1 := ⟨k - 1, by omega⟩
    obtain rfl : i = 64 := by omega
    rw [lockgateref01_bits.l0, if_neg (by omega)]
  | succ d ih =>
    intro k i hi hk
    obtain ⟨k, rfl⟩ : ∃ m, k = m + 1 := ⟨k - 1, by omega⟩
    have hh := ih k (i + 1) (by omega) (by omega)
    have p0 : (0 : Int) ≤ (i : Int) := by omega
    have sh : shl .u64 1 (i : Int) = U (b1 true <<< i) := shl_bit true i
    have e0 : ∀ c : Bool, opB op (a.getLsbD i) (b.getLsbD i) = c → (if c then lockgateref01_bits.l0 k op (U a) (U b) (U (acc (fun j => opB op (a.getLsbD j) (b.getLsbD j)) i ||| b1 true <<< i)) ((i + 1 : Nat) : Int) else lockgateref01_bits.l0 k op (U a) (U b) (U (acc (fun j => opB op (a.getLsbD j) (b.getLsbD j)) i)) ((i + 1 : Nat) : Int)) = some (U (acc (fun j => opB op (a.getLsbD j) (b.getLsbD j)) 64)) := by
      intro c hc
      rw [acc, hc] at hh
      cases c
      · rw [show (b1 false <<< i) = 0 by simp [b1], show ∀ z : W, z ||| 0 = z from fun z => by simp] at hh; exact hh
      · exact hh
    rw [lockgateref01_bits.l0, if_pos (by omega), bit_f a i (by omega), bit_f b i (by omega)]
    simp only [Option.bind_some, two_bits, w_nat i (show i < 18446744073709551616 by omega), i_succ i (show i < 100 by omega), if_pos p0, sh, b_or, ofInt_U]
    have e1 := e0 _ rfl
    rcases hop with rfl | rfl | rfl
    · simp only [opB, if_true] at e1 hh ⊢
      revert e1
      cases a.getLsbD i <;> cases b.getLsbD i <;> simp
    · simp only [opB, if_true] at e1 hh ⊢
      revert e1
      cases a.getLsbD i <;> cases b.getLsbD i <;> simp
    · simp only [opB, if_true] at e1 hh ⊢
      revert e1
      cases a.getLsbD i <;> cases b.getLsbD i <;> simp
theorem bits_f (k : Nat) (hk : 65 ≤ k) (op : Int) (hop : op = 4 ∨ op = 5 ∨ op = 10) (a b : W) : lockgateref01_bits.f k op (U a) (U b) = some (U (aluW op a b)) := by
  have h := bits_l op hop a b 64 k 0 rfl (by omega)
  have e : acc (fun j => opB op (a.getLsbD j) (b.getLsbD j)) 64 = aluW op a b := by
    apply acc_eq (by omega)
    · intro i hi
      rcases hop with rfl | rfl | rfl
      · simp [aluW, opB]
      · simp [aluW, opB]
      · simp [aluW, opB]
    · intro i h1 h2; omega
  rw [e] at h
  exact h
theorem down_l (a : W) (n w : Nat) (hw : w ≤ 64) (hn : n < 64) (c : Bool) (d : Nat) : ∀ (k i : Nat), i + d = w → d < k →
    lockgateref01_down.l0 k (U a) (n : Int) (w : Int) (U (b1 c)) (U (acc (fun j => if j + n < w then a.getLsbD (j + n) else c) i)) (i : Int) = some (U (acc (fun j => if j + n < w then a.getLsbD (j + n) else c) w)) := by
  induction d with
  | zero =>
    intro k i hi hk
    obtain ⟨k, rfl⟩ : ∃ m, k = m + 1 := ⟨k - 1, by omega⟩
    obtain rfl : i = w := by omega
    rw [lockgateref01_down.l0, if_neg (by omega)]
  | succ d ih =>
    intro k i hi hk
    obtain ⟨k, rfl⟩ : ∃ m, k = m + 1 := ⟨k - 1, by omega⟩
    have hh := ih k (i + 1) (by omega) (by omega)
    have p0 : (0 : Int) ≤ (i : Int) := by omega
    have hs : wrap64 ((i : Int) + (n : Int)) = ((i + n : Nat) : Int) := by unfold wrap64; omega
    rw [acc] at hh
    rw [lockgateref01_down.l0, if_pos (by omega), hs]
    by_cases h : i + n < w
    · rw [if_pos (by omega), bit_f a (i + n) (by omega)]
      simp only [Option.bind_some]
      rw [w_nat i (by omega), if_pos p0, shl_bit, b_or, ofInt_U, ofInt_U, i_succ i (by omega)]
      rw [if_pos h] at hh; exact hh
    · rw [if_neg (by omega), w_nat i (by omega), if_pos p0, shl_bit, b_or, ofInt_U, ofInt_U, i_succ i (by omega)]
      rw [if_neg h] at hh; exact hh
theorem down_f (k : Nat) (hk : 65 ≤ k) (a : W) (n w : Nat) (hw : w ≤ 64) (hn : n < 64) (c : Bool) : lockgateref01_down.f k (U a) (n : Int) (w : Int) (U (b1 c)) = some (U (acc (fun j => if j + n < w then a.getLsbD (j + n) else c) w)) :=
  down_l a n w hw hn c w k 0 (by omega) (by omega)
theorem low64_f (a : W) : lockgateref01_Low.f (U a) 64 = some (U a) := by rw [lockgateref01_Low.f, if_pos (by decide)]
theorem low32_f (a : W) : lockgateref01_Low.f (U a) 32 = some (U (up (lo a))) := by
  rw [lockgateref01_Low.f, if_neg (by decide), show IntKind.u64.wrap 32 = 32 by decide, if_pos (by decide), show shl .u64 1 32 = 4294967296 by decide, if_neg (by decide), Int.tmod_eq_emod_of_nonneg (U_nonneg _), U_mod32, U_up]
/-! The low half of what is made of low halves. -/
theorem lo_up (x : W32) : lo (up x) = x := by
  apply BitVec.eq_of_getLsbD_eq; intro i hi
  rw [lo_bit, up_bit]; simp [hi, show i < 64 by omega]
theorem lo_add (x y : W) : lo (x + y) = lo x + lo y := by unfold lo; rw [BitVec.setWidth_add _ _ (by decide)]
theorem lo_mul (x y : W) : lo (x * y) = lo x * lo y := by unfold lo; rw [BitVec.setWidth_mul _ _ (by decide)]
theorem lo_neg (x : W) : lo (-x) = - lo x := by
  have h := lo_add x (-x)
  rw [show x + -x = 0 by grind, show lo 0 = 0 by decide] at h
  have : lo (-x) = - lo x + (lo x + lo (-x)) := by grind
  rw [this, ← h]; simp
theorem lo_sub (x y : W) : lo (x - y) = lo x - lo y := by
  rw [BitVec.sub_eq_add_neg, lo_add, lo_neg, BitVec.sub_eq_add_neg]
theorem lo_and (x y : W) : lo (x &&& y) = lo x &&& lo y := by unfold lo; rw [BitVec.setWidth_and]
theorem lo_or (x y : W) : lo (x ||| y) = lo x ||| lo y := by unfold lo; rw [BitVec.setWidth_or]
theorem lo_xor (x y : W) : lo (x ^^^ y) = lo x ^^^ lo y := by unfold lo; rw [BitVec.setWidth_xor]
theorem up_toNat (x : W32) : (up x).toNat = x.toNat := by unfold up; rw [BitVec.toNat_setWidth]; have := x.isLt; omega
theorem up_div (x y : W32) : up x / up y = up (x / y) := by
  apply BitVec.eq_of_toNat_eq; rw [BitVec.toNat_udiv, up_toNat, up_toNat, up_toNat, BitVec.toNat_udiv]
theorem up_mod (x y : W32) : up x % up y = up (x % y) := by
  apply BitVec.eq_of_toNat_eq; rw [BitVec.toNat_umod, up_toNat, up_toNat, up_toNat, BitVec.toNat_umod]
theorem lo_shl (x : W) (n : Nat) : lo (x <<< n) = lo x <<< n := by
  apply BitVec.eq_of_getLsbD_eq; intro i hi
  rw [lo_bit, BitVec.getLsbD_shiftLeft, BitVec.getLsbD_shiftLeft, lo_bit]
  simp only [hi, show i < 64 by omega, decide_true, Bool.true_and, show i - n < 32 by omega]
end Go.Proofs.Ytnpbhippkcikoaa.C01
end
section
/- Layer 1's reference: its Alu is the program's. -/
namespace Go.Proofs.Ytnpbhippkcikoaa.C01
open Go.RowKit Go.Proofs.YtnpbhippkcikoaaW.PrintWords Go.Proofs.YtnpbhippkcikoaaW.PrintLast Go.Proofs.YtnpbhippkcikoaaW.PrintMore Go.Proofs.Ytnpbhippkcikoaa.PA Go.Proofs.Ytnpbhippkcikoaa.Bv
theorem cases13 {op : Int} (h : 0 ≤ op ∧ op ≤ 12) : op = 0 ∨ op = 1 ∨ op = 2 ∨ op = 3 ∨ op = 4 ∨ op = 5 ∨ op = 6 ∨ op = 7 ∨ op = 8 ∨ op = 9 ∨ op = 10 ∨ op = 11 ∨ op = 12 := by omega
theorem pos_iff (b : W) : (U b > 0) ↔ b ≠ 0 := by
  have h1 := U_eq_zero b
  have h2 := U_nonneg b
  constructor
  · intro h e; have := h1.2 e; omega
  · intro h; have : ¬ U b = 0 := fun e => h (h1.1 e); omega
theorem div_zero (a : W) : a / 0 = 0 := by apply BitVec.eq_of_toNat_eq; rw [BitVec.toNat_udiv]; simp
theorem mod_zero (a : W) : a % 0 = a := by apply BitVec.eq_of_toNat_eq; rw [BitVec.toNat_umod]; simp
/-- how many bits; what is low. -/
def wd (wide : Bool) : Nat := if wide then 64 else 32
def low (wide : Bool) (a : W) : W := if wide then a else up (lo a)
theorem low_f (wide : Bool) (a : W) : lockgateref01_Low.f (U a) (wd wide : Int) = some (U (low wide a)) := by
  cases wide
  · exact low32_f a
  · exact low64_f a
theorem low0_f (wide : Bool) : lockgateref01_Low.f 0 (wd wide : Int) = some (U (low wide 0)) := low_f wide 0
theorem wd_wrap (wide : Bool) : IntKind.u64.wrap (wd wide : Int) = (wd wide : Int) := by cases wide <;> decide
theorem wd_ne (wide : Bool) : ¬ ((wd wide : Int) = 0) := by cases wide <;> decide
theorem wd_cnt (wide : Bool) (b : W) : wrap64 (Int.tmod (U b) (wd wide : Int)) = ((b.toNat % wd wide : Nat) : Int) := by
  cases wide
  · show wrap64 (Int.tmod (U b) 32) = ((b.toNat % 32 : Nat) : Int)
    rw [cntU32]; unfold wrap64; omega
  · show wrap64 (Int.tmod (U b) 64) = ((b.toNat % 64 : Nat) : Int)
    rw [cntU64]; unfold wrap64; omega
theorem wd_le (wide : Bool) : wd wide ≤ 64 ∧ 0 < wd wide := by cases wide <;> decide
theorem wd_top (wide : Bool) : wrap64 ((wd wide : Int) - 1) = ((wd wide - 1 : Nat) : Int) := by cases wide <;> (unfold wrap64; decide)
/-- what the reference makes, before it is cut. -/
def res (wide : Bool) (op : Int) (a b : W) : W := if op = 7 then acc (fun j => if j + b.toNat % wd wide < wd wide then a.getLsbD (j + b.toNat % wd wide) else false) (wd wide)
  else if op = 12 then acc (fun j => if j + b.toNat % wd wide < wd wide then a.getLsbD (j + b.toNat % wd wide) else a.getLsbD (wd wide - 1)) (wd wide)
  else if op = 6 then a <<< (b.toNat % wd wide) else aluW op a b
section
variable (wide : Bool) (a b : W)
theorem j2_bits (k : Nat) (hk : 280 ≤ k) (op : Int) (hop : op = 4 ∨ op = 5 ∨ op = 10) (n o : Int) : lockgateref01_Alu.j2 k op (U a) (U b) (wd wide : Int) n o true = some (U (low wide (res wide op a b)), true) := by
  obtain ⟨k, rfl⟩ : ∃ m, k = m + 1 := ⟨k - 1, by omega⟩
  rw [lockgateref01_Alu.j2, if_pos rfl, bits_f k (by omega) op hop]
  simp only [Option.bind_some, low_f]
  have e : res wide op a b = aluW op a b := by rcases hop with rfl | rfl | rfl <;> simp [res]
  rw [e]
theorem j2_rest (k : Nat) (hk : 280 ≤ k) (op : Int) (hop : op = 6 ∨ op = 7 ∨ op = 8 ∨ op = 11 ∨ op = 12) : lockgateref01_Alu.j2 k op (U a) (U b) (wd wide : Int) ((b.toNat % wd wide : Nat) : Int) op false = some (U (low wide (res wide op a b)), true) := by
  obtain ⟨k, rfl⟩ : ∃ m, k = m + 1 := ⟨k - 1, by omega⟩
  obtain ⟨w1, w2⟩ := wd_le wide
  have hl : b.toNat % wd wide < wd wide := Nat.mod_lt _ w2
  rw [lockgateref01_Alu.j2, if_neg (by decide)]
  rcases hop with rfl | rfl | rfl | rfl | rfl
  · rw [if_pos rfl, w_nat _ (by omega), if_pos (by omega), shl_U, Int.toNat_natCast, low_f]
    simp [res]
  · have hd : lockgateref01_down.f k (U a) ((b.toNat % wd wide : Nat) : Int) (wd wide : Int) 0 = _ := down_f k (by omega) a (b.toNat % wd wide) (wd wide) w1 (by omega) false
    rw [if_neg (by decide), if_pos rfl, hd]
    simp only [Option.bind_some, low_f]
    simp [res]
  · have h0 : lockgateref01_add.f k 0 (U (~~~a)) 1 = some (U (0 - a)) := add1_f k (by omega) 0 a
    have e0 : (0 : W) - a = -a := by simp
    rw [e0] at h0
    rw [if_neg (by decide), if_neg (by decide), if_pos rfl, not_f k (by omega)]
    simp only [Option.bind_some, h0, low_f]
    simp [res, aluW]
  · rw [if_neg (by decide), if_neg (by decide), if_neg (by decide), if_pos rfl, low_f]
    simp [res, aluW]
  · rw [if_neg (by decide), if_neg (by decide), if_neg (by decide), if_neg (by decide), if_pos rfl, wd_top, bit_f a _ (by omega)]
    simp only [Option.bind_some]
    rw [down_f k (by omega) a (b.toNat % wd wide) (wd wide) w1 (by omega)]
    simp only [Option.bind_some, low_f]
    simp [res]
theorem j2_none (k : Nat) (hk : 1 ≤ k) (op : Int) (h : ¬ (0 ≤ op ∧ op ≤ 12)) (n : Int) : lockgateref01_Alu.j2 k op (U a) (U b) (wd wide : Int) n op false = some (0, false) := by
  obtain ⟨k, rfl⟩ : ∃ m, k = m + 1 := ⟨k - 1, by omega⟩
  rw [lockgateref01_Alu.j2, if_neg (by decide), if_neg (by omega), if_neg (by omega), if_neg (by omega), if_neg (by omega), if_neg (by omega)]
theorem j1_div (k : Nat) (hk : 290 ≤ k) (op : Int) (hop : op = 3 ∨ op = 9) (n o : Int) : lockgateref01_Alu.j1 k op (U a) (U b) (wd wide : Int) n o true = some (U (low wide (res wide op a b)), true) := by
  obtain ⟨k, rfl⟩ : ∃ m, k = m + 1 := ⟨k - 1, by omega⟩
  rw [lockgateref01_Alu.j1, if_pos rfl]
  by_cases hb : b = 0
  · rw [if_neg (by rw [pos_iff]; exact fun h => h hb)]
    subst hb
    rcases hop with rfl | rfl
    · rw [if_neg (by decide), low0_f]; simp [res, aluW]
    · rw [if_pos rfl, low_f]; simp [res, aluW]
  · rw [if_pos ((pos_iff b).2 hb), divide_f k (by omega) a b hb]
    rcases hop with rfl | rfl
    · simp only [Option.bind_some]
      rw [if_neg (by decide), low_f]; simp [res, aluW]
    · simp only [Option.bind_some]
      rw [if_pos trivial, low_f]; simp [res, aluW]
theorem j1_other (k : Nat) (hk : 290 ≤ k) (op : Int) (h : 4 ≤ op ∧ op ≤ 12 ∧ op ≠ 9) : lockgateref01_Alu.j1 k op (U a) (U b) (wd wide : Int) ((b.toNat % wd wide : Nat) : Int) op false = some (U (low wide (res wide op a b)), true) := by
  obtain ⟨k, rfl⟩ : ∃ m, k = m + 1 := ⟨k - 1, by omega⟩
  rw [lockgateref01_Alu.j1, if_neg (by decide)]
  by_cases h4 : op = 4
  · rw [if_pos h4, show (op == 4) = true by simpa using h4]; exact j2_bits wide a b k (by omega) op (.inl h4) _ _
  · rw [if_neg h4]
    by_cases h5 : op = 5
    · rw [if_pos h5, show (op == 5) = true by simpa using h5]; exact j2_bits wide a b k (by omega) op (.inr (.inl h5)) _ _
    · rw [if_neg h5]
      by_cases h10 : op = 10
      · rw [show (op == 10) = true by simpa using h10]; exact j2_bits wide a b k (by omega) op (.inr (.inr h10)) _ _
      · rw [show (op == 10) = false by simpa using h10]; exact j2_rest wide a b k (by omega) op (by omega)
theorem j1_none (k : Nat) (hk : 2 ≤ k) (op : Int) (h : ¬ (0 ≤ op ∧ op ≤ 12)) (n : Int) : lockgateref01_Alu.j1 k op (U a) (U b) (wd wide : Int) n op false = some (0, false) := by
  obtain ⟨k, rfl⟩ : ∃ m, k = m + 1 := ⟨k - 1, by omega⟩
  have h10 : (op == 10) = false := by simp; omega
  rw [lockgateref01_Alu.j1, if_neg (by decide), if_neg (by omega), if_neg (by omega), h10]
  exact j2_none wide a b k (by omega) op h n
theorem j0_f (k : Nat) (hk : 300 ≤ k) (op : Int) : lockgateref01_Alu.j0 k op (U a) (U b) (wd wide : Int) = if 0 ≤ op ∧ op ≤ 12 then some (U (low wide (res wide op (low wide a) (low wide b))), true) else some (0, false) := by
  obtain ⟨k, rfl⟩ : ∃ m, k = m + 1 := ⟨k - 1, by omega⟩
  rw [lockgateref01_Alu.j0, low_f, low_f]
  refine bs rfl (bs rfl ?_)
  generalize low wide a = A
  generalize low wide b = B
  rw [wd_wrap, if_neg (wd_ne wide), wd_cnt]
  by_cases h0 : op = 0
  · subst h0; rw [if_pos rfl, if_pos (by decide), add0_f k (by omega)]; simp only [Option.bind_some, low_f]; simp [res, aluW]
  · rw [if_neg h0]
    by_cases h1 : op = 1
    · subst h1; rw [if_pos rfl, if_pos (by decide), not_f k (by omega)]; simp only [Option.bind_some, add1_f k (show 65 ≤ k by omega), low_f]; simp [res, aluW]
    · rw [if_neg h1]
      by_cases h2 : op = 2
      · subst h2; rw [if_pos rfl, if_pos (by decide), times_f k (by omega)]; simp only [Option.bind_some, low_f]; simp [res, aluW]
      · rw [if_neg h2]
        by_cases h3 : op = 3
        · subst h3; rw [if_pos rfl, if_pos (by decide)]; exact j1_div wide A B k (by omega) 3 (.inl rfl) _ _
        · rw [if_neg h3]
          by_cases h9 : op = 9
          · subst h9; rw [if_pos (by decide)]; exact j1_div wide A B k (by omega) 9 (.inr rfl) _ _
          · rw [show (op == 9) = false by simpa using h9]
            by_cases h : 0 ≤ op ∧ op ≤ 12
            · rw [if_pos h]; exact j1_other wide A B k (by omega) op (by omega)
            · rw [if_neg h]; exact j1_none wide A B k (by omega) op h _
end
end Go.Proofs.Ytnpbhippkcikoaa.C01
end
section
/- Layer 1: the reference's Alu is the program's. -/
namespace Go.Proofs.Ytnpbhippkcikoaa.C01
open Go.RowKit Go.Proofs.YtnpbhippkcikoaaW.PrintWords Go.Proofs.YtnpbhippkcikoaaW.PrintLast Go.Proofs.YtnpbhippkcikoaaW.PrintMore Go.Proofs.Ytnpbhippkcikoaa.PA Go.Proofs.Ytnpbhippkcikoaa.Bv
theorem res_wide (op : Int) (a b : W) : res true op a b = alu op true a b := by
  unfold res alu wd
  simp only [if_true]
  by_cases h7 : op = 7
  · subst h7
    rw [if_pos rfl, if_neg (by decide)]
    have hl : b.toNat % 64 < 64 := Nat.mod_lt _ (by decide)
    have e : acc (fun j => if j + b.toNat % 64 < 64 then a.getLsbD (j + b.toNat % 64) else false) 64 = a >>> (b.toNat % 64) := by
      apply acc_eq (by omega)
      · intro i hi
        rw [BitVec.getLsbD_ushiftRight, Nat.add_comm _ i]
        by_cases h : i + b.toNat % 64 < 64
        · rw [if_pos h]
        · rw [if_neg h, BitVec.getLsbD_of_ge _ _ (by omega)]
      · intro i h1 h2; omega
    rw [e]; simp [aluW]
  · rw [if_neg h7]
    by_cases h12 : op = 12
    · rw [if_pos h12, if_pos h12]
      apply acc_eq (by omega)
      · intro i hi
        rw [BitVec.getLsbD_sshiftRight, Nat.add_comm _ i, BitVec.msb_eq_getLsbD_last]
        simp only [show ¬ 64 ≤ i by omega, decide_false, Bool.not_false, Bool.true_and]
      · intro i h1 h2; omega
    · rw [if_neg h12, if_neg h12]
      by_cases h6 : op = 6
      · subst h6; rw [if_pos rfl]; simp [aluW]
      · rw [if_neg h6]
theorem res_narrow (op : Int) (h : 0 ≤ op ∧ op ≤ 12) (a b : W) : low false (res false op (low false a) (low false b)) = alu op false a b := by
  have hl : ∀ x, low false x = up (lo x) := fun _ => rfl
  have hn : (up (lo b)).toNat % wd false = b.toNat % 32 := by
    rw [up_toNat]; unfold lo; rw [BitVec.toNat_setWidth]; show _ % 32 = _; omega
  have hw : wd false = 32 := rfl
  have hm : (lo b).toNat % 32 = b.toNat % 32 := by unfold lo; rw [BitVec.toNat_setWidth]; omega
  have hlt : b.toNat % 32 < 32 := Nat.mod_lt _ (by decide)
  simp only [hl]
  unfold res alu
  rw [hn, hw]
  simp only [Bool.false_eq_true, if_false]
  rcases cases13 h with rfl | rfl | rfl | rfl | rfl | rfl | rfl | rfl | rfl | rfl | rfl | rfl | rfl
  · simp [aluW, aluN, lo_add, lo_up]
  · simp [aluW, aluN, lo_sub, lo_up]
  · simp [aluW, aluN, lo_mul, lo_up]
  · simp [aluW, aluN, up_div, lo_up]
  · simp [aluW, aluN, lo_or, lo_up]
  · simp [aluW, aluN, lo_and, lo_up]
  · simp only [show ¬ (6 : Int) = 7 by decide, show ¬ (6 : Int) = 12 by decide, if_false, if_true]
    rw [lo_shl, lo_up]; simp [aluN, hm]
  · simp only [show ¬ (7 : Int) = 12 by decide, if_false, if_true]
    have e : acc (fun j => if j + b.toNat % 32 < 32 then (up (lo a)).getLsbD (j + b.toNat % 32) else false) 32 = up (lo a >>> (b.toNat % 32)) := by
      apply acc_eq (by omega)
      · intro i hi
        rw [up_bit, BitVec.getLsbD_ushiftRight, Nat.add_comm _ i]
        simp only [show i < 64 by omega, decide_true, Bool.true_and]
        by_cases h : i + b.toNat % 32 < 32
        · rw [if_pos h, up_bit]; simp [show i + b.toNat % 32 < 64 by omega]
        · rw [if_neg h, BitVec.getLsbD_of_ge _ _ (by omega)]
      · intro i h1 h2
        rw [up_bit, BitVec.getLsbD_of_ge _ _ (by omega)]; simp
    rw [e, lo_up]; simp [aluN, hm]
  · simp [aluW, aluN, lo_neg, lo_up]
  · simp [aluW, aluN, up_mod, lo_up]
  · simp [aluW, aluN, lo_xor, lo_up]
  · simp [aluW, aluN, lo_up]
  · simp only [show ¬ (12 : Int) = 7 by decide, if_false, if_true]
    have e : acc (fun j => if j + b.toNat % 32 < 32 then (up (lo a)).getLsbD (j + b.toNat % 32) else (up (lo a)).getLsbD (32 - 1)) 32 = up ((lo a).sshiftRight (b.toNat % 32)) := by
      apply acc_eq (by omega)
      · intro i hi
        rw [up_bit, BitVec.getLsbD_sshiftRight, Nat.add_comm _ i, BitVec.msb_eq_getLsbD_last]
        simp only [show i < 64 by omega, show ¬ 32 ≤ i by omega, decide_true, decide_false, Bool.not_false, Bool.true_and]
        by_cases h : i + b.toNat % 32 < 32
        · rw [if_pos h, if_pos h, up_bit]; simp [show i + b.toNat % 32 < 64 by omega]
        · rw [if_neg h, if_neg h, up_bit]; simp
      · intro i h1 h2
        rw [up_bit, BitVec.getLsbD_sshiftRight]; simp [h1]
    rw [e, lo_up]; rfl
theorem alu_none (op : Int) (h : ¬ (0 ≤ op ∧ op ≤ 12)) (wide : Bool) (a b : W) : alu op wide a b = 0 := by
  have n0 : ∀ j : Int, 0 ≤ j ∧ j ≤ 12 → op ≠ j := fun j hj e => h (e ▸ hj)
  unfold alu aluW aluN
  simp only [n0 0 (by decide), n0 1 (by decide), n0 2 (by decide), n0 3 (by decide), n0 4 (by decide), n0 5 (by decide), n0 6 (by decide), n0 7 (by decide), n0 8 (by decide), n0 9 (by decide), n0 10 (by decide), n0 11 (by decide), n0 12 (by decide), if_false]
  cases wide <;> rfl
theorem ralu_f (k : Nat) (hk : 300 ≤ k) (op : Int) (wide : Bool) (a b : W) : lockgateref01_Alu.f k op wide (U a) (U b) = some (U (alu op wide a b), isOp op) := by
  have h := j0_f wide a b k hk op
  have e : lockgateref01_Alu.f k op wide (U a) (U b) = lockgateref01_Alu.j0 k op (U a) (U b) (wd wide : Int) := by
    cases wide
    · rw [lockgateref01_Alu.f, if_neg (by decide)]; rfl
    · rw [lockgateref01_Alu.f, if_pos rfl]; rfl
  rw [e, h]
  by_cases hop : 0 ≤ op ∧ op ≤ 12
  · rw [if_pos hop, show isOp op = true from decide_eq_true hop]
    cases wide
    · rw [res_narrow op hop]
    · rw [show ∀ x, low true x = x from fun _ => rfl, show ∀ x, low true x = x from fun _ => rfl, show ∀ x, low true x = x from fun _ => rfl, res_wide]
  · rw [if_neg hop, alu_none op hop, show isOp op = false from decide_eq_false hop]; rfl
end Go.Proofs.Ytnpbhippkcikoaa.C01
end
section
/- Layer 1's jumps: the program's and the reference's. -/
namespace Go.Proofs.Ytnpbhippkcikoaa.C01
open Go.RowKit Go.Proofs.YtnpbhippkcikoaaW.PrintWords Go.Proofs.YtnpbhippkcikoaaW.PrintLast Go.Proofs.YtnpbhippkcikoaaW.PrintMore Go.Proofs.Ytnpbhippkcikoaa.PA Go.Proofs.Ytnpbhippkcikoaa.Bv
def ordI (x y : Int) : Int := if x < y then -1 else if x > y then 1 else 0
theorem order64_f (x y : Int) : word_order_uint64.f x y = some (ordI x y) := by
  unfold word_order_uint64.f ordI; split <;> (try split) <;> rfl
theorem orderS_f (x y : Int) : word_order_int64.f x y = some (ordI x y) := by
  unfold word_order_int64.f ordI; split <;> (try split) <;> rfl
/-- the two numbers of a jump, without a sign and with one. -/
def jA (wide : Bool) (a : W) : W := if wide then a else up (lo a)
def jS (wide : Bool) (a : W) : Int := if wide then S a else (lo a).toInt
def jmp (op : Int) (wide : Bool) (a b : W) : Bool :=
  if op = 1 then ordI (U (jA wide a)) (U (jA wide b)) == 0 else if op = 5 then ordI (U (jA wide a)) (U (jA wide b)) != 0 else if op = 2 then decide (ordI (U (jA wide a)) (U (jA wide b)) > 0) else if op = 3 then decide (ordI (U (jA wide a)) (U (jA wide b)) ≥ 0)
  else if op = 10 then decide (ordI (U (jA wide a)) (U (jA wide b)) < 0) else if op = 11 then decide (ordI (U (jA wide a)) (U (jA wide b)) ≤ 0) else if op = 6 then decide (ordI (jS wide a) (jS wide b) > 0) else if op = 7 then decide (ordI (jS wide a) (jS wide b) ≥ 0)
  else if op = 12 then decide (ordI (jS wide a) (jS wide b) < 0) else if op = 13 then decide (ordI (jS wide a) (jS wide b) ≤ 0) else if op = 4 then jA wide a &&& jA wide b != 0 else false
def isJmp (op : Int) : Bool := decide (1 ≤ op ∧ op ≤ 13 ∧ op ≠ 8 ∧ op ≠ 9)
theorem ite_pair {c : Prop} [Decidable c] (x y : Bool) (p q : Bool) : (if c then some (x, p) else some (y, q)) = some (if c then x else y, if c then p else q) := by split <;> rfl
theorem U_bne (x : W) : (U x != 0) = (x != 0) := by
  rw [Bool.eq_iff_iff, bne_iff_ne, bne_iff_ne, ne_eq, ne_eq, U_eq_zero]
theorem isJ (op : Int) : (if op = 1 then true else if op = 5 then true else if op = 2 then true else if op = 3 then true else if op = 10 then true else if op = 11 then true else if op = 6 then true else if op = 7 then true else if op = 12 then true else if op = 13 then true else if op = 4 then true else false) = isJmp op := by
  unfold isJmp
  by_cases h : 1 ≤ op ∧ op ≤ 13
  · obtain ⟨h1, h2⟩ := h
    have : op = 1 ∨ op = 2 ∨ op = 3 ∨ op = 4 ∨ op = 5 ∨ op = 6 ∨ op = 7 ∨ op = 8 ∨ op = 9 ∨ op = 10 ∨ op = 11 ∨ op = 12 ∨ op = 13 := by omega
    rcases this with rfl | rfl | rfl | rfl | rfl | rfl | rfl | rfl | rfl | rfl | rfl | rfl | rfl <;> decide
  · rw [if_neg (by omega), if_neg (by omega), if_neg (by omega), if_neg (by omega), if_neg (by omega), if_neg (by omega), if_neg (by omega), if_neg (by omega), if_neg (by omega), if_neg (by omega), if_neg (by omega)]
    symm; rw [decide_eq_false_iff_not]; omega
theorem jump_f (k : Nat) (hk : 1 ≤ k) (op : Int) (wide : Bool) (a b : W) : word_Jump.f k op wide (U a) (U b) = some (jmp op wide a b, isJmp op) := by
  obtain ⟨k, rfl⟩ : ∃ m, k = m + 1 := ⟨k - 1, by omega⟩
  have hS : ∀ x : W, wrap64 (wrap32 (U x % 4294967296)) = (lo x).toInt := fun x => by
    rw [U_mod32, wrap32_V]
    have h1 := BitVec.le_toInt (lo x)
    have h2 := BitVec.toInt_lt (x := lo x)
    simp at h1 h2
    unfold wrap64; omega
  have key : ∀ x y : W, ∀ s t : Int, word_Jump.j0 (k + 1) op (U x) (U y) s t = some ((if op = 1 then ordI (U x) (U y) == 0 else if op = 5 then ordI (U x) (U y) != 0 else if op = 2 then decide (ordI (U x) (U y) > 0) else if op = 3 then decide (ordI (U x) (U y) ≥ 0)
      else if op = 10 then decide (ordI (U x) (U y) < 0) else if op = 11 then decide (ordI (U x) (U y) ≤ 0) else if op = 6 then decide (ordI s t > 0) else if op = 7 then decide (ordI s t ≥ 0)
      else if op = 12 then decide (ordI s t < 0) else if op = 13 then decide (ordI s t ≤ 0) else if op = 4 then x &&& y != 0 else false), isJmp op) := by
    intro x y s t
    rw [word_Jump.j0, order64_f, orderS_f]
    simp only [Option.bind_some, ite_pair, b_and, ofInt_U, U_bne, isJ]
  unfold word_Jump.f
  cases wide
  · rw [if_neg (by decide), hS, hS, U_mod32, U_mod32, ← U_up, ← U_up, key]; rfl
  · rw [if_pos rfl, wrap_i64, wrap_i64, ofInt_U, ofInt_U, key]; rfl
/-! the reference's order -/
theorem oj1_f (k : Nat) (hk : 1 ≤ k) (x y : Bool) : lockgateref01_order.j1 k x y = some (if (x ^^ y) then 1 else -1) := by
  obtain ⟨k, rfl⟩ : ∃ m, k = m + 1 := ⟨k - 1, by omega⟩
  rw [lockgateref01_order.j1]; cases x <;> cases y <;> rfl
theorem b1_cmp (x y : Bool) : (U (b1 x) = U (b1 y)) ↔ x = y := by cases x <;> cases y <;> decide
theorem b1_gt (x y : Bool) : (decide (U (b1 x) > U (b1 y))) = (x && !y) := by cases x <;> cases y <;> decide
theorem mod_succ (A n : Nat) : A % 2 ^ (n + 1) = A / 2 ^ n % 2 * 2 ^ n + A % 2 ^ n := by
  rw [Nat.pow_succ, Nat.mod_mul, Nat.mul_comm, Nat.add_comm]
theorem bit_dec (a : W) (n : Nat) : a.toNat / 2 ^ n % 2 = if a.getLsbD n then 1 else 0 := by
  rw [← b1_toNat, bit_nat]
theorem ordI_lt {x y : Int} (h : x < y) : ordI x y = -1 := if_pos h
theorem ordI_gt {x y : Int} (h : y < x) : ordI x y = 1 := by unfold ordI; rw [if_neg (by omega), if_pos h]
theorem ordI_add (x y c : Int) : ordI (c + x) (c + y) = ordI x y := by
  unfold ordI
  by_cases h : x < y
  · rw [if_pos h, if_pos (by omega)]
  · rw [if_neg h, if_neg (show ¬ c + x < c + y by omega)]
    by_cases h2 : x > y
    · rw [if_pos h2, if_pos (show c + x > c + y by omega)]
    · rw [if_neg h2, if_neg (show ¬ c + x > c + y by omega)]
theorem order_l (a b : W) (w : Nat) (sign : Bool) (hw : w ≤ 64) (n : Nat) : ∀ k, n ≤ w → (sign = false ∨ n < w) → 2 * n < k →
    lockgateref01_order.l0 k (U a) (U b) (w : Int) sign ((n : Int) - 1) = some (ordI ((a.toNat % 2 ^ n : Nat) : Int) ((b.toNat % 2 ^ n : Nat) : Int)) := by
  induction n with
  | zero =>
    intro k _ _ hk
    obtain ⟨k, rfl⟩ : ∃ m, k = m + 1 := ⟨k - 1, by omega⟩
    rw [lockgateref01_order.l0, if_neg (by omega), Nat.pow_zero, Nat.mod_one, Nat.mod_one]; rfl
  | succ n ih =>
    intro k hn hs hk
    obtain ⟨k, rfl⟩ : ∃ m, k = m + 1 := ⟨k - 1, by omega⟩
    have hi : ((n + 1 : Nat) : Int) - 1 = (n : Int) := by omega
    have ih' := ih k (by omega) (by omega) (by omega)
    have la := Nat.mod_lt a.toNat (Nat.two_pow_pos n)
    have lb := Nat.mod_lt b.toNat (Nat.two_pow_pos n)
    rw [hi, lockgateref01_order.l0, if_pos (by omega), bit_f a n (by omega), bit_f b n (by omega), i_pred n (by omega)]
    refine bs rfl (bs rfl ?_)
    rw [mod_succ a.toNat n, mod_succ b.toNat n, bit_dec, bit_dec]
    have e1 : ∀ z, lockgateref01_order.j1 k z ((n : Int) == wrap64 ((w : Int) - 1)) = lockgateref01_order.j1 k z ((n : Int) == wrap64 ((w : Int) - 1)) := fun _ => rfl
    by_cases h : U (b1 (a.getLsbD n)) = U (b1 (b.getLsbD n))
    · rw [if_pos h, ih']
      rw [b1_cmp] at h
      rw [h, Int.natCast_add, Int.natCast_add, ordI_add]
    · rw [if_neg h, b1_gt]
      rw [b1_cmp] at h
      have hc : (if sign = true then lockgateref01_order.j1 k (a.getLsbD n && !b.getLsbD n) ((n : Int) == wrap64 ((w : Int) - 1)) else lockgateref01_order.j1 k (a.getLsbD n && !b.getLsbD n) false) = some (if (a.getLsbD n && !b.getLsbD n) then 1 else -1) := by
        rcases hs with hs | hs
        · rw [hs, if_neg (by decide), oj1_f k (by omega), Bool.xor_false]
        · have e : ((n : Int) == wrap64 ((w : Int) - 1)) = false := by
            rw [beq_eq_false_iff_ne]; unfold wrap64; omega
          rw [e, ite_self, oj1_f k (by omega), Bool.xor_false]
      rw [hc]
      revert h
      cases a.getLsbD n <;> cases b.getLsbD n
      · intro h; exact absurd rfl h
      · intro _; rw [ordI_lt (by simp; omega)]; rfl
      · intro _; rw [ordI_gt (by simp; omega)]; rfl
      · intro h; exact absurd rfl h
/-- with a sign, of w bits. -/
def sg (w : Nat) (a : W) : Int := ((a.toNat % 2 ^ (w - 1) : Nat) : Int) - (if a.getLsbD (w - 1) then ((2 ^ (w - 1) : Nat) : Int) else 0)
theorem order_f (a b : W) (w : Nat) (h0 : 0 < w) (hw : w ≤ 64) (k : Nat) (hk : 200 ≤ k) (sign : Bool) : lockgateref01_order.f k (U a) (U b) (w : Int) sign = some (if sign then ordI (sg w a) (sg w b) else ordI ((a.toNat % 2 ^ w : Nat) : Int) ((b.toNat % 2 ^ w : Nat) : Int)) := by
  have hp : wrap64 ((w : Int) - 1) = (w : Int) - 1 := by unfold wrap64; omega
  rw [lockgateref01_order.f, hp]
  cases sign
  · exact order_l a b w false hw w k (by omega) (.inl rfl) (by omega)
  · obtain ⟨n, rfl⟩ : ∃ m, w = m + 1 := ⟨w - 1, by omega⟩
    obtain ⟨k, rfl⟩ : ∃ m, k = m + 1 := ⟨k - 1, by omega⟩
    have hi : ((n + 1 : Nat) : Int) - 1 = (n : Int) := by omega
    have la := Nat.mod_lt a.toNat (Nat.two_pow_pos n)
    have lb := Nat.mod_lt b.toNat (Nat.two_pow_pos n)
    have ih' := order_l a b (n + 1) true hw n k (by omega) (.inr (by omega)) (by omega)
    rw [lockgateref01_order.l0, hi, if_pos (by omega), bit_f a n (by omega), bit_f b n (by omega), i_pred n (by omega)]
    refine bs rfl (bs rfl ?_)
    unfold sg
    rw [Nat.add_sub_cancel]
    by_cases h : U (b1 (a.getLsbD n)) = U (b1 (b.getLsbD n))
    · rw [if_pos h, ih']
      rw [b1_cmp] at h
      rw [h, if_pos rfl]
      congr 1
      generalize (if b.getLsbD n = true then ((2 ^ n : Nat) : Int) else 0) = c
      rw [Int.sub_eq_add_neg, Int.sub_eq_add_neg, Int.add_comm _ (-c), Int.add_comm _ (-c), ordI_add]
    · rw [if_neg h, b1_gt, if_pos rfl, if_pos rfl]
      rw [b1_cmp] at h
      have e : ((n : Int) == wrap64 (n : Int)) = true := by rw [beq_iff_eq]; unfold wrap64; omega
      rw [e, oj1_f k (by omega), Bool.xor_true]
      revert h
      cases a.getLsbD n <;> cases b.getLsbD n
      · intro h; exact absurd rfl h
      · intro _; rw [ordI_gt (by simp; omega)]; rfl
      · intro _; rw [ordI_lt (by simp; omega)]; rfl
      · intro h; exact absurd rfl h
/-! the reference's Jump -/
theorem sg_wide (a : W) : sg 64 a = S a := by
  unfold sg S
  rw [BitVec.toInt_eq_toNat_cond, ← BitVec.msb_eq_getLsbD_last, BitVec.msb_eq_decide]
  have := a.isLt
  simp only [show (64 - 1 : Nat) = 63 from rfl]
  by_cases h : 2 ^ 63 ≤ a.toNat
  · rw [decide_eq_true h, if_pos rfl, if_neg (by omega)]; omega
  · rw [decide_eq_false h, if_neg (by decide), if_pos (by omega)]; omega
theorem sg_narrow (a : W) : sg 32 (up (lo a)) = (lo a).toInt := by
  unfold sg
  rw [BitVec.toInt_eq_toNat_cond, up_bit, up_toNat]
  have e : (lo a).getLsbD (32 - 1) = decide (2 ^ 31 ≤ (lo a).toNat) := by rw [← BitVec.msb_eq_getLsbD_last, BitVec.msb_eq_decide]
  have := (lo a).isLt
  rw [e]
  simp only [show (32 - 1 : Nat) = 31 from rfl, show (31 < 64) = True by simp, decide_true, Bool.true_and]
  by_cases h : 2 ^ 31 ≤ (lo a).toNat
  · rw [decide_eq_true h, if_pos rfl, if_neg (by omega)]; omega
  · rw [decide_eq_false h, if_neg (by decide), if_pos (by omega)]; omega
theorem and_gt (x y : W) : decide (U (x &&& y) > 0) = (x &&& y != 0) := by
  rw [Bool.eq_iff_iff, decide_eq_true_iff, bne_iff_ne]
  have h1 := U_eq_zero (x &&& y)
  have h2 := U_nonneg (x &&& y)
  constructor
  · intro h e; have := h1.2 e; omega
  · intro h; have : ¬ U (x &&& y) = 0 := fun e => h (h1.1 e); omega
theorem rj0_f (k : Nat) (hk : 210 ≤ k) (op : Int) (wide : Bool) (a b : W) : lockgateref01_Jump.j0 k op (U a) (U b) (if wide then 64 else 32) = some (jmp op wide a b, isJmp op) := by
  obtain ⟨k, rfl⟩ : ∃ m, k = m + 1 := ⟨k - 1, by omega⟩
  have hl : ∀ x, lockgateref01_Low.f (U x) (if wide then 64 else 32) = some (U (jA wide x)) := fun x => by
    cases wide
    · exact low32_f x
    · exact low64_f x
  have hU : ∀ x y, lockgateref01_order.f k (U (jA wide x)) (U (jA wide y)) (if wide then 64 else 32) false = some (ordI (U (jA wide x)) (U (jA wide y))) := fun x y => by
    cases wide
    · have := order_f (up (lo x)) (up (lo y)) 32 (by decide) (by decide) k (by omega) false
      rw [if_neg (by decide), Nat.mod_eq_of_lt (by rw [up_toNat]; exact (lo x).isLt), Nat.mod_eq_of_lt (by rw [up_toNat]; exact (lo y).isLt)] at this
      exact this
    · have := order_f x y 64 (by decide) (by decide) k (by omega) false
      rw [if_neg (by decide), Nat.mod_eq_of_lt x.isLt, Nat.mod_eq_of_lt y.isLt] at this
      exact this
  have hS : ∀ x y, lockgateref01_order.f k (U (jA wide x)) (U (jA wide y)) (if wide then 64 else 32) true = some (ordI (jS wide x) (jS wide y)) := fun x y => by
    cases wide
    · have := order_f (up (lo x)) (up (lo y)) 32 (by decide) (by decide) k (by omega) true
      rw [if_pos rfl, sg_narrow, sg_narrow] at this
      exact this
    · have := order_f x y 64 (by decide) (by decide) k (by omega) true
      rw [if_pos rfl, sg_wide, sg_wide] at this
      exact this
  rw [lockgateref01_Jump.j0, hl, hl]
  refine bs rfl (bs rfl ?_)
  rw [hU, hS]
  refine bs rfl (bs rfl ?_)
  rw [bits_f k (by omega) 5 (by decide)]
  have e5 : aluW 5 (jA wide a) (jA wide b) = jA wide a &&& jA wide b := by simp [aluW]
  rw [e5]
  simp only [Option.bind_some, and_gt]
  unfold jmp
  by_cases h : 1 ≤ op ∧ op ≤ 13
  · obtain ⟨h1, h2⟩ := h
    have : op = 1 ∨ op = 2 ∨ op = 3 ∨ op = 4 ∨ op = 5 ∨ op = 6 ∨ op = 7 ∨ op = 8 ∨ op = 9 ∨ op = 10 ∨ op = 11 ∨ op = 12 ∨ op = 13 := by omega
    rcases this with rfl | rfl | rfl | rfl | rfl | rfl | rfl | rfl | rfl | rfl | rfl | rfl | rfl <;> rfl
  · rw [if_neg (by omega), if_neg (by omega), if_neg (by omega), if_neg (by omega), if_neg (by omega), if_neg (by omega), if_neg (by omega), if_neg (by omega), if_neg (by omega), if_neg (by omega), if_neg (by omega)]
    rw [if_neg (by omega), if_neg (by omega), if_neg (by omega), if_neg (by omega), if_neg (by omega), if_neg (by omega), if_neg (by omega), if_neg (by omega), if_neg (by omega), if_neg (by omega), if_neg (by omega)]
    rw [show isJmp op = false by unfold isJmp; rw [decide_eq_false_iff_not]; omega]
theorem rjump_f (k : Nat) (hk : 210 ≤ k) (op : Int) (wide : Bool) (a b : W) : lockgateref01_Jump.f k op wide (U a) (U b) = some (jmp op wide a b, isJmp op) := by
  have h := rj0_f k hk op wide a b
  rw [lockgateref01_Jump.f]
  cases wide
  · rw [if_neg (by decide)]; exact h
  · rw [if_pos rfl]; exact h
end Go.Proofs.Ytnpbhippkcikoaa.C01
end
section
/- Layer 1: bytes turned about. -/
namespace Go.Proofs.Ytnpbhippkcikoaa.C01
open Go.RowKit Go.Proofs.YtnpbhippkcikoaaW.PrintWords Go.Proofs.YtnpbhippkcikoaaW.PrintLast Go.Proofs.YtnpbhippkcikoaaW.PrintMore Go.Proofs.Ytnpbhippkcikoaa.PA Go.Proofs.Ytnpbhippkcikoaa.Bv
/-- the byte at place j. -/
def byte (v : W) (j : Nat) : W := v >>> (8 * j) &&& 255
/-- the low 8n bits. -/
def lowB (v : W) (n : Nat) : W := v <<< (64 - 8 * n) >>> (64 - 8 * n)
/-- the low n bytes, the lowest first. -/
def revB (v : W) : Nat → W
  | 0 => 0
  | n + 1 => revB v n <<< 8 ||| byte v n
theorem c255 (i : Nat) (hi : i < 64) : (255 : W).getLsbD i = decide (i < 8) := by
  have : ∀ i : Fin 64, (255 : W).getLsbD i.1 = decide (i.1 < 8) := by decide
  exact this ⟨i, hi⟩
theorem byte_bit (v : W) (j i : Nat) (hi : i < 64) : (byte v j).getLsbD i = (v.getLsbD (8 * j + i) && decide (i < 8)) := by
  unfold byte; rw [BitVec.getLsbD_and, BitVec.getLsbD_ushiftRight, c255 i hi]
theorem lowB_bit (v : W) (n i : Nat) (hn : n ≤ 8) (hi : i < 64) : (lowB v n).getLsbD i = (decide (i < 8 * n) && v.getLsbD i) := by
  unfold lowB
  rw [BitVec.getLsbD_ushiftRight, BitVec.getLsbD_shiftLeft]
  by_cases h : i < 8 * n
  · rw [decide_eq_true (show 64 - 8 * n + i < 64 by omega), decide_eq_false (show ¬ 64 - 8 * n + i < 64 - 8 * n by omega), decide_eq_true h, show 64 - 8 * n + i - (64 - 8 * n) = i by omega]; rfl
  · rw [decide_eq_false (show ¬ 64 - 8 * n + i < 64 by omega), decide_eq_false h]; rfl
theorem revB_bit (v : W) (n i : Nat) (hn : n ≤ 8) (hi : i < 64) : (revB v n).getLsbD i = (decide (i < 8 * n) && v.getLsbD (8 * (n - 1 - i / 8) + i % 8)) := by
  induction n generalizing i with
  | zero => simp [revB]
  | succ n ih =>
    rw [revB, BitVec.getLsbD_or, byte_bit v n i hi, BitVec.getLsbD_shiftLeft]
    by_cases h : i < 8
    · rw [decide_eq_true h, decide_eq_true (show i < 8 * (n + 1) by omega), show i / 8 = 0 by omega, show i % 8 = i by omega, show n + 1 - 1 - 0 = n by omega]
      simp
    · rw [decide_eq_false h, decide_eq_true hi, ih (i - 8) (by omega) (by omega)]
      by_cases h2 : i < 8 * (n + 1)
      · rw [decide_eq_true h2, decide_eq_true (show i - 8 < 8 * n by omega), show n - 1 - (i - 8) / 8 = n + 1 - 1 - i / 8 by omega, show (i - 8) % 8 = i % 8 by omega]; simp
      · rw [decide_eq_false h2, decide_eq_false (show ¬ i - 8 < 8 * n by omega)]; simp
theorem revB_revB (v : W) (n : Nat) (hn : n ≤ 8) : revB (revB v n) n = lowB v n := by
  apply BitVec.eq_of_getLsbD_eq
  intro i hi
  rw [revB_bit _ n i hn hi, lowB_bit v n i hn hi]
  by_cases h : i < 8 * n
  · rw [revB_bit v n _ hn (by omega), decide_eq_true h, decide_eq_true (by omega)]
    rw [show 8 * (n - 1 - (8 * (n - 1 - i / 8) + i % 8) / 8) + (8 * (n - 1 - i / 8) + i % 8) % 8 = i by omega]; rfl
  · rw [decide_eq_false h]; rfl
theorem revB_low (v : W) (n : Nat) (hn : n ≤ 8) : revB (lowB v n) n = revB v n := by
  apply BitVec.eq_of_getLsbD_eq
  intro i hi
  rw [revB_bit _ n i hn hi, revB_bit v n i hn hi]
  by_cases h : i < 8 * n
  · rw [lowB_bit v n _ hn (by omega), decide_eq_true (show 8 * (n - 1 - i / 8) + i % 8 < 8 * n by omega)]; rfl
  · rw [decide_eq_false h]; rfl
theorem lowB_rev (v : W) (n : Nat) (hn : n ≤ 8) : lowB (revB v n) n = revB v n := by
  apply BitVec.eq_of_getLsbD_eq
  intro i hi
  rw [lowB_bit _ n i hn hi, revB_bit v n i hn hi]
  by_cases h : i < 8 * n
  · rw [decide_eq_true h]; rfl
  · rw [decide_eq_false h]; rfl
theorem lowB_toNat (v : W) (n : Nat) (hn : n ≤ 8) : (lowB v n).toNat = v.toNat % 2 ^ (8 * n) := by
  apply Nat.eq_of_testBit_eq
  intro i
  rw [Nat.testBit_mod_two_pow]
  by_cases hi : i < 64
  · exact lowB_bit v n i hn hi
  · have h1 : (lowB v n).toNat.testBit i = false := BitVec.getLsbD_of_ge _ i (by omega)
    have h2 : v.toNat.testBit i = false := BitVec.getLsbD_of_ge _ i (by omega)
    rw [h1, h2]; simp
/-- the number of n bytes, in the order that big says. -/
def swp (n : Nat) (big : Bool) (v : W) : W := if big then revB v n else lowB v n
theorem byte_U (v : W) : Go.bits .and .u64 (U v) 255 = U (v &&& 255) := by rw [b_and, ofInt_U]; rfl
theorem m256 (v : W) : Int.tmod (U v) 256 = U (v &&& 255) := by
  rw [Int.tmod_eq_emod_of_nonneg (U_nonneg _)]
  unfold U
  rw [BitVec.toNat_and, show (255 : W).toNat = 2 ^ 8 - 1 from rfl, Nat.and_two_pow_sub_one_eq_mod]; omega
theorem d256 (v : W) : U v / (256 : Int) = U (v >>> 8) := by
  unfold U; rw [BitVec.toNat_ushiftRight, Nat.shiftRight_eq_div_pow]; omega
theorem t256 (v : W) : IntKind.u64.wrap (U v * 256) = U (v <<< 8) := by
  rw [wrap_u64, oi_mul, ofInt_U]
  apply congrArg
  apply BitVec.eq_of_toNat_eq
  rw [BitVec.toNat_mul, BitVec.toNat_shiftLeft, Nat.shiftLeft_eq]; rfl
theorem i_up (i : Nat) (h : i < 100) : wrap64 ((i : Int) + 1) = ((i + 1 : Nat) : Int) := by unfold wrap64; omega
theorem swap_l (v : W) (n : Nat) (hn : n ≤ 8) (d : Nat) : ∀ (k i : Nat), i + d = n → d < k → word_Swap.l0 k (U (v >>> (8 * i))) (U (revB v i)) (n : Int) (i : Int) = some (U (revB v n), true) := by
  induction d with
  | zero =>
    intro k i h hk
    obtain ⟨k, rfl⟩ : ∃ m, k = m + 1 := ⟨k - 1, by omega⟩
    obtain rfl : i = n := by omega
    rw [word_Swap.l0]; exact ife (by omega) rfl
  | succ d ih =>
    intro k i h hk
    obtain ⟨k, rfl⟩ : ∃ m, k = m + 1 := ⟨k - 1, by omega⟩
    rw [word_Swap.l0, d256, t256, byte_U, b_or, ofInt_U, ofInt_U, i_up i (by omega), ← BitVec.shiftRight_add]
    exact ift (by omega) (ih k (i + 1) (by omega) (by omega))
theorem swap_at (k n : Nat) (hn : n = 2 ∨ n = 4 ∨ n = 8) (hk : 10 ≤ k) (big : Bool) (v : W) : word_Swap.j0 k ((8 * n : Nat) : Int) big (U v) false = some (U (swp n big v), true) := by
  obtain ⟨k, rfl⟩ : ∃ m, k = m + 1 := ⟨k - 1, by omega⟩
  have e1 : wrap64 (64 - ((8 * n : Nat) : Int)) = ((64 - 8 * n : Nat) : Int) := by unfold wrap64; omega
  have e2 : wrap64 (Int.tdiv ((8 * n : Nat) : Int) 8) = (n : Int) := by rw [Int.tdiv_eq_ediv_of_nonneg (by omega)]; unfold wrap64; omega
  have l := swap_l (lowB v n) n (by omega) n k 0 (by omega) (by omega)
  rw [revB_low v n (by omega)] at l
  have e3 : U (lowB v n >>> (8 * 0)) = U (v <<< (64 - 8 * n) >>> (64 - 8 * n)) := by simp [lowB]
  rw [word_Swap.j0, e1, e2, shl_U, Int.toNat_natCast, shr_U, Int.toNat_natCast]
  refine ife nt (ift (by omega) ?_)
  rw [e3] at l
  cases big
  · exact ife nt rfl
  · exact ift rfl l
theorem swap_f (k n : Nat) (hn : n = 2 ∨ n = 4 ∨ n = 8) (hk : 10 ≤ k) (big : Bool) (v : W) : word_Swap.f k ((8 * n : Nat) : Int) big (U v) = some (U (swp n big v), true) := by
  have h := swap_at k n hn hk big v
  unfold word_Swap.f
  rcases hn with rfl | rfl | rfl
  · exact ift (by decide) h
  · exact ife (by decide) (ift (by decide) h)
  · exact ife (by decide) (ife (by decide) h)
theorem swap_n (k : Nat) (hk : 1 ≤ k) (n : Int) (h : n ≠ 16 ∧ n ≠ 32 ∧ n ≠ 64) (big : Bool) (v : Int) : word_Swap.f k n big v = some (0, false) := by
  obtain ⟨k, rfl⟩ : ∃ m, k = m + 1 := ⟨k - 1, by omega⟩
  unfold word_Swap.f
  refine ife h.1 (ife h.2.1 ?_)
  rw [show (n != 64) = true by simp [h.2.2], word_Swap.j0]
  exact ift rfl rfl
/-- the reference: what stands after i bytes. -/
def sA (v : W) (n : Nat) (big : Bool) (i : Nat) : W := if big then revB v i <<< (8 * (n - i)) else lowB v i
theorem sA_step (v : W) (n : Nat) (hn : n ≤ 8) (big : Bool) (i : Nat) (hi : i < n) : sA v n big (i + 1) = sA v n big i ||| byte v i <<< (if big then 8 * (n - 1 - i) else 8 * i) := by
  cases big
  · show lowB v (i + 1) = lowB v i ||| byte v i <<< (8 * i)
    apply BitVec.eq_of_getLsbD_eq
    intro j hj
    rw [BitVec.getLsbD_or, lowB_bit v _ j (by omega) hj, lowB_bit v _ j (by omega) hj, BitVec.getLsbD_shiftLeft, byte_bit v i _ (by omega), decide_eq_true hj]
    by_cases h1 : j < 8 * i
    · rw [decide_eq_true h1, decide_eq_true (show j < 8 * (i + 1) by omega)]; simp
    · rw [decide_eq_false h1]
      by_cases h2 : j < 8 * (i + 1)
      · rw [decide_eq_true h2, decide_eq_true (show j - 8 * i < 8 by omega), show 8 * i + (j - 8 * i) = j by omega]; simp
      · rw [decide_eq_false h2, decide_eq_false (show ¬ j - 8 * i < 8 by omega)]; simp
  · show revB v (i + 1) <<< (8 * (n - (i + 1))) = revB v i <<< (8 * (n - i)) ||| byte v i <<< (8 * (n - 1 - i))
    rw [revB, BitVec.shiftLeft_or_distrib, ← BitVec.shiftLeft_add, show 8 + 8 * (n - (i + 1)) = 8 * (n - i) by omega, show n - (i + 1) = n - 1 - i by omega]
theorem rswap_l (v : W) (n : Nat) (hn : n = 2 ∨ n = 4 ∨ n = 8) (big : Bool) (d : Nat) : ∀ (k i : Nat), i + d = n → d < k → lockgateref01_Swap.l0 k ((8 * n : Nat) : Int) big (U v) (U (sA v n big i)) (i : Int) = some (U (sA v n big n), true) := by
  have en : wrap64 (Int.tdiv ((8 * n : Nat) : Int) 8) = (n : Int) := by rw [Int.tdiv_eq_ediv_of_nonneg (by omega)]; unfold wrap64; omega
  induction d with
  | zero =>
    intro k i h hk
    obtain ⟨k, rfl⟩ : ∃ m, k = m + 1 := ⟨k - 1, by omega⟩
    obtain rfl : i = n := by omega
    rw [lockgateref01_Swap.l0, en]; exact ife (by omega) rfl
  | succ d ih =>
    intro k i h hk
    obtain ⟨k, rfl⟩ : ∃ m, k = m + 1 := ⟨k - 1, by omega⟩
    have e1 : IntKind.u64.wrap (wrap64 (8 * (i : Int))) = ((8 * i : Nat) : Int) := by rw [wrap_u64, U_ofInt]; unfold wrap64; omega
    have e2 : IntKind.u64.wrap (wrap64 (8 * wrap64 (wrap64 ((n : Int) - 1) - (i : Int)))) = ((8 * (n - 1 - i) : Nat) : Int) := by rw [wrap_u64, U_ofInt]; unfold wrap64; omega
    have ih' := ih k (i + 1) (by omega) (by omega)
    rw [sA_step v n (by omega) big i (by omega)] at ih'
    rw [lockgateref01_Swap.l0, en, e1, e2, shr_U, Int.toNat_natCast, m256, shl_U, Int.toNat_natCast, shl_U, Int.toNat_natCast, b_or, b_or, ofInt_U, ofInt_U, ofInt_U, i_up i (by omega)]
    refine ift (by omega) (ift (by omega) ?_)
    cases big
    · exact ife nt ih'
    · exact ift rfl (ift (by omega) ih')
theorem rswap_f (k n : Nat) (hn : n = 2 ∨ n = 4 ∨ n = 8) (hk : 10 ≤ k) (big : Bool) (v : W) : lockgateref01_Swap.f k ((8 * n : Nat) : Int) big (U v) = some (U (swp n big v), true) := by
  have h : lockgateref01_Swap.j0 k ((8 * n : Nat) : Int) big (U v) false = some (U (swp n big v), true) := by
    obtain ⟨k, rfl⟩ : ∃ m, k = m + 1 := ⟨k - 1, by omega⟩
    have l := rswap_l v n hn big n k 0 (by omega) (by omega)
    have e0 : sA v n big 0 = 0 := by cases big <;> simp [sA, lowB, revB]
    have e1 : sA v n big n = swp n big v := by cases big <;> simp [sA, swp]
    rw [e0, e1] at l
    rw [lockgateref01_Swap.j0]
    exact ife nt l
  unfold lockgateref01_Swap.f
  rcases hn with rfl | rfl | rfl
  · exact ift (by decide) h
  · exact ife (by decide) (ift (by decide) h)
  · exact ife (by decide) (ife (by decide) h)
theorem rswap_n (k : Nat) (hk : 1 ≤ k) (n : Int) (h : n ≠ 16 ∧ n ≠ 32 ∧ n ≠ 64) (big : Bool) (v : Int) : lockgateref01_Swap.f k n big v = some (0, false) := by
  obtain ⟨k, rfl⟩ : ∃ m, k = m + 1 := ⟨k - 1, by omega⟩
  unfold lockgateref01_Swap.f
  refine ife h.1 (ife h.2.1 ?_)
  rw [show (n != 64) = true by simp [h.2.2], lockgateref01_Swap.j0]
  exact ift rfl rfl
end Go.Proofs.Ytnpbhippkcikoaa.C01
end
section
/- Layer 14: what the program's functions and the document's answer. -/
namespace Go.Proofs.Ytnpbhippkcikoaa.C14
open Go.RowKit Go.Proofs.YtnpbhippkcikoaaW.PrintWords Go.Proofs.YtnpbhippkcikoaaW.PrintLast Go.Proofs.YtnpbhippkcikoaaW.PrintMore Go.Proofs.Ytnpbhippkcikoaa.PA Go.Proofs.Ytnpbhippkcikoaa.Bv Go.Proofs.Ytnpbhippkcikoaa.C01
def pl (a : Int) : Bool := decide (a = 2 ∨ a = 4 ∨ a = 5 ∨ a = 6)
def sd (a : Int) : Int := if a = 1 then 1 else if pl a then 2 else 0
theorem pl_iff (a : Int) : pl a = true ↔ (a = 2 ∨ a = 4 ∨ a = 5 ∨ a = 6) := by unfold pl; exact decide_eq_true_iff
theorem places_f (a b c : Int) : value_Places.f a b c = some (pl a) := by
  unfold value_Places.f
  by_cases h2 : a = 2
  · exact ift h2 (by subst h2; rfl)
  refine ife h2 ?_
  by_cases h4 : a = 4
  · exact ift h4 (by subst h4; rfl)
  refine ife h4 ?_
  by_cases h5 : a = 5
  · exact ift h5 (by subst h5; rfl)
  refine ife h5 ?_
  unfold pl
  rw [Option.some.injEq, Bool.eq_iff_iff, beq_iff_eq, decide_eq_true_iff]; omega
theorem rplaces_f (a b c : Int) : lockgateref14_Places.f a b c = some (pl a) := places_f a b c
theorem side_f (a b c : Int) : value_side.f a b c = some (sd a) := by
  unfold value_side.f sd
  by_cases h : a = 1
  · rw [if_pos h, if_pos h]
  · rw [if_neg h, if_neg h]
    refine bs (places_f a b c) ?_
    cases pl a <;> rfl
theorem sd1 (a : Int) : (sd a == 1) = decide (a = 1) := by
  rw [Bool.eq_iff_iff, beq_iff_eq, decide_eq_true_iff]
  unfold sd
  by_cases h : a = 1
  · rw [if_pos h]; simp [h]
  · rw [if_neg h]; split <;> simp [h]
theorem sd2 (a : Int) : (sd a == 2) = pl a := by
  rw [Bool.eq_iff_iff, beq_iff_eq]
  unfold sd
  by_cases h : a = 1
  · subst h; decide
  · rw [if_neg h]; cases pl a <;> simp
theorem u_add (x y : W) : IntKind.u64.wrap (U x + U y) = U (x + y) := by rw [wrap_u64, oi_add, ofInt_U, ofInt_U]
theorem u_sub (x y : W) : IntKind.u64.wrap (U x - U y) = U (x - y) := by rw [wrap_u64, oi_sub, ofInt_U, ofInt_U]
theorem u_addneg (x y : W) : IntKind.u64.wrap (U x + IntKind.u64.wrap (-(U y))) = U (x - y) := by
  rw [wrap_u64 (-(U y)), wrap_u64, oi_add, ofInt_U, ofInt_U]
  apply congrArg
  rw [BitVec.sub_eq_add_neg]
  apply congrArg
  have := oi_sub 0 (U y)
  rw [Int.zero_sub] at this
  rw [this, ofInt_U]
  simp
/-- what an operation makes of pointers. -/
def pt (op a0 : Int) (x : W) (a2 b0 : Int) (y : W) (b2 : Int) : Int × Int × Int × Int :=
  if op = 0 ∧ pl a0 = true ∧ b0 = 1 then (a0, U (x + y), a2, 0)
  else if op = 0 ∧ a0 = 1 ∧ pl b0 = true then (b0, U (y + x), b2, 0)
  else if op = 1 ∧ pl a0 = true ∧ b0 = 1 then (a0, U (x - y), a2, 0)
  else (0, 0, 0, 21)
theorem pl_1 : pl 1 = false := by decide
theorem pl1 {a : Int} (h : pl a = true) : ¬ a = 1 := by rintro rfl; exact absurd h (by decide)
theorem andT {a b : Bool} (h : a = true ∧ b = true) : (a && b) = true := by rw [h.1, h.2]; rfl
theorem andF {a b : Bool} (h : ¬ (a = true ∧ b = true)) : ¬ ((a && b) = true) := by rw [Bool.and_eq_true]; exact h
theorem sdp1 {a : Int} : (sd a == 1) = true ↔ a = 1 := by rw [sd1, decide_eq_true_iff]
theorem sdp2 {a : Int} : (sd a == 2) = true ↔ pl a = true := by rw [sd2]
theorem pj1_f (k : Nat) (op a0 : Int) (x : W) (a2 b0 : Int) (y : W) (b2 : Int) (c : Bool) (hc : c = true ↔ (op = 0 ∧ a0 = 1 ∧ pl b0 = true)) :
    value_pointers.j1 (k + 1) op c a0 (U x) a2 b0 (U y) b2 (sd a0) (sd b0) = some (if op = 0 ∧ a0 = 1 ∧ pl b0 = true then (b0, U (y + x), b2, 0) else if op = 1 ∧ pl a0 = true ∧ b0 = 1 then (a0, U (x - y), a2, 0) else (0, 0, 0, 21)) := by
  rw [value_pointers.j1]
  by_cases h : op = 0 ∧ a0 = 1 ∧ pl b0 = true
  · refine ift (hc.mpr h) ?_
    rw [if_pos h]
    exact bs rfl (by rw [u_add])
  · refine ife (fun q => h (hc.mp q)) ?_
    rw [if_neg h]
    by_cases h1 : op = 1
    · refine ift h1 ?_
      by_cases h2 : pl a0 = true ∧ b0 = 1
      · refine ift (andT ⟨sdp2.mpr h2.1, sdp1.mpr h2.2⟩) ?_
        rw [if_pos ⟨h1, h2⟩]
        exact bs rfl (by rw [u_addneg])
      · refine ife (andF (fun q => h2 ⟨sdp2.mp q.1, sdp1.mp q.2⟩)) ?_
        rw [if_neg (fun q => h2 q.2)]
    · refine ife h1 ?_
      rw [if_neg (fun q => h1 q.1)]
theorem pj0_f (k : Nat) (op a0 : Int) (x : W) (a2 b0 : Int) (y : W) (b2 : Int) (c : Bool) (hc : c = true ↔ (op = 0 ∧ pl a0 = true ∧ b0 = 1)) :
    value_pointers.j0 (k + 2) op c a0 (U x) a2 b0 (U y) b2 (sd a0) (sd b0) = some (pt op a0 x a2 b0 y b2) := by
  rw [value_pointers.j0]
  unfold pt
  by_cases h : op = 0 ∧ pl a0 = true ∧ b0 = 1
  · refine ift (hc.mpr h) ?_
    rw [if_pos h]
    exact bs rfl (by rw [u_add])
  · refine ife (fun q => h (hc.mp q)) ?_
    rw [if_neg h]
    by_cases h1 : op = 0
    · refine ift h1 (pj1_f k op a0 x a2 b0 y b2 _ ?_)
      rw [Bool.and_eq_true, sdp1, sdp2]
      exact ⟨fun q => ⟨h1, q⟩, fun q => q.2⟩
    · refine ife h1 (pj1_f k op a0 x a2 b0 y b2 _ ?_)
      exact ⟨fun q => absurd q (by decide), fun q => absurd q.1 h1⟩
theorem pointers_f (k : Nat) (hk : 2 ≤ k) (op a0 : Int) (x : W) (a2 b0 : Int) (y : W) (b2 : Int) : value_pointers.f k op a0 (U x) a2 b0 (U y) b2 = some (pt op a0 x a2 b0 y b2) := by
  obtain ⟨k, rfl⟩ : ∃ m, k = m + 2 := ⟨k - 2, by omega⟩
  unfold value_pointers.f
  refine bs (side_f _ _ _) (bs (side_f _ _ _) ?_)
  by_cases h1 : op = 0
  · refine ift h1 (pj0_f k op a0 x a2 b0 y b2 _ ?_)
    rw [Bool.and_eq_true, sdp1, sdp2]
    exact ⟨fun q => ⟨h1, q⟩, fun q => q.2⟩
  · refine ife h1 (pj0_f k op a0 x a2 b0 y b2 _ ?_)
    exact ⟨fun q => absurd q (by decide), fun q => absurd q.1 h1⟩
/-- what an operation makes of two values. -/
def vA (op : Int) (wide : Bool) (a0 : Int) (x : W) (a2 b0 : Int) (y : W) (b2 : Int) : Int × Int × Int × Int :=
  if ¬ (0 ≤ op ∧ op ≤ 12) then (0, 0, 0, 4)
  else if (op ≠ 11 ∧ a0 = 0) ∨ (op ≠ 8 ∧ b0 = 0) then (0, 0, 0, 20)
  else if (op = 11 ∨ a0 = 1) ∧ (op = 8 ∨ b0 = 1) then (1, U (alu op wide x y), 0, 0)
  else if wide = false then (0, 0, 0, 21)
  else if op = 11 then (b0, U y, b2, 0)
  else pt op a0 x a2 b0 y b2
theorem aW11 (x y : W) : aluW 11 x y = y := by
  unfold aluW
  rw [if_neg (by decide), if_neg (by decide), if_neg (by decide), if_neg (by decide), if_neg (by decide), if_neg (by decide), if_neg (by decide), if_neg (by decide), if_neg (by decide), if_neg (by decide), if_neg (by decide), if_pos rfl]
theorem aN11 (x y : W32) : aluN 11 x y = y := by
  unfold aluN
  rw [if_neg (by decide), if_neg (by decide), if_neg (by decide), if_neg (by decide), if_neg (by decide), if_neg (by decide), if_neg (by decide), if_neg (by decide), if_neg (by decide), if_neg (by decide), if_neg (by decide), if_pos rfl]
theorem aW8 (x y : W) : aluW 8 x y = -x := by
  unfold aluW
  rw [if_neg (by decide), if_neg (by decide), if_neg (by decide), if_neg (by decide), if_neg (by decide), if_neg (by decide), if_neg (by decide), if_neg (by decide), if_neg (by decide), if_neg (by decide), if_pos rfl]
theorem aN8 (x y : W32) : aluN 8 x y = -x := by
  unfold aluN
  rw [if_neg (by decide), if_neg (by decide), if_neg (by decide), if_neg (by decide), if_neg (by decide), if_neg (by decide), if_neg (by decide), if_neg (by decide), if_neg (by decide), if_neg (by decide), if_pos rfl]
theorem alu_mov (wide : Bool) (x y : W) : alu 11 wide x y = alu 11 wide 0 y := by
  unfold alu; rw [if_neg (by decide : ¬ ((11 : Int) = 12)), if_neg (by decide : ¬ ((11 : Int) = 12)), aW11, aW11, aN11, aN11]
theorem alu_neg (wide : Bool) (x y : W) : alu 8 wide x y = alu 8 wide x 0 := by
  unfold alu; rw [if_neg (by decide : ¬ ((8 : Int) = 12)), if_neg (by decide : ¬ ((8 : Int) = 12)), aW8, aW8, aN8, aN8]
theorem j2_f (k : Nat) (hk : 10 ≤ k) (op : Int) (hop : 0 ≤ op ∧ op ≤ 12) (wide : Bool) (n : Bool) (a0 : Int) (x : W) (a2 b0 : Int) (y : W) (b2 : Int) :
    value_Alu.j2 k op wide n a0 (U x) a2 b0 (U y) b2 = some (if n = true then (0, 0, 0, 20) else if a0 = 1 ∧ b0 = 1 then (1, U (alu op wide x y), 0, 0) else if wide = false then (0, 0, 0, 21) else if op = 11 then (b0, U y, b2, 0) else pt op a0 x a2 b0 y b2) := by
  obtain ⟨k, rfl⟩ : ∃ m, k = m + 1 := ⟨k - 1, by omega⟩
  rw [value_Alu.j2]
  cases n
  · refine ife nt ?_
    rw [if_neg nt]
    refine bs (side_f _ _ _) (bs (side_f _ _ _) ?_)
    rw [sd1, sd1]
    by_cases h : a0 = 1 ∧ b0 = 1
    · rw [if_pos h]
      refine ift (by rw [h.1, h.2]; rfl) (bs (alu_f k (by omega) _ _ _ _) rfl)
    · rw [if_neg h]
      refine ife (by rw [Bool.and_eq_true, decide_eq_true_iff, decide_eq_true_iff]; exact h) ?_
      cases wide
      · exact ife nt rfl
      · refine ift rfl ?_
        rw [if_neg (by decide : ¬ (true = false))]
        by_cases h11 : op = 11
        · refine ift h11 ?_; rw [if_pos h11]
        · refine ife h11 (bs (pointers_f k (by omega) _ _ _ _ _ _ _) ?_); rw [if_neg h11]
  · exact ift rfl rfl
theorem j0_f (k : Nat) (hk : 12 ≤ k) (op : Int) (wide : Bool) (a0 : Int) (x : W) (a2 b0 : Int) (y : W) (b2 : Int) :
    value_Alu.j0 k op wide a0 (U x) a2 b0 (U y) b2 = some (if ¬ (0 ≤ op ∧ op ≤ 12) then (0, 0, 0, 4) else if a0 = 0 ∨ b0 = 0 then (0, 0, 0, 20) else if a0 = 1 ∧ b0 = 1 then (1, U (alu op wide x y), 0, 0) else if wide = false then (0, 0, 0, 21) else if op = 11 then (b0, U y, b2, 0) else pt op a0 x a2 b0 y b2) := by
  obtain ⟨k, rfl⟩ : ∃ m, k = m + 2 := ⟨k - 2, by omega⟩
  rw [value_Alu.j0]
  by_cases h : 0 ≤ op ∧ op ≤ 12
  · refine ife (by omega) ?_
    rw [value_Alu.j1]
    refine ife (by rw [decide_eq_true_iff]; omega) ?_
    by_cases h0 : a0 = 0
    · refine ift h0 ?_
      rw [if_neg (fun q => q h), j2_f k (by omega) op h, if_pos rfl, if_pos (Or.inl h0)]
    · refine ife h0 ?_
      rw [if_neg (fun q => q h), j2_f k (by omega) op h]
      by_cases h1 : b0 = 0
      · rw [if_pos (by simpa using h1), if_pos (Or.inr h1)]
      · rw [if_neg (by simpa using h1), if_neg (c := a0 = 0 ∨ b0 = 0) (by omega)]
  · rw [if_pos h]
    by_cases h1 : op < 0
    · refine ift h1 ?_
      rw [value_Alu.j1]; exact ift rfl rfl
    · refine ife h1 ?_
      rw [value_Alu.j1]; exact ift (by rw [decide_eq_true_iff]; omega) rfl
theorem valu_f (k : Nat) (hk : 12 ≤ k) (op : Int) (wide : Bool) (a0 : Int) (x : W) (a2 b0 : Int) (y : W) (b2 : Int) :
    value_Alu.f k op wide a0 (U x) a2 b0 (U y) b2 = some (vA op wide a0 x a2 b0 y b2) := by
  unfold value_Alu.f vA
  have u0 : (0 : Int) = U 0 := rfl
  by_cases h8 : op = 8
  · refine ift h8 ?_
    refine bs (a := (1, U 0, 0)) rfl ?_
    rw [j0_f k hk]
    subst h8
    rw [alu_neg wide x y]
    by_cases ha : a0 = 0
    · simp [ha]
    · by_cases hb : a0 = 1
      · simp [hb]
      · simp [ha, hb, pt]
  · refine ife h8 ?_
    by_cases h11 : op = 11
    · refine ift h11 ?_
      refine bs (a := (1, U 0, 0)) rfl ?_
      rw [j0_f k hk]
      subst h11
      rw [alu_mov wide x y]
      by_cases ha : b0 = 0
      · simp [ha]
      · by_cases hb : b0 = 1
        · simp [hb]
        · simp [ha, hb]
    · refine ife h11 ?_
      rw [j0_f k hk]
      simp [h8, h11]
end Go.Proofs.Ytnpbhippkcikoaa.C14
end
section
/- Layer 14: the document's operation on two values is the program's. -/
namespace Go.Proofs.Ytnpbhippkcikoaa.C14
open Go.RowKit Go.Proofs.YtnpbhippkcikoaaW.PrintWords Go.Proofs.YtnpbhippkcikoaaW.PrintLast Go.Proofs.YtnpbhippkcikoaaW.PrintMore Go.Proofs.Ytnpbhippkcikoaa.PA Go.Proofs.Ytnpbhippkcikoaa.Bv Go.Proofs.Ytnpbhippkcikoaa.C01
theorem rj4_f (k : Nat) (op a0 : Int) (x : W) (a2 b0 : Int) (y : W) (b2 : Int) (c : Bool) (hc : c = true ↔ (op = 0 ∧ a0 = 1 ∧ pl b0 = true)) :
    lockgateref14_Alu.j4 (k + 1) op c a0 (U x) a2 b0 (U y) b2 = some (if op = 0 ∧ a0 = 1 ∧ pl b0 = true then (b0, U (y + x), b2, 0) else if op = 1 ∧ pl a0 = true ∧ b0 = 1 then (a0, U (x - y), a2, 0) else (0, 0, 0, 21)) := by
  rw [lockgateref14_Alu.j4]
  by_cases h : op = 0 ∧ a0 = 1 ∧ pl b0 = true
  · refine ift (hc.mpr h) ?_
    rw [if_pos h, u_add]
  · refine ife (fun q => h (hc.mp q)) ?_
    rw [if_neg h]
    by_cases h1 : op = 1
    · refine ift h1 (bs (rplaces_f _ _ _) ?_)
      by_cases h2 : pl a0 = true
      · refine ift h2 ?_
        by_cases h3 : b0 = 1
        · refine ift h3 ?_
          rw [if_pos ⟨h1, h2, h3⟩, u_sub]
        · refine ife h3 ?_
          rw [if_neg (fun q => h3 q.2.2)]
      · refine ife h2 ?_
        rw [if_neg (fun q => h2 q.2.1)]
    · refine ife h1 ?_
      rw [if_neg (fun q => h1 q.1)]
theorem rj3_f (k : Nat) (op a0 : Int) (x : W) (a2 b0 : Int) (y : W) (b2 : Int) (c : Bool) (hc : c = true ↔ (op = 0 ∧ pl a0 = true ∧ b0 = 1)) :
    lockgateref14_Alu.j3 (k + 2) op c a0 (U x) a2 b0 (U y) b2 = some (pt op a0 x a2 b0 y b2) := by
  rw [lockgateref14_Alu.j3]
  unfold pt
  by_cases h : op = 0 ∧ pl a0 = true ∧ b0 = 1
  · refine ift (hc.mpr h) ?_
    rw [if_pos h, u_add]
  · refine ife (fun q => h (hc.mp q)) ?_
    rw [if_neg h]
    by_cases h1 : op = 0
    · refine ift h1 ?_
      by_cases h2 : a0 = 1
      · refine ift h2 (bs (rplaces_f _ _ _) (rj4_f k op a0 x a2 b0 y b2 _ ?_))
        exact ⟨fun q => ⟨h1, h2, q⟩, fun q => q.2.2⟩
      · refine ife h2 (rj4_f k op a0 x a2 b0 y b2 _ ?_)
        exact ⟨fun q => absurd q (by decide), fun q => absurd q.2.1 h2⟩
    · refine ife h1 (rj4_f k op a0 x a2 b0 y b2 _ ?_)
      exact ⟨fun q => absurd q (by decide), fun q => absurd q.1 h1⟩
theorem rj2_f (k : Nat) (hk : 300 ≤ k) (op a0 : Int) (wide : Bool) (x : W) (a2 b0 : Int) (y : W) (b2 : Int) (c : Bool) :
    lockgateref14_Alu.j2 (k + 3) op wide c a0 (U x) a2 b0 (U y) b2 = some (if c = true then (1, U (alu op wide x y), 0, 0) else if wide = false then (0, 0, 0, 21) else if op = 11 then (b0, U y, b2, 0) else pt op a0 x a2 b0 y b2) := by
  rw [lockgateref14_Alu.j2]
  cases c
  · refine ife nt ?_
    rw [if_neg nt]
    cases wide
    · exact ife nt rfl
    · refine ift rfl ?_
      rw [if_neg (by decide : ¬ (true = false))]
      by_cases h11 : op = 11
      · refine ift h11 ?_; rw [if_pos h11]
      · refine ife h11 ?_
        rw [if_neg h11]
        by_cases h1 : op = 0
        · refine ift h1 (bs (rplaces_f _ _ _) ?_)
          by_cases h2 : pl a0 = true
          · refine ift h2 (rj3_f k op a0 x a2 b0 y b2 _ ?_)
            rw [beq_iff_eq]
            exact ⟨fun q => ⟨h1, h2, q⟩, fun q => q.2.2⟩
          · refine ife h2 (rj3_f k op a0 x a2 b0 y b2 _ ?_)
            exact ⟨fun q => absurd q (by decide), fun q => absurd q.2.1 h2⟩
        · refine ife h1 (rj3_f k op a0 x a2 b0 y b2 _ ?_)
          exact ⟨fun q => absurd q (by decide), fun q => absurd q.1 h1⟩
  · exact ift rfl (bs (ralu_f (k + 2) (by omega) _ _ _ _) rfl)
theorem rj1_f (k : Nat) (hk : 300 ≤ k) (op a0 : Int) (wide : Bool) (x : W) (a2 b0 : Int) (y : W) (b2 : Int) (c : Bool) :
    lockgateref14_Alu.j1 (k + 4) op wide (op != 11) (op != 8) c a0 (U x) a2 b0 (U y) b2 = some (if c = true then (0, 0, 0, 20) else if (op = 11 ∨ a0 = 1) ∧ (op = 8 ∨ b0 = 1) then (1, U (alu op wide x y), 0, 0) else if wide = false then (0, 0, 0, 21) else if op = 11 then (b0, U y, b2, 0) else pt op a0 x a2 b0 y b2) := by
  rw [lockgateref14_Alu.j1]
  cases c
  · refine ife nt ?_
    rw [if_neg nt]
    have j2 := rj2_f k hk op a0 wide x a2 b0 y b2
    by_cases h11 : op = 11
    · refine ife (by rw [bne_iff_ne]; exact fun q => q h11) ?_
      refine ift (by rw [bne_iff_ne]; omega) ?_
      rw [j2]
      by_cases hb : b0 = 1
      · rw [if_pos (by rw [beq_iff_eq]; exact hb), if_pos ⟨Or.inl h11, Or.inr hb⟩]
      · rw [if_neg (by rw [beq_iff_eq]; exact hb), if_neg (c := (op = 11 ∨ a0 = 1) ∧ (op = 8 ∨ b0 = 1)) (by omega)]
    · refine ift (by rw [bne_iff_ne]; exact h11) ?_
      by_cases ha : a0 = 1
      · refine ift ha ?_
        by_cases h8 : op = 8
        · refine ife (by rw [bne_iff_ne]; exact fun q => q h8) ?_
          rw [j2, if_pos rfl, if_pos ⟨Or.inr ha, Or.inl h8⟩]
        · refine ift (by rw [bne_iff_ne]; exact h8) ?_
          rw [j2]
          by_cases hb : b0 = 1
          · rw [if_pos (by rw [beq_iff_eq]; exact hb), if_pos ⟨Or.inr ha, Or.inr hb⟩]
          · rw [if_neg (by rw [beq_iff_eq]; exact hb), if_neg (c := (op = 11 ∨ a0 = 1) ∧ (op = 8 ∨ b0 = 1)) (by omega)]
      · refine ife ha ?_
        rw [j2, if_neg nt, if_neg (c := (op = 11 ∨ a0 = 1) ∧ (op = 8 ∨ b0 = 1)) (by omega)]
  · exact ift rfl rfl
theorem rvalu_f (k : Nat) (hk : 310 ≤ k) (op : Int) (wide : Bool) (a0 : Int) (x : W) (a2 b0 : Int) (y : W) (b2 : Int) :
    lockgateref14_Alu.f k op wide a0 (U x) a2 b0 (U y) b2 = some (vA op wide a0 x a2 b0 y b2) := by
  obtain ⟨k, rfl⟩ : ∃ m, k = m + 5 := ⟨k - 5, by omega⟩
  have j1 := rj1_f k (by omega) op a0 wide x a2 b0 y b2
  have hj : ∀ c : Bool, (c = true ↔ ¬ (0 ≤ op ∧ op ≤ 12)) → lockgateref14_Alu.j0 (k + 5) op wide c a0 (U x) a2 b0 (U y) b2 = some (vA op wide a0 x a2 b0 y b2) := by
    intro c hc
    rw [lockgateref14_Alu.j0]
    unfold vA
    by_cases h : ¬ (0 ≤ op ∧ op ≤ 12)
    · refine ift (hc.mpr h) ?_
      rw [if_pos h]
    · refine ife (fun q => h (hc.mp q)) ?_
      rw [if_neg h]
      by_cases h11 : op = 11
      · refine ift h11 (ife (by omega) ?_)
        rw [j1]
        by_cases hb : b0 = 0
        · rw [if_pos (by rw [beq_iff_eq]; exact hb), if_pos (c := (op ≠ 11 ∧ a0 = 0) ∨ (op ≠ 8 ∧ b0 = 0)) (by omega)]
        · rw [if_neg (by rw [beq_iff_eq]; exact hb), if_neg (c := (op ≠ 11 ∧ a0 = 0) ∨ (op ≠ 8 ∧ b0 = 0)) (by omega)]
      · refine ife h11 ?_
        by_cases ha : a0 = 0
        · refine ift ha ?_
          rw [j1, if_pos rfl, if_pos (c := (op ≠ 11 ∧ a0 = 0) ∨ (op ≠ 8 ∧ b0 = 0)) (by omega)]
        · refine ife ha ?_
          by_cases h8 : op = 8
          · refine ift h8 ?_
            rw [j1, if_neg nt, if_neg (c := (op ≠ 11 ∧ a0 = 0) ∨ (op ≠ 8 ∧ b0 = 0)) (by omega)]
          · refine ife h8 ?_
            rw [j1]
            by_cases hb : b0 = 0
            · rw [if_pos (by rw [beq_iff_eq]; exact hb), if_pos (c := (op ≠ 11 ∧ a0 = 0) ∨ (op ≠ 8 ∧ b0 = 0)) (by omega)]
            · rw [if_neg (by rw [beq_iff_eq]; exact hb), if_neg (c := (op ≠ 11 ∧ a0 = 0) ∨ (op ≠ 8 ∧ b0 = 0)) (by omega)]
  unfold lockgateref14_Alu.f
  by_cases h : op < 0
  · exact ift h (hj true ⟨fun _ => by omega, fun _ => rfl⟩)
  · exact ife h (hj _ (by rw [decide_eq_true_iff]; omega))
end Go.Proofs.Ytnpbhippkcikoaa.C14
end
section
/- Layer 14: comparing two values, the program's and the document's. -/
namespace Go.Proofs.Ytnpbhippkcikoaa.C14
open Go.RowKit Go.Proofs.YtnpbhippkcikoaaW.PrintWords Go.Proofs.YtnpbhippkcikoaaW.PrintLast Go.Proofs.YtnpbhippkcikoaaW.PrintMore Go.Proofs.Ytnpbhippkcikoaa.PA Go.Proofs.Ytnpbhippkcikoaa.Bv Go.Proofs.Ytnpbhippkcikoaa.C01
/-- two ints in order. -/
def od (op p q : Int) : Bool × Int := if op = 2 then (decide (p > q), 0) else if op = 3 then (decide (p ≥ q), 0) else if op = 10 then (decide (p < q), 0) else if op = 11 then (decide (p ≤ q), 0) else (false, 21)
def nul (a0 : Int) (x : W) (b0 : Int) (y : W) : Prop := (a0 = 6 ∧ b0 = 1 ∧ U y = 0) ∨ (b0 = 6 ∧ a0 = 1 ∧ U x = 0)
instance (a0 : Int) (x : W) (b0 : Int) (y : W) : Decidable (nul a0 x b0 y) := by unfold nul; infer_instance
def cR (op : Int) (a0 : Int) (x : W) (b0 : Int) (y : W) (len : Int) : Bool × Int :=
  if op = 1 ∨ op = 5 then (if nul a0 x b0 y then (op == 5, 0) else (false, 21))
  else if a0 = 2 ∧ b0 = 3 then od op (wrap64 (U x)) len
  else if a0 = 3 ∧ b0 = 2 then od op len (wrap64 (U y))
  else (false, 21)
def vC (op : Int) (wide : Bool) (a0 : Int) (x : W) (b0 : Int) (y : W) (len : Int) : Bool × Int :=
  if isJmp op = true then (if a0 = 0 ∨ b0 = 0 then (false, 20) else if a0 = 1 ∧ b0 = 1 then (jmp op wide x y, 0) else if wide = false then (false, 21) else cR op a0 x b0 y len) else (false, 4)
theorem same_f (a b c d e f : Int) : value_sameNumber.f a b c d e f = some (decide (a = d ∧ b = e)) := by
  unfold value_sameNumber.f
  by_cases h : a = d
  · refine ift h ?_
    rw [Option.some.injEq, Bool.eq_iff_iff, beq_iff_eq, decide_eq_true_iff]; exact ⟨fun q => ⟨h, q⟩, fun q => q.2⟩
  · refine ife h ?_
    rw [Option.some.injEq]; exact (decide_eq_false (fun q => h q.1)).symm
theorem ordered_f (op p q : Int) : (value_ordered.f op p q).bind (fun t => if t.2 = true then some (t.1, (0 : Int)) else some (false, 21)) = some (od op p q) := by
  unfold value_ordered.f od
  by_cases h2 : op = 2
  · rw [if_pos h2, if_pos h2]; rfl
  rw [if_neg h2, if_neg h2]
  by_cases h3 : op = 3
  · rw [if_pos h3, if_pos h3]; rfl
  rw [if_neg h3, if_neg h3]
  by_cases h10 : op = 10
  · rw [if_pos h10, if_pos h10]; rfl
  rw [if_neg h10, if_neg h10]
  by_cases h11 : op = 11
  · rw [if_pos h11, if_pos h11]; rfl
  rw [if_neg h11, if_neg h11]; rfl
theorem b2 {a b c d : Int} : (a == b && (c == d)) = true ↔ (a = b ∧ c = d) := by rw [Bool.and_eq_true, beq_iff_eq, beq_iff_eq]
theorem cj1_f (k : Nat) (op len : Int) (c : Bool) (hc : c = true ↔ (op = 1 ∨ op = 5)) (a0 : Int) (x : W) (a2 b0 : Int) (y : W) (b2' : Int) :
    value_Compare.j1 (k + 1) op len c a0 (U x) a2 b0 (U y) b2' 1 0 0 a0 b0 = some (cR op a0 x b0 y len) := by
  rw [value_Compare.j1]
  unfold cR
  by_cases h : op = 1 ∨ op = 5
  · refine ift (hc.mpr h) ?_
    rw [if_pos h]
    by_cases ha : a0 = 6
    · refine ift ha (bs (same_f _ _ _ _ _ _) ?_)
      by_cases hb : b0 = 1 ∧ U y = 0
      · refine ift (decide_eq_true hb) ?_
        rw [if_pos (show nul a0 x b0 y from Or.inl ⟨ha, hb⟩)]
      · refine ife (by rw [decide_eq_true_iff]; exact hb) ?_
        by_cases h6 : b0 = 6
        · refine ift h6 (bs (same_f _ _ _ _ _ _) (ife (by rw [decide_eq_true_iff]; omega) ?_))
          rw [if_neg (show ¬ nul a0 x b0 y by unfold nul; omega)]
        · refine ife h6 ?_
          rw [if_neg (show ¬ nul a0 x b0 y by unfold nul; omega)]
    · refine ife ha ?_
      by_cases h6 : b0 = 6
      · refine ift h6 (bs (same_f _ _ _ _ _ _) ?_)
        by_cases hb : a0 = 1 ∧ U x = 0
        · refine ift (decide_eq_true hb) ?_
          rw [if_pos (show nul a0 x b0 y from Or.inr ⟨h6, hb⟩)]
        · refine ife (by rw [decide_eq_true_iff]; exact hb) ?_
          rw [if_neg (show ¬ nul a0 x b0 y by unfold nul; omega)]
      · refine ife h6 ?_
        rw [if_neg (show ¬ nul a0 x b0 y by unfold nul; omega)]
  · refine ife (fun q => h (hc.mp q)) ?_
    rw [if_neg h]
    by_cases h1 : a0 = 2 ∧ b0 = 3
    · refine ift (b2.mpr h1) ?_
      rw [if_pos h1]; exact ordered_f _ _ _
    · refine ife (fun q => h1 (b2.mp q)) ?_
      rw [if_neg h1]
      by_cases h2 : a0 = 3 ∧ b0 = 2
      · refine ift (b2.mpr h2) ?_
        rw [if_pos h2]; exact ordered_f _ _ _
      · refine ife (fun q => h2 (b2.mp q)) ?_
        rw [if_neg h2]
theorem cj0_f (k : Nat) (op : Int) (wide : Bool) (len : Int) (c : Bool) (a0 : Int) (x : W) (a2 b0 : Int) (y : W) (b2' : Int) (hc : c = true ↔ (a0 = 0 ∨ b0 = 0)) (hj : isJmp op = true) :
    value_Compare.j0 (k + 2) op wide len c a0 (U x) a2 b0 (U y) b2' 1 0 0 a0 b0 = some (vC op wide a0 x b0 y len) := by
  rw [value_Compare.j0]
  unfold vC
  rw [if_pos hj]
  by_cases h : a0 = 0 ∨ b0 = 0
  · refine ift (hc.mpr h) ?_
    rw [if_pos h]
  · refine ife (fun q => h (hc.mp q)) ?_
    rw [if_neg h]
    by_cases h1 : a0 = 1 ∧ b0 = 1
    · refine ift (b2.mpr h1) (bs (jump_f (k + 1) (by omega) _ _ _ _) ?_)
      rw [if_pos h1]
    · refine ife (fun q => h1 (b2.mp q)) ?_
      rw [if_neg h1]
      cases wide
      · exact ife nt rfl
      · refine ift rfl ?_
        rw [if_neg (by decide : ¬ (true = false))]
        by_cases h2 : op = 1
        · exact ift h2 (cj1_f k op len _ ⟨fun _ => Or.inl h2, fun _ => rfl⟩ _ _ _ _ _ _)
        · refine ife h2 (cj1_f k op len _ ?_ _ _ _ _ _ _)
          rw [beq_iff_eq]; omega
theorem vcmp_f (k : Nat) (hk : 5 ≤ k) (op : Int) (wide : Bool) (a0 : Int) (x : W) (a2 b0 : Int) (y : W) (b2' len : Int) :
    value_Compare.f k op wide a0 (U x) a2 b0 (U y) b2' len = some (vC op wide a0 x b0 y len) := by
  obtain ⟨k, rfl⟩ : ∃ m, k = m + 2 := ⟨k - 2, by omega⟩
  unfold value_Compare.f
  refine bs (jump_f (k + 2) (by omega) op wide 0 0) ?_
  by_cases hj : isJmp op = true
  · refine ift hj (bs (a := (1, 0, 0)) rfl ?_)
    by_cases h : a0 = 0
    · exact ift h (cj0_f k op wide len _ a0 x a2 b0 y b2' ⟨fun _ => Or.inl h, fun _ => rfl⟩ hj)
    · refine ife h (cj0_f k op wide len _ a0 x a2 b0 y b2' ?_ hj)
      rw [beq_iff_eq]; omega
  · refine ife hj ?_
    unfold vC
    rw [if_neg hj]
theorem rc6_f (k : Nat) (op p q : Int) (wide : Bool) : lockgateref14_Compare.j6 (k + 1) op wide p q = some (if wide = false then (false, 21) else od op p q) := by
  rw [lockgateref14_Compare.j6]
  cases wide
  · exact ife nt rfl
  refine ift rfl ?_
  rw [if_neg (by decide : ¬ (true = false))]
  unfold od
  by_cases h2 : op = 2
  · rw [if_pos h2, if_pos h2]
  rw [if_neg h2, if_neg h2]
  by_cases h3 : op = 3
  · rw [if_pos h3, if_pos h3]
  rw [if_neg h3, if_neg h3]
  by_cases h10 : op = 10
  · rw [if_pos h10, if_pos h10]
  rw [if_neg h10, if_neg h10]
  by_cases h11 : op = 11
  · rw [if_pos h11, if_pos h11]
  rw [if_neg h11, if_neg h11]
theorem rc5_f (k : Nat) (op len : Int) (wide : Bool) (c : Bool) (a0 : Int) (x : W) (a2 b0 : Int) (y : W) (b2' : Int) (hc : c = true ↔ (a0 = 2 ∧ b0 = 3)) :
    lockgateref14_Compare.j5 (k + 2) op wide len (wrap64 (U x)) (wrap64 (U y)) c a0 (U x) a2 b0 (U y) b2' = some (if wide = false then (false, 21) else if a0 = 2 ∧ b0 = 3 then od op (wrap64 (U x)) len else if a0 = 3 ∧ b0 = 2 then od op len (wrap64 (U y)) else (false, 21)) := by
  rw [lockgateref14_Compare.j5]
  by_cases h : a0 = 2 ∧ b0 = 3
  · refine ift (hc.mpr h) ?_
    rw [rc6_f, if_pos h]
  · refine ife (fun q => h (hc.mp q)) ?_
    rw [if_neg h]
    by_cases h3 : a0 = 3
    · refine ift h3 ?_
      by_cases h2 : b0 = 2
      · refine ift h2 ?_
        rw [rc6_f, if_pos (show a0 = 3 ∧ b0 = 2 from ⟨h3, h2⟩)]
      · refine ife h2 ?_
        rw [if_neg (c := a0 = 3 ∧ b0 = 2) (fun q => h2 q.2)]; cases wide <;> rfl
    · refine ife h3 ?_
      rw [if_neg (c := a0 = 3 ∧ b0 = 2) (fun q => h3 q.1)]; cases wide <;> rfl
theorem od_eq (op p q : Int) (h : op = 1 ∨ op = 5) : od op p q = (false, 21) := by
  unfold od; rw [if_neg (by omega), if_neg (by omega), if_neg (by omega), if_neg (by omega)]
theorem rc4_f (k : Nat) (op len : Int) (wide : Bool) (c : Bool) (a0 : Int) (x : W) (a2 b0 : Int) (y : W) (b2' : Int) :
    lockgateref14_Compare.j4 (k + 3) op wide len c a0 (U x) a2 b0 (U y) b2' = some (if c = true then (true, 0) else if wide = false then (false, 21) else if a0 = 2 ∧ b0 = 3 then od op (wrap64 (U x)) len else if a0 = 3 ∧ b0 = 2 then od op len (wrap64 (U y)) else (false, 21)) := by
  rw [lockgateref14_Compare.j4]
  cases c
  · refine ife nt ?_
    rw [if_neg nt]
    by_cases h : a0 = 2
    · refine ift h (rc5_f k op len wide _ a0 x a2 b0 y b2' ?_)
      rw [beq_iff_eq]; exact ⟨fun q => ⟨h, q⟩, fun q => q.2⟩
    · refine ife h (rc5_f k op len wide _ a0 x a2 b0 y b2' ?_)
      exact ⟨fun q => absurd q (by decide), fun q => absurd q.1 h⟩
  · exact ift rfl rfl
theorem rc2_f (k : Nat) (op len : Int) (wide : Bool) (c : Bool) (a0 : Int) (x : W) (a2 b0 : Int) (y : W) (b2' : Int) (hc : c = true ↔ nul a0 x b0 y) :
    lockgateref14_Compare.j2 (k + 5) op wide len c a0 (U x) a2 b0 (U y) b2' = some (if wide = false then (false, 21) else cR op a0 x b0 y len) := by
  have j3 : ∀ d : Bool, (d = true ↔ (wide = true ∧ c = true ∧ op = 1)) → lockgateref14_Compare.j3 (k + 4) op wide len c d a0 (U x) a2 b0 (U y) b2' = some (if wide = false then (false, 21) else cR op a0 x b0 y len) := by
    intro d hd
    rw [lockgateref14_Compare.j3]
    unfold cR
    by_cases h : wide = true ∧ c = true ∧ op = 1
    · refine ift (hd.mpr h) ?_
      rw [if_neg (by rw [h.1]; decide), if_pos (Or.inl h.2.2), if_pos (hc.mp h.2.1), h.2.2]; rfl
    · refine ife (fun q => h (hd.mp q)) ?_
      cases wide
      · refine ife nt ?_
        rw [rc4_f k, if_neg nt, if_pos rfl, if_pos rfl]
      · refine ift rfl ?_
        rw [if_neg (by decide : ¬ (true = false))]
        by_cases hn : c = true
        · refine ift hn ?_
          have h1 : ¬ op = 1 := fun q => h ⟨rfl, hn, q⟩
          rw [rc4_f k]
          by_cases h5 : op = 5
          · rw [if_pos (by rw [beq_iff_eq]; exact h5), if_pos (c := op = 1 ∨ op = 5) (Or.inr h5), if_pos (hc.mp hn), h5]; rfl
          · rw [if_neg (by rw [beq_iff_eq]; exact h5), if_neg (by decide : ¬ (true = false)), if_neg (c := op = 1 ∨ op = 5) (by omega)]
        · refine ife hn ?_
          rw [rc4_f k, if_neg nt, if_neg (by decide : ¬ (true = false))]
          by_cases h1 : op = 1 ∨ op = 5
          · rw [if_pos h1, if_neg (fun q => hn (hc.mpr q)), od_eq _ _ _ h1, od_eq _ _ _ h1]
            split <;> (try split) <;> rfl
          · rw [if_neg (c := op = 1 ∨ op = 5) h1]
  rw [lockgateref14_Compare.j2]
  by_cases hw : wide = true
  · refine ift hw ?_
    by_cases hn : c = true
    · refine ift hn (j3 _ ?_)
      rw [beq_iff_eq]; exact ⟨fun q => ⟨hw, hn, q⟩, fun q => q.2.2⟩
    · exact ife hn (j3 _ ⟨fun q => absurd q (by decide), fun q => absurd q.2.1 hn⟩)
  · exact ife hw (j3 _ ⟨fun q => absurd q (by decide), fun q => absurd q.1 hw⟩)
theorem rc1_f (k : Nat) (op len : Int) (wide : Bool) (c : Bool) (yes : Bool) (a0 : Int) (x : W) (a2 b0 : Int) (y : W) (b2' : Int) (hc : c = true ↔ (a0 = 1 ∧ b0 = 1)) :
    lockgateref14_Compare.j1 (k + 6) op wide len yes c a0 (U x) a2 b0 (U y) b2' = some (if a0 = 1 ∧ b0 = 1 then (yes, 0) else if wide = false then (false, 21) else cR op a0 x b0 y len) := by
  rw [lockgateref14_Compare.j1]
  by_cases h : a0 = 1 ∧ b0 = 1
  · refine ift (hc.mpr h) ?_
    rw [if_pos h]
  · refine ife (fun q => h (hc.mp q)) ?_
    rw [if_neg h]
    have j2 := rc2_f k op len wide
    by_cases h6 : a0 = 6
    · refine ift h6 ?_
      by_cases h1 : b0 = 1
      · refine ift h1 ?_
        by_cases hy : U y = 0
        · exact ift hy (j2 _ a0 x a2 b0 y b2' ⟨fun _ => Or.inl ⟨h6, h1, hy⟩, fun _ => rfl⟩)
        · refine ife hy (ife (by omega) (j2 _ a0 x a2 b0 y b2' ?_))
          unfold nul; exact ⟨fun q => absurd q (by decide), fun q => by omega⟩
      · refine ife h1 ?_
        have hn : ¬ nul a0 x b0 y := by unfold nul; omega
        by_cases hb : b0 = 6
        · exact ift hb (ife (by omega) (j2 _ a0 x a2 b0 y b2' ⟨fun q => absurd q (by decide), fun q => absurd q hn⟩))
        · exact ife hb (j2 _ a0 x a2 b0 y b2' ⟨fun q => absurd q (by decide), fun q => absurd q hn⟩)
    · refine ife h6 ?_
      by_cases hb : b0 = 6
      · refine ift hb ?_
        by_cases h1 : a0 = 1
        · refine ift h1 (j2 _ a0 x a2 b0 y b2' ?_)
          rw [beq_iff_eq]; unfold nul; exact ⟨fun q => Or.inr ⟨hb, h1, q⟩, fun q => by omega⟩
        · refine ife h1 (j2 _ a0 x a2 b0 y b2' ?_)
          unfold nul; exact ⟨fun q => absurd q (by decide), fun q => by omega⟩
      · refine ife hb (j2 _ a0 x a2 b0 y b2' ?_)
        unfold nul; exact ⟨fun q => absurd q (by decide), fun q => by omega⟩
theorem rvcmp_f (k : Nat) (hk : 230 ≤ k) (op : Int) (wide : Bool) (a0 : Int) (x : W) (a2 b0 : Int) (y : W) (b2' len : Int) :
    lockgateref14_Compare.f k op wide a0 (U x) a2 b0 (U y) b2' len = some (vC op wide a0 x b0 y len) := by
  obtain ⟨k, rfl⟩ : ∃ m, k = m + 7 := ⟨k - 7, by omega⟩
  unfold lockgateref14_Compare.f
  refine bs (rjump_f (k + 7) (by omega) op wide x y) ?_
  unfold vC
  by_cases hj : isJmp op = true
  · refine ift hj ?_
    rw [if_pos hj]
    have j0 : ∀ c : Bool, (c = true ↔ (a0 = 0 ∨ b0 = 0)) → lockgateref14_Compare.j0 (k + 7) op wide len (jmp op wide x y) c a0 (U x) a2 b0 (U y) b2' = some (if a0 = 0 ∨ b0 = 0 then (false, 20) else if a0 = 1 ∧ b0 = 1 then (jmp op wide x y, 0) else if wide = false then (false, 21) else cR op a0 x b0 y len) := by
      intro c hc
      rw [lockgateref14_Compare.j0]
      by_cases h : a0 = 0 ∨ b0 = 0
      · refine ift (hc.mpr h) ?_
        rw [if_pos h]
      · refine ife (fun q => h (hc.mp q)) ?_
        rw [if_neg h]
        by_cases h1 : a0 = 1
        · refine ift h1 (rc1_f k op len wide _ _ a0 x a2 b0 y b2' ?_)
          rw [beq_iff_eq]; exact ⟨fun q => ⟨h1, q⟩, fun q => q.2⟩
        · refine ife h1 (rc1_f k op len wide _ _ a0 x a2 b0 y b2' ?_)
          exact ⟨fun q => absurd q (by decide), fun q => absurd q.1 h1⟩
    by_cases h : a0 = 0
    · exact ift h (j0 _ ⟨fun _ => Or.inl h, fun _ => rfl⟩)
    · refine ife h (j0 _ ?_)
      rw [beq_iff_eq]; omega
  · refine ife hj ?_
    rw [if_neg hj]
end Go.Proofs.Ytnpbhippkcikoaa.C14
end
section
/- Layer 14's laws: what they share. -/
namespace Go.Proofs.Ytnpbhippkcikoaa.C14
open Go.RowKit Go.Proofs.YtnpbhippkcikoaaW.PrintWords Go.Proofs.YtnpbhippkcikoaaW.PrintLast Go.Proofs.YtnpbhippkcikoaaW.PrintMore Go.Proofs.Ytnpbhippkcikoaa.PA Go.Proofs.Ytnpbhippkcikoaa.Bv Go.Proofs.Ytnpbhippkcikoaa.C01
theorem eq3 {a b c d e f : Int} (h : a = d ∧ b = e ∧ c = f) : (a == d && (b == e && (c == f))) = true := by rw [Bool.and_eq_true, Bool.and_eq_true, beq_iff_eq, beq_iff_eq, beq_iff_eq]; exact h
theorem same3 (a b c : Int) : (a == a && (b == b && (c == c))) = true := eq3 ⟨rfl, rfl, rfl⟩
theorem vA_no {op : Int} (h : ¬ (0 ≤ op ∧ op ≤ 12)) (wide : Bool) (a0 : Int) (x : W) (a2 b0 : Int) (y : W) (b2 : Int) : vA op wide a0 x a2 b0 y b2 = (0, 0, 0, 4) := by unfold vA; rw [if_pos h]
theorem vA_num {op : Int} (h : 0 ≤ op ∧ op ≤ 12) (wide : Bool) (x : W) (a2 : Int) (y : W) (b2 : Int) : vA op wide 1 x a2 1 y b2 = (1, U (alu op wide x y), 0, 0) := by
  unfold vA; rw [if_neg (fun q => q h), if_neg (by omega), if_pos (⟨Or.inr rfl, Or.inr rfl⟩)]
theorem pl_ne {a : Int} (h : pl a = true) : a ≠ 0 ∧ a ≠ 1 := by rw [pl_iff] at h; omega
theorem vA_add {a : Int} (h : pl a = true) (x : W) (a2 : Int) (y : W) (b2 : Int) : vA 0 true a x a2 1 y b2 = (a, U (x + y), a2, 0) := by
  have := pl_ne h
  unfold vA pt; rw [if_neg (by omega), if_neg (by omega), if_neg (by omega), if_neg (by decide : ¬ (true = false)), if_neg (by omega), if_pos ⟨rfl, h, rfl⟩]
theorem vA_add' {a : Int} (h : pl a = true) (x : W) (a2 : Int) (y : W) (b2 : Int) : vA 0 true 1 y b2 a x a2 = (a, U (x + y), a2, 0) := by
  have := pl_ne h
  unfold vA pt; rw [if_neg (by omega), if_neg (by omega), if_neg (by omega), if_neg (by decide : ¬ (true = false)), if_neg (by omega), if_neg (fun q => absurd q.2.1 (by decide)), if_pos ⟨rfl, rfl, h⟩]
theorem vA_sub {a : Int} (h : pl a = true) (x : W) (a2 : Int) (y : W) (b2 : Int) : vA 1 true a x a2 1 y b2 = (a, U (x - y), a2, 0) := by
  have := pl_ne h
  unfold vA pt; rw [if_neg (by omega), if_neg (by omega), if_neg (by omega), if_neg (by decide : ¬ (true = false)), if_neg (by omega), if_neg (fun q => absurd q.1 (by decide)), if_neg (fun q => absurd q.1 (by decide)), if_pos ⟨rfl, h, rfl⟩]
theorem vC_end {op : Int} (hj : isJmp op = true) (h : ¬ (op = 1 ∨ op = 5)) (x y : W) (len : Int) : vC op true 2 x 3 y len = od op (wrap64 (U x)) len := by
  unfold vC cR; rw [if_pos hj, if_neg (by omega), if_neg (by omega), if_neg (by decide : ¬ (true = false)), if_neg h, if_pos ⟨rfl, rfl⟩]
theorem vC_end' {op : Int} (hj : isJmp op = true) (h : ¬ (op = 1 ∨ op = 5)) (x y : W) (len : Int) : vC op true 3 x 2 y len = od op len (wrap64 (U y)) := by
  unfold vC cR; rw [if_pos hj, if_neg (by omega), if_neg (by omega), if_neg (by decide : ¬ (true = false)), if_neg h, if_neg (by omega), if_pos ⟨rfl, rfl⟩]
theorem vC_narrow {op : Int} (hj : isJmp op = true) (x y : W) (len : Int) : vC op false 2 x 3 y len = (false, 21) := by
  unfold vC; rw [if_pos hj, if_neg (by omega), if_neg (by omega), if_pos rfl]
theorem vC_eq (x y : W) (len : Int) : vC 1 true 2 x 3 y len = (false, 21) := by
  unfold vC cR; rw [if_pos (by decide), if_neg (by omega), if_neg (by omega), if_neg (by decide : ¬ (true = false)), if_pos (Or.inl rfl), if_neg (by unfold nul; omega)]
theorem vC_two {op : Int} (hj : isJmp op = true) (h : ¬ (op = 1 ∨ op = 5)) (x y : W) (len : Int) : vC op true 2 x 2 y len = (false, 21) := by
  unfold vC cR; rw [if_pos hj, if_neg (by omega), if_neg (by omega), if_neg (by decide : ¬ (true = false)), if_neg h, if_neg (by omega), if_neg (by omega)]
theorem vC_num {op : Int} (hj : isJmp op = true) (wide : Bool) (x y : W) (len : Int) : vC op wide 1 x 1 y len = (jmp op wide x y, 0) := by
  unfold vC; rw [if_pos hj, if_neg (by omega), if_pos ⟨rfl, rfl⟩]
theorem vC_no {op : Int} (hj : ¬ isJmp op = true) (wide : Bool) (a0 : Int) (x : W) (b0 : Int) (y : W) (len : Int) : vC op wide a0 x b0 y len = (false, 4) := by
  unfold vC; rw [if_neg hj]
theorem od_gt (p q : Int) : od 2 p q = (decide (p > q), 0) := rfl
theorem od_ge (p q : Int) : od 3 p q = (decide (p ≥ q), 0) := rfl
theorem od_lt (p q : Int) : od 10 p q = (decide (p < q), 0) := rfl
theorem od_le (p q : Int) : od 11 p q = (decide (p ≤ q), 0) := rfl
theorem wrap_one (n : Int) : IntKind.u64.wrap n = n % 18446744073709551616 := by rw [wrap_u64, U_ofInt]
theorem code_f (a : Int) : value_Code.f a = some (1, (-a) % 18446744073709551616, 0) := by
  unfold value_Code.f
  refine bs (a := (1, IntKind.u64.wrap (wrap64 (-a)), 0)) rfl ?_
  rw [wrap_one]
  have : wrap64 (-a) % 18446744073709551616 = (-a) % 18446744073709551616 := by unfold wrap64; omega
  rw [this]
theorem rcode_f (a : Int) : lockgateref14_Code.f a = some (1, (-a) % 18446744073709551616, 0) := by
  unfold lockgateref14_Code.f
  refine bs (a := (1, IntKind.u64.wrap (-(IntKind.u64.wrap a)), 0)) rfl ?_
  rw [wrap_one, wrap_one]
  have : (-(a % 18446744073709551616)) % 18446744073709551616 = (-a) % 18446744073709551616 := by omega
  rw [this]
theorem w14 : wrap64 (U (14 : W)) = 14 := by show wrap64 14 = 14; unfold wrap64; omega
theorem works_f (k : Nat) (hk : 12 ≤ k) : lockgatelaw14_works.f k = some true := by
  have h8 : U (-8 : W) = 18446744073709551608 := by decide
  have a1 : value_Alu.f k 0 true 4 0 0 1 18446744073709551608 0 = some (4, 18446744073709551608, 0, 0) := by
    have := valu_f k hk 0 true 4 0 0 1 (-8) 0
    rw [vA_add (by decide), h8] at this
    exact this.trans (by decide)
  have a2 : value_Alu.f k 0 false 4 0 0 1 1 0 = some (0, 0, 0, 21) := by
    have := valu_f k hk 0 false 4 0 0 1 1 0
    exact this.trans (by decide)
  have a3 : value_Compare.f k 11 true 2 14 0 3 0 0 14 = some (true, 0) := by
    have := vcmp_f k (by omega) 11 true 2 14 0 3 0 0 14
    rw [vC_end (by decide) (by decide), od_le, w14] at this
    exact this.trans (by decide)
  have a4 : value_Compare.f k 11 true 2 14 0 3 0 0 13 = some (false, 0) := by
    have := vcmp_f k (by omega) 11 true 2 14 0 3 0 0 13
    rw [vC_end (by decide) (by decide), od_le, w14] at this
    exact this.trans (by decide)
  unfold lockgatelaw14_works.f
  refine bs (a := (1, 18446744073709551608, 0)) rfl (bs a1 (bs (a := (1, 1, 0)) rfl (bs a2 (bs a3 (bs a4 ?_)))))
  refine ift rfl (ift (same3 4 18446744073709551608 0) (ift rfl (ift rfl (ift rfl (ift rfl (ife nt (bs (code_f 10) ?_)))))))
  decide
/-- a number in a byte order. -/
def vw (n : Int) (big : Bool) (v : W) : Int × Bool := if n = 16 then (U (swp 2 big v), true) else if n = 32 then (U (swp 4 big v), true) else if n = 64 then (U (swp 8 big v), true) else (0, false)
theorem wswap_f (k : Nat) (hk : 10 ≤ k) (n : Int) (big : Bool) (v : W) : word_Swap.f k n big (U v) = some (vw n big v) := by
  unfold vw
  by_cases h1 : n = 16
  · rw [if_pos h1, h1]; exact swap_f k 2 (by omega) hk big v
  by_cases h2 : n = 32
  · rw [if_neg h1, if_pos h2, h2]; exact swap_f k 4 (by omega) hk big v
  by_cases h3 : n = 64
  · rw [if_neg h1, if_neg h2, if_pos h3, h3]; exact swap_f k 8 (by omega) hk big v
  rw [if_neg h1, if_neg h2, if_neg h3]; exact swap_n k (by omega) n ⟨h1, h2, h3⟩ big _
theorem rwswap_f (k : Nat) (hk : 10 ≤ k) (n : Int) (big : Bool) (v : W) : lockgateref01_Swap.f k n big (U v) = some (vw n big v) := by
  unfold vw
  by_cases h1 : n = 16
  · rw [if_pos h1, h1]; exact rswap_f k 2 (by omega) hk big v
  by_cases h2 : n = 32
  · rw [if_neg h1, if_pos h2, h2]; exact rswap_f k 4 (by omega) hk big v
  by_cases h3 : n = 64
  · rw [if_neg h1, if_neg h2, if_pos h3, h3]; exact rswap_f k 8 (by omega) hk big v
  rw [if_neg h1, if_neg h2, if_neg h3]; exact rswap_n k (by omega) n ⟨h1, h2, h3⟩ big _
def vS (n : Int) (big : Bool) (a0 : Int) (v : W) : Int × Int × Int × Int := if a0 = 0 then (0, 0, 0, 20) else if a0 = 1 then (if (vw n big v).2 = true then (1, (vw n big v).1, 0, 0) else (0, 0, 0, 1)) else (0, 0, 0, 21)
theorem vswap_f (k : Nat) (hk : 10 ≤ k) (n : Int) (big : Bool) (a0 : Int) (v : W) (a2 : Int) : value_Swap.f k n big a0 (U v) a2 = some (vS n big a0 v) := by
  unfold value_Swap.f vS
  by_cases h0 : a0 = 0
  · refine ift h0 ?_; rw [if_pos h0]
  refine ife h0 ?_
  rw [if_neg h0]
  by_cases h1 : a0 = 1
  · refine ift h1 (bs (wswap_f k hk n big v) ?_)
    rw [if_pos h1]
    by_cases h : (vw n big v).2 = true
    · refine ift h ?_; rw [if_pos h]; rfl
    · refine ife h ?_; rw [if_neg h]
  · refine ife h1 ?_; rw [if_neg h1]
theorem rvswap_f (k : Nat) (hk : 10 ≤ k) (n : Int) (big : Bool) (a0 : Int) (v : W) (a2 : Int) : lockgateref14_Swap.f k n big a0 (U v) a2 = some (vS n big a0 v) := by
  unfold lockgateref14_Swap.f vS
  by_cases h0 : a0 = 0
  · refine ift h0 ?_; rw [if_pos h0]
  refine ife h0 ?_
  rw [if_neg h0]
  by_cases h1 : a0 = 1
  · refine ift h1 (bs (rwswap_f k hk n big v) ?_)
    rw [if_pos h1]
    by_cases h : (vw n big v).2 = true
    · refine ift h ?_; rw [if_pos h]; rfl
    · refine ife h ?_; rw [if_neg h]
  · refine ife h1 ?_; rw [if_neg h1]
end Go.Proofs.Ytnpbhippkcikoaa.C14
end
section
/- ValueMakes, without Go. -/
namespace Go.Proofs.Ytnpbhippkcikoaa.LValueMakes
open Go.RowKit Go.Proofs.YtnpbhippkcikoaaW.PrintWords Go.Proofs.YtnpbhippkcikoaaW.PrintLast Go.Proofs.YtnpbhippkcikoaaW.PrintMore Go.Proofs.Ytnpbhippkcikoaa.PA Go.Proofs.Ytnpbhippkcikoaa.Bv Go.Proofs.Ytnpbhippkcikoaa.C01 Go.Proofs.Ytnpbhippkcikoaa.C14
theorem law (k : Nat) (hk : 400 ≤ k) (op : Int) (wide : Bool) (a0 : Int) (x : W) (a2 b0 : Int) (y : W) (b2 : Int) : lockgatelaw14_ValueMakes.f k op wide a0 (U x) a2 b0 (U y) b2 = some true := by
  unfold lockgatelaw14_ValueMakes.f
  refine bs (valu_f k (by omega) op wide a0 x a2 b0 y b2) (bs (rvalu_f k (by omega) op wide a0 x a2 b0 y b2) ?_)
  refine ift (same3 _ _ _) (ift rfl (bs (places_f _ _ _) (bs (rplaces_f _ _ _) (ift (beq_self_eq_true _) ?_))))
  refine bs (a := (1, U x, 0)) rfl (bs (a := (1, U x, 0)) rfl (ift (same3 _ _ _) (bs (code_f op) (bs (rcode_f op) (ift (same3 _ _ _) (bs (works_f k (by omega)) rfl))))))
theorem pure (a0 : Int) (a1 : Bool) (a2_0 a2_1 a2_2 a3_0 a3_1 a3_2 : Int) (w0 : (Lit.int .i64 a0).wf = true) (w1 : (Lit.int .i64 a2_0).wf = true) (w2 : (Lit.int .u64 a2_1).wf = true) (w3 : (Lit.int .i64 a2_2).wf = true) (w4 : (Lit.int .i64 a3_0).wf = true) (w5 : (Lit.int .u64 a3_1).wf = true) (w6 : (Lit.int .i64 a3_2).wf = true) :
    ∃ k, lockgatelaw14_ValueMakes.f k a0 a1 a2_0 a2_1 a2_2 a3_0 a3_1 a3_2 = some true := by
  obtain ⟨x, rfl⟩ := exU w2
  obtain ⟨y, rfl⟩ := exU w5
  exact ⟨400, law 400 (by omega) _ _ _ _ _ _ _ _⟩
end Go.Proofs.Ytnpbhippkcikoaa.LValueMakes
end
section
/- ValueCompares, without Go. -/
namespace Go.Proofs.Ytnpbhippkcikoaa.LValueCompares
open Go.RowKit Go.Proofs.YtnpbhippkcikoaaW.PrintWords Go.Proofs.YtnpbhippkcikoaaW.PrintLast Go.Proofs.YtnpbhippkcikoaaW.PrintMore Go.Proofs.Ytnpbhippkcikoaa.PA Go.Proofs.Ytnpbhippkcikoaa.Bv Go.Proofs.Ytnpbhippkcikoaa.C01 Go.Proofs.Ytnpbhippkcikoaa.C14
theorem law (k : Nat) (hk : 400 ≤ k) (op : Int) (wide : Bool) (a0 : Int) (x : W) (a2 b0 : Int) (y : W) (b2 len : Int) : lockgatelaw14_ValueCompares.f k op wide a0 (U x) a2 b0 (U y) b2 len = some true := by
  unfold lockgatelaw14_ValueCompares.f
  exact bs (vcmp_f k (by omega) op wide a0 x a2 b0 y b2 len) (bs (rvcmp_f k (by omega) op wide a0 x a2 b0 y b2 len) (ift (beq_self_eq_true _) (ift rfl (bs (works_f k (by omega)) rfl))))
theorem pure (a0 : Int) (a1 : Bool) (a2_0 a2_1 a2_2 a3_0 a3_1 a3_2 a4 : Int) (w0 : (Lit.int .i64 a0).wf = true) (w1 : (Lit.int .i64 a2_0).wf = true) (w2 : (Lit.int .u64 a2_1).wf = true) (w3 : (Lit.int .i64 a2_2).wf = true) (w4 : (Lit.int .i64 a3_0).wf = true) (w5 : (Lit.int .u64 a3_1).wf = true) (w6 : (Lit.int .i64 a3_2).wf = true) (w7 : (Lit.int .i64 a4).wf = true) :
    ∃ k, lockgatelaw14_ValueCompares.f k a0 a1 a2_0 a2_1 a2_2 a3_0 a3_1 a3_2 a4 = some true := by
  obtain ⟨x, rfl⟩ := exU w2
  obtain ⟨y, rfl⟩ := exU w5
  exact ⟨400, law 400 (by omega) _ _ _ _ _ _ _ _ _⟩
end Go.Proofs.Ytnpbhippkcikoaa.LValueCompares
end
section
/- ValueSwaps, without Go. -/
namespace Go.Proofs.Ytnpbhippkcikoaa.LValueSwaps
open Go.RowKit Go.Proofs.YtnpbhippkcikoaaW.PrintWords Go.Proofs.YtnpbhippkcikoaaW.PrintLast Go.Proofs.YtnpbhippkcikoaaW.PrintMore Go.Proofs.Ytnpbhippkcikoaa.PA Go.Proofs.Ytnpbhippkcikoaa.Bv Go.Proofs.Ytnpbhippkcikoaa.C01 Go.Proofs.Ytnpbhippkcikoaa.C14
theorem law (k : Nat) (hk : 400 ≤ k) (n : Int) (big : Bool) (a0 : Int) (x : W) (a2 : Int) : lockgatelaw14_ValueSwaps.f k n big a0 (U x) a2 = some true := by
  unfold lockgatelaw14_ValueSwaps.f
  exact bs (vswap_f k (by omega) n big a0 x a2) (bs (rvswap_f k (by omega) n big a0 x a2) (ift (same3 _ _ _) (ift rfl (bs (works_f k (by omega)) rfl))))
theorem pure (a0 : Int) (a1 : Bool) (a2_0 a2_1 a2_2 : Int) (w0 : (Lit.int .i64 a0).wf = true) (w1 : (Lit.int .i64 a2_0).wf = true) (w2 : (Lit.int .u64 a2_1).wf = true) (w3 : (Lit.int .i64 a2_2).wf = true) :
    ∃ k, lockgatelaw14_ValueSwaps.f k a0 a1 a2_0 a2_1 a2_2 = some true := by
  obtain ⟨x, rfl⟩ := exU w2
  exact ⟨400, law 400 (by omega) _ _ _ _ _⟩
end Go.Proofs.Ytnpbhippkcikoaa.LValueSwaps
end
section
/- ValueBack, without Go. -/
namespace Go.Proofs.Ytnpbhippkcikoaa.LValueBack
open Go.RowKit Go.Proofs.YtnpbhippkcikoaaW.PrintWords Go.Proofs.YtnpbhippkcikoaaW.PrintLast Go.Proofs.YtnpbhippkcikoaaW.PrintMore Go.Proofs.Ytnpbhippkcikoaa.PA Go.Proofs.Ytnpbhippkcikoaa.Bv Go.Proofs.Ytnpbhippkcikoaa.C01 Go.Proofs.Ytnpbhippkcikoaa.C14
theorem law (k : Nat) (hk : 400 ≤ k) (a0 : Int) (x : W) (a2 : Int) (n m : W) : lockgatelaw14_ValueBack.f k a0 (U x) a2 (U n) (U m) = some true := by
  have kn := works_f k (by omega)
  unfold lockgatelaw14_ValueBack.f
  refine bs (places_f _ _ _) ?_
  by_cases h : pl a0 = true
  · refine ift h ?_
    have e1 := valu_f k (by omega) 0 true a0 x a2 1 n 0
    rw [vA_add h] at e1
    have e2 := valu_f k (by omega) 0 true 1 n 0 a0 x a2
    rw [vA_add' h] at e2
    have e3 := valu_f k (by omega) 1 true a0 (x + n) a2 1 n 0
    rw [vA_sub h, BitVec.add_sub_cancel] at e3
    have e4 := valu_f k (by omega) 0 true a0 (x + n) a2 1 m 0
    rw [vA_add h] at e4
    have e5 := valu_f k (by omega) 0 true a0 x a2 1 (n + m) 0
    rw [vA_add h, ← BitVec.add_assoc] at e5
    refine bs (a := (1, U n, 0)) rfl (bs e1 (bs (a := (1, U n, 0)) rfl (bs e2 (bs (a := (1, U n, 0)) rfl (bs e3 (bs (a := (1, U m, 0)) rfl (bs e4 (bs (a := (1, U (n + m), 0)) ?_ (bs e5 ?_)))))))))
    · show some (1, IntKind.u64.wrap (U n + U m), 0) = _; rw [u_add]
    · exact ift rfl (ift rfl (ift rfl (ift rfl (ift rfl (ift (same3 _ _ _) (ift (same3 _ _ _) (ift (same3 _ _ _) (bs kn rfl))))))))
  · refine ife h (bs (a := (1, U n, 0)) rfl (bs (valu_f k (by omega) 1 true a0 x a2 1 n 0) (ift ?_ (bs kn rfl))))
    rw [beq_iff_eq]
    by_cases h1 : a0 = 1
    · subst h1; rw [vA_num (by omega)]; rfl
    · have : (vA 1 true a0 x a2 1 n 0).2.2.2 = 20 ∨ (vA 1 true a0 x a2 1 n 0).2.2.2 = 21 := by
        unfold vA pt
        rw [if_neg (by omega)]
        by_cases h0 : a0 = 0
        · rw [if_pos (Or.inl ⟨by omega, h0⟩)]; exact Or.inl rfl
        · rw [if_neg (by omega), if_neg (by omega), if_neg (by decide : ¬ (true = false)), if_neg (by omega), if_neg (by omega), if_neg (by omega), if_neg (fun q => h q.2.1)]; exact Or.inr rfl
      rw [show (a0 == 1) = false from beq_eq_false_iff_ne.mpr h1]
      rcases this with h | h <;> rw [h] <;> rfl
theorem pure (a0_0 a0_1 a0_2 a1 a2 : Int) (w0 : (Lit.int .i64 a0_0).wf = true) (w1 : (Lit.int .u64 a0_1).wf = true) (w2 : (Lit.int .i64 a0_2).wf = true) (w3 : (Lit.int .u64 a1).wf = true) (w4 : (Lit.int .u64 a2).wf = true) :
    ∃ k, lockgatelaw14_ValueBack.f k a0_0 a0_1 a0_2 a1 a2 = some true := by
  obtain ⟨x, rfl⟩ := exU w1
  obtain ⟨n, rfl⟩ := exU w3
  obtain ⟨m, rfl⟩ := exU w4
  exact ⟨400, law 400 (by omega) _ _ _ _ _⟩
end Go.Proofs.Ytnpbhippkcikoaa.LValueBack
end
section
/- ValueOrders, without Go. -/
namespace Go.Proofs.Ytnpbhippkcikoaa.LValueOrders
open Go.RowKit Go.Proofs.YtnpbhippkcikoaaW.PrintWords Go.Proofs.YtnpbhippkcikoaaW.PrintLast Go.Proofs.YtnpbhippkcikoaaW.PrintMore Go.Proofs.Ytnpbhippkcikoaa.PA Go.Proofs.Ytnpbhippkcikoaa.Bv Go.Proofs.Ytnpbhippkcikoaa.C01 Go.Proofs.Ytnpbhippkcikoaa.C14
theorem law (k : Nat) (hk : 400 ≤ k) (x : W) (len : Int) : lockgatelaw14_ValueOrders.f k (U x) len = some true := by
  have j0 : lockgatelaw14_ValueOrders.j0 k len false 2 (U x) 0 3 0 0 = some true := by
    obtain ⟨k, rfl⟩ : ∃ m, k = m + 1 := ⟨k - 1, by omega⟩
    rw [lockgatelaw14_ValueOrders.j0]
    have e1 := vcmp_f k (by omega) 1 true 2 x 0 3 0 0 len
    rw [vC_eq] at e1
    have e2 := vcmp_f k (by omega) 10 false 2 x 0 3 0 0 len
    rw [vC_narrow (by decide)] at e2
    have e3 := vcmp_f k (by omega) 10 true 2 x 0 2 x 0 len
    rw [vC_two (by decide) (by decide)] at e3
    exact ife nt (bs e1 (bs e2 (bs e3 (ift rfl (ift rfl (ift rfl (bs (works_f k (by omega)) rfl)))))))
  unfold lockgatelaw14_ValueOrders.f
  have e1 := vcmp_f k (by omega) 10 true 2 x 0 3 0 0 len
  rw [vC_end (by decide) (by decide), od_lt] at e1
  have e2 := vcmp_f k (by omega) 3 true 2 x 0 3 0 0 len
  rw [vC_end (by decide) (by decide), od_ge] at e2
  have e3 := vcmp_f k (by omega) 11 true 2 x 0 3 0 0 len
  rw [vC_end (by decide) (by decide), od_le] at e3
  have e4 := vcmp_f k (by omega) 2 true 2 x 0 3 0 0 len
  rw [vC_end (by decide) (by decide), od_gt] at e4
  have e5 := vcmp_f k (by omega) 2 true 3 0 0 2 x 0 len
  rw [vC_end' (by decide) (by decide), od_gt] at e5
  have e6 := vcmp_f k (by omega) 3 true 3 0 0 2 x 0 len
  rw [vC_end' (by decide) (by decide), od_ge] at e6
  generalize wrap64 (U x) = v at *
  refine bs e1 (bs e2 (bs e3 (bs e4 (bs e5 (bs e6 (ift rfl (ift rfl (ift rfl (ift rfl (ift rfl (ift rfl ?_)))))))))))
  have n1 : ¬ ((decide (v < len) == decide (v ≥ len)) = true) := by rw [beq_iff_eq, decide_eq_decide]; omega
  have n2 : ¬ ((decide (v ≤ len) == decide (v > len)) = true) := by rw [beq_iff_eq, decide_eq_decide]; omega
  have n3 : ¬ ((decide (v < len) != decide (len > v)) = true) := by rw [bne_iff_ne, ne_eq, decide_eq_decide]; omega
  have n4 : ¬ ((decide (v ≤ len) != decide (len ≥ v)) = true) := by rw [bne_iff_ne, ne_eq, decide_eq_decide]; omega
  refine ife n1 (ife n2 (ife n3 (ife n4 ?_)))
  have n5 : (decide (v ≤ len) != decide (v ≤ len)) = false := by rw [bne_self_eq_false]
  by_cases h : v < len
  · refine ift (decide_eq_true h) (ift (decide_eq_true (by omega)) ?_)
    exact (congrArg (fun b => lockgatelaw14_ValueOrders.j0 k len b 2 (U x) 0 3 0 0) n5).trans j0
  · refine ife (by rw [decide_eq_true_iff]; exact h) ?_
    exact (congrArg (fun b => lockgatelaw14_ValueOrders.j0 k len b 2 (U x) 0 3 0 0) n5).trans j0
theorem pure (a0 a1 : Int) (w0 : (Lit.int .u64 a0).wf = true) (w1 : (Lit.int .i64 a1).wf = true) : ∃ k, lockgatelaw14_ValueOrders.f k a0 a1 = some true := by
  obtain ⟨x, rfl⟩ := exU w0
  exact ⟨400, law 400 (by omega) _ _⟩
end Go.Proofs.Ytnpbhippkcikoaa.LValueOrders
end
section
/- ValueNumbers, without Go. -/
namespace Go.Proofs.Ytnpbhippkcikoaa.LValueNumbers
open Go.RowKit Go.Proofs.YtnpbhippkcikoaaW.PrintWords Go.Proofs.YtnpbhippkcikoaaW.PrintLast Go.Proofs.YtnpbhippkcikoaaW.PrintMore Go.Proofs.Ytnpbhippkcikoaa.PA Go.Proofs.Ytnpbhippkcikoaa.Bv Go.Proofs.Ytnpbhippkcikoaa.C01 Go.Proofs.Ytnpbhippkcikoaa.C14
theorem isOp_iff (op : Int) : isOp op = true ↔ (0 ≤ op ∧ op ≤ 12) := by unfold isOp; exact decide_eq_true_iff
theorem vS1 (n : Int) (big : Bool) (x : W) : vS n big 1 x = if (vw n big x).2 = true then (1, (vw n big x).1, 0, 0) else (0, 0, 0, 1) := by unfold vS; rw [if_neg (c := (1 : Int) = 0) (by decide), if_pos rfl]
theorem ne3 (a b c : Int) : ¬ ((!(a == a) || (!(b == b) || (!(c == c)))) = true) := by rw [beq_self_eq_true, beq_self_eq_true, beq_self_eq_true]; decide
theorem j1 (k : Nat) (hk : 100 ≤ k) (n : Int) (big : Bool) (x : W) : lockgatelaw14_ValueNumbers.j1 k n big (U x) false = some true := by
  obtain ⟨k, rfl⟩ : ∃ m, k = m + 1 := ⟨k - 1, by omega⟩
  rw [lockgatelaw14_ValueNumbers.j1]
  have kn := works_f k (by omega)
  refine ife nt (bs (a := (1, U x, 0)) rfl (bs (vswap_f k (by omega) n big 1 x 0) (bs (wswap_f k (by omega) n big x) ?_)))
  rw [vS1]
  by_cases h : (vw n big x).2 = true
  · refine ift h ?_
    rw [if_pos h]
    exact ift rfl (bs (a := (1, (vw n big x).1, 0)) rfl (ift (same3 _ _ _) (bs kn rfl)))
  · refine ife h ?_
    rw [if_neg h]
    exact ift rfl (bs kn rfl)
theorem j0 (k : Nat) (hk : 200 ≤ k) (op : Int) (wide : Bool) (x y : W) (len : Int) : lockgatelaw14_ValueNumbers.j0 k op wide (U x) (U y) len false = some true := by
  obtain ⟨k, rfl⟩ : ∃ m, k = m + 1 := ⟨k - 1, by omega⟩
  rw [lockgatelaw14_ValueNumbers.j0]
  refine ife nt (bs (a := (1, U x, 0)) rfl (bs (a := (1, U y, 0)) rfl (bs (vcmp_f k (by omega) op wide 1 x 0 1 y 0 len) (bs (jump_f k (by omega) op wide x y) ?_))))
  by_cases h : isJmp op = true
  · refine ift h ?_
    rw [vC_num h]
    refine ift rfl (ife ?_ (j1 k (by omega) op wide x))
    rw [bne_self_eq_false]; decide
  · refine ife h ?_
    rw [vC_no h]
    exact j1 k (by omega) op wide x
theorem law (k : Nat) (hk : 400 ≤ k) (op : Int) (wide : Bool) (x y : W) (len : Int) : lockgatelaw14_ValueNumbers.f k op wide (U x) (U y) len = some true := by
  unfold lockgatelaw14_ValueNumbers.f
  refine bs (a := (1, U x, 0)) rfl (bs (a := (1, U y, 0)) rfl (bs (valu_f k (by omega) op wide 1 x 0 1 y 0) (bs (alu_f k (by omega) op wide x y) ?_)))
  by_cases h : isOp op = true
  · refine ift h ?_
    rw [vA_num ((isOp_iff op).mp h)]
    exact ift rfl (bs (a := (1, U (alu op wide x y), 0)) rfl (ife (ne3 _ _ _) (j0 k (by omega) op wide x y len)))
  · refine ife h ?_
    rw [vA_no (fun q => h ((isOp_iff op).mpr q))]
    exact j0 k (by omega) op wide x y len
theorem pure (a0 : Int) (a1 : Bool) (a2 a3 a4 : Int) (w0 : (Lit.int .i64 a0).wf = true) (w2 : (Lit.int .u64 a2).wf = true) (w3 : (Lit.int .u64 a3).wf = true) (w4 : (Lit.int .i64 a4).wf = true) : ∃ k, lockgatelaw14_ValueNumbers.f k a0 a1 a2 a3 a4 = some true := by
  obtain ⟨x, rfl⟩ := exU w2
  obtain ⟨y, rfl⟩ := exU w3
  exact ⟨400, law 400 (by omega) _ _ _ _ _⟩
end Go.Proofs.Ytnpbhippkcikoaa.LValueNumbers
end
section
/- ValuePointers, without Go. -/
namespace Go.Proofs.Ytnpbhippkcikoaa.LValuePointers
open Go.RowKit Go.Proofs.YtnpbhippkcikoaaW.PrintWords Go.Proofs.YtnpbhippkcikoaaW.PrintLast Go.Proofs.YtnpbhippkcikoaaW.PrintMore Go.Proofs.Ytnpbhippkcikoaa.PA Go.Proofs.Ytnpbhippkcikoaa.Bv Go.Proofs.Ytnpbhippkcikoaa.C01 Go.Proofs.Ytnpbhippkcikoaa.C14
theorem ne3 {a b c d e f : Int} (h : ¬ (a = d ∧ b = e ∧ c = f)) : ¬ ((a == d && (b == e && (c == f))) = true) := by rw [Bool.and_eq_true, Bool.and_eq_true, beq_iff_eq, beq_iff_eq, beq_iff_eq]; exact h
theorem alu11 (x y : W) : alu 11 true x y = y := by unfold alu; rw [if_neg (by decide), if_pos rfl, aW11]
/-- a pointer's way: the answer has the kind and the Id of a. -/
theorem j1a (k : Nat) (hk : 20 ≤ k) (op : Int) (hop : op = 0 ∨ op = 1) (a0 a1 a2 b0 b1 b2 r1 : Int) (h : pl a0 = true) : lockgatelaw14_ValuePointers.j1 k op true false a0 a1 a2 b0 b1 b2 a0 r1 a2 = some true := by
  obtain ⟨k, rfl⟩ : ∃ m, k = m + 1 := ⟨k - 1, by omega⟩
  rw [lockgatelaw14_ValuePointers.j1]
  have kn := works_f k (by omega)
  refine ife nt (ift rfl (ift rfl (bs (places_f _ _ _) (ift h (ift rfl ?_)))))
  rcases hop with h | h
  · exact ift h (bs kn rfl)
  · exact ife (by omega) (ift h (bs kn rfl))
theorem j1b (k : Nat) (hk : 20 ≤ k) (a1 a2 b0 b1 b2 r1 : Int) (h : pl b0 = true) : lockgatelaw14_ValuePointers.j1 k 0 true false 1 a1 a2 b0 b1 b2 b0 r1 b2 = some true := by
  obtain ⟨k, rfl⟩ : ∃ m, k = m + 1 := ⟨k - 1, by omega⟩
  rw [lockgatelaw14_ValuePointers.j1]
  have kn := works_f k (by omega)
  have := pl_ne h
  exact ife nt (ife this.2 (ift rfl (ift rfl (bs (places_f _ _ _) (ift h (ift rfl (ift rfl (bs kn rfl))))))))
theorem j1n (k : Nat) (hk : 20 ≤ k) (op : Int) (wide : Bool) (a0 a1 a2 b0 b1 b2 r1 : Int) : lockgatelaw14_ValuePointers.j1 k op wide true a0 a1 a2 b0 b1 b2 1 r1 0 = some true := by
  obtain ⟨k, rfl⟩ : ∃ m, k = m + 1 := ⟨k - 1, by omega⟩
  rw [lockgatelaw14_ValuePointers.j1]
  exact ift rfl (ift rfl (ift rfl (bs (works_f k (by omega)) rfl)))
theorem j0n (k : Nat) (hk : 30 ≤ k) (op : Int) (wide : Bool) (a0 a1 a2 b0 b1 b2 r1 : Int) (h : (op = 11 ∨ a0 = 1) ∧ (op = 8 ∨ b0 = 1)) : lockgatelaw14_ValuePointers.j0 k op wide false a0 a1 a2 b0 b1 b2 1 r1 0 = some true := by
  obtain ⟨k, rfl⟩ : ∃ m, k = m + 1 := ⟨k - 1, by omega⟩
  rw [lockgatelaw14_ValuePointers.j0]
  refine ife nt ?_
  have fin : ∀ c : Bool, c = true → lockgatelaw14_ValuePointers.j1 k op wide c a0 a1 a2 b0 b1 b2 1 r1 0 = some true := by
    intro c hc; rw [hc]; exact j1n k (by omega) op wide _ _ _ _ _ _ _
  by_cases h11 : op = 11
  · refine ift h11 (ife (by omega) (fin _ ?_)); rw [beq_iff_eq]; omega
  · refine ife h11 (ift (by omega) ?_)
    by_cases h8 : op = 8
    · exact ift h8 (fin _ rfl)
    · refine ife h8 (fin _ ?_); rw [beq_iff_eq]; omega
theorem works3 (k : Nat) (hk : 20 ≤ k) : (if (((0 : Int) == 0) && (((0 : Int) == 0) && ((0 : Int) == 0))) = true then ((lockgatelaw14_works.f k).bind fun t303 => (some t303)) else (some false)) = some true := ift rfl (bs (works_f k (by omega)) rfl)
theorem law (k : Nat) (hk : 400 ≤ k) (op : Int) (wide : Bool) (a0 : Int) (x : W) (a2 b0 : Int) (y : W) (b2 : Int) : lockgatelaw14_ValuePointers.f k op wide a0 (U x) a2 b0 (U y) b2 = some true := by
  unfold lockgatelaw14_ValuePointers.f
  refine bs (valu_f k (by omega) op wide a0 x a2 b0 y b2) ?_
  have kn := works_f k (by omega)
  unfold vA
  by_cases h1 : ¬ (0 ≤ op ∧ op ≤ 12)
  · rw [if_pos h1]; exact ife (by decide) (works3 k (by omega))
  rw [if_neg h1]
  by_cases h2 : (op ≠ 11 ∧ a0 = 0) ∨ (op ≠ 8 ∧ b0 = 0)
  · rw [if_pos h2]; exact ife (by decide) (works3 k (by omega))
  rw [if_neg h2]
  by_cases h3 : (op = 11 ∨ a0 = 1) ∧ (op = 8 ∨ b0 = 1)
  · rw [if_pos h3]
    refine ift rfl ?_
    by_cases h11 : op = 11
    · refine ift h11 ?_
      cases wide
      · exact j0n k (by omega) op false _ _ _ _ _ _ _ h3
      · have hb : b0 = 1 := by omega
        obtain ⟨k, rfl⟩ : ∃ m, k = m + 1 := ⟨k - 1, by omega⟩
        rw [lockgatelaw14_ValuePointers.j0]
        refine ift rfl ?_
        rw [h11, alu11]
        by_cases hq : b2 = 0
        · refine ift (eq3 ⟨hb.symm, rfl, hq.symm⟩) (ife (by omega) (bs (works_f k (by omega)) rfl))
        · refine ife (ne3 (fun q => hq q.2.2.symm)) (ift hb (bs (a := (1, U y, 0)) rfl (ift (same3 _ _ _) (ife (by omega) (bs (works_f k (by omega)) rfl)))))
    · exact ife h11 (j0n k (by omega) op wide _ _ _ _ _ _ _ h3)
  rw [if_neg h3]
  cases wide
  · rw [if_pos rfl]; exact ife (by decide) (works3 k (by omega))
  rw [if_neg (by decide : ¬ (true = false))]
  by_cases h11 : op = 11
  · rw [if_pos h11]
    refine ift rfl (ift h11 ?_)
    obtain ⟨k, rfl⟩ : ∃ m, k = m + 1 := ⟨k - 1, by omega⟩
    rw [lockgatelaw14_ValuePointers.j0]
    exact ift rfl (ift (same3 _ _ _) (ife (by omega) (bs (works_f k (by omega)) rfl)))
  rw [if_neg h11]
  unfold pt
  by_cases p1 : op = 0 ∧ pl a0 = true ∧ b0 = 1
  · rw [if_pos p1]
    have := pl_ne p1.2.1
    refine ift rfl (ife h11 ?_)
    obtain ⟨k, rfl⟩ : ∃ m, k = m + 1 := ⟨k - 1, by omega⟩
    rw [lockgatelaw14_ValuePointers.j0]
    exact ife nt (ife h11 (ife this.2 (j1a k (by omega) op (Or.inl p1.1) _ _ _ _ _ _ _ p1.2.1)))
  rw [if_neg p1]
  by_cases p2 : op = 0 ∧ a0 = 1 ∧ pl b0 = true
  · rw [if_pos p2]
    have := pl_ne p2.2.2
    refine ift rfl (ife h11 ?_)
    obtain ⟨k, rfl⟩ : ∃ m, k = m + 1 := ⟨k - 1, by omega⟩
    rw [lockgatelaw14_ValuePointers.j0]
    refine ife nt (ife h11 (ift p2.2.1 (ife (by omega) ?_)))
    have e : (b0 == 1) = false := beq_eq_false_iff_ne.mpr this.2
    rw [e, p2.1, p2.2.1]
    exact j1b k (by omega) _ _ _ _ _ _ p2.2.2
  rw [if_neg p2]
  by_cases p3 : op = 1 ∧ pl a0 = true ∧ b0 = 1
  · rw [if_pos p3]
    have := pl_ne p3.2.1
    refine ift rfl (ife h11 ?_)
    obtain ⟨k, rfl⟩ : ∃ m, k = m + 1 := ⟨k - 1, by omega⟩
    rw [lockgatelaw14_ValuePointers.j0]
    exact ife nt (ife h11 (ife this.2 (j1a k (by omega) op (Or.inr p3.1) _ _ _ _ _ _ _ p3.2.1)))
  rw [if_neg p3]
  exact ife (by decide) (works3 k (by omega))
theorem pure (a0 : Int) (a1 : Bool) (a2_0 a2_1 a2_2 a3_0 a3_1 a3_2 : Int) (w0 : (Lit.int .i64 a0).wf = true) (w1 : (Lit.int .i64 a2_0).wf = true) (w2 : (Lit.int .u64 a2_1).wf = true) (w3 : (Lit.int .i64 a2_2).wf = true) (w4 : (Lit.int .i64 a3_0).wf = true) (w5 : (Lit.int .u64 a3_1).wf = true) (w6 : (Lit.int .i64 a3_2).wf = true) :
    ∃ k, lockgatelaw14_ValuePointers.f k a0 a1 a2_0 a2_1 a2_2 a3_0 a3_1 a3_2 = some true := by
  obtain ⟨x, rfl⟩ := exU w2
  obtain ⟨y, rfl⟩ := exU w5
  exact ⟨400, law 400 (by omega) _ _ _ _ _ _ _ _⟩
end Go.Proofs.Ytnpbhippkcikoaa.LValuePointers
end
section
/- ValueKnown, without Go. -/
namespace Go.Proofs.Ytnpbhippkcikoaa.LValueKnown
open Go.RowKit Go.Proofs.YtnpbhippkcikoaaW.PrintWords Go.Proofs.YtnpbhippkcikoaaW.PrintLast Go.Proofs.YtnpbhippkcikoaaW.PrintMore Go.Proofs.Ytnpbhippkcikoaa.PA Go.Proofs.Ytnpbhippkcikoaa.Bv Go.Proofs.Ytnpbhippkcikoaa.C01 Go.Proofs.Ytnpbhippkcikoaa.C14
abbrev ns : List Int := [0, 1, 14, 2147483648, 4294967296, 9223372036854775807, 9223372036854775808, 18446744073709551615]
def ws : List W := [0, 1, 14, 2147483648, 4294967296, 9223372036854775807, 9223372036854775808, 18446744073709551615]
theorem rd_ns (i : Nat) : ∃ x : W, rd ns (i : Int) = U x := by
  rcases Nat.lt_or_ge i 8 with h | h
  · have : i = 0 ∨ i = 1 ∨ i = 2 ∨ i = 3 ∨ i = 4 ∨ i = 5 ∨ i = 6 ∨ i = 7 := by omega
    rcases this with rfl | rfl | rfl | rfl | rfl | rfl | rfl | rfl
    · exact ⟨0, rfl⟩
    · exact ⟨1, rfl⟩
    · exact ⟨14, rfl⟩
    · exact ⟨2147483648, by decide⟩
    · exact ⟨4294967296, by decide⟩
    · exact ⟨9223372036854775807, by decide⟩
    · exact ⟨9223372036854775808, by decide⟩
    · exact ⟨18446744073709551615, by decide⟩
  · refine ⟨0, ?_⟩
    show List.getD ns i 0 = 0
    rw [List.getD_eq_getElem?_getD, List.getElem?_eq_none h]; rfl
theorem len_ns : ((ns.length : Nat) : Int) = 8 := rfl
theorem tm8 (n : Int) (h : 0 ≤ n) (h2 : n < 4096) : ∃ m : Nat, Int.tmod (wrap64 n) 8 = (m : Int) ∧ m < 8 := by
  have e : wrap64 n = n := by unfold wrap64; omega
  rw [e, Int.tmod_eq_emod_of_nonneg h]
  exact ⟨(n % 8).toNat, by omega, by omega⟩
theorem w64s {n : Int} (h : -4096 ≤ n) (h2 : n < 4096) : wrap64 n = n := by unfold wrap64; omega
theorem l3 (d : Nat) : ∀ (k : Nat) (op : Int) (i : Nat), (i : Int) + d = 8 → -1 ≤ op → op ≤ 16 → d + 500 ≤ k →
    (∀ k', k ≤ k' + d + 1 → lockgatelaw14_ValueKnown.l0 k' ns (wrap64 (op + 1)) = some true) → lockgatelaw14_ValueKnown.l3 k ns op (i : Int) = some true := by
  induction d with
  | zero =>
    intro k op i hi h1 h2 hk hl
    obtain ⟨k, rfl⟩ : ∃ m, k = m + 1 := ⟨k - 1, by omega⟩
    rw [lockgatelaw14_ValueKnown.l3, len_ns]
    refine ife (by omega) (hl k (by omega))
  | succ d ih =>
    intro k op i hi h1 h2 hk hl
    obtain ⟨k, rfl⟩ : ∃ m, k = m + 1 := ⟨k - 1, by omega⟩
    rw [lockgatelaw14_ValueKnown.l3, len_ns]
    rw [w64s (n := (i : Int) * 3) (by omega) (by omega), w64s (n := (i : Int) * 3 + op) (by omega) (by omega)]
    obtain ⟨m, hm, hm8⟩ := tm8 ((i : Int) * 3 + op + 1) (by omega) (by omega)
    rw [hm]
    obtain ⟨x, hx⟩ := rd_ns i
    obtain ⟨y, hy⟩ := rd_ns m
    rw [hx, hy, w64s (n := (i : Int) + 1) (by omega) (by omega)]
    refine ift (by omega) (ift (by omega) (ife (by omega) (ift (by omega) (ift (by omega) (bs (LValueNumbers.law k (by omega) _ _ _ _ _) (ift rfl (bs (LValueNumbers.law k (by omega) _ true x 1 5) (ift rfl (bs (LValueOrders.law k (by omega) x op) (ift rfl ?_))))))))))
    exact ih k op (i + 1) (by omega) h1 h2 (by omega) (fun k' hk' => hl k' (by omega))
theorem l2 (d : Nat) : ∀ (k : Nat) (op i j : Int), j + d = 9 → -1 ≤ op → op ≤ 16 → -1 ≤ i → i ≤ 8 → -1 ≤ j → d + 500 ≤ k →
    (∀ k', k ≤ k' + d + 1 → lockgatelaw14_ValueKnown.l1 k' ns op (wrap64 (i + 1)) = some true) → lockgatelaw14_ValueKnown.l2 k ns op i j = some true := by
  induction d with
  | zero =>
    intro k op i j hj h1 h2 h3 h4 h5 hk hl
    obtain ⟨k, rfl⟩ : ∃ m, k = m + 1 := ⟨k - 1, by omega⟩
    rw [lockgatelaw14_ValueKnown.l2, len_ns]
    obtain ⟨m, hm, hm8⟩ := tm8 (op + 1) (by omega) (by omega)
    rw [hm]
    obtain ⟨x, hx⟩ := rd_ns m
    rw [hx]
    refine ife (by omega) (ife (by omega) (ift (by omega) (ift (by omega) (bs (LValueSwaps.law k (by omega) _ _ _ _ _) (ift rfl (bs (LValueBack.law k (by omega) i 5 7 x 9) (ift rfl ?_)))))))
    exact hl k (by omega)
  | succ d ih =>
    intro k op i j hj h1 h2 h3 h4 h5 hk hl
    obtain ⟨k, rfl⟩ : ∃ m, k = m + 1 := ⟨k - 1, by omega⟩
    rw [lockgatelaw14_ValueKnown.l2, len_ns]
    rw [w64s (n := op + i) (by omega) (by omega), w64s (n := op + j) (by omega) (by omega)]
    obtain ⟨m, hm, hm8⟩ := tm8 (op + i + 9) (by omega) (by omega)
    obtain ⟨n, hn, hn8⟩ := tm8 (op + j + 5) (by omega) (by omega)
    rw [hm, hn]
    obtain ⟨x, hx⟩ := rd_ns m
    obtain ⟨y, hy⟩ := rd_ns n
    rw [hx, hy, w64s (n := j + 1) (by omega) (by omega)]
    refine ift (by omega) (ife (by omega) (ift (by omega) (ift (by omega) (ift (by omega) (ift (by omega) ?_)))))
    refine bs (LValueMakes.law k (by omega) _ _ _ _ _ _ _ _) (ift rfl (bs (LValueMakes.law k (by omega) _ _ _ _ _ _ _ _) (ift rfl ?_)))
    refine bs (LValueCompares.law k (by omega) _ _ _ _ _ _ _ _ _) (ift rfl (bs (LValueCompares.law k (by omega) _ _ _ _ _ _ _ _ _) (ift rfl ?_)))
    refine bs (LValueCompares.law k (by omega) op true i x 3 j 0 1 14) (ift rfl (bs (LValueCompares.law k (by omega) op true j 0 1 i x 3 14) (ift rfl ?_)))
    refine bs (LValuePointers.law k (by omega) _ _ _ _ _ _ _ _) (ift rfl (bs (LValuePointers.law k (by omega) _ _ _ _ _ _ _ _) (ift rfl ?_)))
    exact ih k op i (j + 1) (by omega) h1 h2 h3 h4 (by omega) (by omega) (fun k' hk' => hl k' (by omega))
theorem l1 (d : Nat) : ∀ (k : Nat) (op i : Int), i + d = 9 → -1 ≤ op → op ≤ 16 → -1 ≤ i → 20 * d + 520 ≤ k →
    (∀ k', k ≤ k' + 20 * d + 20 → lockgatelaw14_ValueKnown.l0 k' ns (wrap64 (op + 1)) = some true) → lockgatelaw14_ValueKnown.l1 k ns op i = some true := by
  induction d with
  | zero =>
    intro k op i hi h1 h2 h3 hk hl
    obtain ⟨k, rfl⟩ : ∃ m, k = m + 1 := ⟨k - 1, by omega⟩
    rw [lockgatelaw14_ValueKnown.l1]
    exact ife (by omega) (l3 8 k op 0 (by omega) h1 h2 (by omega) (fun k' hk' => hl k' (by omega)))
  | succ d ih =>
    intro k op i hi h1 h2 h3 hk hl
    obtain ⟨k, rfl⟩ : ∃ m, k = m + 1 := ⟨k - 1, by omega⟩
    rw [lockgatelaw14_ValueKnown.l1]
    refine ift (by omega) (l2 10 k op i (-1) (by omega) h1 h2 h3 (by omega) (by omega) (by omega) (fun k' hk' => ?_))
    rw [w64s (n := i + 1) (by omega) (by omega)]
    exact ih k' op (i + 1) (by omega) h1 h2 (by omega) (by omega) (fun k'' hk'' => hl k'' (by omega))
theorem l0 (d : Nat) : ∀ (k : Nat) (op : Int), op + d = 17 → -1 ≤ op → 300 * d + 900 ≤ k → lockgatelaw14_ValueKnown.l0 k ns op = some true := by
  induction d with
  | zero =>
    intro k op hi h1 hk
    obtain ⟨k, rfl⟩ : ∃ m, k = m + 1 := ⟨k - 1, by omega⟩
    rw [lockgatelaw14_ValueKnown.l0]
    exact ife (by omega) (bs (works_f k (by omega)) rfl)
  | succ d ih =>
    intro k op hi h1 hk
    obtain ⟨k, rfl⟩ : ∃ m, k = m + 1 := ⟨k - 1, by omega⟩
    rw [lockgatelaw14_ValueKnown.l0]
    refine ift (by omega) (l1 10 k op (-1) (by omega) h1 (by omega) (by omega) (by omega) (fun k' hk' => ?_))
    rw [w64s (n := op + 1) (by omega) (by omega)]
    exact ih k' (op + 1) (by omega) (by omega) (by omega)
theorem pure : ∃ k, lockgatelaw14_ValueKnown.f k = some true := ⟨10000, l0 18 10000 (-1) (by omega) (by omega) (by omega)⟩
end Go.Proofs.Ytnpbhippkcikoaa.LValueKnown
end
