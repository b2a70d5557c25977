/- Wd, Bv, Bit, By, Tn, Bv32, in one text. -/
import Derived.Laws.Entries
import Derived.RowKit
section
/- A few words for whole numbers, for texts that stand on no printed words. -/
set_option linter.unusedVariables false
set_option linter.unusedSimpArgs false
set_option linter.unusedSectionVars false
namespace Go.Proofs.Ytnephcecobocdaa.PA
open Go.RowKit
def shl (k : IntKind) (x y : Int) : Int := k.wrap (x * 2 ^ min y.toNat k.bits)
def shr (k : IntKind) (x y : Int) : Int := x / 2 ^ min y.toNat k.bits
end Go.Proofs.Ytnephcecobocdaa.PA
end
section
/- Whole numbers of 64 bits as bit vectors: every word of the printed functions, told of bit vectors. -/
set_option linter.unusedVariables false
set_option linter.unusedSimpArgs false
set_option linter.unusedSectionVars false
namespace Go.Proofs.Ytnephcecobocdaa.Bv
open Go.RowKit Go.Proofs.Ytnephcecobocdaa.PA
abbrev W := BitVec 64
/-- A number without a sign, and with one, of 64 bits. -/
def U (x : W) : Int := (x.toNat : Int)
def S (x : W) : Int := x.toInt
theorem U_nonneg (x : W) : 0 ≤ U x := by unfold U; omega
theorem U_lt (x : W) : U x < 18446744073709551616 := by unfold U; have := x.isLt; omega
theorem ofInt_U (x : W) : BitVec.ofInt 64 (U x) = x := by
  apply BitVec.eq_of_toNat_eq; unfold U; simp
theorem U_ofInt (n : Int) : U (BitVec.ofInt 64 n) = n % 18446744073709551616 := by
  unfold U; rw [BitVec.toNat_ofInt]; simp; omega
theorem S_ofInt (n : Int) : S (BitVec.ofInt 64 n) = wrap64 n := by
  unfold S wrap64; rw [BitVec.toInt_ofInt]; simp [Int.bmod]; omega
theorem wrap_u64 (n : Int) : IntKind.u64.wrap n = U (BitVec.ofInt 64 n) := by
  rw [U_ofInt]; simp [IntKind.wrap, IntKind.signed, IntKind.bits]
theorem wrap_i64 (n : Int) : wrap64 n = S (BitVec.ofInt 64 n) := (S_ofInt n).symm
/-! ofInt through sums -/
theorem oi_add (a b : Int) : BitVec.ofInt 64 (a + b) = BitVec.ofInt 64 a + BitVec.ofInt 64 b := BitVec.ofInt_add a b
theorem oi_neg (a : Int) : BitVec.ofInt 64 (-a) = - BitVec.ofInt 64 a := BitVec.ofInt_neg
theorem oi_sub (a b : Int) : BitVec.ofInt 64 (a - b) = BitVec.ofInt 64 a - BitVec.ofInt 64 b := by
  rw [Int.sub_eq_add_neg, oi_add, oi_neg, BitVec.sub_eq_add_neg]
theorem oi_nat (n : Nat) : BitVec.ofInt 64 (n : Int) = BitVec.ofNat 64 n := BitVec.ofInt_natCast ..
/-! comparisons -/
theorem U_inj (x y : W) : U x = U y ↔ x = y := by
  constructor
  · intro h; have := congrArg (BitVec.ofInt 64) h; simpa [ofInt_U] using this
  · rintro rfl; rfl
theorem U_lt_iff (x y : W) : U x < U y ↔ x < y := by unfold U; rw [BitVec.lt_def]; omega
/-! bits -/
theorem bits_wrap (z : W) : IntKind.u64.wrap (z.toNat : Int) = U z := by
  rw [wrap_u64, oi_nat]; simp
theorem b_and (a b : Int) : Go.bits .and .u64 a b = U (BitVec.ofInt 64 a &&& BitVec.ofInt 64 b) := bits_wrap _
theorem b_or (a b : Int) : Go.bits .or .u64 a b = U (BitVec.ofInt 64 a ||| BitVec.ofInt 64 b) := bits_wrap _
theorem b_xor (a b : Int) : Go.bits .xor .u64 a b = U (BitVec.ofInt 64 a ^^^ BitVec.ofInt 64 b) := bits_wrap _
theorem b_andNot (a b : Int) : Go.bits .andNot .u64 a b = U (BitVec.ofInt 64 a &&& ~~~ BitVec.ofInt 64 b) := bits_wrap _
theorem bits_wrap_i (z : W) : IntKind.i64.wrap (z.toNat : Int) = S z := by
  have h : ∀ n : Int, IntKind.i64.wrap n = wrap64 n := fun n => by
    simp [IntKind.wrap, wrap64, IntKind.signed, IntKind.bits]; split <;> omega
  rw [h, wrap_i64, oi_nat]; simp
theorem s_and (a b : Int) : Go.bits .and .i64 a b = S (BitVec.ofInt 64 a &&& BitVec.ofInt 64 b) := bits_wrap_i _
theorem s_or (a b : Int) : Go.bits .or .i64 a b = S (BitVec.ofInt 64 a ||| BitVec.ofInt 64 b) := bits_wrap_i _
/-! shifts -/
end Go.Proofs.Ytnephcecobocdaa.Bv
end
section
/- Loops that go through the bits of a number: what comes of them. -/
set_option linter.unusedVariables false
set_option linter.unusedSimpArgs false
set_option linter.unusedSectionVars false
namespace Go.Proofs.Ytnephcecobocdaa.Bv
open Go.RowKit Go.Proofs.Ytnephcecobocdaa.PA
theorem getLsbD_one_shl (i j : Nat) (hj : j < 64) : ((1 : W) <<< i).getLsbD j = decide (j = i) := by
  rw [BitVec.getLsbD_shiftLeft]
  by_cases h : j = i
  · subst h; simp [hj]
  · by_cases h2 : j < i
    · simp [h2, h]
    · have : j - i ≠ 0 := by omega
      simp [h2, h, this]
/-- a bit as a number. -/
def b1 (b : Bool) : W := if b then 1 else 0
/-- the number whose bits below n are b's. -/
def acc (b : Nat → Bool) : Nat → W
  | 0 => 0
  | n + 1 => acc b n ||| b1 (b n) <<< n
end Go.Proofs.Ytnephcecobocdaa.Bv
end
section
/- Bytes turned about: plain bit vectors. -/
namespace Go.Proofs.Ytnephcecobocdaa.By
open Go.RowKit Go.Proofs.Ytnephcecobocdaa.Bv
set_option linter.unusedVariables false
set_option linter.unusedSimpArgs false
end Go.Proofs.Ytnephcecobocdaa.By
end
section
/- Known bits of sums, differences and products: plain bit vectors. -/
set_option linter.unusedVariables false
set_option linter.unusedSimpArgs false
set_option linter.unusedSectionVars false
namespace Go.Proofs.Ytnephcecobocdaa.Tn
open Go.Proofs.Ytnephcecobocdaa.Bv
/-! Bits: known bits of sums and differences. -/
/-! Differences by sums: x - y is the complement of the complement of x, plus y. -/
end Go.Proofs.Ytnephcecobocdaa.Tn
end
section
/- Numbers of 32 bits. -/
set_option linter.unusedVariables false
set_option linter.unusedSimpArgs false
set_option linter.unusedSectionVars false
namespace Go.Proofs.Ytnephcecobocdaa.Bv
open Go.RowKit Go.Proofs.Ytnephcecobocdaa.PA
abbrev W32 := BitVec 32
def V (x : W32) : Int := (x.toNat : Int)
/-- the lowest 32 bits; and back. -/
def lo (x : W) : W32 := x.setWidth 32
def up (x : W32) : W := x.setWidth 64
theorem up_bit (x : W32) (i : Nat) : (up x).getLsbD i = (decide (i < 64) && x.getLsbD i) := by unfold up; rw [BitVec.getLsbD_setWidth]
end Go.Proofs.Ytnephcecobocdaa.Bv
end
