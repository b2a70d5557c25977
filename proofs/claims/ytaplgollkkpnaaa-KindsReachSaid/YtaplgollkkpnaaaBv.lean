/- Whole numbers of 64 bits as bit vectors: every word of the printed functions, told of bit vectors. -/
import Derived.Laws.Entries
import Derived.RowKit
import Derived.Test.YtaplgollkkpnaaaWd
set_option linter.unusedVariables false
set_option linter.unusedSimpArgs false
set_option linter.unusedSectionVars false
namespace Go.Proofs.Ytaplgollkkpnaaa.Bv
open Go.RowKit Go.Proofs.Ytaplgollkkpnaaa.PA
abbrev W := BitVec 64
/-- A number without a sign, and with one, of 64 bits. -/
def U (x : W) : Int := (x.toNat : Int)
def S (x : W) : Int := x.toInt
theorem U_nonneg (x : W) : 0 ≤ U x := by unfold U; omega
theorem U_lt (x : W) : U x < 18446744073709551616 := by unfold U; have := x.isLt; omega
theorem S_ge (x : W) : -9223372036854775808 ≤ S x := by unfold S; have := BitVec.le_toInt x; simp at this; omega
theorem S_lt (x : W) : S x < 9223372036854775808 := by unfold S; have := BitVec.toInt_lt (x := x); simp at this; omega
theorem ofInt_U (x : W) : BitVec.ofInt 64 (U x) = x := by
  apply BitVec.eq_of_toNat_eq; unfold U; simp
theorem ofInt_S (x : W) : BitVec.ofInt 64 (S x) = x := BitVec.ofInt_toInt
theorem U_ofInt (n : Int) : U (BitVec.ofInt 64 n) = n % 18446744073709551616 := by
  unfold U; rw [BitVec.toNat_ofInt]; simp; omega
theorem S_ofInt (n : Int) : S (BitVec.ofInt 64 n) = wrap64 n := by
  unfold S wrap64; rw [BitVec.toInt_ofInt]; simp [Int.bmod]; omega
theorem wrap_u64 (n : Int) : IntKind.u64.wrap n = U (BitVec.ofInt 64 n) := by
  rw [U_ofInt]; simp [IntKind.wrap, IntKind.signed, IntKind.bits]
theorem wrap_i64 (n : Int) : wrap64 n = S (BitVec.ofInt 64 n) := (S_ofInt n).symm
theorem exU {a : Int} (h : (Lit.int .u64 a).wf = true) : ∃ x, a = U x := by
  refine ⟨BitVec.ofInt 64 a, ?_⟩
  rw [U_ofInt]
  simp [Lit.wf, IntKind.min, IntKind.max, IntKind.signed, IntKind.bits] at h
  omega
theorem exS {a : Int} (h : (Lit.int .i64 a).wf = true) : ∃ x, a = S x := by
  refine ⟨BitVec.ofInt 64 a, ?_⟩
  rw [S_ofInt]; unfold wrap64
  simp [Lit.wf, IntKind.min, IntKind.max, IntKind.signed, IntKind.bits] at h
  omega
/-! ofInt through sums -/
theorem oi_add (a b : Int) : BitVec.ofInt 64 (a + b) = BitVec.ofInt 64 a + BitVec.ofInt 64 b := BitVec.ofInt_add a b
theorem oi_mul (a b : Int) : BitVec.ofInt 64 (a * b) = BitVec.ofInt 64 a * BitVec.ofInt 64 b := BitVec.ofInt_mul a b
theorem oi_neg (a : Int) : BitVec.ofInt 64 (-a) = - BitVec.ofInt 64 a := BitVec.ofInt_neg
theorem oi_sub (a b : Int) : BitVec.ofInt 64 (a - b) = BitVec.ofInt 64 a - BitVec.ofInt 64 b := by
  rw [Int.sub_eq_add_neg, oi_add, oi_neg, BitVec.sub_eq_add_neg]
theorem oi_nat (n : Nat) : BitVec.ofInt 64 (n : Int) = BitVec.ofNat 64 n := BitVec.ofInt_natCast ..
theorem U_nat {n : Nat} (h : n < 18446744073709551616) : U (BitVec.ofNat 64 n) = n := by unfold U; rw [BitVec.toNat_ofNat]; simp; omega
/-! comparisons -/
theorem U_inj (x y : W) : U x = U y ↔ x = y := by
  constructor
  · intro h; have := congrArg (BitVec.ofInt 64) h; simpa [ofInt_U] using this
  · rintro rfl; rfl
theorem S_inj (x y : W) : S x = S y ↔ x = y := BitVec.toInt_inj
theorem U_lt_iff (x y : W) : U x < U y ↔ x < y := by unfold U; rw [BitVec.lt_def]; omega
theorem U_le_iff (x y : W) : U x ≤ U y ↔ x ≤ y := by unfold U; rw [BitVec.le_def]; omega
theorem S_lt_iff (x y : W) : S x < S y ↔ x.slt y = true := by unfold S; rw [BitVec.slt_iff_toInt_lt]
theorem S_le_iff (x y : W) : S x ≤ S y ↔ x.sle y = true := by unfold S; rw [BitVec.sle_iff_toInt_le]
theorem U_beq (x y : W) : (U x == U y) = (x == y) := by
  rw [Bool.eq_iff_iff]; simp [U_inj]
theorem S_beq (x y : W) : (S x == S y) = (x == y) := by
  rw [Bool.eq_iff_iff]; simp [S_inj]
theorem U_zero : U 0 = 0 := rfl
theorem U_one : U 1 = 1 := rfl
theorem U_eq_zero (x : W) : U x = 0 ↔ x = 0 := by rw [← U_zero, U_inj]
theorem U_eq_lit (x : W) (n : Nat) (h : n < 18446744073709551616) : U x = (n : Int) ↔ x = BitVec.ofNat 64 n := by rw [← U_nat h, U_inj]
/-! bits -/
theorem bits_wrap (z : W) : IntKind.u64.wrap (z.toNat : Int) = U z := by
  rw [wrap_u64, oi_nat]; simp
theorem b_and (a b : Int) : Go.bits .and .u64 a b = U (BitVec.ofInt 64 a &&& BitVec.ofInt 64 b) := bits_wrap _
theorem b_or (a b : Int) : Go.bits .or .u64 a b = U (BitVec.ofInt 64 a ||| BitVec.ofInt 64 b) := bits_wrap _
theorem b_xor (a b : Int) : Go.bits .xor .u64 a b = U (BitVec.ofInt 64 a ^^^ BitVec.ofInt 64 b) := bits_wrap _
theorem b_andNot (a b : Int) : Go.bits .andNot .u64 a b = U (BitVec.ofInt 64 a &&& ~~~ BitVec.ofInt 64 b) := bits_wrap _
theorem bits_wrap_i (z : W) : IntKind.i64.wrap (z.toNat : Int) = S z := by
  have h : ∀ n : Int, IntKind.i64.wrap n = wrap64 n := fun n => by
    simp [IntKind.wrap, wrap64, IntKind.signed, IntKind.bits]; split <;> omega
  rw [h, wrap_i64, oi_nat]; simp
theorem s_and (a b : Int) : Go.bits .and .i64 a b = S (BitVec.ofInt 64 a &&& BitVec.ofInt 64 b) := bits_wrap_i _
theorem s_or (a b : Int) : Go.bits .or .i64 a b = S (BitVec.ofInt 64 a ||| BitVec.ofInt 64 b) := bits_wrap_i _
theorem s_xor (a b : Int) : Go.bits .xor .i64 a b = S (BitVec.ofInt 64 a ^^^ BitVec.ofInt 64 b) := bits_wrap_i _
theorem s_andNot (a b : Int) : Go.bits .andNot .i64 a b = S (BitVec.ofInt 64 a &&& ~~~ BitVec.ofInt 64 b) := bits_wrap_i _
/-! shifts -/
theorem shl_U (x : W) (n : Int) : shl .u64 (U x) n = U (x <<< n.toNat) := by
  unfold shl
  rw [wrap_u64]
  congr 1
  rw [oi_mul, ofInt_U]
  have e : (2 : Int) ^ min n.toNat IntKind.u64.bits = ((2 ^ min n.toNat 64 : Nat) : Int) := by simp [IntKind.bits]
  rw [e, oi_nat]
  apply BitVec.eq_of_toNat_eq
  rw [BitVec.toNat_mul, BitVec.toNat_ofNat, BitVec.toNat_shiftLeft, Nat.shiftLeft_eq]
  by_cases h : n.toNat ≤ 64
  · rw [Nat.min_eq_left h]; simp [Nat.mul_mod]
  · have h2 : n.toNat = 64 + (n.toNat - 64) := by omega
    rw [Nat.min_eq_right (by omega), Nat.mod_self, Nat.mul_zero, Nat.zero_mod, h2, Nat.pow_add, ← Nat.mul_assoc, Nat.mul_right_comm]
    simp
theorem shr_U (x : W) (n : Int) : shr .u64 (U x) n = U (x >>> n.toNat) := by
  unfold shr U
  rw [BitVec.toNat_ushiftRight, Nat.shiftRight_eq_div_pow]
  by_cases h : n.toNat ≤ 64
  · rw [show IntKind.u64.bits = 64 from rfl, Nat.min_eq_left h]; simp
  · rw [show IntKind.u64.bits = 64 from rfl, Nat.min_eq_right (by omega)]
    have hx := x.isLt
    have h1 : x.toNat / 2 ^ n.toNat = 0 := Nat.div_eq_of_lt (Nat.lt_of_lt_of_le hx (Nat.pow_le_pow_right (by decide) (by omega)))
    rw [h1]
    have h2 : (2 : Int) ^ 64 = ((2 ^ 64 : Nat) : Int) := by norm_cast
    rw [h2]
    omega
theorem shr_S (x : W) (n : Int) : shr .i64 (S x) n = S (x.sshiftRight n.toNat) := by
  unfold shr S
  rw [BitVec.toInt_sshiftRight, Int.shiftRight_eq_div_pow]
  by_cases h : n.toNat ≤ 64
  · rw [show IntKind.i64.bits = 64 from rfl, Nat.min_eq_left h]; norm_cast
  · rw [show IntKind.i64.bits = 64 from rfl, Nat.min_eq_right (by omega)]
    have h1 := S_ge x
    have h2 := S_lt x
    unfold S at h1 h2
    have h3 : (2 ^ 64 : Int) = ((2 ^ 64 : Nat) : Int) := by norm_cast
    have h4 : (2 ^ 64 : Nat) ≤ 2 ^ n.toNat := Nat.pow_le_pow_right (by decide) (by omega)
    rw [h3]
    generalize 2 ^ n.toNat = q at h4 ⊢
    have h5 : (18446744073709551616 : Nat) ≤ q := h4
    show x.toInt / 18446744073709551616 = x.toInt / (q : Int)
    by_cases hn : 0 ≤ x.toInt
    · rw [Int.ediv_eq_zero_of_lt hn (by omega), Int.ediv_eq_zero_of_lt hn (by omega)]
    · have a1 : x.toInt / 18446744073709551616 = -1 := by omega
      have a2 : x.toInt / (q : Int) = -1 := by
        rw [Int.ediv_eq_iff_of_pos (by omega)]; omega
      rw [a1, a2]
theorem wrap_i64' (n : Int) : IntKind.i64.wrap n = S (BitVec.ofInt 64 n) := by
  have h : IntKind.i64.wrap n = wrap64 n := by
    simp [IntKind.wrap, wrap64, IntKind.signed, IntKind.bits]; split <;> omega
  rw [h, wrap_i64]
theorem shl_S (x : W) (n : Int) : shl .i64 (S x) n = S (x <<< n.toNat) := by
  unfold shl
  rw [wrap_i64']
  congr 1
  rw [oi_mul, ofInt_S]
  have e : (2 : Int) ^ min n.toNat IntKind.i64.bits = ((2 ^ min n.toNat 64 : Nat) : Int) := by simp [IntKind.bits]
  rw [e, oi_nat]
  apply BitVec.eq_of_toNat_eq
  rw [BitVec.toNat_mul, BitVec.toNat_ofNat, BitVec.toNat_shiftLeft, Nat.shiftLeft_eq]
  by_cases h : n.toNat ≤ 64
  · rw [Nat.min_eq_left h]; simp [Nat.mul_mod]
  · have h2 : n.toNat = 64 + (n.toNat - 64) := by omega
    rw [Nat.min_eq_right (by omega), Nat.mod_self, Nat.mul_zero, Nat.zero_mod, h2, Nat.pow_add, ← Nat.mul_assoc, Nat.mul_right_comm]
    simp
end Go.Proofs.Ytaplgollkkpnaaa.Bv
