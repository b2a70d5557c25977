/- Bv, Bit, Bv32, Tn, Pr, By, in one text. -/
import Derived.Laws.Entries
import Derived.RowKit
import Derived.Test.YtceclodenhgoeaaGreatWMore
section
/- Whole numbers of 64 bits as bit vectors: every word of the printed functions, told of bit vectors. -/
set_option linter.unusedVariables false
set_option linter.unusedSimpArgs false
set_option linter.unusedSectionVars false
namespace Go.Proofs.YtceclodenhgoeaaGreat.Bv
open Go.RowKit Go.Proofs.YtceclodenhgoeaaGreatW.PrintWords Go.Proofs.YtceclodenhgoeaaGreatW.PrintLast Go.Proofs.YtceclodenhgoeaaGreatW.PrintMore
abbrev W := BitVec 64
/-- A number without a sign, and with one, of 64 bits. -/
def U (x : W) : Int := (x.toNat : Int)
def S (x : W) : Int := x.toInt
theorem U_nonneg (x : W) : 0 ≤ U x := by unfold U; omega
theorem U_lt (x : W) : U x < 18446744073709551616 := by unfold U; have := x.isLt; omega
theorem S_ge (x : W) : -9223372036854775808 ≤ S x := by unfold S; have := BitVec.le_toInt x; simp at this; omega
theorem S_lt (x : W) : S x < 9223372036854775808 := by unfold S; have := BitVec.toInt_lt (x := x); simp at this; omega
theorem ofInt_U (x : W) : BitVec.ofInt 64 (U x) = x := by
  apply BitVec.eq_of_toNat_eq; unfold U; simp
theorem ofInt_S (x : W) : BitVec.ofInt 64 (S x) = x := BitVec.ofInt_toInt
theorem U_ofInt (n : Int) : U (BitVec.ofInt 64 n) = n % 18446744073709551616 := by
  unfold U; rw [BitVec.toNat_ofInt]; simp; omega
theorem S_ofInt (n : Int) : S (BitVec.ofInt 64 n) = wrap64 n := by
  unfold S wrap64; rw [BitVec.toInt_ofInt]; simp [Int.bmod]; omega
theorem wrap_u64 (n : Int) : IntKind.u64.wrap n = U (BitVec.ofInt 64 n) := by
  rw [U_ofInt]; simp [IntKind.wrap, IntKind.signed, IntKind.bits]
theorem wrap_i64 (n : Int) : wrap64 n = S (BitVec.ofInt 64 n) := (S_ofInt n).symm
/-! ofInt through sums -/
theorem oi_add (a b : Int) : BitVec.ofInt 64 (a + b) = BitVec.ofInt 64 a + BitVec.ofInt 64 b := BitVec.ofInt_add a b
theorem oi_mul (a b : Int) : BitVec.ofInt 64 (a * b) = BitVec.ofInt 64 a * BitVec.ofInt 64 b := BitVec.ofInt_mul a b
theorem oi_neg (a : Int) : BitVec.ofInt 64 (-a) = - BitVec.ofInt 64 a := BitVec.ofInt_neg
theorem oi_sub (a b : Int) : BitVec.ofInt 64 (a - b) = BitVec.ofInt 64 a - BitVec.ofInt 64 b := by
  rw [Int.sub_eq_add_neg, oi_add, oi_neg, BitVec.sub_eq_add_neg]
theorem oi_nat (n : Nat) : BitVec.ofInt 64 (n : Int) = BitVec.ofNat 64 n := BitVec.ofInt_natCast ..
/-! comparisons -/
theorem U_inj (x y : W) : U x = U y ↔ x = y := by
  constructor
  · intro h; have := congrArg (BitVec.ofInt 64) h; simpa [ofInt_U] using this
  · rintro rfl; rfl
theorem U_le_iff (x y : W) : U x ≤ U y ↔ x ≤ y := by unfold U; rw [BitVec.le_def]; omega
theorem U_beq (x y : W) : (U x == U y) = (x == y) := by
  rw [Bool.eq_iff_iff]; simp [U_inj]
theorem U_zero : U 0 = 0 := rfl
theorem U_eq_zero (x : W) : U x = 0 ↔ x = 0 := by rw [← U_zero, U_inj]
/-! bits -/
theorem bits_wrap (z : W) : IntKind.u64.wrap (z.toNat : Int) = U z := by
  rw [wrap_u64, oi_nat]; simp
theorem b_and (a b : Int) : Go.bits .and .u64 a b = U (BitVec.ofInt 64 a &&& BitVec.ofInt 64 b) := bits_wrap _
theorem b_or (a b : Int) : Go.bits .or .u64 a b = U (BitVec.ofInt 64 a ||| BitVec.ofInt 64 b) := bits_wrap _
theorem b_xor (a b : Int) : Go.bits .xor .u64 a b = U (BitVec.ofInt 64 a ^^^ BitVec.ofInt 64 b) := bits_wrap _
theorem b_andNot (a b : Int) : Go.bits .andNot .u64 a b = U (BitVec.ofInt 64 a &&& ~~~ BitVec.ofInt 64 b) := bits_wrap _
theorem bits_wrap_i (z : W) : IntKind.i64.wrap (z.toNat : Int) = S z := by
  have h : ∀ n : Int, IntKind.i64.wrap n = wrap64 n := fun n => by
    simp [IntKind.wrap, wrap64, IntKind.signed, IntKind.bits]; split <;> omega
  rw [h, wrap_i64, oi_nat]; simp
theorem s_and (a b : Int) : Go.bits .and .i64 a b = S (BitVec.ofInt 64 a &&& BitVec.ofInt 64 b) := bits_wrap_i _
/-! shifts -/
theorem shl_U (x : W) (n : Int) : shl .u64 (U x) n = U (x <<< n.toNat) := by
  unfold shl
  rw [wrap_u64]
  congr 1
  rw [oi_mul, ofInt_U]
  have e : (2 : Int) ^ min n.toNat IntKind.u64.bits = ((2 ^ min n.toNat 64 : Nat) : Int) := by simp [IntKind.bits]
  rw [e, oi_nat]
  apply BitVec.eq_of_toNat_eq
  rw [BitVec.toNat_mul, BitVec.toNat_ofNat, BitVec.toNat_shiftLeft, Nat.shiftLeft_eq]
  by_cases h : n.toNat ≤ 64
  · rw [Nat.min_eq_left h]; simp [Nat.mul_mod]
  · have h2 : n.toNat = 64 + (n.toNat - 64) := by omega
    rw [Nat.min_eq_right (by omega), Nat.mod_self, Nat.mul_zero, Nat.zero_mod, h2, Nat.pow_add, ← Nat.mul_assoc, Nat.mul_right_comm]
    simp
theorem shr_U (x : W) (n : Int) : shr .u64 (U x) n = U (x >>> n.toNat) := by
  unfold shr U
  rw [BitVec.toNat_ushiftRight, Nat.shiftRight_eq_div_pow]
  by_cases h : n.toNat ≤ 64
  · rw [show IntKind.u64.bits = 64 from rfl, Nat.min_eq_left h]; simp
  · rw [show IntKind.u64.bits = 64 from rfl, Nat.min_eq_right (by omega)]
    have hx := x.isLt
    have h1 : x.toNat / 2 ^ n.toNat = 0 := Nat.div_eq_of_lt (Nat.lt_of_lt_of_le hx (Nat.pow_le_pow_right (by decide) (by omega)))
    rw [h1]
    have h2 : (2 : Int) ^ 64 = ((2 ^ 64 : Nat) : Int) := by norm_cast
    rw [h2]
    omega
theorem shr_S (x : W) (n : Int) : shr .i64 (S x) n = S (x.sshiftRight n.toNat) := by
  unfold shr S
  rw [BitVec.toInt_sshiftRight, Int.shiftRight_eq_div_pow]
  by_cases h : n.toNat ≤ 64
  · rw [show IntKind.i64.bits = 64 from rfl, Nat.min_eq_left h]; norm_cast
  · rw [show IntKind.i64.bits = 64 from rfl, Nat.min_eq_right (by omega)]
    have h1 := S_ge x
    have h2 := S_lt x
    unfold S at h1 h2
    have h3 : (2 ^ 64 : Int) = ((2 ^ 64 : Nat) : Int) := by norm_cast
    have h4 : (2 ^ 64 : Nat) ≤ 2 ^ n.toNat := Nat.pow_le_pow_right (by decide) (by omega)
    rw [h3]
    generalize 2 ^ n.toNat = q at h4 ⊢
    have h5 : (18446744073709551616 : Nat) ≤ q := h4
    show x.toInt / 18446744073709551616 = x.toInt / (q : Int)
    by_cases hn : 0 ≤ x.toInt
    · rw [Int.ediv_eq_zero_of_lt hn (by omega), Int.ediv_eq_zero_of_lt hn (by omega)]
    · have a1 : x.toInt / 18446744073709551616 = -1 := by omega
      have a2 : x.toInt / (q : Int) = -1 := by
        rw [Int.ediv_eq_iff_of_pos (by omega)]; omega
      rw [a1, a2]
end Go.Proofs.YtceclodenhgoeaaGreat.Bv
end
section
/- Loops that go through the bits of a number: what comes of them. -/
set_option linter.unusedVariables false
set_option linter.unusedSimpArgs false
set_option linter.unusedSectionVars false
namespace Go.Proofs.YtceclodenhgoeaaGreat.Bv
open Go.RowKit Go.Proofs.YtceclodenhgoeaaGreatW.PrintWords Go.Proofs.YtceclodenhgoeaaGreatW.PrintLast Go.Proofs.YtceclodenhgoeaaGreatW.PrintMore
theorem getLsbD_one_shl (i j : Nat) (hj : j < 64) : ((1 : W) <<< i).getLsbD j = decide (j = i) := by
  rw [BitVec.getLsbD_shiftLeft]
  by_cases h : j = i
  · subst h; simp [hj]
  · by_cases h2 : j < i
    · simp [h2, h]
    · have : j - i ≠ 0 := by omega
      simp [h2, h, this]
/-- a bit as a number. -/
def b1 (b : Bool) : W := if b then 1 else 0
theorem U_b1 (b : Bool) : U (b1 b) = if b then 1 else 0 := by cases b <;> rfl
theorem bit_at (v : W) (j : Nat) : Int.tmod (shr .u64 (U v) (j : Int)) 2 = U (b1 (v.getLsbD j)) := by
  rw [shr_U]
  have h : (v >>> j).toNat % 2 = (b1 (v.getLsbD j)).toNat := by
    have := BitVec.toNat_ushiftRight v j
    rw [this, BitVec.getLsbD, Nat.testBit, b1]
    rw [Nat.and_comm, Nat.and_one_is_mod]
    rcases Nat.mod_two_eq_zero_or_one (v.toNat >>> j) with h | h <;> simp [h]
  have e : Int.tmod (U (v >>> ((j : Int).toNat))) 2 = (U (v >>> j)) % 2 := by
    rw [Int.tmod_eq_emod_of_nonneg (U_nonneg _)]; simp
  rw [e]; unfold U; omega
theorem bit_eq1 (v : W) (j : Nat) : (Int.tmod (shr .u64 (U v) (j : Int)) 2 = 1) ↔ v.getLsbD j = true := by
  rw [bit_at, U_b1]; cases v.getLsbD j <;> simp
theorem shl_bit (b : Bool) (i : Nat) : shl .u64 (U (b1 b)) (i : Int) = U (b1 b <<< i) := by rw [shl_U]; simp
/-- the number whose bits below n are b's. -/
def acc (b : Nat → Bool) : Nat → W
  | 0 => 0
  | n + 1 => acc b n ||| b1 (b n) <<< n
theorem getLsbD_b1_shl (b : Bool) (i j : Nat) (hj : j < 64) : (b1 b <<< i).getLsbD j = (decide (j = i) && b) := by
  cases b
  · simp [b1]
  · have := getLsbD_one_shl i j hj
    simpa [b1] using this
theorem acc_bit (b : Nat → Bool) (n j : Nat) (hj : j < 64) : (acc b n).getLsbD j = (decide (j < n) && b j) := by
  induction n with
  | zero => simp [acc]
  | succ n ih =>
    rw [acc, BitVec.getLsbD_or, ih, getLsbD_b1_shl _ _ _ hj]
    by_cases h : j = n
    · subst h; simp
    · by_cases h2 : j < n
      · simp [h2, show j < n + 1 by omega, h]
      · simp [h2, show ¬ j < n + 1 by omega, h]
theorem acc_self (v : W) : acc (fun i => v.getLsbD i) 64 = v := by
  apply BitVec.eq_of_getLsbD_eq
  intro i hi
  rw [acc_bit _ _ _ hi]; simp [hi]
theorem acc_eq {b : Nat → Bool} {v : W} {n : Nat} (hn : n ≤ 64) (h1 : ∀ i, i < n → v.getLsbD i = b i) (h2 : ∀ i, n ≤ i → i < 64 → v.getLsbD i = false) : acc b n = v := by
  apply BitVec.eq_of_getLsbD_eq
  intro i hi
  rw [acc_bit _ _ _ hi]
  by_cases h : i < n
  · simp [h, h1 i h]
  · simp [h, h2 i (by omega) hi]
theorem u_succ (i : Nat) (h : i < 64) : IntKind.u64.wrap ((i : Int) + 1) = ((i + 1 : Nat) : Int) := by
  rw [wrap_u64, U_ofInt]; omega
theorem and_zero_of {v m : W} (h : ∀ i, i < 64 → (v.getLsbD i && m.getLsbD i) = false) : v &&& m = 0 := by
  apply BitVec.eq_of_getLsbD_eq
  intro i hi
  rw [BitVec.getLsbD_and, h i hi]; simp
/-- one step of a printed function: a call, a test. -/
theorem bs {α β : Type} {x : Option α} {f : α → Option β} {a : α} {r : Option β} (h : x = some a) (h2 : f a = r) : x.bind f = r := by rw [h]; exact h2
end Go.Proofs.YtceclodenhgoeaaGreat.Bv
end
section
/- Numbers of 32 bits. -/
set_option linter.unusedVariables false
set_option linter.unusedSimpArgs false
set_option linter.unusedSectionVars false
namespace Go.Proofs.YtceclodenhgoeaaGreat.Bv
open Go.RowKit Go.Proofs.YtceclodenhgoeaaGreatW.PrintWords Go.Proofs.YtceclodenhgoeaaGreatW.PrintLast Go.Proofs.YtceclodenhgoeaaGreatW.PrintMore
abbrev W32 := BitVec 32
def V (x : W32) : Int := (x.toNat : Int)
/-- the lowest 32 bits; and back. -/
def lo (x : W) : W32 := x.setWidth 32
def up (x : W32) : W := x.setWidth 64
theorem U_up (x : W32) : U (up x) = V x := by unfold U V up; rw [BitVec.toNat_setWidth]; have := x.isLt; omega
theorem up_bit (x : W32) (i : Nat) : (up x).getLsbD i = (decide (i < 64) && x.getLsbD i) := by unfold up; rw [BitVec.getLsbD_setWidth]
theorem lo_bit (x : W) (i : Nat) : (lo x).getLsbD i = (decide (i < 32) && x.getLsbD i) := by unfold lo; rw [BitVec.getLsbD_setWidth]
theorem U_mod32 (x : W) : U x % 4294967296 = V (lo x) := by unfold U V lo; rw [BitVec.toNat_setWidth]; omega
theorem V_ofInt (n : Int) : V (BitVec.ofInt 32 n) = n % 4294967296 := by unfold V; rw [BitVec.toNat_ofInt]; simp; omega
theorem ofInt_V (x : W32) : BitVec.ofInt 32 (V x) = x := by apply BitVec.eq_of_toNat_eq; unfold V; simp
theorem toInt_ofInt32 (n : Int) : (BitVec.ofInt 32 n).toInt = wrap32 n := by
  unfold wrap32; rw [BitVec.toInt_ofInt]; simp [Int.bmod]; omega
theorem wrap32_V (x : W32) : wrap32 (V x) = x.toInt := by rw [← toInt_ofInt32, ofInt_V]
theorem toInt_mod (x : W32) : x.toInt % 4294967296 = V x := by
  unfold V; rw [BitVec.toInt_eq_toNat_cond]; have := x.isLt; split <;> omega
theorem shr_i32 (x : W32) (n : Int) : shr .i32 x.toInt n = (x.sshiftRight n.toNat).toInt := by
  unfold shr
  rw [BitVec.toInt_sshiftRight, Int.shiftRight_eq_div_pow]
  by_cases h : n.toNat ≤ 32
  · rw [show IntKind.i32.bits = 32 from rfl, Nat.min_eq_left h]; norm_cast
  · rw [show IntKind.i32.bits = 32 from rfl, Nat.min_eq_right (by omega)]
    have h1 := BitVec.le_toInt x
    have h2 := BitVec.toInt_lt (x := x)
    simp at h1 h2
    have h3 : (2 ^ 32 : Int) = ((2 ^ 32 : Nat) : Int) := by norm_cast
    have h4 : (2 ^ 32 : Nat) ≤ 2 ^ n.toNat := Nat.pow_le_pow_right (by decide) (by omega)
    rw [h3]
    generalize 2 ^ n.toNat = q at h4 ⊢
    have h5 : (4294967296 : Nat) ≤ q := h4
    show x.toInt / 4294967296 = x.toInt / (q : Int)
    by_cases hn : 0 ≤ x.toInt
    · rw [Int.ediv_eq_zero_of_lt hn (by omega), Int.ediv_eq_zero_of_lt hn (by omega)]
    · have a1 : x.toInt / 4294967296 = -1 := by omega
      have a2 : x.toInt / (q : Int) = -1 := by
        rw [Int.ediv_eq_iff_of_pos (by omega)]; omega
      rw [a1, a2]
/-- the lowest 32 bits shifted down, the highest of them coming in. -/
def sar32 (x : W) (n : Nat) : W := up ((lo x).sshiftRight n)
theorem sar32_f (x : W) (n : Nat) : (shr .i32 (wrap32 (U x % 4294967296)) (n : Int)) % 4294967296 = U (sar32 x n) := by
  rw [U_mod32, wrap32_V, shr_i32, toInt_mod, sar32, U_up]; simp
theorem sar32_acc (v : W) (n : Nat) (hn : n < 32) : acc (fun j => v.getLsbD (min (j + n) (32 - 1))) 32 = sar32 v n := by
  apply acc_eq (by omega)
  · intro i hi
    rw [sar32, up_bit, BitVec.getLsbD_sshiftRight]
    simp only [show i < 64 by omega, show ¬ 32 ≤ i by omega, decide_true, decide_false, Bool.not_false, Bool.true_and]
    by_cases h : n + i < 32
    · rw [if_pos h, Nat.min_eq_left (by omega), Nat.add_comm, lo_bit]; simp [show i + n < 32 by omega]
    · rw [if_neg h, Nat.min_eq_right (by omega), BitVec.msb_eq_getLsbD_last, lo_bit]; simp
  · intro i h1 h2
    rw [sar32, up_bit, BitVec.getLsbD_sshiftRight]
    simp [show 32 ≤ i by omega]
end Go.Proofs.YtceclodenhgoeaaGreat.Bv
end
section
/- Known bits of sums, differences and products: plain bit vectors. -/
set_option linter.unusedVariables false
set_option linter.unusedSimpArgs false
set_option linter.unusedSectionVars false
namespace Go.Proofs.YtceclodenhgoeaaGreat.Tn
open Go.Proofs.YtceclodenhgoeaaGreat.Bv
/-! Bits: known bits of sums and differences. -/
def addMask (va ma vb mb : W) : W := ((va + vb + ma + mb) ^^^ (va + vb)) ||| ma ||| mb
/-! Differences by sums: x - y is the complement of the complement of x, plus y. -/
def subMask (va ma vb mb : W) : W := ((va - vb + ma) ^^^ (va - vb - mb)) ||| ma ||| mb
end Go.Proofs.YtceclodenhgoeaaGreat.Tn
end
section
/- Products by halves and doubles. -/
set_option linter.unusedVariables false
set_option linter.unusedSimpArgs false
set_option linter.unusedSectionVars false
namespace Go.Proofs.YtceclodenhgoeaaGreat.Bv
theorem shl1 (y : W) : y <<< 1 = y + y := by
  apply BitVec.eq_of_toNat_eq
  rw [BitVec.toNat_shiftLeft, BitVec.toNat_add, Nat.shiftLeft_eq]; omega
theorem halves (x : W) : x = b1 (x.getLsbD 0) + ((x >>> 1) + (x >>> 1)) := by
  apply BitVec.eq_of_toNat_eq
  have hx := x.isLt
  have hb : (b1 (x.getLsbD 0)).toNat = x.toNat % 2 := by
    rw [BitVec.getLsbD, Nat.testBit_zero, b1]
    rcases Nat.mod_two_eq_zero_or_one x.toNat with h | h <;> simp [h]
  rw [BitVec.toNat_add, BitVec.toNat_add, hb, BitVec.toNat_ushiftRight, Nat.shiftRight_eq_div_pow]; omega
theorem prod_step (x y : W) : x * y = b1 (x.getLsbD 0) * y + (x >>> 1) * (y <<< 1) := by
  rw [shl1]
  have h := halves x
  generalize b1 (x.getLsbD 0) = b at *
  generalize x >>> 1 = z at *
  subst h
  grind
end Go.Proofs.YtceclodenhgoeaaGreat.Bv
end
section
/- Bytes turned about: plain bit vectors. -/
namespace Go.Proofs.YtceclodenhgoeaaGreat.By
open Go.RowKit Go.Proofs.YtceclodenhgoeaaGreat.Bv
set_option linter.unusedVariables false
set_option linter.unusedSimpArgs false
/-- the byte at place j. -/
def byte (v : W) (j : Nat) : W := v >>> (8 * j) &&& 255
/-- the low 8n bits. -/
def lowB (v : W) (n : Nat) : W := v <<< (64 - 8 * n) >>> (64 - 8 * n)
/-- the low n bytes, the lowest first. -/
def revB (v : W) : Nat → W
  | 0 => 0
  | n + 1 => revB v n <<< 8 ||| byte v n
/-- the number of n bytes, in the order that big says. -/
def swp (n : Nat) (big : Bool) (v : W) : W := if big then revB v n else lowB v n
end Go.Proofs.YtceclodenhgoeaaGreat.By
end
