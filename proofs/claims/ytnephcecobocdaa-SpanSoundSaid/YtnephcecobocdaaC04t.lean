/- Layer 4: the bits that numbers have; the numbers of known bits; the examples. -/
import Derived.Test.YtnephcecobocdaaC04s
import Derived.Test.YtnephcecobocdaaBit
import Derived.Test.YtnephcecobocdaaPA5
import Derived.Test.YtnephcecobocdaaPA9
import Derived.Test.YtnephcecobocdaaPA13
import Derived.Test.YtnephcecobocdaaPA25
import Derived.Test.YtnephcecobocdaaPA26
set_option linter.unusedVariables false
set_option linter.unusedSimpArgs false
set_option linter.unusedSectionVars false
namespace Go.Proofs.Ytnephcecobocdaa.C04
open Go.RowKit Go.Proofs.YtnephcecobocdaaW.PrintWords Go.Proofs.YtnephcecobocdaaW.PrintLast Go.Proofs.YtnephcecobocdaaW.PrintMore Go.Proofs.Ytnephcecobocdaa.PA Go.Proofs.Ytnephcecobocdaa.Bv
theorem shr_eq_iff (a b j : Nat) : a / 2 ^ j = b / 2 ^ j ↔ a ^^^ b < 2 ^ j := by
  rw [← Nat.shiftRight_eq_div_pow, ← Nat.shiftRight_eq_div_pow]
  constructor
  · intro h
    have h1 : (a ^^^ b) >>> j = 0 := by rw [Nat.shiftRight_xor_distrib, h, Nat.xor_self]
    rw [Nat.shiftRight_eq_div_pow] at h1
    exact (Nat.div_eq_zero_iff_lt (Nat.pow_pos (by decide))).mp h1
  · intro h
    have h1 : (a ^^^ b) >>> j = 0 := by rw [Nat.shiftRight_eq_div_pow]; exact Nat.div_eq_of_lt h
    rw [Nat.shiftRight_xor_distrib] at h1
    exact Nat.eq_of_testBit_eq fun i => by
      have := congrArg (fun n => n.testBit i) h1
      simpa [Nat.testBit_xor] using this
theorem len_iff (a b j : Nat) : a / 2 ^ j = b / 2 ^ j ↔ len (a ^^^ b) ≤ j := by
  rw [shr_eq_iff]
  exact ⟨len_le, fun h => Nat.lt_of_lt_of_le (lt_len _) (Nat.pow_le_pow_right (by decide) h)⟩
/-- the bits that a and b have: value, mask. -/
def tot (a b : Nat) : Int × Int := (((a / 2 ^ len (a ^^^ b) * 2 ^ len (a ^^^ b) : Nat) : Int), ((low (a ^^^ b) : Nat) : Int))
theorem andNot_low (a j : Nat) (ha : a < 18446744073709551616) (hj : j ≤ 64) : Go.bits .andNot .u64 (a : Int) ((2 ^ j - 1 : Nat) : Int) = ((a / 2 ^ j * 2 ^ j : Nat) : Int) := by
  have hp := Nat.pow_pos (n := j) (show 0 < 2 by decide)
  have hq : 2 ^ j ≤ 2 ^ 64 := Nat.pow_le_pow_right (by decide) hj
  rw [b_andNot]; unfold U
  apply congrArg
  apply Nat.eq_of_testBit_eq
  intro i
  rw [Nat.testBit_mul_two_pow]
  by_cases hi : i < 64
  · have h1 : ∀ x : W, x.toNat.testBit i = x.getLsbD i := fun _ => rfl
    have hl : (BitVec.ofInt 64 (a : Int)).getLsbD i = a.testBit i := by rw [← h1, oi_toNat ha]
    have hm : (BitVec.ofInt 64 ((2 ^ j - 1 : Nat) : Int)).getLsbD i = decide (i < j) := by rw [← h1, oi_toNat (by omega), Nat.testBit_two_pow_sub_one]
    rw [h1, BitVec.getLsbD_and, BitVec.getLsbD_not, hl, hm, decide_eq_true hi]
    by_cases h : j ≤ i
    · rw [decide_eq_false (by omega), decide_eq_true h, Nat.testBit_div_two_pow, show i - j + j = i by omega]; simp
    · rw [decide_eq_true (by omega), decide_eq_false h]; simp
  · have e1 : ∀ x : W, x.toNat.testBit i = false := fun x => BitVec.getLsbD_of_ge x i (by omega)
    have e2 : (a / 2 ^ j * 2 ^ j).testBit i = false := by
      apply Nat.testBit_lt_two_pow
      have h3 := Nat.div_mul_le_self a (2 ^ j)
      have h4 : 2 ^ 64 ≤ 2 ^ i := Nat.pow_le_pow_right (by decide) (by omega)
      omega
    rw [e1, ← Nat.testBit_mul_two_pow, e2]
section
variable {a b : Nat} (ha : a < 18446744073709551616) (hb : b < 18446744073709551616)
include ha hb
theorem tot_f (k : Nat) : span_ToT.f (k + 1) (a : Int) (b : Int) = some (tot a b) := by
  unfold span_ToT.f tot
  rw [xor_nat ha hb, below_f k _ (xor_lt ha hb), Option.bind_some]; unfold low
  rw [andNot_low a _ ha (len_le64 (xor_lt ha hb))]
theorem rtot_l (d : Nat) : ∀ (k j : Nat), j + d = len (a ^^^ b) → d < k → lockgateref04_ToT.l0 k ((2 ^ j - 1 : Nat) : Int) (a : Int) (b : Int) = some (tot a b) := by
  have l64 := len_le64 (xor_lt ha hb)
  have step : ∀ (x j : Nat), x < 18446744073709551616 → j < 64 → IntKind.u64.wrap ((x : Int) - Int.tmod (x : Int) (IntKind.u64.wrap (((2 ^ j - 1 : Nat) : Int) + 1))) = ((x / 2 ^ j * 2 ^ j : Nat) : Int) := by
    intro x j hx hj
    have hp := Nat.pow_pos (n := j) (show 0 < 2 by decide)
    have hq : 2 ^ j ≤ 2 ^ 63 := Nat.pow_le_pow_right (by decide) (by omega)
    rw [w64, w64, show (((2 ^ j - 1 : Nat) : Int) + 1) % 18446744073709551616 = ((2 ^ j : Nat) : Int) by omega, Int.tmod_eq_emod_of_nonneg (by omega)]
    have h1 := Nat.div_add_mod x (2 ^ j)
    have h2 := Nat.mul_comm (2 ^ j) (x / 2 ^ j)
    have h3 : (x : Int) % ((2 ^ j : Nat) : Int) = ((x % 2 ^ j : Nat) : Int) := by norm_cast
    rw [h3]
    omega
  induction d with
  | zero =>
    intro k j hj hk
    obtain ⟨k, rfl⟩ : ∃ m, k = m + 1 := ⟨k - 1, by omega⟩
    have ej : j = len (a ^^^ b) := by omega
    have hp := Nat.pow_pos (n := j) (show 0 < 2 by decide)
    rw [lockgateref04_ToT.l0]
    refine bs ruall ?_
    by_cases h64 : j = 64
    · have p64 : 2 ^ j = 18446744073709551616 := by rw [h64]
      have hv : a / 2 ^ len (a ^^^ b) * 2 ^ len (a ^^^ b) = 0 := by rw [← ej, p64, Nat.div_eq_of_lt ha, Nat.zero_mul]
      unfold tot low; rw [hv, ← ej]
      have q : ((2 ^ j - 1 : Nat) : Int) = 18446744073709551615 := by omega
      exact ife (by omega) (bs ruall (ift q (by rw [q]; rfl)))
    · have hq : 2 ^ j ≤ 2 ^ 63 := Nat.pow_le_pow_right (by decide) (by omega)
      have e : a / 2 ^ j = b / 2 ^ j := (len_iff a b j).mpr (by omega)
      refine ift (by omega) (ife (by rw [w64]; omega) (ift (by rw [step a j ha (by omega), step b j hb (by omega), e]) (bs ruall (ife (by omega) ?_))))
      rw [step a j ha (by omega)]
      unfold tot low; rw [← ej]
  | succ d ih =>
    intro k j hj hk
    obtain ⟨k, rfl⟩ : ∃ m, k = m + 1 := ⟨k - 1, by omega⟩
    have hp := Nat.pow_pos (n := j) (show 0 < 2 by decide)
    have hq : 2 ^ j ≤ 2 ^ 63 := Nat.pow_le_pow_right (by decide) (by omega)
    have e : ¬ a / 2 ^ j = b / 2 ^ j := fun h => absurd ((len_iff a b j).mp h) (by omega)
    rw [lockgateref04_ToT.l0]
    refine bs ruall (ift (by omega) (ife (by rw [w64]; omega) (ife ?_ ?_)))
    rotate_left
    · rw [w64, w64, show (2 * ((2 ^ j - 1 : Nat) : Int) % 18446744073709551616 + 1) % 18446744073709551616 = ((2 ^ (j + 1) - 1 : Nat) : Int) by rw [Nat.pow_succ]; omega]
      exact ih k (j + 1) (by omega) (by omega)
    · rw [step a j ha (by omega), step b j hb (by omega)]
      intro h
      exact e (Nat.eq_of_mul_eq_mul_right hp (Int.ofNat.inj h))
theorem rtot_f (k : Nat) (hk : 65 ≤ k) : lockgateref04_ToT.f k (a : Int) (b : Int) = some (tot a b) :=
  rtot_l ha hb (len (a ^^^ b)) k 0 (by omega) (by have := len_le64 (xor_lt ha hb); omega)
end
end Go.Proofs.Ytnephcecobocdaa.C04
