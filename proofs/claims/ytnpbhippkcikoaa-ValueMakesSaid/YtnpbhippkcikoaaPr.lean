/- Products by halves and doubles. -/
import Derived.Test.YtnpbhippkcikoaaBit
set_option linter.unusedVariables false
set_option linter.unusedSimpArgs false
set_option linter.unusedSectionVars false
namespace Go.Proofs.Ytnpbhippkcikoaa.Bv
theorem shl1 (y : W) : y <<< 1 = y + y := by
  apply BitVec.eq_of_toNat_eq
  rw [BitVec.toNat_shiftLeft, BitVec.toNat_add, Nat.shiftLeft_eq]; omega
theorem halves (x : W) : x = b1 (x.getLsbD 0) + ((x >>> 1) + (x >>> 1)) := by
  apply BitVec.eq_of_toNat_eq
  have hx := x.isLt
  have hb : (b1 (x.getLsbD 0)).toNat = x.toNat % 2 := by
    rw [BitVec.getLsbD, Nat.testBit_zero, b1]
    rcases Nat.mod_two_eq_zero_or_one x.toNat with h | h <;> simp [h]
  rw [BitVec.toNat_add, BitVec.toNat_add, hb, BitVec.toNat_ushiftRight, Nat.shiftRight_eq_div_pow]; omega
theorem prod_step (x y : W) : x * y = b1 (x.getLsbD 0) * y + (x >>> 1) * (y <<< 1) := by
  rw [shl1]
  have h := halves x
  generalize b1 (x.getLsbD 0) = b at *
  generalize x >>> 1 = z at *
  subst h
  grind
end Go.Proofs.Ytnpbhippkcikoaa.Bv
