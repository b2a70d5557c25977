/- Numbers of 32 bits. -/
import Derived.Test.YtnpbhippkcikoaaBit
set_option linter.unusedVariables false
set_option linter.unusedSimpArgs false
set_option linter.unusedSectionVars false
namespace Go.Proofs.Ytnpbhippkcikoaa.Bv
open Go.RowKit Go.Proofs.YtnpbhippkcikoaaW.PrintWords Go.Proofs.YtnpbhippkcikoaaW.PrintLast Go.Proofs.YtnpbhippkcikoaaW.PrintMore
abbrev W32 := BitVec 32
def V (x : W32) : Int := (x.toNat : Int)
/-- the lowest 32 bits; and back. -/
def lo (x : W) : W32 := x.setWidth 32
def up (x : W32) : W := x.setWidth 64
theorem U_up (x : W32) : U (up x) = V x := by unfold U V up; rw [BitVec.toNat_setWidth]; have := x.isLt; omega
theorem up_bit (x : W32) (i : Nat) : (up x).getLsbD i = (decide (i < 64) && x.getLsbD i) := by unfold up; rw [BitVec.getLsbD_setWidth]
theorem lo_bit (x : W) (i : Nat) : (lo x).getLsbD i = (decide (i < 32) && x.getLsbD i) := by unfold lo; rw [BitVec.getLsbD_setWidth]
theorem U_mod32 (x : W) : U x % 4294967296 = V (lo x) := by unfold U V lo; rw [BitVec.toNat_setWidth]; omega
theorem V_ofInt (n : Int) : V (BitVec.ofInt 32 n) = n % 4294967296 := by unfold V; rw [BitVec.toNat_ofInt]; simp; omega
theorem ofInt_V (x : W32) : BitVec.ofInt 32 (V x) = x := by apply BitVec.eq_of_toNat_eq; unfold V; simp
theorem toInt_ofInt32 (n : Int) : (BitVec.ofInt 32 n).toInt = wrap32 n := by
  unfold wrap32; rw [BitVec.toInt_ofInt]; simp [Int.bmod]; omega
theorem wrap32_V (x : W32) : wrap32 (V x) = x.toInt := by rw [← toInt_ofInt32, ofInt_V]
theorem toInt_mod (x : W32) : x.toInt % 4294967296 = V x := by
  unfold V; rw [BitVec.toInt_eq_toNat_cond]; have := x.isLt; split <;> omega
theorem shr_i32 (x : W32) (n : Int) : shr .i32 x.toInt n = (x.sshiftRight n.toNat).toInt := by
  unfold shr
  rw [BitVec.toInt_sshiftRight, Int.shiftRight_eq_div_pow]
  by_cases h : n.toNat ≤ 32
  · rw [show IntKind.i32.bits = 32 from rfl, Nat.min_eq_left h]; norm_cast
  · rw [show IntKind.i32.bits = 32 from rfl, Nat.min_eq_right (by omega)]
    have h1 := BitVec.le_toInt x
    have h2 := BitVec.toInt_lt (x := x)
    simp at h1 h2
    have h3 : (2 ^ 32 : Int) = ((2 ^ 32 : Nat) : Int) := by norm_cast
    have h4 : (2 ^ 32 : Nat) ≤ 2 ^ n.toNat := Nat.pow_le_pow_right (by decide) (by omega)
    rw [h3]
    generalize 2 ^ n.toNat = q at h4 ⊢
    have h5 : (4294967296 : Nat) ≤ q := h4
    show x.toInt / 4294967296 = x.toInt / (q : Int)
    by_cases hn : 0 ≤ x.toInt
    · rw [Int.ediv_eq_zero_of_lt hn (by omega), Int.ediv_eq_zero_of_lt hn (by omega)]
    · have a1 : x.toInt / 4294967296 = -1 := by omega
      have a2 : x.toInt / (q : Int) = -1 := by
        rw [Int.ediv_eq_iff_of_pos (by omega)]; omega
      rw [a1, a2]
/-- the lowest 32 bits shifted down, the highest of them coming in. -/
def sar32 (x : W) (n : Nat) : W := up ((lo x).sshiftRight n)
theorem sar32_f (x : W) (n : Nat) : (shr .i32 (wrap32 (U x % 4294967296)) (n : Int)) % 4294967296 = U (sar32 x n) := by
  rw [U_mod32, wrap32_V, shr_i32, toInt_mod, sar32, U_up]; simp
theorem sar32_acc (v : W) (n : Nat) (hn : n < 32) : acc (fun j => v.getLsbD (min (j + n) (32 - 1))) 32 = sar32 v n := by
  apply acc_eq (by omega)
  · intro i hi
    rw [sar32, up_bit, BitVec.getLsbD_sshiftRight]
    simp only [show i < 64 by omega, show ¬ 32 ≤ i by omega, decide_true, decide_false, Bool.not_false, Bool.true_and]
    by_cases h : n + i < 32
    · rw [if_pos h, Nat.min_eq_left (by omega), Nat.add_comm, lo_bit]; simp [show i + n < 32 by omega]
    · rw [if_neg h, Nat.min_eq_right (by omega), BitVec.msb_eq_getLsbD_last, lo_bit]; simp
  · intro i h1 h2
    rw [sar32, up_bit, BitVec.getLsbD_sshiftRight]
    simp [show 32 ≤ i by omega]
end Go.Proofs.Ytnpbhippkcikoaa.Bv
