/- Layer 2: bytes as a number with its sign. -/
import Derived.Test.YticijjonimiooaaC02p
import Derived.Test.YticijjonimiooaaPA8
set_option linter.unusedVariables false
set_option linter.unusedSimpArgs false
set_option linter.unusedSectionVars false
namespace Go.Proofs.Yticijjonimiooaa.C02
open Go.RowKit Go.Proofs.YticijjonimiooaaW.PrintWords Go.Proofs.YticijjonimiooaaW.PrintLast Go.Proofs.YticijjonimiooaaW.PrintMore Go.Proofs.Yticijjonimiooaa.PA Go.Proofs.Yticijjonimiooaa.Bv
def isB (x : Int) : Prop := 0 ≤ x ∧ x < 256
theorem or_add (x y : Int) (n : Nat) (hn : n ≤ 56) (hx : 0 ≤ x ∧ x < 2 ^ n) (hy : isB y) : Go.bits .or .u64 x (shl .u64 (IntKind.u64.wrap y) (n : Int)) = x + y * 2 ^ n := by
  unfold isB at hy
  have p56 : (2 : Nat) ^ n ≤ 2 ^ 56 := Nat.pow_le_pow_right (by omega) hn
  obtain ⟨a, rfl⟩ : ∃ a : Nat, x = (a : Int) := ⟨x.toNat, by omega⟩
  obtain ⟨b, rfl⟩ : ∃ b : Nat, y = (b : Int) := ⟨y.toNat, by omega⟩
  have ha : a < 2 ^ n := by exact_mod_cast hx.2
  have hb : b < 256 := by omega
  have hbn : b * 2 ^ n < 2 ^ 64 := by
    have : b * 2 ^ n ≤ 255 * 2 ^ 56 := Nat.mul_le_mul (by omega) p56
    omega
  have e1 : shl .u64 (IntKind.u64.wrap (b : Int)) (n : Int) = ((b * 2 ^ n : Nat) : Int) := by
    rw [wrap_u64, shl_U]
    unfold U
    rw [BitVec.toNat_shiftLeft, BitVec.toNat_ofInt, Int.toNat_natCast, Nat.shiftLeft_eq]
    have : ((b : Int) % ((2 ^ 64 : Nat) : Int)).toNat = b := by omega
    rw [this, Nat.mod_eq_of_lt hbn]
  rw [e1, b_or]
  unfold U
  rw [BitVec.toNat_or, BitVec.toNat_ofInt, BitVec.toNat_ofInt]
  have h1 : ((a : Int) % ((2 ^ 64 : Nat) : Int)).toNat = a := by
    have : a < 2 ^ 56 := Nat.lt_of_lt_of_le ha p56
    omega
  have h2 : (((b * 2 ^ n : Nat) : Int) % ((2 ^ 64 : Nat) : Int)).toNat = b * 2 ^ n := by
    have : ((b * 2 ^ n : Nat) : Int) % ((2 ^ 64 : Nat) : Int) = ((b * 2 ^ n : Nat) : Int) := Int.emod_eq_of_lt (by omega) (by exact_mod_cast hbn)
    rw [this, Int.toNat_natCast]
  rw [h1, h2, Nat.or_comm, Nat.mul_comm b, ← Nat.two_pow_add_eq_or_of_lt ha]
  push_cast
  rw [Int.mul_comm (b : Int)]; omega
/-- a number of n bits with its sign. -/
def sg16 (x : Int) : Int := if x < 32768 then x else x - 65536
def sg32 (x : Int) : Int := if x < 2147483648 then x else x - 4294967296
theorem top16 (x : Int) (h : 0 ≤ x ∧ x < 65536) : shr .i64 (wrap64 (shl .u64 x 48)) 48 = sg16 x := by
  obtain ⟨a, rfl⟩ : ∃ a : Nat, x = (a : Int) := ⟨x.toNat, by omega⟩
  have ha : a < 65536 := by omega
  have e : ((a : Nat) : Int) = U (BitVec.ofNat 64 a) := by unfold U; rw [BitVec.toNat_ofNat, Nat.mod_eq_of_lt (by omega)]
  rw [e, shl_U, wrap_i64, ofInt_U, shr_S]
  unfold S
  rw [BitVec.toInt_sshiftRight, BitVec.toInt_eq_toNat_cond, BitVec.toNat_shiftLeft, BitVec.toNat_ofNat, Int.shiftRight_eq_div_pow]
  have : (a % 2 ^ 64) <<< ((48 : Int).toNat) % 2 ^ 64 = a * 281474976710656 := by
    rw [Nat.shiftLeft_eq, show (2 : Nat) ^ ((48 : Int).toNat) = 281474976710656 from rfl, Nat.mod_eq_of_lt (a := a) (by omega), Nat.mod_eq_of_lt (by omega)]
  rw [this, show (((2 ^ ((48 : Int).toNat) : Nat)) : Int) = 281474976710656 from rfl]
  have e2 : U (BitVec.ofNat 64 a) = (a : Int) := e.symm
  rw [e2]
  unfold sg16
  by_cases hs : (a : Int) < 32768
  · rw [if_pos hs, if_pos (by omega)]; omega
  · rw [if_neg hs, if_neg (by omega)]; omega
theorem top32 (x : Int) (h : 0 ≤ x ∧ x < 4294967296) : shr .i64 (wrap64 (shl .u64 x 32)) 32 = sg32 x := by
  obtain ⟨a, rfl⟩ : ∃ a : Nat, x = (a : Int) := ⟨x.toNat, by omega⟩
  have ha : a < 4294967296 := by omega
  have e : ((a : Nat) : Int) = U (BitVec.ofNat 64 a) := by unfold U; rw [BitVec.toNat_ofNat, Nat.mod_eq_of_lt (by omega)]
  rw [e, shl_U, wrap_i64, ofInt_U, shr_S]
  unfold S
  rw [BitVec.toInt_sshiftRight, BitVec.toInt_eq_toNat_cond, BitVec.toNat_shiftLeft, BitVec.toNat_ofNat, Int.shiftRight_eq_div_pow]
  have : (a % 2 ^ 64) <<< ((32 : Int).toNat) % 2 ^ 64 = a * 4294967296 := by
    rw [Nat.shiftLeft_eq, show (2 : Nat) ^ ((32 : Int).toNat) = 4294967296 from rfl, Nat.mod_eq_of_lt (a := a) (by omega), Nat.mod_eq_of_lt (by omega)]
  rw [this, show (((2 ^ ((32 : Int).toNat) : Nat)) : Int) = 4294967296 from rfl]
  have e2 : U (BitVec.ofNat 64 a) = (a : Int) := e.symm
  rw [e2]
  unfold sg32
  by_cases hs : (a : Int) < 2147483648
  · rw [if_pos hs, if_pos (by omega)]; omega
  · rw [if_neg hs, if_neg (by omega)]; omega
theorem num2 (k : Nat) (hk : 10 ≤ k) (a b : Int) (ha : isB a) (hb : isB b) : insn_number.f k [a, b] = some (sg16 (a + 256 * b)) := by
  obtain ⟨k, rfl⟩ : ∃ m, k = m + 3 := ⟨k - 3, by omega⟩
  have o1 := or_add 0 a 0 (by omega) (by omega) ha
  have o2 := or_add a b 8 (by omega) (by unfold isB at ha; omega) hb
  unfold isB at ha hb
  unfold insn_number.f
  rw [insn_number.l0, show wrap64 (8 * 0) = 0 by unfold wrap64; omega, show wrap64 ((0 : Int) + 1) = 1 by unfold wrap64; omega, show rd [a, b] 0 = a from rfl]
  refine ift (by simp) (ift (by omega) (ift (by simp) (ift (by omega) ?_)))
  rw [show Go.bits .or .u64 0 (shl .u64 (IntKind.u64.wrap a) 0) = a from o1.trans (by omega)]
  rw [insn_number.l0, show wrap64 (8 * 1) = 8 by unfold wrap64; omega, show wrap64 ((1 : Int) + 1) = 2 by unfold wrap64; omega, show rd [a, b] 1 = b from rfl]
  refine ift (by simp) (ift (by omega) (ift (by simp) (ift (by omega) ?_)))
  rw [show Go.bits .or .u64 a (shl .u64 (IntKind.u64.wrap b) 8) = a + 256 * b from o2.trans (by omega)]
  rw [insn_number.l0]
  have e : wrap64 (64 - wrap64 (8 * (([a, b] : List Int).length : Int))) = 48 := by
    show wrap64 (64 - wrap64 (8 * 2)) = 48
    rw [show wrap64 (8 * 2) = 16 by unfold wrap64; omega]; unfold wrap64; omega
  rw [e]
  refine ife (by simp) (ift (by omega) ?_)
  rw [top16 _ (by omega)]
theorem num4 (k : Nat) (hk : 10 ≤ k) (a b c d : Int) (ha : isB a) (hb : isB b) (hc : isB c) (hd : isB d) : insn_number.f k [a, b, c, d] = some (sg32 (a + 256 * b + 65536 * c + 16777216 * d)) := by
  obtain ⟨k, rfl⟩ : ∃ m, k = m + 5 := ⟨k - 5, by omega⟩
  have o1 := or_add 0 a 0 (by omega) (by omega) ha
  have o2 := or_add a b 8 (by omega) (by unfold isB at ha; omega) hb
  have o3 := or_add (a + 256 * b) c 16 (by omega) (by unfold isB at ha hb; omega) hc
  have o4 := or_add (a + 256 * b + 65536 * c) d 24 (by omega) (by unfold isB at ha hb hc; omega) hd
  unfold isB at ha hb hc hd
  unfold insn_number.f
  rw [insn_number.l0, show wrap64 (8 * 0) = 0 by unfold wrap64; omega, show wrap64 ((0 : Int) + 1) = 1 by unfold wrap64; omega, show rd [a, b, c, d] 0 = a from rfl]
  refine ift (by simp) (ift (by omega) (ift (by simp) (ift (by omega) ?_)))
  rw [show Go.bits .or .u64 0 (shl .u64 (IntKind.u64.wrap a) 0) = a from o1.trans (by omega)]
  rw [insn_number.l0, show wrap64 (8 * 1) = 8 by unfold wrap64; omega, show wrap64 ((1 : Int) + 1) = 2 by unfold wrap64; omega, show rd [a, b, c, d] 1 = b from rfl]
  refine ift (by simp) (ift (by omega) (ift (by simp) (ift (by omega) ?_)))
  rw [show Go.bits .or .u64 a (shl .u64 (IntKind.u64.wrap b) 8) = a + 256 * b from o2.trans (by omega)]
  rw [insn_number.l0, show wrap64 (8 * 2) = 16 by unfold wrap64; omega, show wrap64 ((2 : Int) + 1) = 3 by unfold wrap64; omega, show rd [a, b, c, d] 2 = c from rfl]
  refine ift (by simp) (ift (by omega) (ift (by simp) (ift (by omega) ?_)))
  rw [show Go.bits .or .u64 (a + 256 * b) (shl .u64 (IntKind.u64.wrap c) 16) = a + 256 * b + 65536 * c from o3.trans (by omega)]
  rw [insn_number.l0, show wrap64 (8 * 3) = 24 by unfold wrap64; omega, show wrap64 ((3 : Int) + 1) = 4 by unfold wrap64; omega, show rd [a, b, c, d] 3 = d from rfl]
  refine ift (by simp) (ift (by omega) (ift (by simp) (ift (by omega) ?_)))
  rw [show Go.bits .or .u64 (a + 256 * b + 65536 * c) (shl .u64 (IntKind.u64.wrap d) 24) = a + 256 * b + 65536 * c + 16777216 * d from o4.trans (by omega)]
  rw [insn_number.l0]
  have e : wrap64 (64 - wrap64 (8 * (([a, b, c, d] : List Int).length : Int))) = 32 := by
    show wrap64 (64 - wrap64 (8 * 4)) = 32
    rw [show wrap64 (8 * 4) = 32 by unfold wrap64; omega]; unfold wrap64; omega
  rw [e]
  refine ife (by simp) (ift (by omega) ?_)
  rw [top32 _ (by omega)]
end Go.Proofs.Yticijjonimiooaa.C02
