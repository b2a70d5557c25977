/- Layer 1's reference, over bit vectors: sums, products, quotients bit by bit. -/
import Derived.Test.YtnpbhippkcikoaaC01
import Derived.Test.YtnpbhippkcikoaaPr
import Derived.Test.YtnpbhippkcikoaaPA11
import Derived.Test.YtnpbhippkcikoaaPA12
import Derived.Test.YtnpbhippkcikoaaPA13
set_option linter.unusedVariables false
set_option linter.unusedSimpArgs false
set_option linter.unusedSectionVars false
namespace Go.Proofs.Ytnpbhippkcikoaa.C01
open Go.RowKit Go.Proofs.YtnpbhippkcikoaaW.PrintWords Go.Proofs.YtnpbhippkcikoaaW.PrintLast Go.Proofs.YtnpbhippkcikoaaW.PrintMore Go.Proofs.Ytnpbhippkcikoaa.PA Go.Proofs.Ytnpbhippkcikoaa.Bv
theorem w_nat (i : Nat) (h : i < 18446744073709551616) : IntKind.u64.wrap (i : Int) = (i : Int) := by rw [wrap_u64, U_ofInt]; omega
theorem i_succ (i : Nat) (h : i < 100) : wrap64 ((i : Int) + 1) = ((i + 1 : Nat) : Int) := by unfold wrap64; omega
theorem bit_f (a : W) (i : Nat) (h : i < 64) : lockgateref01_bit.f (U a) (i : Int) = some (U (b1 (a.getLsbD i))) := by
  rw [lockgateref01_bit.f, w_nat i (by omega), if_pos (by omega), bit_at]
theorem ci_succ (i : Nat) (x y : W) (c : Bool) : BitVec.carry (i + 1) x y c = (x.getLsbD i && y.getLsbD i || (x.getLsbD i || y.getLsbD i) && BitVec.carry i x y c) := by
  rw [BitVec.carry_succ, Bool.atLeastTwo]
  cases x.getLsbD i <;> cases y.getLsbD i <;> cases BitVec.carry i x y c <;> rfl
/-- a sum with a carry. -/
def sum (a b : W) (c : Bool) : W := a + b + b1 c
theorem sum_bit (a b : W) (c : Bool) (i : Nat) (h : i < 64) : (sum a b c).getLsbD i = (a.getLsbD i ^^ (b.getLsbD i ^^ BitVec.carry i a b c)) := by
  have e : sum a b c = a + b + (BitVec.ofBool c).setWidth 64 := by unfold sum b1; cases c <;> rfl
  rw [e, BitVec.getLsbD_add_add_bool h]
theorem three (x y z : Bool) : IntKind.u64.wrap (IntKind.u64.wrap (U (b1 x) + U (b1 y)) + U (b1 z)) = U (b1 x + b1 y + b1 z) := by
  simp only [wrap_u64, oi_add, ofInt_U]
theorem three_mod (x y z : Bool) : Int.tmod (U (b1 x + b1 y + b1 z)) 2 = U (b1 (x ^^ (y ^^ z))) := by cases x <;> cases y <;> cases z <;> decide
theorem three_div (x y z : Bool) : IntKind.u64.wrap (Int.tdiv (U (b1 x + b1 y + b1 z)) 2) = U (b1 (x && y || (x || y) && z)) := by cases x <;> cases y <;> cases z <;> decide
theorem add_l (a b : W) (c : Bool) (d : Nat) : ∀ (k i : Nat), i + d = 64 → d < k →
    lockgateref01_add.l0 k (U a) (U b) (U (b1 (BitVec.carry i a b c))) (U (acc (fun j => (sum a b c).getLsbD j) i)) (i : Int) = some (U (sum a b c)) := by
  induction d with
  | zero =>
    intro k i hi hk
    obtain ⟨k, rfl⟩ : ∃ m, k = m + 1 := ⟨k - 1, by omega⟩
    obtain rfl : i = 64 := by omega
    rw [lockgateref01_add.l0, if_neg (by omega), acc_self]
  | succ d ih =>
    intro k i hi hk
    obtain ⟨k, rfl⟩ : ∃ m, k = m + 1 := ⟨k - 1, by omega⟩
    rw [lockgateref01_add.l0, if_pos (by omega), bit_f a i (by omega), bit_f b i (by omega)]
    simp only [Option.bind_some]
    rw [three, three_mod, three_div, w_nat i (by omega), if_pos (by omega), shl_bit, b_or, ofInt_U, ofInt_U, i_succ i (by omega), ← ci_succ, ← sum_bit a b c i (by omega)]
    exact ih k (i + 1) (by omega) (by omega)
theorem add_f (k : Nat) (hk : 65 ≤ k) (a b : W) (c : Bool) : lockgateref01_add.f k (U a) (U b) (U (b1 c)) = some (U (sum a b c)) := by
  have h := add_l a b c 64 k 0 rfl (by omega)
  have e : BitVec.carry 0 a b c = c := by simp
  rw [e] at h
  exact h
theorem add0_f (k : Nat) (hk : 65 ≤ k) (a b : W) : lockgateref01_add.f k (U a) (U b) 0 = some (U (a + b)) := by
  have := add_f k hk a b false
  rw [sum, show b1 false = 0 from rfl, show a + b + 0 = a + b by simp] at this
  exact this
theorem add1_f (k : Nat) (hk : 65 ≤ k) (a b : W) : lockgateref01_add.f k (U a) (U (~~~b)) 1 = some (U (a - b)) := by
  have := add_f k hk a (~~~b) true
  rw [sum, show b1 true = 1 from rfl, show a + ~~~b + 1 = a - b by rw [BitVec.not_eq_neg_add]; grind] at this
  exact this
theorem not_l (a : W) (d : Nat) : ∀ (k i : Nat), i + d = 64 → d < k → lockgateref01_not.l0 k (U a) (U (acc (fun j => !a.getLsbD j) i)) (i : Int) = some (U (acc (fun j => !a.getLsbD j) 64)) := by
  induction d with
  | zero =>
    intro k i hi hk
    obtain ⟨k, rfl⟩ : ∃ m, k = m + 1 := ⟨k - 1, by omega⟩
    obtain rfl : i = 64 := by omega
    rw [lockgateref01_not.l0, if_neg (by omega)]
  | succ d ih =>
    intro k i hi hk
    obtain ⟨k, rfl⟩ : ∃ m, k = m + 1 := ⟨k - 1, by omega⟩
    have e : IntKind.u64.wrap (1 - U (b1 (a.getLsbD i))) = U (b1 (!a.getLsbD i)) := by cases a.getLsbD i <;> decide
    rw [lockgateref01_not.l0, if_pos (by omega), bit_f a i (by omega)]
    simp only [Option.bind_some]
    rw [e, w_nat i (by omega), if_pos (by omega), shl_bit, b_or, ofInt_U, ofInt_U, i_succ i (by omega)]
    exact ih k (i + 1) (by omega) (by omega)
theorem not_f (k : Nat) (hk : 65 ≤ k) (a : W) : lockgateref01_not.f k (U a) = some (U (~~~a)) := by
  have h := not_l a 64 k 0 rfl (by omega)
  have e : acc (fun j => !a.getLsbD j) 64 = ~~~a := by
    apply acc_eq (by omega)
    · intro i hi; rw [BitVec.getLsbD_not]; simp [hi]
    · intro i h1 h2; omega
  rw [e] at h
  exact h
theorem times_l (a b : W) (d : Nat) : ∀ (k i : Nat) (s : W), i + d = 64 → d + 65 < k → lockgateref01_times.l0 k (U a) (U b) (U s) (i : Int) = some (U (s + (a >>> i) * (b <<< i))) := by
  induction d with
  | zero =>
    intro k i s hi hk
    obtain ⟨k, rfl⟩ : ∃ m, k = m + 1 := ⟨k - 1, by omega⟩
    obtain rfl : i = 64 := by omega
    rw [lockgateref01_times.l0, if_neg (by omega)]
    have : a >>> 64 = 0 := by
      apply BitVec.eq_of_toNat_eq; rw [BitVec.toNat_ushiftRight, Nat.shiftRight_eq_div_pow]
      have := a.isLt; simp; omega
    rw [this]; simp
  | succ d ih =>
    intro k i s hi hk
    obtain ⟨k, rfl⟩ : ∃ m, k = m + 1 := ⟨k - 1, by omega⟩
    have e3 : (a >>> i).getLsbD 0 = a.getLsbD i := by rw [BitVec.getLsbD_ushiftRight, Nat.add_zero]
    have e1 : a >>> i >>> 1 = a >>> (i + 1) := by rw [BitVec.shiftRight_add]
    have e2 : b <<< i <<< 1 = b <<< (i + 1) := by rw [BitVec.shiftLeft_add]
    rw [lockgateref01_times.l0, if_pos (by omega), bit_f a i (by omega)]
    simp only [Option.bind_some, w_nat i (by omega), i_succ i (show i < 100 by omega)]
    rw [prod_step (a >>> i) (b <<< i), e1, e2, e3]
    cases h : a.getLsbD i
    · rw [if_neg (by decide), ih k (i + 1) s (by omega) (by omega)]; simp [b1]
    · rw [if_pos (by decide), if_pos (by omega), shl_U, Int.toNat_natCast, add0_f k (by omega)]
      simp only [Option.bind_some]
      rw [ih k (i + 1) _ (by omega) (by omega)]
      simp [b1, BitVec.add_assoc]
theorem times_f (k : Nat) (hk : 131 ≤ k) (a b : W) : lockgateref01_times.f k (U a) (U b) = some (U (a * b)) := by
  have h := times_l a b 64 k 0 0 rfl (by omega)
  rw [BitVec.ushiftRight_zero, BitVec.shiftLeft_zero, show 0 + a * b = a * b by simp] at h
  exact h
end Go.Proofs.Ytnpbhippkcikoaa.C01
