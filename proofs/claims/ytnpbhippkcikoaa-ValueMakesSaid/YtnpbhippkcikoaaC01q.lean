/- Layer 1's reference: quotients, bits, shifts down, orders. -/
import Derived.Test.YtnpbhippkcikoaaC01r
import Derived.Test.YtnpbhippkcikoaaPA11
import Derived.Test.YtnpbhippkcikoaaPA12
import Derived.Test.YtnpbhippkcikoaaPA13
set_option linter.unusedVariables false
set_option linter.unusedSimpArgs false
set_option linter.unusedSectionVars false
namespace Go.Proofs.Ytnpbhippkcikoaa.C01
open Go.RowKit Go.Proofs.YtnpbhippkcikoaaW.PrintWords Go.Proofs.YtnpbhippkcikoaaW.PrintLast Go.Proofs.YtnpbhippkcikoaaW.PrintMore Go.Proofs.Ytnpbhippkcikoaa.PA Go.Proofs.Ytnpbhippkcikoaa.Bv
theorem i_pred (i : Nat) (h : i < 100) : wrap64 ((i : Int) - 1) = (i : Int) - 1 := by unfold wrap64; omega
/-- n bits of a are still to come: the quotient so far, at its place; what is left over so far. -/
def dQ (a b : W) (n : Nat) : W := BitVec.ofNat 64 (a.toNat / 2 ^ n / b.toNat * 2 ^ n)
def dR (a b : W) (n : Nat) : W := BitVec.ofNat 64 (a.toNat / 2 ^ n % b.toNat)
theorem dQ_toNat (a b : W) (n : Nat) : (dQ a b n).toNat = a.toNat / 2 ^ n / b.toNat * 2 ^ n := by
  unfold dQ
  rw [BitVec.toNat_ofNat]
  apply Nat.mod_eq_of_lt
  have h1 : a.toNat / 2 ^ n / b.toNat ≤ a.toNat / 2 ^ n := Nat.div_le_self _ _
  have h2 : a.toNat / 2 ^ n * 2 ^ n ≤ a.toNat := Nat.div_mul_le_self _ _
  have h3 := Nat.mul_le_mul_right (2 ^ n) h1
  have := a.isLt
  omega
theorem dR_toNat (a b : W) (hb : b ≠ 0) (n : Nat) : (dR a b n).toNat = a.toNat / 2 ^ n % b.toNat := by
  unfold dR
  rw [BitVec.toNat_ofNat]
  apply Nat.mod_eq_of_lt
  have h0 : 0 < b.toNat := by
    rcases Nat.eq_zero_or_pos b.toNat with h | h
    · exact absurd (BitVec.eq_of_toNat_eq (by simpa using h)) hb
    · exact h
  have := Nat.mod_lt (a.toNat / 2 ^ n) h0
  have := b.isLt
  omega
theorem half_step (A n : Nat) : A / 2 ^ n = 2 * (A / 2 ^ (n + 1)) + A / 2 ^ n % 2 := by
  rw [Nat.pow_succ, ← Nat.div_div_eq_div_mul]; omega
theorem b1_toNat (b : Bool) : (b1 b).toNat = if b then 1 else 0 := by cases b <;> rfl
theorem bit_nat (a : W) (n : Nat) : (b1 (a.getLsbD n)).toNat = a.toNat / 2 ^ n % 2 := by
  rw [b1_toNat, BitVec.getLsbD, Nat.testBit_eq_decide_div_mod_eq]
  have := Nat.mod_two_eq_zero_or_one (a.toNat / 2 ^ n)
  rcases this with h | h <;> simp [h]
/-- a step down: what the quotient and the rest become. -/
theorem step_nat (m q r b bit : Nat) (hb : 0 < b) (hq : q = m / b) (hr : r = m % b) (hbit : bit < 2) :
    (2 * m + bit) / b = 2 * q + (if b ≤ 2 * r + bit then 1 else 0) ∧ (2 * m + bit) % b = 2 * r + bit - (if b ≤ 2 * r + bit then b else 0) := by
  have h1 : m = b * q + r := by rw [hq, hr]; exact (Nat.div_add_mod m b).symm
  have h2 : r < b := by rw [hr]; exact Nat.mod_lt _ hb
  have h3 : 2 * m + bit = b * (2 * q) + (2 * r + bit) := by rw [h1, Nat.mul_add]; have : b * (2 * q) = 2 * (b * q) := by rw [Nat.mul_left_comm]
                                                            omega
  by_cases h : b ≤ 2 * r + bit
  · rw [if_pos h, if_pos h]
    have h4 : 2 * m + bit = b * (2 * q + 1) + (2 * r + bit - b) := by rw [h3, Nat.mul_add, Nat.mul_one]; omega
    rw [h4]
    constructor
    · rw [Nat.mul_add_div hb, Nat.div_eq_of_lt (show 2 * r + bit - b < b by omega)]
    · rw [Nat.mul_add_mod, Nat.mod_eq_of_lt (by omega)]
  · rw [if_neg h, if_neg h, h3]
    constructor
    · rw [Nat.mul_add_div hb, Nat.div_eq_of_lt (by omega)]
    · rw [Nat.mul_add_mod, Nat.mod_eq_of_lt (by omega), Nat.sub_zero]
theorem divide_l (a b : W) (hb : b ≠ 0) (n : Nat) : ∀ k, n ≤ 64 → 2 * n + 66 < k →
    lockgateref01_divide.l0 k (U a) (U b) (U (dQ a b n)) (U (dR a b n)) ((n : Int) - 1) = some (U (a / b), U (a % b)) := by
  have h0 : 0 < b.toNat := by
    rcases Nat.eq_zero_or_pos b.toNat with h | h
    · exact absurd (BitVec.eq_of_toNat_eq (by simpa using h)) hb
    · exact h
  induction n with
  | zero =>
    intro k _ hk
    obtain ⟨k, rfl⟩ : ∃ m, k = m + 1 := ⟨k - 1, by omega⟩
    rw [lockgateref01_divide.l0, if_neg (by omega)]
    congr 2
    · apply congrArg; apply BitVec.eq_of_toNat_eq; rw [dQ_toNat, BitVec.toNat_udiv]; simp
    · apply congrArg; apply BitVec.eq_of_toNat_eq; rw [dR_toNat a b hb, BitVec.toNat_umod]; simp
  | succ n ih =>
    intro k hn hk
    obtain ⟨k, rfl⟩ : ∃ m, k = m + 2 := ⟨k - 2, by omega⟩
    have ih' := ih k (by omega) (by omega)
    have hi : ((n + 1 : Nat) : Int) - 1 = (n : Int) := by omega
    have e63 : (63 : Int) = ((63 : Nat) : Int) := rfl
    obtain ⟨sQ, sR⟩ := step_nat (a.toNat / 2 ^ (n + 1)) _ _ b.toNat (a.toNat / 2 ^ n % 2) h0 rfl rfl (Nat.mod_lt _ (by decide))
    rw [← half_step] at sQ sR
    have hR := dR_toNat a b hb (n + 1)
    have hR' := dR_toNat a b hb n
    have hlt := Nat.mod_lt (a.toNat / 2 ^ (n + 1)) h0
    have hbl := b.isLt
    have hbit := bit_nat a n
    have hov : (dR a b (n + 1)).getLsbD 63 = decide (2 ^ 63 ≤ (dR a b (n + 1)).toNat) := by
      rw [← BitVec.msb_eq_getLsbD_last, BitVec.msb_eq_decide]
    have hw : IntKind.u64.wrap (IntKind.u64.wrap (U (dR a b (n + 1)) * 2) + U (b1 (a.getLsbD n))) = U (dR a b (n + 1) + dR a b (n + 1) + b1 (a.getLsbD n)) := by
      simp only [wrap_u64, oi_add, oi_mul, ofInt_U]
      apply congrArg
      rw [show BitVec.ofInt 64 2 = (2 : W) by decide]
      grind
    have hsum : (dR a b (n + 1) + dR a b (n + 1) + b1 (a.getLsbD n)).toNat = (2 * (a.toNat / 2 ^ (n + 1) % b.toNat) + a.toNat / 2 ^ n % 2) % 2 ^ 64 := by
      rw [BitVec.toNat_add, BitVec.toNat_add, hR, hbit]; omega
    have hb2 : a.toNat / 2 ^ n % 2 < 2 := Nat.mod_lt _ (by decide)
    rw [lockgateref01_divide.l0, if_pos (by omega), e63, bit_f _ 63 (by omega), hi, bit_f a n (by omega)]
    simp only [Option.bind_some]
    rw [hw]
    have key : (if U (b1 ((dR a b (n + 1)).getLsbD 63)) = 1 then lockgateref01_divide.j1 (k + 1) (U a) (U b) (U (dQ a b (n + 1))) (U (dR a b (n + 1) + dR a b (n + 1) + b1 (a.getLsbD n))) (n : Int) true
        else lockgateref01_divide.j1 (k + 1) (U a) (U b) (U (dQ a b (n + 1))) (U (dR a b (n + 1) + dR a b (n + 1) + b1 (a.getLsbD n))) (n : Int) (decide (U (dR a b (n + 1) + dR a b (n + 1) + b1 (a.getLsbD n)) ≥ U b)))
        = lockgateref01_divide.j1 (k + 1) (U a) (U b) (U (dQ a b (n + 1))) (U (dR a b (n + 1) + dR a b (n + 1) + b1 (a.getLsbD n))) (n : Int) (decide (b.toNat ≤ 2 * (a.toNat / 2 ^ (n + 1) % b.toNat) + a.toNat / 2 ^ n % 2)) := by
      rw [hov]
      by_cases h : 2 ^ 63 ≤ (dR a b (n + 1)).toNat
      · rw [decide_eq_true h, if_pos (by decide)]
        congr 1; symm; rw [decide_eq_true_iff]; omega
      · rw [decide_eq_false h, if_neg (by decide)]
        congr 1; rw [decide_eq_decide, ge_iff_le, U_le_iff, BitVec.le_def, hsum]; omega
    rw [key, lockgateref01_divide.j1, not_f k (by omega)]
    simp only [Option.bind_some]
    rw [show lockgateref01_add.f k (U (dR a b (n + 1) + dR a b (n + 1) + b1 (a.getLsbD n))) (U (~~~b)) 1 = _ from add_f k (by omega) _ _ true, w_nat n (by omega)]
    have hQ := dQ_toNat a b (n + 1)
    have hQ' := dQ_toNat a b n
    have hi2 : wrap64 ((n : Int) - 1) = (n : Int) - 1 := i_pred n (by omega)
    have p0 : (0 : Int) ≤ (n : Int) := by omega
    by_cases h : b.toNat ≤ 2 * (a.toNat / 2 ^ (n + 1) % b.toNat) + a.toNat / 2 ^ n % 2
    · rw [if_pos h] at sQ sR
      simp only [Option.bind_some, if_pos (decide_eq_true h), if_pos p0]
      have eQ : Go.bits .or .u64 (U (dQ a b (n + 1))) (shl .u64 1 (n : Int)) = U (dQ a b n) := by
        rw [show (1 : Int) = U (b1 true) from rfl, shl_bit, b_or, ofInt_U, ofInt_U]
        apply congrArg
        have hz : dQ a b (n + 1) &&& b1 true <<< n = 0 := by
          apply and_zero_of
          intro j hj
          rw [getLsbD_b1_shl _ _ _ hj]
          by_cases e : j = n
          · subst e
            rw [BitVec.getLsbD, hQ, Nat.testBit_mul_two_pow, decide_eq_false (show ¬ j + 1 ≤ j by omega)]; rfl
          · simp [e]
        rw [← BitVec.add_eq_or_of_and_eq_zero _ _ hz]
        apply BitVec.eq_of_toNat_eq
        have h1 : (b1 true <<< n).toNat = 2 ^ n := by
          rw [BitVec.toNat_shiftLeft, Nat.shiftLeft_eq, show (b1 true).toNat = 1 from rfl, Nat.one_mul]
          exact Nat.mod_eq_of_lt (Nat.pow_lt_pow_right (by decide) (by omega))
        have h2 : (dQ a b n).toNat < 2 ^ 64 := (dQ a b n).isLt
        rw [BitVec.toNat_add, hQ, h1, hQ', sQ]
        rw [hQ', sQ] at h2
        rw [Nat.pow_succ, Nat.add_mul, Nat.one_mul] at *
        have : a.toNat / (2 ^ n * 2) / b.toNat * (2 ^ n * 2) = 2 * (a.toNat / (2 ^ n * 2) / b.toNat) * 2 ^ n := by
          rw [Nat.mul_comm (2 ^ n) 2, ← Nat.mul_assoc, Nat.mul_comm _ 2]
        rw [this]
        exact Nat.mod_eq_of_lt h2
      have eR : sum (dR a b (n + 1) + dR a b (n + 1) + b1 (a.getLsbD n)) (~~~b) true = dR a b n := by
        have : sum (dR a b (n + 1) + dR a b (n + 1) + b1 (a.getLsbD n)) (~~~b) true = dR a b (n + 1) + dR a b (n + 1) + b1 (a.getLsbD n) - b := by
          rw [sum, show b1 true = 1 from rfl, BitVec.not_eq_neg_add]; grind
        rw [this]
        apply BitVec.eq_of_toNat_eq
        rw [BitVec.toNat_sub, hsum, hR', sR]
        have := Nat.mod_lt (a.toNat / 2 ^ n) h0
        omega
      rw [eQ, eR, hi2]
      exact ih'
    · rw [if_neg h] at sQ sR
      simp only [Option.bind_some, decide_eq_false h, Bool.false_eq_true, if_false]
      have eQ : dQ a b (n + 1) = dQ a b n := by
        apply BitVec.eq_of_toNat_eq
        rw [hQ, hQ', sQ, Nat.pow_succ, Nat.add_zero, Nat.mul_comm (2 ^ n) 2, ← Nat.mul_assoc, Nat.mul_comm _ 2]
      have eR : dR a b (n + 1) + dR a b (n + 1) + b1 (a.getLsbD n) = dR a b n := by
        apply BitVec.eq_of_toNat_eq
        rw [hsum, hR', sR]; omega
      rw [eQ, eR, hi2]
      exact ih'
theorem divide_f (k : Nat) (hk : 195 ≤ k) (a b : W) (hb : b ≠ 0) : lockgateref01_divide.f k (U a) (U b) = some (U (a / b), U (a % b)) := by
  have h := divide_l a b hb 64 k (by omega) (by omega)
  have e1 : dQ a b 64 = 0 := by
    apply BitVec.eq_of_toNat_eq; rw [dQ_toNat, Nat.div_eq_of_lt a.isLt]; simp
  have e2 : dR a b 64 = 0 := by
    apply BitVec.eq_of_toNat_eq; rw [dR_toNat a b hb, Nat.div_eq_of_lt a.isLt]; simp
  rw [e1, e2] at h
  exact h
end Go.Proofs.Ytnpbhippkcikoaa.C01
