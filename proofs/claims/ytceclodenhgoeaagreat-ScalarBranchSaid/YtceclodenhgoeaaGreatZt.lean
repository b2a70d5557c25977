/- Layer 5, against the reference: byte orders: both are the same. -/
import Derived.Test.YtceclodenhgoeaaGreatZs
import Derived.Test.YtceclodenhgoeaaGreatBy
namespace Go.Proofs.YtceclodenhgoeaaGreat.Zt
open Go Go.RowKit Go.Proofs Go.Proofs.YtceclodenhgoeaaGreat.Xc Go.Proofs.YtceclodenhgoeaaGreat.Zs Go.Proofs.YtceclodenhgoeaaGreat.By Go.Proofs.YtceclodenhgoeaaGreat.Bv
set_option linter.unusedVariables false
set_option linter.unusedSimpArgs false
theorem m256 (v : W) : Int.tmod (U v) 256 = U (v &&& 255) := by
  rw [Int.tmod_eq_emod_of_nonneg (U_nonneg _)]
  unfold U
  rw [BitVec.toNat_and, show (255 : W).toNat = 2 ^ 8 - 1 from rfl, Nat.and_two_pow_sub_one_eq_mod]; omega
theorem d256 (v : W) : U v / (256 : Int) = U (v >>> 8) := by
  unfold U; rw [BitVec.toNat_ushiftRight, Nat.shiftRight_eq_div_pow]; omega
theorem divp (v : W) (n : Nat) : U v / 2 ^ n = U (v >>> n) := by
  unfold U; rw [BitVec.toNat_ushiftRight, Nat.shiftRight_eq_div_pow]; simp
theorem mulp (v : W) (n : Nat) : IntKind.u64.wrap (U v * 2 ^ n) = U (v <<< n) := by
  rw [wrap_u64]
  apply congrArg
  apply BitVec.eq_of_toNat_eq
  rw [BitVec.toNat_shiftLeft, Nat.shiftLeft_eq]
  unfold U
  rw [show ((v.toNat : Int) * 2 ^ n) = ((v.toNat * 2 ^ n : Nat) : Int) by simp, BitVec.ofInt_natCast, BitVec.toNat_ofNat]
theorem ro_U (n : Nat) (hn : n ≤ 8) (big : Bool) (v : W) : ∀ i, i ≤ n → ro n big (U v) i = U (sA v n big i)
  | 0, _ => by cases big <;> simp [ro, sA, lowB, revB] <;> rfl
  | i + 1, h => by
    have ih := ro_U n hn big v i (by omega)
    rw [sA_step v n hn big i (by omega)]
    cases big
    · show Go.bits .or .u64 (ro n false (U v) i) (IntKind.wrap .u64 (Int.tmod (U v / 2 ^ (8 * i)) 256 * 2 ^ (8 * i))) = _
      rw [ih, divp, m256, mulp, b_or, ofInt_U, ofInt_U]; rfl
    · show Go.bits .or .u64 (ro n true (U v) i) (IntKind.wrap .u64 (Int.tmod (U v / 2 ^ (8 * i)) 256 * 2 ^ (8 * (n - 1 - i)))) = _
      rw [ih, divp, m256, mulp, b_or, ofInt_U, ofInt_U]; rfl
theorem ro_swp (n : Nat) (hn : n = 2 ∨ n = 4 ∨ n = 8) (big : Bool) (v : W) : ro n big (U v) n = U (swp n big v) := by
  rw [ro_U n (by omega) big v n (by omega)]
  cases big <;> simp [sA, swp]
theorem lw_U (n : Nat) (v : W) : lw n (U v) = U (lowB v n) := by
  unfold lw; rw [mulp, divp]; rfl
theorem sw8_U (x : W) : ∀ m i, sw8 m (U (revB x i)) (U (x >>> (8 * i))) = U (revB x (i + m))
  | 0, i => rfl
  | m + 1, i => by
    rw [sw8, d256, show (256 : Int) = 2 ^ 8 from rfl, mulp, b_and, b_or, ofInt_U, ofInt_U, ofInt_U, ← BitVec.shiftRight_add]
    have := sw8_U x m (i + 1)
    rw [show 8 * (i + 1) = 8 * i + 8 by omega] at this
    rw [show i + (m + 1) = i + 1 + m by omega, ← this]
    rfl
theorem sw_swp (n : Nat) (hn : n = 2 ∨ n = 4 ∨ n = 8) (v : W) : sw8 n 0 (lw n (U v)) = U (swp n true v) := by
  rw [lw_U]
  have := sw8_U (lowB v n) n 0
  rw [show revB (lowB v n) 0 = 0 from rfl, show lowB v n >>> (8 * 0) = lowB v n by simp, Nat.zero_add, revB_low v n (by omega)] at this
  exact this
theorem lw_swp (n : Nat) (v : W) : lw n (U v) = U (swp n false v) := lw_U n v
end Go.Proofs.YtceclodenhgoeaaGreat.Zt
