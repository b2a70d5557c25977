/- Bytes turned about: plain bit vectors. -/
import Derived.Test.YtceclodenhgoeaaGreatBv
namespace Go.Proofs.YtceclodenhgoeaaGreat.By
open Go.RowKit Go.Proofs.YtceclodenhgoeaaGreat.Bv
set_option linter.unusedVariables false
set_option linter.unusedSimpArgs false
/-- the byte at place j. -/
def byte (v : W) (j : Nat) : W := v >>> (8 * j) &&& 255
/-- the low 8n bits. -/
def lowB (v : W) (n : Nat) : W := v <<< (64 - 8 * n) >>> (64 - 8 * n)
/-- the low n bytes, the lowest first. -/
def revB (v : W) : Nat → W
  | 0 => 0
  | n + 1 => revB v n <<< 8 ||| byte v n
theorem c255 (i : Nat) (hi : i < 64) : (255 : W).getLsbD i = decide (i < 8) := by
  have : ∀ i : Fin 64, (255 : W).getLsbD i.1 = decide (i.1 < 8) := by decide
  exact this ⟨i, hi⟩
theorem byte_bit (v : W) (j i : Nat) (hi : i < 64) : (byte v j).getLsbD i = (v.getLsbD (8 * j + i) && decide (i < 8)) := by
  unfold byte; rw [BitVec.getLsbD_and, BitVec.getLsbD_ushiftRight, c255 i hi]
theorem lowB_bit (v : W) (n i : Nat) (hn : n ≤ 8) (hi : i < 64) : (lowB v n).getLsbD i = (decide (i < 8 * n) && v.getLsbD i) := by
  unfold lowB
  rw [BitVec.getLsbD_ushiftRight, BitVec.getLsbD_shiftLeft]
  by_cases h : i < 8 * n
  · rw [decide_eq_true (show 64 - 8 * n + i < 64 by omega), decide_eq_false (show ¬ 64 - 8 * n + i < 64 - 8 * n by omega), decide_eq_true h, show 64 - 8 * n + i - (64 - 8 * n) = i by omega]; rfl
  · rw [decide_eq_false (show ¬ 64 - 8 * n + i < 64 by omega), decide_eq_false h]; rfl
theorem revB_bit (v : W) (n i : Nat) (hn : n ≤ 8) (hi : i < 64) : (revB v n).getLsbD i = (decide (i < 8 * n) && v.getLsbD (8 * (n - 1 - i / 8) + i % 8)) := by
  induction n generalizing i with
  | zero => simp [revB]
  | succ n ih =>
    rw [revB, BitVec.getLsbD_or, byte_bit v n i hi, BitVec.getLsbD_shiftLeft]
    by_cases h : i < 8
    · rw [decide_eq_true h, decide_eq_true (show i < 8 * (n + 1) by omega), show i / 8 = 0 by omega, show i % 8 = i by omega, show n + 1 - 1 - 0 = n by omega]
      simp
    · rw [decide_eq_false h, decide_eq_true hi, ih (i - 8) (by omega) (by omega)]
      by_cases h2 : i < 8 * (n + 1)
      · rw [decide_eq_true h2, decide_eq_true (show i - 8 < 8 * n by omega), show n - 1 - (i - 8) / 8 = n + 1 - 1 - i / 8 by omega, show (i - 8) % 8 = i % 8 by omega]; simp
      · rw [decide_eq_false h2, decide_eq_false (show ¬ i - 8 < 8 * n by omega)]; simp
theorem revB_revB (v : W) (n : Nat) (hn : n ≤ 8) : revB (revB v n) n = lowB v n := by
  apply BitVec.eq_of_getLsbD_eq
  intro i hi
  rw [revB_bit _ n i hn hi, lowB_bit v n i hn hi]
  by_cases h : i < 8 * n
  · rw [revB_bit v n _ hn (by omega), decide_eq_true h, decide_eq_true (by omega)]
    rw [show 8 * (n - 1 - (8 * (n - 1 - i / 8) + i % 8) / 8) + (8 * (n - 1 - i / 8) + i % 8) % 8 = i by omega]; rfl
  · rw [decide_eq_false h]; rfl
theorem revB_low (v : W) (n : Nat) (hn : n ≤ 8) : revB (lowB v n) n = revB v n := by
  apply BitVec.eq_of_getLsbD_eq
  intro i hi
  rw [revB_bit _ n i hn hi, revB_bit v n i hn hi]
  by_cases h : i < 8 * n
  · rw [lowB_bit v n _ hn (by omega), decide_eq_true (show 8 * (n - 1 - i / 8) + i % 8 < 8 * n by omega)]; rfl
  · rw [decide_eq_false h]; rfl
theorem lowB_rev (v : W) (n : Nat) (hn : n ≤ 8) : lowB (revB v n) n = revB v n := by
  apply BitVec.eq_of_getLsbD_eq
  intro i hi
  rw [lowB_bit _ n i hn hi, revB_bit v n i hn hi]
  by_cases h : i < 8 * n
  · rw [decide_eq_true h]; rfl
  · rw [decide_eq_false h]; rfl
theorem lowB_toNat (v : W) (n : Nat) (hn : n ≤ 8) : (lowB v n).toNat = v.toNat % 2 ^ (8 * n) := by
  apply Nat.eq_of_testBit_eq
  intro i
  rw [Nat.testBit_mod_two_pow]
  by_cases hi : i < 64
  · exact lowB_bit v n i hn hi
  · have h1 : (lowB v n).toNat.testBit i = false := BitVec.getLsbD_of_ge _ i (by omega)
    have h2 : v.toNat.testBit i = false := BitVec.getLsbD_of_ge _ i (by omega)
    rw [h1, h2]; simp
/-- the number of n bytes, in the order that big says. -/
def swp (n : Nat) (big : Bool) (v : W) : W := if big then revB v n else lowB v n
/-- the reference: what stands after i bytes. -/
def sA (v : W) (n : Nat) (big : Bool) (i : Nat) : W := if big then revB v i <<< (8 * (n - i)) else lowB v i
theorem sA_step (v : W) (n : Nat) (hn : n ≤ 8) (big : Bool) (i : Nat) (hi : i < n) : sA v n big (i + 1) = sA v n big i ||| byte v i <<< (if big then 8 * (n - 1 - i) else 8 * i) := by
  cases big
  · show lowB v (i + 1) = lowB v i ||| byte v i <<< (8 * i)
    apply BitVec.eq_of_getLsbD_eq
    intro j hj
    rw [BitVec.getLsbD_or, lowB_bit v _ j (by omega) hj, lowB_bit v _ j (by omega) hj, BitVec.getLsbD_shiftLeft, byte_bit v i _ (by omega), decide_eq_true hj]
    by_cases h1 : j < 8 * i
    · rw [decide_eq_true h1, decide_eq_true (show j < 8 * (i + 1) by omega)]; simp
    · rw [decide_eq_false h1]
      by_cases h2 : j < 8 * (i + 1)
      · rw [decide_eq_true h2, decide_eq_true (show j - 8 * i < 8 by omega), show 8 * i + (j - 8 * i) = j by omega]; simp
      · rw [decide_eq_false h2, decide_eq_false (show ¬ j - 8 * i < 8 by omega)]; simp
  · show revB v (i + 1) <<< (8 * (n - (i + 1))) = revB v i <<< (8 * (n - i)) ||| byte v i <<< (8 * (n - 1 - i))
    rw [revB, BitVec.shiftLeft_or_distrib, ← BitVec.shiftLeft_add, show 8 + 8 * (n - (i + 1)) = 8 * (n - i) by omega, show n - (i + 1) = n - 1 - i by omega]
end Go.Proofs.YtceclodenhgoeaaGreat.By
