/- Layer 1: bytes turned about. -/
import Derived.Test.YtnpbhippkcikoaaC01b
import Derived.Test.YtnpbhippkcikoaaPA10
import Derived.Test.YtnpbhippkcikoaaPA19
set_option linter.unusedVariables false
set_option linter.unusedSimpArgs false
set_option linter.unusedSectionVars false
namespace Go.Proofs.Ytnpbhippkcikoaa.C01
open Go.RowKit Go.Proofs.YtnpbhippkcikoaaW.PrintWords Go.Proofs.YtnpbhippkcikoaaW.PrintLast Go.Proofs.YtnpbhippkcikoaaW.PrintMore Go.Proofs.Ytnpbhippkcikoaa.PA Go.Proofs.Ytnpbhippkcikoaa.Bv
/-- the byte at place j. -/
def byte (v : W) (j : Nat) : W := v >>> (8 * j) &&& 255
/-- the low 8n bits. -/
def lowB (v : W) (n : Nat) : W := v <<< (64 - 8 * n) >>> (64 - 8 * n)
/-- the low n bytes, the lowest first. -/
def revB (v : W) : Nat → W
  | 0 => 0
  | n + 1 => revB v n <<< 8 ||| byte v n
theorem c255 (i : Nat) (hi : i < 64) : (255 : W).getLsbD i = decide (i < 8) := by
  have : ∀ i : Fin 64, (255 : W).getLsbD i.1 = decide (i.1 < 8) := by decide
  exact this ⟨i, hi⟩
theorem byte_bit (v : W) (j i : Nat) (hi : i < 64) : (byte v j).getLsbD i = (v.getLsbD (8 * j + i) && decide (i < 8)) := by
  unfold byte; rw [BitVec.getLsbD_and, BitVec.getLsbD_ushiftRight, c255 i hi]
theorem lowB_bit (v : W) (n i : Nat) (hn : n ≤ 8) (hi : i < 64) : (lowB v n).getLsbD i = (decide (i < 8 * n) && v.getLsbD i) := by
  unfold lowB
  rw [BitVec.getLsbD_ushiftRight, BitVec.getLsbD_shiftLeft]
  by_cases h : i < 8 * n
  · rw [decide_eq_true (show 64 - 8 * n + i < 64 by omega), decide_eq_false (show ¬ 64 - 8 * n + i < 64 - 8 * n by omega), decide_eq_true h, show 64 - 8 * n + i - (64 - 8 * n) = i by omega]; rfl
  · rw [decide_eq_false (show ¬ 64 - 8 * n + i < 64 by omega), decide_eq_false h]; rfl
theorem revB_bit (v : W) (n i : Nat) (hn : n ≤ 8) (hi : i < 64) : (revB v n).getLsbD i = (decide (i < 8 * n) && v.getLsbD (8 * (n - 1 - i / 8) + i % 8)) := by
  induction n generalizing i with
  | zero => simp [revB]
  | succ n ih =>
    rw [revB, BitVec.getLsbD_or, byte_bit v n i hi, BitVec.getLsbD_shiftLeft]
    by_cases h : i < 8
    · rw [decide_eq_true h, decide_eq_true (show i < 8 * (n + 1) by omega), show i / 8 = 0 by omega, show i % 8 = i by omega, show n + 1 - 1 - 0 = n by omega]
      simp
    · rw [decide_eq_false h, decide_eq_true hi, ih (i - 8) (by omega) (by omega)]
      by_cases h2 : i < 8 * (n + 1)
      · rw [decide_eq_true h2, decide_eq_true (show i - 8 < 8 * n by omega), show n - 1 - (i - 8) / 8 = n + 1 - 1 - i / 8 by omega, show (i - 8) % 8 = i % 8 by omega]; simp
      · rw [decide_eq_false h2, decide_eq_false (show ¬ i - 8 < 8 * n by omega)]; simp
theorem revB_revB (v : W) (n : Nat) (hn : n ≤ 8) : revB (revB v n) n = lowB v n := by
  apply BitVec.eq_of_getLsbD_eq
  intro i hi
  rw [revB_bit _ n i hn hi, lowB_bit v n i hn hi]
  by_cases h : i < 8 * n
  · rw [revB_bit v n _ hn (by omega), decide_eq_true h, decide_eq_true (by omega)]
    rw [show 8 * (n - 1 - (8 * (n - 1 - i / 8) + i % 8) / 8) + (8 * (n - 1 - i / 8) + i % 8) % 8 = i by omega]; rfl
  · rw [decide_eq_false h]; rfl
theorem revB_low (v : W) (n : Nat) (hn : n ≤ 8) : revB (lowB v n) n = revB v n := by
  apply BitVec.eq_of_getLsbD_eq
  intro i hi
  rw [revB_bit _ n i hn hi, revB_bit v n i hn hi]
  by_cases h : i < 8 * n
  · rw [lowB_bit v n _ hn (by omega), decide_eq_true (show 8 * (n - 1 - i / 8) + i % 8 < 8 * n by omega)]; rfl
  · rw [decide_eq_false h]; rfl
theorem lowB_rev (v : W) (n : Nat) (hn : n ≤ 8) : lowB (revB v n) n = revB v n := by
  apply BitVec.eq_of_getLsbD_eq
  intro i hi
  rw [lowB_bit _ n i hn hi, revB_bit v n i hn hi]
  by_cases h : i < 8 * n
  · rw [decide_eq_true h]; rfl
  · rw [decide_eq_false h]; rfl
theorem lowB_toNat (v : W) (n : Nat) (hn : n ≤ 8) : (lowB v n).toNat = v.toNat % 2 ^ (8 * n) := by
  apply Nat.eq_of_testBit_eq
  intro i
  rw [Nat.testBit_mod_two_pow]
  by_cases hi : i < 64
  · exact lowB_bit v n i hn hi
  · have h1 : (lowB v n).toNat.testBit i = false := BitVec.getLsbD_of_ge _ i (by omega)
    have h2 : v.toNat.testBit i = false := BitVec.getLsbD_of_ge _ i (by omega)
    rw [h1, h2]; simp
/-- the number of n bytes, in the order that big says. -/
def swp (n : Nat) (big : Bool) (v : W) : W := if big then revB v n else lowB v n
theorem byte_U (v : W) : Go.bits .and .u64 (U v) 255 = U (v &&& 255) := by rw [b_and, ofInt_U]; rfl
theorem m256 (v : W) : Int.tmod (U v) 256 = U (v &&& 255) := by
  rw [Int.tmod_eq_emod_of_nonneg (U_nonneg _)]
  unfold U
  rw [BitVec.toNat_and, show (255 : W).toNat = 2 ^ 8 - 1 from rfl, Nat.and_two_pow_sub_one_eq_mod]; omega
theorem d256 (v : W) : U v / (256 : Int) = U (v >>> 8) := by
  unfold U; rw [BitVec.toNat_ushiftRight, Nat.shiftRight_eq_div_pow]; omega
theorem t256 (v : W) : IntKind.u64.wrap (U v * 256) = U (v <<< 8) := by
  rw [wrap_u64, oi_mul, ofInt_U]
  apply congrArg
  apply BitVec.eq_of_toNat_eq
  rw [BitVec.toNat_mul, BitVec.toNat_shiftLeft, Nat.shiftLeft_eq]; rfl
theorem i_up (i : Nat) (h : i < 100) : wrap64 ((i : Int) + 1) = ((i + 1 : Nat) : Int) := by unfold wrap64; omega
theorem swap_l (v : W) (n : Nat) (hn : n ≤ 8) (d : Nat) : ∀ (k i : Nat), i + d = n → d < k → word_Swap.l0 k (U (v >>> (8 * i))) (U (revB v i)) (n : Int) (i : Int) = some (U (revB v n), true) := by
  induction d with
  | zero =>
    intro k i h hk
    obtain ⟨k, rfl⟩ : ∃ m, k = m + 1 := ⟨k - 1, by omega⟩
    obtain rfl : i = n := by omega
    rw [word_Swap.l0]; exact ife (by omega) rfl
  | succ d ih =>
    intro k i h hk
    obtain ⟨k, rfl⟩ : ∃ m, k = m + 1 := ⟨k - 1, by omega⟩
    rw [word_Swap.l0, d256, t256, byte_U, b_or, ofInt_U, ofInt_U, i_up i (by omega), ← BitVec.shiftRight_add]
    exact ift (by omega) (ih k (i + 1) (by omega) (by omega))
theorem swap_at (k n : Nat) (hn : n = 2 ∨ n = 4 ∨ n = 8) (hk : 10 ≤ k) (big : Bool) (v : W) : word_Swap.j0 k ((8 * n : Nat) : Int) big (U v) false = some (U (swp n big v), true) := by
  obtain ⟨k, rfl⟩ : ∃ m, k = m + 1 := ⟨k - 1, by omega⟩
  have e1 : wrap64 (64 - ((8 * n : Nat) : Int)) = ((64 - 8 * n : Nat) : Int) := by unfold wrap64; omega
  have e2 : wrap64 (Int.tdiv ((8 * n : Nat) : Int) 8) = (n : Int) := by rw [Int.tdiv_eq_ediv_of_nonneg (by omega)]; unfold wrap64; omega
  have l := swap_l (lowB v n) n (by omega) n k 0 (by omega) (by omega)
  rw [revB_low v n (by omega)] at l
  have e3 : U (lowB v n >>> (8 * 0)) = U (v <<< (64 - 8 * n) >>> (64 - 8 * n)) := by simp [lowB]
  rw [word_Swap.j0, e1, e2, shl_U, Int.toNat_natCast, shr_U, Int.toNat_natCast]
  refine ife nt (ift (by omega) ?_)
  rw [e3] at l
  cases big
  · exact ife nt rfl
  · exact ift rfl l
theorem swap_f (k n : Nat) (hn : n = 2 ∨ n = 4 ∨ n = 8) (hk : 10 ≤ k) (big : Bool) (v : W) : word_Swap.f k ((8 * n : Nat) : Int) big (U v) = some (U (swp n big v), true) := by
  have h := swap_at k n hn hk big v
  unfold word_Swap.f
  rcases hn with rfl | rfl | rfl
  · exact ift (by decide) h
  · exact ife (by decide) (ift (by decide) h)
  · exact ife (by decide) (ife (by decide) h)
theorem swap_n (k : Nat) (hk : 1 ≤ k) (n : Int) (h : n ≠ 16 ∧ n ≠ 32 ∧ n ≠ 64) (big : Bool) (v : Int) : word_Swap.f k n big v = some (0, false) := by
  obtain ⟨k, rfl⟩ : ∃ m, k = m + 1 := ⟨k - 1, by omega⟩
  unfold word_Swap.f
  refine ife h.1 (ife h.2.1 ?_)
  rw [show (n != 64) = true by simp [h.2.2], word_Swap.j0]
  exact ift rfl rfl
/-- the reference: what stands after i bytes. -/
def sA (v : W) (n : Nat) (big : Bool) (i : Nat) : W := if big then revB v i <<< (8 * (n - i)) else lowB v i
theorem sA_step (v : W) (n : Nat) (hn : n ≤ 8) (big : Bool) (i : Nat) (hi : i < n) : sA v n big (i + 1) = sA v n big i ||| byte v i <<< (if big then 8 * (n - 1 - i) else 8 * i) := by
  cases big
  · show lowB v (i + 1) = lowB v i ||| byte v i <<< (8 * i)
    apply BitVec.eq_of_getLsbD_eq
    intro j hj
    rw [BitVec.getLsbD_or, lowB_bit v _ j (by omega) hj, lowB_bit v _ j (by omega) hj, BitVec.getLsbD_shiftLeft, byte_bit v i _ (by omega), decide_eq_true hj]
    by_cases h1 : j < 8 * i
    · rw [decide_eq_true h1, decide_eq_true (show j < 8 * (i + 1) by omega)]; simp
    · rw [decide_eq_false h1]
      by_cases h2 : j < 8 * (i + 1)
      · rw [decide_eq_true h2, decide_eq_true (show j - 8 * i < 8 by omega), show 8 * i + (j - 8 * i) = j by omega]; simp
      · rw [decide_eq_false h2, decide_eq_false (show ¬ j - 8 * i < 8 by omega)]; simp
  · show revB v (i + 1) <<< (8 * (n - (i + 1))) = revB v i <<< (8 * (n - i)) ||| byte v i <<< (8 * (n - 1 - i))
    rw [revB, BitVec.shiftLeft_or_distrib, ← BitVec.shiftLeft_add, show 8 + 8 * (n - (i + 1)) = 8 * (n - i) by omega, show n - (i + 1) = n - 1 - i by omega]
theorem rswap_l (v : W) (n : Nat) (hn : n = 2 ∨ n = 4 ∨ n = 8) (big : Bool) (d : Nat) : ∀ (k i : Nat), i + d = n → d < k → lockgateref01_Swap.l0 k ((8 * n : Nat) : Int) big (U v) (U (sA v n big i)) (i : Int) = some (U (sA v n big n), true) := by
  have en : wrap64 (Int.tdiv ((8 * n : Nat) : Int) 8) = (n : Int) := by rw [Int.tdiv_eq_ediv_of_nonneg (by omega)]; unfold wrap64; omega
  induction d with
  | zero =>
    intro k i h hk
    obtain ⟨k, rfl⟩ : ∃ m, k = m + 1 := ⟨k - 1, by omega⟩
    obtain rfl : i = n := by omega
    rw [lockgateref01_Swap.l0, en]; exact ife (by omega) rfl
  | succ d ih =>
    intro k i h hk
    obtain ⟨k, rfl⟩ : ∃ m, k = m + 1 := ⟨k - 1, by omega⟩
    have e1 : IntKind.u64.wrap (wrap64 (8 * (i : Int))) = ((8 * i : Nat) : Int) := by rw [wrap_u64, U_ofInt]; unfold wrap64; omega
    have e2 : IntKind.u64.wrap (wrap64 (8 * wrap64 (wrap64 ((n : Int) - 1) - (i : Int)))) = ((8 * (n - 1 - i) : Nat) : Int) := by rw [wrap_u64, U_ofInt]; unfold wrap64; omega
    have ih' := ih k (i + 1) (by omega) (by omega)
    rw [sA_step v n (by omega) big i (by omega)] at ih'
    rw [lockgateref01_Swap.l0, en, e1, e2, shr_U, Int.toNat_natCast, m256, shl_U, Int.toNat_natCast, shl_U, Int.toNat_natCast, b_or, b_or, ofInt_U, ofInt_U, ofInt_U, i_up i (by omega)]
    refine ift (by omega) (ift (by omega) ?_)
    cases big
    · exact ife nt ih'
    · exact ift rfl (ift (by omega) ih')
theorem rswap_f (k n : Nat) (hn : n = 2 ∨ n = 4 ∨ n = 8) (hk : 10 ≤ k) (big : Bool) (v : W) : lockgateref01_Swap.f k ((8 * n : Nat) : Int) big (U v) = some (U (swp n big v), true) := by
  have h : lockgateref01_Swap.j0 k ((8 * n : Nat) : Int) big (U v) false = some (U (swp n big v), true) := by
    obtain ⟨k, rfl⟩ : ∃ m, k = m + 1 := ⟨k - 1, by omega⟩
    have l := rswap_l v n hn big n k 0 (by omega) (by omega)
    have e0 : sA v n big 0 = 0 := by cases big <;> simp [sA, lowB, revB]
    have e1 : sA v n big n = swp n big v := by cases big <;> simp [sA, swp]
    rw [e0, e1] at l
    rw [lockgateref01_Swap.j0]
    exact ife nt l
  unfold lockgateref01_Swap.f
  rcases hn with rfl | rfl | rfl
  · exact ift (by decide) h
  · exact ife (by decide) (ift (by decide) h)
  · exact ife (by decide) (ife (by decide) h)
theorem rswap_n (k : Nat) (hk : 1 ≤ k) (n : Int) (h : n ≠ 16 ∧ n ≠ 32 ∧ n ≠ 64) (big : Bool) (v : Int) : lockgateref01_Swap.f k n big v = some (0, false) := by
  obtain ⟨k, rfl⟩ : ∃ m, k = m + 1 := ⟨k - 1, by omega⟩
  unfold lockgateref01_Swap.f
  refine ife h.1 (ife h.2.1 ?_)
  rw [show (n != 64) = true by simp [h.2.2], lockgateref01_Swap.j0]
  exact ift rfl rfl
end Go.Proofs.Ytnpbhippkcikoaa.C01
