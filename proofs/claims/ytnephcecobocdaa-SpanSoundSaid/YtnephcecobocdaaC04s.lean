/- Layer 4: shifts; products; the bits of numbers. -/
import Derived.Test.YtnephcecobocdaaC04l
import Derived.Test.YtnephcecobocdaaPA5
import Derived.Test.YtnephcecobocdaaPA8
import Derived.Test.YtnephcecobocdaaPA9
import Derived.Test.YtnephcecobocdaaPA10
import Derived.Test.YtnephcecobocdaaPA11
import Derived.Test.YtnephcecobocdaaPA13
import Derived.Test.YtnephcecobocdaaPA15
import Derived.Test.YtnephcecobocdaaPA18
import Derived.Test.YtnephcecobocdaaPA23
import Derived.Test.YtnephcecobocdaaPA25
import Derived.Test.YtnephcecobocdaaPA26
set_option linter.unusedVariables false
set_option linter.unusedSimpArgs false
set_option linter.unusedSectionVars false
namespace Go.Proofs.Ytnephcecobocdaa.C04
open Go.RowKit Go.Proofs.YtnephcecobocdaaW.PrintWords Go.Proofs.YtnephcecobocdaaW.PrintLast Go.Proofs.YtnephcecobocdaaW.PrintMore Go.Proofs.Ytnephcecobocdaa.PA Go.Proofs.Ytnephcecobocdaa.Bv
/-- a number of places modulo 64. -/
def pl (n : Int) : Nat := (n % 64).toNat
theorem pl_lt (n : Int) : pl n < 64 := by unfold pl; omega
theorem pl_cast (n : Int) : ((pl n : Nat) : Int) = n % 64 := by unfold pl; omega
theorem and63 (n : Int) : Go.bits .and .i64 n 63 = ((pl n : Nat) : Int) := by
  rw [s_and, pl_cast]
  have h1 : (BitVec.ofInt 64 n &&& BitVec.ofInt 64 63).toNat = (BitVec.ofInt 64 n).toNat % 64 := by
    rw [BitVec.toNat_and, show (BitVec.ofInt 64 63).toNat = 2 ^ 6 - 1 by decide, Nat.and_two_pow_sub_one_eq_mod]
  have h2 : ((BitVec.ofInt 64 n).toNat : Int) = n % 18446744073709551616 := U_ofInt n
  unfold S
  rw [BitVec.toInt_eq_toNat_of_lt (by omega), h1]; omega
theorem round_f (n : Int) (h : ss n) : lockgateref04_round.f n = some ((pl n : Nat) : Int) := by
  unfold lockgateref04_round.f; rw [pl_cast]
  have h1 : n.tmod 64 = if 0 ≤ n then n % 64 else -((-n) % 64) := by
    split
    · next h => exact Int.tmod_eq_emod_of_nonneg h
    · rw [← Int.tmod_eq_emod_of_nonneg (by omega), Int.neg_tmod, Int.neg_neg]
  rw [h1]; unfold wrap64
  repeat' split
  all_goals first | (exfalso; omega) | (refine congrArg some ?_; omega)
theorem half_f (n : Int) (h : ss n) : lockgateref04_half.f n = some (n / 2) := by
  unfold lockgateref04_half.f
  have h1 : n.tmod 2 = if 0 ≤ n then n % 2 else -((-n) % 2) := by
    split
    · next h => exact Int.tmod_eq_emod_of_nonneg h
    · rw [← Int.tmod_eq_emod_of_nonneg (by omega), Int.neg_tmod, Int.neg_neg]
  have h2 : n.tdiv 2 = if 0 ≤ n then n / 2 else -((-n) / 2) := by
    split
    · next h => exact Int.tdiv_eq_ediv_of_nonneg h
    · rw [← Int.tdiv_eq_ediv_of_nonneg (by omega), Int.neg_tdiv, Int.neg_neg]
  rw [h1, h2]; unfold wrap64 ss at *
  repeat' split
  all_goals first | (exfalso; omega) | (refine congrArg some ?_; omega)
/-- what is shifted down by m. -/
def dn (x : Int) (m : Nat) : Int := x / ((2 ^ m : Nat) : Int)
theorem dn_succ (x : Int) (m : Nat) : dn x (m + 1) = dn x m / 2 := by
  unfold dn; rw [Int.ediv_ediv_of_nonneg (Int.natCast_nonneg _), Nat.pow_succ]; norm_cast
theorem dn_ss {x : Int} (h : ss x) (m : Nat) : ss (dn x m) := by
  induction m with
  | zero => unfold dn; simpa using h
  | succ m ih => rw [dn_succ]; unfold ss at *; omega
theorem dn_uu {x : Int} (h : uu x) (m : Nat) : uu (dn x m) := by
  induction m with
  | zero => unfold dn; simpa using h
  | succ m ih => rw [dn_succ]; unfold uu at *; omega
theorem shr_dn (k : IntKind) (hk : k.bits = 64) (x : Int) (m : Nat) (h : m < 64) : shr k x (m : Int) = dn x m := by
  unfold shr dn; rw [hk, Int.toNat_natCast, Nat.min_eq_left (by omega)]; norm_cast
theorem i_up (i : Nat) (h : i < 100) : wrap64 ((i : Int) + 1) = ((i + 1 : Nat) : Int) := by unfold wrap64; omega
section
variable {a b n : Int}
theorem sarsh_f : span_SArsh.f a b n = some (dn a (pl n), dn b (pl n)) := by
  unfold span_SArsh.f; rw [and63, if_pos (by omega), shr_dn .i64 rfl a _ (pl_lt n), shr_dn .i64 rfl b _ (pl_lt n)]
theorem ursh_f : span_URsh.f a b n = some (dn a (pl n), dn b (pl n)) := by
  unfold span_URsh.f; rw [and63, if_pos (by omega), shr_dn .u64 rfl a _ (pl_lt n), shr_dn .u64 rfl b _ (pl_lt n)]
theorem rsarsh_l (ha : ss a) (hb : ss b) (hn : ss n) (d : Nat) : ∀ (k i : Nat), i + d = pl n → d < k → lockgateref04_SArsh.l0 k n (i : Int) (dn a i) (dn b i) = some (dn a (pl n), dn b (pl n)) := by
  have := pl_lt n
  induction d with
  | zero =>
    intro k i hi hk
    obtain ⟨k, rfl⟩ : ∃ m, k = m + 1 := ⟨k - 1, by omega⟩
    obtain rfl : i = pl n := by omega
    rw [lockgateref04_SArsh.l0, round_f n hn, Option.bind_some, if_neg (by omega)]
  | succ d ih =>
    intro k i hi hk
    obtain ⟨k, rfl⟩ : ∃ m, k = m + 1 := ⟨k - 1, by omega⟩
    rw [lockgateref04_SArsh.l0, round_f n hn, Option.bind_some, if_pos (by omega), half_f _ (dn_ss ha i), half_f _ (dn_ss hb i), Option.bind_some, Option.bind_some, i_up i (by omega), ← dn_succ, ← dn_succ]
    exact ih k (i + 1) (by omega) (by omega)
theorem rsarsh_f (ha : ss a) (hb : ss b) (hn : ss n) (k : Nat) (hk : 65 ≤ k) : lockgateref04_SArsh.f k a b n = some (dn a (pl n), dn b (pl n)) := by
  have h := rsarsh_l ha hb hn (pl n) k 0 (by omega) (by have := pl_lt n; omega)
  rw [show dn a 0 = a by simp [dn], show dn b 0 = b by simp [dn]] at h
  exact h
theorem rursh_l (ha : uu a) (hb : uu b) (hn : ss n) (d : Nat) : ∀ (k i : Nat), i + d = pl n → d < k → lockgateref04_URsh.l0 k n (i : Int) (dn a i) (dn b i) = some (dn a (pl n), dn b (pl n)) := by
  have := pl_lt n
  induction d with
  | zero =>
    intro k i hi hk
    obtain ⟨k, rfl⟩ : ∃ m, k = m + 1 := ⟨k - 1, by omega⟩
    obtain rfl : i = pl n := by omega
    rw [lockgateref04_URsh.l0, round_f n hn, Option.bind_some, if_neg (by omega)]
  | succ d ih =>
    intro k i hi hk
    obtain ⟨k, rfl⟩ : ∃ m, k = m + 1 := ⟨k - 1, by omega⟩
    rw [lockgateref04_URsh.l0, round_f n hn, Option.bind_some, if_pos (by omega), i_up i (by omega), w64, w64, div_uu (dn_uu ha i) (by decide), div_uu (dn_uu hb i) (by decide), ← dn_succ, ← dn_succ]
    exact ih k (i + 1) (by omega) (by omega)
theorem rursh_f (ha : uu a) (hb : uu b) (hn : ss n) (k : Nat) (hk : 65 ≤ k) : lockgateref04_URsh.f k a b n = some (dn a (pl n), dn b (pl n)) := by
  have h := rursh_l ha hb hn (pl n) k 0 (by omega) (by have := pl_lt n; omega)
  rw [show dn a 0 = a by simp [dn], show dn b 0 = b by simp [dn]] at h
  exact h
end
/-- what is shifted up by m. -/
def upn (x : Int) (m : Nat) : Int := x * ((2 ^ m : Nat) : Int)
theorem upn_succ (x : Int) (m : Nat) : upn x (m + 1) = 2 * upn x m := by
  unfold upn; rw [Nat.pow_succ, Int.natCast_mul, ← Int.mul_assoc, Int.mul_comm]; rfl
theorem upn_mono (x : Int) (hx : 0 ≤ x) {i j : Nat} (h : i ≤ j) : upn x i ≤ upn x j :=
  Int.mul_le_mul_of_nonneg_left (by exact_mod_cast Nat.pow_le_pow_right (by decide) h) hx
theorem upn_le {x y : Int} (h : x ≤ y) (m : Nat) : upn x m ≤ upn y m := Int.mul_le_mul_of_nonneg_right h (Int.natCast_nonneg _)
theorem upn_nonneg {x : Int} (h : 0 ≤ x) (m : Nat) : 0 ≤ upn x m := Int.mul_nonneg h (Int.natCast_nonneg _)
theorem shl_up (x : Int) (m : Nat) (h : m < 64) : shl .u64 x (m : Int) = upn x m % 18446744073709551616 := by
  unfold shl upn; rw [w64, Int.toNat_natCast, show IntKind.u64.bits = 64 from rfl, Nat.min_eq_left (by omega)]
  have : ((2 ^ m : Nat) : Int) = 2 ^ m := by rw [Int.natCast_pow]; rfl
  rw [this]
def ulsh (a b : Int) (m : Nat) : Int × Int := if upn b m < 18446744073709551616 then (upn a m, upn b m) else all
theorem dn_up (x : Int) (m : Nat) : dn (upn x m) m = x := by
  unfold dn upn; exact Int.mul_ediv_cancel x (by have := Nat.pow_pos (n := m) (show 0 < 2 by decide); omega)
section
variable {a b n : Int}
theorem ulsh_f (ha : 0 ≤ a) (hb : uu b) (h : a ≤ b) : span_ULsh.f a b n = some (ulsh a b (pl n)) := by
  have hp := pl_lt n
  unfold span_ULsh.f ulsh all; rw [and63, if_pos (by omega), shl_up _ _ hp, shl_up _ _ hp, shr_dn .u64 rfl _ _ hp, uall]
  have h1 := upn_le h (pl n)
  have h2 := upn_nonneg ha (pl n)
  have h3 := upn_nonneg hb.1 (pl n)
  by_cases hl : upn b (pl n) < 18446744073709551616
  · rw [if_pos hl, Int.emod_eq_of_lt h3 hl, Int.emod_eq_of_lt h2 (by omega), dn_up, if_pos rfl]
  · rw [if_neg hl, if_neg]
    · rfl
    · intro e
      have h4 : upn (dn (upn b (pl n) % 18446744073709551616) (pl n)) (pl n) ≤ upn b (pl n) % 18446744073709551616 := by
        unfold dn upn; exact Int.ediv_mul_le _ (by have := Nat.pow_pos (n := pl n) (show 0 < 2 by decide); omega)
      rw [e] at h4
      omega
theorem rulsh_l (ha : 0 ≤ a) (hb : uu b) (hab : a ≤ b) (hn : ss n) (d : Nat) : ∀ (k i : Nat), i + d = pl n → d < k → upn b i < 18446744073709551616 →
    lockgateref04_ULsh.l0 k n (i : Int) (upn a i) (upn b i) = some (ulsh a b (pl n)) := by
  have := pl_lt n
  induction d with
  | zero =>
    intro k i hi hk hl
    obtain ⟨k, rfl⟩ : ∃ m, k = m + 1 := ⟨k - 1, by omega⟩
    obtain rfl : i = pl n := by omega
    rw [lockgateref04_ULsh.l0, round_f n hn, Option.bind_some, if_neg (by omega)]; unfold ulsh; rw [if_pos hl]
  | succ d ih =>
    intro k i hi hk hl
    obtain ⟨k, rfl⟩ : ∃ m, k = m + 1 := ⟨k - 1, by omega⟩
    have h1 := upn_le hab i
    have h2 := upn_nonneg ha i
    have h3 := upn_nonneg hb.1 i
    rw [lockgateref04_ULsh.l0, round_f n hn, Option.bind_some, if_pos (by omega)]; unfold lockgateref04_top.f; rw [ruall]
    simp only [Option.bind_some]
    by_cases h : upn b i ≥ 9223372036854775808
    · have h4 := upn_mono b hb.1 (show i + 1 ≤ pl n by omega)
      rw [upn_succ] at h4
      rw [if_pos h]; unfold ulsh; rw [if_neg (by omega)]; rfl
    · rw [if_neg h, i_up i (by omega), w64, w64, Int.emod_eq_of_lt (by omega) (by omega), Int.emod_eq_of_lt (by omega) (by omega), ← upn_succ, ← upn_succ]
      exact ih k (i + 1) (by omega) (by omega) (by rw [upn_succ]; omega)
theorem rulsh_f (ha : 0 ≤ a) (hb : uu b) (hab : a ≤ b) (hn : ss n) (k : Nat) (hk : 65 ≤ k) : lockgateref04_ULsh.f k a b n = some (ulsh a b (pl n)) := by
  have h := rulsh_l ha hb hab hn (pl n) k 0 (by omega) (by have := pl_lt n; omega) (by unfold upn; simpa using hb.2)
  rw [show upn a 0 = a by simp [upn], show upn b 0 = b by simp [upn]] at h
  exact h
end
/-! products -/
def umul (a b c d : Int) : Int × Int := if b * d < 18446744073709551616 then (a * c, b * d) else all
theorem mul64_nat (x y : Nat) (hx : x < 18446744073709551616) (hy : y < 18446744073709551616) :
    bits_Mul64.f (x : Int) (y : Int) = some (((x * y / 18446744073709551616 : Nat) : Int), ((x * y % 18446744073709551616 : Nat) : Int)) := by
  have cx := cut_bits x ⟨by omega, by omega⟩
  have cy := cut_bits y ⟨by omega, by omega⟩
  have cz := fun z (h : uu z) => cut_bits z h
  unfold bits_Mul64.f
  rw [cx, cy]
  obtain ⟨x1, x0, h1, h2, rfl⟩ : ∃ x1 x0 : Nat, x0 < 4294967296 ∧ x1 < 4294967296 ∧ x = x1 * 4294967296 + x0 := ⟨x / 4294967296, x % 4294967296, by omega, by omega, by omega⟩
  obtain ⟨y1, y0, h3, h4, rfl⟩ : ∃ y1 y0 : Nat, y0 < 4294967296 ∧ y1 < 4294967296 ∧ y = y1 * 4294967296 + y0 := ⟨y / 4294967296, y % 4294967296, by omega, by omega, by omega⟩
  rw [show ((x1 * 4294967296 + x0 : Nat) : Int) / 4294967296 = (x1 : Int) by omega, show ((y1 * 4294967296 + y0 : Nat) : Int) / 4294967296 = (y1 : Int) by omega,
    show ((x1 * 4294967296 + x0 : Nat) : Int) % 4294967296 = (x0 : Int) by omega, show ((y1 * 4294967296 + y0 : Nat) : Int) % 4294967296 = (y0 : Int) by omega]
  have m11 : x1 * y1 ≤ 4294967295 * 4294967295 := Nat.mul_le_mul (by omega) (by omega)
  have m10 : x1 * y0 ≤ 4294967295 * 4294967295 := Nat.mul_le_mul (by omega) (by omega)
  have m01 : x0 * y1 ≤ 4294967295 * 4294967295 := Nat.mul_le_mul (by omega) (by omega)
  have m00 : x0 * y0 ≤ 4294967295 * 4294967295 := Nat.mul_le_mul (by omega) (by omega)
  have e : (x1 * 4294967296 + x0) * (y1 * 4294967296 + y0) = x1 * y1 * 18446744073709551616 + x1 * y0 * 4294967296 + x0 * y1 * 4294967296 + x0 * y0 := by
    rw [Nat.add_mul, Nat.mul_add, Nat.mul_add]; grind
  have c11 : (x1 : Int) * (y1 : Int) = ((x1 * y1 : Nat) : Int) := by norm_cast
  have c10 : (x1 : Int) * (y0 : Int) = ((x1 * y0 : Nat) : Int) := by norm_cast
  have c01 : (x0 : Int) * (y1 : Int) = ((x0 * y1 : Nat) : Int) := by norm_cast
  have c00 : (x0 : Int) * (y0 : Int) = ((x0 * y0 : Nat) : Int) := by norm_cast
  have cc : ((x1 * 4294967296 + x0 : Nat) : Int) * ((y1 * 4294967296 + y0 : Nat) : Int) = (((x1 * 4294967296 + x0) * (y1 * 4294967296 + y0) : Nat) : Int) := by norm_cast
  rw [c11, c10, c01, c00, cc, e]
  generalize x1 * y1 = p at *
  generalize x1 * y0 = q at *
  generalize x0 * y1 = r at *
  generalize x0 * y0 = s at *
  simp only [w64]
  rw [cz _ ⟨by omega, by omega⟩]
  refine pr2 ?_ ?_ <;> omega
section
variable {a b c d : Int}
theorem umul_f (ha : 0 ≤ a) (hb : uu b) (hc : 0 ≤ c) (hd : uu d) (h1 : a ≤ b) (h2 : c ≤ d) : span_UMul.f a b c d = some (umul a b c d) := by
  obtain ⟨x, rfl, hx⟩ := exN hb
  obtain ⟨y, rfl, hy⟩ := exN hd
  unfold span_UMul.f umul all; rw [mul64_nat x y hx hy, uall]
  simp only [Option.bind_some, w64]
  have h3 : a * c ≤ (x : Int) * (y : Int) := Int.mul_le_mul h1 h2 hc (by omega)
  have h4 := Int.mul_nonneg ha hc
  have h5 : (x : Int) * (y : Int) = ((x * y : Nat) : Int) := by norm_cast
  rw [h5] at h3 ⊢
  generalize x * y = p at *
  generalize a * c = q at *
  repeat' split
  all_goals first | rfl | (exfalso; omega) | (refine pr2 ?_ ?_ <;> omega)
theorem rumul_f (ha : 0 ≤ a) (hb : uu b) (hc : 0 ≤ c) (hd : uu d) (h1 : a ≤ b) (h2 : c ≤ d) : lockgateref04_UMul.f a b c d = some (umul a b c d) := by
  unfold lockgateref04_UMul.f umul all; rw [ruall]
  simp only [Option.bind_some, w64]
  have h3 : a * c ≤ b * d := Int.mul_le_mul h1 h2 hc hb.1
  have h4 := Int.mul_nonneg ha hc
  have h5 := Int.mul_nonneg hb.1 hd.1
  rw [div_uu (x := 18446744073709551615) ⟨by decide, by decide⟩ hd.1]
  by_cases h0 : d = 0
  · subst h0
    rw [if_pos rfl, Int.mul_zero] at *
    rw [if_pos (by decide)]
    refine pr2 ?_ ?_ <;> omega
  · have hd0 : 0 < d := by have := hd.1; omega
    have key : b > 18446744073709551615 / d ↔ ¬ b * d < 18446744073709551616 := by
      rw [gt_iff_lt, Int.ediv_lt_iff_lt_mul hd0]; omega
    rw [if_neg h0]
    by_cases h6 : b * d < 18446744073709551616
    · rw [if_neg (fun h => absurd h6 (key.mp h)), if_pos h6]
      refine pr2 ?_ ?_ <;> omega
    · rw [if_pos (key.mpr h6), if_neg h6]
end
end Go.Proofs.Ytnephcecobocdaa.C04
