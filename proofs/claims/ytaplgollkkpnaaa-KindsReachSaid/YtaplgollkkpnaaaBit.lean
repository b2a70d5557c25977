/- Loops that go through the bits of a number: what comes of them. -/
import Derived.Test.YtaplgollkkpnaaaBv
set_option linter.unusedVariables false
set_option linter.unusedSimpArgs false
set_option linter.unusedSectionVars false
namespace Go.Proofs.Ytaplgollkkpnaaa.Bv
open Go.RowKit Go.Proofs.Ytaplgollkkpnaaa.PA
theorem getLsbD_one_shl (i j : Nat) (hj : j < 64) : ((1 : W) <<< i).getLsbD j = decide (j = i) := by
  rw [BitVec.getLsbD_shiftLeft]
  by_cases h : j = i
  · subst h; simp [hj]
  · by_cases h2 : j < i
    · simp [h2, h]
    · have : j - i ≠ 0 := by omega
      simp [h2, h, this]
/-- a bit as a number. -/
def b1 (b : Bool) : W := if b then 1 else 0
theorem U_b1 (b : Bool) : U (b1 b) = if b then 1 else 0 := by cases b <;> rfl
theorem bit_at (v : W) (j : Nat) : Int.tmod (shr .u64 (U v) (j : Int)) 2 = U (b1 (v.getLsbD j)) := by
  rw [shr_U]
  have h : (v >>> j).toNat % 2 = (b1 (v.getLsbD j)).toNat := by
    have := BitVec.toNat_ushiftRight v j
    rw [this, BitVec.getLsbD, Nat.testBit, b1]
    rw [Nat.and_comm, Nat.and_one_is_mod]
    rcases Nat.mod_two_eq_zero_or_one (v.toNat >>> j) with h | h <;> simp [h]
  have e : Int.tmod (U (v >>> ((j : Int).toNat))) 2 = (U (v >>> j)) % 2 := by
    rw [Int.tmod_eq_emod_of_nonneg (U_nonneg _)]; simp
  rw [e]; unfold U; omega
theorem bit_eq0 (v : W) (j : Nat) : (Int.tmod (shr .u64 (U v) (j : Int)) 2 = 0) ↔ v.getLsbD j = false := by
  rw [bit_at, U_b1]; cases v.getLsbD j <;> simp
theorem bit_eq1 (v : W) (j : Nat) : (Int.tmod (shr .u64 (U v) (j : Int)) 2 = 1) ↔ v.getLsbD j = true := by
  rw [bit_at, U_b1]; cases v.getLsbD j <;> simp
theorem bit_eq (v x : W) (j : Nat) : (Int.tmod (shr .u64 (U v) (j : Int)) 2 = Int.tmod (shr .u64 (U x) (j : Int)) 2) ↔ v.getLsbD j = x.getLsbD j := by
  rw [bit_at, bit_at, U_b1, U_b1]; cases v.getLsbD j <;> cases x.getLsbD j <;> simp
theorem shl_bit (b : Bool) (i : Nat) : shl .u64 (U (b1 b)) (i : Int) = U (b1 b <<< i) := by rw [shl_U]; simp
/-- the number whose bits below n are b's. -/
def acc (b : Nat → Bool) : Nat → W
  | 0 => 0
  | n + 1 => acc b n ||| b1 (b n) <<< n
theorem getLsbD_b1_shl (b : Bool) (i j : Nat) (hj : j < 64) : (b1 b <<< i).getLsbD j = (decide (j = i) && b) := by
  cases b
  · simp [b1]
  · have := getLsbD_one_shl i j hj
    simpa [b1] using this
theorem acc_bit (b : Nat → Bool) (n j : Nat) (hj : j < 64) : (acc b n).getLsbD j = (decide (j < n) && b j) := by
  induction n with
  | zero => simp [acc]
  | succ n ih =>
    rw [acc, BitVec.getLsbD_or, ih, getLsbD_b1_shl _ _ _ hj]
    by_cases h : j = n
    · subst h; simp
    · by_cases h2 : j < n
      · simp [h2, show j < n + 1 by omega, h]
      · simp [h2, show ¬ j < n + 1 by omega, h]
theorem acc_self (v : W) : acc (fun i => v.getLsbD i) 64 = v := by
  apply BitVec.eq_of_getLsbD_eq
  intro i hi
  rw [acc_bit _ _ _ hi]; simp [hi]
theorem acc_eq {b : Nat → Bool} {v : W} {n : Nat} (hn : n ≤ 64) (h1 : ∀ i, i < n → v.getLsbD i = b i) (h2 : ∀ i, n ≤ i → i < 64 → v.getLsbD i = false) : acc b n = v := by
  apply BitVec.eq_of_getLsbD_eq
  intro i hi
  rw [acc_bit _ _ _ hi]
  by_cases h : i < n
  · simp [h, h1 i h]
  · simp [h, h2 i (by omega) hi]
theorem u_succ (i : Nat) (h : i < 64) : IntKind.u64.wrap ((i : Int) + 1) = ((i + 1 : Nat) : Int) := by
  rw [wrap_u64, U_ofInt]; omega
theorem and_bit {v m : W} (h : v &&& m = 0) (i : Nat) : (v.getLsbD i && m.getLsbD i) = false := by
  rw [← BitVec.getLsbD_and, h]; simp
theorem and_zero_of {v m : W} (h : ∀ i, i < 64 → (v.getLsbD i && m.getLsbD i) = false) : v &&& m = 0 := by
  apply BitVec.eq_of_getLsbD_eq
  intro i hi
  rw [BitVec.getLsbD_and, h i hi]; simp
/-- one step of a printed function: a call, a test. -/
theorem bs {α β : Type} {x : Option α} {f : α → Option β} {a : α} {r : Option β} (h : x = some a) (h2 : f a = r) : x.bind f = r := by rw [h]; exact h2
theorem ift {α : Type} {c : Prop} [Decidable c] {t e r : α} (h : c) (h2 : t = r) : (if c then t else e) = r := by rw [if_pos h]; exact h2
theorem ife {α : Type} {c : Prop} [Decidable c] {t e r : α} (h : ¬ c) (h2 : e = r) : (if c then t else e) = r := by rw [if_neg h]; exact h2
theorem nt : ¬ (false = true) := by decide
end Go.Proofs.Ytaplgollkkpnaaa.Bv
