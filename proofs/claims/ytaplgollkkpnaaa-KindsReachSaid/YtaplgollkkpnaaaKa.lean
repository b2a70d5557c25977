/- Layer 18: plain facts: numbers, the lowest bits. -/
import Derived.Test.YtaplgollkkpnaaaXcG
import Derived.Test.YtaplgollkkpnaaaXcW
import Derived.Test.YtaplgollkkpnaaaBv
namespace Go.Proofs.Ytaplgollkkpnaaa.Ka
open Go Go.RowKit Go.Proofs Go.Proofs.Ytaplgollkkpnaaa.Xc Go.Proofs.Ytaplgollkkpnaaa.Bv
set_option maxRecDepth 100000
set_option linter.unusedVariables false
set_option linter.unusedSimpArgs false
noncomputable abbrev EEz : Eqs := [(30, eqS Try.prog 30)]
theorem eez : EqOk Try.prog EEz := eq_cons (by kernel_rfl) eq_nil
abbrev Sc (tv tm ul uh sl sh : Int) : Value := .agg #[.int .u64 tv, .int .u64 tm, .int .u64 ul, .int .u64 uh, .int .i64 sl, .int .i64 sh]
abbrev T2 (a b : Int) : Value := .agg #[.int .u64 a, .int .u64 b]
def pw (k : Nat) : Int := 2 ^ k - 1
abbrev S2 (a b : Int) : Value := .agg #[.int .i64 a, .int .i64 b]
def u6 (x : Int) : Prop := 0 ≤ x ∧ x < 18446744073709551616
theorem uW (v : Int) : IntKind.u64.wrap v = v % 18446744073709551616 := by rw [wrap_u64, U_ofInt]
theorem exu {x : Int} (h : u6 x) : ∃ X : W, x = U X := ⟨BitVec.ofInt 64 x, by rw [U_ofInt]; unfold u6 at h; omega⟩
theorem divp (v : W) (n : Nat) : U v / 2 ^ n = U (v >>> n) := by
  unfold U; rw [BitVec.toNat_ushiftRight, Nat.shiftRight_eq_div_pow]; simp
theorem mulp (v : W) (n : Nat) : IntKind.u64.wrap (U v * 2 ^ n) = U (v <<< n) := by
  rw [wrap_u64]
  apply congrArg
  apply BitVec.eq_of_toNat_eq
  rw [BitVec.toNat_shiftLeft, Nat.shiftLeft_eq]
  unfold U
  rw [show ((v.toNat : Int) * 2 ^ n) = ((v.toNat * 2 ^ n : Nat) : Int) by simp, BitVec.ofInt_natCast, BitVec.toNat_ofNat]
/-- A value without the bits of a mask. -/
def dj (a b : Int) : Prop := ∃ A B : W, a = U A ∧ b = U B ∧ A &&& B = 0#64
theorem dj0 {v : Int} (h : u6 v) : dj v 0 := by
  obtain ⟨V, rfl⟩ := exu h
  exact ⟨V, 0#64, rfl, rfl, by simp⟩
theorem dj_u {a b : Int} (h : dj a b) : u6 a ∧ u6 b := by
  obtain ⟨A, B, rfl, rfl, _⟩ := h; exact ⟨⟨U_nonneg _, U_lt _⟩, ⟨U_nonneg _, U_lt _⟩⟩
def anI (_ : Int) : Prop := True
def anB (_ : Bool) : Prop := True
/-- The lowest i bits. -/
def low (i : Nat) (X : W) : W := BitVec.ofNat 64 (X.toNat % 2 ^ i)
theorem low_bit {i j : Nat} (X : W) (hj : j < 64) : (low i X).getLsbD j = (decide (j < i) && X.getLsbD j) := by
  unfold low
  rw [BitVec.getLsbD_ofNat, Nat.testBit_mod_two_pow, decide_eq_true hj, Bool.true_and]; rfl
theorem low_zero (X : W) : low 0 X = 0#64 := by
  apply BitVec.eq_of_getLsbD_eq; intro j hj; rw [low_bit X hj]; simp
theorem low_all (X : W) : low 64 X = X := by
  apply BitVec.eq_of_getLsbD_eq; intro j hj; rw [low_bit X hj]; simp [hj]
theorem low_no {i : Nat} (X : W) (h : X.getLsbD i = false) : low (i + 1) X = low i X := by
  apply BitVec.eq_of_getLsbD_eq; intro j hj
  rw [low_bit X hj, low_bit X hj]
  by_cases e : j = i
  · subst e; rw [h]; simp
  · rw [show decide (j < i + 1) = decide (j < i) by simp; omega]
theorem one_bit (k : Nat) : (1#64).getLsbD k = decide (k = 0) := by
  rw [BitVec.getLsbD_one]; simp [eq_comm]
theorem low_yes {i : Nat} (hi : i < 64) (X : W) (h : X.getLsbD i = true) : low i X ||| (1#64 <<< i) = low (i + 1) X := by
  apply BitVec.eq_of_getLsbD_eq; intro j hj
  rw [BitVec.getLsbD_or, low_bit X hj, low_bit X hj, BitVec.getLsbD_shiftLeft, one_bit, decide_eq_true hj]
  by_cases e : j = i
  · subst e; rw [h]; simp
  · by_cases l : j < i
    · rw [decide_eq_true l, decide_eq_true (show j < i + 1 by omega)]; simp
    · rw [decide_eq_false l, decide_eq_false (show ¬ j < i + 1 by omega), decide_eq_false (show ¬ j - i = 0 by omega)]; simp
def bt (b : Bool) : Int := bif b then 1 else 0
theorem tb {i : Nat} (hi : i < 64) (X : W) : Int.tmod (U X / 2 ^ min (Int.toNat (i : Int)) (IntKind.bits .u64)) 2 = bt (X.getLsbD i) := by
  rw [Int.toNat_natCast, show IntKind.bits .u64 = 64 from rfl, Nat.min_eq_left (by omega), divp, Int.tmod_eq_emod_of_nonneg (U_nonneg _)]
  unfold U
  rw [BitVec.toNat_ushiftRight, Nat.shiftRight_eq_div_pow, show X.getLsbD i = X.toNat.testBit i from rfl, Nat.testBit_eq_decide_div_mod_eq]
  rcases Nat.mod_two_eq_zero_or_one (X.toNat / 2 ^ i) with e | e
  · rw [e]; have h2 : ((X.toNat / 2 ^ i : Nat) : Int) % 2 = 0 := by omega
    rw [h2]; rfl
  · rw [e]; have h2 : ((X.toNat / 2 ^ i : Nat) : Int) % 2 = 1 := by omega
    rw [h2]; rfl
theorem upO {i : Nat} (hi : i < 64) (X : W) : Go.bits .or .u64 (U (low i X)) (IntKind.wrap .u64 (bt (X.getLsbD i) * 2 ^ min (Int.toNat (i : Int)) (IntKind.bits .u64))) = U (low (i + 1) X) := by
  rw [Int.toNat_natCast, show IntKind.bits .u64 = 64 from rfl, Nat.min_eq_left (by omega)]
  cases h : X.getLsbD i
  · rw [low_no X h, show bt false = U 0#64 from rfl, mulp, b_or, ofInt_U, ofInt_U]; simp
  · rw [show bt true = U 1#64 from rfl, mulp, b_or, ofInt_U, ofInt_U, low_yes hi X h]
theorem up1 {i : Nat} (hi : i < 64) (X : W) (h : X.getLsbD i = true) : Go.bits .or .u64 (U (low i X)) (IntKind.wrap .u64 (1 * 2 ^ min (Int.toNat (i : Int)) (IntKind.bits .u64))) = U (low (i + 1) X) := by
  have := upO hi X; rw [h] at this; exact this
theorem nxt {i : Nat} (hi : i < 64) : IntKind.wrap .u64 ((i : Int) + 1) = ((i + 1 : Nat) : Int) := by rw [uW]; omega
theorem bt0 (b : Bool) : (bt b == 0) = !b := by cases b <;> rfl
theorem bt1 (b : Bool) : (bt b == 1) = b := by cases b <;> rfl
theorem btn (a b : Bool) : (bt a != bt b) = (a ^^ b) := by cases a <;> cases b <;> rfl
theorem bte (a b : Bool) : (bt a == bt b) = !(a ^^ b) := by cases a <;> cases b <;> rfl
end Go.Proofs.Ytaplgollkkpnaaa.Ka
