/- Layer 1's Alu, over bit vectors. -/
import Derived.Test.YtnpbhippkcikoaaBv32
import Derived.Test.YtnpbhippkcikoaaPA3
import Derived.Test.YtnpbhippkcikoaaPA4
set_option linter.unusedVariables false
set_option linter.unusedSimpArgs false
set_option linter.unusedSectionVars false
namespace Go.Proofs.Ytnpbhippkcikoaa.C01
open Go.RowKit Go.Proofs.YtnpbhippkcikoaaW.PrintWords Go.Proofs.YtnpbhippkcikoaaW.PrintLast Go.Proofs.YtnpbhippkcikoaaW.PrintMore Go.Proofs.Ytnpbhippkcikoaa.PA Go.Proofs.Ytnpbhippkcikoaa.Bv
/-- an operation of 64 bits, but for Arsh; is there one. -/
def aluW (op : Int) (a b : W) : W := if op = 0 then a + b else if op = 1 then a - b else if op = 2 then a * b else if op = 3 then a / b else if op = 9 then a % b else if op = 4 then a ||| b else if op = 5 then a &&& b else if op = 10 then a ^^^ b
  else if op = 6 then a <<< (b.toNat % 64) else if op = 7 then a >>> (b.toNat % 64) else if op = 8 then -a else if op = 11 then b else 0
def aluN (op : Int) (a b : W32) : W32 := if op = 0 then a + b else if op = 1 then a - b else if op = 2 then a * b else if op = 3 then a / b else if op = 9 then a % b else if op = 4 then a ||| b else if op = 5 then a &&& b else if op = 10 then a ^^^ b
  else if op = 6 then a <<< (b.toNat % 32) else if op = 7 then a >>> (b.toNat % 32) else if op = 8 then -a else if op = 11 then b else 0
def isAlu (op : Int) : Bool := decide (0 ≤ op ∧ op ≤ 11)
theorem U_div (a b : W) : Int.tdiv (U a) (U b) = U (a / b) := by
  rw [Int.tdiv_eq_ediv_of_nonneg (U_nonneg _)]; unfold U; rw [BitVec.toNat_udiv]; norm_cast
theorem U_mod (a b : W) : Int.tmod (U a) (U b) = U (a % b) := by
  rw [Int.tmod_eq_emod_of_nonneg (U_nonneg _)]; unfold U; rw [BitVec.toNat_umod]; norm_cast
theorem V_nonneg (x : W32) : 0 ≤ V x := by unfold V; omega
theorem V_div (a b : W32) : Int.tdiv (V a) (V b) = V (a / b) := by
  rw [Int.tdiv_eq_ediv_of_nonneg (V_nonneg _)]; unfold V; rw [BitVec.toNat_udiv]; norm_cast
theorem V_mod (a b : W32) : Int.tmod (V a) (V b) = V (a % b) := by
  rw [Int.tmod_eq_emod_of_nonneg (V_nonneg _)]; unfold V; rw [BitVec.toNat_umod]; norm_cast
theorem wrapU (x : W) : IntKind.u64.wrap (U x) = U x := by rw [wrap_u64, ofInt_U]
theorem V_inj (x y : W32) : V x = V y ↔ x = y := by
  constructor
  · intro h; have := congrArg (BitVec.ofInt 32) h; simpa [ofInt_V] using this
  · rintro rfl; rfl
theorem V_eq_zero (x : W32) : V x = 0 ↔ x = 0 := by rw [show (0 : Int) = V 0 from rfl, V_inj]
theorem cntU64 (n : W) : Int.tmod (U n) 64 = ((n.toNat % 64 : Nat) : Int) := by
  rw [Int.tmod_eq_emod_of_nonneg (U_nonneg _)]; unfold U; omega
theorem cntU32 (n : W) : Int.tmod (U n) 32 = ((n.toNat % 32 : Nat) : Int) := by
  rw [Int.tmod_eq_emod_of_nonneg (U_nonneg _)]; unfold U; omega
theorem cntV32 (n : W32) : Int.tmod (V n) 32 = ((n.toNat % 32 : Nat) : Int) := by
  rw [Int.tmod_eq_emod_of_nonneg (V_nonneg _)]; unfold V; omega
theorem mod32 (n : Int) : n % 4294967296 = V (BitVec.ofInt 32 n) := (V_ofInt n).symm
theorem oi32_sub (a b : Int) : BitVec.ofInt 32 (a - b) = BitVec.ofInt 32 a - BitVec.ofInt 32 b := by
  rw [Int.sub_eq_add_neg, BitVec.ofInt_add, BitVec.ofInt_neg, BitVec.sub_eq_add_neg]
theorem wrap_u32 (n : Int) : IntKind.u32.wrap n = V (BitVec.ofInt 32 n) := by
  rw [V_ofInt]; simp [IntKind.wrap, IntKind.signed, IntKind.bits]
theorem b32_wrap (z : W32) : IntKind.u32.wrap (z.toNat : Int) = V z := by
  rw [wrap_u32, BitVec.ofInt_natCast]; simp
theorem n_and (a b : Int) : Go.bits .and .u32 a b = V (BitVec.ofInt 32 a &&& BitVec.ofInt 32 b) := b32_wrap _
theorem n_or (a b : Int) : Go.bits .or .u32 a b = V (BitVec.ofInt 32 a ||| BitVec.ofInt 32 b) := b32_wrap _
theorem n_xor (a b : Int) : Go.bits .xor .u32 a b = V (BitVec.ofInt 32 a ^^^ BitVec.ofInt 32 b) := b32_wrap _
theorem shl_V (x : W32) (n : Nat) (hn : n < 32) : shl .u32 (V x) (n : Int) = V (x <<< n) := by
  unfold shl
  rw [wrap_u32]
  congr 1
  rw [BitVec.ofInt_mul, ofInt_V, Int.toNat_natCast, show IntKind.u32.bits = 32 from rfl, Nat.min_eq_left (by omega)]
  have e : (2 : Int) ^ n = ((2 ^ n : Nat) : Int) := by norm_cast
  rw [e, BitVec.ofInt_natCast]
  apply BitVec.eq_of_toNat_eq
  rw [BitVec.toNat_mul, BitVec.toNat_ofNat, BitVec.toNat_shiftLeft, Nat.shiftLeft_eq]
  simp [Nat.mul_mod]
theorem shr_V (x : W32) (n : Nat) (hn : n < 32) : shr .u32 (V x) (n : Int) = V (x >>> n) := by
  unfold shr V
  rw [BitVec.toNat_ushiftRight, Nat.shiftRight_eq_div_pow, Int.toNat_natCast, show IntKind.u32.bits = 32 from rfl, Nat.min_eq_left (by omega)]; norm_cast
theorem pure64_f (op : Int) (a b : W) : word_pure_uint64.f op (U a) (U b) 64 = some (U (aluW op a b), isAlu op) := by
  unfold word_pure_uint64.f aluW
  by_cases h : 0 ≤ op ∧ op ≤ 11
  · have hi : isAlu op = true := by unfold isAlu; simp [h]
    have z : (0 : Int) = U 0 := rfl
    rw [hi]
    obtain ⟨h1, h2⟩ := h
    have : op = 0 ∨ op = 1 ∨ op = 2 ∨ op = 3 ∨ op = 4 ∨ op = 5 ∨ op = 6 ∨ op = 7 ∨ op = 8 ∨ op = 9 ∨ op = 10 ∨ op = 11 := by omega
    rcases this with rfl | rfl | rfl | rfl | rfl | rfl | rfl | rfl | rfl | rfl | rfl | rfl
    · simp [wrap_u64, oi_add, ofInt_U]
    · simp [wrap_u64, oi_sub, ofInt_U]
    · simp [wrap_u64, oi_mul, ofInt_U]
    · simp only [U_div, wrapU, U_eq_zero]
      by_cases hb : b = 0
      · subst hb; simp [U]
      · rw [if_neg hb]; simp
    · simp [b_or, ofInt_U]
    · simp [b_and, ofInt_U]
    · obtain ⟨m, hm⟩ : ∃ m, m = b.toNat % 64 := ⟨_, rfl⟩
      simp only [cntU64, ← hm]; simp [shl_U]
    · obtain ⟨m, hm⟩ : ∃ m, m = b.toNat % 64 := ⟨_, rfl⟩
      simp only [cntU64, ← hm]; simp [shr_U]
    · simp [wrap_u64, oi_neg, ofInt_U]
    · simp only [U_mod, U_eq_zero]
      by_cases hb : b = 0
      · subst hb; simp
      · simp; intro e; exact absurd e hb
    · simp [b_xor, ofInt_U]
    · simp
  · have hi : isAlu op = false := by unfold isAlu; simp only [decide_eq_false_iff_not]; exact h
    rw [hi]
    have n0 : ∀ j : Int, 0 ≤ j ∧ j ≤ 11 → op ≠ j := fun j hj e => h (e ▸ hj)
    simp only [n0 0 (by decide), n0 1 (by decide), n0 2 (by decide), n0 3 (by decide), n0 4 (by decide), n0 5 (by decide), n0 6 (by decide), n0 7 (by decide), n0 8 (by decide), n0 9 (by decide), n0 10 (by decide), n0 11 (by decide), if_false]
    rfl
theorem pure32_f (op : Int) (a b : W32) : word_pure_uint32.f op (V a) (V b) 32 = some (V (aluN op a b), isAlu op) := by
  unfold word_pure_uint32.f aluN
  by_cases h : 0 ≤ op ∧ op ≤ 11
  · have hi : isAlu op = true := by unfold isAlu; simp [h]
    rw [hi]
    obtain ⟨h1, h2⟩ := h
    have : op = 0 ∨ op = 1 ∨ op = 2 ∨ op = 3 ∨ op = 4 ∨ op = 5 ∨ op = 6 ∨ op = 7 ∨ op = 8 ∨ op = 9 ∨ op = 10 ∨ op = 11 := by omega
    rcases this with rfl | rfl | rfl | rfl | rfl | rfl | rfl | rfl | rfl | rfl | rfl | rfl
    · simp [mod32, BitVec.ofInt_add, ofInt_V]
    · simp [mod32, oi32_sub, ofInt_V]
    · simp [mod32, BitVec.ofInt_mul, ofInt_V]
    · simp only [V_div, mod32, ofInt_V, V_eq_zero]
      by_cases hb : b = 0
      · subst hb; simp [V]
      · rw [if_neg hb]; simp
    · simp [n_or, ofInt_V]
    · simp [n_and, ofInt_V]
    · obtain ⟨m, hm⟩ : ∃ m, m = b.toNat % 32 := ⟨_, rfl⟩
      have hl : m < 32 := by omega
      simp only [cntV32, ← hm]; simp [shl_V _ _ hl]
    · obtain ⟨m, hm⟩ : ∃ m, m = b.toNat % 32 := ⟨_, rfl⟩
      have hl : m < 32 := by omega
      simp only [cntV32, ← hm]; simp [shr_V _ _ hl]
    · simp [mod32, BitVec.ofInt_neg, ofInt_V]
    · simp only [V_mod, V_eq_zero]
      by_cases hb : b = 0
      · subst hb; simp
      · simp; intro e; exact absurd e hb
    · simp [n_xor, ofInt_V]
    · simp
  · have hi : isAlu op = false := by unfold isAlu; simp only [decide_eq_false_iff_not]; exact h
    rw [hi]
    have n0 : ∀ j : Int, 0 ≤ j ∧ j ≤ 11 → op ≠ j := fun j hj e => h (e ▸ hj)
    simp only [n0 0 (by decide), n0 1 (by decide), n0 2 (by decide), n0 3 (by decide), n0 4 (by decide), n0 5 (by decide), n0 6 (by decide), n0 7 (by decide), n0 8 (by decide), n0 9 (by decide), n0 10 (by decide), n0 11 (by decide), if_false]
    rfl
def alu (op : Int) (wide : Bool) (a b : W) : W := if op = 12 then (if wide then a.sshiftRight (b.toNat % 64) else sar32 a (b.toNat % 32)) else if wide then aluW op a b else up (aluN op (lo a) (lo b))
def isOp (op : Int) : Bool := decide (0 ≤ op ∧ op ≤ 12)
theorem alu_f (k : Nat) (hk : 1 ≤ k) (op : Int) (wide : Bool) (a b : W) : word_Alu.f k op wide (U a) (U b) = some (U (alu op wide a b), isOp op) := by
  obtain ⟨k, rfl⟩ : ∃ m, k = m + 1 := ⟨k - 1, by omega⟩
  unfold word_Alu.f alu
  simp only [word_Alu.j0]
  by_cases h : op = 12
  · subst h
    simp only [if_true]
    cases wide
    · simp only [Bool.false_eq_true, if_false, cntU32]
      rw [if_pos (by omega), sar32_f]; rfl
    · simp only [if_true, cntU64, wrap_u64, wrap_i64, ofInt_U]
      rw [if_pos (by omega), shr_S, ofInt_S]; rfl
  · have hi : isOp op = isAlu op := by unfold isOp isAlu; rw [decide_eq_decide]; omega
    simp only [if_neg h, Bool.false_eq_true, if_false, hi]
    cases wide
    · simp only [Bool.false_eq_true, if_false]; rw [U_mod32, U_mod32, pure32_f]; simp only [Option.bind_some, ← U_up, wrapU]
    · simp only [if_true, pure64_f, Option.bind_some]
end Go.Proofs.Ytnpbhippkcikoaa.C01
