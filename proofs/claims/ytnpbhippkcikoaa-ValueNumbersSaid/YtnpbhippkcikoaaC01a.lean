/- Layer 1's reference: its Alu is the program's. -/
import Derived.Test.YtnpbhippkcikoaaC01b
import Derived.Test.YtnpbhippkcikoaaPA14
set_option linter.unusedVariables false
set_option linter.unusedSimpArgs false
set_option linter.unusedSectionVars false
namespace Go.Proofs.Ytnpbhippkcikoaa.C01
open Go.RowKit Go.Proofs.YtnpbhippkcikoaaW.PrintWords Go.Proofs.YtnpbhippkcikoaaW.PrintLast Go.Proofs.YtnpbhippkcikoaaW.PrintMore Go.Proofs.Ytnpbhippkcikoaa.PA Go.Proofs.Ytnpbhippkcikoaa.Bv
theorem cases13 {op : Int} (h : 0 ≤ op ∧ op ≤ 12) : op = 0 ∨ op = 1 ∨ op = 2 ∨ op = 3 ∨ op = 4 ∨ op = 5 ∨ op = 6 ∨ op = 7 ∨ op = 8 ∨ op = 9 ∨ op = 10 ∨ op = 11 ∨ op = 12 := by omega
theorem pos_iff (b : W) : (U b > 0) ↔ b ≠ 0 := by
  have h1 := U_eq_zero b
  have h2 := U_nonneg b
  constructor
  · intro h e; have := h1.2 e; omega
  · intro h; have : ¬ U b = 0 := fun e => h (h1.1 e); omega
theorem div_zero (a : W) : a / 0 = 0 := by apply BitVec.eq_of_toNat_eq; rw [BitVec.toNat_udiv]; simp
theorem mod_zero (a : W) : a % 0 = a := by apply BitVec.eq_of_toNat_eq; rw [BitVec.toNat_umod]; simp
/-- how many bits; what is low. -/
def wd (wide : Bool) : Nat := if wide then 64 else 32
def low (wide : Bool) (a : W) : W := if wide then a else up (lo a)
theorem low_f (wide : Bool) (a : W) : lockgateref01_Low.f (U a) (wd wide : Int) = some (U (low wide a)) := by
  cases wide
  · exact low32_f a
  · exact low64_f a
theorem low0_f (wide : Bool) : lockgateref01_Low.f 0 (wd wide : Int) = some (U (low wide 0)) := low_f wide 0
theorem wd_wrap (wide : Bool) : IntKind.u64.wrap (wd wide : Int) = (wd wide : Int) := by cases wide <;> decide
theorem wd_ne (wide : Bool) : ¬ ((wd wide : Int) = 0) := by cases wide <;> decide
theorem wd_cnt (wide : Bool) (b : W) : wrap64 (Int.tmod (U b) (wd wide : Int)) = ((b.toNat % wd wide : Nat) : Int) := by
  cases wide
  · show wrap64 (Int.tmod (U b) 32) = ((b.toNat % 32 : Nat) : Int)
    rw [cntU32]; unfold wrap64; omega
  · show wrap64 (Int.tmod (U b) 64) = ((b.toNat % 64 : Nat) : Int)
    rw [cntU64]; unfold wrap64; omega
theorem wd_le (wide : Bool) : wd wide ≤ 64 ∧ 0 < wd wide := by cases wide <;> decide
theorem wd_top (wide : Bool) : wrap64 ((wd wide : Int) - 1) = ((wd wide - 1 : Nat) : Int) := by cases wide <;> (unfold wrap64; decide)
/-- what the reference makes, before it is cut. -/
def res (wide : Bool) (op : Int) (a b : W) : W := if op = 7 then acc (fun j => if j + b.toNat % wd wide < wd wide then a.getLsbD (j + b.toNat % wd wide) else false) (wd wide)
  else if op = 12 then acc (fun j => if j + b.toNat % wd wide < wd wide then a.getLsbD (j + b.toNat % wd wide) else a.getLsbD (wd wide - 1)) (wd wide)
  else if op = 6 then a <<< (b.toNat % wd wide) else aluW op a b
section
variable (wide : Bool) (a b : W)
theorem j2_bits (k : Nat) (hk : 280 ≤ k) (op : Int) (hop : op = 4 ∨ op = 5 ∨ op = 10) (n o : Int) : lockgateref01_Alu.j2 k op (U a) (U b) (wd wide : Int) n o true = some (U (low wide (res wide op a b)), true) := by
  obtain ⟨k, rfl⟩ : ∃ m, k = m + 1 := ⟨k - 1, by omega⟩
  rw [lockgateref01_Alu.j2, if_pos rfl, bits_f k (by omega) op hop]
  simp only [Option.bind_some, low_f]
  have e : res wide op a b = aluW op a b := by rcases hop with rfl | rfl | rfl <;> simp [res]
  rw [e]
theorem j2_rest (k : Nat) (hk : 280 ≤ k) (op : Int) (hop : op = 6 ∨ op = 7 ∨ op = 8 ∨ op = 11 ∨ op = 12) : lockgateref01_Alu.j2 k op (U a) (U b) (wd wide : Int) ((b.toNat % wd wide : Nat) : Int) op false = some (U (low wide (res wide op a b)), true) := by
  obtain ⟨k, rfl⟩ : ∃ m, k = m + 1 := ⟨k - 1, by omega⟩
  obtain ⟨w1, w2⟩ := wd_le wide
  have hl : b.toNat % wd wide < wd wide := Nat.mod_lt _ w2
  rw [lockgateref01_Alu.j2, if_neg (by decide)]
  rcases hop with rfl | rfl | rfl | rfl | rfl
  · rw [if_pos rfl, w_nat _ (by omega), if_pos (by omega), shl_U, Int.toNat_natCast, low_f]
    simp [res]
  · have hd : lockgateref01_down.f k (U a) ((b.toNat % wd wide : Nat) : Int) (wd wide : Int) 0 = _ := down_f k (by omega) a (b.toNat % wd wide) (wd wide) w1 (by omega) false
    rw [if_neg (by decide), if_pos rfl, hd]
    simp only [Option.bind_some, low_f]
    simp [res]
  · have h0 : lockgateref01_add.f k 0 (U (~~~a)) 1 = some (U (0 - a)) := add1_f k (by omega) 0 a
    have e0 : (0 : W) - a = -a := by simp
    rw [e0] at h0
    rw [if_neg (by decide), if_neg (by decide), if_pos rfl, not_f k (by omega)]
    simp only [Option.bind_some, h0, low_f]
    simp [res, aluW]
  · rw [if_neg (by decide), if_neg (by decide), if_neg (by decide), if_pos rfl, low_f]
    simp [res, aluW]
  · rw [if_neg (by decide), if_neg (by decide), if_neg (by decide), if_neg (by decide), if_pos rfl, wd_top, bit_f a _ (by omega)]
    simp only [Option.bind_some]
    rw [down_f k (by omega) a (b.toNat % wd wide) (wd wide) w1 (by omega)]
    simp only [Option.bind_some, low_f]
    simp [res]
theorem j2_none (k : Nat) (hk : 1 ≤ k) (op : Int) (h : ¬ (0 ≤ op ∧ op ≤ 12)) (n : Int) : lockgateref01_Alu.j2 k op (U a) (U b) (wd wide : Int) n op false = some (0, false) := by
  obtain ⟨k, rfl⟩ : ∃ m, k = m + 1 := ⟨k - 1, by omega⟩
  rw [lockgateref01_Alu.j2, if_neg (by decide), if_neg (by omega), if_neg (by omega), if_neg (by omega), if_neg (by omega), if_neg (by omega)]
theorem j1_div (k : Nat) (hk : 290 ≤ k) (op : Int) (hop : op = 3 ∨ op = 9) (n o : Int) : lockgateref01_Alu.j1 k op (U a) (U b) (wd wide : Int) n o true = some (U (low wide (res wide op a b)), true) := by
  obtain ⟨k, rfl⟩ : ∃ m, k = m + 1 := ⟨k - 1, by omega⟩
  rw [lockgateref01_Alu.j1, if_pos rfl]
  by_cases hb : b = 0
  · rw [if_neg (by rw [pos_iff]; exact fun h => h hb)]
    subst hb
    rcases hop with rfl | rfl
    · rw [if_neg (by decide), low0_f]; simp [res, aluW]
    · rw [if_pos rfl, low_f]; simp [res, aluW]
  · rw [if_pos ((pos_iff b).2 hb), divide_f k (by omega) a b hb]
    rcases hop with rfl | rfl
    · simp only [Option.bind_some]
      rw [if_neg (by decide), low_f]; simp [res, aluW]
    · simp only [Option.bind_some]
      rw [if_pos trivial, low_f]; simp [res, aluW]
theorem j1_other (k : Nat) (hk : 290 ≤ k) (op : Int) (h : 4 ≤ op ∧ op ≤ 12 ∧ op ≠ 9) : lockgateref01_Alu.j1 k op (U a) (U b) (wd wide : Int) ((b.toNat % wd wide : Nat) : Int) op false = some (U (low wide (res wide op a b)), true) := by
  obtain ⟨k, rfl⟩ : ∃ m, k = m + 1 := ⟨k - 1, by omega⟩
  rw [lockgateref01_Alu.j1, if_neg (by decide)]
  by_cases h4 : op = 4
  · rw [if_pos h4, show (op == 4) = true by simpa using h4]; exact j2_bits wide a b k (by omega) op (.inl h4) _ _
  · rw [if_neg h4]
    by_cases h5 : op = 5
    · rw [if_pos h5, show (op == 5) = true by simpa using h5]; exact j2_bits wide a b k (by omega) op (.inr (.inl h5)) _ _
    · rw [if_neg h5]
      by_cases h10 : op = 10
      · rw [show (op == 10) = true by simpa using h10]; exact j2_bits wide a b k (by omega) op (.inr (.inr h10)) _ _
      · rw [show (op == 10) = false by simpa using h10]; exact j2_rest wide a b k (by omega) op (by omega)
theorem j1_none (k : Nat) (hk : 2 ≤ k) (op : Int) (h : ¬ (0 ≤ op ∧ op ≤ 12)) (n : Int) : lockgateref01_Alu.j1 k op (U a) (U b) (wd wide : Int) n op false = some (0, false) := by
  obtain ⟨k, rfl⟩ : ∃ m, k = m + 1 := ⟨k - 1, by omega⟩
  have h10 : (op == 10) = false := by simp; omega
  rw [lockgateref01_Alu.j1, if_neg (by decide), if_neg (by omega), if_neg (by omega), h10]
  exact j2_none wide a b k (by omega) op h n
theorem j0_f (k : Nat) (hk : 300 ≤ k) (op : Int) : lockgateref01_Alu.j0 k op (U a) (U b) (wd wide : Int) = if 0 ≤ op ∧ op ≤ 12 then some (U (low wide (res wide op (low wide a) (low wide b))), true) else some (0, false) := by
  obtain ⟨k, rfl⟩ : ∃ m, k = m + 1 := ⟨k - 1, by omega⟩
  rw [lockgateref01_Alu.j0, low_f, low_f]
  refine bs rfl (bs rfl ?_)
  generalize low wide a = A
  generalize low wide b = B
  rw [wd_wrap, if_neg (wd_ne wide), wd_cnt]
  by_cases h0 : op = 0
  · subst h0; rw [if_pos rfl, if_pos (by decide), add0_f k (by omega)]; simp only [Option.bind_some, low_f]; simp [res, aluW]
  · rw [if_neg h0]
    by_cases h1 : op = 1
    · subst h1; rw [if_pos rfl, if_pos (by decide), not_f k (by omega)]; simp only [Option.bind_some, add1_f k (show 65 ≤ k by omega), low_f]; simp [res, aluW]
    · rw [if_neg h1]
      by_cases h2 : op = 2
      · subst h2; rw [if_pos rfl, if_pos (by decide), times_f k (by omega)]; simp only [Option.bind_some, low_f]; simp [res, aluW]
      · rw [if_neg h2]
        by_cases h3 : op = 3
        · subst h3; rw [if_pos rfl, if_pos (by decide)]; exact j1_div wide A B k (by omega) 3 (.inl rfl) _ _
        · rw [if_neg h3]
          by_cases h9 : op = 9
          · subst h9; rw [if_pos (by decide)]; exact j1_div wide A B k (by omega) 9 (.inr rfl) _ _
          · rw [show (op == 9) = false by simpa using h9]
            by_cases h : 0 ≤ op ∧ op ≤ 12
            · rw [if_pos h]; exact j1_other wide A B k (by omega) op (by omega)
            · rw [if_neg h]; exact j1_none wide A B k (by omega) op h _
end
end Go.Proofs.Ytnpbhippkcikoaa.C01
