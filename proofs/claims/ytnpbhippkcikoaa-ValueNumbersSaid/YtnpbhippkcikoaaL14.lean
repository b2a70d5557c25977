/- Layer 14's laws: what they share. -/
import Derived.Test.YtnpbhippkcikoaaC14r
import Derived.Test.YtnpbhippkcikoaaC14c
import Derived.Test.YtnpbhippkcikoaaPA20
set_option linter.unusedVariables false
set_option linter.unusedSimpArgs false
set_option linter.unusedSectionVars false
namespace Go.Proofs.Ytnpbhippkcikoaa.C14
open Go.RowKit Go.Proofs.YtnpbhippkcikoaaW.PrintWords Go.Proofs.YtnpbhippkcikoaaW.PrintLast Go.Proofs.YtnpbhippkcikoaaW.PrintMore Go.Proofs.Ytnpbhippkcikoaa.PA Go.Proofs.Ytnpbhippkcikoaa.Bv Go.Proofs.Ytnpbhippkcikoaa.C01
theorem eq3 {a b c d e f : Int} (h : a = d ∧ b = e ∧ c = f) : (a == d && (b == e && (c == f))) = true := by rw [Bool.and_eq_true, Bool.and_eq_true, beq_iff_eq, beq_iff_eq, beq_iff_eq]; exact h
theorem same3 (a b c : Int) : (a == a && (b == b && (c == c))) = true := eq3 ⟨rfl, rfl, rfl⟩
theorem vA_no {op : Int} (h : ¬ (0 ≤ op ∧ op ≤ 12)) (wide : Bool) (a0 : Int) (x : W) (a2 b0 : Int) (y : W) (b2 : Int) : vA op wide a0 x a2 b0 y b2 = (0, 0, 0, 4) := by unfold vA; rw [if_pos h]
theorem vA_num {op : Int} (h : 0 ≤ op ∧ op ≤ 12) (wide : Bool) (x : W) (a2 : Int) (y : W) (b2 : Int) : vA op wide 1 x a2 1 y b2 = (1, U (alu op wide x y), 0, 0) := by
  unfold vA; rw [if_neg (fun q => q h), if_neg (by omega), if_pos (⟨Or.inr rfl, Or.inr rfl⟩)]
theorem pl_ne {a : Int} (h : pl a = true) : a ≠ 0 ∧ a ≠ 1 := by rw [pl_iff] at h; omega
theorem vA_add {a : Int} (h : pl a = true) (x : W) (a2 : Int) (y : W) (b2 : Int) : vA 0 true a x a2 1 y b2 = (a, U (x + y), a2, 0) := by
  have := pl_ne h
  unfold vA pt; rw [if_neg (by omega), if_neg (by omega), if_neg (by omega), if_neg (by decide : ¬ (true = false)), if_neg (by omega), if_pos ⟨rfl, h, rfl⟩]
theorem vA_add' {a : Int} (h : pl a = true) (x : W) (a2 : Int) (y : W) (b2 : Int) : vA 0 true 1 y b2 a x a2 = (a, U (x + y), a2, 0) := by
  have := pl_ne h
  unfold vA pt; rw [if_neg (by omega), if_neg (by omega), if_neg (by omega), if_neg (by decide : ¬ (true = false)), if_neg (by omega), if_neg (fun q => absurd q.2.1 (by decide)), if_pos ⟨rfl, rfl, h⟩]
theorem vA_sub {a : Int} (h : pl a = true) (x : W) (a2 : Int) (y : W) (b2 : Int) : vA 1 true a x a2 1 y b2 = (a, U (x - y), a2, 0) := by
  have := pl_ne h
  unfold vA pt; rw [if_neg (by omega), if_neg (by omega), if_neg (by omega), if_neg (by decide : ¬ (true = false)), if_neg (by omega), if_neg (fun q => absurd q.1 (by decide)), if_neg (fun q => absurd q.1 (by decide)), if_pos ⟨rfl, h, rfl⟩]
theorem vC_end {op : Int} (hj : isJmp op = true) (h : ¬ (op = 1 ∨ op = 5)) (x y : W) (len : Int) : vC op true 2 x 3 y len = od op (wrap64 (U x)) len := by
  unfold vC cR; rw [if_pos hj, if_neg (by omega), if_neg (by omega), if_neg (by decide : ¬ (true = false)), if_neg h, if_pos ⟨rfl, rfl⟩]
theorem vC_end' {op : Int} (hj : isJmp op = true) (h : ¬ (op = 1 ∨ op = 5)) (x y : W) (len : Int) : vC op true 3 x 2 y len = od op len (wrap64 (U y)) := by
  unfold vC cR; rw [if_pos hj, if_neg (by omega), if_neg (by omega), if_neg (by decide : ¬ (true = false)), if_neg h, if_neg (by omega), if_pos ⟨rfl, rfl⟩]
theorem vC_narrow {op : Int} (hj : isJmp op = true) (x y : W) (len : Int) : vC op false 2 x 3 y len = (false, 21) := by
  unfold vC; rw [if_pos hj, if_neg (by omega), if_neg (by omega), if_pos rfl]
theorem vC_eq (x y : W) (len : Int) : vC 1 true 2 x 3 y len = (false, 21) := by
  unfold vC cR; rw [if_pos (by decide), if_neg (by omega), if_neg (by omega), if_neg (by decide : ¬ (true = false)), if_pos (Or.inl rfl), if_neg (by unfold nul; omega)]
theorem vC_two {op : Int} (hj : isJmp op = true) (h : ¬ (op = 1 ∨ op = 5)) (x y : W) (len : Int) : vC op true 2 x 2 y len = (false, 21) := by
  unfold vC cR; rw [if_pos hj, if_neg (by omega), if_neg (by omega), if_neg (by decide : ¬ (true = false)), if_neg h, if_neg (by omega), if_neg (by omega)]
theorem vC_num {op : Int} (hj : isJmp op = true) (wide : Bool) (x y : W) (len : Int) : vC op wide 1 x 1 y len = (jmp op wide x y, 0) := by
  unfold vC; rw [if_pos hj, if_neg (by omega), if_pos ⟨rfl, rfl⟩]
theorem vC_no {op : Int} (hj : ¬ isJmp op = true) (wide : Bool) (a0 : Int) (x : W) (b0 : Int) (y : W) (len : Int) : vC op wide a0 x b0 y len = (false, 4) := by
  unfold vC; rw [if_neg hj]
theorem od_gt (p q : Int) : od 2 p q = (decide (p > q), 0) := rfl
theorem od_ge (p q : Int) : od 3 p q = (decide (p ≥ q), 0) := rfl
theorem od_lt (p q : Int) : od 10 p q = (decide (p < q), 0) := rfl
theorem od_le (p q : Int) : od 11 p q = (decide (p ≤ q), 0) := rfl
theorem wrap_one (n : Int) : IntKind.u64.wrap n = n % 18446744073709551616 := by rw [wrap_u64, U_ofInt]
theorem code_f (a : Int) : value_Code.f a = some (1, (-a) % 18446744073709551616, 0) := by
  unfold value_Code.f
  refine bs (a := (1, IntKind.u64.wrap (wrap64 (-a)), 0)) rfl ?_
  rw [wrap_one]
  have : wrap64 (-a) % 18446744073709551616 = (-a) % 18446744073709551616 := by unfold wrap64; omega
  rw [this]
theorem rcode_f (a : Int) : lockgateref14_Code.f a = some (1, (-a) % 18446744073709551616, 0) := by
  unfold lockgateref14_Code.f
  refine bs (a := (1, IntKind.u64.wrap (-(IntKind.u64.wrap a)), 0)) rfl ?_
  rw [wrap_one, wrap_one]
  have : (-(a % 18446744073709551616)) % 18446744073709551616 = (-a) % 18446744073709551616 := by omega
  rw [this]
theorem w14 : wrap64 (U (14 : W)) = 14 := by show wrap64 14 = 14; unfold wrap64; omega
theorem works_f (k : Nat) (hk : 12 ≤ k) : lockgatelaw14_works.f k = some true := by
  have h8 : U (-8 : W) = 18446744073709551608 := by decide
  have a1 : value_Alu.f k 0 true 4 0 0 1 18446744073709551608 0 = some (4, 18446744073709551608, 0, 0) := by
    have := valu_f k hk 0 true 4 0 0 1 (-8) 0
    rw [vA_add (by decide), h8] at this
    exact this.trans (by decide)
  have a2 : value_Alu.f k 0 false 4 0 0 1 1 0 = some (0, 0, 0, 21) := by
    have := valu_f k hk 0 false 4 0 0 1 1 0
    exact this.trans (by decide)
  have a3 : value_Compare.f k 11 true 2 14 0 3 0 0 14 = some (true, 0) := by
    have := vcmp_f k (by omega) 11 true 2 14 0 3 0 0 14
    rw [vC_end (by decide) (by decide), od_le, w14] at this
    exact this.trans (by decide)
  have a4 : value_Compare.f k 11 true 2 14 0 3 0 0 13 = some (false, 0) := by
    have := vcmp_f k (by omega) 11 true 2 14 0 3 0 0 13
    rw [vC_end (by decide) (by decide), od_le, w14] at this
    exact this.trans (by decide)
  unfold lockgatelaw14_works.f
  refine bs (a := (1, 18446744073709551608, 0)) rfl (bs a1 (bs (a := (1, 1, 0)) rfl (bs a2 (bs a3 (bs a4 ?_)))))
  refine ift rfl (ift (same3 4 18446744073709551608 0) (ift rfl (ift rfl (ift rfl (ift rfl (ife nt (bs (code_f 10) ?_)))))))
  decide
/-- a number in a byte order. -/
def vw (n : Int) (big : Bool) (v : W) : Int × Bool := if n = 16 then (U (swp 2 big v), true) else if n = 32 then (U (swp 4 big v), true) else if n = 64 then (U (swp 8 big v), true) else (0, false)
theorem wswap_f (k : Nat) (hk : 10 ≤ k) (n : Int) (big : Bool) (v : W) : word_Swap.f k n big (U v) = some (vw n big v) := by
  unfold vw
  by_cases h1 : n = 16
  · rw [if_pos h1, h1]; exact swap_f k 2 (by omega) hk big v
  by_cases h2 : n = 32
  · rw [if_neg h1, if_pos h2, h2]; exact swap_f k 4 (by omega) hk big v
  by_cases h3 : n = 64
  · rw [if_neg h1, if_neg h2, if_pos h3, h3]; exact swap_f k 8 (by omega) hk big v
  rw [if_neg h1, if_neg h2, if_neg h3]; exact swap_n k (by omega) n ⟨h1, h2, h3⟩ big _
theorem rwswap_f (k : Nat) (hk : 10 ≤ k) (n : Int) (big : Bool) (v : W) : lockgateref01_Swap.f k n big (U v) = some (vw n big v) := by
  unfold vw
  by_cases h1 : n = 16
  · rw [if_pos h1, h1]; exact rswap_f k 2 (by omega) hk big v
  by_cases h2 : n = 32
  · rw [if_neg h1, if_pos h2, h2]; exact rswap_f k 4 (by omega) hk big v
  by_cases h3 : n = 64
  · rw [if_neg h1, if_neg h2, if_pos h3, h3]; exact rswap_f k 8 (by omega) hk big v
  rw [if_neg h1, if_neg h2, if_neg h3]; exact rswap_n k (by omega) n ⟨h1, h2, h3⟩ big _
def vS (n : Int) (big : Bool) (a0 : Int) (v : W) : Int × Int × Int × Int := if a0 = 0 then (0, 0, 0, 20) else if a0 = 1 then (if (vw n big v).2 = true then (1, (vw n big v).1, 0, 0) else (0, 0, 0, 1)) else (0, 0, 0, 21)
theorem vswap_f (k : Nat) (hk : 10 ≤ k) (n : Int) (big : Bool) (a0 : Int) (v : W) (a2 : Int) : value_Swap.f k n big a0 (U v) a2 = some (vS n big a0 v) := by
  unfold value_Swap.f vS
  by_cases h0 : a0 = 0
  · refine ift h0 ?_; rw [if_pos h0]
  refine ife h0 ?_
  rw [if_neg h0]
  by_cases h1 : a0 = 1
  · refine ift h1 (bs (wswap_f k hk n big v) ?_)
    rw [if_pos h1]
    by_cases h : (vw n big v).2 = true
    · refine ift h ?_; rw [if_pos h]; rfl
    · refine ife h ?_; rw [if_neg h]
  · refine ife h1 ?_; rw [if_neg h1]
theorem rvswap_f (k : Nat) (hk : 10 ≤ k) (n : Int) (big : Bool) (a0 : Int) (v : W) (a2 : Int) : lockgateref14_Swap.f k n big a0 (U v) a2 = some (vS n big a0 v) := by
  unfold lockgateref14_Swap.f vS
  by_cases h0 : a0 = 0
  · refine ift h0 ?_; rw [if_pos h0]
  refine ife h0 ?_
  rw [if_neg h0]
  by_cases h1 : a0 = 1
  · refine ift h1 (bs (rwswap_f k hk n big v) ?_)
    rw [if_pos h1]
    by_cases h : (vw n big v).2 = true
    · refine ift h ?_; rw [if_pos h]; rfl
    · refine ife h ?_; rw [if_neg h]
  · refine ife h1 ?_; rw [if_neg h1]
end Go.Proofs.Ytnpbhippkcikoaa.C14
