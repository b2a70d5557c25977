/- ValueNumbers, without Go. -/
import Derived.Test.YtnpbhippkcikoaaL14
import Derived.Test.YtnpbhippkcikoaaPA27
set_option linter.unusedVariables false
set_option linter.unusedSimpArgs false
set_option linter.unusedSectionVars false
namespace Go.Proofs.Ytnpbhippkcikoaa.LValueNumbers
open Go.RowKit Go.Proofs.YtnpbhippkcikoaaW.PrintWords Go.Proofs.YtnpbhippkcikoaaW.PrintLast Go.Proofs.YtnpbhippkcikoaaW.PrintMore Go.Proofs.Ytnpbhippkcikoaa.PA Go.Proofs.Ytnpbhippkcikoaa.Bv Go.Proofs.Ytnpbhippkcikoaa.C01 Go.Proofs.Ytnpbhippkcikoaa.C14
theorem isOp_iff (op : Int) : isOp op = true ↔ (0 ≤ op ∧ op ≤ 12) := by unfold isOp; exact decide_eq_true_iff
theorem vS1 (n : Int) (big : Bool) (x : W) : vS n big 1 x = if (vw n big x).2 = true then (1, (vw n big x).1, 0, 0) else (0, 0, 0, 1) := by unfold vS; rw [if_neg (c := (1 : Int) = 0) (by decide), if_pos rfl]
theorem ne3 (a b c : Int) : ¬ ((!(a == a) || (!(b == b) || (!(c == c)))) = true) := by rw [beq_self_eq_true, beq_self_eq_true, beq_self_eq_true]; decide
theorem j1 (k : Nat) (hk : 100 ≤ k) (n : Int) (big : Bool) (x : W) : lockgatelaw14_ValueNumbers.j1 k n big (U x) false = some true := by
  obtain ⟨k, rfl⟩ : ∃ m, k = m + 1 := ⟨k - 1, by omega⟩
  rw [lockgatelaw14_ValueNumbers.j1]
  have kn := works_f k (by omega)
  refine ife nt (bs (a := (1, U x, 0)) rfl (bs (vswap_f k (by omega) n big 1 x 0) (bs (wswap_f k (by omega) n big x) ?_)))
  rw [vS1]
  by_cases h : (vw n big x).2 = true
  · refine ift h ?_
    rw [if_pos h]
    exact ift rfl (bs (a := (1, (vw n big x).1, 0)) rfl (ift (same3 _ _ _) (bs kn rfl)))
  · refine ife h ?_
    rw [if_neg h]
    exact ift rfl (bs kn rfl)
theorem j0 (k : Nat) (hk : 200 ≤ k) (op : Int) (wide : Bool) (x y : W) (len : Int) : lockgatelaw14_ValueNumbers.j0 k op wide (U x) (U y) len false = some true := by
  obtain ⟨k, rfl⟩ : ∃ m, k = m + 1 := ⟨k - 1, by omega⟩
  rw [lockgatelaw14_ValueNumbers.j0]
  refine ife nt (bs (a := (1, U x, 0)) rfl (bs (a := (1, U y, 0)) rfl (bs (vcmp_f k (by omega) op wide 1 x 0 1 y 0 len) (bs (jump_f k (by omega) op wide x y) ?_))))
  by_cases h : isJmp op = true
  · refine ift h ?_
    rw [vC_num h]
    refine ift rfl (ife ?_ (j1 k (by omega) op wide x))
    rw [bne_self_eq_false]; decide
  · refine ife h ?_
    rw [vC_no h]
    exact j1 k (by omega) op wide x
theorem law (k : Nat) (hk : 400 ≤ k) (op : Int) (wide : Bool) (x y : W) (len : Int) : lockgatelaw14_ValueNumbers.f k op wide (U x) (U y) len = some true := by
  unfold lockgatelaw14_ValueNumbers.f
  refine bs (a := (1, U x, 0)) rfl (bs (a := (1, U y, 0)) rfl (bs (valu_f k (by omega) op wide 1 x 0 1 y 0) (bs (alu_f k (by omega) op wide x y) ?_)))
  by_cases h : isOp op = true
  · refine ift h ?_
    rw [vA_num ((isOp_iff op).mp h)]
    exact ift rfl (bs (a := (1, U (alu op wide x y), 0)) rfl (ife (ne3 _ _ _) (j0 k (by omega) op wide x y len)))
  · refine ife h ?_
    rw [vA_no (fun q => h ((isOp_iff op).mpr q))]
    exact j0 k (by omega) op wide x y len
theorem pure (a0 : Int) (a1 : Bool) (a2 a3 a4 : Int) (w0 : (Lit.int .i64 a0).wf = true) (w2 : (Lit.int .u64 a2).wf = true) (w3 : (Lit.int .u64 a3).wf = true) (w4 : (Lit.int .i64 a4).wf = true) : ∃ k, lockgatelaw14_ValueNumbers.f k a0 a1 a2 a3 a4 = some true := by
  obtain ⟨x, rfl⟩ := exU w2
  obtain ⟨y, rfl⟩ := exU w3
  exact ⟨400, law 400 (by omega) _ _ _ _ _⟩
end Go.Proofs.Ytnpbhippkcikoaa.LValueNumbers
