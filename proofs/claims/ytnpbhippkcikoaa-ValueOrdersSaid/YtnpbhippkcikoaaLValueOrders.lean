/- ValueOrders, without Go. -/
import Derived.Test.YtnpbhippkcikoaaL14
import Derived.Test.YtnpbhippkcikoaaPA25
set_option linter.unusedVariables false
set_option linter.unusedSimpArgs false
set_option linter.unusedSectionVars false
namespace Go.Proofs.Ytnpbhippkcikoaa.LValueOrders
open Go.RowKit Go.Proofs.YtnpbhippkcikoaaW.PrintWords Go.Proofs.YtnpbhippkcikoaaW.PrintLast Go.Proofs.YtnpbhippkcikoaaW.PrintMore Go.Proofs.Ytnpbhippkcikoaa.PA Go.Proofs.Ytnpbhippkcikoaa.Bv Go.Proofs.Ytnpbhippkcikoaa.C01 Go.Proofs.Ytnpbhippkcikoaa.C14
theorem law (k : Nat) (hk : 400 ≤ k) (x : W) (len : Int) : lockgatelaw14_ValueOrders.f k (U x) len = some true := by
  have j0 : lockgatelaw14_ValueOrders.j0 k len false 2 (U x) 0 3 0 0 = some true := by
    obtain ⟨k, rfl⟩ : ∃ m, k = m + 1 := ⟨k - 1, by omega⟩
    rw [lockgatelaw14_ValueOrders.j0]
    have e1 := vcmp_f k (by omega) 1 true 2 x 0 3 0 0 len
    rw [vC_eq] at e1
    have e2 := vcmp_f k (by omega) 10 false 2 x 0 3 0 0 len
    rw [vC_narrow (by decide)] at e2
    have e3 := vcmp_f k (by omega) 10 true 2 x 0 2 x 0 len
    rw [vC_two (by decide) (by decide)] at e3
    exact ife nt (bs e1 (bs e2 (bs e3 (ift rfl (ift rfl (ift rfl (bs (works_f k (by omega)) rfl)))))))
  unfold lockgatelaw14_ValueOrders.f
  have e1 := vcmp_f k (by omega) 10 true 2 x 0 3 0 0 len
  rw [vC_end (by decide) (by decide), od_lt] at e1
  have e2 := vcmp_f k (by omega) 3 true 2 x 0 3 0 0 len
  rw [vC_end (by decide) (by decide), od_ge] at e2
  have e3 := vcmp_f k (by omega) 11 true 2 x 0 3 0 0 len
  rw [vC_end (by decide) (by decide), od_le] at e3
  have e4 := vcmp_f k (by omega) 2 true 2 x 0 3 0 0 len
  rw [vC_end (by decide) (by decide), od_gt] at e4
  have e5 := vcmp_f k (by omega) 2 true 3 0 0 2 x 0 len
  rw [vC_end' (by decide) (by decide), od_gt] at e5
  have e6 := vcmp_f k (by omega) 3 true 3 0 0 2 x 0 len
  rw [vC_end' (by decide) (by decide), od_ge] at e6
  generalize wrap64 (U x) = v at *
  refine bs e1 (bs e2 (bs e3 (bs e4 (bs e5 (bs e6 (ift rfl (ift rfl (ift rfl (ift rfl (ift rfl (ift rfl ?_)))))))))))
  have n1 : ¬ ((decide (v < len) == decide (v ≥ len)) = true) := by rw [beq_iff_eq, decide_eq_decide]; omega
  have n2 : ¬ ((decide (v ≤ len) == decide (v > len)) = true) := by rw [beq_iff_eq, decide_eq_decide]; omega
  have n3 : ¬ ((decide (v < len) != decide (len > v)) = true) := by rw [bne_iff_ne, ne_eq, decide_eq_decide]; omega
  have n4 : ¬ ((decide (v ≤ len) != decide (len ≥ v)) = true) := by rw [bne_iff_ne, ne_eq, decide_eq_decide]; omega
  refine ife n1 (ife n2 (ife n3 (ife n4 ?_)))
  have n5 : (decide (v ≤ len) != decide (v ≤ len)) = false := by rw [bne_self_eq_false]
  by_cases h : v < len
  · refine ift (decide_eq_true h) (ift (decide_eq_true (by omega)) ?_)
    exact (congrArg (fun b => lockgatelaw14_ValueOrders.j0 k len b 2 (U x) 0 3 0 0) n5).trans j0
  · refine ife (by rw [decide_eq_true_iff]; exact h) ?_
    exact (congrArg (fun b => lockgatelaw14_ValueOrders.j0 k len b 2 (U x) 0 3 0 0) n5).trans j0
theorem pure (a0 a1 : Int) (w0 : (Lit.int .u64 a0).wf = true) (w1 : (Lit.int .i64 a1).wf = true) : ∃ k, lockgatelaw14_ValueOrders.f k a0 a1 = some true := by
  obtain ⟨x, rfl⟩ := exU w0
  exact ⟨400, law 400 (by omega) _ _⟩
end Go.Proofs.Ytnpbhippkcikoaa.LValueOrders
