/- ValueCompares, without Go. -/
import Derived.Test.YtnpbhippkcikoaaL14
import Derived.Test.YtnpbhippkcikoaaPA22
set_option linter.unusedVariables false
set_option linter.unusedSimpArgs false
set_option linter.unusedSectionVars false
namespace Go.Proofs.Ytnpbhippkcikoaa.LValueCompares
open Go.RowKit Go.Proofs.YtnpbhippkcikoaaW.PrintWords Go.Proofs.YtnpbhippkcikoaaW.PrintLast Go.Proofs.YtnpbhippkcikoaaW.PrintMore Go.Proofs.Ytnpbhippkcikoaa.PA Go.Proofs.Ytnpbhippkcikoaa.Bv Go.Proofs.Ytnpbhippkcikoaa.C01 Go.Proofs.Ytnpbhippkcikoaa.C14
theorem law (k : Nat) (hk : 400 ≤ k) (op : Int) (wide : Bool) (a0 : Int) (x : W) (a2 b0 : Int) (y : W) (b2 len : Int) : lockgatelaw14_ValueCompares.f k op wide a0 (U x) a2 b0 (U y) b2 len = some true := by
  unfold lockgatelaw14_ValueCompares.f
  exact bs (vcmp_f k (by omega) op wide a0 x a2 b0 y b2 len) (bs (rvcmp_f k (by omega) op wide a0 x a2 b0 y b2 len) (ift (beq_self_eq_true _) (ift rfl (bs (works_f k (by omega)) rfl))))
theorem pure (a0 : Int) (a1 : Bool) (a2_0 a2_1 a2_2 a3_0 a3_1 a3_2 a4 : Int) (w0 : (Lit.int .i64 a0).wf = true) (w1 : (Lit.int .i64 a2_0).wf = true) (w2 : (Lit.int .u64 a2_1).wf = true) (w3 : (Lit.int .i64 a2_2).wf = true) (w4 : (Lit.int .i64 a3_0).wf = true) (w5 : (Lit.int .u64 a3_1).wf = true) (w6 : (Lit.int .i64 a3_2).wf = true) (w7 : (Lit.int .i64 a4).wf = true) :
    ∃ k, lockgatelaw14_ValueCompares.f k a0 a1 a2_0 a2_1 a2_2 a3_0 a3_1 a3_2 a4 = some true := by
  obtain ⟨x, rfl⟩ := exU w2
  obtain ⟨y, rfl⟩ := exU w5
  exact ⟨400, law 400 (by omega) _ _ _ _ _ _ _ _ _⟩
end Go.Proofs.Ytnpbhippkcikoaa.LValueCompares
