/- ValueMakes, without Go. -/
import Derived.Test.YtnpbhippkcikoaaL14
import Derived.Test.YtnpbhippkcikoaaPA21
set_option linter.unusedVariables false
set_option linter.unusedSimpArgs false
set_option linter.unusedSectionVars false
namespace Go.Proofs.Ytnpbhippkcikoaa.LValueMakes
open Go.RowKit Go.Proofs.YtnpbhippkcikoaaW.PrintWords Go.Proofs.YtnpbhippkcikoaaW.PrintLast Go.Proofs.YtnpbhippkcikoaaW.PrintMore Go.Proofs.Ytnpbhippkcikoaa.PA Go.Proofs.Ytnpbhippkcikoaa.Bv Go.Proofs.Ytnpbhippkcikoaa.C01 Go.Proofs.Ytnpbhippkcikoaa.C14
theorem law (k : Nat) (hk : 400 ≤ k) (op : Int) (wide : Bool) (a0 : Int) (x : W) (a2 b0 : Int) (y : W) (b2 : Int) : lockgatelaw14_ValueMakes.f k op wide a0 (U x) a2 b0 (U y) b2 = some true := by
  unfold lockgatelaw14_ValueMakes.f
  refine bs (valu_f k (by omega) op wide a0 x a2 b0 y b2) (bs (rvalu_f k (by omega) op wide a0 x a2 b0 y b2) ?_)
  refine ift (same3 _ _ _) (ift rfl (bs (places_f _ _ _) (bs (rplaces_f _ _ _) (ift (beq_self_eq_true _) ?_))))
  refine bs (a := (1, U x, 0)) rfl (bs (a := (1, U x, 0)) rfl (ift (same3 _ _ _) (bs (code_f op) (bs (rcode_f op) (ift (same3 _ _ _) (bs (works_f k (by omega)) rfl))))))
theorem pure (a0 : Int) (a1 : Bool) (a2_0 a2_1 a2_2 a3_0 a3_1 a3_2 : Int) (w0 : (Lit.int .i64 a0).wf = true) (w1 : (Lit.int .i64 a2_0).wf = true) (w2 : (Lit.int .u64 a2_1).wf = true) (w3 : (Lit.int .i64 a2_2).wf = true) (w4 : (Lit.int .i64 a3_0).wf = true) (w5 : (Lit.int .u64 a3_1).wf = true) (w6 : (Lit.int .i64 a3_2).wf = true) :
    ∃ k, lockgatelaw14_ValueMakes.f k a0 a1 a2_0 a2_1 a2_2 a3_0 a3_1 a3_2 = some true := by
  obtain ⟨x, rfl⟩ := exU w2
  obtain ⟨y, rfl⟩ := exU w5
  exact ⟨400, law 400 (by omega) _ _ _ _ _ _ _ _⟩
end Go.Proofs.Ytnpbhippkcikoaa.LValueMakes
