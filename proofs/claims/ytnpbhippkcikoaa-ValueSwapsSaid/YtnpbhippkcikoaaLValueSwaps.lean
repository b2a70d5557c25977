/- ValueSwaps, without Go. -/
import Derived.Test.YtnpbhippkcikoaaL14
import Derived.Test.YtnpbhippkcikoaaPA26
set_option linter.unusedVariables false
set_option linter.unusedSimpArgs false
set_option linter.unusedSectionVars false
namespace Go.Proofs.Ytnpbhippkcikoaa.LValueSwaps
open Go.RowKit Go.Proofs.YtnpbhippkcikoaaW.PrintWords Go.Proofs.YtnpbhippkcikoaaW.PrintLast Go.Proofs.YtnpbhippkcikoaaW.PrintMore Go.Proofs.Ytnpbhippkcikoaa.PA Go.Proofs.Ytnpbhippkcikoaa.Bv Go.Proofs.Ytnpbhippkcikoaa.C01 Go.Proofs.Ytnpbhippkcikoaa.C14
theorem law (k : Nat) (hk : 400 ≤ k) (n : Int) (big : Bool) (a0 : Int) (x : W) (a2 : Int) : lockgatelaw14_ValueSwaps.f k n big a0 (U x) a2 = some true := by
  unfold lockgatelaw14_ValueSwaps.f
  exact bs (vswap_f k (by omega) n big a0 x a2) (bs (rvswap_f k (by omega) n big a0 x a2) (ift (same3 _ _ _) (ift rfl (bs (works_f k (by omega)) rfl))))
theorem pure (a0 : Int) (a1 : Bool) (a2_0 a2_1 a2_2 : Int) (w0 : (Lit.int .i64 a0).wf = true) (w1 : (Lit.int .i64 a2_0).wf = true) (w2 : (Lit.int .u64 a2_1).wf = true) (w3 : (Lit.int .i64 a2_2).wf = true) :
    ∃ k, lockgatelaw14_ValueSwaps.f k a0 a1 a2_0 a2_1 a2_2 = some true := by
  obtain ⟨x, rfl⟩ := exU w2
  exact ⟨400, law 400 (by omega) _ _ _ _ _⟩
end Go.Proofs.Ytnpbhippkcikoaa.LValueSwaps
