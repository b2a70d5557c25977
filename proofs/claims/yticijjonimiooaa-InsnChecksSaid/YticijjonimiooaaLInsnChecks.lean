/- InsnChecks, without Go. -/
import Derived.Test.YticijjonimiooaaC02x
import Derived.Test.YticijjonimiooaaC02k
import Derived.Test.YticijjonimiooaaPA21
import Derived.Test.YticijjonimiooaaPA29
set_option linter.unusedVariables false
set_option linter.unusedSimpArgs false
set_option linter.unusedSectionVars false
namespace Go.Proofs.Yticijjonimiooaa.LInsnChecks
open Go.RowKit Go.Proofs.YticijjonimiooaaW.PrintWords Go.Proofs.YticijjonimiooaaW.PrintLast Go.Proofs.YticijjonimiooaaW.PrintMore Go.Proofs.Yticijjonimiooaa.PA Go.Proofs.Yticijjonimiooaa.Bv Go.Proofs.Yticijjonimiooaa.C02
theorem rsize_f (op d s o i : Int) : lockgateref02_Size.f op d s o i = some (sz op) := by
  unfold lockgateref02_Size.f sz; by_cases h : op = 24
  · rw [if_pos h, if_pos h]
  · rw [if_neg h, if_neg h]
theorem law (k : Nat) (hk : 400 ≤ k) (op d s o i : Int) : lockgatelaw02_InsnChecks.f k op d s o i = some true := by
  unfold lockgatelaw02_InsnChecks.f
  exact bs (icheck k (by omega) op d s o i) (bs (rcheck k (by omega) op d s o i) (ift rfl (bs (size_f op d s o i) (bs (rsize_f op d s o i) (ift rfl (bs (width_f op d s o i) (bs (rwidth_f k (by omega) op d s o i) (ift rfl (bs (works_f k (by omega)) rfl)))))))))
theorem pure (a0 a1 a2 a3 a4 : Int) (w0 : (Lit.int .i64 a0).wf = true) (w1 : (Lit.int .i64 a1).wf = true) (w2 : (Lit.int .i64 a2).wf = true) (w3 : (Lit.int .i64 a3).wf = true) (w4 : (Lit.int .i64 a4).wf = true) : ∃ k, lockgatelaw02_InsnChecks.f k a0 a1 a2 a3 a4 = some true := ⟨400, law 400 (by omega) _ _ _ _ _⟩
end Go.Proofs.Yticijjonimiooaa.LInsnChecks
