/- TnumBits, without Go: what is done bit by bit, shifts and cuts are the reference's. -/
import Derived.Test.YtkmnogcahpbdjaaL03
import Derived.Test.YtkmnogcahpbdjaaC03t
import Derived.Test.YtkmnogcahpbdjaaPA19
set_option linter.unusedVariables false
set_option linter.unusedSimpArgs false
set_option linter.unusedSectionVars false
namespace Go.Proofs.Ytkmnogcahpbdjaa.LTnumBits
open Go.RowKit Go.Proofs.YtkmnogcahpbdjaaW.PrintWords Go.Proofs.YtkmnogcahpbdjaaW.PrintLast Go.Proofs.YtkmnogcahpbdjaaW.PrintMore Go.Proofs.Ytkmnogcahpbdjaa.PA Go.Proofs.Ytkmnogcahpbdjaa.Bv Go.Proofs.Ytkmnogcahpbdjaa.Tn Go.Proofs.Ytkmnogcahpbdjaa.C03 Go.Proofs.Ytkmnogcahpbdjaa.L03
theorem pure (a0_0 a0_1 a1_0 a1_1 a2 a3 : Int) (w0_0 : (Lit.int .u64 a0_0).wf = true) (w0_1 : (Lit.int .u64 a0_1).wf = true) (w1_0 : (Lit.int .u64 a1_0).wf = true) (w1_1 : (Lit.int .u64 a1_1).wf = true) (w2 : (Lit.int .i64 a2).wf = true) (w3 : (Lit.int .i64 a3).wf = true) :
    ∃ k, lockgatelaw03_TnumBits.f k a0_0 a0_1 a1_0 a1_1 a2 a3 = some true := by
  obtain ⟨va, rfl⟩ := exU w0_0
  obtain ⟨ma, rfl⟩ := exU w0_1
  obtain ⟨vb, rfl⟩ := exU w1_0
  obtain ⟨mb, rfl⟩ := exU w1_1
  obtain ⟨n, rfl⟩ := exS w2
  obtain ⟨b, rfl⟩ := exS w3
  refine ⟨199 + 1, ?_⟩
  unfold lockgatelaw03_TnumBits.f
  simp only [may_f, and_f, rand_f, or_f, ror_f, xor_f, rxor_f, Option.bind_some, beq_self_eq_true, Bool.not_true, Bool.or_self, Bool.false_eq_true, if_false]
  rw [lockgatelaw03_TnumBits.j0]
  simp only [lsh_f, rlsh_f, rsh_f, rrsh_f, arsh_f, rarsh_f 199 (by decide), cut_f, rcut_f, Option.bind_some, beq_self_eq_true, Bool.and_self, Bool.false_eq_true, if_false, if_true, known_f 199 (by decide)]
end Go.Proofs.Ytkmnogcahpbdjaa.LTnumBits
