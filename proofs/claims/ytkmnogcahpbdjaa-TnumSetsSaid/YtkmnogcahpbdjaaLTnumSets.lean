/- TnumSets, without Go: what is of tnums, within them, of both, of either, is the reference's. -/
import Derived.Test.YtkmnogcahpbdjaaL03
import Derived.Test.YtkmnogcahpbdjaaC03s
import Derived.Test.YtkmnogcahpbdjaaPA16
set_option linter.unusedVariables false
set_option linter.unusedSimpArgs false
set_option linter.unusedSectionVars false
namespace Go.Proofs.Ytkmnogcahpbdjaa.LTnumSets
open Go.RowKit Go.Proofs.YtkmnogcahpbdjaaW.PrintWords Go.Proofs.YtkmnogcahpbdjaaW.PrintLast Go.Proofs.YtkmnogcahpbdjaaW.PrintMore Go.Proofs.Ytkmnogcahpbdjaa.PA Go.Proofs.Ytkmnogcahpbdjaa.Bv Go.Proofs.Ytkmnogcahpbdjaa.Tn Go.Proofs.Ytkmnogcahpbdjaa.C03 Go.Proofs.Ytkmnogcahpbdjaa.L03
theorem pure (a0_0 a0_1 a1_0 a1_1 a2 : Int) (w0_0 : (Lit.int .u64 a0_0).wf = true) (w0_1 : (Lit.int .u64 a0_1).wf = true) (w1_0 : (Lit.int .u64 a1_0).wf = true) (w1_1 : (Lit.int .u64 a1_1).wf = true) (w2 : (Lit.int .u64 a2).wf = true) :
    ∃ k, lockgatelaw03_TnumSets.f k a0_0 a0_1 a1_0 a1_1 a2 = some true := by
  obtain ⟨va, rfl⟩ := exU w0_0
  obtain ⟨ma, rfl⟩ := exU w0_1
  obtain ⟨vb, rfl⟩ := exU w1_0
  obtain ⟨mb, rfl⟩ := exU w1_1
  obtain ⟨x, rfl⟩ := exU w2
  refine ⟨200, ?_⟩
  unfold lockgatelaw03_TnumSets.f
  simp only [may_f, Option.bind_some]
  generalize hv : va &&& ~~~ma = v
  generalize hw : vb &&& ~~~mb = w
  have hv0 : v &&& ma = 0 := by rw [← hv]; exact clear_valid va ma
  have hw0 : w &&& mb = 0 := by rw [← hw]; exact clear_valid vb mb
  simp only [of_f, rof_f, any_f, rany_f, in_f, rin_f 200 (by decide) _ _ _ hv0, within_f, rwithin_f 200 (by decide) _ _ _ _ hw0, join_v v ma w mb hv0, rjoin_f 200 (by decide), known_f 200 (by decide), Option.bind_some, beq_self_eq_true, Bool.and_self, if_true]
  rw [meet_f, rmeet_f 200 (by decide) _ _ _ _ hv0 hw0]
  split
  · simp only [Option.bind_some, beq_self_eq_true, Bool.and_self, if_true]
  · simp only [Option.bind_some, beq_self_eq_true, Bool.and_self, if_true]
end Go.Proofs.Ytkmnogcahpbdjaa.LTnumSets
