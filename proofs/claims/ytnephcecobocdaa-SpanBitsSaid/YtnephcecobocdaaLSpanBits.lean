/- SpanBits, without Go. -/
import Derived.Test.YtnephcecobocdaaC04f
import Derived.Test.YtnephcecobocdaaC04w
import Derived.Test.YtnephcecobocdaaPA29
set_option linter.unusedVariables false
set_option linter.unusedSimpArgs false
set_option linter.unusedSectionVars false
namespace Go.Proofs.Ytnephcecobocdaa.LSpanBits
open Go.RowKit Go.Proofs.YtnephcecobocdaaW.PrintWords Go.Proofs.YtnephcecobocdaaW.PrintLast Go.Proofs.YtnephcecobocdaaW.PrintMore Go.Proofs.Ytnephcecobocdaa.PA Go.Proofs.Ytnephcecobocdaa.Bv Go.Proofs.Ytnephcecobocdaa.C04
theorem cleared (v m : W) : (v &&& ~~~ m) &&& m = 0 := by rw [BitVec.and_assoc, BitVec.and_comm (~~~ m)]; simp
theorem pure (a0 a1 : Int) (w0 : (Lit.int .u64 a0).wf = true) (w1 : (Lit.int .u64 a1).wf = true) : ∃ k, lockgatelaw04_SpanBits.f k a0 a1 = some true := by
  obtain ⟨v, rfl⟩ := exU w0
  obtain ⟨m, rfl⟩ := exU w1
  refine ⟨100, ?_⟩
  unfold lockgatelaw04_SpanBits.f
  rw [b_andNot, ofInt_U, ofInt_U]
  exact bs (fromt_f _ m) (bs (rfromt_f _ m (cleared v m)) (ift (by simp) (ift (by simp) (bs (works_f 100 (by omega)) rfl))))
end Go.Proofs.Ytnephcecobocdaa.LSpanBits
