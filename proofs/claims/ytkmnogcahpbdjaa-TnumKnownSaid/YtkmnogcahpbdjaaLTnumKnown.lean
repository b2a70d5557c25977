/- TnumKnown, without Go: the chapter's examples, run by Lean's kernel. -/
import Derived.Test.YtkmnogcahpbdjaaWMore
import Derived.Test.YtkmnogcahpbdjaaPA22
set_option linter.unusedVariables false
set_option linter.unusedSimpArgs false
set_option linter.unusedSectionVars false
namespace Go.Proofs.Ytkmnogcahpbdjaa.LTnumKnown
open Go.RowKit Go.Proofs.YtkmnogcahpbdjaaW.PrintWords Go.Proofs.YtkmnogcahpbdjaaW.PrintLast Go.Proofs.YtkmnogcahpbdjaaW.PrintMore Go.Proofs.Ytkmnogcahpbdjaa.PA
set_option maxRecDepth 100000 in
theorem pure : ∃ k, lockgatelaw03_TnumKnown.f k = some true := ⟨200, by decide +kernel⟩
end Go.Proofs.Ytkmnogcahpbdjaa.LTnumKnown
