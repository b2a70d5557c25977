/- WordKnown, without Go: the chapter's examples, run by Lean's kernel. -/
import Derived.Test.YtbionehmfbmcdaaWMore
import Derived.Test.YtbionehmfbmcdaaPA19
set_option linter.unusedVariables false
set_option linter.unusedSimpArgs false
set_option linter.unusedSectionVars false
namespace Go.Proofs.Ytbionehmfbmcdaa.LWordKnown
open Go.RowKit Go.Proofs.YtbionehmfbmcdaaW.PrintWords Go.Proofs.YtbionehmfbmcdaaW.PrintLast Go.Proofs.YtbionehmfbmcdaaW.PrintMore Go.Proofs.Ytbionehmfbmcdaa.PA
set_option maxRecDepth 100000 in
theorem pure : ∃ k, lockgatelaw01_WordKnown.f k = some true := ⟨200, by decide +kernel⟩
end Go.Proofs.Ytbionehmfbmcdaa.LWordKnown
