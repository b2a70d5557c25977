/- Layer 5: the closed statement that each law asks. -/
import Derived.Test.YtaplgollkkpnaaaQScE
set_option linter.unusedVariables false
set_option linter.unusedSimpArgs false
set_option linter.unusedSectionVars false
namespace Go.Proofs.Ytaplgollkkpnaaa.ScK
open Go Go.Proofs Go.Proofs.Ytaplgollkkpnaaa.Xc Go.Proofs.Ytaplgollkkpnaaa.Sc
set_option maxRecDepth 100000
end Go.Proofs.Ytaplgollkkpnaaa.ScK
