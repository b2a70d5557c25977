/- Layer 5: ScalarWithin, run. -/
import Derived.Test.YtaplgollkkpnaaaQScS
namespace Go.Proofs.Ytaplgollkkpnaaa.ScW
open Go Go.RowKit Go.Proofs Go.Proofs.Ytaplgollkkpnaaa.Xc Go.Proofs.Ytaplgollkkpnaaa.Sc Go.Proofs.Ytaplgollkkpnaaa.ScS
set_option maxRecDepth 100000
set_option linter.unusedVariables false
end Go.Proofs.Ytaplgollkkpnaaa.ScW
