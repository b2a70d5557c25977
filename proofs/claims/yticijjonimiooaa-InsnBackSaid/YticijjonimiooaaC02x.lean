/- Layer 2: an instruction's bytes, there and back (closed). -/
import Derived.Test.YticijjonimiooaaC02w
import Derived.Test.YticijjonimiooaaPA24
set_option linter.unusedVariables false
set_option linter.unusedSimpArgs false
set_option linter.unusedSectionVars false
namespace Go.Proofs.Yticijjonimiooaa.C02
open Go.RowKit Go.Proofs.YticijjonimiooaaW.PrintWords Go.Proofs.YticijjonimiooaaW.PrintLast Go.Proofs.YticijjonimiooaaW.PrintMore Go.Proofs.Yticijjonimiooaa.PA Go.Proofs.Yticijjonimiooaa.Bv
set_option maxRecDepth 100000 in
theorem works400 : lockgatelaw02_works.f 100 = some true := by decide +kernel
theorem works_f (k : Nat) (hk : 100 ≤ k) : lockgatelaw02_works.f k = some true := at_rounds lockgatelaw02_works.mono hk works400
end Go.Proofs.Yticijjonimiooaa.C02
