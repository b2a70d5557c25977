/- WordAlu, without Go: any operation on any numbers is the reference's. -/
import Derived.Test.YtbionehmfbmcdaaL01
import Derived.Test.YtbionehmfbmcdaaC01z
import Derived.Test.YtbionehmfbmcdaaPA11
set_option linter.unusedVariables false
set_option linter.unusedSimpArgs false
set_option linter.unusedSectionVars false
namespace Go.Proofs.Ytbionehmfbmcdaa.LWordAlu
open Go.RowKit Go.Proofs.YtbionehmfbmcdaaW.PrintWords Go.Proofs.YtbionehmfbmcdaaW.PrintLast Go.Proofs.YtbionehmfbmcdaaW.PrintMore Go.Proofs.Ytbionehmfbmcdaa.PA Go.Proofs.Ytbionehmfbmcdaa.Bv Go.Proofs.Ytbionehmfbmcdaa.C01 Go.Proofs.Ytbionehmfbmcdaa.L01
theorem pure (a0 : Int) (a1 : Bool) (a2 a3 : Int) (w0 : (Lit.int .i64 a0).wf = true) (w2 : (Lit.int .u64 a2).wf = true) (w3 : (Lit.int .u64 a3).wf = true) : ∃ k, lockgatelaw01_WordAlu.f k a0 a1 a2 a3 = some true := by
  obtain ⟨a, rfl⟩ := exU w2
  obtain ⟨b, rfl⟩ := exU w3
  refine ⟨300, bs (alu_f 300 (by decide) _ _ _ _) (bs (ralu_f 300 (by decide) _ _ _ _) (ift rfl (ift (beq_self_eq_true _) (bs (known_f 300 (by decide)) rfl))))⟩
end Go.Proofs.Ytbionehmfbmcdaa.LWordAlu
