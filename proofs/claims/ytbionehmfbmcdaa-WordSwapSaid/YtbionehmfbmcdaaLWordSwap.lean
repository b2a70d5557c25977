/- WordSwap, without Go. -/
import Derived.Test.YtbionehmfbmcdaaL01
import Derived.Test.YtbionehmfbmcdaaC01s
import Derived.Test.YtbionehmfbmcdaaPA17
set_option linter.unusedVariables false
set_option linter.unusedSimpArgs false
set_option linter.unusedSectionVars false
namespace Go.Proofs.Ytbionehmfbmcdaa.LWordSwap
open Go.RowKit Go.Proofs.YtbionehmfbmcdaaW.PrintWords Go.Proofs.YtbionehmfbmcdaaW.PrintLast Go.Proofs.YtbionehmfbmcdaaW.PrintMore Go.Proofs.Ytbionehmfbmcdaa.PA Go.Proofs.Ytbionehmfbmcdaa.Bv Go.Proofs.Ytbionehmfbmcdaa.C01 Go.Proofs.Ytbionehmfbmcdaa.L01
theorem pure (a0 : Int) (a1 : Bool) (a2 : Int) (w0 : (Lit.int .i64 a0).wf = true) (w2 : (Lit.int .u64 a2).wf = true) : ∃ k, lockgatelaw01_WordSwap.f k a0 a1 a2 = some true := by
  obtain ⟨v, rfl⟩ := exU w2
  refine ⟨300, ?_⟩
  unfold lockgatelaw01_WordSwap.f
  have kn := known_f 300 (by omega)
  by_cases h : a0 ≠ 16 ∧ a0 ≠ 32 ∧ a0 ≠ 64
  · exact bs (swap_n 300 (by omega) a0 h a1 _) (bs (rswap_n 300 (by omega) a0 h a1 _) (ift rfl (ift (by decide) (bs kn rfl))))
  · obtain ⟨n, hn, rfl⟩ : ∃ n : Nat, (n = 2 ∨ n = 4 ∨ n = 8) ∧ a0 = ((8 * n : Nat) : Int) := by
      by_cases h1 : a0 = 16
      · exact ⟨2, by omega, h1⟩
      · by_cases h2 : a0 = 32
        · exact ⟨4, by omega, h2⟩
        · exact ⟨8, by omega, by omega⟩
    exact bs (swap_f 300 n hn (by omega) a1 v) (bs (rswap_f 300 n hn (by omega) a1 v) (ift rfl (ift (beq_self_eq_true _) (bs kn rfl))))
end Go.Proofs.Ytbionehmfbmcdaa.LWordSwap
