/- ScalarWithin, by the executor. -/
import Derived.Test.YtceclodenhgoeaaScX
set_option linter.unusedVariables false
set_option linter.unusedSimpArgs false
set_option linter.unusedSectionVars false
namespace Go.Proofs.Ytceclodenhgoeaa.LScalarWithin
open Go Go.Proofs Go.RowKit Go.Proofs.Ytceclodenhgoeaa.Xc Go.Proofs.Ytceclodenhgoeaa.Sc Go.Proofs.Ytceclodenhgoeaa.ScW Go.Proofs.Ytceclodenhgoeaa.ScX
theorem calls (a b c d e f a' b' c' d' e' f' v n : Int) (_ : (Lit.int .u64 a).wf = true) (_ : (Lit.int .u64 b).wf = true) (_ : (Lit.int .u64 c).wf = true) (_ : (Lit.int .u64 d).wf = true) (_ : (Lit.int .i64 e).wf = true) (_ : (Lit.int .i64 f).wf = true)
    (_ : (Lit.int .u64 a').wf = true) (_ : (Lit.int .u64 b').wf = true) (_ : (Lit.int .u64 c').wf = true) (_ : (Lit.int .u64 d').wf = true) (_ : (Lit.int .i64 e').wf = true) (_ : (Lit.int .i64 f').wf = true) (hv : (Lit.int .u64 v).wf = true) (_ : (Lit.int .i64 n).wf = true) (W : World) :
    Calls Try.prog 4 #[Sc a b c d e f, Sc a' b' c' d' e' f', .int .u64 v, .int .i64 n] W (fun e W' => e = .returned (.bool true) ∧ Below W.heap.size W W') := by
  have hv : 0 ≤ v ∧ v < 18446744073709551616 := by
    simp [Lit.wf, IntKind.min, IntKind.max, IntKind.signed, IntKind.bits] at hv
    omega
  have o := oLaw a b c d e f a' b' c' d' e' f' v n hv.1 hv.2
  unfold nLaw at o
  exact calls_run good tl ee o W
end Go.Proofs.Ytceclodenhgoeaa.LScalarWithin
