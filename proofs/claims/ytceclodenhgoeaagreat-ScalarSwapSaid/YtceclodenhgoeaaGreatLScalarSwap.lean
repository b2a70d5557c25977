/- ScalarSwap, by the executor. -/
import Derived.Test.YtceclodenhgoeaaGreatZx
set_option linter.unusedVariables false
set_option linter.unusedSimpArgs false
set_option linter.unusedSectionVars false
namespace Go.Proofs.YtceclodenhgoeaaGreat.LScalarSwap
open Go Go.Proofs Go.RowKit Go.Proofs.YtceclodenhgoeaaGreat.Xc Go.Proofs.YtceclodenhgoeaaGreat.Zs Go.Proofs.YtceclodenhgoeaaGreat.Zu Go.Proofs.YtceclodenhgoeaaGreat.Zv Go.Proofs.YtceclodenhgoeaaGreat.Zx
theorem wu {x : Int} (h : (Lit.int .u64 x).wf = true) : u6 x := by
  simp [Lit.wf, IntKind.min, IntKind.max, IntKind.signed, IntKind.bits] at h
  unfold u6; omega
theorem calls (k : Int) (high : Bool) (a b c d e f : Int) (_ : (Lit.int .i64 k).wf = true) (h1 : (Lit.int .u64 a).wf = true) (_ : (Lit.int .u64 b).wf = true) (h3 : (Lit.int .u64 c).wf = true) (h4 : (Lit.int .u64 d).wf = true) (_ : (Lit.int .i64 e).wf = true) (_ : (Lit.int .i64 f).wf = true) (W : World) :
    Calls Tryz.prog 6 #[.int .i64 k, .bool high, Sc a b c d e f] W (fun e W' => e = .returned (.bool true) ∧ Below W.heap.size W W') := by
  have o := oLaw k high a b c d e f ⟨wu h1, wu h3⟩ (wu h4)
  unfold nLaw at o
  exact calls_run good tz eez o W
end Go.Proofs.YtceclodenhgoeaaGreat.LScalarSwap
