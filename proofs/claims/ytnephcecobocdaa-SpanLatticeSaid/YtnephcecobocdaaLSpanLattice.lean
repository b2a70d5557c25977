/- SpanLattice, by the executor. -/
import Derived.Test.YtnephcecobocdaaSpM
set_option linter.unusedVariables false
set_option linter.unusedSimpArgs false
set_option linter.unusedSectionVars false
namespace Go.Proofs.Ytnephcecobocdaa.LSpanLattice
open Go Go.Proofs Go.RowKit Go.Proofs.Ytnephcecobocdaa.Xc Go.Proofs.Ytnephcecobocdaa.SpL
theorem calls (p0 p1 q0 q1 r0 r1 v : Int) (_ : (Lit.int .u64 p0).wf = true) (_ : (Lit.int .u64 p1).wf = true) (_ : (Lit.int .u64 q0).wf = true) (_ : (Lit.int .u64 q1).wf = true) (_ : (Lit.int .u64 r0).wf = true) (_ : (Lit.int .u64 r1).wf = true) (_ : (Lit.int .u64 v).wf = true) (W : World) :
    Calls Try.prog 6 #[U2 p0 p1, U2 q0 q1, U2 r0 r1, .int .u64 v] W (fun e W' => e = .returned (.bool true) ∧ Below W.heap.size W W') := by
  have o := oLattice p0 p1 q0 q1 r0 r1 v
  unfold nLattice at o
  exact calls_run good tl ee o W
end Go.Proofs.Ytnephcecobocdaa.LSpanLattice
