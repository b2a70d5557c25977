/- ScalarAlone, by the executor. -/
import Derived.Test.YtceclodenhgoeaaScUm
set_option linter.unusedVariables false
set_option linter.unusedSimpArgs false
set_option linter.unusedSectionVars false
namespace Go.Proofs.Ytceclodenhgoeaa.LScalarAlone
open Go Go.Proofs Go.RowKit Go.Proofs.Ytceclodenhgoeaa.Xc Go.Proofs.Ytceclodenhgoeaa.Sc Go.Proofs.Ytceclodenhgoeaa.ScG Go.Proofs.Ytceclodenhgoeaa.ScUk Go.Proofs.Ytceclodenhgoeaa.ScUl Go.Proofs.Ytceclodenhgoeaa.ScUm
theorem wu {x : Int} (h : (Lit.int .u64 x).wf = true) : uu x := by
  simp [Lit.wf, IntKind.min, IntKind.max, IntKind.signed, IntKind.bits] at h
  unfold uu; omega
theorem calls (op : Int) (wide : Bool) (v w : Int) (_ : (Lit.int .i64 op).wf = true) (hv : (Lit.int .u64 v).wf = true) (hw : (Lit.int .u64 w).wf = true) (W : World) :
    Calls Try.prog 6 #[.int .i64 op, .bool wide, .int .u64 v, .int .u64 w] W (fun e W' => e = .returned (.bool true) ∧ Below W.heap.size W W') := by
  have o := oAlone op wide v w (wu hv) (wu hw)
  unfold nAlone at o
  exact calls_run good ts ee o W
end Go.Proofs.Ytceclodenhgoeaa.LScalarAlone
