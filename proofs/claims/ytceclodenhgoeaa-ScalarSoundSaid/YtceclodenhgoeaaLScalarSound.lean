/- ScalarSound, by the executor. -/
import Derived.Test.YtceclodenhgoeaaScUm
set_option linter.unusedVariables false
set_option linter.unusedSimpArgs false
set_option linter.unusedSectionVars false
namespace Go.Proofs.Ytceclodenhgoeaa.LScalarSound
open Go Go.Proofs Go.RowKit Go.Proofs.Ytceclodenhgoeaa.Xc Go.Proofs.Ytceclodenhgoeaa.Sc Go.Proofs.Ytceclodenhgoeaa.ScG Go.Proofs.Ytceclodenhgoeaa.ScAe Go.Proofs.Ytceclodenhgoeaa.ScAf Go.Proofs.Ytceclodenhgoeaa.ScUk Go.Proofs.Ytceclodenhgoeaa.ScUl Go.Proofs.Ytceclodenhgoeaa.ScUm
theorem wu {x : Int} (h : (Lit.int .u64 x).wf = true) : uu x := by
  simp [Lit.wf, IntKind.min, IntKind.max, IntKind.signed, IntKind.bits] at h
  unfold uu; omega
theorem ws {x : Int} (h : (Lit.int .i64 x).wf = true) : ss x := by
  simp [Lit.wf, IntKind.min, IntKind.max, IntKind.signed, IntKind.bits] at h
  unfold ss; omega
theorem calls (op : Int) (wide : Bool) (a b c d e f a' b' c' d' e' f' v w : Int) (_ : (Lit.int .i64 op).wf = true) (h1 : (Lit.int .u64 a).wf = true) (h2 : (Lit.int .u64 b).wf = true) (h3 : (Lit.int .u64 c).wf = true) (h4 : (Lit.int .u64 d).wf = true) (h5 : (Lit.int .i64 e).wf = true) (h6 : (Lit.int .i64 f).wf = true)
    (k1 : (Lit.int .u64 a').wf = true) (k2 : (Lit.int .u64 b').wf = true) (k3 : (Lit.int .u64 c').wf = true) (k4 : (Lit.int .u64 d').wf = true) (k5 : (Lit.int .i64 e').wf = true) (k6 : (Lit.int .i64 f').wf = true) (hv : (Lit.int .u64 v).wf = true) (hw : (Lit.int .u64 w).wf = true) (W : World) :
    Calls Try.prog 5 #[.int .i64 op, .bool wide, Sc a b c d e f, Sc a' b' c' d' e' f', .int .u64 v, .int .u64 w] W (fun e W' => e = .returned (.bool true) ∧ Below W.heap.size W W') := by
  have o := oSound op wide a b c d e f a' b' c' d' e' f' v w ⟨wu h1, wu h2, wu h3, wu h4, ws h5, ws h6⟩ ⟨wu k1, wu k2, wu k3, wu k4, ws k5, ws k6⟩ (wu hv) (wu hw)
  unfold nSound at o
  exact calls_run good ts ee o W
end Go.Proofs.Ytceclodenhgoeaa.LScalarSound
