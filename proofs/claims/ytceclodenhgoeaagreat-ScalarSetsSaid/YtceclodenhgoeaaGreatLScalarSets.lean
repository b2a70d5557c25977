/- ScalarSets, by the executor. -/
import Derived.Test.YtceclodenhgoeaaGreatZbn
set_option linter.unusedVariables false
set_option linter.unusedSimpArgs false
set_option linter.unusedSectionVars false
namespace Go.Proofs.YtceclodenhgoeaaGreat.LScalarSets
open Go Go.Proofs Go.RowKit Go.Proofs.YtceclodenhgoeaaGreat.Xc Go.Proofs.YtceclodenhgoeaaGreat.Zs Go.Proofs.YtceclodenhgoeaaGreat.Zu Go.Proofs.YtceclodenhgoeaaGreat.Zbm Go.Proofs.YtceclodenhgoeaaGreat.Zbn
theorem wu {x : Int} (h : (Lit.int .u64 x).wf = true) : u6 x := by
  simp [Lit.wf, IntKind.min, IntKind.max, IntKind.signed, IntKind.bits] at h
  unfold u6; omega
theorem calls (a b c d e f a' b' c' d' e' f' v n : Int) (h0 : (Lit.int .u64 a).wf = true) (h1 : (Lit.int .u64 b).wf = true) (h2 : (Lit.int .u64 c).wf = true) (h3 : (Lit.int .u64 d).wf = true) (_ : (Lit.int .i64 e).wf = true) (_ : (Lit.int .i64 f).wf = true) (h4 : (Lit.int .u64 a').wf = true) (h5 : (Lit.int .u64 b').wf = true) (h6 : (Lit.int .u64 c').wf = true) (h7 : (Lit.int .u64 d').wf = true) (_ : (Lit.int .i64 e').wf = true) (_ : (Lit.int .i64 f').wf = true) (h8 : (Lit.int .u64 v).wf = true) (_ : (Lit.int .i64 n).wf = true) (W : World) :
    Calls Tryz.prog 5 #[Sc a b c d e f, Sc a' b' c' d' e' f', .int .u64 v, .int .i64 n] W (fun e W' => e = .returned (.bool true) ∧ Below W.heap.size W W') := by
  have o := oS (n := n) (e := e) (f := f) (e' := e') (f' := f') ⟨wu h0, wu h1⟩ ⟨wu h2, wu h3⟩ ⟨wu h4, wu h5⟩ ⟨wu h6, wu h7⟩ (wu h8)
  unfold nS at o
  exact calls_run good ts eez o W
end Go.Proofs.YtceclodenhgoeaaGreat.LScalarSets
