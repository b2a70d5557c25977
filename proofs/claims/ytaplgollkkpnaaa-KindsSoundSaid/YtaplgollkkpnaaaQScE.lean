/- Layer 5: words for the executor. -/
import Derived.Test.YtaplgollkkpnaaaXcG
set_option linter.unusedVariables false
set_option linter.unusedSimpArgs false
set_option linter.unusedSectionVars false
namespace Go.Proofs.Ytaplgollkkpnaaa.Sc
open Go Go.Proofs Go.Proofs.Ytaplgollkkpnaaa.Xc
noncomputable abbrev EE : Eqs := [(24, eqS Try.prog 24), (26, eqS Try.prog 26), (28, eqS Try.prog 28), (30, eqS Try.prog 30)]
theorem ee : EqOk Try.prog EE := eq_cons (by kernel_rfl) (eq_cons (by kernel_rfl) (eq_cons (by kernel_rfl) (eq_cons (by kernel_rfl) (eq_nil))))
abbrev Sc (tv tm ul uh sl sh : Int) : Value := .agg #[.int .u64 tv, .int .u64 tm, .int .u64 ul, .int .u64 uh, .int .i64 sl, .int .i64 sh]
abbrev T2 (a b : Int) : Value := .agg #[.int .u64 a, .int .u64 b]
abbrev S2 (a b : Int) : Value := .agg #[.int .i64 a, .int .i64 b]
end Go.Proofs.Ytaplgollkkpnaaa.Sc
