/- Layer 4's laws: what two equal answers give to a test. -/
import Derived.Test.YtnephcecobocdaaC04s
import Derived.Test.YtnephcecobocdaaC04t
import Derived.Test.YtnephcecobocdaaC04w
import Derived.Test.YtnephcecobocdaaBit
import Derived.Test.YtnephcecobocdaaPA27
import Derived.Test.YtnephcecobocdaaPA28
set_option linter.unusedVariables false
set_option linter.unusedSimpArgs false
set_option linter.unusedSectionVars false
namespace Go.Proofs.Ytnephcecobocdaa.C04
open Go.RowKit Go.Proofs.YtnephcecobocdaaW.PrintWords Go.Proofs.YtnephcecobocdaaW.PrintLast Go.Proofs.YtnephcecobocdaaW.PrintMore Go.Proofs.Ytnephcecobocdaa.PA Go.Proofs.Ytnephcecobocdaa.Bv
theorem same2 (p : Int × Int) : ¬ ((!(p.1 == p.1) || (!(p.2 == p.2))) = true) := by simp
theorem same2b (p : Int × Int) : (!(p.1 == p.1) || (!(p.2 == p.2))) = false := by simp
theorem same2c (p : Int × Int) : (p.1 == p.1 && (p.2 == p.2)) = true := by simp
theorem sameB (b : Bool) : ¬ ((b != b) = true) := by simp
theorem same3 (p : Int × Int × Bool) : ¬ ((!(p.1 == p.1) || (!(p.2.1 == p.2.1))) = true) := by simp
theorem mn_mx_uu {a b : Int} (ha : uu a) (hb : uu b) : uu (mn a b) ∧ uu (mx a b) ∧ mn a b ≤ mx a b := by
  unfold mn mx
  refine ⟨?_, ?_, ?_⟩
  · split <;> assumption
  · split <;> assumption
  · split <;> split <;> omega
theorem mn_mx_ss {a b : Int} (ha : ss a) (hb : ss b) : ss (mn a b) ∧ ss (mx a b) ∧ mn a b ≤ mx a b := by
  unfold mn mx
  refine ⟨?_, ?_, ?_⟩
  · split <;> assumption
  · split <;> assumption
  · split <;> split <;> omega
theorem mn_mx_again (x y : Int) : mn (mn x y) (mx x y) = mn x y ∧ mx (mn x y) (mx x y) = mx x y := by
  unfold mn mx; constructor
  · repeat' split
    all_goals omega
  · repeat' split
    all_goals omega
theorem Us_f (a b c d : Int) : lockgatelaw04_Us.f a b c d = some (mn a b, mx a b, mn c d, mx c d) := rfl
theorem Ss_f (a b c d : Int) : lockgatelaw04_Ss.f a b c d = some (mn a b, mx a b, mn c d, mx c d) := rfl
theorem uof_f (v : Int) : span_UOf.f v = some (v, v) := rfl
theorem ruof_f (v : Int) : lockgateref04_UOf.f v = some (v, v) := rfl
end Go.Proofs.Ytnephcecobocdaa.C04
