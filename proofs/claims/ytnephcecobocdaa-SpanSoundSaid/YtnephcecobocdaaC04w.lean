/- Layer 4: the examples. -/
import Derived.Test.YtnephcecobocdaaC04l
import Derived.Test.YtnephcecobocdaaPA26
set_option linter.unusedVariables false
set_option linter.unusedSimpArgs false
set_option linter.unusedSectionVars false
namespace Go.Proofs.Ytnephcecobocdaa.C04
open Go.RowKit Go.Proofs.YtnephcecobocdaaW.PrintWords Go.Proofs.YtnephcecobocdaaW.PrintLast Go.Proofs.YtnephcecobocdaaW.PrintMore Go.Proofs.Ytnephcecobocdaa.PA Go.Proofs.Ytnephcecobocdaa.Bv
theorem works_f (k : Nat) (hk : 2 ≤ k) : lockgatelaw04_works.f k = some true := by
  obtain ⟨k, rfl⟩ : ∃ m, k = m + 2 := ⟨k - 2, by omega⟩
  unfold lockgatelaw04_works.f
  rw [show span_UOr.f (k + 2) 1 5 2 3 = some (uor 1 5 2 3) from uor_f (by decide) (by decide) (by decide) (by decide) k,
    uadd_f (by decide) ⟨by decide, by decide⟩ (by decide) ⟨by decide, by decide⟩ (by decide) (by decide),
    usub_f (by decide) ⟨by decide, by decide⟩ (by decide) ⟨by decide, by decide⟩ (by decide) (by decide),
    sadd_f ⟨by decide, by decide⟩ ⟨by decide, by decide⟩ ⟨by decide, by decide⟩ ⟨by decide, by decide⟩, uall]
  decide +kernel
end Go.Proofs.Ytnephcecobocdaa.C04
