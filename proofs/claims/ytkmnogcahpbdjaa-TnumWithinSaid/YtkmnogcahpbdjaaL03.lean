/- Layer 3's laws: what they share. -/
import Derived.Test.YtkmnogcahpbdjaaTm
import Derived.Test.YtkmnogcahpbdjaaC03t
import Derived.Test.YtkmnogcahpbdjaaPA2
import Derived.Test.YtkmnogcahpbdjaaPA4
set_option linter.unusedVariables false
set_option linter.unusedSimpArgs false
namespace Go.Proofs.Ytkmnogcahpbdjaa.L03
open Go.RowKit Go.Proofs.YtkmnogcahpbdjaaW.PrintWords Go.Proofs.YtkmnogcahpbdjaaW.PrintLast Go.Proofs.YtkmnogcahpbdjaaW.PrintMore Go.Proofs.Ytkmnogcahpbdjaa.PA Go.Proofs.Ytkmnogcahpbdjaa.Bv Go.Proofs.Ytkmnogcahpbdjaa.Tn Go.Proofs.Ytkmnogcahpbdjaa.C03
theorem may_f (v m : W) : lockgatelaw03_May.f (U v) (U m) = some (U (v &&& ~~~m), U m) := by
  rw [lockgatelaw03_May.f, b_andNot, ofInt_U, ofInt_U]
theorem one_f (v m x : W) : lockgatelaw03_one.f (U v) (U m) (U x) = some (U (v ||| (x &&& m))) := by
  rw [lockgatelaw03_one.f, b_and, b_or, ofInt_U, ofInt_U, ofInt_U, ofInt_U]
theorem known_f (k : Nat) (hk : 65 ≤ k) : lockgatelaw03_known.f k = some true := by
  unfold lockgatelaw03_known.f
  have h := mul_f k hk 6 0 7 0
  have e1 : tMulV 6 0 7 0 = 42 := by decide +kernel
  have e2 : tMulM 6 0 7 0 = 0 := by decide +kernel
  rw [e1, e2] at h
  have h' : tnum_Mul.f k 6 0 7 0 = some (42, 0) := h
  rw [show tnum_Add.f 4 2 0 1 = some (4, 3) by decide +kernel, show tnum_Of.f 6 = some (6, 0) from rfl, show tnum_Of.f 7 = some (7, 0) from rfl, show tnum_Of.f 42 = some (42, 0) from rfl]
  simp only [Option.bind_some, h']
  decide +kernel
end Go.Proofs.Ytkmnogcahpbdjaa.L03
