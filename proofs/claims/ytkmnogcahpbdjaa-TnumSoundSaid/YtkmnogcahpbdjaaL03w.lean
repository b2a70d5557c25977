/- Layer 3's laws that ask layer 1. -/
import Derived.Test.YtkmnogcahpbdjaaL03
import Derived.Test.YtkmnogcahpbdjaaC01
import Derived.Test.YtkmnogcahpbdjaaPA13
set_option linter.unusedVariables false
set_option linter.unusedSimpArgs false
set_option linter.unusedSectionVars false
namespace Go.Proofs.Ytkmnogcahpbdjaa.L03
open Go.RowKit Go.Proofs.YtkmnogcahpbdjaaW.PrintWords Go.Proofs.YtkmnogcahpbdjaaW.PrintLast Go.Proofs.YtkmnogcahpbdjaaW.PrintMore Go.Proofs.Ytkmnogcahpbdjaa.PA Go.Proofs.Ytkmnogcahpbdjaa.Bv Go.Proofs.Ytkmnogcahpbdjaa.Tn Go.Proofs.Ytkmnogcahpbdjaa.C03 Go.Proofs.Ytkmnogcahpbdjaa.C01
theorem lalu_f (k : Nat) (hk : 1 ≤ k) (op : Int) (a b : W) : lockgatelaw03_alu.f k op (U a) (U b) = some (U (alu op true a b)) := by
  rw [lockgatelaw03_alu.f, alu_f k hk]; rfl
def has (v m x : W) : Bool := (v &&& m == 0) && tIn v m x
theorem has_f (v m x : W) : lockgatelaw03_has.f (U v) (U m) (U x) = some (has v m x) := by
  simp only [lockgatelaw03_has.f, in_f, Option.bind_some, b_and, ofInt_U, U_eq_zero, has]
  by_cases h : v &&& m = 0
  · rw [if_pos h, h]; rfl
  · rw [if_neg h, beq_false_of_ne h]; rfl
theorem has_of {v m x : W} (h1 : v &&& m = 0) (h2 : Mem v m x) : has v m x = true := by
  unfold has tIn
  unfold Mem at h2
  rw [h1, h2]; simp
theorem alu0 (a b : W) : alu 0 true a b = a + b := by simp [alu, aluW]
theorem alu1 (a b : W) : alu 1 true a b = a - b := by simp [alu, aluW]
theorem alu2 (a b : W) : alu 2 true a b = a * b := by simp [alu, aluW]
theorem alu4 (a b : W) : alu 4 true a b = a ||| b := by simp [alu, aluW]
theorem alu5 (a b : W) : alu 5 true a b = a &&& b := by simp [alu, aluW]
theorem alu10 (a b : W) : alu 10 true a b = a ^^^ b := by simp [alu, aluW]
theorem alu6 (a b : W) : alu 6 true a b = a <<< (b.toNat % 64) := by simp [alu, aluW]
theorem alu7 (a b : W) : alu 7 true a b = a >>> (b.toNat % 64) := by simp [alu, aluW]
theorem alu12 (a b : W) : alu 12 true a b = a.sshiftRight (b.toNat % 64) := by simp [alu]
theorem alu12n (a b : W) : alu 12 false a b = sar32 a (b.toNat % 32) := by simp [alu]
theorem sar64 (y n any : W) : sar y n 64 any = y.sshiftRight (n.toNat % 64) := by unfold sar; rw [if_pos (by decide)]
theorem sar_32 (y n any : W) : sar y n 32 any = sar32 y (n.toNat % 32) := by unfold sar; rw [if_neg (by decide), if_pos (by decide)]
end Go.Proofs.Ytkmnogcahpbdjaa.L03
