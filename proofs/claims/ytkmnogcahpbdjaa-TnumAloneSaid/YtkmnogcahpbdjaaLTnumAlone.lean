/- TnumAlone, without Go: numbers alone stay alone. -/
import Derived.Test.YtkmnogcahpbdjaaL03w
import Derived.Test.YtkmnogcahpbdjaaPA20
set_option linter.unusedVariables false
set_option linter.unusedSimpArgs false
set_option linter.unusedSectionVars false
namespace Go.Proofs.Ytkmnogcahpbdjaa.LTnumAlone
open Go.RowKit Go.Proofs.YtkmnogcahpbdjaaW.PrintWords Go.Proofs.YtkmnogcahpbdjaaW.PrintLast Go.Proofs.YtkmnogcahpbdjaaW.PrintMore Go.Proofs.Ytkmnogcahpbdjaa.PA Go.Proofs.Ytkmnogcahpbdjaa.Bv Go.Proofs.Ytkmnogcahpbdjaa.Tn Go.Proofs.Ytkmnogcahpbdjaa.C03 Go.Proofs.Ytkmnogcahpbdjaa.C01 Go.Proofs.Ytkmnogcahpbdjaa.L03
theorem add0 (v w : W) : addMask v 0 w 0 = 0 := by unfold addMask; simp
theorem addv0 (v w : W) : tAddV v 0 w 0 = v + w := by unfold tAddV; rw [add0, show ~~~ (0 : W) = BitVec.allOnes 64 by decide, BitVec.and_allOnes]
theorem sub0 (v w : W) : subMask v 0 w 0 = 0 := by unfold subMask; simp
theorem subv0 (v w : W) : tSubV v 0 w 0 = v - w := by unfold tSubV; rw [sub0, show ~~~ (0 : W) = BitVec.allOnes 64 by decide, BitVec.and_allOnes]
theorem mulS0 (n : Nat) : ∀ (av bv : W), mulS n av 0 bv 0 (0, 0) = (0, 0) := by
  induction n with
  | zero => intros; rfl
  | succ n ih =>
    intro av bv
    have h : mulT av 0 bv 0 0 0 = (0, 0) := by
      unfold mulT
      cases av.getLsbD 0
      · simp
      · simp only [if_true]; decide
    rw [mulS]
    simp only [h]
    exact ih _ _
theorem mul0 (v w : W) : tMulM v 0 w 0 = 0 := by unfold tMulM tMulS; rw [mulS0]; exact add0 _ _
theorem mulv0 (v w : W) : tMulV v 0 w 0 = v * w := by unfold tMulV tMulS; rw [mulS0]; exact addv0 (v * w) 0 |>.trans (BitVec.add_zero _)
theorem sh0 (n : Nat) : (0 : W).sshiftRight n = 0 := by
  apply BitVec.eq_of_getLsbD_eq; intro i hi; rw [BitVec.getLsbD_sshiftRight]; simp
theorem sar0 (n : Nat) : sar32 0 n = 0 := by
  apply BitVec.eq_of_getLsbD_eq; intro i hi
  have h : ∀ j, (lo 0).getLsbD j = false := fun j => by rw [lo_bit]; simp
  rw [sar32, up_bit, BitVec.getLsbD_sshiftRight, BitVec.msb_eq_getLsbD_last, h, h]; simp
theorem pure (a0 a1 a2 : Int) (w0 : (Lit.int .u64 a0).wf = true) (w1 : (Lit.int .u64 a1).wf = true) (w2 : (Lit.int .i64 a2).wf = true) :
    ∃ k, lockgatelaw03_TnumAlone.f k a0 a1 a2 = some true := by
  obtain ⟨v, rfl⟩ := exU w0
  obtain ⟨w, rfl⟩ := exU w1
  obtain ⟨n, rfl⟩ := exS w2
  refine ⟨200, ?_⟩
  have a1 : (0 : W) &&& ~~~(v &&& w) = 0 := by simp
  have a2 : ∀ x : W, ((v ||| 0) &&& (w ||| 0) &&& ~~~ (v &&& w)) = 0 := fun _ => by
    apply BitVec.eq_of_getLsbD_eq; intro i hi
    simp only [BitVec.getLsbD_and, BitVec.getLsbD_or, BitVec.getLsbD_not]
    cases v.getLsbD i <;> cases w.getLsbD i <;> simp
  have a3 : (0 : W) &&& ~~~ (v ||| w) = 0 := by simp
  have a6 : ∀ i : Nat, (0 : W) <<< i = 0 := fun i => by simp
  have a7 : ∀ i : Nat, (0 : W) >>> i = 0 := fun i => by simp
  have a4 : (v ^^^ w) &&& ~~~ (0 : W) = v ^^^ w := by
    rw [show ~~~ (0 : W) = BitVec.allOnes 64 by decide, BitVec.and_allOnes]
  have a5 : (0 : W) ||| 0 = 0 := by decide
  have h64 : (64 : Int) = S 64 := by decide
  have h32 : (32 : Int) = S 32 := by decide
  unfold lockgatelaw03_TnumAlone.f
  rw [h64, h32]
  simp only [of_f, wrap_u64, ofInt_S, alu_f 200 (by decide), lalu_f 200 (by decide), add_f, sub_f, mul_f 200 (by decide), and_f, or_f, xor_f, lsh_f, rsh_f, arsh_f, Option.bind_some, add0, addv0, sub0, subv0, mul0, mulv0, alu0, alu1, alu2, alu4, alu5, alu10, alu6, alu7, alu12, alu12n, a2 0, a3, a4, a5, sar64, sar_32, sh0, sar0, a6, a7, Bool.true_and, Bool.and_true, beq_self_eq_true, Bool.and_self, if_true, known_f 200 (by decide)]
end Go.Proofs.Ytkmnogcahpbdjaa.LTnumAlone
