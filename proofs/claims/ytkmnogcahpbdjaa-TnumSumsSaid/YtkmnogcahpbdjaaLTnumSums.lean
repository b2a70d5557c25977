/- TnumSums, without Go: sums, differences and products of tnums that may be are the reference's. -/
import Derived.Test.YtkmnogcahpbdjaaL03
import Derived.Test.YtkmnogcahpbdjaaC03r
import Derived.Test.YtkmnogcahpbdjaaPA7
import Derived.Test.YtkmnogcahpbdjaaPA15
set_option linter.unusedVariables false
set_option linter.unusedSimpArgs false
set_option linter.unusedSectionVars false
namespace Go.Proofs.Ytkmnogcahpbdjaa.LTnumSums
open Go.RowKit Go.Proofs.YtkmnogcahpbdjaaW.PrintWords Go.Proofs.YtkmnogcahpbdjaaW.PrintLast Go.Proofs.YtkmnogcahpbdjaaW.PrintMore Go.Proofs.Ytkmnogcahpbdjaa.PA Go.Proofs.Ytkmnogcahpbdjaa.Bv Go.Proofs.Ytkmnogcahpbdjaa.Tn Go.Proofs.Ytkmnogcahpbdjaa.C03 Go.Proofs.Ytkmnogcahpbdjaa.L03
theorem rmul_l (d : Nat) : ∀ (k i : Nat) (av am bv bm sv sm : W), i + d = 64 → d < k →
    lockgateref03_Mul.l0 k (i : Int) (U av) (U am) (U bv) (U bm) (U sv) (U sm) = some (U (tAddV (av * bv) 0 (mulS d (av >>> i) (am >>> i) (bv <<< i) (bm <<< i) (sv, sm)).1 (mulS d (av >>> i) (am >>> i) (bv <<< i) (bm <<< i) (sv, sm)).2), U (addMask (av * bv) 0 (mulS d (av >>> i) (am >>> i) (bv <<< i) (bm <<< i) (sv, sm)).1 (mulS d (av >>> i) (am >>> i) (bv <<< i) (bm <<< i) (sv, sm)).2)) := by
  induction d with
  | zero =>
    intro k i av am bv bm sv sm hi hk
    obtain ⟨k, rfl⟩ : ∃ m, k = m + 1 := ⟨k - 1, by omega⟩
    rw [lockgateref03_Mul.l0, if_neg (by omega), wrap_u64, oi_mul, ofInt_U, ofInt_U, rof_f]
    simp only [Option.bind_some, radd_f, mulS]
  | succ d ih =>
    intro k i av am bv bm sv sm hi hk
    obtain ⟨k, rfl⟩ : ∃ m, k = m + 1 := ⟨k - 1, by omega⟩
    have hh := fun sv sm => ih k (i + 1) av am bv bm sv sm (by omega) (by omega)
    have e1 : ∀ x : W, x >>> i >>> 1 = x >>> (i + 1) := fun x => by rw [BitVec.shiftRight_add]
    have e2 : ∀ x : W, x <<< i <<< 1 = x <<< (i + 1) := fun x => by rw [BitVec.shiftLeft_add]
    have e3 : ∀ x : W, (x >>> i).getLsbD 0 = x.getLsbD i := fun x => by rw [BitVec.getLsbD_ushiftRight, Nat.add_zero]
    have e4 : (bv ||| bm) <<< i = bv <<< i ||| bm <<< i := by rw [BitVec.shiftLeft_or_distrib]
    have z : (0 : Int) = U 0 := rfl
    rw [lockgateref03_Mul.l0, if_pos (by omega), if_pos (by omega), u_succ i (by omega)]
    simp only [bit_eq1, mulS, mulT, e1, e2, e3, b_or, ofInt_U, shl_U, Int.toNat_natCast, e4]
    cases h1 : av.getLsbD i
    · cases h2 : am.getLsbD i
      · simp only [Bool.false_eq_true, if_false]; exact hh _ _
      · simp only [Bool.false_eq_true, if_false, if_true]; rw [z, radd_f]; simp only [Option.bind_some]; exact hh _ _
    · simp only [if_true]; rw [z, radd_f]; simp only [Option.bind_some]; exact hh _ _
theorem rmul_f (k : Nat) (hk : 65 ≤ k) (av am bv bm : W) : lockgateref03_Mul.f k (U av) (U am) (U bv) (U bm) = some (U (tMulV av am bv bm), U (tMulM av am bv bm)) := by
  rw [lockgateref03_Mul.f, show lockgateref03_Of.f 0 = some (U 0, U 0) from rfl]
  simp only [Option.bind_some]
  have := rmul_l 64 k 0 av am bv bm 0 0 rfl (by omega)
  rw [BitVec.ushiftRight_zero, BitVec.ushiftRight_zero, BitVec.shiftLeft_zero, BitVec.shiftLeft_zero] at this
  exact this
theorem pure (a0_0 a0_1 a1_0 a1_1 : Int) (w0_0 : (Lit.int .u64 a0_0).wf = true) (w0_1 : (Lit.int .u64 a0_1).wf = true) (w1_0 : (Lit.int .u64 a1_0).wf = true) (w1_1 : (Lit.int .u64 a1_1).wf = true) :
    ∃ k, lockgatelaw03_TnumSums.f k a0_0 a0_1 a1_0 a1_1 = some true := by
  obtain ⟨va, rfl⟩ := exU w0_0
  obtain ⟨ma, rfl⟩ := exU w0_1
  obtain ⟨vb, rfl⟩ := exU w1_0
  obtain ⟨mb, rfl⟩ := exU w1_1
  refine ⟨200, ?_⟩
  unfold lockgatelaw03_TnumSums.f
  simp only [may_f, Option.bind_some, add_f, radd_f, sub_f, rsub_f, mul_f 200 (by decide), rmul_f 200 (by decide), known_f 200 (by decide), beq_self_eq_true, Bool.and_self, if_true]
end Go.Proofs.Ytkmnogcahpbdjaa.LTnumSums
