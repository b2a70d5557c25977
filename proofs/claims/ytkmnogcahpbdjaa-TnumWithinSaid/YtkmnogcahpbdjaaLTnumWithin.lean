/- TnumWithin, without Go: within is inclusion. -/
import Derived.Test.YtkmnogcahpbdjaaL03
import Derived.Test.YtkmnogcahpbdjaaPA14
set_option linter.unusedVariables false
set_option linter.unusedSimpArgs false
set_option linter.unusedSectionVars false
namespace Go.Proofs.Ytkmnogcahpbdjaa.LTnumWithin
open Go.RowKit Go.Proofs.YtkmnogcahpbdjaaW.PrintWords Go.Proofs.YtkmnogcahpbdjaaW.PrintLast Go.Proofs.YtkmnogcahpbdjaaW.PrintMore Go.Proofs.Ytkmnogcahpbdjaa.PA Go.Proofs.Ytkmnogcahpbdjaa.Bv Go.Proofs.Ytkmnogcahpbdjaa.Tn Go.Proofs.Ytkmnogcahpbdjaa.C03 Go.Proofs.Ytkmnogcahpbdjaa.L03
theorem pure (a0_0 a0_1 a1_0 a1_1 a2 : Int) (w0_0 : (Lit.int .u64 a0_0).wf = true) (w0_1 : (Lit.int .u64 a0_1).wf = true) (w1_0 : (Lit.int .u64 a1_0).wf = true) (w1_1 : (Lit.int .u64 a1_1).wf = true) (w2 : (Lit.int .u64 a2).wf = true) :
    ∃ k, lockgatelaw03_TnumWithin.f k a0_0 a0_1 a1_0 a1_1 a2 = some true := by
  obtain ⟨va, rfl⟩ := exU w0_0
  obtain ⟨ma, rfl⟩ := exU w0_1
  obtain ⟨vb, rfl⟩ := exU w1_0
  obtain ⟨mb, rfl⟩ := exU w1_1
  obtain ⟨x, rfl⟩ := exU w2
  refine ⟨200, ?_⟩
  unfold lockgatelaw03_TnumWithin.f
  have hb : Go.bits .xor .u64 18446744073709551615 (U mb) = U (~~~mb) := by
    rw [b_xor, ofInt_U, show BitVec.ofInt 64 18446744073709551615 = (-1 : W) by decide]
    apply congrArg; apply BitVec.eq_of_getLsbD_eq; intro i hi
    rw [BitVec.getLsbD_xor, BitVec.getLsbD_not, show (-1 : W) = BitVec.allOnes 64 by decide, BitVec.getLsbD_allOnes]; simp [hi]
  simp only [may_f, Option.bind_some, within_f, one_f, in_f, hb, known_f 200 (by decide)]
  generalize hv : va &&& ~~~ma = v
  generalize hw : vb &&& ~~~mb = w
  have hv0 : v &&& ma = 0 := by rw [← hv]; exact clear_valid va ma
  have hw0 : w &&& mb = 0 := by rw [← hw]; exact clear_valid vb mb
  cases h : tWithin v ma w mb
  · simp only [Bool.false_eq_true, if_false]
    cases h1 : tIn w mb v
    · simp only [Bool.false_eq_true, if_false]
    · simp only [if_true]
      cases h2 : tIn w mb (v ||| (~~~mb &&& ma))
      · simp only [Bool.false_eq_true, if_false]
      · exfalso
        unfold tWithin at h
        rw [h1, Bool.and_true, beq_eq_false_iff_ne] at h
        apply h
        apply and_zero_of
        intro i hi
        unfold tIn at h1 h2
        rw [beq_iff_eq] at h1 h2
        have g1 := congrArg (fun z => z.getLsbD i) h1
        have g2 := congrArg (fun z => z.getLsbD i) h2
        have g3 := and_bit hv0 i
        simp only [BitVec.getLsbD_and, BitVec.getLsbD_not, BitVec.getLsbD_or, hi] at g1 g2 ⊢
        revert g1 g2 g3
        cases v.getLsbD i <;> cases ma.getLsbD i <;> cases mb.getLsbD i <;> cases w.getLsbD i <;> simp
  · unfold tWithin at h
    rw [Bool.and_eq_true, beq_iff_eq] at h
    obtain ⟨h1, h2⟩ := h
    have h3 : tIn w mb (v ||| (x &&& ma)) = true := by
      unfold tIn at h2 ⊢
      rw [beq_iff_eq] at h2 ⊢
      apply BitVec.eq_of_getLsbD_eq
      intro i hi
      have g1 := congrArg (fun z => z.getLsbD i) h1
      have g2 := congrArg (fun z => z.getLsbD i) h2
      simp only [BitVec.getLsbD_and, BitVec.getLsbD_not, BitVec.getLsbD_or, hi] at g1 g2 ⊢
      rw [← g2]
      revert g1
      cases v.getLsbD i <;> cases ma.getLsbD i <;> cases mb.getLsbD i <;> cases x.getLsbD i <;> simp
    simp only [h2, h3, if_true]
end Go.Proofs.Ytkmnogcahpbdjaa.LTnumWithin
