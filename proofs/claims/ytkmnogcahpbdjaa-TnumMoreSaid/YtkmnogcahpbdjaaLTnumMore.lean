/- TnumMore, without Go: who knows more is told more. -/
import Derived.Test.YtkmnogcahpbdjaaL03
import Derived.Test.YtkmnogcahpbdjaaPA18
set_option linter.unusedVariables false
set_option linter.unusedSimpArgs false
set_option linter.unusedSectionVars false
namespace Go.Proofs.Ytkmnogcahpbdjaa.LTnumMore
open Go.RowKit Go.Proofs.YtkmnogcahpbdjaaW.PrintWords Go.Proofs.YtkmnogcahpbdjaaW.PrintLast Go.Proofs.YtkmnogcahpbdjaaW.PrintMore Go.Proofs.Ytkmnogcahpbdjaa.PA Go.Proofs.Ytkmnogcahpbdjaa.Bv Go.Proofs.Ytkmnogcahpbdjaa.Tn Go.Proofs.Ytkmnogcahpbdjaa.C03 Go.Proofs.Ytkmnogcahpbdjaa.L03
section
variable {va ma vb mb vc mc : W} (ha : va &&& ma = 0) (hb : vb &&& mb = 0) (hc : vc &&& mc = 0) (h : tWithin va ma vb mb = true)
include ha hb hc h
theorem w_mem : Mem vb mb va ∧ ma &&& ~~~mb = 0 := by
  rw [tWithin, Bool.and_eq_true, beq_iff_eq] at h
  exact ⟨by have := h.2; rw [tIn, beq_iff_eq] at this; exact this, h.1⟩
theorem within_of {X M Y N x : W} (hm : M &&& ~~~N = 0) (hx : x &&& ~~~N = Y) (hX : X = x &&& ~~~M) : tWithin X M Y N = true := by
  rw [tWithin, Bool.and_eq_true, beq_iff_eq, tIn, beq_iff_eq]
  refine ⟨hm, ?_⟩
  subst hX hx
  apply BitVec.eq_of_getLsbD_eq
  intro i hi
  have := and_bit hm i
  simp only [BitVec.getLsbD_and, BitVec.getLsbD_not, hi] at this ⊢
  revert this
  cases x.getLsbD i <;> cases M.getLsbD i <;> cases N.getLsbD i <;> simp
theorem more_add : tWithin (tAddV va ma vc mc) (addMask va ma vc mc) (tAddV vb mb vc mc) (addMask vb mb vc mc) = true := by
  obtain ⟨h1, h2⟩ := w_mem ha hb hc h
  exact within_of ha hb hc h (addMask_mono ha hb hc h1 h2) (add_sound hb hc h1 (mem_self hc)) rfl
theorem more_sub : tWithin (tSubV va ma vc mc) (subMask va ma vc mc) (tSubV vb mb vc mc) (subMask vb mb vc mc) = true := by
  obtain ⟨h1, h2⟩ := w_mem ha hb hc h
  exact within_of ha hb hc h (subMask_mono_l ha hb hc h1 h2) (sub_sound hb hc h1 (mem_self hc)) rfl
theorem more_sub' : tWithin (tSubV vc mc va ma) (subMask vc mc va ma) (tSubV vc mc vb mb) (subMask vc mc vb mb) = true := by
  obtain ⟨h1, h2⟩ := w_mem ha hb hc h
  exact within_of ha hb hc h (subMask_mono_r ha hb hc h1 h2) (sub_sound hc hb (mem_self hc) h1) rfl
theorem more_and : tWithin (va &&& vc) ((va ||| ma) &&& (vc ||| mc) &&& ~~~(va &&& vc)) (vb &&& vc) ((vb ||| mb) &&& (vc ||| mc) &&& ~~~(vb &&& vc)) = true := by
  rw [within_bits] at *; intro i hi
  have g1 := h i hi
  have g2 := and_bit ha i
  have g3 := and_bit hb i
  have g4 := and_bit hc i
  simp only [BitVec.getLsbD_and, BitVec.getLsbD_not, BitVec.getLsbD_or, hi]
  revert g1 g2 g3 g4
  cases va.getLsbD i <;> cases ma.getLsbD i <;> cases vb.getLsbD i <;> cases mb.getLsbD i <;> cases vc.getLsbD i <;> cases mc.getLsbD i <;> simp
theorem more_or : tWithin (va ||| vc) ((ma ||| mc) &&& ~~~(va ||| vc)) (vb ||| vc) ((mb ||| mc) &&& ~~~(vb ||| vc)) = true := by
  rw [within_bits] at *; intro i hi
  have g1 := h i hi
  have g2 := and_bit ha i
  have g3 := and_bit hb i
  have g4 := and_bit hc i
  simp only [BitVec.getLsbD_and, BitVec.getLsbD_not, BitVec.getLsbD_or, hi]
  revert g1 g2 g3 g4
  cases va.getLsbD i <;> cases ma.getLsbD i <;> cases vb.getLsbD i <;> cases mb.getLsbD i <;> cases vc.getLsbD i <;> cases mc.getLsbD i <;> simp
theorem more_xor : tWithin ((va ^^^ vc) &&& ~~~(ma ||| mc)) (ma ||| mc) ((vb ^^^ vc) &&& ~~~(mb ||| mc)) (mb ||| mc) = true := by
  rw [within_bits] at *; intro i hi
  have g1 := h i hi
  have g2 := and_bit ha i
  have g3 := and_bit hb i
  have g4 := and_bit hc i
  simp only [BitVec.getLsbD_and, BitVec.getLsbD_not, BitVec.getLsbD_or, BitVec.getLsbD_xor, hi]
  revert g1 g2 g3 g4
  cases va.getLsbD i <;> cases ma.getLsbD i <;> cases vb.getLsbD i <;> cases mb.getLsbD i <;> cases vc.getLsbD i <;> cases mc.getLsbD i <;> simp
theorem more_shl (n : Nat) : tWithin (va <<< n) (ma <<< n) (vb <<< n) (mb <<< n) = true := by
  rw [within_bits] at *; intro i hi
  simp only [BitVec.getLsbD_shiftLeft, hi]
  by_cases g : i < n
  · simp [g]
  · have g1 := h (i - n) (by omega)
    simpa [g] using g1
theorem more_sar (n : Nat) : tWithin (va.sshiftRight n) (ma.sshiftRight n) (vb.sshiftRight n) (mb.sshiftRight n) = true := by
  rw [within_bits] at *; intro i hi
  simp only [BitVec.getLsbD_sshiftRight, show ¬ 64 ≤ i by omega, decide_false, Bool.not_false, Bool.true_and, BitVec.msb_eq_getLsbD_last]
  by_cases g : n + i < 64
  · simp only [if_pos g]; exact h (n + i) g
  · simp only [if_neg g]; exact h (64 - 1) (by omega)
end
theorem pure (a0_0 a0_1 a1_0 a1_1 a2 a3 a4 : Int) (w0_0 : (Lit.int .u64 a0_0).wf = true) (w0_1 : (Lit.int .u64 a0_1).wf = true) (w1_0 : (Lit.int .u64 a1_0).wf = true) (w1_1 : (Lit.int .u64 a1_1).wf = true) (w2 : (Lit.int .u64 a2).wf = true) (w3 : (Lit.int .u64 a3).wf = true) (w4 : (Lit.int .i64 a4).wf = true) :
    ∃ k, lockgatelaw03_TnumMore.f k a0_0 a0_1 a1_0 a1_1 a2 a3 a4 = some true := by
  obtain ⟨vb, rfl⟩ := exU w0_0
  obtain ⟨mb, rfl⟩ := exU w0_1
  obtain ⟨vc, rfl⟩ := exU w1_0
  obtain ⟨mc, rfl⟩ := exU w1_1
  obtain ⟨x, rfl⟩ := exU w2
  obtain ⟨keep, rfl⟩ := exU w3
  obtain ⟨n, rfl⟩ := exS w4
  refine ⟨200, ?_⟩
  unfold lockgatelaw03_TnumMore.f
  simp only [may_f, one_f, Option.bind_some, b_and, ofInt_U]
  generalize hv : vb &&& ~~~mb = v
  generalize hw : vc &&& ~~~mc = w
  have hv0 : v &&& mb = 0 := by rw [← hv]; exact clear_valid vb mb
  have hw0 : w &&& mc = 0 := by rw [← hw]; exact clear_valid vc mc
  generalize hz : (v ||| (x &&& mb)) &&& ~~~(mb &&& keep) = z
  have hz0 : z &&& (mb &&& keep) = 0 := by rw [← hz]; exact clear_valid _ _
  have h : tWithin z (mb &&& keep) v mb = true := by
    rw [within_bits]; intro i hi
    have g := and_bit hv0 i
    rw [← hz]
    simp only [BitVec.getLsbD_and, BitVec.getLsbD_not, BitVec.getLsbD_or, hi]
    revert g
    cases v.getLsbD i <;> cases mb.getLsbD i <;> cases x.getLsbD i <;> cases keep.getLsbD i <;> simp
  have h64 : (64 : Int) = S 64 := by decide
  rw [h64]
  simp only [within_f, h, add_f, sub_f, and_f, or_f, xor_f, lsh_f, arsh_f, Option.bind_some, if_true, more_add hz0 hv0 hw0 h, more_sub hz0 hv0 hw0 h, more_sub' hz0 hv0 hw0 h, more_and hz0 hv0 hw0 h, more_or hz0 hv0 hw0 h, more_xor hz0 hv0 hw0 h, more_shl hz0 hv0 hw0 h]
  have e : ∀ y any : W, sar y n 64 any = y.sshiftRight (n.toNat % 64) := fun y any => by unfold sar; rw [if_pos (by decide)]
  simp only [e, more_sar hz0 hv0 hw0 h, if_true, known_f 200 (by decide), Option.bind_some]
end Go.Proofs.Ytkmnogcahpbdjaa.LTnumMore
