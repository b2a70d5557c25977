/- TnumLattice, without Go: the least that has both; just what both have. -/
import Derived.Test.YtkmnogcahpbdjaaL03
import Derived.Test.YtkmnogcahpbdjaaPA17
set_option linter.unusedVariables false
set_option linter.unusedSimpArgs false
set_option linter.unusedSectionVars false
namespace Go.Proofs.Ytkmnogcahpbdjaa.LTnumLattice
open Go.RowKit Go.Proofs.YtkmnogcahpbdjaaW.PrintWords Go.Proofs.YtkmnogcahpbdjaaW.PrintLast Go.Proofs.YtkmnogcahpbdjaaW.PrintMore Go.Proofs.Ytkmnogcahpbdjaa.PA Go.Proofs.Ytkmnogcahpbdjaa.Bv Go.Proofs.Ytkmnogcahpbdjaa.Tn Go.Proofs.Ytkmnogcahpbdjaa.C03 Go.Proofs.Ytkmnogcahpbdjaa.L03
section
variable {va ma vb mb vc mc x : W} (ha : va &&& ma = 0) (hb : vb &&& mb = 0)
include ha hb
theorem join_a : tWithin va ma (va &&& ~~~(ma ||| mb ||| (va ^^^ vb))) (ma ||| mb ||| (va ^^^ vb)) = true := by
  rw [within_bits]; intro i hi
  simp only [BitVec.getLsbD_and, BitVec.getLsbD_not, BitVec.getLsbD_or, BitVec.getLsbD_xor, hi]
  cases va.getLsbD i <;> cases ma.getLsbD i <;> cases vb.getLsbD i <;> cases mb.getLsbD i <;> simp
theorem join_b : tWithin vb mb (va &&& ~~~(ma ||| mb ||| (va ^^^ vb))) (ma ||| mb ||| (va ^^^ vb)) = true := by
  rw [within_bits]; intro i hi
  simp only [BitVec.getLsbD_and, BitVec.getLsbD_not, BitVec.getLsbD_or, BitVec.getLsbD_xor, hi]
  cases va.getLsbD i <;> cases ma.getLsbD i <;> cases vb.getLsbD i <;> cases mb.getLsbD i <;> simp
theorem join_least (h1 : tWithin va ma vc mc = true) (h2 : tWithin vb mb vc mc = true) : tWithin (va &&& ~~~(ma ||| mb ||| (va ^^^ vb))) (ma ||| mb ||| (va ^^^ vb)) vc mc = true := by
  rw [within_bits] at *; intro i hi
  have g1 := h1 i hi
  have g2 := h2 i hi
  have g3 := and_bit ha i
  have g4 := and_bit hb i
  simp only [BitVec.getLsbD_and, BitVec.getLsbD_not, BitVec.getLsbD_or, BitVec.getLsbD_xor, hi]
  revert g1 g2 g3 g4
  cases va.getLsbD i <;> cases ma.getLsbD i <;> cases vb.getLsbD i <;> cases mb.getLsbD i <;> cases vc.getLsbD i <;> cases mc.getLsbD i <;> simp
section
variable (he : (va ^^^ vb) &&& ~~~(ma ||| mb) = 0)
include he
theorem he_bit (i : Nat) (hi : i < 64) : ((va.getLsbD i ^^ vb.getLsbD i) && !(ma.getLsbD i || mb.getLsbD i)) = false := by
  have := and_bit he i
  simpa only [BitVec.getLsbD_not, BitVec.getLsbD_or, BitVec.getLsbD_xor, hi, decide_true, Bool.true_and] using this
theorem meet_a : tWithin ((va ||| vb) &&& ~~~(ma &&& mb)) (ma &&& mb) va ma = true := by
  rw [within_bits]; intro i hi
  have g1 := he_bit ha hb he i hi
  have g3 := and_bit ha i
  have g4 := and_bit hb i
  simp only [BitVec.getLsbD_and, BitVec.getLsbD_not, BitVec.getLsbD_or, BitVec.getLsbD_xor, hi]
  revert g1 g3 g4
  cases va.getLsbD i <;> cases ma.getLsbD i <;> cases vb.getLsbD i <;> cases mb.getLsbD i <;> simp
theorem meet_b : tWithin ((va ||| vb) &&& ~~~(ma &&& mb)) (ma &&& mb) vb mb = true := by
  rw [within_bits]; intro i hi
  have g1 := he_bit ha hb he i hi
  have g3 := and_bit ha i
  have g4 := and_bit hb i
  simp only [BitVec.getLsbD_and, BitVec.getLsbD_not, BitVec.getLsbD_or, BitVec.getLsbD_xor, hi]
  revert g1 g3 g4
  cases va.getLsbD i <;> cases ma.getLsbD i <;> cases vb.getLsbD i <;> cases mb.getLsbD i <;> simp
theorem meet_in : tIn ((va ||| vb) &&& ~~~(ma &&& mb)) (ma &&& mb) x = (tIn va ma x && tIn vb mb x) := by
  rw [Bool.eq_iff_iff, Bool.and_eq_true, in_bits, in_bits, in_bits]
  constructor
  · intro h
    constructor
    all_goals
      intro i hi
      have g0 := h i hi
      have g1 := he_bit ha hb he i hi
      have g3 := and_bit ha i
      have g4 := and_bit hb i
      simp only [BitVec.getLsbD_and, BitVec.getLsbD_not, BitVec.getLsbD_or, BitVec.getLsbD_xor, hi] at g0
      revert g0 g1 g3 g4
      cases va.getLsbD i <;> cases ma.getLsbD i <;> cases vb.getLsbD i <;> cases mb.getLsbD i <;> cases x.getLsbD i <;> simp
  · rintro ⟨h1, h2⟩ i hi
    have g1 := h1 i hi
    have g2 := h2 i hi
    simp only [BitVec.getLsbD_and, BitVec.getLsbD_not, BitVec.getLsbD_or, BitVec.getLsbD_xor, hi]
    revert g1 g2
    cases va.getLsbD i <;> cases ma.getLsbD i <;> cases vb.getLsbD i <;> cases mb.getLsbD i <;> cases x.getLsbD i <;> simp
end
theorem one_in : tIn va ma (va ||| (x &&& ma)) = true := by
  rw [in_bits]; intro i hi
  have g3 := and_bit ha i
  simp only [BitVec.getLsbD_and, BitVec.getLsbD_or]
  revert g3
  cases va.getLsbD i <;> cases ma.getLsbD i <;> cases x.getLsbD i <;> simp
theorem none_in (he : ¬ (va ^^^ vb) &&& ~~~(ma ||| mb) = 0) (h1 : tIn va ma x = true) (h2 : tIn vb mb x = true) : False := by
  apply he
  apply and_zero_of
  intro i hi
  rw [in_bits] at h1 h2
  have g1 := h1 i hi
  have g2 := h2 i hi
  simp only [BitVec.getLsbD_not, BitVec.getLsbD_or, BitVec.getLsbD_xor, hi]
  revert g1 g2
  cases va.getLsbD i <;> cases ma.getLsbD i <;> cases vb.getLsbD i <;> cases mb.getLsbD i <;> cases x.getLsbD i <;> simp
end
theorem j0_true (k : Nat) (va ma vb mb x : W) (hv0 : va &&& ma = 0) (hw0 : vb &&& mb = 0) : lockgatelaw03_TnumLattice.j0 (k + 100) (U x) false (U va) (U ma) (U vb) (U mb) = some true := by
  simp only [lockgatelaw03_TnumLattice.j0, Bool.false_eq_true, if_false, one_f, Option.bind_some, known_f (k + 99) (by omega)]
  have hk : lockgatelaw03_known.f (Nat.add k 99) = some true := known_f (k + 99) (by omega)
  rw [meet_f]
  by_cases he : (va ^^^ vb) &&& ~~~(ma ||| mb) = 0
  · rw [if_pos he]
    have e0 : ((va ||| vb) &&& ~~~(ma &&& mb)) &&& (ma &&& mb) = 0 := clear_valid _ _
    simp only [Option.bind_some, b_and, ofInt_U, e0, if_true, within_f, meet_a hv0 hw0 he, meet_b hv0 hw0 he, in_f, U_eq_zero, meet_in hv0 hw0 he, one_in hv0 hw0, Bool.true_and]
    simp only [known_f (k + 99) (by omega), hk, Option.bind_some, beq_self_eq_true, if_true]
    cases tIn va ma x
    · simp
    · simp
  · rw [if_neg he]
    have n1 : tIn vb mb (va ||| (x &&& ma)) = false := by
      rw [← Bool.not_eq_true]; intro h; exact none_in hv0 hw0 he (one_in (x := x) hv0 hw0) h
    simp only [Option.bind_some, Bool.false_eq_true, if_false, in_f, n1, U_zero, beq_self_eq_true, Bool.and_self, if_true, known_f (k + 99) (by omega), hk]
    cases h1 : tIn va ma x
    · simp
    · have n2 : tIn vb mb x = false := by
        rw [← Bool.not_eq_true]; intro h; exact none_in hv0 hw0 he h1 h
      simp [n2]
theorem pure (a0_0 a0_1 a1_0 a1_1 a2_0 a2_1 a3 : Int) (w0_0 : (Lit.int .u64 a0_0).wf = true) (w0_1 : (Lit.int .u64 a0_1).wf = true) (w1_0 : (Lit.int .u64 a1_0).wf = true) (w1_1 : (Lit.int .u64 a1_1).wf = true) (w2_0 : (Lit.int .u64 a2_0).wf = true) (w2_1 : (Lit.int .u64 a2_1).wf = true) (w3 : (Lit.int .u64 a3).wf = true) :
    ∃ k, lockgatelaw03_TnumLattice.f k a0_0 a0_1 a1_0 a1_1 a2_0 a2_1 a3 = some true := by
  obtain ⟨va, rfl⟩ := exU w0_0
  obtain ⟨ma, rfl⟩ := exU w0_1
  obtain ⟨vb, rfl⟩ := exU w1_0
  obtain ⟨mb, rfl⟩ := exU w1_1
  obtain ⟨vc, rfl⟩ := exU w2_0
  obtain ⟨mc, rfl⟩ := exU w2_1
  obtain ⟨x, rfl⟩ := exU w3
  refine ⟨0 + 100, ?_⟩
  unfold lockgatelaw03_TnumLattice.f
  simp only [may_f, Option.bind_some]
  generalize hv : va &&& ~~~ma = v
  generalize hw : vb &&& ~~~mb = w
  generalize hz : vc &&& ~~~mc = z
  have hv0 : v &&& ma = 0 := by rw [← hv]; exact clear_valid va ma
  have hw0 : w &&& mb = 0 := by rw [← hw]; exact clear_valid vb mb
  have e0 : (v &&& ~~~(ma ||| mb ||| (v ^^^ w))) &&& (ma ||| mb ||| (v ^^^ w)) = 0 := clear_valid _ _
  have j0 := j0_true 0 v ma w mb x hv0 hw0
  simp only [join_v v ma w mb hv0, Option.bind_some, b_and, ofInt_U, U_eq_zero, e0, if_true, within_f, join_a hv0 hw0, join_b hv0 hw0]
  cases h1 : tWithin v ma z mc
  · simp only [Bool.false_eq_true, if_false]; exact j0
  · cases h2 : tWithin w mb z mc
    · simp only [Bool.false_eq_true, if_false, if_true]; exact j0
    · simp only [if_true, join_least hv0 hw0 h1 h2, Bool.not_true]; exact j0
end Go.Proofs.Ytkmnogcahpbdjaa.LTnumLattice
