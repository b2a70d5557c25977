/- Layer 3's laws: what they share. -/
import Derived.Test.YtkmnogcahpbdjaaTm
import Derived.Test.YtkmnogcahpbdjaaC03p
import Derived.Test.YtkmnogcahpbdjaaPA13
set_option linter.unusedVariables false
set_option linter.unusedSimpArgs false
set_option linter.unusedSectionVars false
namespace Go.Proofs.Ytkmnogcahpbdjaa.L03
open Go.RowKit Go.Proofs.YtkmnogcahpbdjaaW.PrintWords Go.Proofs.YtkmnogcahpbdjaaW.PrintLast Go.Proofs.YtkmnogcahpbdjaaW.PrintMore Go.Proofs.Ytkmnogcahpbdjaa.PA Go.Proofs.Ytkmnogcahpbdjaa.Bv Go.Proofs.Ytkmnogcahpbdjaa.Tn Go.Proofs.Ytkmnogcahpbdjaa.C03
theorem may_f (v m : W) : lockgatelaw03_May.f (U v) (U m) = some (U (v &&& ~~~m), U m) := by
  rw [lockgatelaw03_May.f, b_andNot, ofInt_U, ofInt_U]
theorem one_f (v m x : W) : lockgatelaw03_one.f (U v) (U m) (U x) = some (U (v ||| (x &&& m))) := by
  rw [lockgatelaw03_one.f, b_and, b_or, ofInt_U, ofInt_U, ofInt_U, ofInt_U]
theorem known_f (k : Nat) (hk : 65 ≤ k) : lockgatelaw03_known.f k = some true := by
  unfold lockgatelaw03_known.f
  have h := mul_f k hk 6 0 7 0
  have e1 : tMulV 6 0 7 0 = 42 := by decide +kernel
  have e2 : tMulM 6 0 7 0 = 0 := by decide +kernel
  rw [e1, e2] at h
  have h' : tnum_Mul.f k 6 0 7 0 = some (42, 0) := h
  rw [show tnum_Add.f 4 2 0 1 = some (4, 3) by decide +kernel, show tnum_Of.f 6 = some (6, 0) from rfl, show tnum_Of.f 7 = some (7, 0) from rfl, show tnum_Of.f 42 = some (42, 0) from rfl]
  simp only [Option.bind_some, h']
  decide +kernel
theorem join_v (va ma vb mb : W) (ha : va &&& ma = 0) : tnum_Join.f (U va) (U ma) (U vb) (U mb) = some (U (va &&& ~~~(ma ||| mb ||| (va ^^^ vb))), U (ma ||| mb ||| (va ^^^ vb))) := by
  rw [join_f]
  by_cases h : va = vb ∧ ma = mb
  · rw [if_pos h]
    obtain ⟨rfl, rfl⟩ := h
    have e : va = va &&& ~~~(ma ||| ma ||| (va ^^^ va)) := by
      apply BitVec.eq_of_getLsbD_eq
      intro i hi
      have h1 := and_bit ha i
      simp only [BitVec.getLsbD_and, BitVec.getLsbD_not, BitVec.getLsbD_or, BitVec.getLsbD_xor, hi]
      revert h1
      cases va.getLsbD i <;> cases ma.getLsbD i <;> simp
    exact congrArg some (congrArg (fun z => (U z, _)) e)
  · rw [if_neg h]
theorem eq_bits (x y : W) : x = y ↔ ∀ i, i < 64 → x.getLsbD i = y.getLsbD i := ⟨fun h i _ => by rw [h], fun h => BitVec.eq_of_getLsbD_eq h⟩
theorem in_bits (v m x : W) : tIn v m x = true ↔ ∀ i, i < 64 → (x.getLsbD i && !m.getLsbD i) = v.getLsbD i := by
  rw [tIn, beq_iff_eq, eq_bits]
  constructor
  · intro h i hi; have := h i hi; simpa [hi] using this
  · intro h i hi; have := h i hi; simpa [hi] using this
theorem within_bits (va ma vb mb : W) : tWithin va ma vb mb = true ↔ ∀ i, i < 64 → (ma.getLsbD i && !mb.getLsbD i) = false ∧ (va.getLsbD i && !mb.getLsbD i) = vb.getLsbD i := by
  rw [tWithin, Bool.and_eq_true, in_bits, beq_iff_eq, eq_bits]
  constructor
  · rintro ⟨h1, h2⟩ i hi
    refine ⟨?_, h2 i hi⟩
    have := h1 i hi
    simpa [hi] using this
  · intro h
    refine ⟨fun i hi => ?_, fun i hi => (h i hi).2⟩
    have := (h i hi).1
    simpa [hi] using this
end Go.Proofs.Ytkmnogcahpbdjaa.L03
