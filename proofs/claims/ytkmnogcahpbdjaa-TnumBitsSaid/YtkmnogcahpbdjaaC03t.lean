/- Layer 3: the reference's shifts with a sign, and cuts. -/
import Derived.Test.YtkmnogcahpbdjaaC03s
import Derived.Test.YtkmnogcahpbdjaaC03p
set_option linter.unusedVariables false
set_option linter.unusedSimpArgs false
set_option linter.unusedSectionVars false
namespace Go.Proofs.Ytkmnogcahpbdjaa.C03
open Go.RowKit Go.Proofs.YtkmnogcahpbdjaaW.PrintWords Go.Proofs.YtkmnogcahpbdjaaW.PrintLast Go.Proofs.YtkmnogcahpbdjaaW.PrintMore Go.Proofs.Ytkmnogcahpbdjaa.PA Go.Proofs.Ytkmnogcahpbdjaa.Bv Go.Proofs.Ytkmnogcahpbdjaa.Tn
theorem rarsh_f (k : Nat) (hk : 66 ≤ k) (v m n b : W) : lockgateref03_Arsh.f k (U v) (U m) (S n) (S b) = some (U (sar v n b 0), U (sar m n b (-1))) := by
  obtain ⟨k, rfl⟩ : ∃ m, k = m + 1 := ⟨k - 1, by omega⟩
  unfold lockgateref03_Arsh.f sar
  simp only [lockgateref03_Arsh.j0]
  by_cases h1 : S b = 64
  · rw [h1]
    simp only [if_true, show ¬ (64 : Int) = 32 by decide, if_false, bne_self_eq_false, Bool.false_eq_true, rcount64_f, Option.bind_some]
    rw [show IntKind.u64.wrap 64 = ((64 : Nat) : Int) by decide, rdown_f 64 (.inl rfl) k _ (by omega) (by omega), rdown_f 64 (.inl rfl) k _ (by omega) (by omega)]
    simp only [Option.bind_some]
    rw [acc_sshr _ _ (by omega), acc_sshr _ _ (by omega)]
  · simp only [if_neg h1]
    by_cases h2 : S b = 32
    · rw [h2]
      simp only [if_true, Bool.false_eq_true, if_false, rcount32_f, Option.bind_some]
      rw [show IntKind.u64.wrap 32 = ((32 : Nat) : Int) by decide, rdown_f 32 (.inr rfl) k _ (by omega) (by omega), rdown_f 32 (.inr rfl) k _ (by omega) (by omega)]
      simp only [Option.bind_some]
      rw [sar32_acc _ _ (by omega), sar32_acc _ _ (by omega)]
    · have : (S b != 64) = true := by simpa using h1
      simp only [if_neg h2, this, if_true, rany_f, Option.bind_some]
theorem rcut_f (v m n : W) : lockgateref03_Cut.f (U v) (U m) (S n) = some (U (cut v n), U (cut m n)) := by
  unfold lockgateref03_Cut.f cut
  by_cases h1 : 8 ≤ S n
  · rw [if_pos h1]; simp only [if_pos h1]
  · rw [if_neg h1]; simp only [if_neg h1]
    by_cases h2 : S n < 1
    · rw [if_pos h2]; simp only [if_pos h2]; rfl
    · rw [if_neg h2]; simp only [if_neg h2]
      have e : IntKind.u64.wrap (wrap64 (8 * S n)) = 8 * S n := by rw [cut_arg n h2 h1, wrap_u64, U_ofInt]; omega
      rw [e, if_pos (by omega), show (1 : Int) = U 1 from rfl, shl_U, wrap_u64, oi_sub, ofInt_U, ofInt_U]
      rw [show (8 * S n).toNat = 8 * (S n).toNat by omega]
      have hb : (8 * (S n).toNat) < 64 := by omega
      generalize 8 * (S n).toNat = q at hb
      have key : (1 : W) <<< q - 1 = ~~~ ((-1 : W) <<< q) := by
        have : ∀ z : W, ~~~ z = -1 - z := fun z => by rw [BitVec.not_eq_neg_add]; simp [BitVec.sub_eq_add_neg, BitVec.add_comm]
        rw [this, show (-1 : W) <<< q = - ((1 : W) <<< q) by rw [BitVec.shiftLeft_eq_mul_twoPow, BitVec.shiftLeft_eq_mul_twoPow]; grind]
        grind
      rw [key, b_and, b_and]; simp only [ofInt_U]
end Go.Proofs.Ytkmnogcahpbdjaa.C03
