/- Layer 3: the program's shifts with a sign, and cuts. -/
import Derived.Test.YtkmnogcahpbdjaaC03
import Derived.Test.YtkmnogcahpbdjaaBv32
set_option linter.unusedVariables false
set_option linter.unusedSimpArgs false
set_option linter.unusedSectionVars false
namespace Go.Proofs.Ytkmnogcahpbdjaa.C03
open Go.RowKit Go.Proofs.YtkmnogcahpbdjaaW.PrintWords Go.Proofs.YtkmnogcahpbdjaaW.PrintLast Go.Proofs.YtkmnogcahpbdjaaW.PrintMore Go.Proofs.Ytkmnogcahpbdjaa.PA Go.Proofs.Ytkmnogcahpbdjaa.Bv Go.Proofs.Ytkmnogcahpbdjaa.Tn
/-- Arsh, of a value or a mask. -/
def sar (x : W) (n b : W) (any : W) : W := if S b = 64 then x.sshiftRight (n.toNat % 64) else if S b = 32 then sar32 x (n.toNat % 32) else any
theorem arsh_f (v m n b : W) : tnum_Arsh.f (U v) (U m) (S n) (S b) = some (U (sar v n b 0), U (sar m n b (-1))) := by
  unfold tnum_Arsh.f sar
  by_cases h1 : S b = 64
  · simp only [if_pos h1, wrap_u64, wrap_i64, ofInt_S, ofInt_U, cnt64]
    rw [if_pos (by omega), shr_S, shr_S]; simp only [ofInt_S, Int.toNat_natCast]
  · simp only [if_neg h1]
    by_cases h2 : S b = 32
    · simp only [if_pos h2, wrap_u64, ofInt_S, cnt32]
      rw [if_pos (by omega), sar32_f, sar32_f]
    · simp only [if_neg h2, any_f, Option.bind_some]
/-- Cut, of a value or a mask. -/
def cut (x : W) (n : W) : W := if 8 ≤ S n then x else if S n < 1 then 0 else x &&& ~~~ ((-1 : W) <<< (8 * (S n).toNat))
theorem cut_arg (n : W) (h1 : ¬ S n < 1) (h2 : ¬ 8 ≤ S n) : wrap64 (8 * S n) = 8 * S n := by unfold wrap64; omega
theorem cut_f (v m n : W) : tnum_Cut.f (U v) (U m) (S n) = some (U (cut v n), U (cut m n)) := by
  unfold tnum_Cut.f cut
  by_cases h1 : 8 ≤ S n
  · rw [if_pos h1]; simp only [if_pos h1]
  · rw [if_neg h1]; simp only [if_neg h1]
    by_cases h2 : S n < 1
    · rw [if_pos h2]; simp only [if_pos h2]; rfl
    · rw [if_neg h2]; simp only [if_neg h2]
      rw [cut_arg n h2 h1, if_pos (by omega), show (18446744073709551615 : Int) = U (-1) from rfl, shl_U, b_andNot, b_andNot]
      simp only [ofInt_U]
      rw [show (8 * S n).toNat = 8 * (S n).toNat by omega]
end Go.Proofs.Ytkmnogcahpbdjaa.C03
