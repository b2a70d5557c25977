/- The contracts of layer 3's functions, and of its reference, over bit vectors. -/
import Derived.Test.YtkmnogcahpbdjaaBit
import Derived.Test.YtkmnogcahpbdjaaTn
import Derived.Test.YtkmnogcahpbdjaaPA2
import Derived.Test.YtkmnogcahpbdjaaPA3
import Derived.Test.YtkmnogcahpbdjaaPA4
set_option linter.unusedVariables false
set_option linter.unusedSimpArgs false
set_option linter.unusedSectionVars false
namespace Go.Proofs.Ytkmnogcahpbdjaa.C03
open Go.RowKit Go.Proofs.YtkmnogcahpbdjaaW.PrintWords Go.Proofs.YtkmnogcahpbdjaaW.PrintLast Go.Proofs.YtkmnogcahpbdjaaW.PrintMore Go.Proofs.Ytkmnogcahpbdjaa.PA Go.Proofs.Ytkmnogcahpbdjaa.Bv Go.Proofs.Ytkmnogcahpbdjaa.Tn
attribute [local simp] wrap_u64 wrap_i64 oi_add oi_sub oi_mul oi_neg ofInt_U ofInt_S b_and b_or b_xor b_andNot U_inj U_beq U_eq_zero
def tIn (v m x : W) : Bool := x &&& ~~~m == v
def tWithin (va ma vb mb : W) : Bool := (ma &&& ~~~mb == 0) && tIn vb mb va
def tAddV (va ma vb mb : W) : W := (va + vb) &&& ~~~ addMask va ma vb mb
def tSubV (va ma vb mb : W) : W := (va - vb) &&& ~~~ subMask va ma vb mb
theorem in_f (v m x : W) : tnum_In.f (U v) (U m) (U x) = some (tIn v m x) := by simp [tnum_In.f, tIn]
theorem within_f (va ma vb mb : W) : tnum_Within.f (U va) (U ma) (U vb) (U mb) = some (tWithin va ma vb mb) := by
  simp only [tnum_Within.f, in_f, Option.bind_some, b_andNot, ofInt_U, U_eq_zero, tWithin]
  by_cases h : ma &&& ~~~mb = 0
  · rw [if_pos h, h]; rfl
  · rw [if_neg h, beq_false_of_ne h]; rfl
theorem clear_f (v m : W) : tnum_clear.f (U v) (U m) = some (U (v &&& ~~~m), U m) := by simp [tnum_clear.f]
theorem of_f (v : W) : tnum_Of.f (U v) = some (U v, U 0) := rfl
theorem any_f : tnum_Any.f = some (U 0, U (-1)) := rfl
theorem add_f (va ma vb mb : W) : tnum_Add.f (U va) (U ma) (U vb) (U mb) = some (U (tAddV va ma vb mb), U (addMask va ma vb mb)) := by
  simp [tnum_Add.f, clear_f, tAddV, addMask]
theorem sub_f (va ma vb mb : W) : tnum_Sub.f (U va) (U ma) (U vb) (U mb) = some (U (tSubV va ma vb mb), U (subMask va ma vb mb)) := by
  simp [tnum_Sub.f, clear_f, tSubV, subMask]
theorem and_f (va ma vb mb : W) : tnum_And.f (U va) (U ma) (U vb) (U mb) = some (U (va &&& vb), U ((va ||| ma) &&& (vb ||| mb) &&& ~~~(va &&& vb))) := by
  simp [tnum_And.f]
theorem or_f (va ma vb mb : W) : tnum_Or.f (U va) (U ma) (U vb) (U mb) = some (U (va ||| vb), U ((ma ||| mb) &&& ~~~(va ||| vb))) := by
  simp [tnum_Or.f]
theorem xor_f (va ma vb mb : W) : tnum_Xor.f (U va) (U ma) (U vb) (U mb) = some (U ((va ^^^ vb) &&& ~~~(ma ||| mb)), U (ma ||| mb)) := by
  simp [tnum_Xor.f, clear_f]
/-- a count of 64, by a whole number. -/
theorem cnt64 (n : W) : Int.tmod (U n) 64 = ((n.toNat % 64 : Nat) : Int) := by
  rw [Int.tmod_eq_emod_of_nonneg (U_nonneg _)]; unfold U; omega
theorem cnt32 (n : W) : Int.tmod (U n) 32 = ((n.toNat % 32 : Nat) : Int) := by
  rw [Int.tmod_eq_emod_of_nonneg (U_nonneg _)]; unfold U; omega
theorem lsh_f (v m n : W) : tnum_Lsh.f (U v) (U m) (S n) = some (U (v <<< (n.toNat % 64)), U (m <<< (n.toNat % 64))) := by
  simp only [tnum_Lsh.f, wrap_u64, ofInt_S, cnt64]
  rw [if_pos (by omega), shl_U, shl_U, Int.toNat_natCast]
theorem rsh_f (v m n : W) : tnum_Rsh.f (U v) (U m) (S n) = some (U (v >>> (n.toNat % 64)), U (m >>> (n.toNat % 64))) := by
  simp only [tnum_Rsh.f, wrap_u64, ofInt_S, cnt64]
  rw [if_pos (by omega), shr_U, shr_U, Int.toNat_natCast]
theorem lsh_1 (v m : W) : tnum_Lsh.f (U v) (U m) 1 = some (U (v <<< 1), U (m <<< 1)) := lsh_f v m 1
theorem rsh_1 (v m : W) : tnum_Rsh.f (U v) (U m) 1 = some (U (v >>> 1), U (m >>> 1)) := rsh_f v m 1
theorem join_f (va ma vb mb : W) : tnum_Join.f (U va) (U ma) (U vb) (U mb) = some (U (if va = vb ∧ ma = mb then va else va &&& ~~~(ma ||| mb ||| (va ^^^ vb))), U (ma ||| mb ||| (va ^^^ vb))) := by
  simp only [tnum_Join.f, U_beq, b_or, b_xor, ofInt_U, clear_f, Option.bind_some]
  by_cases h1 : va = vb
  · by_cases h2 : ma = mb
    · simp [h1, h2]
    · simp [h1, h2]
  · simp [h1]
theorem meet_f (va ma vb mb : W) : tnum_Meet.f (U va) (U ma) (U vb) (U mb) = if (va ^^^ vb) &&& ~~~(ma ||| mb) = 0 then some (U ((va ||| vb) &&& ~~~(ma &&& mb)), U (ma &&& mb), true) else some (U 0, U 0, false) := by
  simp only [tnum_Meet.f, b_andNot, b_or, b_xor, b_and, ofInt_U, clear_f, Option.bind_some, U_eq_zero]
  rfl
end Go.Proofs.Ytkmnogcahpbdjaa.C03
