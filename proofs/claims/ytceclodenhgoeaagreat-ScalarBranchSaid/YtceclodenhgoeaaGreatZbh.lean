/- Layer 5, against the reference: In, Within, Join, Meet of tnums: the same answers on both sides. -/
import Derived.Test.YtceclodenhgoeaaGreatZbg
import Derived.Test.YtceclodenhgoeaaGreatZv
namespace Go.Proofs.YtceclodenhgoeaaGreat.Zbh
open Go Go.RowKit Go.Proofs Go.Proofs.YtceclodenhgoeaaGreat.Xc Go.Proofs.YtceclodenhgoeaaGreat.Zs Go.Proofs.YtceclodenhgoeaaGreat.Zu Go.Proofs.YtceclodenhgoeaaGreat.Zv Go.Proofs.YtceclodenhgoeaaGreat.Zo Go.Proofs.YtceclodenhgoeaaGreat.Zbf Go.Proofs.YtceclodenhgoeaaGreat.Zbg Go.Proofs.YtceclodenhgoeaaGreat.Bv
set_option linter.unusedVariables false
set_option linter.unusedSimpArgs false
theorem dj0 {v : Int} (h : u6 v) : dj v 0 := by
  obtain ⟨V, rfl⟩ := exu h
  exact ⟨V, 0#64, rfl, rfl, by simp⟩
theorem dj_u {a b : Int} (h : dj a b) : u6 a ∧ u6 b := by
  obtain ⟨A, B, rfl, rfl, _⟩ := h; exact ⟨⟨U_nonneg _, U_lt _⟩, ⟨U_nonneg _, U_lt _⟩⟩
theorem dj_cl (X M : W) : (X &&& ~~~ M) &&& M = 0#64 := by
  rw [BitVec.and_assoc, BitVec.and_comm (~~~ M), BitVec.and_not_self]; simp
theorem rI2 {a m v : Int} {K : Value → Prop} (h : dj a m) (hv : u6 v) (k : K (.bool (inT a m v))) : nI2 a m v K := by
  rw [nI2_eq]
  refine ⟨rfl, rfl, ⟨h, dj0 hv⟩, br_cases (fun q => ?_) (fun q => fun _ => ?_)⟩
  · rw [q] at k; exact k
  · rw [q] at k; exact k
theorem rW2 {a am b bm : Int} {K : Value → Prop} (h : dj a am) (h2 : dj b bm) (k : K (.bool (wiT a am b bm))) : nW2 a am b bm K := by
  rw [nW2_eq]
  refine ⟨rfl, rfl, ⟨h, h2⟩, br_cases (fun q => ?_) (fun q => fun _ => ?_)⟩
  · rw [q] at k; exact k
  · rw [q] at k; exact k
theorem rJ2 {a am b bm : Int} {K : Value → Prop} (h : dj a am) (h2 : dj b bm) (k : K (T2 (joV a am b bm) (joM a am b bm))) : nJ2 a am b bm K := by
  rw [nJ2_eq]; exact ⟨rfl, rfl, ⟨h, h2⟩, k⟩
/-- What a meet says. -/
def meK (a am b bm : Int) (K : Value → Prop) : Prop := br (meO a am b bm) (K (.tuple #[T2 (meV a am b bm) (meM a am b bm), .bool true])) (K (.tuple #[T2 0 0, .bool false]))
theorem rM2 {a am b bm : Int} {K : Value → Prop} (h : dj a am) (h2 : dj b bm) (k : meK a am b bm K) : nM2 a am b bm K := by
  rw [nM2_eq]
  unfold meK at k
  refine ⟨rfl, rfl, ⟨h, h2⟩, br_cases (fun q => ?_) (fun q => fun _ _ _ => ?_)⟩
  · rw [q] at k; exact k
  · rw [q] at k; exact k
theorem rI1 {a m v : Int} {K : Value → Prop} (k : K (.bool (inT a m v))) : nI1 a m v K := by rw [nI1_eq]; exact k
theorem rW1 {a am b bm : Int} {K : Value → Prop} (k : K (.bool (wiT a am b bm))) : nW1 a am b bm K := by
  rw [nW1_eq]
  repeat (first | with_reducible refine ob_self ?_ | with_reducible refine ob_true ?_)
  refine nm_intro fun r hr => ?_
  rw [hr]
  unfold wiT inT at k
  revert k
  cases (Go.bits .andNot .u64 am bm == 0) <;> exact id
theorem rJ1 {a am b bm : Int} {K : Value → Prop} (h : dj a am) (h2 : dj b bm) (k : K (T2 (joV a am b bm) (joM a am b bm))) : nJ1 a am b bm K := by
  rw [nJ1_eq]
  refine br_cases (fun q => ?_) (fun q => k)
  simp only [Bool.and_eq_true, beq_iff_eq] at q
  obtain ⟨rfl, rfl⟩ := q
  obtain ⟨A, M, rfl, rfl, hd⟩ := h
  have em : joM (U A) (U M) (U A) (U M) = U M := by
    unfold joM; rw [b_xor, b_or, b_or]; simp only [ofInt_U, BitVec.or_self, BitVec.xor_self, BitVec.or_zero]
  have ev : joV (U A) (U M) (U A) (U M) = U A := by
    unfold joV; rw [em, b_andNot]; simp only [ofInt_U]
    congr 1
    apply BitVec.eq_of_getLsbD_eq; intro j hj
    have e := at_bit hd j
    rw [BitVec.getLsbD_and] at e
    rw [BitVec.getLsbD_and, BitVec.getLsbD_not, decide_eq_true hj]
    revert e
    cases M.getLsbD j <;> cases A.getLsbD j <;> simp
  rw [em, ev] at k; exact k
theorem me_dj {a am b bm : Int} (h : dj a am) (h2 : dj b bm) : dj (meV a am b bm) (meM a am b bm) ∧ Go.bits .andNot .u64 (Go.bits .or .u64 a b) (Go.bits .and .u64 am bm) = meV a am b bm := by
  obtain ⟨A, M, rfl, rfl, hd⟩ := h
  obtain ⟨B, N, rfl, rfl, hd2⟩ := h2
  have z : (A ||| B) &&& (M &&& N) = 0#64 := by
    apply BitVec.eq_of_getLsbD_eq; intro j hj
    have e := at_bit hd j
    have e2 := at_bit hd2 j
    rw [BitVec.getLsbD_and] at e e2
    rw [BitVec.getLsbD_and, BitVec.getLsbD_and, BitVec.getLsbD_or]
    revert e e2
    cases M.getLsbD j <;> cases A.getLsbD j <;> cases N.getLsbD j <;> cases B.getLsbD j <;> simp
  unfold meV meM
  rw [b_or, b_and, b_andNot]
  simp only [ofInt_U]
  refine ⟨⟨_, _, rfl, rfl, z⟩, ?_⟩
  congr 1
  apply BitVec.eq_of_getLsbD_eq; intro j hj
  have e := at_bit z j
  rw [BitVec.getLsbD_and] at e
  rw [BitVec.getLsbD_and, BitVec.getLsbD_not, decide_eq_true hj]
  revert e
  cases (M &&& N).getLsbD j <;> cases (A ||| B).getLsbD j <;> simp
theorem rM1 {a am b bm : Int} {K : Value → Prop} (h : dj a am) (h2 : dj b bm) (k : meK a am b bm K) : nM1 a am b bm K := by
  rw [nM1_eq, (me_dj h h2).2]
  unfold meK meO at k
  revert k
  rw [bne]
  cases (Go.bits .andNot .u64 (Go.bits .xor .u64 a b) (Go.bits .or .u64 am bm) == 0) <;> exact id
end Go.Proofs.YtceclodenhgoeaaGreat.Zbh
