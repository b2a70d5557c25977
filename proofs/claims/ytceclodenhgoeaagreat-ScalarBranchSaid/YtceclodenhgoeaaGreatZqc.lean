/- Layer 5, against the reference: FromT is the same on both sides. -/
import Derived.Test.YtceclodenhgoeaaGreatZqb
namespace Go.Proofs.YtceclodenhgoeaaGreat.Zqc
open Go Go.RowKit Go.Proofs Go.Proofs.YtceclodenhgoeaaGreat.Xc Go.Proofs.YtceclodenhgoeaaGreat.Zs Go.Proofs.YtceclodenhgoeaaGreat.Zu Go.Proofs.YtceclodenhgoeaaGreat.Zv Go.Proofs.YtceclodenhgoeaaGreat.Zo Go.Proofs.YtceclodenhgoeaaGreat.Zq Go.Proofs.YtceclodenhgoeaaGreat.Bv
set_option linter.unusedVariables false
set_option linter.unusedSimpArgs false
theorem or_plus {A B : W} (h : A &&& B = 0#64) : Go.bits .or .u64 (U A) (U B) = IntKind.wrap .u64 (U A + U B) := by
  rw [b_or, ofInt_U, ofInt_U, wrap_u64, oi_add, ofInt_U, ofInt_U, BitVec.add_eq_or_of_and_eq_zero _ _ h]
theorem top_iff (B : W) : Go.bits .and .u64 (U B) 9223372036854775808 = 0 ↔ U B < 9223372036854775808 := by
  have h1 := BitVec.msb_eq_decide B
  have h2 := BitVec.msb_eq_getLsbD_last B
  rw [h1] at h2
  have hH : ∀ i, i < 64 → (BitVec.ofInt 64 9223372036854775808).getLsbD i = decide (i = 63) := by decide
  rw [b_and, ofInt_U, show (0 : Int) = U 0#64 from rfl, U_inj]
  constructor
  · intro h
    have := congrArg (fun w : W => w.getLsbD 63) h
    simp only [BitVec.getLsbD_and, hH 63 (by decide)] at this
    simp at this
    rw [show B.getLsbD (64 - 1) = B.getLsbD 63 from rfl] at h2
    unfold U
    simp [this] at h2
    omega
  · intro h
    have hb : B.getLsbD 63 = false := by
      rw [show B.getLsbD (64 - 1) = B.getLsbD 63 from rfl] at h2
      rw [← h2]; unfold U at h; simp; omega
    apply BitVec.eq_of_getLsbD_eq; intro i hi
    rw [BitVec.getLsbD_and, hH i hi]
    by_cases h63 : i = 63
    · subst h63; rw [hb]; simp
    · simp [h63]
/-- FromT of both sides, by the words of the reference. -/
theorem rFromT (A B : W) (K : Value → Prop) (hAB : A &&& B = 0#64) (h : nFromT2 (U A) (U B) K) : nFromT1 (U A) (U B) K := by
  rw [nFromT2_eq] at h
  rw [nFromT1_eq]
  have e1 := or_plus hAB
  have hH : ∀ i, i < 64 → (BitVec.ofInt 64 9223372036854775808).getLsbD i = decide (i = 63) := by decide
  refine br_cases (fun q => ?_) (fun q => ?_)
  · have q : Go.bits .and .u64 (U B) 9223372036854775808 = 0 := by simpa using q
    have q2 := (top_iff B).1 q
    rw [decide_eq_true q2] at h
    rw [e1]; exact h
  · have q : ¬ Go.bits .and .u64 (U B) 9223372036854775808 = 0 := by simpa using q
    have q2 : ¬ U B < 9223372036854775808 := fun k => q ((top_iff B).2 k)
    rw [decide_eq_false q2] at h
    have hB : B.getLsbD 63 = true := by
      have h1 := BitVec.msb_eq_decide B
      have h2 := BitVec.msb_eq_getLsbD_last B
      rw [h1, show B.getLsbD (64 - 1) = B.getLsbD 63 from rfl] at h2
      rw [← h2]; unfold U at q2; simp; omega
    have hA : A.getLsbD 63 = false := by
      have := congrArg (fun w : W => w.getLsbD 63) hAB
      simp only [BitVec.getLsbD_and, hB] at this
      simpa using this
    have z1 : A &&& BitVec.ofInt 64 9223372036854775808 = 0#64 := by
      apply BitVec.eq_of_getLsbD_eq; intro i hi
      rw [BitVec.getLsbD_and, hH i hi]
      by_cases h63 : i = 63
      · subst h63; rw [hA]; simp
      · simp [h63]
    have z2 : A &&& (B &&& ~~~ BitVec.ofInt 64 9223372036854775808) = 0#64 := by
      rw [← BitVec.and_assoc, hAB]; simp
    have u1 : U (BitVec.ofInt 64 9223372036854775808) = 9223372036854775808 := by decide
    have e2 := or_plus z1
    rw [u1] at e2
    have e3 := or_plus z2
    have e4 : Go.bits .andNot .u64 (U B) 9223372036854775808 = U (B &&& ~~~ BitVec.ofInt 64 9223372036854775808) := by rw [b_andNot, ofInt_U]
    have e5 : U (B &&& ~~~ BitVec.ofInt 64 9223372036854775808) = IntKind.wrap .u64 (U B - 9223372036854775808) := by
      have s : B = (B &&& ~~~ BitVec.ofInt 64 9223372036854775808) + BitVec.ofInt 64 9223372036854775808 := by
        rw [BitVec.add_eq_or_of_and_eq_zero _ _ (by
          apply BitVec.eq_of_getLsbD_eq; intro i hi
          simp only [BitVec.getLsbD_and, BitVec.getLsbD_not, hH i hi, hi]
          cases decide (i = 63) <;> simp)]
        apply BitVec.eq_of_getLsbD_eq; intro i hi
        simp only [BitVec.getLsbD_or, BitVec.getLsbD_and, BitVec.getLsbD_not, hH i hi, hi]
        by_cases h63 : i = 63
        · subst h63; rw [hB]; simp
        · simp [h63]
      rw [wrap_u64, oi_sub, ofInt_U]
      congr 1
      generalize B &&& ~~~ BitVec.ofInt 64 9223372036854775808 = Z at *
      rw [s]; grind
    rw [e1, e2, e4, e3, e5]
    exact h
end Go.Proofs.YtceclodenhgoeaaGreat.Zqc
