/- Products of numbers with known bits. -/
import Derived.Test.YtkmnogcahpbdjaaC03m
set_option linter.unusedVariables false
set_option linter.unusedSimpArgs false
set_option linter.unusedSectionVars false
namespace Go.Proofs.Ytkmnogcahpbdjaa.C03
open Go.Proofs.Ytkmnogcahpbdjaa.Bv Go.Proofs.Ytkmnogcahpbdjaa.Tn
theorem shl1 (y : W) : y <<< 1 = y + y := by
  apply BitVec.eq_of_toNat_eq
  rw [BitVec.toNat_shiftLeft, BitVec.toNat_add, Nat.shiftLeft_eq]; omega
theorem halves (x : W) : x = b1 (x.getLsbD 0) + ((x >>> 1) + (x >>> 1)) := by
  apply BitVec.eq_of_toNat_eq
  have hx := x.isLt
  have hb : (b1 (x.getLsbD 0)).toNat = x.toNat % 2 := by
    rw [BitVec.getLsbD, Nat.testBit_zero, b1]
    rcases Nat.mod_two_eq_zero_or_one x.toNat with h | h <;> simp [h]
  rw [BitVec.toNat_add, BitVec.toNat_add, hb, BitVec.toNat_ushiftRight, Nat.shiftRight_eq_div_pow]; omega
theorem prod_step (x y : W) : x * y = b1 (x.getLsbD 0) * y + (x >>> 1) * (y <<< 1) := by
  rw [shl1]
  have h := halves x
  generalize b1 (x.getLsbD 0) = b at *
  generalize x >>> 1 = z at *
  subst h
  grind
theorem mem_shr {v m x : W} (h : Mem v m x) : Mem (v >>> 1) (m >>> 1) (x >>> 1) := by
  unfold Mem at *
  subst h
  apply BitVec.eq_of_getLsbD_eq
  intro j hj
  simp only [BitVec.getLsbD_and, BitVec.getLsbD_not, BitVec.getLsbD_ushiftRight, hj]
  by_cases h : 1 + j < 64
  · simp [h]
  · rw [BitVec.getLsbD_of_ge x _ (by omega)]; simp
theorem mem_shl {v m x : W} (h : Mem v m x) : Mem (v <<< 1) (m <<< 1) (x <<< 1) := by
  unfold Mem at *
  subst h
  apply BitVec.eq_of_getLsbD_eq
  intro j hj
  simp only [BitVec.getLsbD_and, BitVec.getLsbD_not, BitVec.getLsbD_shiftLeft, hj]
  by_cases h : j < 1
  · simp [h]
  · simp [h, show j - 1 < 64 by omega]
theorem valid_shl {v m : W} (h : v &&& m = 0) : v <<< 1 &&& m <<< 1 = 0 := by
  apply and_zero_of
  intro j hj
  have := and_bit h (j - 1)
  simp only [BitVec.getLsbD_shiftLeft, hj]
  by_cases h : j < 1
  · simp [h]
  · simp only [h]; simpa using this
theorem valid_shr {v m : W} (h : v &&& m = 0) : v >>> 1 &&& m >>> 1 = 0 := by
  apply and_zero_of
  intro j hj
  have := and_bit h (1 + j)
  simp only [BitVec.getLsbD_ushiftRight]
  exact this
theorem mem_zero {x : W} (h : Mem 0 0 x) : x = 0 := by
  unfold Mem at h
  apply BitVec.eq_of_getLsbD_eq
  intro j hj
  have := congrArg (fun z => z.getLsbD j) h
  simp only [BitVec.getLsbD_and, BitVec.getLsbD_not, hj] at this
  simpa using this
theorem mem_diff {v m y : W} (h : Mem v m y) : Mem 0 m (y - v) := by
  have e : y = v + (y &&& m) := by
    have h0 : v &&& (y &&& m) = 0 := by
      unfold Mem at h; subst h
      apply and_zero_of
      intro j hj
      simp only [BitVec.getLsbD_and, BitVec.getLsbD_not, hj]
      cases m.getLsbD j <;> simp
    rw [← or_add _ _ h0]
    unfold Mem at h; subst h
    apply BitVec.eq_of_getLsbD_eq
    intro j hj
    simp only [BitVec.getLsbD_and, BitVec.getLsbD_not, BitVec.getLsbD_or, hj]
    cases m.getLsbD j <;> cases y.getLsbD j <;> simp
  have e2 : y - v = y &&& m := by
    generalize y &&& m = z at *
    subst e; grind
  rw [e2]
  unfold Mem
  apply and_zero_of
  intro j hj
  simp only [BitVec.getLsbD_and, BitVec.getLsbD_not, hj]
  cases m.getLsbD j <;> simp
theorem mem_any {v m y : W} (h : Mem v m y) : Mem 0 (v ||| m) y := by
  unfold Mem at *
  subst h
  apply and_zero_of
  intro j hj
  simp only [BitVec.getLsbD_and, BitVec.getLsbD_or, BitVec.getLsbD_not, hj]
  cases m.getLsbD j <;> cases y.getLsbD j <;> simp
theorem mem_none {m : W} : Mem 0 m 0 := by unfold Mem; simp
theorem add_sound' {va ma vb mb x y : W} (ha : va &&& ma = 0) (hb : vb &&& mb = 0) (hx : Mem va ma x) (hy : Mem vb mb y) : Mem (tAddV va ma vb mb) (addMask va ma vb mb) (x + y) := add_sound ha hb hx hy
theorem add_valid (va ma vb mb : W) : tAddV va ma vb mb &&& addMask va ma vb mb = 0 := clear_valid _ _
theorem sub_sound' {va ma vb mb x y : W} (ha : va &&& ma = 0) (hb : vb &&& mb = 0) (hx : Mem va ma x) (hy : Mem vb mb y) : Mem (tSubV va ma vb mb) (subMask va ma vb mb) (x - y) := sub_sound ha hb hx hy
theorem sub_valid (va ma vb mb : W) : tSubV va ma vb mb &&& subMask va ma vb mb = 0 := clear_valid _ _
theorem mulT_sound {av am bv bm sv sm x y p : W} (ha : av &&& am = 0) (hb : bv &&& bm = 0) (hs : sv &&& sm = 0) (hx : Mem av am x) (hy : Mem bv bm y) (hp : Mem sv sm p) :
    Mem (mulT av am bv bm sv sm).1 (mulT av am bv bm sv sm).2 (p + (b1 (x.getLsbD 0) * y - b1 (av.getLsbD 0) * bv)) ∧ (mulT av am bv bm sv sm).1 &&& (mulT av am bv bm sv sm).2 = 0 := by
  have hb0 := mem_bit hx 0 (by omega)
  have hv := and_bit ha 0
  have z : ∀ m : W, (0 : W) &&& m = 0 := fun m => by simp
  unfold mulT
  cases h1 : av.getLsbD 0
  · cases h2 : am.getLsbD 0
    · rw [h1] at hb0
      have hx0 := hb0.1 h2
      simp only [hx0, Bool.false_eq_true, if_false]
      rw [show p + (b1 false * y - b1 false * bv) = p by simp [b1]]
      exact ⟨hp, hs⟩
    · simp only [Bool.false_eq_true, if_false, if_true]
      refine ⟨add_sound' hs (z _) hp ?_, add_valid _ _ _ _⟩
      rw [show b1 false * bv = 0 by simp [b1]]
      cases x.getLsbD 0
      · rw [show b1 false * y - 0 = 0 by simp [b1]]; exact mem_none
      · rw [show b1 true * y - 0 = y by simp [b1]]; exact mem_any hy
  · rw [h1] at hv
    simp only [Bool.true_and] at hv
    have hx0 := hb0.1 hv
    rw [h1] at hx0
    simp only [if_true, hx0]
    refine ⟨add_sound' hs (z _) hp ?_, add_valid _ _ _ _⟩
    rw [show b1 true * y - b1 true * bv = y - bv by simp [b1]]
    exact mem_diff hy
theorem mulS_sound (n : Nat) : ∀ (av am bv bm : W) (s : W × W) (x y p : W), av &&& am = 0 → bv &&& bm = 0 → s.1 &&& s.2 = 0 → Mem av am x → Mem bv bm y → Mem s.1 s.2 p → av.toNat < 2 ^ n → am.toNat < 2 ^ n →
    Mem (mulS n av am bv bm s).1 (mulS n av am bv bm s).2 (p + (x * y - av * bv)) ∧ (mulS n av am bv bm s).1 &&& (mulS n av am bv bm s).2 = 0 := by
  induction n with
  | zero =>
    intro av am bv bm s x y p ha hb hs hx hy hp h1 h2
    obtain rfl : av = 0 := BitVec.eq_of_toNat_eq (by simp at h1 ⊢; omega)
    obtain rfl : am = 0 := BitVec.eq_of_toNat_eq (by simp at h2 ⊢; omega)
    obtain rfl := mem_zero hx
    simp only [mulS]
    rw [show p + (0 * y - 0 * bv) = p by simp]
    exact ⟨hp, hs⟩
  | succ n ih =>
    intro av am bv bm s x y p ha hb hs hx hy hp h1 h2
    obtain ⟨t1, t2⟩ := mulT_sound ha hb hs hx hy hp
    have := ih (av >>> 1) (am >>> 1) (bv <<< 1) (bm <<< 1) (mulT av am bv bm s.1 s.2) (x >>> 1) (y <<< 1) _ (valid_shr ha) (valid_shl hb) t2 (mem_shr hx) (mem_shl hy) t1 (half_lt h1) (half_lt h2)
    rw [prod_step x y, prod_step av bv]
    simp only [mulS]
    generalize b1 (x.getLsbD 0) * y = a1 at *
    generalize b1 (av.getLsbD 0) * bv = a2 at *
    generalize x >>> 1 * y <<< 1 = a3 at *
    generalize av >>> 1 * bv <<< 1 = a4 at *
    rw [show p + (a1 + a3 - (a2 + a4)) = p + (a1 - a2) + (a3 - a4) by grind]
    exact this
theorem mul_sound {av am bv bm x y : W} (ha : av &&& am = 0) (hb : bv &&& bm = 0) (hx : Mem av am x) (hy : Mem bv bm y) : Mem (tMulV av am bv bm) (tMulM av am bv bm) (x * y) := by
  obtain ⟨h1, h2⟩ := mulS_sound 64 av am bv bm (0, 0) x y 0 ha hb (by decide) hx hy (by unfold Mem; decide) av.isLt am.isLt
  have h3 := add_sound' (va := av * bv) (ma := 0) (x := av * bv) (by simp) h2 (mem_self (by simp)) h1
  rw [show av * bv + (0 + (x * y - av * bv)) = x * y by grind] at h3
  exact h3
theorem mul_valid (av am bv bm : W) : tMulV av am bv bm &&& tMulM av am bv bm = 0 := clear_valid _ _
end Go.Proofs.Ytkmnogcahpbdjaa.C03
