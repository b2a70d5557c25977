/- Known bits of sums, differences and products: plain bit vectors. -/
import Derived.Test.YtaplgollkkpnaaaBv
set_option linter.unusedVariables false
set_option linter.unusedSimpArgs false
set_option linter.unusedSectionVars false
namespace Go.Proofs.Ytaplgollkkpnaaa.Tn
open Go.Proofs.Ytaplgollkkpnaaa.Bv
/-! Bits: known bits of sums and differences. -/
theorem sub_mod (p q : W) (h : p &&& q = p) (i : Nat) : p.toNat % 2 ^ i ≤ q.toNat % 2 ^ i := by
  have e : p.toNat = p.toNat &&& q.toNat := by rw [← BitVec.toNat_and, h]
  rw [e, Nat.and_mod_two_pow]
  exact Nat.and_le_right
theorem carry_mono {p q p' q' : W} (hp : p &&& p' = p) (hq : q &&& q' = q) (i : Nat) (c : Bool) : BitVec.carry i p q c = true → BitVec.carry i p' q' c = true := by
  unfold BitVec.carry
  simp only [decide_eq_true_eq]
  have h1 := sub_mod p p' hp i
  have h2 := sub_mod q q' hq i
  omega
/-- x is one of the numbers whose bits outside of m are those of v. -/
def Mem (v m x : W) : Prop := x &&& ~~~m = v
theorem mem_bit {v m x : W} (h : Mem v m x) (i : Nat) (hi : i < 64) : (m.getLsbD i = false → x.getLsbD i = v.getLsbD i) ∧ (m.getLsbD i = true → v.getLsbD i = false) := by
  unfold Mem at h
  subst h
  simp only [BitVec.getLsbD_and, BitVec.getLsbD_not, hi]
  constructor <;> intro hm <;> simp [hm]
theorem mem_lo {v m x : W} (h : Mem v m x) : v &&& x = v := by
  unfold Mem at h; subst h
  ext i hi; simp; intro h1 _; exact h1
theorem mem_hi {v m x : W} (h : Mem v m x) : x &&& (v ||| m) = x := by
  unfold Mem at h; subst h
  ext i hi; simp
  cases x[i] <;> cases m[i] <;> simp
theorem or_add (v m : W) (h : v &&& m = 0) : v ||| m = v + m := (BitVec.add_eq_or_of_and_eq_zero v m h).symm
theorem sum_all (va ma vb mb : W) (ha : va &&& ma = 0) (hb : vb &&& mb = 0) : va + vb + ma + mb = (va ||| ma) + (vb ||| mb) := by
  rw [or_add va ma ha, or_add vb mb hb]; ac_rfl
/-- where no carry is open, and no bit of a and b, a sum's bit is that of the least numbers. -/
theorem add_bit {va ma vb mb x y : W} (ha : va &&& ma = 0) (hb : vb &&& mb = 0) (hx : Mem va ma x) (hy : Mem vb mb y) (i : Nat) (hi : i < 64)
    (h1 : ma.getLsbD i = false) (h2 : mb.getLsbD i = false) (h3 : ((va + vb + ma + mb) ^^^ (va + vb)).getLsbD i = false) : (x + y).getLsbD i = (va + vb).getLsbD i := by
  rw [sum_all va ma vb mb ha hb] at h3
  have c1 := carry_mono (mem_lo hx) (mem_lo hy) i false
  have c2 := carry_mono (mem_hi hx) (mem_hi hy) i false
  have bx := (mem_bit hx i hi).1 h1
  have b2 := (mem_bit hy i hi).1 h2
  rw [BitVec.getLsbD_xor, BitVec.getLsbD_add hi, BitVec.getLsbD_add hi] at h3
  rw [BitVec.getLsbD_add hi, BitVec.getLsbD_add hi, bx, b2]
  simp only [BitVec.getLsbD_or, h1, h2, Bool.or_false] at h3
  revert c1 c2 h3
  generalize BitVec.carry i va vb false = p
  generalize BitVec.carry i x y false = q
  generalize BitVec.carry i (va ||| ma) (vb ||| mb) false = r
  generalize va.getLsbD i = s
  generalize vb.getLsbD i = t
  revert p q r s t; decide
def addMask (va ma vb mb : W) : W := ((va + vb + ma + mb) ^^^ (va + vb)) ||| ma ||| mb
theorem add_sound {va ma vb mb x y : W} (ha : va &&& ma = 0) (hb : vb &&& mb = 0) (hx : Mem va ma x) (hy : Mem vb mb y) : Mem ((va + vb) &&& ~~~ addMask va ma vb mb) (addMask va ma vb mb) (x + y) := by
  unfold Mem
  apply BitVec.eq_of_getLsbD_eq
  intro i hi
  simp only [BitVec.getLsbD_and, BitVec.getLsbD_not, hi]
  by_cases h : (addMask va ma vb mb).getLsbD i = true
  · simp [h]
  · have h' : (addMask va ma vb mb).getLsbD i = false := by simpa using h
    have h0 := h'
    unfold addMask at h'
    rw [BitVec.getLsbD_or, BitVec.getLsbD_or] at h'
    simp only [Bool.or_eq_false_iff] at h'
    rw [add_bit ha hb hx hy i hi h'.1.2 h'.2 h'.1.1, h0]
/-! Differences by sums: x - y is the complement of the complement of x, plus y. -/
theorem sub_not (x y : W) : x - y = ~~~(~~~x + y) := by
  have e : ∀ z : W, ~~~ z = -1 - z := fun z => by rw [BitVec.not_eq_neg_add]; simp [BitVec.sub_eq_add_neg, BitVec.add_comm]
  rw [e, e]
  grind
theorem not_mem {v m x : W} (h : Mem v m x) : Mem (~~~ (v ||| m)) m (~~~ x) := by
  unfold Mem at *
  subst h
  ext i hi
  simp
  cases x[i] <;> cases m[i] <;> rfl
def subMask (va ma vb mb : W) : W := ((va - vb + ma) ^^^ (va - vb - mb)) ||| ma ||| mb
theorem sub_mask (va ma vb mb : W) (ha : va &&& ma = 0) : addMask (~~~ (va ||| ma)) ma vb mb = subMask va ma vb mb := by
  unfold addMask subMask
  rw [or_add va ma ha]
  have e : ∀ z : W, ~~~ z = -1 - z := fun z => by rw [BitVec.not_eq_neg_add]; simp [BitVec.sub_eq_add_neg, BitVec.add_comm]
  have h1 : ~~~ (va + ma) + vb = ~~~ (va - vb + ma) := by rw [e, e]; grind
  have h2 : ~~~ (va + ma) + vb + ma + mb = ~~~ (va - vb - mb) := by rw [e, e]; grind
  rw [h1] at h2 ⊢
  rw [h2]
  congr 2
  ext i hi
  simp
  cases (va - vb - mb)[i] <;> cases (va - vb + ma)[i] <;> rfl
theorem sub_sound {va ma vb mb x y : W} (ha : va &&& ma = 0) (hb : vb &&& mb = 0) (hx : Mem va ma x) (hy : Mem vb mb y) : Mem ((va - vb) &&& ~~~ subMask va ma vb mb) (subMask va ma vb mb) (x - y) := by
  have hn : ~~~ (va ||| ma) &&& ma = 0 := by
    ext i hi; simp
  have self : Mem va ma va := by
    unfold Mem; ext i hi
    have := congrArg (fun z => z.getLsbD i) ha
    simp [hi] at this ⊢
    exact this
  have selfb : Mem vb mb vb := by
    unfold Mem; ext i hi
    have := congrArg (fun z => z.getLsbD i) hb
    simp [hi] at this ⊢
    exact this
  have k1 := add_sound hn hb (not_mem hx) hy
  have k2 := add_sound hn hb (not_mem self) selfb
  rw [sub_mask va ma vb mb ha] at k1 k2
  rw [sub_not x y, sub_not va vb]
  unfold Mem at *
  generalize subMask va ma vb mb = M at *
  have k3 := k1.trans k2.symm
  ext i hi
  have := congrArg (fun z => z.getLsbD i) k3
  simp [hi] at this ⊢
  revert this
  cases M[i] <;> simp
theorem addMask_comm (va ma vb mb : W) : addMask va ma vb mb = addMask vb mb va ma := by
  unfold addMask
  rw [show vb + va + mb + ma = va + vb + ma + mb by ac_rfl, BitVec.add_comm vb va, BitVec.or_assoc, BitVec.or_comm ma mb, ← BitVec.or_assoc]
theorem and_or_self (p q : W) : p &&& (p ||| q) = p := by
  apply BitVec.eq_of_getLsbD_eq
  intro j hj
  simp only [BitVec.getLsbD_and, BitVec.getLsbD_or]
  cases p.getLsbD j <;> simp
/-- who knows more is told more, of sums. -/
theorem addMask_mono {va ma vb mb vc mc : W} (ha : va &&& ma = 0) (hb : vb &&& mb = 0) (hc : vc &&& mc = 0) (h : Mem vb mb va) (hm : ma &&& ~~~mb = 0) :
    addMask va ma vc mc &&& ~~~ addMask vb mb vc mc = 0 := by
  apply BitVec.eq_of_getLsbD_eq
  intro i hi
  simp only [BitVec.getLsbD_and, BitVec.getLsbD_not, hi]
  by_cases hq : (addMask vb mb vc mc).getLsbD i = true
  · simp [hq]
  · simp only [Bool.not_eq_true] at hq
    suffices key : (addMask va ma vc mc).getLsbD i = false by rw [key]; simp
    unfold addMask at hq ⊢
    rw [BitVec.getLsbD_or, BitVec.getLsbD_or] at hq ⊢
    simp only [Bool.or_eq_false_iff] at hq
    obtain ⟨⟨q1, q2⟩, q3⟩ := hq
    have hma : ma.getLsbD i = false := by
      have := congrArg (fun z => z.getLsbD i) hm
      simp only [BitVec.getLsbD_and, BitVec.getLsbD_not, hi, q2] at this
      simpa using this
    have hva : va.getLsbD i = vb.getLsbD i := (mem_bit h i hi).1 q2
    have sub_hi : (va ||| ma) &&& (vb ||| mb) = va ||| ma := by
      apply BitVec.eq_of_getLsbD_eq
      intro j hj
      have h1 := (mem_bit h j hj)
      have h2 := congrArg (fun z => z.getLsbD j) hm
      simp only [BitVec.getLsbD_and, BitVec.getLsbD_not, BitVec.getLsbD_or, hj] at h2 ⊢
      revert h1 h2
      cases va.getLsbD j <;> cases ma.getLsbD j <;> cases vb.getLsbD j <;> cases mb.getLsbD j <;> simp
    have c1 := carry_mono (p := vb) (q := vc) (p' := va) (q' := vc) (mem_lo h) (BitVec.and_self) i false
    have c2 := carry_mono (p := va) (q := vc) (p' := va ||| ma) (q' := vc ||| mc) (and_or_self _ _) (and_or_self _ _) i false
    have c3 := carry_mono (p := va ||| ma) (q := vc ||| mc) (p' := vb ||| mb) (q' := vc ||| mc) sub_hi (BitVec.and_self) i false
    rw [sum_all vb mb vc mc hb hc] at q1
    rw [sum_all va ma vc mc ha hc]
    rw [BitVec.getLsbD_xor, BitVec.getLsbD_add hi, BitVec.getLsbD_add hi] at q1 ⊢
    simp only [BitVec.getLsbD_or, hma, q2, q3, hva, Bool.or_false] at q1 ⊢
    revert c1 c2 c3 q1
    generalize BitVec.carry i va vc false = p
    generalize BitVec.carry i vb vc false = q
    generalize BitVec.carry i (va ||| ma) (vc ||| mc) false = r
    generalize BitVec.carry i (vb ||| mb) (vc ||| mc) false = s
    generalize vb.getLsbD i = t
    generalize vc.getLsbD i = u
    revert p q r s t u; decide
theorem not_valid (va ma : W) : ~~~ (va ||| ma) &&& ma = 0 := by
  ext i hi; simp
theorem mem_top {va ma vb mb : W} (h : Mem vb mb va) (hm : ma &&& ~~~mb = 0) : Mem vb mb (va ||| ma) := by
  unfold Mem at *
  apply BitVec.eq_of_getLsbD_eq
  intro j hj
  have h1 := congrArg (fun z => z.getLsbD j) h
  have h2 := congrArg (fun z => z.getLsbD j) hm
  simp only [BitVec.getLsbD_and, BitVec.getLsbD_not, BitVec.getLsbD_or, hj] at h1 h2 ⊢
  rw [← h1]
  revert h2
  cases va.getLsbD j <;> cases ma.getLsbD j <;> cases mb.getLsbD j <;> simp
theorem subMask_mono_l {va ma vb mb vc mc : W} (ha : va &&& ma = 0) (hb : vb &&& mb = 0) (hc : vc &&& mc = 0) (h : Mem vb mb va) (hm : ma &&& ~~~mb = 0) :
    subMask va ma vc mc &&& ~~~ subMask vb mb vc mc = 0 := by
  rw [← sub_mask va ma vc mc ha, ← sub_mask vb mb vc mc hb]
  exact addMask_mono (not_valid va ma) (not_valid vb mb) hc (not_mem (mem_top h hm)) hm
theorem subMask_mono_r {va ma vb mb vc mc : W} (ha : va &&& ma = 0) (hb : vb &&& mb = 0) (hc : vc &&& mc = 0) (h : Mem vb mb va) (hm : ma &&& ~~~mb = 0) :
    subMask vc mc va ma &&& ~~~ subMask vc mc vb mb = 0 := by
  rw [← sub_mask vc mc va ma hc, ← sub_mask vc mc vb mb hc, addMask_comm _ _ va, addMask_comm _ _ vb]
  exact addMask_mono ha hb (not_valid vc mc) h hm
theorem mem_self {v m : W} (h : v &&& m = 0) : Mem v m v := by
  unfold Mem
  apply BitVec.eq_of_getLsbD_eq
  intro j hj
  have h1 := congrArg (fun z => z.getLsbD j) h
  simp only [BitVec.getLsbD_and, BitVec.getLsbD_not, hj] at h1 ⊢
  revert h1
  cases v.getLsbD j <;> cases m.getLsbD j <;> simp
theorem clear_valid (v m : W) : (v &&& ~~~m) &&& m = 0 := by
  ext i hi; simp
end Go.Proofs.Ytaplgollkkpnaaa.Tn
