/- Layer 2: an instruction read of its bytes. -/
import Derived.Test.YticijjonimiooaaC02n
import Derived.Test.YticijjonimiooaaPA9
import Derived.Test.YticijjonimiooaaPA10
set_option linter.unusedVariables false
set_option linter.unusedSimpArgs false
set_option linter.unusedSectionVars false
namespace Go.Proofs.Yticijjonimiooaa.C02
open Go.RowKit Go.Proofs.YticijjonimiooaaW.PrintWords Go.Proofs.YticijjonimiooaaW.PrintLast Go.Proofs.YticijjonimiooaaW.PrintMore Go.Proofs.Yticijjonimiooaa.PA Go.Proofs.Yticijjonimiooaa.Bv
theorem andLow (lo : Int) (h : 0 ≤ lo ∧ lo < 4294967296) : Go.bits .and .i64 (sg32 lo) 4294967295 = lo := by
  obtain ⟨a, rfl⟩ : ∃ a : Nat, lo = (a : Int) := ⟨lo.toNat, by omega⟩
  have ha : a < 4294967296 := by omega
  have e : Go.bits .and .i64 (sg32 (a : Int)) 4294967295 = S (BitVec.ofInt 64 (sg32 (a : Int)) &&& BitVec.ofInt 64 4294967295) := bits_wrap_i _
  rw [e]
  have e2 : BitVec.ofInt 64 (sg32 (a : Int)) &&& BitVec.ofInt 64 4294967295 = BitVec.ofNat 64 a := by
    apply BitVec.eq_of_toNat_eq
    rw [BitVec.toNat_and, BitVec.toNat_ofInt, BitVec.toNat_ofInt, BitVec.toNat_ofNat, Nat.mod_eq_of_lt (a := a) (by omega)]
    have m : ((4294967295 : Int) % ((2 ^ 64 : Nat) : Int)).toNat = 2 ^ 32 - 1 := rfl
    rw [m, Nat.and_two_pow_sub_one_eq_mod]
    unfold sg32
    by_cases hs : (a : Int) < 2147483648
    · rw [if_pos hs]; omega
    · rw [if_neg hs]; omega
  rw [e2]
  unfold S
  rw [BitVec.toInt_eq_toNat_cond, BitVec.toNat_ofNat, Nat.mod_eq_of_lt (a := a) (by omega), if_pos (by omega)]
theorem orHigh (lo hi : Int) (h : 0 ≤ lo ∧ lo < 4294967296) (h2 : 0 ≤ hi ∧ hi < 4294967296) : Go.bits .or .i64 lo (wrap64 (sg32 hi * 4294967296)) = lo + sg32 hi * 4294967296 := by
  obtain ⟨a, rfl⟩ : ∃ a : Nat, lo = (a : Int) := ⟨lo.toNat, by omega⟩
  obtain ⟨b, rfl⟩ : ∃ b : Nat, hi = (b : Int) := ⟨hi.toNat, by omega⟩
  have ha : a < 4294967296 := by omega
  have hb : b < 4294967296 := by omega
  have e : Go.bits .or .i64 (a : Int) (wrap64 (sg32 (b : Int) * 4294967296)) = S (BitVec.ofInt 64 (a : Int) ||| BitVec.ofInt 64 (wrap64 (sg32 (b : Int) * 4294967296))) := bits_wrap_i _
  rw [e]
  have e2 : BitVec.ofInt 64 (a : Int) ||| BitVec.ofInt 64 (wrap64 (sg32 (b : Int) * 4294967296)) = BitVec.ofNat 64 (a + b * 4294967296) := by
    apply BitVec.eq_of_toNat_eq
    rw [BitVec.toNat_or, BitVec.toNat_ofInt, BitVec.toNat_ofInt, BitVec.toNat_ofNat, Nat.mod_eq_of_lt (a := a + b * 4294967296) (by omega)]
    have m1 : ((a : Int) % ((2 ^ 64 : Nat) : Int)).toNat = a := by omega
    have m2 : (wrap64 (sg32 (b : Int) * 4294967296) % ((2 ^ 64 : Nat) : Int)).toNat = 2 ^ 32 * b := by
      unfold wrap64 sg32
      by_cases hs : (b : Int) < 2147483648
      · rw [if_pos hs]; omega
      · rw [if_neg hs]; omega
    rw [m1, m2, Nat.or_comm, ← Nat.two_pow_add_eq_or_of_lt (by omega : a < 2 ^ 32)]; omega
  rw [e2]
  unfold S sg32
  rw [BitVec.toInt_eq_toNat_cond, BitVec.toNat_ofNat, Nat.mod_eq_of_lt (a := a + b * 4294967296) (by omega)]
  by_cases hs : (b : Int) < 2147483648
  · rw [if_pos hs, if_pos (by omega)]; omega
  · rw [if_neg hs, if_neg (by omega)]; omega
theorem and15 {n : Int} (h : isB n) : Go.bits .and .u8 n 15 = n % 16 := by
  unfold isB at h
  have : (List.range 256).all (fun m => Go.bits .and .u8 (m : Int) 15 == (m : Int) % 16) = true := by decide +kernel
  have h2 := List.all_eq_true.mp this n.toNat (List.mem_range.mpr (by omega))
  rw [beq_iff_eq, show ((n.toNat : Nat) : Int) = n by omega] at h2
  exact h2
theorem icheckx (k : Nat) (hk : 310 ≤ k) (x : S40) : insn_Check.f k x.f0 x.f1 x.f2 x.f3 x.f4 = some (ck x) := by unfold ck; exact icheck k hk x.f0 x.f1 x.f2 x.f3 x.f4
theorem icheck' (k : Nat) (hk : 310 ≤ k) (op d s o i : Int) : insn_Check.f k op d s o i = some (ck ⟨op, d, s, o, i⟩) := icheckx k hk ⟨op, d, s, o, i⟩
def v4 (a b c d : Int) : Int := a + 256 * b + 65536 * c + 16777216 * d
theorem v4_in {a b c d : Int} (ha : isB a) (hb : isB b) (hc : isB c) (hd : isB d) : 0 ≤ v4 a b c d ∧ v4 a b c d < 4294967296 := by unfold isB at *; unfold v4; omega
/-- what eight bytes, and what stands behind them, are. -/
theorem first_n (k : Nat) (hk : 400 ≤ k) (b0 b1 p0 p1 i0 i1 i2 i3 : Int) (t : List Int) (h0 : isB b0) (h1 : isB b1) (hp0 : isB p0) (hp1 : isB p1) (hi0 : isB i0) (hi1 : isB i1) (hi2 : isB i2) (hi3 : isB i3) (ht : t.length ≤ 1000000) (hop : b0 ≠ 24) :
    insn_first.f k (b0 :: b1 :: p0 :: p1 :: i0 :: i1 :: i2 :: i3 :: t) = some (b0, b1 % 16, b1 / 16, sg16 (p0 + 256 * p1), sg32 (v4 i0 i1 i2 i3), 8, ck ⟨b0, b1 % 16, b1 / 16, sg16 (p0 + 256 * p1), sg32 (v4 i0 i1 i2 i3)⟩) := by
  have hB := h0; have hB1 := h1
  unfold isB at hB hB1
  unfold insn_first.f
  rw [show rd (b0 :: b1 :: p0 :: p1 :: i0 :: i1 :: i2 :: i3 :: t) 0 = b0 from rfl, show rd (b0 :: b1 :: p0 :: p1 :: i0 :: i1 :: i2 :: i3 :: t) 1 = b1 from rfl, and15 h1]
  rw [w64k (n := b0) (by omega), w64k (n := b1 % 16) (by omega), w64k (n := b1 / 16) (by omega)]
  have hlen : ((b0 :: b1 :: p0 :: p1 :: i0 :: i1 :: i2 :: i3 :: t).length : Int) = (t.length : Int) + 8 := by simp only [List.length_cons]; omega
  rw [hlen]
  refine ife (by omega) (ift (by omega) (ift (by omega) (ift (by omega) (ift (by omega) ?_))))
  refine bs (num2 k (by omega) p0 p1 hp0 hp1) (ift (by omega) (ift (by omega) ?_))
  refine bs (num4 k (by omega) i0 i1 i2 i3 hi0 hi1 hi2 hi3) (bs (size_f _ _ _ _ _) ?_)
  have hs : sz b0 = 1 := by unfold sz; rw [if_neg hop]
  rw [hs, w64k (n := 8 * 1) (by omega)]
  refine ife (by omega) (bs (icheck' k (by omega) _ _ _ _ _) rfl)
theorem first_w (k : Nat) (hk : 400 ≤ k) (b1 p0 p1 i0 i1 i2 i3 j0 j1 j2 j3 : Int) (t : List Int) (h1 : isB b1) (hp0 : isB p0) (hp1 : isB p1) (hi0 : isB i0) (hi1 : isB i1) (hi2 : isB i2) (hi3 : isB i3) (hj0 : isB j0) (hj1 : isB j1) (hj2 : isB j2) (hj3 : isB j3) (ht : t.length ≤ 1000000) :
    insn_first.f k (24 :: b1 :: p0 :: p1 :: i0 :: i1 :: i2 :: i3 :: 0 :: 0 :: 0 :: 0 :: j0 :: j1 :: j2 :: j3 :: t) = some (24, b1 % 16, b1 / 16, sg16 (p0 + 256 * p1), v4 i0 i1 i2 i3 + sg32 (v4 j0 j1 j2 j3) * 4294967296, 16, ck ⟨24, b1 % 16, b1 / 16, sg16 (p0 + 256 * p1), v4 i0 i1 i2 i3 + sg32 (v4 j0 j1 j2 j3) * 4294967296⟩) := by
  have hB1 := h1
  unfold isB at hB1
  have z : isB 0 := by unfold isB; omega
  unfold insn_first.f
  rw [show rd (24 :: b1 :: p0 :: p1 :: i0 :: i1 :: i2 :: i3 :: 0 :: 0 :: 0 :: 0 :: j0 :: j1 :: j2 :: j3 :: t) 0 = 24 from rfl, show rd (24 :: b1 :: p0 :: p1 :: i0 :: i1 :: i2 :: i3 :: 0 :: 0 :: 0 :: 0 :: j0 :: j1 :: j2 :: j3 :: t) 1 = b1 from rfl, and15 h1]
  rw [w64k (n := 24) (by omega), w64k (n := b1 % 16) (by omega), w64k (n := b1 / 16) (by omega)]
  have hlen : ((24 :: b1 :: p0 :: p1 :: i0 :: i1 :: i2 :: i3 :: 0 :: 0 :: 0 :: 0 :: j0 :: j1 :: j2 :: j3 :: t).length : Int) = (t.length : Int) + 16 := by simp only [List.length_cons]; omega
  rw [hlen]
  refine ife (by omega) (ift (by omega) (ift (by omega) (ift (by omega) (ift (by omega) ?_))))
  refine bs (num2 k (by omega) p0 p1 hp0 hp1) (ift (by omega) (ift (by omega) ?_))
  refine bs (num4 k (by omega) i0 i1 i2 i3 hi0 hi1 hi2 hi3) (bs (size_f _ _ _ _ _) ?_)
  rw [show sz 24 = 2 from rfl, w64k (n := 8 * 2) (by omega)]
  refine ift (by omega) (ife (by omega) (ift (by omega) (ift (by omega) ?_)))
  refine bs (num4 k (by omega) 0 0 0 0 z z z z) (ift rfl (ift (by omega) (ift (by omega) ?_)))
  refine bs (num4 k (by omega) j0 j1 j2 j3 hj0 hj1 hj2 hj3) ?_
  have hv := v4_in hi0 hi1 hi2 hi3
  have hw := v4_in hj0 hj1 hj2 hj3
  have e := andLow (v4 i0 i1 i2 i3) hv
  have e2 := orHigh (v4 i0 i1 i2 i3) (v4 j0 j1 j2 j3) hv hw
  unfold v4 at e e2
  rw [e, e2]
  exact bs (icheck' k (by omega) _ _ _ _ _) rfl
end Go.Proofs.Yticijjonimiooaa.C02
