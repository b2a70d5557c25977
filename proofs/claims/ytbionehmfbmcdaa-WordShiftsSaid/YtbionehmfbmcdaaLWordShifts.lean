/- WordShifts, without Go: a shift is a shift one by one. -/
import Derived.Test.YtbionehmfbmcdaaL01
import Derived.Test.YtbionehmfbmcdaaC01z
import Derived.Test.YtbionehmfbmcdaaPA15
set_option linter.unusedVariables false
set_option linter.unusedSimpArgs false
set_option linter.unusedSectionVars false
namespace Go.Proofs.Ytbionehmfbmcdaa.LWordShifts
open Go.RowKit Go.Proofs.YtbionehmfbmcdaaW.PrintWords Go.Proofs.YtbionehmfbmcdaaW.PrintLast Go.Proofs.YtbionehmfbmcdaaW.PrintMore Go.Proofs.Ytbionehmfbmcdaa.PA Go.Proofs.Ytbionehmfbmcdaa.Bv Go.Proofs.Ytbionehmfbmcdaa.C01 Go.Proofs.Ytbionehmfbmcdaa.L01
/-- a shift by m, of both widths. -/
def sft (op : Int) (wide : Bool) (a : W) (m : Nat) : W :=
  if wide then (if op = 6 then a <<< m else if op = 7 then a >>> m else a.sshiftRight m) else (if op = 6 then up (lo a <<< m) else if op = 7 then up (lo a >>> m) else sar32 a m)
theorem alu_sft (op : Int) (h : op = 6 ∨ op = 7 ∨ op = 12) (wide : Bool) (a b : W) : alu op wide a b = sft op wide a (b.toNat % wd wide) := by
  have hm : (lo b).toNat % 32 = b.toNat % 32 := by unfold lo; rw [BitVec.toNat_setWidth]; omega
  rcases h with rfl | rfl | rfl <;> cases wide <;> simp [alu, aluW, aluN, sft, wd, hm]
theorem sft_sft (op : Int) (h : op = 6 ∨ op = 7 ∨ op = 12) (wide : Bool) (a : W) (m : Nat) : sft op wide a (m + 1) = sft op wide (sft op wide a m) 1 := by
  rcases h with rfl | rfl | rfl <;> cases wide <;> simp [sft, sar32, lo_up, BitVec.shiftLeft_add, BitVec.shiftRight_add, BitVec.sshiftRight_add]
theorem one_shl (m : Nat) (h : m < 64) : ((1 : W) <<< m).toNat = 2 ^ m := by
  rw [BitVec.toNat_shiftLeft, Nat.shiftLeft_eq, show (1 : W).toNat = 1 from rfl, Nat.one_mul]
  exact Nat.mod_eq_of_lt (Nat.pow_lt_pow_right (by decide) h)
theorem lo_one_shl (m : Nat) (h : m < 32) : (lo ((1 : W) <<< m)).toNat = 2 ^ m := by
  unfold lo; rw [BitVec.toNat_setWidth, one_shl m (by omega)]
  exact Nat.mod_eq_of_lt (Nat.pow_lt_pow_right (by decide) h)
theorem sft_mul (wide : Bool) (a : W) (m : Nat) (h : m < wd wide) : sft 6 wide a m = alu 2 wide a ((1 : W) <<< m) := by
  cases wide
  · have h : m < 32 := h
    have e : alu 2 false a ((1 : W) <<< m) = up (lo a * lo ((1 : W) <<< m)) := by simp [alu, aluN]
    rw [e]
    show up (lo a <<< m) = _
    apply congrArg
    apply BitVec.eq_of_toNat_eq
    rw [BitVec.toNat_mul, lo_one_shl m h, BitVec.toNat_shiftLeft, Nat.shiftLeft_eq]
  · have h : m < 64 := h
    have e : alu 2 true a ((1 : W) <<< m) = a * ((1 : W) <<< m) := by simp [alu, aluW]
    rw [e]
    show a <<< m = _
    apply BitVec.eq_of_toNat_eq
    rw [BitVec.toNat_mul, one_shl m h, BitVec.toNat_shiftLeft, Nat.shiftLeft_eq]
theorem sft_div (wide : Bool) (a : W) (m : Nat) (h : m < wd wide) : sft 7 wide a m = alu 3 wide a ((1 : W) <<< m) := by
  cases wide
  · have h : m < 32 := h
    have e : alu 3 false a ((1 : W) <<< m) = up (lo a / lo ((1 : W) <<< m)) := by simp [alu, aluN]
    rw [e]
    show up (lo a >>> m) = _
    apply congrArg
    apply BitVec.eq_of_toNat_eq
    rw [BitVec.toNat_udiv, lo_one_shl m h, BitVec.toNat_ushiftRight, Nat.shiftRight_eq_div_pow]
  · have h : m < 64 := h
    have e : alu 3 true a ((1 : W) <<< m) = a / ((1 : W) <<< m) := by simp [alu, aluW]
    rw [e]
    show a >>> m = _
    apply BitVec.eq_of_toNat_eq
    rw [BitVec.toNat_udiv, one_shl m h, BitVec.toNat_ushiftRight, Nat.shiftRight_eq_div_pow]
section
variable (wide : Bool) (a : W) (m : Nat) (hm : m + 1 < wd wide)
include hm
theorem w64 : m < 64 := by have := (wd_le wide).1; omega
theorem cN (j : Nat) (h : j < 18446744073709551616) : ((j : Nat) : Int) = U (BitVec.ofNat 64 j) := (U_nat h).symm
theorem alu_nat (op : Int) (h : op = 6 ∨ op = 7 ∨ op = 12) (x : W) (j : Nat) (hj : j < 1000) : alu op wide x (BitVec.ofNat 64 j) = sft op wide x (j % wd wide) := by
  rw [alu_sft op h, BitVec.toNat_ofNat, Nat.mod_eq_of_lt (show j < 2 ^ 64 by omega)]
theorem step (k i : Nat) (hk : 2 ≤ k) (op : Int) (h : op = 6 ∨ op = 7 ∨ op = 12) (hi : i < 3) (ho : rd [6, 7, 12] (i : Int) = op) (hn : lockgatelaw01_WordShifts.l0 k wide (U a) (wd wide : Int) (m : Int) [6, 7, 12] ((i + 1 : Nat) : Int) = some true) :
    lockgatelaw01_WordShifts.l0 (k + 1) wide (U a) (wd wide : Int) (m : Int) [6, 7, 12] (i : Int) = some true := by
  have l64 := (wd_le wide).1
  have e1 : IntKind.u64.wrap ((m : Int) + 1) = U (BitVec.ofNat 64 (m + 1)) := by rw [u_succ m (by omega), ← U_nat (by omega)]
  have e2 : IntKind.u64.wrap ((m : Int) + IntKind.u64.wrap (wd wide : Int)) = U (BitVec.ofNat 64 (m + wd wide)) := by
    rw [wd_wrap, show (m : Int) + (wd wide : Int) = ((m + wd wide : Nat) : Int) by omega, w_nat _ (by omega), ← U_nat (by omega)]
  have e3 : (m : Int) = U (BitVec.ofNat 64 m) := (U_nat (by omega)).symm
  have e4 : (1 : Int) = U (BitVec.ofNat 64 1) := rfl
  have l := fun x j => lalu_f k (by omega) op wide x (BitVec.ofNat 64 j)
  rw [lockgatelaw01_WordShifts.l0, ho, e1, e2, i_succ i (by omega)]
  refine ift (by omega) (ift (by omega) (ift (by simp; omega) ?_))
  have c1 : alu op wide a (BitVec.ofNat 64 (m + 1)) = alu op wide (alu op wide a (BitVec.ofNat 64 m)) (BitVec.ofNat 64 1) := by
    rw [alu_nat wide m hm op h _ _ (by omega), alu_nat wide m hm op h _ _ (by omega), alu_nat wide m hm op h _ _ (by omega), Nat.mod_eq_of_lt hm, Nat.mod_eq_of_lt (show m < wd wide by omega), Nat.mod_eq_of_lt (show 1 < wd wide by omega)]
    exact sft_sft op h wide a m
  have c2 : alu op wide a (BitVec.ofNat 64 (m + wd wide)) = alu op wide a (BitVec.ofNat 64 m) := by
    rw [alu_nat wide m hm op h _ _ (by omega), alu_nat wide m hm op h _ _ (by omega), Nat.add_mod_right]
  rw [e3] at hn ⊢
  refine bs (l a (m + 1)) (bs (l a m) (bs (l _ 1) (ift (by rw [c1]) (bs (l a _) (bs (l a m) (ift (by rw [c2]) hn))))))
theorem last (k : Nat) (hk : 2 ≤ k) : lockgatelaw01_WordShifts.l0 (k + 1) wide (U a) (wd wide : Int) (m : Int) [6, 7, 12] 3 = some true := by
  have l64 := (wd_le wide).1
  have e3 : (m : Int) = U (BitVec.ofNat 64 m) := (U_nat (by omega)).symm
  have e4 : shl .u64 1 (m : Int) = U ((1 : W) <<< m) := by rw [show (1 : Int) = U 1 from rfl, shl_U, Int.toNat_natCast]
  have l := fun op x y => lalu_f k (by omega) op wide x y
  rw [lockgatelaw01_WordShifts.l0, e4]
  have p0 : (0 : Int) ≤ (m : Int) := by omega
  rw [e3] at p0 ⊢
  refine ife (by decide) (bs (l 6 a _) (ift p0 (bs (l 2 a _) (ift ?_ (bs (l 7 a _) (bs (l 3 a _) (ift ?_ (bs (known_f k (by omega)) rfl))))))))
  · rw [alu_nat wide m hm 6 (.inl rfl) a m (by omega), Nat.mod_eq_of_lt (show m < wd wide by omega), sft_mul wide a m (by omega)]
  · rw [alu_nat wide m hm 7 (.inr (.inl rfl)) a m (by omega), Nat.mod_eq_of_lt (show m < wd wide by omega), sft_div wide a m (by omega)]
theorem l0_true : lockgatelaw01_WordShifts.l0 299 wide (U a) (wd wide : Int) (m : Int) [6, 7, 12] 0 = some true :=
  step wide a m hm 298 0 (by omega) 6 (.inl rfl) (by omega) rfl (step wide a m hm 297 1 (by omega) 7 (.inr (.inl rfl)) (by omega) rfl (step wide a m hm 296 2 (by omega) 12 (.inr (.inr rfl)) (by omega) rfl (last wide a m hm 295 (by omega))))
end
theorem pure (a0 : Bool) (a1 a2 : Int) (w1 : (Lit.int .u64 a1).wf = true) (w2 : (Lit.int .i64 a2).wf = true) : ∃ k, lockgatelaw01_WordShifts.f k a0 a1 a2 = some true := by
  obtain ⟨a, rfl⟩ := exU w1
  obtain ⟨n, rfl⟩ := exS w2
  refine ⟨300, ?_⟩
  have key : lockgatelaw01_WordShifts.j0 300 a0 (U a) (S n) (wd a0 : Int) = some true := by
    have hw := wd_le a0
    have e1 : IntKind.u64.wrap (wrap64 ((wd a0 : Int) - 1)) = ((wd a0 - 1 : Nat) : Int) := by rw [wd_top, w_nat _ (by omega)]
    have hw2 : 2 ≤ wd a0 := by cases a0 <;> decide
    have e2 : Int.tmod (IntKind.u64.wrap (S n)) ((wd a0 - 1 : Nat) : Int) = ((n.toNat % (wd a0 - 1) : Nat) : Int) := by
      rw [wrap_u64, ofInt_S, Int.tmod_eq_emod_of_nonneg (U_nonneg _)]; unfold U; norm_cast
    have hlt := Nat.mod_lt n.toNat (show 0 < wd a0 - 1 by omega)
    have t := l0_true a0 a (n.toNat % (wd a0 - 1)) (by omega)
    have d : lockgatelaw01_WordShifts.j0 (299 + 1) a0 (U a) (S n) (wd a0 : Int) = some true := by
      rw [lockgatelaw01_WordShifts.j0, e1, e2]
      exact ife (by omega) t
    exact d
  unfold lockgatelaw01_WordShifts.f
  cases a0
  · exact ife nt key
  · exact ift rfl key
end Go.Proofs.Ytbionehmfbmcdaa.LWordShifts
