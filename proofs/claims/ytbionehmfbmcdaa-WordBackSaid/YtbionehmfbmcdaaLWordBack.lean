/- WordBack, without Go: sums and quotients are taken back. -/
import Derived.Test.YtbionehmfbmcdaaL01
import Derived.Test.YtbionehmfbmcdaaC01z
import Derived.Test.YtbionehmfbmcdaaPA13
set_option linter.unusedVariables false
set_option linter.unusedSimpArgs false
set_option linter.unusedSectionVars false
namespace Go.Proofs.Ytbionehmfbmcdaa.LWordBack
open Go.RowKit Go.Proofs.YtbionehmfbmcdaaW.PrintWords Go.Proofs.YtbionehmfbmcdaaW.PrintLast Go.Proofs.YtbionehmfbmcdaaW.PrintMore Go.Proofs.Ytbionehmfbmcdaa.PA Go.Proofs.Ytbionehmfbmcdaa.Bv Go.Proofs.Ytbionehmfbmcdaa.C01 Go.Proofs.Ytbionehmfbmcdaa.L01
section
variable {n : Nat} (a b : BitVec n)
theorem g_add : a + b - b = a := by rw [BitVec.sub_eq_add_neg, BitVec.add_assoc, ← BitVec.sub_eq_add_neg, BitVec.sub_self, BitVec.add_zero]
theorem g_xor : a ^^^ b ^^^ b = a := by rw [BitVec.xor_assoc, BitVec.xor_self, BitVec.xor_zero]
theorem g_neg : a + -a = 0 := by rw [← BitVec.sub_eq_add_neg, BitVec.sub_self]; rfl
theorem g_div : a / b * b + a % b = a := by
  apply BitVec.eq_of_toNat_eq
  rw [BitVec.toNat_add, BitVec.toNat_mul, BitVec.toNat_udiv, BitVec.toNat_umod, Nat.mod_add_mod, Nat.mul_comm, Nat.div_add_mod]
  exact Nat.mod_eq_of_lt a.isLt
theorem g_disj (h : a &&& b = 0) : a + b = a ||| b := BitVec.add_eq_or_of_and_eq_zero a b h
theorem g_orand : (a ||| b) + (a &&& b) = a + b := by
  have h1 : b &&& (a &&& ~~~b) = 0 := by
    apply BitVec.eq_of_getLsbD_eq; intro i hi
    simp only [BitVec.getLsbD_and, BitVec.getLsbD_not, hi]; cases b.getLsbD i <;> simp
  have h2 : (a &&& ~~~b) &&& (a &&& b) = 0 := by
    apply BitVec.eq_of_getLsbD_eq; intro i hi
    simp only [BitVec.getLsbD_and, BitVec.getLsbD_not, hi]; cases b.getLsbD i <;> simp
  have e1 : a ||| b = b + (a &&& ~~~b) := by
    rw [g_disj _ _ h1]
    apply BitVec.eq_of_getLsbD_eq; intro i hi
    simp only [BitVec.getLsbD_and, BitVec.getLsbD_or, BitVec.getLsbD_not, hi]; cases b.getLsbD i <;> simp
  have e2 : (a &&& ~~~b) + (a &&& b) = a := by
    rw [g_disj _ _ h2]
    apply BitVec.eq_of_getLsbD_eq; intro i hi
    simp only [BitVec.getLsbD_and, BitVec.getLsbD_or, BitVec.getLsbD_not, hi]; cases b.getLsbD i <;> simp
  rw [e1, BitVec.add_assoc, e2, BitVec.add_comm]
end
theorem up_zero : up 0 = 0 := by decide
/-- what a number is, of both widths. -/
def cutW (wide : Bool) (a : W) : W := if wide then a else up (lo a)
section
variable (wide : Bool) (a b z : W)
theorem k11 : alu 11 wide z a = cutW wide a := by cases wide <;> simp [alu, aluW, aluN, cutW]
theorem k01 : alu 1 wide (alu 0 wide a b) b = cutW wide a := by
  cases wide
  · simp only [alu, aluN, cutW]; simp [lo_up, g_add]
  · simp only [alu, aluW, cutW]; simp [g_add]
theorem k10 : alu 10 wide (alu 10 wide a b) b = cutW wide a := by
  cases wide
  · simp only [alu, aluN, cutW]; simp [lo_up, g_xor]
  · simp only [alu, aluW, cutW]; simp [g_xor]
theorem k08 : alu 0 wide a (alu 8 wide a z) = 0 := by
  cases wide
  · simp only [alu, aluN]; simp [lo_up, g_neg, up_zero]; rfl
  · simp only [alu, aluW]; simp [g_neg]
theorem k39 : alu 0 wide (alu 2 wide (alu 3 wide a b) b) (alu 9 wide a b) = cutW wide a := by
  cases wide
  · simp only [alu, aluN, cutW]; simp [lo_up, g_div]
  · simp only [alu, aluW, cutW]; simp [g_div]
theorem k45 : alu 0 wide (alu 4 wide a b) (alu 5 wide a b) = alu 0 wide a b := by
  cases wide
  · simp only [alu, aluN]; simp [lo_up, g_orand]
  · simp only [alu, aluW]; simp [g_orand]
theorem kmod (h : cutW wide b ≠ 0) : alu 9 wide a b < cutW wide b := by
  cases wide
  · have hb : (lo b).toNat ≠ 0 := by
      intro e; apply h
      show up (lo b) = 0
      rw [BitVec.eq_of_toNat_eq (x := lo b) (y := 0) (by rw [e]; rfl)]; exact up_zero
    have e : alu 9 false a b = up (lo a % lo b) := by simp [alu, aluN]
    rw [e, BitVec.lt_def]
    show (up _).toNat < (up (lo b)).toNat
    rw [up_toNat, up_toNat, BitVec.toNat_umod]; exact Nat.mod_lt _ (by omega)
  · have hb : b.toNat ≠ 0 := by
      intro e; apply h; show b = 0; exact BitVec.eq_of_toNat_eq (by rw [e]; rfl)
    have e : alu 9 true a b = a % b := by simp [alu, aluW]
    rw [e, BitVec.lt_def]
    show _ < b.toNat
    rw [BitVec.toNat_umod]; exact Nat.mod_lt _ (by omega)
theorem kzero (h : cutW wide b = 0) : alu 3 wide a b = 0 ∧ alu 9 wide a b = cutW wide a := by
  cases wide
  · have hb : lo b = 0 := by
      have h : up (lo b) = 0 := h
      rw [← lo_up (lo b), h]; decide
    have e1 : alu 3 false a b = up (lo a / lo b) := by simp [alu, aluN]
    have e2 : alu 9 false a b = up (lo a % lo b) := by simp [alu, aluN]
    rw [e1, e2, hb]
    constructor
    · rw [show lo a / 0 = 0 by apply BitVec.eq_of_toNat_eq; rw [BitVec.toNat_udiv]; simp, up_zero]
    · rw [show lo a % 0 = lo a by apply BitVec.eq_of_toNat_eq; rw [BitVec.toNat_umod]; simp]; rfl
  · have h : b = 0 := h
    subst h
    have e1 : alu 3 true a 0 = a / 0 := by simp [alu, aluW]
    have e2 : alu 9 true a 0 = a % 0 := by simp [alu, aluW]
    rw [e1, e2]; exact ⟨div_zero a, mod_zero a⟩
theorem j1_true (k : Nat) (hk : 2 ≤ k) : lockgatelaw01_WordBack.j1 k wide (U a) (U b) false = some true := by
  obtain ⟨k, rfl⟩ : ∃ m, k = m + 1 := ⟨k - 1, by omega⟩
  rw [lockgatelaw01_WordBack.j1]
  refine ife nt (bs (lalu_f k (by omega) _ _ _ _) (bs (lalu_f k (by omega) _ _ _ _) (bs (lalu_f k (by omega) _ _ _ _) (bs (lalu_f k (by omega) _ _ _ _) (ift ?_ (bs (known_f k (by omega)) rfl))))))
  rw [k45]
theorem j0_true (k : Nat) (hk : 3 ≤ k) : lockgatelaw01_WordBack.j0 k wide (U a) (U b) (U (cutW wide a)) (U (cutW wide b)) (U (alu 3 wide a b)) (U (alu 9 wide a b)) false = some true := by
  obtain ⟨k, rfl⟩ : ∃ m, k = m + 1 := ⟨k - 1, by omega⟩
  rw [lockgatelaw01_WordBack.j0]
  have h1 := j1_true wide a b k (by omega)
  refine ife nt (bs (lalu_f k (by omega) _ _ _ _) (bs (lalu_f k (by omega) _ _ _ _) (ift (by rw [k39]) ?_)))
  by_cases h : cutW wide b = 0
  · obtain ⟨e1, e2⟩ := kzero wide a b h
    rw [h, e1, e2]
    refine ife (by decide) (ift rfl (ift rfl ?_))
    rw [bne_self_eq_false]; exact h1
  · refine ift ((pos_iff _).2 h) (ife ?_ (ife (by rw [U_eq_zero]; exact h) h1))
    have := kmod wide a b h
    rw [ge_iff_le, U_le_iff]
    intro hle
    rw [BitVec.lt_def] at this
    rw [BitVec.le_def] at hle
    omega
end
theorem pure (a0 : Bool) (a1 a2 : Int) (w1 : (Lit.int .u64 a1).wf = true) (w2 : (Lit.int .u64 a2).wf = true) : ∃ k, lockgatelaw01_WordBack.f k a0 a1 a2 = some true := by
  obtain ⟨a, rfl⟩ := exU w1
  obtain ⟨b, rfl⟩ := exU w2
  refine ⟨300, ?_⟩
  have l := fun op x y => lalu_f 300 (by decide) op a0 x y
  have z : (0 : Int) = U 0 := rfl
  unfold lockgatelaw01_WordBack.f
  refine bs (l 11 0 a) (bs (l 11 0 b) (bs (l 3 a b) (bs (l 9 a b) (bs (l 0 a b) (bs (l 1 _ b) ?_)))))
  refine ift (by rw [k01, k11]) (bs (l 10 a b) (bs (l 10 _ b) (ift (by rw [k10, k11]) (bs (l 8 a 0) (bs (l 0 a _) ?_)))))
  rw [k08, k11, k11]
  exact j0_true a0 a b 300 (by decide)
end Go.Proofs.Ytbionehmfbmcdaa.LWordBack
