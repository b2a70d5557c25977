/- WordOrders, without Go: just one of below, alike, above. -/
import Derived.Test.YtbionehmfbmcdaaL01
import Derived.Test.YtbionehmfbmcdaaC01z
import Derived.Test.YtbionehmfbmcdaaPA16
set_option linter.unusedVariables false
set_option linter.unusedSimpArgs false
set_option linter.unusedSectionVars false
namespace Go.Proofs.Ytbionehmfbmcdaa.LWordOrders
open Go.RowKit Go.Proofs.YtbionehmfbmcdaaW.PrintWords Go.Proofs.YtbionehmfbmcdaaW.PrintLast Go.Proofs.YtbionehmfbmcdaaW.PrintMore Go.Proofs.Ytbionehmfbmcdaa.PA Go.Proofs.Ytbionehmfbmcdaa.Bv Go.Proofs.Ytbionehmfbmcdaa.C01 Go.Proofs.Ytbionehmfbmcdaa.L01
theorem ordI_cases (x y : Int) : (x < y ∧ ordI x y = -1) ∨ (x = y ∧ ordI x y = 0) ∨ (y < x ∧ ordI x y = 1) := by
  unfold ordI
  by_cases h : x < y
  · rw [if_pos h]; exact .inl ⟨h, rfl⟩
  · rw [if_neg h]
    by_cases h2 : x > y
    · rw [if_pos h2]; exact .inr (.inr ⟨h2, rfl⟩)
    · rw [if_neg h2]; exact .inr (.inl ⟨by omega, rfl⟩)
section
variable (wide : Bool) (a b : W)
theorem q1 : jmp 1 wide a b = decide (U (jA wide a) = U (jA wide b)) := by
  show (ordI (U (jA wide a)) (U (jA wide b)) == 0) = _
  rcases ordI_cases (U (jA wide a)) (U (jA wide b)) with ⟨h, e⟩ | ⟨h, e⟩ | ⟨h, e⟩ <;> rw [e]
  · symm; rw [decide_eq_false (by omega)]; rfl
  · symm; rw [decide_eq_true h]; rfl
  · symm; rw [decide_eq_false (by omega)]; rfl
theorem q10 : jmp 10 wide a b = decide (U (jA wide a) < U (jA wide b)) := by
  show decide (ordI (U (jA wide a)) (U (jA wide b)) < 0) = _
  rcases ordI_cases (U (jA wide a)) (U (jA wide b)) with ⟨h, e⟩ | ⟨h, e⟩ | ⟨h, e⟩ <;> rw [e, decide_eq_decide] <;> constructor <;> intro _ <;> omega
theorem q2 : jmp 2 wide a b = decide (U (jA wide b) < U (jA wide a)) := by
  show decide (ordI (U (jA wide a)) (U (jA wide b)) > 0) = _
  rcases ordI_cases (U (jA wide a)) (U (jA wide b)) with ⟨h, e⟩ | ⟨h, e⟩ | ⟨h, e⟩ <;> rw [e, decide_eq_decide] <;> constructor <;> intro _ <;> omega
theorem q12 : jmp 12 wide a b = decide (jS wide a < jS wide b) := by
  show decide (ordI (jS wide a) (jS wide b) < 0) = _
  rcases ordI_cases (jS wide a) (jS wide b) with ⟨h, e⟩ | ⟨h, e⟩ | ⟨h, e⟩ <;> rw [e, decide_eq_decide] <;> constructor <;> intro _ <;> omega
theorem q6 : jmp 6 wide a b = decide (jS wide b < jS wide a) := by
  show decide (ordI (jS wide a) (jS wide b) > 0) = _
  rcases ordI_cases (jS wide a) (jS wide b) with ⟨h, e⟩ | ⟨h, e⟩ | ⟨h, e⟩ <;> rw [e, decide_eq_decide] <;> constructor <;> intro _ <;> omega
theorem n5 : (jmp 5 wide a b == jmp 1 wide a b) = false := by
  show ((ordI (U (jA wide a)) (U (jA wide b)) != 0) == (ordI (U (jA wide a)) (U (jA wide b)) == 0)) = false
  rcases ordI_cases (U (jA wide a)) (U (jA wide b)) with ⟨_, e⟩ | ⟨_, e⟩ | ⟨_, e⟩ <;> rw [e] <;> rfl
theorem n3 : (jmp 3 wide a b == jmp 10 wide a b) = false := by
  show (decide (ordI (U (jA wide a)) (U (jA wide b)) ≥ 0) == decide (ordI (U (jA wide a)) (U (jA wide b)) < 0)) = false
  rcases ordI_cases (U (jA wide a)) (U (jA wide b)) with ⟨_, e⟩ | ⟨_, e⟩ | ⟨_, e⟩ <;> rw [e] <;> rfl
theorem n11 : (jmp 11 wide a b == jmp 2 wide a b) = false := by
  show (decide (ordI (U (jA wide a)) (U (jA wide b)) ≤ 0) == decide (ordI (U (jA wide a)) (U (jA wide b)) > 0)) = false
  rcases ordI_cases (U (jA wide a)) (U (jA wide b)) with ⟨_, e⟩ | ⟨_, e⟩ | ⟨_, e⟩ <;> rw [e] <;> rfl
theorem n7 : (jmp 7 wide a b == jmp 12 wide a b) = false := by
  show (decide (ordI (jS wide a) (jS wide b) ≥ 0) == decide (ordI (jS wide a) (jS wide b) < 0)) = false
  rcases ordI_cases (jS wide a) (jS wide b) with ⟨_, e⟩ | ⟨_, e⟩ | ⟨_, e⟩ <;> rw [e] <;> rfl
theorem n13 : (jmp 13 wide a b == jmp 6 wide a b) = false := by
  show (decide (ordI (jS wide a) (jS wide b) ≤ 0) == decide (ordI (jS wide a) (jS wide b) > 0)) = false
  rcases ordI_cases (jS wide a) (jS wide b) with ⟨_, e⟩ | ⟨_, e⟩ | ⟨_, e⟩ <;> rw [e] <;> rfl
theorem same : U (jA wide a) = U (jA wide b) ↔ jS wide a = jS wide b := by
  cases wide
  · show U (up (lo a)) = U (up (lo b)) ↔ (lo a).toInt = (lo b).toInt
    rw [U_up, U_up, V_inj, BitVec.toInt_inj]
  · show U a = U b ↔ S a = S b
    rw [U_inj, S_inj]
theorem p4 : (jmp 4 wide a b != (U (alu 5 wide a b) != 0)) = false := by
  have e : jmp 4 wide a b = (jA wide a &&& jA wide b != 0) := rfl
  have e2 : alu 5 wide a b = jA wide a &&& jA wide b := by
    cases wide
    · have : alu 5 false a b = up (lo a &&& lo b) := by simp [alu, aluN]
      rw [this]
      show up (lo a &&& lo b) = up (lo a) &&& up (lo b)
      apply BitVec.eq_of_getLsbD_eq; intro i hi
      rw [up_bit, BitVec.getLsbD_and, BitVec.getLsbD_and, up_bit, up_bit]; simp [hi]
    · simp [alu, aluW, jA]
  rw [e, e2, U_bne, bne_self_eq_false]
/-- half of all numbers. -/
def half (wide : Bool) : W := if wide then 9223372036854775808 else 2147483648
theorem p12 : jmp 12 wide a b = jmp 10 wide (a + half wide) (b + half wide) := by
  rw [q12, q10, decide_eq_decide]
  cases wide
  · show (lo a).toInt < (lo b).toInt ↔ U (up (lo (a + 2147483648))) < U (up (lo (b + 2147483648)))
    rw [U_up, U_up, lo_add, lo_add, show lo 2147483648 = (2147483648 : W32) by decide]
    unfold V
    rw [BitVec.toInt_eq_toNat_cond, BitVec.toInt_eq_toNat_cond, BitVec.toNat_add, BitVec.toNat_add, show (2147483648 : W32).toNat = 2147483648 from rfl]
    have h1 := (lo a).isLt
    have h2 := (lo b).isLt
    split <;> split <;> omega
  · show S a < S b ↔ U (a + 9223372036854775808) < U (b + 9223372036854775808)
    unfold U S
    rw [BitVec.toInt_eq_toNat_cond, BitVec.toInt_eq_toNat_cond, BitVec.toNat_add, BitVec.toNat_add, show (9223372036854775808 : W).toNat = 9223372036854775808 from rfl]
    have h1 := a.isLt
    have h2 := b.isLt
    split <;> split <;> omega
theorem j7_true (k : Nat) (hk : 2 ≤ k) : lockgatelaw01_WordOrders.j7 k wide (U a) (U b) (U (half wide)) false = some true := by
  obtain ⟨k, rfl⟩ : ∃ m, k = m + 1 := ⟨k - 1, by omega⟩
  have e : ∀ x : W, IntKind.u64.wrap (U x + U (half wide)) = U (x + half wide) := fun x => by simp only [wrap_u64, oi_add, ofInt_U]
  rw [lockgatelaw01_WordOrders.j7, e, e]
  refine ife nt (bs (ljump_f k (by omega) _ _ _ _) (bs (ljump_f k (by omega) _ _ _ _) (ift ?_ (bs (known_f k (by omega)) rfl))))
  rw [p12]; exact beq_self_eq_true _
theorem j6_true (k : Nat) (hk : 3 ≤ k) : lockgatelaw01_WordOrders.j6 k wide (U a) (U b) (U (half wide)) false = some true := by
  obtain ⟨k, rfl⟩ : ∃ m, k = m + 1 := ⟨k - 1, by omega⟩
  rw [lockgatelaw01_WordOrders.j6]
  have l := fun op x y => ljump_f k (by omega) op wide x y
  refine ife nt (bs (l _ _ _) (bs (l _ _ _) (ife ?_ (bs (l _ _ _) (bs (l _ _ _) (ife ?_ (bs (l _ _ _) (bs (lalu_f k (by omega) _ _ _ _) ?_))))))))
  · rw [q2, q10, bne_self_eq_false]; decide
  · rw [q6, q12, bne_self_eq_false]; decide
  · rw [p4]; exact j7_true wide a b k (by omega)
theorem j5_true (k : Nat) (hk : 4 ≤ k) : lockgatelaw01_WordOrders.j5 k wide (U a) (U b) (U (half wide)) 1 1 = some true := by
  obtain ⟨k, rfl⟩ : ∃ m, k = m + 1 := ⟨k - 1, by omega⟩
  rw [lockgatelaw01_WordOrders.j5]
  have l := fun op => ljump_f k (by omega) op wide a b
  refine ift rfl (ift rfl (bs (l 5) (bs (l 1) (ife (by rw [n5]; decide) (bs (l 3) (bs (l 10) (ife (by rw [n3]; decide) (bs (l 11) (bs (l 2) (ife (by rw [n11]; decide) (bs (l 7) (bs (l 12) (ife (by rw [n7]; decide) (bs (l 13) (bs (l 6) ?_)))))))))))))))
  rw [n13]; exact j6_true wide a b k (by omega)
theorem j0_true (k : Nat) (hk : 20 ≤ k) : lockgatelaw01_WordOrders.j0 k wide (U a) (U b) (U (half wide)) = some true := by
  obtain ⟨k, rfl⟩ : ∃ m, k = m + 1 := ⟨k - 1, by omega⟩
  obtain ⟨k1, rfl⟩ : ∃ m, k = m + 1 := ⟨k - 1, by omega⟩
  obtain ⟨k2, rfl⟩ : ∃ m, k1 = m + 1 := ⟨k1 - 1, by omega⟩
  obtain ⟨k3, rfl⟩ : ∃ m, k2 = m + 1 := ⟨k2 - 1, by omega⟩
  obtain ⟨k4, rfl⟩ : ∃ m, k3 = m + 1 := ⟨k3 - 1, by omega⟩
  have t := j5_true wide a b k4 (by omega)
  have u1 : wrap64 (0 + 1) = 1 := by unfold wrap64; decide
  have s := same wide a b
  rw [lockgatelaw01_WordOrders.j0]
  refine bs (ljump_f _ (by omega) _ _ _ _) ?_
  have J1 : ∀ x8 x9, lockgatelaw01_WordOrders.j1 (k4 + 1 + 1 + 1 + 1) wide (U a) (U b) (U (half wide)) x8 x9 = if jmp 1 wide a b = true then lockgatelaw01_WordOrders.j2 (k4 + 1 + 1 + 1) wide (U a) (U b) (U (half wide)) (wrap64 (x8 + 1)) (wrap64 (x9 + 1)) else lockgatelaw01_WordOrders.j2 (k4 + 1 + 1 + 1) wide (U a) (U b) (U (half wide)) x8 x9 := fun x8 x9 => by
    rw [lockgatelaw01_WordOrders.j1]; exact bs (ljump_f _ (by omega) _ _ _ _) rfl
  have J2 : ∀ x8 x9, lockgatelaw01_WordOrders.j2 (k4 + 1 + 1 + 1) wide (U a) (U b) (U (half wide)) x8 x9 = if jmp 2 wide a b = true then lockgatelaw01_WordOrders.j3 (k4 + 1 + 1) wide (U a) (U b) (U (half wide)) (wrap64 (x8 + 1)) x9 else lockgatelaw01_WordOrders.j3 (k4 + 1 + 1) wide (U a) (U b) (U (half wide)) x8 x9 := fun x8 x9 => by
    rw [lockgatelaw01_WordOrders.j2]; exact bs (ljump_f _ (by omega) _ _ _ _) rfl
  have J3 : ∀ x8 x9, lockgatelaw01_WordOrders.j3 (k4 + 1 + 1) wide (U a) (U b) (U (half wide)) x8 x9 = if jmp 12 wide a b = true then lockgatelaw01_WordOrders.j4 (k4 + 1) wide (U a) (U b) (U (half wide)) x8 (wrap64 (x9 + 1)) else lockgatelaw01_WordOrders.j4 (k4 + 1) wide (U a) (U b) (U (half wide)) x8 x9 := fun x8 x9 => by
    rw [lockgatelaw01_WordOrders.j3]; exact bs (ljump_f _ (by omega) _ _ _ _) rfl
  have J4 : ∀ x8 x9, lockgatelaw01_WordOrders.j4 (k4 + 1) wide (U a) (U b) (U (half wide)) x8 x9 = if jmp 6 wide a b = true then lockgatelaw01_WordOrders.j5 k4 wide (U a) (U b) (U (half wide)) x8 (wrap64 (x9 + 1)) else lockgatelaw01_WordOrders.j5 k4 wide (U a) (U b) (U (half wide)) x8 x9 := fun x8 x9 => by
    rw [lockgatelaw01_WordOrders.j4]; exact bs (ljump_f _ (by omega) _ _ _ _) rfl
  by_cases e : U (jA wide a) = U (jA wide b)
  · have c10 : jmp 10 wide a b = false := by rw [q10, decide_eq_false]; omega
    have c1 : jmp 1 wide a b = true := by rw [q1, decide_eq_true e]
    have c2 : jmp 2 wide a b = false := by rw [q2, decide_eq_false]; omega
    have e' := s.1 e
    have c12 : jmp 12 wide a b = false := by rw [q12, decide_eq_false]; omega
    have c6 : jmp 6 wide a b = false := by rw [q6, decide_eq_false]; omega
    refine ife (by rw [c10]; decide) ?_
    rw [J1, if_pos c1, J2, c2, if_neg nt, J3, c12, if_neg nt, J4, c6, if_neg nt, u1]; exact t
  · have c1 : jmp 1 wide a b = false := by rw [q1, decide_eq_false e]
    have e' : ¬ jS wide a = jS wide b := fun h => e (s.2 h)
    have fin : lockgatelaw01_WordOrders.j3 (k4 + 1 + 1) wide (U a) (U b) (U (half wide)) 1 0 = some true := by
      by_cases h : jS wide a < jS wide b
      · have c12 : jmp 12 wide a b = true := by rw [q12, decide_eq_true h]
        have c6 : jmp 6 wide a b = false := by rw [q6, decide_eq_false]; omega
        rw [J3, if_pos c12, J4, c6, if_neg nt, u1]; exact t
      · have c12 : jmp 12 wide a b = false := by rw [q12, decide_eq_false h]
        have c6 : jmp 6 wide a b = true := by rw [q6, decide_eq_true]; omega
        rw [J3, c12, if_neg nt, J4, if_pos c6, u1]; exact t
    by_cases h : U (jA wide a) < U (jA wide b)
    · have c10 : jmp 10 wide a b = true := by rw [q10, decide_eq_true h]
      have c2 : jmp 2 wide a b = false := by rw [q2, decide_eq_false]; omega
      refine ift c10 ?_
      rw [J1, c1, if_neg nt, J2, c2, if_neg nt]; exact fin
    · have c10 : jmp 10 wide a b = false := by rw [q10, decide_eq_false h]
      have c2 : jmp 2 wide a b = true := by rw [q2, decide_eq_true]; omega
      refine ife (by rw [c10]; decide) ?_
      rw [J1, c1, if_neg nt, J2, if_pos c2, u1]; exact fin
end
theorem pure (a0 : Bool) (a1 a2 : Int) (w1 : (Lit.int .u64 a1).wf = true) (w2 : (Lit.int .u64 a2).wf = true) : ∃ k, lockgatelaw01_WordOrders.f k a0 a1 a2 = some true := by
  obtain ⟨a, rfl⟩ := exU w1
  obtain ⟨b, rfl⟩ := exU w2
  refine ⟨300, ?_⟩
  have t := j0_true a0 a b 300 (by decide)
  unfold lockgatelaw01_WordOrders.f
  cases a0
  · exact ife nt t
  · exact ift rfl t
end Go.Proofs.Ytbionehmfbmcdaa.LWordOrders
