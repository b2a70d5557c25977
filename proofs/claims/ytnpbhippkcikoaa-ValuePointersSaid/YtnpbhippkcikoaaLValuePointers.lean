/- ValuePointers, without Go. -/
import Derived.Test.YtnpbhippkcikoaaL14
import Derived.Test.YtnpbhippkcikoaaPA23
set_option linter.unusedVariables false
set_option linter.unusedSimpArgs false
set_option linter.unusedSectionVars false
namespace Go.Proofs.Ytnpbhippkcikoaa.LValuePointers
open Go.RowKit Go.Proofs.YtnpbhippkcikoaaW.PrintWords Go.Proofs.YtnpbhippkcikoaaW.PrintLast Go.Proofs.YtnpbhippkcikoaaW.PrintMore Go.Proofs.Ytnpbhippkcikoaa.PA Go.Proofs.Ytnpbhippkcikoaa.Bv Go.Proofs.Ytnpbhippkcikoaa.C01 Go.Proofs.Ytnpbhippkcikoaa.C14
theorem ne3 {a b c d e f : Int} (h : ¬ (a = d ∧ b = e ∧ c = f)) : ¬ ((a == d && (b == e && (c == f))) = true) := by rw [Bool.and_eq_true, Bool.and_eq_true, beq_iff_eq, beq_iff_eq, beq_iff_eq]; exact h
theorem alu11 (x y : W) : alu 11 true x y = y := by unfold alu; rw [if_neg (by decide), if_pos rfl, aW11]
/-- a pointer's way: the answer has the kind and the Id of a. -/
theorem j1a (k : Nat) (hk : 20 ≤ k) (op : Int) (hop : op = 0 ∨ op = 1) (a0 a1 a2 b0 b1 b2 r1 : Int) (h : pl a0 = true) : lockgatelaw14_ValuePointers.j1 k op true false a0 a1 a2 b0 b1 b2 a0 r1 a2 = some true := by
  obtain ⟨k, rfl⟩ : ∃ m, k = m + 1 := ⟨k - 1, by omega⟩
  rw [lockgatelaw14_ValuePointers.j1]
  have kn := works_f k (by omega)
  refine ife nt (ift rfl (ift rfl (bs (places_f _ _ _) (ift h (ift rfl ?_)))))
  rcases hop with h | h
  · exact ift h (bs kn rfl)
  · exact ife (by omega) (ift h (bs kn rfl))
theorem j1b (k : Nat) (hk : 20 ≤ k) (a1 a2 b0 b1 b2 r1 : Int) (h : pl b0 = true) : lockgatelaw14_ValuePointers.j1 k 0 true false 1 a1 a2 b0 b1 b2 b0 r1 b2 = some true := by
  obtain ⟨k, rfl⟩ : ∃ m, k = m + 1 := ⟨k - 1, by omega⟩
  rw [lockgatelaw14_ValuePointers.j1]
  have kn := works_f k (by omega)
  have := pl_ne h
  exact ife nt (ife this.2 (ift rfl (ift rfl (bs (places_f _ _ _) (ift h (ift rfl (ift rfl (bs kn rfl))))))))
theorem j1n (k : Nat) (hk : 20 ≤ k) (op : Int) (wide : Bool) (a0 a1 a2 b0 b1 b2 r1 : Int) : lockgatelaw14_ValuePointers.j1 k op wide true a0 a1 a2 b0 b1 b2 1 r1 0 = some true := by
  obtain ⟨k, rfl⟩ : ∃ m, k = m + 1 := ⟨k - 1, by omega⟩
  rw [lockgatelaw14_ValuePointers.j1]
  exact ift rfl (ift rfl (ift rfl (bs (works_f k (by omega)) rfl)))
theorem j0n (k : Nat) (hk : 30 ≤ k) (op : Int) (wide : Bool) (a0 a1 a2 b0 b1 b2 r1 : Int) (h : (op = 11 ∨ a0 = 1) ∧ (op = 8 ∨ b0 = 1)) : lockgatelaw14_ValuePointers.j0 k op wide false a0 a1 a2 b0 b1 b2 1 r1 0 = some true := by
  obtain ⟨k, rfl⟩ : ∃ m, k = m + 1 := ⟨k - 1, by omega⟩
  rw [lockgatelaw14_ValuePointers.j0]
  refine ife nt ?_
  have fin : ∀ c : Bool, c = true → lockgatelaw14_ValuePointers.j1 k op wide c a0 a1 a2 b0 b1 b2 1 r1 0 = some true := by
    intro c hc; rw [hc]; exact j1n k (by omega) op wide _ _ _ _ _ _ _
  by_cases h11 : op = 11
  · refine ift h11 (ife (by omega) (fin _ ?_)); rw [beq_iff_eq]; omega
  · refine ife h11 (ift (by omega) ?_)
    by_cases h8 : op = 8
    · exact ift h8 (fin _ rfl)
    · refine ife h8 (fin _ ?_); rw [beq_iff_eq]; omega
theorem works3 (k : Nat) (hk : 20 ≤ k) : (if (((0 : Int) == 0) && (((0 : Int) == 0) && ((0 : Int) == 0))) = true then ((lockgatelaw14_works.f k).bind fun t303 => (some t303)) else (some false)) = some true := ift rfl (bs (works_f k (by omega)) rfl)
theorem law (k : Nat) (hk : 400 ≤ k) (op : Int) (wide : Bool) (a0 : Int) (x : W) (a2 b0 : Int) (y : W) (b2 : Int) : lockgatelaw14_ValuePointers.f k op wide a0 (U x) a2 b0 (U y) b2 = some true := by
  unfold lockgatelaw14_ValuePointers.f
  refine bs (valu_f k (by omega) op wide a0 x a2 b0 y b2) ?_
  have kn := works_f k (by omega)
  unfold vA
  by_cases h1 : ¬ (0 ≤ op ∧ op ≤ 12)
  · rw [if_pos h1]; exact ife (by decide) (works3 k (by omega))
  rw [if_neg h1]
  by_cases h2 : (op ≠ 11 ∧ a0 = 0) ∨ (op ≠ 8 ∧ b0 = 0)
  · rw [if_pos h2]; exact ife (by decide) (works3 k (by omega))
  rw [if_neg h2]
  by_cases h3 : (op = 11 ∨ a0 = 1) ∧ (op = 8 ∨ b0 = 1)
  · rw [if_pos h3]
    refine ift rfl ?_
    by_cases h11 : op = 11
    · refine ift h11 ?_
      cases wide
      · exact j0n k (by omega) op false _ _ _ _ _ _ _ h3
      · have hb : b0 = 1 := by omega
        obtain ⟨k, rfl⟩ : ∃ m, k = m + 1 := ⟨k - 1, by omega⟩
        rw [lockgatelaw14_ValuePointers.j0]
        refine ift rfl ?_
        rw [h11, alu11]
        by_cases hq : b2 = 0
        · refine ift (eq3 ⟨hb.symm, rfl, hq.symm⟩) (ife (by omega) (bs (works_f k (by omega)) rfl))
        · refine ife (ne3 (fun q => hq q.2.2.symm)) (ift hb (bs (a := (1, U y, 0)) rfl (ift (same3 _ _ _) (ife (by omega) (bs (works_f k (by omega)) rfl)))))
    · exact ife h11 (j0n k (by omega) op wide _ _ _ _ _ _ _ h3)
  rw [if_neg h3]
  cases wide
  · rw [if_pos rfl]; exact ife (by decide) (works3 k (by omega))
  rw [if_neg (by decide : ¬ (true = false))]
  by_cases h11 : op = 11
  · rw [if_pos h11]
    refine ift rfl (ift h11 ?_)
    obtain ⟨k, rfl⟩ : ∃ m, k = m + 1 := ⟨k - 1, by omega⟩
    rw [lockgatelaw14_ValuePointers.j0]
    exact ift rfl (ift (same3 _ _ _) (ife (by omega) (bs (works_f k (by omega)) rfl)))
  rw [if_neg h11]
  unfold pt
  by_cases p1 : op = 0 ∧ pl a0 = true ∧ b0 = 1
  · rw [if_pos p1]
    have := pl_ne p1.2.1
    refine ift rfl (ife h11 ?_)
    obtain ⟨k, rfl⟩ : ∃ m, k = m + 1 := ⟨k - 1, by omega⟩
    rw [lockgatelaw14_ValuePointers.j0]
    exact ife nt (ife h11 (ife this.2 (j1a k (by omega) op (Or.inl p1.1) _ _ _ _ _ _ _ p1.2.1)))
  rw [if_neg p1]
  by_cases p2 : op = 0 ∧ a0 = 1 ∧ pl b0 = true
  · rw [if_pos p2]
    have := pl_ne p2.2.2
    refine ift rfl (ife h11 ?_)
    obtain ⟨k, rfl⟩ : ∃ m, k = m + 1 := ⟨k - 1, by omega⟩
    rw [lockgatelaw14_ValuePointers.j0]
    refine ife nt (ife h11 (ift p2.2.1 (ife (by omega) ?_)))
    have e : (b0 == 1) = false := beq_eq_false_iff_ne.mpr this.2
    rw [e, p2.1, p2.2.1]
    exact j1b k (by omega) _ _ _ _ _ _ p2.2.2
  rw [if_neg p2]
  by_cases p3 : op = 1 ∧ pl a0 = true ∧ b0 = 1
  · rw [if_pos p3]
    have := pl_ne p3.2.1
    refine ift rfl (ife h11 ?_)
    obtain ⟨k, rfl⟩ : ∃ m, k = m + 1 := ⟨k - 1, by omega⟩
    rw [lockgatelaw14_ValuePointers.j0]
    exact ife nt (ife h11 (ife this.2 (j1a k (by omega) op (Or.inr p3.1) _ _ _ _ _ _ _ p3.2.1)))
  rw [if_neg p3]
  exact ife (by decide) (works3 k (by omega))
theorem pure (a0 : Int) (a1 : Bool) (a2_0 a2_1 a2_2 a3_0 a3_1 a3_2 : Int) (w0 : (Lit.int .i64 a0).wf = true) (w1 : (Lit.int .i64 a2_0).wf = true) (w2 : (Lit.int .u64 a2_1).wf = true) (w3 : (Lit.int .i64 a2_2).wf = true) (w4 : (Lit.int .i64 a3_0).wf = true) (w5 : (Lit.int .u64 a3_1).wf = true) (w6 : (Lit.int .i64 a3_2).wf = true) :
    ∃ k, lockgatelaw14_ValuePointers.f k a0 a1 a2_0 a2_1 a2_2 a3_0 a3_1 a3_2 = some true := by
  obtain ⟨x, rfl⟩ := exU w2
  obtain ⟨y, rfl⟩ := exU w5
  exact ⟨400, law 400 (by omega) _ _ _ _ _ _ _ _⟩
end Go.Proofs.Ytnpbhippkcikoaa.LValuePointers
