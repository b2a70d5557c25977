/- ValueBack, without Go. -/
import Derived.Test.YtnpbhippkcikoaaL14
import Derived.Test.YtnpbhippkcikoaaPA24
set_option linter.unusedVariables false
set_option linter.unusedSimpArgs false
set_option linter.unusedSectionVars false
namespace Go.Proofs.Ytnpbhippkcikoaa.LValueBack
open Go.RowKit Go.Proofs.YtnpbhippkcikoaaW.PrintWords Go.Proofs.YtnpbhippkcikoaaW.PrintLast Go.Proofs.YtnpbhippkcikoaaW.PrintMore Go.Proofs.Ytnpbhippkcikoaa.PA Go.Proofs.Ytnpbhippkcikoaa.Bv Go.Proofs.Ytnpbhippkcikoaa.C01 Go.Proofs.Ytnpbhippkcikoaa.C14
theorem law (k : Nat) (hk : 400 ≤ k) (a0 : Int) (x : W) (a2 : Int) (n m : W) : lockgatelaw14_ValueBack.f k a0 (U x) a2 (U n) (U m) = some true := by
  have kn := works_f k (by omega)
  unfold lockgatelaw14_ValueBack.f
  refine bs (places_f _ _ _) ?_
  by_cases h : pl a0 = true
  · refine ift h ?_
    have e1 := valu_f k (by omega) 0 true a0 x a2 1 n 0
    rw [vA_add h] at e1
    have e2 := valu_f k (by omega) 0 true 1 n 0 a0 x a2
    rw [vA_add' h] at e2
    have e3 := valu_f k (by omega) 1 true a0 (x + n) a2 1 n 0
    rw [vA_sub h, BitVec.add_sub_cancel] at e3
    have e4 := valu_f k (by omega) 0 true a0 (x + n) a2 1 m 0
    rw [vA_add h] at e4
    have e5 := valu_f k (by omega) 0 true a0 x a2 1 (n + m) 0
    rw [vA_add h, ← BitVec.add_assoc] at e5
    refine bs (a := (1, U n, 0)) rfl (bs e1 (bs (a := (1, U n, 0)) rfl (bs e2 (bs (a := (1, U n, 0)) rfl (bs e3 (bs (a := (1, U m, 0)) rfl (bs e4 (bs (a := (1, U (n + m), 0)) ?_ (bs e5 ?_)))))))))
    · show some (1, IntKind.u64.wrap (U n + U m), 0) = _; rw [u_add]
    · exact ift rfl (ift rfl (ift rfl (ift rfl (ift rfl (ift (same3 _ _ _) (ift (same3 _ _ _) (ift (same3 _ _ _) (bs kn rfl))))))))
  · refine ife h (bs (a := (1, U n, 0)) rfl (bs (valu_f k (by omega) 1 true a0 x a2 1 n 0) (ift ?_ (bs kn rfl))))
    rw [beq_iff_eq]
    by_cases h1 : a0 = 1
    · subst h1; rw [vA_num (by omega)]; rfl
    · have : (vA 1 true a0 x a2 1 n 0).2.2.2 = 20 ∨ (vA 1 true a0 x a2 1 n 0).2.2.2 = 21 := by
        unfold vA pt
        rw [if_neg (by omega)]
        by_cases h0 : a0 = 0
        · rw [if_pos (Or.inl ⟨by omega, h0⟩)]; exact Or.inl rfl
        · rw [if_neg (by omega), if_neg (by omega), if_neg (by decide : ¬ (true = false)), if_neg (by omega), if_neg (by omega), if_neg (by omega), if_neg (fun q => h q.2.1)]; exact Or.inr rfl
      rw [show (a0 == 1) = false from beq_eq_false_iff_ne.mpr h1]
      rcases this with h | h <;> rw [h] <;> rfl
theorem pure (a0_0 a0_1 a0_2 a1 a2 : Int) (w0 : (Lit.int .i64 a0_0).wf = true) (w1 : (Lit.int .u64 a0_1).wf = true) (w2 : (Lit.int .i64 a0_2).wf = true) (w3 : (Lit.int .u64 a1).wf = true) (w4 : (Lit.int .u64 a2).wf = true) :
    ∃ k, lockgatelaw14_ValueBack.f k a0_0 a0_1 a0_2 a1 a2 = some true := by
  obtain ⟨x, rfl⟩ := exU w1
  obtain ⟨n, rfl⟩ := exU w3
  obtain ⟨m, rfl⟩ := exU w4
  exact ⟨400, law 400 (by omega) _ _ _ _ _⟩
end Go.Proofs.Ytnpbhippkcikoaa.LValueBack
