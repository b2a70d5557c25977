/- Layer 1: the reference's Alu is the program's. -/
import Derived.Test.YtnpbhippkcikoaaC01a
set_option linter.unusedVariables false
set_option linter.unusedSimpArgs false
set_option linter.unusedSectionVars false
namespace Go.Proofs.Ytnpbhippkcikoaa.C01
open Go.RowKit Go.Proofs.YtnpbhippkcikoaaW.PrintWords Go.Proofs.YtnpbhippkcikoaaW.PrintLast Go.Proofs.YtnpbhippkcikoaaW.PrintMore Go.Proofs.Ytnpbhippkcikoaa.PA Go.Proofs.Ytnpbhippkcikoaa.Bv
theorem res_wide (op : Int) (a b : W) : res true op a b = alu op true a b := by
  unfold res alu wd
  simp only [if_true]
  by_cases h7 : op = 7
  · subst h7
    rw [if_pos rfl, if_neg (by decide)]
    have hl : b.toNat % 64 < 64 := Nat.mod_lt _ (by decide)
    have e : acc (fun j => if j + b.toNat % 64 < 64 then a.getLsbD (j + b.toNat % 64) else false) 64 = a >>> (b.toNat % 64) := by
      apply acc_eq (by omega)
      · intro i hi
        rw [BitVec.getLsbD_ushiftRight, Nat.add_comm _ i]
        by_cases h : i + b.toNat % 64 < 64
        · rw [if_pos h]
        · rw [if_neg h, BitVec.getLsbD_of_ge _ _ (by omega)]
      · intro i h1 h2; omega
    rw [e]; simp [aluW]
  · rw [if_neg h7]
    by_cases h12 : op = 12
    · rw [if_pos h12, if_pos h12]
      apply acc_eq (by omega)
      · intro i hi
        rw [BitVec.getLsbD_sshiftRight, Nat.add_comm _ i, BitVec.msb_eq_getLsbD_last]
        simp only [show ¬ 64 ≤ i by omega, decide_false, Bool.not_false, Bool.true_and]
      · intro i h1 h2; omega
    · rw [if_neg h12, if_neg h12]
      by_cases h6 : op = 6
      · subst h6; rw [if_pos rfl]; simp [aluW]
      · rw [if_neg h6]
theorem res_narrow (op : Int) (h : 0 ≤ op ∧ op ≤ 12) (a b : W) : low false (res false op (low false a) (low false b)) = alu op false a b := by
  have hl : ∀ x, low false x = up (lo x) := fun _ => rfl
  have hn : (up (lo b)).toNat % wd false = b.toNat % 32 := by
    rw [up_toNat]; unfold lo; rw [BitVec.toNat_setWidth]; show _ % 32 = _; omega
  have hw : wd false = 32 := rfl
  have hm : (lo b).toNat % 32 = b.toNat % 32 := by unfold lo; rw [BitVec.toNat_setWidth]; omega
  have hlt : b.toNat % 32 < 32 := Nat.mod_lt _ (by decide)
  simp only [hl]
  unfold res alu
  rw [hn, hw]
  simp only [Bool.false_eq_true, if_false]
  rcases cases13 h with rfl | rfl | rfl | rfl | rfl | rfl | rfl | rfl | rfl | rfl | rfl | rfl | rfl
  · simp [aluW, aluN, lo_add, lo_up]
  · simp [aluW, aluN, lo_sub, lo_up]
  · simp [aluW, aluN, lo_mul, lo_up]
  · simp [aluW, aluN, up_div, lo_up]
  · simp [aluW, aluN, lo_or, lo_up]
  · simp [aluW, aluN, lo_and, lo_up]
  · simp only [show ¬ (6 : Int) = 7 by decide, show ¬ (6 : Int) = 12 by decide, if_false, if_true]
    rw [lo_shl, lo_up]; simp [aluN, hm]
  · simp only [show ¬ (7 : Int) = 12 by decide, if_false, if_true]
    have e : acc (fun j => if j + b.toNat % 32 < 32 then (up (lo a)).getLsbD (j + b.toNat % 32) else false) 32 = up (lo a >>> (b.toNat % 32)) := by
      apply acc_eq (by omega)
      · intro i hi
        rw [up_bit, BitVec.getLsbD_ushiftRight, Nat.add_comm _ i]
        simp only [show i < 64 by omega, decide_true, Bool.true_and]
        by_cases h : i + b.toNat % 32 < 32
        · rw [if_pos h, up_bit]; simp [show i + b.toNat % 32 < 64 by omega]
        · rw [if_neg h, BitVec.getLsbD_of_ge _ _ (by omega)]
      · intro i h1 h2
        rw [up_bit, BitVec.getLsbD_of_ge _ _ (by omega)]; simp
    rw [e, lo_up]; simp [aluN, hm]
  · simp [aluW, aluN, lo_neg, lo_up]
  · simp [aluW, aluN, up_mod, lo_up]
  · simp [aluW, aluN, lo_xor, lo_up]
  · simp [aluW, aluN, lo_up]
  · simp only [show ¬ (12 : Int) = 7 by decide, if_false, if_true]
    have e : acc (fun j => if j + b.toNat % 32 < 32 then (up (lo a)).getLsbD (j + b.toNat % 32) else (up (lo a)).getLsbD (32 - 1)) 32 = up ((lo a).sshiftRight (b.toNat % 32)) := by
      apply acc_eq (by omega)
      · intro i hi
        rw [up_bit, BitVec.getLsbD_sshiftRight, Nat.add_comm _ i, BitVec.msb_eq_getLsbD_last]
        simp only [show i < 64 by omega, show ¬ 32 ≤ i by omega, decide_true, decide_false, Bool.not_false, Bool.true_and]
        by_cases h : i + b.toNat % 32 < 32
        · rw [if_pos h, if_pos h, up_bit]; simp [show i + b.toNat % 32 < 64 by omega]
        · rw [if_neg h, if_neg h, up_bit]; simp
      · intro i h1 h2
        rw [up_bit, BitVec.getLsbD_sshiftRight]; simp [h1]
    rw [e, lo_up]; rfl
theorem alu_none (op : Int) (h : ¬ (0 ≤ op ∧ op ≤ 12)) (wide : Bool) (a b : W) : alu op wide a b = 0 := by
  have n0 : ∀ j : Int, 0 ≤ j ∧ j ≤ 12 → op ≠ j := fun j hj e => h (e ▸ hj)
  unfold alu aluW aluN
  simp only [n0 0 (by decide), n0 1 (by decide), n0 2 (by decide), n0 3 (by decide), n0 4 (by decide), n0 5 (by decide), n0 6 (by decide), n0 7 (by decide), n0 8 (by decide), n0 9 (by decide), n0 10 (by decide), n0 11 (by decide), n0 12 (by decide), if_false]
  cases wide <;> rfl
theorem ralu_f (k : Nat) (hk : 300 ≤ k) (op : Int) (wide : Bool) (a b : W) : lockgateref01_Alu.f k op wide (U a) (U b) = some (U (alu op wide a b), isOp op) := by
  have h := j0_f wide a b k hk op
  have e : lockgateref01_Alu.f k op wide (U a) (U b) = lockgateref01_Alu.j0 k op (U a) (U b) (wd wide : Int) := by
    cases wide
    · rw [lockgateref01_Alu.f, if_neg (by decide)]; rfl
    · rw [lockgateref01_Alu.f, if_pos rfl]; rfl
  rw [e, h]
  by_cases hop : 0 ≤ op ∧ op ≤ 12
  · rw [if_pos hop, show isOp op = true from decide_eq_true hop]
    cases wide
    · rw [res_narrow op hop]
    · rw [show ∀ x, low true x = x from fun _ => rfl, show ∀ x, low true x = x from fun _ => rfl, show ∀ x, low true x = x from fun _ => rfl, res_wide]
  · rw [if_neg hop, alu_none op hop, show isOp op = false from decide_eq_false hop]; rfl
end Go.Proofs.Ytnpbhippkcikoaa.C01
