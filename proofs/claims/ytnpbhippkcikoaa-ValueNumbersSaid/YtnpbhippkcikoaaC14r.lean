/- Layer 14: the document's operation on two values is the program's. -/
import Derived.Test.YtnpbhippkcikoaaC14
set_option linter.unusedVariables false
set_option linter.unusedSimpArgs false
set_option linter.unusedSectionVars false
namespace Go.Proofs.Ytnpbhippkcikoaa.C14
open Go.RowKit Go.Proofs.YtnpbhippkcikoaaW.PrintWords Go.Proofs.YtnpbhippkcikoaaW.PrintLast Go.Proofs.YtnpbhippkcikoaaW.PrintMore Go.Proofs.Ytnpbhippkcikoaa.PA Go.Proofs.Ytnpbhippkcikoaa.Bv Go.Proofs.Ytnpbhippkcikoaa.C01
theorem rj4_f (k : Nat) (op a0 : Int) (x : W) (a2 b0 : Int) (y : W) (b2 : Int) (c : Bool) (hc : c = true ↔ (op = 0 ∧ a0 = 1 ∧ pl b0 = true)) :
    lockgateref14_Alu.j4 (k + 1) op c a0 (U x) a2 b0 (U y) b2 = some (if op = 0 ∧ a0 = 1 ∧ pl b0 = true then (b0, U (y + x), b2, 0) else if op = 1 ∧ pl a0 = true ∧ b0 = 1 then (a0, U (x - y), a2, 0) else (0, 0, 0, 21)) := by
  rw [lockgateref14_Alu.j4]
  by_cases h : op = 0 ∧ a0 = 1 ∧ pl b0 = true
  · refine ift (hc.mpr h) ?_
    rw [if_pos h, u_add]
  · refine ife (fun q => h (hc.mp q)) ?_
    rw [if_neg h]
    by_cases h1 : op = 1
    · refine ift h1 (bs (rplaces_f _ _ _) ?_)
      by_cases h2 : pl a0 = true
      · refine ift h2 ?_
        by_cases h3 : b0 = 1
        · refine ift h3 ?_
          rw [if_pos ⟨h1, h2, h3⟩, u_sub]
        · refine ife h3 ?_
          rw [if_neg (fun q => h3 q.2.2)]
      · refine ife h2 ?_
        rw [if_neg (fun q => h2 q.2.1)]
    · refine ife h1 ?_
      rw [if_neg (fun q => h1 q.1)]
theorem rj3_f (k : Nat) (op a0 : Int) (x : W) (a2 b0 : Int) (y : W) (b2 : Int) (c : Bool) (hc : c = true ↔ (op = 0 ∧ pl a0 = true ∧ b0 = 1)) :
    lockgateref14_Alu.j3 (k + 2) op c a0 (U x) a2 b0 (U y) b2 = some (pt op a0 x a2 b0 y b2) := by
  rw [lockgateref14_Alu.j3]
  unfold pt
  by_cases h : op = 0 ∧ pl a0 = true ∧ b0 = 1
  · refine ift (hc.mpr h) ?_
    rw [if_pos h, u_add]
  · refine ife (fun q => h (hc.mp q)) ?_
    rw [if_neg h]
    by_cases h1 : op = 0
    · refine ift h1 ?_
      by_cases h2 : a0 = 1
      · refine ift h2 (bs (rplaces_f _ _ _) (rj4_f k op a0 x a2 b0 y b2 _ ?_))
        exact ⟨fun q => ⟨h1, h2, q⟩, fun q => q.2.2⟩
      · refine ife h2 (rj4_f k op a0 x a2 b0 y b2 _ ?_)
        exact ⟨fun q => absurd q (by decide), fun q => absurd q.2.1 h2⟩
    · refine ife h1 (rj4_f k op a0 x a2 b0 y b2 _ ?_)
      exact ⟨fun q => absurd q (by decide), fun q => absurd q.1 h1⟩
theorem rj2_f (k : Nat) (hk : 300 ≤ k) (op a0 : Int) (wide : Bool) (x : W) (a2 b0 : Int) (y : W) (b2 : Int) (c : Bool) :
    lockgateref14_Alu.j2 (k + 3) op wide c a0 (U x) a2 b0 (U y) b2 = some (if c = true then (1, U (alu op wide x y), 0, 0) else if wide = false then (0, 0, 0, 21) else if op = 11 then (b0, U y, b2, 0) else pt op a0 x a2 b0 y b2) := by
  rw [lockgateref14_Alu.j2]
  cases c
  · refine ife nt ?_
    rw [if_neg nt]
    cases wide
    · exact ife nt rfl
    · refine ift rfl ?_
      rw [if_neg (by decide : ¬ (true = false))]
      by_cases h11 : op = 11
      · refine ift h11 ?_; rw [if_pos h11]
      · refine ife h11 ?_
        rw [if_neg h11]
        by_cases h1 : op = 0
        · refine ift h1 (bs (rplaces_f _ _ _) ?_)
          by_cases h2 : pl a0 = true
          · refine ift h2 (rj3_f k op a0 x a2 b0 y b2 _ ?_)
            rw [beq_iff_eq]
            exact ⟨fun q => ⟨h1, h2, q⟩, fun q => q.2.2⟩
          · refine ife h2 (rj3_f k op a0 x a2 b0 y b2 _ ?_)
            exact ⟨fun q => absurd q (by decide), fun q => absurd q.2.1 h2⟩
        · refine ife h1 (rj3_f k op a0 x a2 b0 y b2 _ ?_)
          exact ⟨fun q => absurd q (by decide), fun q => absurd q.1 h1⟩
  · exact ift rfl (bs (ralu_f (k + 2) (by omega) _ _ _ _) rfl)
theorem rj1_f (k : Nat) (hk : 300 ≤ k) (op a0 : Int) (wide : Bool) (x : W) (a2 b0 : Int) (y : W) (b2 : Int) (c : Bool) :
    lockgateref14_Alu.j1 (k + 4) op wide (op != 11) (op != 8) c a0 (U x) a2 b0 (U y) b2 = some (if c = true then (0, 0, 0, 20) else if (op = 11 ∨ a0 = 1) ∧ (op = 8 ∨ b0 = 1) then (1, U (alu op wide x y), 0, 0) else if wide = false then (0, 0, 0, 21) else if op = 11 then (b0, U y, b2, 0) else pt op a0 x a2 b0 y b2) := by
  rw [lockgateref14_Alu.j1]
  cases c
  · refine ife nt ?_
    rw [if_neg nt]
    have j2 := rj2_f k hk op a0 wide x a2 b0 y b2
    by_cases h11 : op = 11
    · refine ife (by rw [bne_iff_ne]; exact fun q => q h11) ?_
      refine ift (by rw [bne_iff_ne]; omega) ?_
      rw [j2]
      by_cases hb : b0 = 1
      · rw [if_pos (by rw [beq_iff_eq]; exact hb), if_pos ⟨Or.inl h11, Or.inr hb⟩]
      · rw [if_neg (by rw [beq_iff_eq]; exact hb), if_neg (c := (op = 11 ∨ a0 = 1) ∧ (op = 8 ∨ b0 = 1)) (by omega)]
    · refine ift (by rw [bne_iff_ne]; exact h11) ?_
      by_cases ha : a0 = 1
      · refine ift ha ?_
        by_cases h8 : op = 8
        · refine ife (by rw [bne_iff_ne]; exact fun q => q h8) ?_
          rw [j2, if_pos rfl, if_pos ⟨Or.inr ha, Or.inl h8⟩]
        · refine ift (by rw [bne_iff_ne]; exact h8) ?_
          rw [j2]
          by_cases hb : b0 = 1
          · rw [if_pos (by rw [beq_iff_eq]; exact hb), if_pos ⟨Or.inr ha, Or.inr hb⟩]
          · rw [if_neg (by rw [beq_iff_eq]; exact hb), if_neg (c := (op = 11 ∨ a0 = 1) ∧ (op = 8 ∨ b0 = 1)) (by omega)]
      · refine ife ha ?_
        rw [j2, if_neg nt, if_neg (c := (op = 11 ∨ a0 = 1) ∧ (op = 8 ∨ b0 = 1)) (by omega)]
  · exact ift rfl rfl
theorem rvalu_f (k : Nat) (hk : 310 ≤ k) (op : Int) (wide : Bool) (a0 : Int) (x : W) (a2 b0 : Int) (y : W) (b2 : Int) :
    lockgateref14_Alu.f k op wide a0 (U x) a2 b0 (U y) b2 = some (vA op wide a0 x a2 b0 y b2) := by
  obtain ⟨k, rfl⟩ : ∃ m, k = m + 5 := ⟨k - 5, by omega⟩
  have j1 := rj1_f k (by omega) op a0 wide x a2 b0 y b2
  have hj : ∀ c : Bool, (c = true ↔ ¬ (0 ≤ op ∧ op ≤ 12)) → lockgateref14_Alu.j0 (k + 5) op wide c a0 (U x) a2 b0 (U y) b2 = some (vA op wide a0 x a2 b0 y b2) := by
    intro c hc
    rw [lockgateref14_Alu.j0]
    unfold vA
    by_cases h : ¬ (0 ≤ op ∧ op ≤ 12)
    · refine ift (hc.mpr h) ?_
      rw [if_pos h]
    · refine ife (fun q => h (hc.mp q)) ?_
      rw [if_neg h]
      by_cases h11 : op = 11
      · refine ift h11 (ife (by omega) ?_)
        rw [j1]
        by_cases hb : b0 = 0
        · rw [if_pos (by rw [beq_iff_eq]; exact hb), if_pos (c := (op ≠ 11 ∧ a0 = 0) ∨ (op ≠ 8 ∧ b0 = 0)) (by omega)]
        · rw [if_neg (by rw [beq_iff_eq]; exact hb), if_neg (c := (op ≠ 11 ∧ a0 = 0) ∨ (op ≠ 8 ∧ b0 = 0)) (by omega)]
      · refine ife h11 ?_
        by_cases ha : a0 = 0
        · refine ift ha ?_
          rw [j1, if_pos rfl, if_pos (c := (op ≠ 11 ∧ a0 = 0) ∨ (op ≠ 8 ∧ b0 = 0)) (by omega)]
        · refine ife ha ?_
          by_cases h8 : op = 8
          · refine ift h8 ?_
            rw [j1, if_neg nt, if_neg (c := (op ≠ 11 ∧ a0 = 0) ∨ (op ≠ 8 ∧ b0 = 0)) (by omega)]
          · refine ife h8 ?_
            rw [j1]
            by_cases hb : b0 = 0
            · rw [if_pos (by rw [beq_iff_eq]; exact hb), if_pos (c := (op ≠ 11 ∧ a0 = 0) ∨ (op ≠ 8 ∧ b0 = 0)) (by omega)]
            · rw [if_neg (by rw [beq_iff_eq]; exact hb), if_neg (c := (op ≠ 11 ∧ a0 = 0) ∨ (op ≠ 8 ∧ b0 = 0)) (by omega)]
  unfold lockgateref14_Alu.f
  by_cases h : op < 0
  · exact ift h (hj true ⟨fun _ => by omega, fun _ => rfl⟩)
  · exact ife h (hj _ (by rw [decide_eq_true_iff]; omega))
end Go.Proofs.Ytnpbhippkcikoaa.C14
