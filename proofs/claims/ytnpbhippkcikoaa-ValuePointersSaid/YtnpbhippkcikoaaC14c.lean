/- Layer 14: comparing two values, the program's and the document's. -/
import Derived.Test.YtnpbhippkcikoaaC14
set_option linter.unusedVariables false
set_option linter.unusedSimpArgs false
set_option linter.unusedSectionVars false
namespace Go.Proofs.Ytnpbhippkcikoaa.C14
open Go.RowKit Go.Proofs.YtnpbhippkcikoaaW.PrintWords Go.Proofs.YtnpbhippkcikoaaW.PrintLast Go.Proofs.YtnpbhippkcikoaaW.PrintMore Go.Proofs.Ytnpbhippkcikoaa.PA Go.Proofs.Ytnpbhippkcikoaa.Bv Go.Proofs.Ytnpbhippkcikoaa.C01
/-- two ints in order. -/
def od (op p q : Int) : Bool × Int := if op = 2 then (decide (p > q), 0) else if op = 3 then (decide (p ≥ q), 0) else if op = 10 then (decide (p < q), 0) else if op = 11 then (decide (p ≤ q), 0) else (false, 21)
def nul (a0 : Int) (x : W) (b0 : Int) (y : W) : Prop := (a0 = 6 ∧ b0 = 1 ∧ U y = 0) ∨ (b0 = 6 ∧ a0 = 1 ∧ U x = 0)
instance (a0 : Int) (x : W) (b0 : Int) (y : W) : Decidable (nul a0 x b0 y) := by unfold nul; infer_instance
def cR (op : Int) (a0 : Int) (x : W) (b0 : Int) (y : W) (len : Int) : Bool × Int :=
  if op = 1 ∨ op = 5 then (if nul a0 x b0 y then (op == 5, 0) else (false, 21))
  else if a0 = 2 ∧ b0 = 3 then od op (wrap64 (U x)) len
  else if a0 = 3 ∧ b0 = 2 then od op len (wrap64 (U y))
  else (false, 21)
def vC (op : Int) (wide : Bool) (a0 : Int) (x : W) (b0 : Int) (y : W) (len : Int) : Bool × Int :=
  if isJmp op = true then (if a0 = 0 ∨ b0 = 0 then (false, 20) else if a0 = 1 ∧ b0 = 1 then (jmp op wide x y, 0) else if wide = false then (false, 21) else cR op a0 x b0 y len) else (false, 4)
theorem same_f (a b c d e f : Int) : value_sameNumber.f a b c d e f = some (decide (a = d ∧ b = e)) := by
  unfold value_sameNumber.f
  by_cases h : a = d
  · refine ift h ?_
    rw [Option.some.injEq, Bool.eq_iff_iff, beq_iff_eq, decide_eq_true_iff]; exact ⟨fun q => ⟨h, q⟩, fun q => q.2⟩
  · refine ife h ?_
    rw [Option.some.injEq]; exact (decide_eq_false (fun q => h q.1)).symm
theorem ordered_f (op p q : Int) : (value_ordered.f op p q).bind (fun t => if t.2 = true then some (t.1, (0 : Int)) else some (false, 21)) = some (od op p q) := by
  unfold value_ordered.f od
  by_cases h2 : op = 2
  · rw [if_pos h2, if_pos h2]; rfl
  rw [if_neg h2, if_neg h2]
  by_cases h3 : op = 3
  · rw [if_pos h3, if_pos h3]; rfl
  rw [if_neg h3, if_neg h3]
  by_cases h10 : op = 10
  · rw [if_pos h10, if_pos h10]; rfl
  rw [if_neg h10, if_neg h10]
  by_cases h11 : op = 11
  · rw [if_pos h11, if_pos h11]; rfl
  rw [if_neg h11, if_neg h11]; rfl
theorem b2 {a b c d : Int} : (a == b && (c == d)) = true ↔ (a = b ∧ c = d) := by rw [Bool.and_eq_true, beq_iff_eq, beq_iff_eq]
theorem cj1_f (k : Nat) (op len : Int) (c : Bool) (hc : c = true ↔ (op = 1 ∨ op = 5)) (a0 : Int) (x : W) (a2 b0 : Int) (y : W) (b2' : Int) :
    value_Compare.j1 (k + 1) op len c a0 (U x) a2 b0 (U y) b2' 1 0 0 a0 b0 = some (cR op a0 x b0 y len) := by
  rw [value_Compare.j1]
  unfold cR
  by_cases h : op = 1 ∨ op = 5
  · refine ift (hc.mpr h) ?_
    rw [if_pos h]
    by_cases ha : a0 = 6
    · refine ift ha (bs (same_f _ _ _ _ _ _) ?_)
      by_cases hb : b0 = 1 ∧ U y = 0
      · refine ift (decide_eq_true hb) ?_
        rw [if_pos (show nul a0 x b0 y from Or.inl ⟨ha, hb⟩)]
      · refine ife (by rw [decide_eq_true_iff]; exact hb) ?_
        by_cases h6 : b0 = 6
        · refine ift h6 (bs (same_f _ _ _ _ _ _) (ife (by rw [decide_eq_true_iff]; omega) ?_))
          rw [if_neg (show ¬ nul a0 x b0 y by unfold nul; omega)]
        · refine ife h6 ?_
          rw [if_neg (show ¬ nul a0 x b0 y by unfold nul; omega)]
    · refine ife ha ?_
      by_cases h6 : b0 = 6
      · refine ift h6 (bs (same_f _ _ _ _ _ _) ?_)
        by_cases hb : a0 = 1 ∧ U x = 0
        · refine ift (decide_eq_true hb) ?_
          rw [if_pos (show nul a0 x b0 y from Or.inr ⟨h6, hb⟩)]
        · refine ife (by rw [decide_eq_true_iff]; exact hb) ?_
          rw [if_neg (show ¬ nul a0 x b0 y by unfold nul; omega)]
      · refine ife h6 ?_
        rw [if_neg (show ¬ nul a0 x b0 y by unfold nul; omega)]
  · refine ife (fun q => h (hc.mp q)) ?_
    rw [if_neg h]
    by_cases h1 : a0 = 2 ∧ b0 = 3
    · refine ift (b2.mpr h1) ?_
      rw [if_pos h1]; exact ordered_f _ _ _
    · refine ife (fun q => h1 (b2.mp q)) ?_
      rw [if_neg h1]
      by_cases h2 : a0 = 3 ∧ b0 = 2
      · refine ift (b2.mpr h2) ?_
        rw [if_pos h2]; exact ordered_f _ _ _
      · refine ife (fun q => h2 (b2.mp q)) ?_
        rw [if_neg h2]
theorem cj0_f (k : Nat) (op : Int) (wide : Bool) (len : Int) (c : Bool) (a0 : Int) (x : W) (a2 b0 : Int) (y : W) (b2' : Int) (hc : c = true ↔ (a0 = 0 ∨ b0 = 0)) (hj : isJmp op = true) :
    value_Compare.j0 (k + 2) op wide len c a0 (U x) a2 b0 (U y) b2' 1 0 0 a0 b0 = some (vC op wide a0 x b0 y len) := by
  rw [value_Compare.j0]
  unfold vC
  rw [if_pos hj]
  by_cases h : a0 = 0 ∨ b0 = 0
  · refine ift (hc.mpr h) ?_
    rw [if_pos h]
  · refine ife (fun q => h (hc.mp q)) ?_
    rw [if_neg h]
    by_cases h1 : a0 = 1 ∧ b0 = 1
    · refine ift (b2.mpr h1) (bs (jump_f (k + 1) (by omega) _ _ _ _) ?_)
      rw [if_pos h1]
    · refine ife (fun q => h1 (b2.mp q)) ?_
      rw [if_neg h1]
      cases wide
      · exact ife nt rfl
      · refine ift rfl ?_
        rw [if_neg (by decide : ¬ (true = false))]
        by_cases h2 : op = 1
        · exact ift h2 (cj1_f k op len _ ⟨fun _ => Or.inl h2, fun _ => rfl⟩ _ _ _ _ _ _)
        · refine ife h2 (cj1_f k op len _ ?_ _ _ _ _ _ _)
          rw [beq_iff_eq]; omega
theorem vcmp_f (k : Nat) (hk : 5 ≤ k) (op : Int) (wide : Bool) (a0 : Int) (x : W) (a2 b0 : Int) (y : W) (b2' len : Int) :
    value_Compare.f k op wide a0 (U x) a2 b0 (U y) b2' len = some (vC op wide a0 x b0 y len) := by
  obtain ⟨k, rfl⟩ : ∃ m, k = m + 2 := ⟨k - 2, by omega⟩
  unfold value_Compare.f
  refine bs (jump_f (k + 2) (by omega) op wide 0 0) ?_
  by_cases hj : isJmp op = true
  · refine ift hj (bs (a := (1, 0, 0)) rfl ?_)
    by_cases h : a0 = 0
    · exact ift h (cj0_f k op wide len _ a0 x a2 b0 y b2' ⟨fun _ => Or.inl h, fun _ => rfl⟩ hj)
    · refine ife h (cj0_f k op wide len _ a0 x a2 b0 y b2' ?_ hj)
      rw [beq_iff_eq]; omega
  · refine ife hj ?_
    unfold vC
    rw [if_neg hj]
theorem rc6_f (k : Nat) (op p q : Int) (wide : Bool) : lockgateref14_Compare.j6 (k + 1) op wide p q = some (if wide = false then (false, 21) else od op p q) := by
  rw [lockgateref14_Compare.j6]
  cases wide
  · exact ife nt rfl
  refine ift rfl ?_
  rw [if_neg (by decide : ¬ (true = false))]
  unfold od
  by_cases h2 : op = 2
  · rw [if_pos h2, if_pos h2]
  rw [if_neg h2, if_neg h2]
  by_cases h3 : op = 3
  · rw [if_pos h3, if_pos h3]
  rw [if_neg h3, if_neg h3]
  by_cases h10 : op = 10
  · rw [if_pos h10, if_pos h10]
  rw [if_neg h10, if_neg h10]
  by_cases h11 : op = 11
  · rw [if_pos h11, if_pos h11]
  rw [if_neg h11, if_neg h11]
theorem rc5_f (k : Nat) (op len : Int) (wide : Bool) (c : Bool) (a0 : Int) (x : W) (a2 b0 : Int) (y : W) (b2' : Int) (hc : c = true ↔ (a0 = 2 ∧ b0 = 3)) :
    lockgateref14_Compare.j5 (k + 2) op wide len (wrap64 (U x)) (wrap64 (U y)) c a0 (U x) a2 b0 (U y) b2' = some (if wide = false then (false, 21) else if a0 = 2 ∧ b0 = 3 then od op (wrap64 (U x)) len else if a0 = 3 ∧ b0 = 2 then od op len (wrap64 (U y)) else (false, 21)) := by
  rw [lockgateref14_Compare.j5]
  by_cases h : a0 = 2 ∧ b0 = 3
  · refine ift (hc.mpr h) ?_
    rw [rc6_f, if_pos h]
  · refine ife (fun q => h (hc.mp q)) ?_
    rw [if_neg h]
    by_cases h3 : a0 = 3
    · refine ift h3 ?_
      by_cases h2 : b0 = 2
      · refine ift h2 ?_
        rw [rc6_f, if_pos (show a0 = 3 ∧ b0 = 2 from ⟨h3, h2⟩)]
      · refine ife h2 ?_
        rw [if_neg (c := a0 = 3 ∧ b0 = 2) (fun q => h2 q.2)]; cases wide <;> rfl
    · refine ife h3 ?_
      rw [if_neg (c := a0 = 3 ∧ b0 = 2) (fun q => h3 q.1)]; cases wide <;> rfl
theorem od_eq (op p q : Int) (h : op = 1 ∨ op = 5) : od op p q = (false, 21) := by
  unfold od; rw [if_neg (by omega), if_neg (by omega), if_neg (by omega), if_neg (by omega)]
theorem rc4_f (k : Nat) (op len : Int) (wide : Bool) (c : Bool) (a0 : Int) (x : W) (a2 b0 : Int) (y : W) (b2' : Int) :
    lockgateref14_Compare.j4 (k + 3) op wide len c a0 (U x) a2 b0 (U y) b2' = some (if c = true then (true, 0) else if wide = false then (false, 21) else if a0 = 2 ∧ b0 = 3 then od op (wrap64 (U x)) len else if a0 = 3 ∧ b0 = 2 then od op len (wrap64 (U y)) else (false, 21)) := by
  rw [lockgateref14_Compare.j4]
  cases c
  · refine ife nt ?_
    rw [if_neg nt]
    by_cases h : a0 = 2
    · refine ift h (rc5_f k op len wide _ a0 x a2 b0 y b2' ?_)
      rw [beq_iff_eq]; exact ⟨fun q => ⟨h, q⟩, fun q => q.2⟩
    · refine ife h (rc5_f k op len wide _ a0 x a2 b0 y b2' ?_)
      exact ⟨fun q => absurd q (by decide), fun q => absurd q.1 h⟩
  · exact ift rfl rfl
theorem rc2_f (k : Nat) (op len : Int) (wide : Bool) (c : Bool) (a0 : Int) (x : W) (a2 b0 : Int) (y : W) (b2' : Int) (hc : c = true ↔ nul a0 x b0 y) :
    lockgateref14_Compare.j2 (k + 5) op wide len c a0 (U x) a2 b0 (U y) b2' = some (if wide = false then (false, 21) else cR op a0 x b0 y len) := by
  have j3 : ∀ d : Bool, (d = true ↔ (wide = true ∧ c = true ∧ op = 1)) → lockgateref14_Compare.j3 (k + 4) op wide len c d a0 (U x) a2 b0 (U y) b2' = some (if wide = false then (false, 21) else cR op a0 x b0 y len) := by
    intro d hd
    rw [lockgateref14_Compare.j3]
    unfold cR
    by_cases h : wide = true ∧ c = true ∧ op = 1
    · refine ift (hd.mpr h) ?_
      rw [if_neg (by rw [h.1]; decide), if_pos (Or.inl h.2.2), if_pos (hc.mp h.2.1), h.2.2]; rfl
    · refine ife (fun q => h (hd.mp q)) ?_
      cases wide
      · refine ife nt ?_
        rw [rc4_f k, if_neg nt, if_pos rfl, if_pos rfl]
      · refine ift rfl ?_
        rw [if_neg (by decide : ¬ (true = false))]
        by_cases hn : c = true
        · refine ift hn ?_
          have h1 : ¬ op = 1 := fun q => h ⟨rfl, hn, q⟩
          rw [rc4_f k]
          by_cases h5 : op = 5
          · rw [if_pos (by rw [beq_iff_eq]; exact h5), if_pos (c := op = 1 ∨ op = 5) (Or.inr h5), if_pos (hc.mp hn), h5]; rfl
          · rw [if_neg (by rw [beq_iff_eq]; exact h5), if_neg (by decide : ¬ (true = false)), if_neg (c := op = 1 ∨ op = 5) (by omega)]
        · refine ife hn ?_
          rw [rc4_f k, if_neg nt, if_neg (by decide : ¬ (true = false))]
          by_cases h1 : op = 1 ∨ op = 5
          · rw [if_pos h1, if_neg (fun q => hn (hc.mpr q)), od_eq _ _ _ h1, od_eq _ _ _ h1]
            split <;> (try split) <;> rfl
          · rw [if_neg (c := op = 1 ∨ op = 5) h1]
  rw [lockgateref14_Compare.j2]
  by_cases hw : wide = true
  · refine ift hw ?_
    by_cases hn : c = true
    · refine ift hn (j3 _ ?_)
      rw [beq_iff_eq]; exact ⟨fun q => ⟨hw, hn, q⟩, fun q => q.2.2⟩
    · exact ife hn (j3 _ ⟨fun q => absurd q (by decide), fun q => absurd q.2.1 hn⟩)
  · exact ife hw (j3 _ ⟨fun q => absurd q (by decide), fun q => absurd q.1 hw⟩)
theorem rc1_f (k : Nat) (op len : Int) (wide : Bool) (c : Bool) (yes : Bool) (a0 : Int) (x : W) (a2 b0 : Int) (y : W) (b2' : Int) (hc : c = true ↔ (a0 = 1 ∧ b0 = 1)) :
    lockgateref14_Compare.j1 (k + 6) op wide len yes c a0 (U x) a2 b0 (U y) b2' = some (if a0 = 1 ∧ b0 = 1 then (yes, 0) else if wide = false then (false, 21) else cR op a0 x b0 y len) := by
  rw [lockgateref14_Compare.j1]
  by_cases h : a0 = 1 ∧ b0 = 1
  · refine ift (hc.mpr h) ?_
    rw [if_pos h]
  · refine ife (fun q => h (hc.mp q)) ?_
    rw [if_neg h]
    have j2 := rc2_f k op len wide
    by_cases h6 : a0 = 6
    · refine ift h6 ?_
      by_cases h1 : b0 = 1
      · refine ift h1 ?_
        by_cases hy : U y = 0
        · exact ift hy (j2 _ a0 x a2 b0 y b2' ⟨fun _ => Or.inl ⟨h6, h1, hy⟩, fun _ => rfl⟩)
        · refine ife hy (ife (by omega) (j2 _ a0 x a2 b0 y b2' ?_))
          unfold nul; exact ⟨fun q => absurd q (by decide), fun q => by omega⟩
      · refine ife h1 ?_
        have hn : ¬ nul a0 x b0 y := by unfold nul; omega
        by_cases hb : b0 = 6
        · exact ift hb (ife (by omega) (j2 _ a0 x a2 b0 y b2' ⟨fun q => absurd q (by decide), fun q => absurd q hn⟩))
        · exact ife hb (j2 _ a0 x a2 b0 y b2' ⟨fun q => absurd q (by decide), fun q => absurd q hn⟩)
    · refine ife h6 ?_
      by_cases hb : b0 = 6
      · refine ift hb ?_
        by_cases h1 : a0 = 1
        · refine ift h1 (j2 _ a0 x a2 b0 y b2' ?_)
          rw [beq_iff_eq]; unfold nul; exact ⟨fun q => Or.inr ⟨hb, h1, q⟩, fun q => by omega⟩
        · refine ife h1 (j2 _ a0 x a2 b0 y b2' ?_)
          unfold nul; exact ⟨fun q => absurd q (by decide), fun q => by omega⟩
      · refine ife hb (j2 _ a0 x a2 b0 y b2' ?_)
        unfold nul; exact ⟨fun q => absurd q (by decide), fun q => by omega⟩
theorem rvcmp_f (k : Nat) (hk : 230 ≤ k) (op : Int) (wide : Bool) (a0 : Int) (x : W) (a2 b0 : Int) (y : W) (b2' len : Int) :
    lockgateref14_Compare.f k op wide a0 (U x) a2 b0 (U y) b2' len = some (vC op wide a0 x b0 y len) := by
  obtain ⟨k, rfl⟩ : ∃ m, k = m + 7 := ⟨k - 7, by omega⟩
  unfold lockgateref14_Compare.f
  refine bs (rjump_f (k + 7) (by omega) op wide x y) ?_
  unfold vC
  by_cases hj : isJmp op = true
  · refine ift hj ?_
    rw [if_pos hj]
    have j0 : ∀ c : Bool, (c = true ↔ (a0 = 0 ∨ b0 = 0)) → lockgateref14_Compare.j0 (k + 7) op wide len (jmp op wide x y) c a0 (U x) a2 b0 (U y) b2' = some (if a0 = 0 ∨ b0 = 0 then (false, 20) else if a0 = 1 ∧ b0 = 1 then (jmp op wide x y, 0) else if wide = false then (false, 21) else cR op a0 x b0 y len) := by
      intro c hc
      rw [lockgateref14_Compare.j0]
      by_cases h : a0 = 0 ∨ b0 = 0
      · refine ift (hc.mpr h) ?_
        rw [if_pos h]
      · refine ife (fun q => h (hc.mp q)) ?_
        rw [if_neg h]
        by_cases h1 : a0 = 1
        · refine ift h1 (rc1_f k op len wide _ _ a0 x a2 b0 y b2' ?_)
          rw [beq_iff_eq]; exact ⟨fun q => ⟨h1, q⟩, fun q => q.2⟩
        · refine ife h1 (rc1_f k op len wide _ _ a0 x a2 b0 y b2' ?_)
          exact ⟨fun q => absurd q (by decide), fun q => absurd q.1 h1⟩
    by_cases h : a0 = 0
    · exact ift h (j0 _ ⟨fun _ => Or.inl h, fun _ => rfl⟩)
    · refine ife h (j0 _ ?_)
      rw [beq_iff_eq]; omega
  · refine ife hj ?_
    rw [if_neg hj]
end Go.Proofs.Ytnpbhippkcikoaa.C14
