/- Layer 4: contracts of span's functions, for the executor; the law of the lattice. -/
import Derived.Test.YtnephcecobocdaaSpL
namespace Go.Proofs.Ytnephcecobocdaa.SpL
open Go Go.Proofs Go.Proofs.Ytnephcecobocdaa.Xc
set_option linter.unusedVariables false
theorem mn (a b : Int) : (if b < a then b else a) = min a b := by split <;> omega
theorem mx (a b : Int) : (if b > a then b else a) = max a b := by split <;> omega
theorem ee : EqOk Try.prog EE := eq_cons (by kernel_rfl) (eq_cons (by kernel_rfl) eq_nil)
theorem oUs (a b c d : Int) : nUs a b c d (· = .tuple #[U2 (min a b) (max a b), U2 (min c d) (max c d)]) := by
  rw [nUs_eq]; simp only [mn, mx]
theorem oSs (a b c d : Int) : nSs a b c d (· = .tuple #[S2 (min a b) (max a b), S2 (min c d) (max c d)]) := by
  rw [nSs_eq]; simp only [mn, mx]
theorem meet_as {k : IntKind} (a b c d : Int) : br (!decide (max a c ≤ min b d)) (Value.tuple #[.agg #[.int k 0, .int k 0], .bool false] = .tuple #[.agg #[.int k (bif decide (max a c ≤ min b d) then max a c else 0), .int k (bif decide (max a c ≤ min b d) then min b d else 0)], .bool (decide (max a c ≤ min b d))]) (Value.tuple #[.agg #[.int k (max a c), .int k (min b d)], .bool true] = .tuple #[.agg #[.int k (bif decide (max a c ≤ min b d) then max a c else 0), .int k (bif decide (max a c ≤ min b d) then min b d else 0)], .bool (decide (max a c ≤ min b d))]) := by
  by_cases h : max a c ≤ min b d
  · rw [decide_eq_true h]; rfl
  · rw [decide_eq_false h]; rfl
theorem oUMeet (a b c d : Int) : nUMeet a b c d (· = .tuple #[U2 (bif decide (max a c ≤ min b d) then max a c else 0) (bif decide (max a c ≤ min b d) then min b d else 0), .bool (decide (max a c ≤ min b d))]) := by
  rw [nUMeet_eq]; simp only [mn, mx]; exact meet_as a b c d
theorem oSMeet (a b c d : Int) : nSMeet a b c d (· = .tuple #[S2 (bif decide (max a c ≤ min b d) then max a c else 0) (bif decide (max a c ≤ min b d) then min b d else 0), .bool (decide (max a c ≤ min b d))]) := by
  rw [nSMeet_eq]; simp only [mn, mx]; exact meet_as a b c d
theorem oUJoin (a b c d : Int) : nUJoin a b c d (· = U2 (min a c) (max b d)) := by rw [nUJoin_eq]; simp only [mn, mx]
theorem oSJoin (a b c d : Int) : nSJoin a b c d (· = S2 (min a c) (max b d)) := by rw [nSJoin_eq]; simp only [mn, mx]
theorem both (p q : Prop) [Decidable p] [Decidable q] : (bif decide p then decide q else false) = decide (p ∧ q) := by
  by_cases p <;> by_cases q <;> simp_all
theorem oUWithin (a b c d : Int) : nUWithin a b c d (· = .bool (decide (c ≤ a ∧ b ≤ d))) := by
  rw [nUWithin_eq]; (repeat (first | refine ob_self ?_ | refine ob_true ?_ | (refine nm_intro ?_; intro _ _))); rename_i h; rw [h, both]
theorem oSWithin (a b c d : Int) : nSWithin a b c d (· = .bool (decide (c ≤ a ∧ b ≤ d))) := by
  rw [nSWithin_eq]; (repeat (first | refine ob_self ?_ | refine ob_true ?_ | (refine nm_intro ?_; intro _ _))); rename_i h; rw [h, both]
theorem oUIn (a b c : Int) : nUIn a b c (· = .bool (decide (a ≤ c ∧ c ≤ b))) := by
  rw [nUIn_eq]; (repeat (first | refine ob_self ?_ | refine ob_true ?_ | (refine nm_intro ?_; intro _ _))); rename_i h; rw [h, both]
theorem oSIn (a b c : Int) : nSIn a b c (· = .bool (decide (a ≤ IntKind.i64.wrap c ∧ IntKind.i64.wrap c ≤ b))) := by
  rw [nSIn_eq]; (repeat (first | refine ob_self ?_ | refine ob_true ?_ | (refine nm_intro ?_; intro _ _))); rename_i h; rw [h, both]
theorem oUAll : nUAll (· = U2 0 18446744073709551615) := by rw [nUAll_eq]
theorem obelow7 : nbelow7 (· = .int .u64 7) := by rw [nbelow7_eq]; (repeat (first | refine ob_self ?_ | refine ob_true ?_ | (refine nm_intro ?_; intro _ _))); rfl
theorem tw : TabOk Try.prog TW := by
  refine tab_run good (by kernel_rfl) (fun vs K h => ?_) (tab_run good (by kernel_rfl) (fun vs K h => ?_) tab_nil)
  all_goals split at h
  all_goals try exact h.elim
  · have o := oUAll; unfold nUAll at o; exact ⟨_, h, [], [], true, 40, tab_nil, eq_nil, o⟩
  · have o := obelow7; unfold nbelow7 at o; exact ⟨_, h, [], [], false, 60, tab_nil, eq_nil, o⟩
theorem oworks : nworks (· = .bool true) := by
  rw [nworks_eq]; (repeat (first | refine ob_self ?_ | refine ob_true ?_ | (refine nm_intro ?_; intro _ _))); rfl
theorem tl : TabOk Try.prog TL := by
  refine tab_run good (by kernel_rfl) (fun vs K h => ?_) (tab_run good (by kernel_rfl) (fun vs K h => ?_) (tab_run good (by kernel_rfl) (fun vs K h => ?_) (tab_run good (by kernel_rfl) (fun vs K h => ?_) (tab_run good (by kernel_rfl) (fun vs K h => ?_) (tab_run good (by kernel_rfl) (fun vs K h => ?_) (tab_run good (by kernel_rfl) (fun vs K h => ?_) (tab_run good (by kernel_rfl) (fun vs K h => ?_) (tab_run good (by kernel_rfl) (fun vs K h => ?_) (tab_run good (by kernel_rfl) (fun vs K h => ?_) (tab_run good (by kernel_rfl) (fun vs K h => ?_) tab_nil))))))))))
  all_goals split at h
  all_goals try exact h.elim
  · have o := oworks; unfold nworks at o; exact ⟨_, h, TW, EE, false, 60, tw, ee, o⟩
  · rename_i a b c d; have o := oUs a b c d; unfold nUs at o; exact ⟨_, h _ rfl _ rfl _ rfl _ rfl, [], [], true, 40, tab_nil, eq_nil, o⟩
  · rename_i a b c d; have o := oSs a b c d; unfold nSs at o; exact ⟨_, h _ rfl _ rfl _ rfl _ rfl, [], [], true, 40, tab_nil, eq_nil, o⟩
  · rename_i a b c d; have o := oUMeet a b c d; unfold nUMeet at o; exact ⟨_, h _ rfl _ rfl _ rfl, [], [], true, 40, tab_nil, eq_nil, o⟩
  · rename_i a b c d; have o := oSMeet a b c d; unfold nSMeet at o; exact ⟨_, h _ rfl _ rfl _ rfl, [], [], true, 40, tab_nil, eq_nil, o⟩
  · rename_i a b c d; have o := oUJoin a b c d; unfold nUJoin at o; exact ⟨_, h _ rfl _ rfl, [], [], true, 40, tab_nil, eq_nil, o⟩
  · rename_i a b c d; have o := oSJoin a b c d; unfold nSJoin at o; exact ⟨_, h _ rfl _ rfl, [], [], true, 40, tab_nil, eq_nil, o⟩
  · rename_i a b c d; have o := oUWithin a b c d; unfold nUWithin at o; exact ⟨_, h _ rfl, [], [], true, 40, tab_nil, eq_nil, o⟩
  · rename_i a b c d; have o := oSWithin a b c d; unfold nSWithin at o; exact ⟨_, h _ rfl, [], [], true, 40, tab_nil, eq_nil, o⟩
  · rename_i a b c; have o := oUIn a b c; unfold nUIn at o; exact ⟨_, h _ rfl, [], [], true, 40, tab_nil, eq_nil, o⟩
  · rename_i a b c; have o := oSIn a b c; unfold nSIn at o; exact ⟨_, h _ rfl, [], [], true, 40, tab_nil, eq_nil, o⟩
theorem third (a b a' b' c d : Int) : (bif decide (c ≤ a ∧ b ≤ d) then !decide (c ≤ a' ∧ b' ≤ d) == decide (c ≤ min a a' ∧ max b b' ≤ d) else false) = false := by
  by_cases h : c ≤ a ∧ b ≤ d
  · have e : (c ≤ a' ∧ b' ≤ d) ↔ (c ≤ min a a' ∧ max b b' ≤ d) := by omega
    rw [decide_eq_true h, decide_eq_decide.2 e]
    cases decide (c ≤ min a a' ∧ max b b' ≤ d) <;> rfl
  · rw [decide_eq_false h]; rfl
theorem oLattice (p0 p1 q0 q1 r0 r1 v : Int) : nLattice p0 p1 q0 q1 r0 r1 v (· = .bool true) := by
  rw [nLattice_eq]
  (repeat (first | refine ob_self ?_ | refine ob_true ?_ | (refine nm_intro ?_; intro _ _)))
  refine br_no (by grind) ?_
  (repeat (first | refine ob_self ?_ | refine ob_true ?_ | (refine nm_intro ?_; intro _ _)))
  refine br_no (by grind) ?_
  (repeat (first | refine ob_self ?_ | refine ob_true ?_ | (refine nm_intro ?_; intro _ _)))
  refine br_no (by subst_vars; exact third ..) ?_
  repeat (rename_i r h; clear h r)
  (repeat (first | refine ob_self ?_ | refine ob_true ?_ | (refine nm_intro ?_; intro _ _)))
  exact congrArg Value.bool (by grind)
end Go.Proofs.Ytnephcecobocdaa.SpL
