/- Layer 5, against the reference: the plain parts of Norm are the same on both sides. -/
import Derived.Test.YtceclodenhgoeaaGreatZq
namespace Go.Proofs.YtceclodenhgoeaaGreat.Zqa
open Go Go.RowKit Go.Proofs Go.Proofs.YtceclodenhgoeaaGreat.Xc Go.Proofs.YtceclodenhgoeaaGreat.Zs Go.Proofs.YtceclodenhgoeaaGreat.Zo Go.Proofs.YtceclodenhgoeaaGreat.Zq Go.Proofs.YtceclodenhgoeaaGreat.Bv
set_option linter.unusedVariables false
set_option linter.unusedSimpArgs false
/-- What both have. -/
def mk2 (k : IntKind) (K : Value → Prop) (a b c d : Int) : Prop := if max a c ≤ min b d then K (.tuple #[.agg #[.int k (max a c), .int k (min b d)], .bool true]) else K (.tuple #[.agg #[.int k 0, .int k 0], .bool false])
theorem m_yes {k : IntKind} {K : Value → Prop} {a b c d x y : Int} (h : mk2 k K a b c d) (h1 : max a c ≤ min b d) (e1 : x = max a c) (e2 : y = min b d) : K (.tuple #[.agg #[.int k x, .int k y], .bool true]) := by
  unfold mk2 at h; rw [if_pos h1] at h; rw [e1, e2]; exact h
theorem m_no {k : IntKind} {K : Value → Prop} {a b c d : Int} (h : mk2 k K a b c d) (h1 : ¬ max a c ≤ min b d) : K (.tuple #[.agg #[.int k 0, .int k 0], .bool false]) := by
  unfold mk2 at h; rw [if_neg h1] at h; exact h
theorem rU1 (a b c d : Int) (K : Value → Prop) (h : mk2 .u64 K a b c d) : nUMeet1 a b c d K := by
  rw [nUMeet1_eq]
  have e1 : (if c > a then c else a) = max a c := by split <;> omega
  have e2 : (if d < b then d else b) = min b d := by split <;> omega
  rw [e1, e2]
  refine br_cases (fun q => m_no h ?_) (fun q => m_yes h ?_ rfl rfl)
  · simpa using q
  · simpa using q
theorem rS1 (a b c d : Int) (K : Value → Prop) (h : mk2 .i64 K a b c d) : nSMeet1 a b c d K := by
  rw [nSMeet1_eq]
  have e1 : (if c > a then c else a) = max a c := by split <;> omega
  have e2 : (if d < b then d else b) = min b d := by split <;> omega
  rw [e1, e2]
  refine br_cases (fun q => m_no h ?_) (fun q => m_yes h ?_ rfl rfl)
  · simpa using q
  · simpa using q
theorem rU2 (a b c d : Int) (K : Value → Prop) (h : mk2 .u64 K a b c d) : nUMeet2 a b c d K := by
  rw [nUMeet2_eq]
  refine br_cases (fun q1 => ?_) (fun q1 => ?_) <;> refine br_cases (fun q2 => ?_) (fun q2 => ?_) <;> refine br_cases (fun q3 => m_no h ?_) (fun q3 => m_yes h ?_ ?_ ?_)
  all_goals (first | have q1 := of_decide_eq_true q1 | have q1 := of_decide_eq_false q1)
  all_goals (first | have q2 := of_decide_eq_true q2 | have q2 := of_decide_eq_false q2)
  all_goals (first | have q3 := of_decide_eq_true q3 | have q3 := of_decide_eq_false q3)
  all_goals omega
theorem rS2 (a b c d : Int) (K : Value → Prop) (h : mk2 .i64 K a b c d) : nSMeet2 a b c d K := by
  rw [nSMeet2_eq]
  refine br_cases (fun q1 => ?_) (fun q1 => ?_) <;> refine br_cases (fun q2 => ?_) (fun q2 => ?_) <;> refine br_cases (fun q3 => m_no h ?_) (fun q3 => m_yes h ?_ ?_ ?_)
  all_goals (first | have q1 := of_decide_eq_true q1 | have q1 := of_decide_eq_false q1)
  all_goals (first | have q2 := of_decide_eq_true q2 | have q2 := of_decide_eq_false q2)
  all_goals (first | have q3 := of_decide_eq_true q3 | have q3 := of_decide_eq_false q3)
  all_goals omega
end Go.Proofs.YtceclodenhgoeaaGreat.Zqa
