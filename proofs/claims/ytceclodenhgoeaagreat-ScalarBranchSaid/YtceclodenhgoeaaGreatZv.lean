/- Layer 5, against the reference: ScalarSwap, the law. -/
import Derived.Test.YtceclodenhgoeaaGreatZu
import Derived.Test.YtceclodenhgoeaaGreatZk
namespace Go.Proofs.YtceclodenhgoeaaGreat.Zv
open Go Go.RowKit Go.Proofs Go.Proofs.YtceclodenhgoeaaGreat.Xc Go.Proofs.YtceclodenhgoeaaGreat.Zs Go.Proofs.YtceclodenhgoeaaGreat.Zt Go.Proofs.YtceclodenhgoeaaGreat.Zu Go.Proofs.YtceclodenhgoeaaGreat.Zk Go.Proofs.YtceclodenhgoeaaGreat.By Go.Proofs.YtceclodenhgoeaaGreat.Bv
set_option linter.unusedVariables false
set_option linter.unusedSimpArgs false
theorem uW (v : Int) : IntKind.u64.wrap v = v % 18446744073709551616 := by rw [wrap_u64, U_ofInt]
theorem exu {x : Int} (h : u6 x) : ∃ X : W, x = U X := ⟨BitVec.ofInt 64 x, by rw [U_ofInt]; unfold u6 at h; omega⟩
theorem isv_u {a b c d e f : Int} (h : rg a b c d e f) : u6 (isv a b c d e f) := by
  have w : u6 (IntKind.wrap .u64 e) := by rw [uW]; unfold u6; omega
  have z : u6 0 := by unfold u6; omega
  obtain ⟨h1, h2⟩ := h
  unfold isv
  split
  · exact h2
  · split
    · exact h1
    · split
      · exact w
      · exact z
theorem is_as {a b c d e f : Int} {K : Value → Prop} (h : K (.tuple #[.int .u64 (isv a b c d e f), .bool (iso a b c d e f)])) :
    br (c == d) (K (.tuple (#[.int .u64 c, .bool true]))) (br (b == 0) (K (.tuple (#[.int .u64 a, .bool true]))) (br (e == f) (K (.tuple (#[.int .u64 (IntKind.wrap .u64 e), .bool true]))) (K (.tuple (#[.int .u64 0, .bool false]))))) := by
  unfold isv iso at h
  refine br_cases (fun q => ?_) (fun q => br_cases (fun q2 => ?_) (fun q2 => br_cases (fun q3 => ?_) (fun q3 => ?_)))
  · have q := eq_of_beq q
    rw [if_pos q, decide_eq_true (Or.inl q)] at h; exact h
  · have q := beq_eq_false_iff_ne.1 q
    have q2 := eq_of_beq q2
    rw [if_neg q, if_pos q2, decide_eq_true (Or.inr (Or.inl q2))] at h; exact h
  · have q := beq_eq_false_iff_ne.1 q
    have q2 := beq_eq_false_iff_ne.1 q2
    have q3 := eq_of_beq q3
    rw [if_neg q, if_neg q2, if_pos q3, decide_eq_true (Or.inr (Or.inr q3))] at h; exact h
  · have q := beq_eq_false_iff_ne.1 q
    have q2 := beq_eq_false_iff_ne.1 q2
    have q3 := beq_eq_false_iff_ne.1 q3
    rw [if_neg q, if_neg q2, if_neg q3, decide_eq_false (by rintro (h | h | h) <;> contradiction)] at h; exact h
theorem oLaw (k : Int) (high : Bool) (a b c d e f : Int) (h : rg a b c d e f) (hd : u6 d) : nLaw k high a b c d e f (· = .bool true) := by
  rw [nLaw_eq]
  refine ⟨⟨h, hd⟩, fun a' c' d' e' f' hr => ?_⟩
  have hu := isv_u hr
  cases hk : swo k <;> cases hi : iso a' b c' d' e' f' <;> cases h6 : (bif k == 64 then !high else false)
  all_goals (repeat (first | with_reducible refine ob_self ?_ | with_reducible refine ob_true ?_ | ((with_reducible refine nm_intro ?_); intro r hr; subst hr) | (refine ⟨hu, ?_⟩) | ((with_reducible refine br_no ?_ ?_); exact rfl) | ((with_reducible refine br_yes ?_ ?_); exact rfl)))
  all_goals simp only [beq_self_eq_true, Bool.and_self, Bool.and_true, cond_true]
end Go.Proofs.YtceclodenhgoeaaGreat.Zv
