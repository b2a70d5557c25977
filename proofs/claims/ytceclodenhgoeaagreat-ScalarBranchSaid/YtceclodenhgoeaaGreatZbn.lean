/- Layer 5, against the reference: ScalarSets: the contracts, and the law. -/
import Derived.Test.YtceclodenhgoeaaGreatZbk
import Derived.Test.YtceclodenhgoeaaGreatZbm
import Derived.Test.YtceclodenhgoeaaGreatZx
namespace Go.Proofs.YtceclodenhgoeaaGreat.Zbn
open Go Go.RowKit Go.Proofs Go.Proofs.YtceclodenhgoeaaGreat.Xc Go.Proofs.YtceclodenhgoeaaGreat.Zs Go.Proofs.YtceclodenhgoeaaGreat.Zr Go.Proofs.YtceclodenhgoeaaGreat.Zu Go.Proofs.YtceclodenhgoeaaGreat.Zv Go.Proofs.YtceclodenhgoeaaGreat.Zk Go.Proofs.YtceclodenhgoeaaGreat.Zx Go.Proofs.YtceclodenhgoeaaGreat.Zo Go.Proofs.YtceclodenhgoeaaGreat.Zq Go.Proofs.YtceclodenhgoeaaGreat.Zbf Go.Proofs.YtceclodenhgoeaaGreat.Zbg Go.Proofs.YtceclodenhgoeaaGreat.Zbh Go.Proofs.YtceclodenhgoeaaGreat.Zbi Go.Proofs.YtceclodenhgoeaaGreat.Zbj Go.Proofs.YtceclodenhgoeaaGreat.Zbk Go.Proofs.YtceclodenhgoeaaGreat.Zbl Go.Proofs.YtceclodenhgoeaaGreat.Zbm Go.Proofs.YtceclodenhgoeaaGreat.Bv
set_option linter.unusedVariables false
set_option linter.unusedSimpArgs false
theorem tl : TabOk Tryz.prog TL := by
  refine tab_runK good (by kernel_rfl) (fun vs K h => ?_) (tab_runL good (by kernel_rfl) (fun vs K h => ?_) (tab_runK good (by kernel_rfl) (fun vs K h => ?_) (tab_runL good (by kernel_rfl) (fun vs K h => ?_) (tab_runK good (by kernel_rfl) (fun vs K h => ?_) (tab_runL good (by kernel_rfl) (fun vs K h => ?_) tab_nil)))))
  · unfold cI at h; split at h
    · rename_i a b v
      have o := rI1 (K := K) (h.2 _ rfl); unfold nI1 at o; exact ⟨[], EEz, true, 90, tab_nil, eez, o⟩
    · exact h.elim
  · unfold cI at h; split at h
    · rename_i a b v
      have o := rI2 (K := K) h.1.1 h.1.2 (h.2 _ rfl); unfold nI2 at o; exact ⟨[], EEz, true, LtI, 90, tab_nil, eez, lokI, o⟩
    · exact h.elim
  · unfold cW at h; split at h
    · rename_i a b c d
      have o := rW1 (K := K) (h.2 _ rfl); unfold nW1 at o; exact ⟨[], EEz, true, 90, tab_nil, eez, o⟩
    · exact h.elim
  · unfold cW at h; split at h
    · rename_i a b c d
      have o := rW2 (K := K) h.1.1 h.1.2 (h.2 _ rfl); unfold nW2 at o; exact ⟨[], EEz, true, LtW, 90, tab_nil, eez, lokW, o⟩
    · exact h.elim
  · unfold cJ at h; split at h
    · rename_i a b c d
      have o := rJ1 (K := K) h.1.1 h.1.2 (h.2 _ rfl _ rfl); unfold nJ1 at o; exact ⟨[], EEt, true, 90, tab_nil, eet, o⟩
    · exact h.elim
  · unfold cJ at h; split at h
    · rename_i a b c d
      have o := rJ2 (K := K) h.1.1 h.1.2 (h.2 _ rfl _ rfl); unfold nJ2 at o; exact ⟨[], EEz, true, LtJ, 90, tab_nil, eez, lokJ, o⟩
    · exact h.elim
theorem kb {K : Value → Prop} {x y : Bool} (h : K (.bool y)) (e : x = y) : K (.bool x) := by rw [e]; exact h
theorem oIn1 {a b c d e f v : Int} {K : Value → Prop} (h1 : dj a b) (h2 : u6 v) (h : K (.bool (inS a b c d e f v))) : nIn1 a b c d e f v K := by
  rw [nIn1_eq]
  refine ⟨⟨h1, h2⟩, ?_⟩
  repeat (first | with_reducible refine ob_self ?_ | with_reducible refine ob_true ?_ | ((with_reducible refine nm_intro ?_); intro r hr; subst hr))
  refine kb h ?_
  unfold inS lei
  simp only [Bool.cond_false_right, ge_iff_le, Bool.and_assoc]
theorem oIn2 {a b c d e f v : Int} {K : Value → Prop} (h1 : dj a b) (h2 : u6 v) (h : K (.bool (inS a b c d e f v))) : nIn2 a b c d e f v K := by
  rw [nIn2_eq]
  refine ⟨⟨h1, h2⟩, ?_⟩
  repeat (first | with_reducible refine ob_self ?_ | with_reducible refine ob_true ?_ | ((with_reducible refine nm_intro ?_); intro r hr; subst hr))
  refine kb h ?_
  unfold inS lei
  simp only [Bool.cond_false_right, ge_iff_le, Bool.and_assoc]
theorem oWi1 {a b c d e f a' b' c' d' e' f' : Int} {K : Value → Prop} (h1 : dj a b) (h2 : dj a' b') (h : K (.bool (wiS a b c d e f a' b' c' d' e' f'))) : nWi1 a b c d e f a' b' c' d' e' f' K := by
  rw [nWi1_eq]
  refine ⟨⟨h1, h2⟩, ?_⟩
  repeat (first | with_reducible refine ob_self ?_ | with_reducible refine ob_true ?_ | ((with_reducible refine nm_intro ?_); intro r hr; subst hr))
  refine kb h ?_
  unfold wiS lei
  simp only [Bool.cond_false_right, ge_iff_le, Bool.and_assoc]
theorem four {c d c' d' : Int} (h : c ≤ d) : (decide (c' ≤ c) && (decide (c ≤ d') && (decide (c' ≤ d) && decide (d ≤ d')))) = (decide (c' ≤ c) && decide (d ≤ d')) := by
  rw [Bool.eq_iff_iff]; simp only [Bool.and_eq_true, decide_eq_true_eq]; omega
theorem oWi2 {a b c d e f a' b' c' d' e' f' : Int} {K : Value → Prop} (h1 : dj a b) (h2 : dj a' b') (h3 : c ≤ d) (h : K (.bool (wiS a b c d e f a' b' c' d' e' f'))) : nWi2 a b c d e f a' b' c' d' e' f' K := by
  rw [nWi2_eq]
  refine ⟨⟨h1, h2⟩, ?_⟩
  repeat (first | with_reducible refine ob_self ?_ | with_reducible refine ob_true ?_ | ((with_reducible refine nm_intro ?_); intro r hr; subst hr))
  refine kb h ?_
  unfold wiS lei
  have q := four (c' := c') (d' := d') h3
  simp only [Bool.cond_false_right, ge_iff_le]
  rw [← Bool.and_assoc (decide (c' ≤ c)), Bool.and_assoc (wiT a b a' b')] at *
  rw [q]
  simp only [Bool.and_assoc]
theorem kj {K : Value → Prop} {v m p q s t p' q' s' t' : Int} (h : K (Sc v m p q s t)) (e1 : p' = p) (e2 : q' = q) (e3 : s' = s) (e4 : t' = t) : K (Sc v m p' q' s' t') := by subst e1; subst e2; subst e3; subst e4; exact h
theorem oJo1 {a b c d e f a' b' c' d' e' f' : Int} {K : Value → Prop} (h1 : dj a b) (h2 : dj a' b') (h : K (Sc (joV a b a' b') (joM a b a' b') (mni c c') (mxi d d') (mni e e') (mxi f f'))) : nJo1 a b c d e f a' b' c' d' e' f' K := by
  rw [nJo1_eq]
  refine ⟨⟨h1, h2⟩, fun r hr s hs => ?_⟩
  subst hr; subst hs
  unfold mni mxi at h
  refine kj h ?_ ?_ ?_ ?_ <;> split <;> omega
theorem oJo2 {a b c d e f a' b' c' d' e' f' : Int} {K : Value → Prop} (h1 : dj a b) (h2 : dj a' b') (h : K (Sc (joV a b a' b') (joM a b a' b') (mni c c') (mxi d d') (mni e e') (mxi f f'))) : nJo2 a b c d e f a' b' c' d' e' f' K := by
  rw [nJo2_eq]
  refine ⟨⟨h1, h2⟩, fun r hr s hs => ?_⟩
  subst hr; subst hs
  unfold mni mxi at h
  refine br_cases (fun q1 => ?_) (fun q1 => ?_) <;> refine br_cases (fun q2 => ?_) (fun q2 => ?_) <;> refine br_cases (fun q3 => ?_) (fun q3 => ?_) <;> refine br_cases (fun q4 => ?_) (fun q4 => ?_)
  all_goals (first | have q1 := of_decide_eq_true q1 | have q1 := of_decide_eq_false q1)
  all_goals (first | have q2 := of_decide_eq_true q2 | have q2 := of_decide_eq_false q2)
  all_goals (first | have q3 := of_decide_eq_true q3 | have q3 := of_decide_eq_false q3)
  all_goals (first | have q4 := of_decide_eq_true q4 | have q4 := of_decide_eq_false q4)
  all_goals (refine kj h ?_ ?_ ?_ ?_ <;> omega)
theorem ts : TabOk Tryz.prog TS := by
  refine tab_run good (by kernel_rfl) (fun vs K h => ?_) (tab_runK good (by kernel_rfl) (fun vs K h => ?_) (tab_runK good (by kernel_rfl) (fun vs K h => ?_) (tab_runK good (by kernel_rfl) (fun vs K h => ?_) (tab_runK good (by kernel_rfl) (fun vs K h => ?_) (tab_runK good (by kernel_rfl) (fun vs K h => ?_) (tab_run good (by kernel_rfl) (fun vs K h => ?_) (tab_run good (by kernel_rfl) (fun vs K h => ?_) (tab_runK good (by kernel_rfl) (fun vs K h => ?_) (tab_runK good (by kernel_rfl) (fun vs K h => ?_) (tab_runK good (by kernel_rfl) (fun vs K h => ?_) (tab_runK good (by kernel_rfl) (fun vs K h => ?_) (tab_runK good (by kernel_rfl) (fun vs K h => ?_) (tab_runK good (by kernel_rfl) (fun vs K h => ?_) tab_nil)))))))))))))
  · unfold cTrue at h; split at h
    · have o := oknown; unfold nknown at o; exact ⟨_, h, [], EEk, false, 90, tab_nil, eek, o⟩
    · exact h.elim
  · unfold cMay at h; split at h
    · rename_i a b c d e f
      obtain ⟨⟨⟨ha, hb⟩, hc, hd⟩, h⟩ := h
      have o : nMay a b c d e f K := by
        rw [nMay_eq]
        refine h _ _ _ _ _ ⟨?_, ?_, ?_, ?_, ?_⟩
        · obtain ⟨A, rfl⟩ := exu ha
          obtain ⟨B, rfl⟩ := exu hb
          refine ⟨A &&& ~~~ B, B, ?_, rfl, dj_cl _ _⟩
          rw [b_andNot, ofInt_U, ofInt_U]
        · split <;> assumption
        · split <;> assumption
        · split <;> split <;> omega
        · split <;> split <;> omega
      unfold nMay at o; exact ⟨[], EEz, true, 90, tab_nil, eez, o⟩
    · exact h.elim
  · unfold cIs at h; split at h
    · rename_i a b c d e f
      have o : nIs1 a b c d e f K := by rw [nIs1_eq]; exact is_as (h _ rfl _ rfl)
      unfold nIs1 at o; exact ⟨[], EEz, true, 90, tab_nil, eez, o⟩
    · exact h.elim
  · unfold cIs at h; split at h
    · rename_i a b c d e f
      have o : nIs2 a b c d e f K := by rw [nIs2_eq]; exact is_as (h _ rfl _ rfl)
      unfold nIs2 at o; exact ⟨[], EEz, true, 90, tab_nil, eez, o⟩
    · exact h.elim
  · unfold cNo at h; split at h
    · rename_i a b c d e f
      obtain ⟨q, h⟩ := h
      have o := oN1 (K := K) q.dj q.uc q.ud q.ef (h _ rfl)
      unfold nN1 at o; exact ⟨TN, EEz, true, 90, tn, eez, o⟩
    · exact h.elim
  · unfold cNo at h; split at h
    · rename_i a b c d e f
      obtain ⟨q, h⟩ := h
      have o := oN2 (K := K) q.dj q.uc q.ud q.ef (h _ rfl)
      unfold nN2 at o; exact ⟨TN, EEz, true, 90, tn, eez, o⟩
    · exact h.elim
  · unfold cUp at h; split at h
    · rename_i n
      have o := oUp1 n; unfold nUp1 at o; exact ⟨_, h _ rfl _ rfl _ rfl, [], EEz, true, 90, tab_nil, eez, o⟩
    · exact h.elim
  · unfold cUp at h; split at h
    · rename_i n
      have o := oUp2 n; unfold nUp2 at o; exact ⟨_, h _ rfl _ rfl _ rfl, [], EEz, true, 90, tab_nil, eez, o⟩
    · exact h.elim
  · unfold cIn at h; split at h
    · rename_i a b c d e f v
      have o := oIn1 (K := K) h.1.1 h.1.2 (h.2 _ rfl); unfold nIn1 at o; exact ⟨TL, EEz, true, 90, tl, eez, o⟩
    · exact h.elim
  · unfold cIn at h; split at h
    · rename_i a b c d e f v
      have o := oIn2 (K := K) h.1.1 h.1.2 (h.2 _ rfl); unfold nIn2 at o; exact ⟨TL, EEz, true, 90, tl, eez, o⟩
    · exact h.elim
  · unfold cWi at h; split at h
    · have o := oWi1 (K := K) h.1.1.1 h.1.1.2 (h.2 _ rfl); unfold nWi1 at o; exact ⟨TL, EEz, true, 90, tl, eez, o⟩
    · exact h.elim
  · unfold cWi at h; split at h
    · have o := oWi2 (K := K) h.1.1.1 h.1.1.2 h.1.2 (h.2 _ rfl); unfold nWi2 at o; exact ⟨TL, EEz, true, 90, tl, eez, o⟩
    · exact h.elim
  · unfold cJo at h; split at h
    · have o := oJo1 (K := K) h.1.1 h.1.2 (h.2 _ rfl _ rfl _ rfl _ rfl _ rfl _ rfl); unfold nJo1 at o; exact ⟨TL, EEz, true, 90, tl, eez, o⟩
    · exact h.elim
  · unfold cJo at h; split at h
    · have o := oJo2 (K := K) h.1.1 h.1.2 (h.2 _ rfl _ rfl _ rfl _ rfl _ rfl _ rfl); unfold nJo2 at o; exact ⟨TL, EEz, true, 90, tl, eez, o⟩
    · exact h.elim
theorem oS {a b c d e f a' b' c' d' e' f' v n : Int} (h1 : u6 a ∧ u6 b) (h2 : u6 c ∧ u6 d) (h3 : u6 a' ∧ u6 b') (h4 : u6 c' ∧ u6 d') (h5 : u6 v) : nS a b c d e f a' b' c' d' e' f' v n (· = .bool true) := by
  rw [nS_eq]
  refine ⟨⟨h1, h2⟩, fun x x1 x2 x3 x4 q1 => ⟨⟨h3, h4⟩, fun y y1 y2 y3 y4 q2 => ?_⟩⟩
  have w1 := q1.dj
  have w2 := q2.dj
  have w3 := q1.cd
  repeat (first | with_reducible refine ob_self ?_ | with_reducible refine ob_true ?_ | ((with_reducible refine nm_intro ?_); intro r hr; subst hr) | refine And.intro q1 ?_ | refine And.intro ⟨w1, h5⟩ ?_ | refine And.intro ⟨⟨w1, w2⟩, w3⟩ ?_ | refine And.intro ⟨w1, w2⟩ ?_ | ((with_reducible refine br_no ?_ ?_); rotate_left))
  all_goals (simp; try decide)
end Go.Proofs.YtceclodenhgoeaaGreat.Zbn
