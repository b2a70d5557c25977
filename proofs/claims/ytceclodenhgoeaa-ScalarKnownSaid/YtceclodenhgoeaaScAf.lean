/- Layer 5: ScalarBranches, the law. -/
import Derived.Test.YtceclodenhgoeaaScAe
namespace Go.Proofs.Ytceclodenhgoeaa.ScAf
open Go Go.RowKit Go.Proofs Go.Proofs.Ytceclodenhgoeaa.Xc Go.Proofs.Ytceclodenhgoeaa.Sc Go.Proofs.Ytceclodenhgoeaa.ScS Go.Proofs.Ytceclodenhgoeaa.ScB Go.Proofs.Ytceclodenhgoeaa.ScK Go.Proofs.Ytceclodenhgoeaa.ScG Go.Proofs.Ytceclodenhgoeaa.ScP Go.Proofs.Ytceclodenhgoeaa.ScF Go.Proofs.Ytceclodenhgoeaa.ScO Go.Proofs.Ytceclodenhgoeaa.ScV Go.Proofs.Ytceclodenhgoeaa.ScY Go.Proofs.Ytceclodenhgoeaa.ScZ Go.Proofs.Ytceclodenhgoeaa.ScAa Go.Proofs.Ytceclodenhgoeaa.ScAb Go.Proofs.Ytceclodenhgoeaa.ScAc Go.Proofs.Ytceclodenhgoeaa.ScAd Go.Proofs.Ytceclodenhgoeaa.ScAe Go.Proofs.Ytceclodenhgoeaa.Bv
set_option linter.unusedVariables false
set_option linter.unusedSimpArgs false
theorem may_zero : MayS 0 0 0 0 0 0 := ⟨by rw [ap, aN_self], by omega, by omega, by unfold uu; omega, by unfold uu; omega, by unfold uu; omega, by unfold uu; omega, by unfold ss; omega, by unfold ss; omega⟩
theorem ap_and {a b : Int} (h : ap a b) : Go.bits .and .u64 a b = 0 := by
  rw [← h, aN, b_andNot, b_and, ofInt_U]
  rw [show (0 : Int) = U 0#64 from rfl]; congr 1
  generalize BitVec.ofInt 64 a = a; generalize BitVec.ofInt 64 b = b
  (apply BitVec.eq_of_getLsbD_eq; intro i hi; simp only [BitVec.getLsbD_and, BitVec.getLsbD_or, BitVec.getLsbD_xor, BitVec.getLsbD_not, BitVec.getLsbD_zero, hi, decide_true, Bool.true_and]); cases a.getLsbD i <;> cases b.getLsbD i <;> rfl
theorem omay (a b c d e f : Int) (M : MayS a b c d e f) : nmay a b c d e f (· = .bool true) := by
  rw [nmay_eq]; (repeat (first | refine ob_self ?_ | refine ob_true ?_ | (refine nm_intro ?_; intro _ _)))
  subst_vars
  rw [ap_and M.m, decide_eq_true M.u, decide_eq_true M.s]; rfl
theorem rwith (a b c d e f v : Int) (K : Value → Prop) (hr : rng a b c d e f) (hv : uu v) (h : ∀ a' b' c' d' e' f', MayS a' b' c' d' e' f' → inS a' b' c' d' e' f' v → K (Sc a' b' c' d' e' f')) : nwith a b c d e f v K := by
  obtain ⟨h1, h2, h3, h4, h5, h6⟩ := hr
  have hs := ss_sw v
  rw [nwith_eq]
  refine h _ _ _ _ _ _ ⟨?_, ?_, ?_, uu_aN _ _, by rw [b_or]; exact ⟨U_nonneg _, U_lt _⟩, ?_, ?_, ?_, ?_⟩ ⟨?_, ⟨?_, ?_⟩, ?_, ?_⟩
  · simp only [ap, aN, b_andNot, b_or, b_xor, ofInt_U]; congr 1
    generalize BitVec.ofInt 64 a = a; generalize BitVec.ofInt 64 b = b; generalize BitVec.ofInt 64 v = v
    (apply BitVec.eq_of_getLsbD_eq; intro i hi; simp only [BitVec.getLsbD_and, BitVec.getLsbD_or, BitVec.getLsbD_xor, BitVec.getLsbD_not, BitVec.getLsbD_zero, hi, decide_true, Bool.true_and]); cases v.getLsbD i <;> cases a.getLsbD i <;> cases b.getLsbD i <;> rfl
  · split <;> split <;> split <;> split <;> omega
  · split <;> split <;> split <;> split <;> omega
  · split <;> split <;> assumption
  · split <;> split <;> assumption
  · split <;> split <;> assumption
  · split <;> split <;> assumption
  · simp only [tin, aN, b_andNot, b_or, b_xor, ofInt_U]; congr 1
    generalize BitVec.ofInt 64 a = a; generalize BitVec.ofInt 64 b = b; generalize BitVec.ofInt 64 v = v
    (apply BitVec.eq_of_getLsbD_eq; intro i hi; simp only [BitVec.getLsbD_and, BitVec.getLsbD_or, BitVec.getLsbD_xor, BitVec.getLsbD_not, BitVec.getLsbD_zero, hi, decide_true, Bool.true_and]); cases v.getLsbD i <;> cases a.getLsbD i <;> cases b.getLsbD i <;> rfl
  all_goals (split <;> split <;> (try unfold sw) <;> omega)
theorem in_of {a b c d e f v : Int} (h : inS a b c d e f v) : inB a b c d e f v = true := decide_eq_true ⟨h.1, h.2.1.1, h.2.1.2, h.2.2.1, h.2.2.2⟩
theorem wi_of {p q r s t u a b c d e f : Int} (h : Wi p q r s t u a b c d e f) : wiB p q r s t u a b c d e f = true := decide_eq_true h
theorem eq_b (a : Int) : (a == a) = true := beq_self_eq_true a
theorem oBrs (op : Int) (wide : Bool) (a b c d e f a' b' c' d' e' f' v w : Int) (hr : rng a b c d e f) (hr' : rng a' b' c' d' e' f') (hv : uu v) (hw : uu w) : nBrs op wide a b c d e f a' b' c' d' e' f' v w (· = .bool true) := by
  rw [nBrs_eq]
  refine ⟨⟨hr, hv⟩, fun a1 b1 c1 d1 e1 f1 M hi => ⟨⟨hr', hw⟩, fun a2 b2 c2 d2 e2 f2 M' hj => ⟨⟨hv, hw⟩, fun does hd ok hok => ⟨⟨M, M'⟩, fun p q r s t u p' q' r' s' t' u' o1 hB => ?_⟩⟩⟩⟩
  obtain ⟨ho, ip, iq⟩ := hB.i v w hv hw hi hj (Or.inl hd.symm)
  subst ho
  obtain ⟨⟨Mp, wp⟩, Mq, wq⟩ := hB.w rfl
  (repeat (first | refine ob_self ?_ | refine ob_true ?_ | (refine nm_intro ?_; intro _ _)))
  refine ⟨Mp, ?_⟩
  (repeat (first | refine ob_self ?_ | refine ob_true ?_ | (refine nm_intro ?_; intro _ _)))
  refine ⟨Mq, ?_⟩
  (repeat (first | refine ob_self ?_ | refine ob_true ?_ | (refine nm_intro ?_; intro _ _)))
  refine br_no ?_ ?_
  · subst_vars
    rw [in_of ip, in_of iq, wi_of wp, wi_of wq]; rfl
  refine ⟨⟨M, M'⟩, fun p3 q3 r3 s3 t3 u3 p4 q4 r4 s4 t4 u4 o2 hC => ?_⟩
  have Mx : MayS p3 q3 r3 s3 t3 u3 ∧ MayS p4 q4 r4 s4 t4 u4 := by
    cases o2 with
    | true => exact ⟨(hC.w rfl).1.1, (hC.w rfl).2.1⟩
    | false =>
      obtain ⟨⟨rfl, rfl, rfl, rfl, rfl, rfl⟩, rfl, rfl, rfl, rfl, rfl, rfl⟩ := hC.n rfl
      exact ⟨may_zero, may_zero⟩
  (repeat (first | refine ob_self ?_ | refine ob_true ?_ | (refine nm_intro ?_; intro _ _)))
  refine ⟨Mx.1, ?_⟩
  (repeat (first | refine ob_self ?_ | refine ob_true ?_ | (refine nm_intro ?_; intro _ _)))
  refine ⟨Mx.2, ?_⟩
  (repeat (first | refine ob_self ?_ | refine ob_true ?_ | (refine nm_intro ?_; intro _ _)))
  refine br_no ?_ ?_
  · clear hB
    subst_vars
    cases o2 with
    | true =>
      obtain ⟨⟨_, w3⟩, _, w4⟩ := hC.w rfl
      rw [wi_of w3, wi_of w4]; rfl
    | false =>
      obtain ⟨⟨rfl, rfl, rfl, rfl, rfl, rfl⟩, rfl, rfl, rfl, rfl, rfl, rfl⟩ := hC.n rfl
      rfl
  (repeat (first | refine ob_self ?_ | refine ob_true ?_ | (refine nm_intro ?_; intro _ _)))
  subst_vars
  cases hk : jok op with
  | true => rfl
  | false =>
    obtain ⟨_, ⟨rfl, rfl, rfl, rfl, rfl, rfl⟩, rfl, rfl, rfl, rfl, rfl, rfl⟩ := hB.bad hk
    obtain ⟨rfl, _⟩ := hC.bad hk
    simp only [eq_b]; rfl
theorem tw : TabOk Try.prog TW := by
  refine tab_run good (by kernel_rfl) (fun vs K h => ?_) (tab_runK good (by kernel_rfl) (fun vs K h => ?_) (tab_runK good (by kernel_rfl) (fun vs K h => ?_) (tab_runK good (by kernel_rfl) (fun vs K h => ?_) (tab_run good (by kernel_rfl) (fun vs K h => ?_) (tab_run good (by kernel_rfl) (fun vs K h => ?_) (tab_run good (by kernel_rfl) (fun vs K h => ?_) tab_nil))))))
  all_goals split at h
  all_goals try exact h.elim
  · have o := oknown; unfold nknown at o; exact ⟨_, h, [], EE, false, 90, tab_nil, ee, o⟩
  · rename_i a b c d e f v
    obtain ⟨⟨h1, h2⟩, h⟩ := h
    have o := rwith a b c d e f v K h1 h2 h
    unfold nwith at o; exact ⟨[], EE, true, 90, tab_nil, ee, o⟩
  · rename_i op wide a b
    obtain ⟨⟨h1, h2⟩, h⟩ := h
    have o := rJump op wide a b K h1 h2 (h _ rfl _ rfl)
    unfold nJump at o; exact ⟨TJ, EE, true, 90, tj, ee, o⟩
  · rename_i op wide taken a b c d e f a' b' c' d' e' f'
    obtain ⟨⟨h1, h2⟩, h⟩ := h
    have o := rBranch op wide taken a b c d e f a' b' c' d' e' f' K h1 h2 h
    unfold nBranch at o; exact ⟨TBr, EE, true, 90, tbr, ee, o⟩
  · rename_i a b c d e f
    have o := omay a b c d e f h.1; unfold nmay at o; exact ⟨_, h.2, [], EE, true, 90, tab_nil, ee, o⟩
  · rename_i a b c d e f v
    have o := oIn a b c d e f v; unfold nIn at o; exact ⟨_, h _ rfl, [], EE, true, 90, tab_nil, ee, o⟩
  · rename_i a b c d e f a' b' c' d' e' f'
    have o := oWithin a b c d e f a' b' c' d' e' f'; unfold nWithin at o; exact ⟨_, h _ rfl, [], EE, true, 90, tab_nil, ee, o⟩
end Go.Proofs.Ytceclodenhgoeaa.ScAf
