/- KindsLess, by the executor. -/
import Derived.Test.YtaplgollkkpnaaaDoorDKh
namespace Go.Proofs.YtaplgollkkpnaaaDoor.LKindsLess
open Go Go.Proofs Go.RowKit Go.Proofs.YtaplgollkkpnaaaDoor.Xc Go.Proofs.YtaplgollkkpnaaaDoor.Bv Go.Proofs.YtaplgollkkpnaaaDoor.Ka Go.Proofs.YtaplgollkkpnaaaDoor.Kc Go.Proofs.YtaplgollkkpnaaaDoor.Kd Go.Proofs.YtaplgollkkpnaaaDoor.Ke Go.Proofs.YtaplgollkkpnaaaDoor.Kf Go.Proofs.YtaplgollkkpnaaaDoor.Kg Go.Proofs.YtaplgollkkpnaaaDoor.Kh
set_option linter.unusedVariables false
set_option linter.unusedSimpArgs false
theorem tw : TabOk Tryd.prog TW := by
  refine tab_runK good (by kernel_rfl) (fun vs K h => ?_) (tab_run good (by kernel_rfl) (fun vs K h => ?_) (tab_runK good (by kernel_rfl) (fun vs K h => ?_) (tab_runK good (by kernel_rfl) (fun vs K h => ?_) tab_nil)))
  · unfold cRt at h; split at h
    · rename_i k a b c d e f off id rg mp
      obtain ⟨⟨⟨h1, h2⟩, h3, h4⟩, h⟩ := h
      have o := rRi (id := id) (mp := mp) h1 h2 h3 h4 (fun q hq => h q hq)
      unfold Kd.nRi at o; exact ⟨TR, EEz, true, 90, tr, eez, o⟩
    · exact h.elim
  · unfold cTrue at h; split at h
    · have o := oWorks; unfold nWorks at o; exact ⟨_, h, [], EEz, false, 220, tab_nil, eez, o⟩
    · exact h.elim
  · unfold cHo at h; split at h
    · rename_i k a b c d e f off id rg mp vk vn vi len base of
      obtain ⟨⟨h1, ⟨h2, h3⟩, h4⟩, h⟩ := h
      have o := oHo1 (id := id) (K := K) h1 h2 h3 h4 (h _ rfl); unfold nHo1 at o; exact ⟨TH, EEz, true, 90, th, eez, o⟩
    · exact h.elim
  · unfold cWK at h; split at h
    · have o := oW (K := K) (h _ rfl); unfold nW at o; exact ⟨TV, EEz, true, 90, tv, eez, o⟩
    · exact h.elim
theorem inT_sub {a b a' b' v : Int} (ha : u6 a) (hb : u6 b) (hv : u6 v) (h1 : Go.bits .andNot .u64 b b' = 0) (h2 : Go.bits .andNot .u64 a b' = a') (h : Go.bits .andNot .u64 v b = a) : Go.bits .andNot .u64 v b' = a' := by
  subst h
  subst h2
  obtain ⟨B, rfl⟩ := exu hb
  obtain ⟨V, rfl⟩ := exu hv
  rw [show (0 : Int) = U 0#64 from rfl] at h1
  simp only [b_andNot, ofInt_U, U_inj] at h1 ⊢
  generalize BitVec.ofInt 64 b' = b at *
  apply BitVec.eq_of_getLsbD_eq; intro i hi
  have := congrArg (fun x : W => x.getLsbD i) h1
  simp only [BitVec.getLsbD_and, BitVec.getLsbD_not, BitVec.getLsbD_zero, hi, decide_true, Bool.true_and] at this ⊢
  generalize V.getLsbD i = p at *; generalize B.getLsbD i = q at *; generalize b.getLsbD i = r at *
  cases p <;> cases q <;> cases r <;> first | rfl | exact absurd this (by decide)
theorem wi_in {a b c d e f a' b' c' d' e' f' v : Int} (ha : u6 a) (hb : u6 b) (hv : u6 v) (h : wiB a b c d e f a' b' c' d' e' f' = true) (hi : inS a b c d e f v = true) : inS a' b' c' d' e' f' v = true := by
  unfold wiB at h
  unfold inS inT at hi ⊢
  simp only [Bool.and_eq_true, beq_iff_eq, decide_eq_true_eq] at h hi ⊢
  obtain ⟨⟨⟨h1, h2⟩, h3, h4⟩, h5, h6⟩ := h
  obtain ⟨⟨⟨⟨i1, i2⟩, i3⟩, i4⟩, i5⟩ := hi
  exact ⟨⟨⟨⟨inT_sub ha hb hv h1 h2 i1, by omega⟩, by omega⟩, by omega⟩, by omega⟩
theorem wi_self {a b c d e f : Int} (h : dj a b) : wiB a b c d e f a b c d e f = true := by
  obtain ⟨A, B, rfl, rfl, hd⟩ := h
  unfold wiB
  simp only [Bool.and_eq_true, beq_iff_eq, decide_eq_true_eq]
  refine ⟨⟨⟨?_, ?_⟩, by omega, by omega⟩, by omega, by omega⟩
  · rw [show (0 : Int) = U 0#64 from rfl]
    simp only [b_andNot, ofInt_U, U_inj]
    simp
  · simp only [b_andNot, ofInt_U, U_inj]
    apply BitVec.eq_of_getLsbD_eq; intro i hi
    have := congrArg (fun x : W => x.getLsbD i) hd
    simp only [BitVec.getLsbD_and, BitVec.getLsbD_not, BitVec.getLsbD_zero, hi, decide_true, Bool.true_and] at this ⊢
    generalize A.getLsbD i = p at *; generalize B.getLsbD i = q at *
    cases p <;> cases q <;> first | rfl | exact absurd this (by decide)
theorem wI_small {x : Int} (h1 : -100000 ≤ x) (h2 : x ≤ 100000) : IntKind.wrap .i64 x = x := by
  simp [IntKind.wrap, IntKind.signed, IntKind.bits]; split <;> omega
theorem less {k a b c d e f off id rg mp k' a' b' c' d' e' f' off' id' rg' mp' vk vn vi len base of : Int} (ha : u6 a) (hb : u6 b) (hv : u6 vn) (hba : u6 base) (hr : 0 ≤ rg ∧ rg ≤ 65535) (hr' : 0 ≤ rg' ∧ rg' ≤ 65535) (hl : 0 ≤ len ∧ len ≤ 65535)
    (hw : wkB k a b c d e f off id rg mp k' a' b' c' d' e' f' off' id' rg' mp' = true) (hh : hoB k a b c d e f off rg mp vk vn vi len base of = true) : hoB k' a' b' c' d' e' f' off' rg' mp' vk vn vi len base of = true := by
  unfold wkB at hw
  by_cases q0 : k' = 0
  · unfold hoB; rw [if_pos q0]
  rw [if_neg q0] at hw
  by_cases q1 : k' = 1
  · rw [if_pos q1] at hw
    simp only [Bool.and_eq_true, beq_iff_eq] at hw
    obtain ⟨rfl, hw⟩ := hw
    subst q1
    simp only [hoB, if_neg q0, ite_true, Bool.and_eq_true, beq_iff_eq] at hh ⊢
    exact ⟨hh.1, wi_in ha hb hv hw hh.2⟩
  rw [if_neg q1] at hw
  by_cases q2 : k' = 2
  · rw [if_pos q2] at hw
    simp only [Bool.and_eq_true, beq_iff_eq, decide_eq_true_eq] at hw
    obtain ⟨rfl, rfl, rfl, hw, hg⟩ := hw
    subst q2
    simp only [hoB, if_neg q0, if_neg q1, ite_true, Bool.and_eq_true, Bool.or_eq_true, beq_iff_eq, decide_eq_true_eq] at hh ⊢
    obtain ⟨⟨h1, h2⟩, h3⟩ := hh
    refine ⟨⟨h1, wi_in ha hb hba hw h2⟩, ?_⟩
    rw [wI_small (by omega) (by omega), uW] at h3 ⊢
    omega
  rw [if_neg q2] at hw
  by_cases q3 : k' = 3
  · rw [if_pos q3] at hw
    have hw := beq_iff_eq.mp hw
    subst hw; subst q3
    exact hh
  rw [if_neg q3] at hw
  by_cases q4 : k' = 4
  · rw [if_pos q4] at hw
    simp only [Bool.and_eq_true, beq_iff_eq] at hw
    obtain ⟨rfl, rfl⟩ := hw
    subst q4
    exact hh
  rw [if_neg q4] at hw
  by_cases q5 : k' = 5
  · rw [if_pos q5] at hw
    simp only [Bool.and_eq_true, beq_iff_eq] at hw
    obtain ⟨rfl, rfl⟩ := hw
    subst q5
    exact hh
  rw [if_neg q5] at hw
  by_cases q6 : k' = 6
  · rw [if_pos q6] at hw
    simp only [Bool.and_eq_true, beq_iff_eq] at hw
    obtain ⟨rfl, rfl, rfl, hw⟩ := hw
    subst q6
    simp only [hoB, if_neg q0, if_neg q1, if_neg q2, if_neg q3, if_neg q4, if_neg q5, ite_true, Bool.and_eq_true, beq_iff_eq] at hh ⊢
    exact ⟨hh.1, wi_in ha hb (u6_w _) hw hh.2⟩
  rw [if_neg q6] at hw
  by_cases q7 : k' = 7
  · rw [if_pos q7] at hw
    simp only [Bool.and_eq_true, beq_iff_eq] at hw
    obtain ⟨rfl, rfl, rfl⟩ := hw
    subst q7
    exact hh
  rw [if_neg q7] at hw
  by_cases q8 : k' = 8
  · rw [if_pos q8] at hw
    simp only [Bool.and_eq_true, beq_iff_eq] at hw
    obtain ⟨rfl, rfl⟩ := hw
    subst q8
    exact hh
  rw [if_neg q8] at hw
  exact absurd hw (by decide)
theorem self {k a b c d e f off id rg mp : Int} (h : dj a b) (h0 : 0 ≤ k) (h8 : k ≤ 8) : wkB k a b c d e f off id rg mp k a b c d e f off id rg mp = true := by
  have hw := wi_self (c := c) (d := d) (e := e) (f := f) h
  unfold wkB
  rw [hw]
  have : k = 0 ∨ k = 1 ∨ k = 2 ∨ k = 3 ∨ k = 4 ∨ k = 5 ∨ k = 6 ∨ k = 7 ∨ k = 8 := by omega
  rcases this with rfl | rfl | rfl | rfl | rfl | rfl | rfl | rfl | rfl <;> simp
theorem oLaw {k a b c d e f off id rg mp k' a' b' c' d' e' f' off' id' rg' mp' vk vn vi len base of : Int} (ha : u6 a) (hb : u6 b) (hc : u6 c) (hd : u6 d) (ha' : u6 a') (hb' : u6 b') (hc' : u6 c') (hd' : u6 d') (hv : u6 vn) (hba : u6 base) (ho : i6 off) (ho' : i6 off') :
    nLaw k a b c d e f off id rg mp k' a' b' c' d' e' f' off' id' rg' mp' vk vn vi len base of (· = .bool true) := by
  rw [nLaw_eq]
  refine ⟨⟨⟨ha, hb⟩, hc, hd⟩, fun x hx => ?_⟩
  repeat (first | with_reducible refine ob_self ?_ | with_reducible refine ob_true ?_ | ((with_reducible refine nm_intro ?_); intro r hr; subst hr))
  refine ⟨⟨⟨ha', hb'⟩, hc', hd'⟩, fun x' hx' => ?_⟩
  repeat (first | with_reducible refine ob_self ?_ | with_reducible refine ob_true ?_ | ((with_reducible refine nm_intro ?_); intro r hr; subst hr))
  refine br_cases (fun _ => rfl) (fun q => ?_)
  simp only [Bool.cond_true_left, Bool.or_eq_false_iff, Bool.not_eq_false', decide_eq_false_iff_not] at q
  obtain ⟨⟨⟨q1, q2⟩, q3⟩, q4⟩ := q
  have R := hx q1
  have R' := hx' q2
  have hdj := R.dj
  have hdj' := R'.dj
  refine nm_intro (fun w hw => ?_)
  repeat (first | with_reducible refine ob_self ?_ | with_reducible refine ob_true ?_)
  refine ⟨⟨hdj, ⟨hv, hba⟩, ho⟩, ?_⟩
  refine nm_intro (fun s hs => ?_)
  repeat (first | with_reducible refine ob_self ?_ | with_reducible refine ob_true ?_ | ((with_reducible refine nm_intro ?_); intro r hr; subst hr))
  refine ⟨⟨hdj', ⟨hv, hba⟩, ho'⟩, ?_⟩
  refine nm_intro (fun s' hs' => ?_)
  repeat (first | with_reducible refine ob_self ?_ | with_reducible refine ob_true ?_ | ((with_reducible refine nm_intro ?_); intro r hr; subst hr))
  refine br_no ?_ ?_
  · subst hw; subst hs; subst hs'
    cases hw : wkB k a b c d e f off id rg mp k' a' b' c' d' e' f' off' id' rg' mp' with
    | false => rfl
    | true =>
      cases hh : hoB k a b c d e f off rg mp vk vn vi len base of with
      | false => rfl
      | true => rw [less ha hb hv hba ⟨R.r1, R.r2⟩ ⟨R'.r1, R'.r2⟩ ⟨by omega, by omega⟩ hw hh]; rfl
  repeat (first | with_reducible refine ob_self ?_ | with_reducible refine ob_true ?_ | ((with_reducible refine nm_intro ?_); intro r hr; subst hr))
  have e0 : wkB k a b c d e f off id rg mp 0 0 0 0 0 0 0 0 0 0 0 = true := if_pos rfl
  rw [e0]
  by_cases h0 : 0 ≤ k
  · by_cases h8 : k ≤ 8
    · rw [self hdj h0 h8]; simp
    · simp [h8]
  · simp [h0]
theorem wu {x : Int} (h : (Lit.int .u64 x).wf = true) : u6 x := by
  simp [Lit.wf, IntKind.min, IntKind.max, IntKind.signed, IntKind.bits] at h
  unfold u6; omega
theorem wi {x : Int} (h : (Lit.int .i64 x).wf = true) : i6 x := by
  simp [Lit.wf, IntKind.min, IntKind.max, IntKind.signed, IntKind.bits] at h
  unfold i6; omega
theorem calls (k a b c d e f off id rg mp k' a' b' c' d' e' f' off' id' rg' mp' vk vn vi len base of : Int) (_ : (Lit.int .i64 k).wf = true) (h0 : (Lit.int .u64 a).wf = true) (h1 : (Lit.int .u64 b).wf = true) (h2 : (Lit.int .u64 c).wf = true) (h3 : (Lit.int .u64 d).wf = true) (_ : (Lit.int .i64 e).wf = true) (_ : (Lit.int .i64 f).wf = true) (h4 : (Lit.int .i64 off).wf = true) (_ : (Lit.int .i64 id).wf = true) (_ : (Lit.int .i64 rg).wf = true) (_ : (Lit.int .i64 mp).wf = true)
    (_ : (Lit.int .i64 k').wf = true) (h0' : (Lit.int .u64 a').wf = true) (h1' : (Lit.int .u64 b').wf = true) (h2' : (Lit.int .u64 c').wf = true) (h3' : (Lit.int .u64 d').wf = true) (_ : (Lit.int .i64 e').wf = true) (_ : (Lit.int .i64 f').wf = true) (h4' : (Lit.int .i64 off').wf = true) (_ : (Lit.int .i64 id').wf = true) (_ : (Lit.int .i64 rg').wf = true) (_ : (Lit.int .i64 mp').wf = true)
    (_ : (Lit.int .i64 vk).wf = true) (h5 : (Lit.int .u64 vn).wf = true) (_ : (Lit.int .i64 vi).wf = true) (_ : (Lit.int .i64 len).wf = true) (h6 : (Lit.int .u64 base).wf = true) (_ : (Lit.int .i64 of).wf = true) (W : World) (hI : I W) :
    Calls Tryd.prog 3 #[Rg k a b c d e f off id rg mp, Rg k' a' b' c' d' e' f' off' id' rg' mp', Vl vk vn vi, .int .i64 len, .int .u64 base, .int .i64 of] W (fun e W' => e = .returned (.bool true) ∧ Below W.heap.size W W') := by
  have o := oLaw (k := k) (e := e) (f := f) (id := id) (rg := rg) (mp := mp) (k' := k') (e' := e') (f' := f') (id' := id') (rg' := rg') (mp' := mp') (vk := vk) (vi := vi) (len := len) (of := of) (wu h0) (wu h1) (wu h2) (wu h3) (wu h0') (wu h1') (wu h2') (wu h3') (wu h5) (wu h6) (wi h4) (wi h4')
  unfold nLaw at o
  exact calls_runI good tw eez o W hI
end Go.Proofs.YtaplgollkkpnaaaDoor.LKindsLess
