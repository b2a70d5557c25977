/- Layer 5: what Branch comes to. -/
import Derived.Test.YtceclodenhgoeaaScAc
namespace Go.Proofs.Ytceclodenhgoeaa.ScAd
open Go Go.RowKit Go.Proofs Go.Proofs.Ytceclodenhgoeaa.Xc Go.Proofs.Ytceclodenhgoeaa.Sc Go.Proofs.Ytceclodenhgoeaa.ScS Go.Proofs.Ytceclodenhgoeaa.ScG Go.Proofs.Ytceclodenhgoeaa.ScP Go.Proofs.Ytceclodenhgoeaa.ScV Go.Proofs.Ytceclodenhgoeaa.ScY Go.Proofs.Ytceclodenhgoeaa.ScZ Go.Proofs.Ytceclodenhgoeaa.ScAa Go.Proofs.Ytceclodenhgoeaa.ScAb Go.Proofs.Ytceclodenhgoeaa.ScAc
set_option linter.unusedVariables false
set_option linter.unusedSimpArgs false
structure BrP (op : Int) (wide taken : Bool) (a b c d e f a' b' c' d' e' f' p q r s t u p' q' r' s' t' u' : Int) (ok : Bool) : Prop where
  bad : jok op = false → ok = true ∧ (p = a ∧ q = b ∧ r = c ∧ s = d ∧ t = e ∧ u = f) ∧ (p' = a' ∧ q' = b' ∧ r' = c' ∧ s' = d' ∧ t' = e' ∧ u' = f')
  i : ∀ x y, uu x → uu y → inS a b c d e f x → inS a' b' c' d' e' f' y → jdo op wide x y = taken ∨ jok op = false → ok = true ∧ inS p q r s t u x ∧ inS p' q' r' s' t' u' y
  w : ok = true → (MayS p q r s t u ∧ Wi p q r s t u a b c d e f) ∧ (MayS p' q' r' s' t' u' ∧ Wi p' q' r' s' t' u' a' b' c' d' e' f')
  n : ok = false → (p = 0 ∧ q = 0 ∧ r = 0 ∧ s = 0 ∧ t = 0 ∧ u = 0) ∧ (p' = 0 ∧ q' = 0 ∧ r' = 0 ∧ s' = 0 ∧ t' = 0 ∧ u' = 0)
  x : jok op = true → c = d → c' = d' → jdo op wide c c' ≠ taken → ok = false
theorem jd_plain (op x y s t s' t' : Int) (h1 : op ≠ 6) (h2 : op ≠ 7) (h3 : op ≠ 12) (h4 : op ≠ 13) : jd op x y s t = jd op x y s' t' := by
  unfold jd; simp only [h1, h2, h3, h4, if_false]
theorem jdo_small {op x y : Int} (hx : uu x) (hy : uu y) (h1 : x < 4294967296) (h2 : y < 4294967296) (h : (op ≠ 6 ∧ op ≠ 7 ∧ op ≠ 12 ∧ op ≠ 13) ∨ (x < 2147483648 ∧ y < 2147483648)) : jdo op false x y = jdo op true x y := by
  have ex : x % 4294967296 = x := by unfold uu at hx; omega
  have ey : y % 4294967296 = y := by unfold uu at hy; omega
  unfold jdo
  simp only [jx, cond_true, cond_false, ex, ey]
  rcases h with ⟨k1, k2, k3, k4⟩ | ⟨k1, k2⟩
  · exact jd_plain _ _ _ _ _ _ _ k1 k2 k3 k4
  · have a1 : jy false x = jy true x := by simp only [jy, cond_true, cond_false, sw_eq]; unfold uu at hx; omega
    have a2 : jy false y = jy true y := by simp only [jy, cond_true, cond_false, sw_eq]; unfold uu at hy; omega
    rw [a1, a2]
theorem wi_trans {a b c d e f p q r s t u p' q' r' s' t' u' : Int} (h1 : Wi p q r s t u a b c d e f) (h2 : Wi p' q' r' s' t' u' p q r s t u) : Wi p' q' r' s' t' u' a b c d e f := by
  obtain ⟨w1, w2, w3, w4, w5, w6⟩ := h1
  obtain ⟨z1, z2, z3, z4, z5, z6⟩ := h2
  exact ⟨sub_trans z1 w1, by rw [← ScX.aN_sub p' q b w1, z2, w2], by omega, by omega, by omega, by omega⟩
section
variable {op : Int} {wide taken : Bool} {a b c d e f a' b' c' d' e' f' : Int}
theorem and_b {p q : Bool} (h : true = bif p then q else false) : p = true ∧ q = true := by
  cases p <;> cases q <;> first | exact ⟨rfl, rfl⟩ | cases h
theorem or_b {p q : Bool} (h : false = bif p then true else q) : p = false ∧ q = false := by
  cases p <;> cases q <;> first | exact ⟨rfl, rfl⟩ | cases h
theorem br_same (M : MayS a b c d e f) (M' : MayS a' b' c' d' e' f') (h : jok op = true → c = d → c' = d' → jdo op wide c c' ≠ taken → False) : BrP op wide taken a b c d e f a' b' c' d' e' f' a b c d e f a' b' c' d' e' f' true :=
  ⟨fun _ => ⟨rfl, ⟨rfl, rfl, rfl, rfl, rfl, rfl⟩, rfl, rfl, rfl, rfl, rfl, rfl⟩, fun x y _ _ h1 h2 _ => ⟨rfl, h1, h2⟩, fun _ => ⟨⟨M, wi_refl M⟩, M', wi_refl M'⟩, fun h => (by cases h), fun h1 h2 h3 h4 => (h h1 h2 h3 h4).elim⟩
theorem br_none (hj : jok op = true) (h : ∀ x y, uu x → uu y → inS a b c d e f x → inS a' b' c' d' e' f' y → jdo op wide x y = taken → False) : BrP op wide taken a b c d e f a' b' c' d' e' f' 0 0 0 0 0 0 0 0 0 0 0 0 false :=
  ⟨fun k => (by rw [hj] at k; cases k), fun x y hx hy h1 h2 h3 => (h x y hx hy h1 h2 (h3.resolve_right (by rw [hj]; exact fun k => by cases k))).elim, fun h => (by cases h), fun _ => ⟨⟨rfl, rfl, rfl, rfl, rfl, rfl⟩, rfl, rfl, rfl, rfl, rfl, rfl⟩, fun _ _ _ _ => rfl⟩
end
theorem rBranch (op : Int) (wide taken : Bool) (a b c d e f a' b' c' d' e' f' : Int) (K : Value → Prop) (M : MayS a b c d e f) (M' : MayS a' b' c' d' e' f')
    (h : ∀ p q r s t u p' q' r' s' t' u' ok, BrP op wide taken a b c d e f a' b' c' d' e' f' p q r s t u p' q' r' s' t' u' ok → K (.tuple #[Sc p q r s t u, Sc p' q' r' s' t' u', .bool ok])) : nBranch op wide taken a b c d e f a' b' c' d' e' f' K := by
  rw [nBranch_eq]
  intro v one hI w two hJ
  refine ⟨⟨hI.r M.ra M.rc, hJ.r M'.ra M'.rc⟩, fun does hd ok hok => br_cases (fun q => ?_) (fun q => ?_)⟩
  · have q : jok op = false := by rw [← hok]; simpa using q
    exact h _ _ _ _ _ _ _ _ _ _ _ _ _ (br_same M M' (fun k => by rw [q] at k; cases k))
  have hj : jok op = true := by rw [← hok]; simpa using q
  clear hok q
  (repeat (first | refine ob_self ?_ | refine ob_true ?_ | (refine nm_intro ?_; intro _ _)))
  rename_i r2 h2 r3 h3
  refine br_cases (fun q3 => ?_) (fun q3 => ?_)
  · refine h _ _ _ _ _ _ _ _ _ _ _ _ _ (br_same M M' (fun _ e1 e2 hn => ?_))
    have k1 := (hI.l e1).2
    have k2 := (hJ.l e2).2
    subst h3; subst h2
    rw [← k1, ← k2, ← hd] at hn
    have : does = taken := by cases one <;> cases two <;> simp_all
    exact hn this
  (repeat (first | refine ob_self ?_ | refine ob_true ?_ | (refine nm_intro ?_; intro _ _)))
  rename_i r4 h4
  refine br_cases (fun q4 => ?_) (fun q4 => ?_)
  · have k : one = true ∧ two = true := by subst h4; cases one <;> cases two <;> simp_all
    have hn : does ≠ taken := by
      subst h3; subst h2
      intro e
      rw [k.1, k.2, e] at q3; simp at q3
    refine h _ _ _ _ _ _ _ _ _ _ _ _ _ (br_none hj fun x y hx hy hi hj hq => ?_)
    obtain rfl := hI.i k.1 x hx hi
    obtain rfl := hJ.i k.2 y hy hj
    exact hn (hd.trans hq)
  have nb : ¬ (c = d ∧ c' = d') := fun ⟨e1, e2⟩ => by
    have k1 := (hI.l e1).1
    have k2 := (hJ.l e2).1
    rw [k1, k2] at h4
    rw [h4] at q4; cases q4
  clear q4 h4 r4 q3 h3 r3 h2 r2
  (repeat (first | refine ob_self ?_ | refine ob_true ?_ | (refine nm_intro ?_; intro _ _)))
  rename_i s1 hs1 s2 hs2 sg hsg m1 hm1 l1 hl1 g1 hg1 wa hwa m2 hm2 l2 hl2 g2 hg2 wb hwb sm hsm li hli sn hsn no hno
  refine br_cases (fun q5 => ?_) (fun q5 => ?_)
  · exact h _ _ _ _ _ _ _ _ _ _ _ _ _ (br_same M M' (fun _ e1 e2 _ => nb ⟨e1, e2⟩))
  have small : wide = true ∨ (d < 4294967296 ∧ d' < 4294967296 ∧ ((op ≠ 6 ∧ op ≠ 7 ∧ op ≠ 12 ∧ op ≠ 13) ∨ (d < 2147483648 ∧ d' < 2147483648))) := by
    cases wide with
    | true => exact Or.inl rfl
    | false =>
      have e1 : sn = true := by rw [hno] at q5; simpa using q5
      have e2 : sm = true ∧ li = true := and_b (by rw [e1] at hsn; exact hsn)
      have e3 : wa = true ∧ wb = true := and_b (by rw [e2.1] at hsm; exact hsm)
      obtain ⟨e4, e5⟩ := e3
      rw [e4] at hwa; rw [e5] at hwb; rw [e2.2] at hli
      have hwa := of_decide_eq_true hwa.symm
      have hwb := of_decide_eq_true hwb.symm
      refine Or.inr ⟨by omega, by omega, ?_⟩
      cases hsg' : sg with
      | false =>
        rw [hsg'] at hsg
        refine Or.inl ?_
        have g1 := or_b hsg
        have g2 := or_b (by rw [g1.1] at hs2; exact hs2)
        have g3 := or_b (by rw [g2.1] at hs1; exact hs1)
        exact ⟨beq_eq_false_iff_ne.1 g3.1, beq_eq_false_iff_ne.1 g3.2, beq_eq_false_iff_ne.1 g2.2, beq_eq_false_iff_ne.1 g1.2⟩
      | true =>
        rw [hsg'] at hli
        have hli : (if d' > d then d' else d) < 2147483648 := of_decide_eq_true hli.symm
        rw [mx] at hli
        exact Or.inr (by omega)
  clear hno hsn hli hsm hwa hwb hsg hs2 hs1 hm1 hm2 hl1 hl2 hg1 hg2 q5
  refine ⟨⟨hj, M, M'⟩, fun p q r s t u p' q' r' s' t' u' ok1 hL => ?_⟩
  have hL' : ∀ x y, uu x → uu y → inS a b c d e f x → inS a' b' c' d' e' f' y → jdo op wide x y = taken → ok1 = true ∧ inS p q r s t u x ∧ inS p' q' r' s' t' u' y := fun x y hx hy hi hj' hq => by
    refine hL.i x y hx hy hi hj' ?_
    show jdo op true x y = taken
    rcases small with k | ⟨k1, k2, k3⟩
    · rw [← k]; exact hq
    · cases wide with
      | true => exact hq
      | false =>
        have b1 := hi.2.1.2
        have b2 := hj'.2.1.2
        rw [← jdo_small hx hy (by omega) (by omega) (k3.imp id (fun k => ⟨by omega, by omega⟩))]; exact hq
  refine br_cases (fun q6 => ?_) (fun q6 => h _ _ _ _ _ _ _ _ _ _ _ _ _ (br_none hj fun x y hx hy hi hj hq => ?_))
  · obtain ⟨⟨N, wi⟩, N', wi'⟩ := hL.w q6
    refine ⟨N, fun p2 q2 r2 s2 t2 u2 ok2 hN => br_cases (fun q7 => ?_) (fun q7 => h _ _ _ _ _ _ _ _ _ _ _ _ _ (br_none hj fun x y hx hy hi hj hq => ?_))⟩
    · refine ⟨N', fun p3 q3 r3 s3 t3 u3 ok3 hN' => br_cases (fun q8 => ?_) (fun q8 => h _ _ _ _ _ _ _ _ _ _ _ _ _ (br_none hj fun x y hx hy hi hj hq => ?_))⟩
      · refine h _ _ _ _ _ _ _ _ _ _ _ _ _ ⟨fun k => (by rw [hj] at k; cases k), fun x y hx hy hi hj' hq => ?_, fun _ => ?_, fun h => (by cases h), fun _ e1 e2 _ => (nb ⟨e1, e2⟩).elim⟩
        · obtain ⟨_, k1, k2⟩ := hL' x y hx hy hi hj' (hq.resolve_right (by rw [hj]; exact fun k => by cases k))
          exact ⟨rfl, (hN.i x hx k1).2, (hN'.i y hy k2).2⟩
        · exact ⟨⟨(hN.w q7).2, wi_trans wi (hN.w q7).1⟩, (hN'.w q8).2, wi_trans wi' (hN'.w q8).1⟩
      · obtain ⟨_, k1, k2⟩ := hL' x y hx hy hi hj hq
        have := (hN'.i y hy k2).1
        rw [q8] at this; cases this
    · obtain ⟨_, k1, k2⟩ := hL' x y hx hy hi hj hq
      have := (hN.i x hx k1).1
      rw [q7] at this; cases this
  · have := (hL' x y hx hy hi hj hq).1
    rw [q6] at this; cases this
open Go.Proofs.Ytceclodenhgoeaa.ScB Go.Proofs.Ytceclodenhgoeaa.ScF Go.Proofs.Ytceclodenhgoeaa.ScO
theorem tbr : TabOk Try.prog TBr := by
  refine tab_runK good (by kernel_rfl) (fun vs K h => ?_) (tab_runK good (by kernel_rfl) (fun vs K h => ?_) (tab_run good (by kernel_rfl) (fun vs K h => ?_) (tab_run good (by kernel_rfl) (fun vs K h => ?_) (tab_runK good (by kernel_rfl) (fun vs K h => ?_) (tab_runK good (by kernel_rfl) (fun vs K h => ?_) tab_nil)))))
  all_goals split at h
  all_goals try exact h.elim
  · rename_i a b c d e f
    have o := rIs a b c d e f K h
    unfold nIs at o; exact ⟨[], EE, true, 90, tab_nil, ee, o⟩
  · rename_i op wide a b
    obtain ⟨⟨h1, h2⟩, h⟩ := h
    have o := rJump op wide a b K h1 h2 (h _ rfl _ rfl)
    unfold nJump at o; exact ⟨TJ, EE, true, 90, tj, ee, o⟩
  · rename_i a b c d e f a' b' c' d' e' f'
    have o := oWithin a b c d e f a' b' c' d' e' f'; unfold nWithin at o; exact ⟨_, h _ rfl, [], EE, true, 90, tab_nil, ee, o⟩
  · rename_i n
    have o := oUpto n; unfold nUpto at o; exact ⟨_, h _ rfl _ rfl _ rfl, [], EE, true, 90, tab_nil, ee, o⟩
  · rename_i op taken a b c d e f a' b' c' d' e' f'
    obtain ⟨⟨hj, M, M'⟩, h⟩ := h
    have hj := of_decide_eq_true hj
    have key : ∃ gm, run Try.prog TLs EE gm 90 28 [.int .i64 op, .bool taken, Sc a b c d e f, Sc a' b' c' d' e' f'] K := by
      rcases hj with rfl | rfl | rfl | rfl | rfl | rfl | rfl | rfl | rfl | rfl | rfl <;> cases taken
      · have o := rL1f a b c d e f a' b' c' d' e' f' K M M' h
        unfold nL1f at o; exact ⟨_, o⟩
      · have o := rL1t a b c d e f a' b' c' d' e' f' K M M' h
        unfold nL1t at o; exact ⟨_, o⟩
      · have o := rL2f a b c d e f a' b' c' d' e' f' K M M' h
        unfold nL2f at o; exact ⟨_, o⟩
      · have o := rL2t a b c d e f a' b' c' d' e' f' K M M' h
        unfold nL2t at o; exact ⟨_, o⟩
      · have o := rL3f a b c d e f a' b' c' d' e' f' K M M' h
        unfold nL3f at o; exact ⟨_, o⟩
      · have o := rL3t a b c d e f a' b' c' d' e' f' K M M' h
        unfold nL3t at o; exact ⟨_, o⟩
      · have o := rL4f a b c d e f a' b' c' d' e' f' K M M' h
        unfold nL4f at o; exact ⟨_, o⟩
      · have o := rL4t a b c d e f a' b' c' d' e' f' K M M' h
        unfold nL4t at o; exact ⟨_, o⟩
      · have o := rL5f a b c d e f a' b' c' d' e' f' K M M' h
        unfold nL5f at o; exact ⟨_, o⟩
      · have o := rL5t a b c d e f a' b' c' d' e' f' K M M' h
        unfold nL5t at o; exact ⟨_, o⟩
      · have o := rL6f a b c d e f a' b' c' d' e' f' K M M' h
        unfold nL6f at o; exact ⟨_, o⟩
      · have o := rL6t a b c d e f a' b' c' d' e' f' K M M' h
        unfold nL6t at o; exact ⟨_, o⟩
      · have o := rL7f a b c d e f a' b' c' d' e' f' K M M' h
        unfold nL7f at o; exact ⟨_, o⟩
      · have o := rL7t a b c d e f a' b' c' d' e' f' K M M' h
        unfold nL7t at o; exact ⟨_, o⟩
      · have o := rL10f a b c d e f a' b' c' d' e' f' K M M' h
        unfold nL10f at o; exact ⟨_, o⟩
      · have o := rL10t a b c d e f a' b' c' d' e' f' K M M' h
        unfold nL10t at o; exact ⟨_, o⟩
      · have o := rL11f a b c d e f a' b' c' d' e' f' K M M' h
        unfold nL11f at o; exact ⟨_, o⟩
      · have o := rL11t a b c d e f a' b' c' d' e' f' K M M' h
        unfold nL11t at o; exact ⟨_, o⟩
      · have o := rL12f a b c d e f a' b' c' d' e' f' K M M' h
        unfold nL12f at o; exact ⟨_, o⟩
      · have o := rL12t a b c d e f a' b' c' d' e' f' K M M' h
        unfold nL12t at o; exact ⟨_, o⟩
      · have o := rL13f a b c d e f a' b' c' d' e' f' K M M' h
        unfold nL13f at o; exact ⟨_, o⟩
      · have o := rL13t a b c d e f a' b' c' d' e' f' K M M' h
        unfold nL13t at o; exact ⟨_, o⟩
    obtain ⟨gm, o⟩ := key
    exact ⟨TLs, EE, gm, 90, tls, ee, o⟩
  · rename_i a b c d e f
    obtain ⟨M, h⟩ := h
    have o := rNorm a b c d e f K M h
    unfold nNorm at o; exact ⟨TN, EE, true, 90, tn, ee, o⟩
end Go.Proofs.Ytceclodenhgoeaa.ScAd
