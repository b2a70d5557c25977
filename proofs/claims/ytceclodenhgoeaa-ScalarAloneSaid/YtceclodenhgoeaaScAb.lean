/- Layer 5: what jumps teach. -/
import Derived.Test.YtceclodenhgoeaaScAa
namespace Go.Proofs.Ytceclodenhgoeaa.ScAb
open Go Go.RowKit Go.Proofs Go.Proofs.Ytceclodenhgoeaa.Xc Go.Proofs.Ytceclodenhgoeaa.Sc Go.Proofs.Ytceclodenhgoeaa.ScS Go.Proofs.Ytceclodenhgoeaa.ScG Go.Proofs.Ytceclodenhgoeaa.ScP Go.Proofs.Ytceclodenhgoeaa.ScV Go.Proofs.Ytceclodenhgoeaa.ScY Go.Proofs.Ytceclodenhgoeaa.ScZ Go.Proofs.Ytceclodenhgoeaa.ScAa Go.Proofs.Ytceclodenhgoeaa.Bv
set_option linter.unusedVariables false
set_option linter.unusedSimpArgs false
structure Tu (R : Int → Prop) (a b c d e f p q r s t u : Int) (ok : Bool) : Prop where
  i : ∀ x, uu x → inS a b c d e f x → R x → ok = true ∧ inS p q r s t u x
  w : ok = true → MayS p q r s t u ∧ Wi p q r s t u a b c d e f
structure LP (rel : Int → Int → Prop) (a b c d e f a' b' c' d' e' f' p q r s t u p' q' r' s' t' u' : Int) (ok : Bool) : Prop where
  i : ∀ x y, uu x → uu y → inS a b c d e f x → inS a' b' c' d' e' f' y → rel x y → ok = true ∧ inS p q r s t u x ∧ inS p' q' r' s' t' u' y
  w : ok = true → (MayS p q r s t u ∧ Wi p q r s t u a b c d e f) ∧ (MayS p' q' r' s' t' u' ∧ Wi p' q' r' s' t' u' a' b' c' d' e' f')
section
variable {R R1 R2 : Int → Prop} {rel : Int → Int → Prop} {a b c d e f a' b' c' d' e' f' p q r s t u p' q' r' s' t' u' : Int} {ok ok1 ok2 : Bool}
theorem wi_refl (M : MayS a b c d e f) : Wi a b c d e f a b c d e f := ⟨aN_self b, M.m, by omega, by omega, by omega, by omega⟩
theorem tu_id (M : MayS a b c d e f) : Tu R a b c d e f a b c d e f true := ⟨fun x _ hi _ => ⟨rfl, hi⟩, fun _ => ⟨M, wi_refl M⟩⟩
theorem tu_wo {v : Int} (hv : uu v) (M : MayS a b c d e f) (h : WoP a b c d e f v c' d' e' f' ok) : Tu (· ≠ v) a b c d e f a b c' d' e' f' ok :=
  ⟨fun x hx hi hn => h.s hv M x hx hi hn, fun hok => ⟨(h.w hv M hok).2, aN_self b, M.m, (h.w hv M hok).1⟩⟩
theorem tu_cl {w : Int} (hv : uu w) (M : MayS a b c d e f) (h : ClP a b w a' b' ok) : Tu (fun x => Go.bits .and .u64 x w = 0) a b c d e f a' b' c d e f ok :=
  ⟨fun x hx hi h0 => ⟨(h.s hv x hx hi.1 h0).1, (h.s hv x hx hi.1 h0).2, hi.2⟩, fun hok => by
    obtain ⟨h1, h2, h3, h4, h5⟩ := h.w hv M.m hok
    exact ⟨⟨h3, M.u, M.s, h4, h5, M.rc, M.rd, M.re, M.rf⟩, h1, h2, by omega, by omega, by omega, by omega⟩⟩
theorem lp_tu (h1 : Tu R1 a b c d e f p q r s t u ok1) (h2 : Tu R2 a' b' c' d' e' f' p' q' r' s' t' u' ok2) (h : ∀ x y, uu x → uu y → inS a b c d e f x → inS a' b' c' d' e' f' y → rel x y → R1 x ∧ R2 y) :
    LP rel a b c d e f a' b' c' d' e' f' p q r s t u p' q' r' s' t' u' (bif ok1 then ok2 else false) := by
  refine ⟨fun x y hx hy hi hj hr => ?_, fun hok => ?_⟩
  · obtain ⟨k1, k2⟩ := h x y hx hy hi hj hr
    obtain ⟨a1, a2⟩ := h1.i x hx hi k1
    obtain ⟨b1, b2⟩ := h2.i y hy hj k2
    exact ⟨by rw [a1, b1]; rfl, a2, b2⟩
  · cases ok1 <;> cases ok2 <;> first | exact ⟨h1.w rfl, h2.w rfl⟩ | cases hok
theorem lp_mt (M : MayS a b c d e f) (M' : MayS a' b' c' d' e' f') (hm : MtP a b c d e f a' b' c' d' e' f' p q r s t u ok) (h : ∀ x y, rel x y → x = y) : LP rel a b c d e f a' b' c' d' e' f' p q r s t u p q r s t u ok :=
  ⟨fun x y hx hy hi hj hr => by
    obtain rfl := h x y hr
    obtain ⟨k1, k2⟩ := hm.i x hx hi hj
    exact ⟨k1, k2, k2⟩, fun hok => by
    obtain ⟨k1, k2, k3⟩ := hm.w M M' hok
    exact ⟨⟨k1, k2⟩, k1, k3⟩⟩
theorem lp_u {same : Bool} {h l : Int} (M : MayS a b c d e f) (M' : MayS a' b' c' d' e' f') (hb : BlP same c d c' d' h l ok) (hr : ∀ x y, uu x → uu y → rel x y → x < y ∨ same = true ∧ x = y) : LP rel a b c d e f a' b' c' d' e' f' a b c h e f a' b' l d' e' f' ok := by
  refine ⟨fun x y hx hy hi hj hq => ?_, fun hok => ?_⟩
  · obtain ⟨i1, i2, i3⟩ := hi
    obtain ⟨j1, j2, j3⟩ := hj
    obtain ⟨k1, k2, k3⟩ := hb.s x y i2.1 i2.2 j2.1 j2.2 (hr x y hx hy hq)
    exact ⟨k1, ⟨i1, ⟨i2.1, k2⟩, i3⟩, j1, ⟨k3, j2.2⟩, j3⟩
  · obtain ⟨k1, k2, k3, k4⟩ := hb.w hok M.u M'.u
    have := M.rc; have := M.rd; have := M'.rc; have := M'.rd
    unfold uu at *
    refine ⟨⟨⟨M.m, by omega, M.s, M.ra, M.rb, M.rc, ?_, M.re, M.rf⟩, aN_self b, M.m, by omega, by omega, by omega, by omega⟩, ⟨M'.m, by omega, M'.s, M'.ra, M'.rb, ?_, M'.rd, M'.re, M'.rf⟩, aN_self b', M'.m, by omega, by omega, by omega, by omega⟩ <;> (unfold uu; omega)
theorem lp_s {same : Bool} {h l : Int} (M : MayS a b c d e f) (M' : MayS a' b' c' d' e' f') (hb : BlP same e f e' f' h l ok) (hr : ∀ x y, uu x → uu y → rel x y → sw x < sw y ∨ same = true ∧ sw x = sw y) : LP rel a b c d e f a' b' c' d' e' f' a b c d e h a' b' c' d' l f' ok := by
  refine ⟨fun x y hx hy hi hj hq => ?_, fun hok => ?_⟩
  · obtain ⟨i1, i2, i3⟩ := hi
    obtain ⟨j1, j2, j3⟩ := hj
    obtain ⟨k1, k2, k3⟩ := hb.s (sw x) (sw y) i3.1 i3.2 j3.1 j3.2 (hr x y hx hy hq)
    exact ⟨k1, ⟨i1, i2, i3.1, k2⟩, j1, j2, k3, j3.2⟩
  · obtain ⟨k1, k2, k3, k4⟩ := hb.w hok M.s M'.s
    have := M.re; have := M.rf; have := M'.re; have := M'.rf
    unfold ss at *
    refine ⟨⟨⟨M.m, M.u, by omega, M.ra, M.rb, M.rc, M.rd, M.re, ?_⟩, aN_self b, M.m, by omega, by omega, by omega, by omega⟩, ⟨M'.m, M'.u, by omega, M'.ra, M'.rb, M'.rc, M'.rd, ?_, M'.rf⟩, aN_self b', M'.m, by omega, by omega, by omega, by omega⟩ <;> (unfold ss; omega)
theorem lp_swap (h : LP (fun y x => rel x y) a' b' c' d' e' f' a b c d e f p' q' r' s' t' u' p q r s t u ok) : LP rel a b c d e f a' b' c' d' e' f' p q r s t u p' q' r' s' t' u' ok :=
  ⟨fun x y hx hy hi hj hr => by
    obtain ⟨k1, k2, k3⟩ := h.i y x hy hx hj hi hr
    exact ⟨k1, k3, k2⟩, fun hok => ⟨(h.w hok).2, (h.w hok).1⟩⟩
end
theorem jd1 (x y : Int) : jdo 1 true x y = decide (x = y) := rfl
theorem jd5 (x y : Int) : jdo 5 true x y = decide (x ≠ y) := rfl
theorem jd4 (x y : Int) : jdo 4 true x y = decide (Go.bits .and .u64 x y ≠ 0) := rfl
theorem jd2 (x y : Int) : jdo 2 true x y = decide (x > y) := rfl
theorem jd3 (x y : Int) : jdo 3 true x y = decide (x ≥ y) := rfl
theorem jd6 (x y : Int) : jdo 6 true x y = decide (sw x > sw y) := rfl
theorem jd7 (x y : Int) : jdo 7 true x y = decide (sw x ≥ sw y) := rfl
theorem jd10 (x y : Int) : jdo 10 true x y = decide (x < y) := rfl
theorem jd11 (x y : Int) : jdo 11 true x y = decide (x ≤ y) := rfl
theorem jd12 (x y : Int) : jdo 12 true x y = decide (sw x < sw y) := rfl
theorem jd13 (x y : Int) : jdo 13 true x y = decide (sw x ≤ sw y) := rfl
theorem rL1t (a b c d e f a' b' c' d' e' f' : Int) (K : Value → Prop) (M : MayS a b c d e f) (M' : MayS a' b' c' d' e' f') (h : ∀ p q r s t u p' q' r' s' t' u' ok, LP (fun x y => jdo 1 true x y = true) a b c d e f a' b' c' d' e' f' p q r s t u p' q' r' s' t' u' ok → K (.tuple #[Sc p q r s t u, Sc p' q' r' s' t' u', .bool ok])) : nL1t a b c d e f a' b' c' d' e' f' K := by
  rw [nL1t_eq]
  intro p q r s t u ok hm
  exact h _ _ _ _ _ _ _ _ _ _ _ _ _ (lp_mt M M' hm fun x y hr => by rw [jd1] at hr; have hr := of_decide_eq_true hr; omega)
theorem rL5f (a b c d e f a' b' c' d' e' f' : Int) (K : Value → Prop) (M : MayS a b c d e f) (M' : MayS a' b' c' d' e' f') (h : ∀ p q r s t u p' q' r' s' t' u' ok, LP (fun x y => jdo 5 true x y = false) a b c d e f a' b' c' d' e' f' p q r s t u p' q' r' s' t' u' ok → K (.tuple #[Sc p q r s t u, Sc p' q' r' s' t' u', .bool ok])) : nL5f a b c d e f a' b' c' d' e' f' K := by
  rw [nL5f_eq]
  intro p q r s t u ok hm
  exact h _ _ _ _ _ _ _ _ _ _ _ _ _ (lp_mt M M' hm fun x y hr => by rw [jd5] at hr; have hr := of_decide_eq_false hr; omega)
theorem rL1f (a b c d e f a' b' c' d' e' f' : Int) (K : Value → Prop) (M : MayS a b c d e f) (M' : MayS a' b' c' d' e' f') (h : ∀ p q r s t u p' q' r' s' t' u' ok, LP (fun x y => jdo 1 true x y = false) a b c d e f a' b' c' d' e' f' p q r s t u p' q' r' s' t' u' ok → K (.tuple #[Sc p q r s t u, Sc p' q' r' s' t' u', .bool ok])) : nL1f a b c d e f a' b' c' d' e' f' K := by
  rw [nL1f_eq]
  intro v one hI w two hJ
  refine br_cases (fun q2 => ?_) (fun q2 => ?_)
  · intro x1 x2 x3 x4 ok1 hA
    refine br_cases (fun q1 => ?_) (fun q1 => ?_)
    · intro y1 y2 y3 y4 ok2 hB
      refine ob_self (ob_true fun r hr => ?_)
      subst hr
      refine h _ _ _ _ _ _ _ _ _ _ _ _ _ (lp_tu (tu_wo (hJ.r M'.ra M'.rc) M hA) (tu_wo (hI.r M.ra M.rc) M' hB) fun x y hx hy hi hj hr => ?_)
      obtain rfl := hI.i q1 x hx hi
      obtain rfl := hJ.i q2 y hy hj
      rw [jd1] at hr; have hr := of_decide_eq_false hr; exact ⟨hr, fun e => hr e.symm⟩
    · refine ob_self (ob_true fun r hr => ?_)
      subst hr
      refine h _ _ _ _ _ _ _ _ _ _ _ _ _ (lp_tu (tu_wo (hJ.r M'.ra M'.rc) M hA) (tu_id (R := fun _ => True) M') fun x y hx hy hi hj hr => ?_)
      obtain rfl := hJ.i q2 y hy hj
      rw [jd1] at hr; have hr := of_decide_eq_false hr; exact ⟨hr, trivial⟩
  · refine br_cases (fun q1 => ?_) (fun q1 => ?_)
    · intro y1 y2 y3 y4 ok2 hB
      refine ob_true (ob_true fun r hr => ?_)
      subst hr
      refine h _ _ _ _ _ _ _ _ _ _ _ _ _ (lp_tu (ok1 := true) (tu_id (R := fun _ => True) M) (tu_wo (hI.r M.ra M.rc) M' hB) fun x y hx hy hi hj hr => ?_)
      obtain rfl := hI.i q1 x hx hi
      rw [jd1] at hr; have hr := of_decide_eq_false hr; exact ⟨trivial, fun e => hr e.symm⟩
    · refine ob_true (ob_true fun r hr => ?_)
      subst hr
      exact h _ _ _ _ _ _ _ _ _ _ _ _ _ (lp_tu (ok1 := true) (ok2 := true) (tu_id (R := fun _ => True) M) (tu_id (R := fun _ => True) M') fun x y hx hy hi hj hr => ⟨trivial, trivial⟩)
theorem rL5t (a b c d e f a' b' c' d' e' f' : Int) (K : Value → Prop) (M : MayS a b c d e f) (M' : MayS a' b' c' d' e' f') (h : ∀ p q r s t u p' q' r' s' t' u' ok, LP (fun x y => jdo 5 true x y = true) a b c d e f a' b' c' d' e' f' p q r s t u p' q' r' s' t' u' ok → K (.tuple #[Sc p q r s t u, Sc p' q' r' s' t' u', .bool ok])) : nL5t a b c d e f a' b' c' d' e' f' K := by
  rw [nL5t_eq]
  intro v one hI w two hJ
  refine br_cases (fun q2 => ?_) (fun q2 => ?_)
  · intro x1 x2 x3 x4 ok1 hA
    refine br_cases (fun q1 => ?_) (fun q1 => ?_)
    · intro y1 y2 y3 y4 ok2 hB
      refine ob_self (ob_true fun r hr => ?_)
      subst hr
      refine h _ _ _ _ _ _ _ _ _ _ _ _ _ (lp_tu (tu_wo (hJ.r M'.ra M'.rc) M hA) (tu_wo (hI.r M.ra M.rc) M' hB) fun x y hx hy hi hj hr => ?_)
      obtain rfl := hI.i q1 x hx hi
      obtain rfl := hJ.i q2 y hy hj
      rw [jd5] at hr; have hr := of_decide_eq_true hr; exact ⟨hr, fun e => hr e.symm⟩
    · refine ob_self (ob_true fun r hr => ?_)
      subst hr
      refine h _ _ _ _ _ _ _ _ _ _ _ _ _ (lp_tu (tu_wo (hJ.r M'.ra M'.rc) M hA) (tu_id (R := fun _ => True) M') fun x y hx hy hi hj hr => ?_)
      obtain rfl := hJ.i q2 y hy hj
      rw [jd5] at hr; have hr := of_decide_eq_true hr; exact ⟨hr, trivial⟩
  · refine br_cases (fun q1 => ?_) (fun q1 => ?_)
    · intro y1 y2 y3 y4 ok2 hB
      refine ob_true (ob_true fun r hr => ?_)
      subst hr
      refine h _ _ _ _ _ _ _ _ _ _ _ _ _ (lp_tu (ok1 := true) (tu_id (R := fun _ => True) M) (tu_wo (hI.r M.ra M.rc) M' hB) fun x y hx hy hi hj hr => ?_)
      obtain rfl := hI.i q1 x hx hi
      rw [jd5] at hr; have hr := of_decide_eq_true hr; exact ⟨trivial, fun e => hr e.symm⟩
    · refine ob_true (ob_true fun r hr => ?_)
      subst hr
      exact h _ _ _ _ _ _ _ _ _ _ _ _ _ (lp_tu (ok1 := true) (ok2 := true) (tu_id (R := fun _ => True) M) (tu_id (R := fun _ => True) M') fun x y hx hy hi hj hr => ⟨trivial, trivial⟩)
theorem rL4f (a b c d e f a' b' c' d' e' f' : Int) (K : Value → Prop) (M : MayS a b c d e f) (M' : MayS a' b' c' d' e' f') (h : ∀ p q r s t u p' q' r' s' t' u' ok, LP (fun x y => jdo 4 true x y = false) a b c d e f a' b' c' d' e' f' p q r s t u p' q' r' s' t' u' ok → K (.tuple #[Sc p q r s t u, Sc p' q' r' s' t' u', .bool ok])) : nL4f a b c d e f a' b' c' d' e' f' K := by
  rw [nL4f_eq]
  intro v one hI w two hJ
  refine br_cases (fun q2 => ?_) (fun q2 => ?_)
  · intro x1 x2 ok1 hA
    refine br_cases (fun q1 => ?_) (fun q1 => ?_)
    · intro y1 y2 ok2 hB
      refine ob_self (ob_true fun r hr => ?_)
      subst hr
      refine h _ _ _ _ _ _ _ _ _ _ _ _ _ (lp_tu (tu_cl (hJ.r M'.ra M'.rc) M hA) (tu_cl (hI.r M.ra M.rc) M' hB) fun x y hx hy hi hj hr => ?_)
      obtain rfl := hI.i q1 x hx hi
      obtain rfl := hJ.i q2 y hy hj
      rw [jd4] at hr; have hr := Classical.not_not.1 (of_decide_eq_false hr); exact ⟨hr, by rw [b_and, BitVec.and_comm, ← b_and]; exact hr⟩
    · refine ob_self (ob_true fun r hr => ?_)
      subst hr
      refine h _ _ _ _ _ _ _ _ _ _ _ _ _ (lp_tu (tu_cl (hJ.r M'.ra M'.rc) M hA) (tu_id (R := fun _ => True) M') fun x y hx hy hi hj hr => ?_)
      obtain rfl := hJ.i q2 y hy hj
      rw [jd4] at hr; have hr := Classical.not_not.1 (of_decide_eq_false hr); exact ⟨hr, trivial⟩
  · refine br_cases (fun q1 => ?_) (fun q1 => ?_)
    · intro y1 y2 ok2 hB
      refine ob_true (ob_true fun r hr => ?_)
      subst hr
      refine h _ _ _ _ _ _ _ _ _ _ _ _ _ (lp_tu (ok1 := true) (tu_id (R := fun _ => True) M) (tu_cl (hI.r M.ra M.rc) M' hB) fun x y hx hy hi hj hr => ?_)
      obtain rfl := hI.i q1 x hx hi
      rw [jd4] at hr; have hr := Classical.not_not.1 (of_decide_eq_false hr); exact ⟨trivial, by rw [b_and, BitVec.and_comm, ← b_and]; exact hr⟩
    · refine ob_true (ob_true fun r hr => ?_)
      subst hr
      exact h _ _ _ _ _ _ _ _ _ _ _ _ _ (lp_tu (ok1 := true) (ok2 := true) (tu_id (R := fun _ => True) M) (tu_id (R := fun _ => True) M') fun x y hx hy hi hj hr => ⟨trivial, trivial⟩)
theorem rL4t (a b c d e f a' b' c' d' e' f' : Int) (K : Value → Prop) (M : MayS a b c d e f) (M' : MayS a' b' c' d' e' f') (h : ∀ p q r s t u p' q' r' s' t' u' ok, LP (fun x y => jdo 4 true x y = true) a b c d e f a' b' c' d' e' f' p q r s t u p' q' r' s' t' u' ok → K (.tuple #[Sc p q r s t u, Sc p' q' r' s' t' u', .bool ok])) : nL4t a b c d e f a' b' c' d' e' f' K := by
  rw [nL4t_eq]
  exact h _ _ _ _ _ _ _ _ _ _ _ _ _ (lp_tu (ok1 := true) (ok2 := true) (tu_id (R := fun _ => True) M) (tu_id (R := fun _ => True) M') fun x y hx hy hi hj hr => ⟨trivial, trivial⟩)
theorem rL2t (a b c d e f a' b' c' d' e' f' : Int) (K : Value → Prop) (M : MayS a b c d e f) (M' : MayS a' b' c' d' e' f') (h : ∀ p q r s t u p' q' r' s' t' u' ok, LP (fun x y => jdo 2 true x y = true) a b c d e f a' b' c' d' e' f' p q r s t u p' q' r' s' t' u' ok → K (.tuple #[Sc p q r s t u, Sc p' q' r' s' t' u', .bool ok])) : nL2t a b c d e f a' b' c' d' e' f' K := by
  rw [nL2t_eq]
  (repeat (first | refine ob_self ?_ | refine ob_true ?_ | (refine nm_intro ?_; intro _ _)))
  refine ⟨⟨M'.rc, M'.rd, M.rc, M.rd⟩, fun hh l ok hb => h _ _ _ _ _ _ _ _ _ _ _ _ _ (lp_swap (lp_u M' M hb fun x y hx hy hr => ?_))⟩
  · change jdo 2 true y x = true at hr
    rw [jd2] at hr; have hr := of_decide_eq_true hr
    exact Or.inl (by omega)
theorem rL2f (a b c d e f a' b' c' d' e' f' : Int) (K : Value → Prop) (M : MayS a b c d e f) (M' : MayS a' b' c' d' e' f') (h : ∀ p q r s t u p' q' r' s' t' u' ok, LP (fun x y => jdo 2 true x y = false) a b c d e f a' b' c' d' e' f' p q r s t u p' q' r' s' t' u' ok → K (.tuple #[Sc p q r s t u, Sc p' q' r' s' t' u', .bool ok])) : nL2f a b c d e f a' b' c' d' e' f' K := by
  rw [nL2f_eq]
  (repeat (first | refine ob_self ?_ | refine ob_true ?_ | (refine nm_intro ?_; intro _ _)))
  refine ⟨⟨M.rc, M.rd, M'.rc, M'.rd⟩, fun hh l ok hb => h _ _ _ _ _ _ _ _ _ _ _ _ _ (lp_u M M' hb fun x y hx hy hr => ?_)⟩
  · rw [jd2] at hr; have hr := of_decide_eq_false hr
    have : x < y ∨ x = y := by omega
    exact this.imp id (fun e => ⟨rfl, e⟩)
theorem rL3t (a b c d e f a' b' c' d' e' f' : Int) (K : Value → Prop) (M : MayS a b c d e f) (M' : MayS a' b' c' d' e' f') (h : ∀ p q r s t u p' q' r' s' t' u' ok, LP (fun x y => jdo 3 true x y = true) a b c d e f a' b' c' d' e' f' p q r s t u p' q' r' s' t' u' ok → K (.tuple #[Sc p q r s t u, Sc p' q' r' s' t' u', .bool ok])) : nL3t a b c d e f a' b' c' d' e' f' K := by
  rw [nL3t_eq]
  (repeat (first | refine ob_self ?_ | refine ob_true ?_ | (refine nm_intro ?_; intro _ _)))
  refine ⟨⟨M'.rc, M'.rd, M.rc, M.rd⟩, fun hh l ok hb => h _ _ _ _ _ _ _ _ _ _ _ _ _ (lp_swap (lp_u M' M hb fun x y hx hy hr => ?_))⟩
  · change jdo 3 true y x = true at hr
    rw [jd3] at hr; have hr := of_decide_eq_true hr
    have : x < y ∨ x = y := by omega
    exact this.imp id (fun e => ⟨rfl, e⟩)
theorem rL3f (a b c d e f a' b' c' d' e' f' : Int) (K : Value → Prop) (M : MayS a b c d e f) (M' : MayS a' b' c' d' e' f') (h : ∀ p q r s t u p' q' r' s' t' u' ok, LP (fun x y => jdo 3 true x y = false) a b c d e f a' b' c' d' e' f' p q r s t u p' q' r' s' t' u' ok → K (.tuple #[Sc p q r s t u, Sc p' q' r' s' t' u', .bool ok])) : nL3f a b c d e f a' b' c' d' e' f' K := by
  rw [nL3f_eq]
  (repeat (first | refine ob_self ?_ | refine ob_true ?_ | (refine nm_intro ?_; intro _ _)))
  refine ⟨⟨M.rc, M.rd, M'.rc, M'.rd⟩, fun hh l ok hb => h _ _ _ _ _ _ _ _ _ _ _ _ _ (lp_u M M' hb fun x y hx hy hr => ?_)⟩
  · rw [jd3] at hr; have hr := of_decide_eq_false hr
    exact Or.inl (by omega)
theorem rL6t (a b c d e f a' b' c' d' e' f' : Int) (K : Value → Prop) (M : MayS a b c d e f) (M' : MayS a' b' c' d' e' f') (h : ∀ p q r s t u p' q' r' s' t' u' ok, LP (fun x y => jdo 6 true x y = true) a b c d e f a' b' c' d' e' f' p q r s t u p' q' r' s' t' u' ok → K (.tuple #[Sc p q r s t u, Sc p' q' r' s' t' u', .bool ok])) : nL6t a b c d e f a' b' c' d' e' f' K := by
  rw [nL6t_eq]
  (repeat (first | refine ob_self ?_ | refine ob_true ?_ | (refine nm_intro ?_; intro _ _)))
  refine ⟨⟨M'.re, M'.rf, M.re, M.rf⟩, fun hh l ok hb => h _ _ _ _ _ _ _ _ _ _ _ _ _ (lp_swap (lp_s M' M hb fun x y hx hy hr => ?_))⟩
  · change jdo 6 true y x = true at hr
    rw [jd6] at hr; have hr := of_decide_eq_true hr
    exact Or.inl (by omega)
theorem rL6f (a b c d e f a' b' c' d' e' f' : Int) (K : Value → Prop) (M : MayS a b c d e f) (M' : MayS a' b' c' d' e' f') (h : ∀ p q r s t u p' q' r' s' t' u' ok, LP (fun x y => jdo 6 true x y = false) a b c d e f a' b' c' d' e' f' p q r s t u p' q' r' s' t' u' ok → K (.tuple #[Sc p q r s t u, Sc p' q' r' s' t' u', .bool ok])) : nL6f a b c d e f a' b' c' d' e' f' K := by
  rw [nL6f_eq]
  (repeat (first | refine ob_self ?_ | refine ob_true ?_ | (refine nm_intro ?_; intro _ _)))
  refine ⟨⟨M.re, M.rf, M'.re, M'.rf⟩, fun hh l ok hb => h _ _ _ _ _ _ _ _ _ _ _ _ _ (lp_s M M' hb fun x y hx hy hr => ?_)⟩
  · rw [jd6] at hr; have hr := of_decide_eq_false hr
    have : sw x < sw y ∨ sw x = sw y := by omega
    exact this.imp id (fun e => ⟨rfl, e⟩)
theorem rL7t (a b c d e f a' b' c' d' e' f' : Int) (K : Value → Prop) (M : MayS a b c d e f) (M' : MayS a' b' c' d' e' f') (h : ∀ p q r s t u p' q' r' s' t' u' ok, LP (fun x y => jdo 7 true x y = true) a b c d e f a' b' c' d' e' f' p q r s t u p' q' r' s' t' u' ok → K (.tuple #[Sc p q r s t u, Sc p' q' r' s' t' u', .bool ok])) : nL7t a b c d e f a' b' c' d' e' f' K := by
  rw [nL7t_eq]
  (repeat (first | refine ob_self ?_ | refine ob_true ?_ | (refine nm_intro ?_; intro _ _)))
  refine ⟨⟨M'.re, M'.rf, M.re, M.rf⟩, fun hh l ok hb => h _ _ _ _ _ _ _ _ _ _ _ _ _ (lp_swap (lp_s M' M hb fun x y hx hy hr => ?_))⟩
  · change jdo 7 true y x = true at hr
    rw [jd7] at hr; have hr := of_decide_eq_true hr
    have : sw x < sw y ∨ sw x = sw y := by omega
    exact this.imp id (fun e => ⟨rfl, e⟩)
theorem rL7f (a b c d e f a' b' c' d' e' f' : Int) (K : Value → Prop) (M : MayS a b c d e f) (M' : MayS a' b' c' d' e' f') (h : ∀ p q r s t u p' q' r' s' t' u' ok, LP (fun x y => jdo 7 true x y = false) a b c d e f a' b' c' d' e' f' p q r s t u p' q' r' s' t' u' ok → K (.tuple #[Sc p q r s t u, Sc p' q' r' s' t' u', .bool ok])) : nL7f a b c d e f a' b' c' d' e' f' K := by
  rw [nL7f_eq]
  (repeat (first | refine ob_self ?_ | refine ob_true ?_ | (refine nm_intro ?_; intro _ _)))
  refine ⟨⟨M.re, M.rf, M'.re, M'.rf⟩, fun hh l ok hb => h _ _ _ _ _ _ _ _ _ _ _ _ _ (lp_s M M' hb fun x y hx hy hr => ?_)⟩
  · rw [jd7] at hr; have hr := of_decide_eq_false hr
    exact Or.inl (by omega)
theorem rL10t (a b c d e f a' b' c' d' e' f' : Int) (K : Value → Prop) (M : MayS a b c d e f) (M' : MayS a' b' c' d' e' f') (h : ∀ p q r s t u p' q' r' s' t' u' ok, LP (fun x y => jdo 10 true x y = true) a b c d e f a' b' c' d' e' f' p q r s t u p' q' r' s' t' u' ok → K (.tuple #[Sc p q r s t u, Sc p' q' r' s' t' u', .bool ok])) : nL10t a b c d e f a' b' c' d' e' f' K := by
  rw [nL10t_eq]
  (repeat (first | refine ob_self ?_ | refine ob_true ?_ | (refine nm_intro ?_; intro _ _)))
  refine ⟨⟨M.rc, M.rd, M'.rc, M'.rd⟩, fun hh l ok hb => h _ _ _ _ _ _ _ _ _ _ _ _ _ (lp_u M M' hb fun x y hx hy hr => ?_)⟩
  · rw [jd10] at hr; have hr := of_decide_eq_true hr
    exact Or.inl (by omega)
theorem rL10f (a b c d e f a' b' c' d' e' f' : Int) (K : Value → Prop) (M : MayS a b c d e f) (M' : MayS a' b' c' d' e' f') (h : ∀ p q r s t u p' q' r' s' t' u' ok, LP (fun x y => jdo 10 true x y = false) a b c d e f a' b' c' d' e' f' p q r s t u p' q' r' s' t' u' ok → K (.tuple #[Sc p q r s t u, Sc p' q' r' s' t' u', .bool ok])) : nL10f a b c d e f a' b' c' d' e' f' K := by
  rw [nL10f_eq]
  (repeat (first | refine ob_self ?_ | refine ob_true ?_ | (refine nm_intro ?_; intro _ _)))
  refine ⟨⟨M'.rc, M'.rd, M.rc, M.rd⟩, fun hh l ok hb => h _ _ _ _ _ _ _ _ _ _ _ _ _ (lp_swap (lp_u M' M hb fun x y hx hy hr => ?_))⟩
  · change jdo 10 true y x = false at hr
    rw [jd10] at hr; have hr := of_decide_eq_false hr
    have : x < y ∨ x = y := by omega
    exact this.imp id (fun e => ⟨rfl, e⟩)
theorem rL11t (a b c d e f a' b' c' d' e' f' : Int) (K : Value → Prop) (M : MayS a b c d e f) (M' : MayS a' b' c' d' e' f') (h : ∀ p q r s t u p' q' r' s' t' u' ok, LP (fun x y => jdo 11 true x y = true) a b c d e f a' b' c' d' e' f' p q r s t u p' q' r' s' t' u' ok → K (.tuple #[Sc p q r s t u, Sc p' q' r' s' t' u', .bool ok])) : nL11t a b c d e f a' b' c' d' e' f' K := by
  rw [nL11t_eq]
  (repeat (first | refine ob_self ?_ | refine ob_true ?_ | (refine nm_intro ?_; intro _ _)))
  refine ⟨⟨M.rc, M.rd, M'.rc, M'.rd⟩, fun hh l ok hb => h _ _ _ _ _ _ _ _ _ _ _ _ _ (lp_u M M' hb fun x y hx hy hr => ?_)⟩
  · rw [jd11] at hr; have hr := of_decide_eq_true hr
    have : x < y ∨ x = y := by omega
    exact this.imp id (fun e => ⟨rfl, e⟩)
theorem rL11f (a b c d e f a' b' c' d' e' f' : Int) (K : Value → Prop) (M : MayS a b c d e f) (M' : MayS a' b' c' d' e' f') (h : ∀ p q r s t u p' q' r' s' t' u' ok, LP (fun x y => jdo 11 true x y = false) a b c d e f a' b' c' d' e' f' p q r s t u p' q' r' s' t' u' ok → K (.tuple #[Sc p q r s t u, Sc p' q' r' s' t' u', .bool ok])) : nL11f a b c d e f a' b' c' d' e' f' K := by
  rw [nL11f_eq]
  (repeat (first | refine ob_self ?_ | refine ob_true ?_ | (refine nm_intro ?_; intro _ _)))
  refine ⟨⟨M'.rc, M'.rd, M.rc, M.rd⟩, fun hh l ok hb => h _ _ _ _ _ _ _ _ _ _ _ _ _ (lp_swap (lp_u M' M hb fun x y hx hy hr => ?_))⟩
  · change jdo 11 true y x = false at hr
    rw [jd11] at hr; have hr := of_decide_eq_false hr
    exact Or.inl (by omega)
theorem rL12t (a b c d e f a' b' c' d' e' f' : Int) (K : Value → Prop) (M : MayS a b c d e f) (M' : MayS a' b' c' d' e' f') (h : ∀ p q r s t u p' q' r' s' t' u' ok, LP (fun x y => jdo 12 true x y = true) a b c d e f a' b' c' d' e' f' p q r s t u p' q' r' s' t' u' ok → K (.tuple #[Sc p q r s t u, Sc p' q' r' s' t' u', .bool ok])) : nL12t a b c d e f a' b' c' d' e' f' K := by
  rw [nL12t_eq]
  (repeat (first | refine ob_self ?_ | refine ob_true ?_ | (refine nm_intro ?_; intro _ _)))
  refine ⟨⟨M.re, M.rf, M'.re, M'.rf⟩, fun hh l ok hb => h _ _ _ _ _ _ _ _ _ _ _ _ _ (lp_s M M' hb fun x y hx hy hr => ?_)⟩
  · rw [jd12] at hr; have hr := of_decide_eq_true hr
    exact Or.inl (by omega)
theorem rL12f (a b c d e f a' b' c' d' e' f' : Int) (K : Value → Prop) (M : MayS a b c d e f) (M' : MayS a' b' c' d' e' f') (h : ∀ p q r s t u p' q' r' s' t' u' ok, LP (fun x y => jdo 12 true x y = false) a b c d e f a' b' c' d' e' f' p q r s t u p' q' r' s' t' u' ok → K (.tuple #[Sc p q r s t u, Sc p' q' r' s' t' u', .bool ok])) : nL12f a b c d e f a' b' c' d' e' f' K := by
  rw [nL12f_eq]
  (repeat (first | refine ob_self ?_ | refine ob_true ?_ | (refine nm_intro ?_; intro _ _)))
  refine ⟨⟨M'.re, M'.rf, M.re, M.rf⟩, fun hh l ok hb => h _ _ _ _ _ _ _ _ _ _ _ _ _ (lp_swap (lp_s M' M hb fun x y hx hy hr => ?_))⟩
  · change jdo 12 true y x = false at hr
    rw [jd12] at hr; have hr := of_decide_eq_false hr
    have : sw x < sw y ∨ sw x = sw y := by omega
    exact this.imp id (fun e => ⟨rfl, e⟩)
theorem rL13t (a b c d e f a' b' c' d' e' f' : Int) (K : Value → Prop) (M : MayS a b c d e f) (M' : MayS a' b' c' d' e' f') (h : ∀ p q r s t u p' q' r' s' t' u' ok, LP (fun x y => jdo 13 true x y = true) a b c d e f a' b' c' d' e' f' p q r s t u p' q' r' s' t' u' ok → K (.tuple #[Sc p q r s t u, Sc p' q' r' s' t' u', .bool ok])) : nL13t a b c d e f a' b' c' d' e' f' K := by
  rw [nL13t_eq]
  (repeat (first | refine ob_self ?_ | refine ob_true ?_ | (refine nm_intro ?_; intro _ _)))
  refine ⟨⟨M.re, M.rf, M'.re, M'.rf⟩, fun hh l ok hb => h _ _ _ _ _ _ _ _ _ _ _ _ _ (lp_s M M' hb fun x y hx hy hr => ?_)⟩
  · rw [jd13] at hr; have hr := of_decide_eq_true hr
    have : sw x < sw y ∨ sw x = sw y := by omega
    exact this.imp id (fun e => ⟨rfl, e⟩)
theorem rL13f (a b c d e f a' b' c' d' e' f' : Int) (K : Value → Prop) (M : MayS a b c d e f) (M' : MayS a' b' c' d' e' f') (h : ∀ p q r s t u p' q' r' s' t' u' ok, LP (fun x y => jdo 13 true x y = false) a b c d e f a' b' c' d' e' f' p q r s t u p' q' r' s' t' u' ok → K (.tuple #[Sc p q r s t u, Sc p' q' r' s' t' u', .bool ok])) : nL13f a b c d e f a' b' c' d' e' f' K := by
  rw [nL13f_eq]
  (repeat (first | refine ob_self ?_ | refine ob_true ?_ | (refine nm_intro ?_; intro _ _)))
  refine ⟨⟨M'.re, M'.rf, M.re, M.rf⟩, fun hh l ok hb => h _ _ _ _ _ _ _ _ _ _ _ _ _ (lp_swap (lp_s M' M hb fun x y hx hy hr => ?_))⟩
  · change jdo 13 true y x = false at hr
    rw [jd13] at hr; have hr := of_decide_eq_false hr
    exact Or.inl (by omega)
end Go.Proofs.Ytceclodenhgoeaa.ScAb
