/- Layer 5: ScalarAlone, ScalarSound, the laws. -/
import Derived.Test.YtceclodenhgoeaaScUl
namespace Go.Proofs.Ytceclodenhgoeaa.ScUm
open Go Go.RowKit Go.Proofs Go.Proofs.Ytceclodenhgoeaa.Xc Go.Proofs.Ytceclodenhgoeaa.Sc Go.Proofs.Ytceclodenhgoeaa.ScS Go.Proofs.Ytceclodenhgoeaa.ScG Go.Proofs.Ytceclodenhgoeaa.ScP Go.Proofs.Ytceclodenhgoeaa.ScUc Go.Proofs.Ytceclodenhgoeaa.ScUe Go.Proofs.Ytceclodenhgoeaa.ScUf Go.Proofs.Ytceclodenhgoeaa.ScUi Go.Proofs.Ytceclodenhgoeaa.ScUj Go.Proofs.Ytceclodenhgoeaa.ScUk Go.Proofs.Ytceclodenhgoeaa.ScUl Go.Proofs.Ytceclodenhgoeaa.ScV Go.Proofs.Ytceclodenhgoeaa.ScY Go.Proofs.Ytceclodenhgoeaa.ScAd Go.Proofs.Ytceclodenhgoeaa.ScAe Go.Proofs.Ytceclodenhgoeaa.ScAf Go.Proofs.Ytceclodenhgoeaa.Bv
set_option linter.unusedVariables false
set_option linter.unusedSimpArgs false
theorem norm_of {v p q r s t u : Int} {ok : Bool} (hv : uu v) (h : NormP v 0 v v (sw v) (sw v) p q r s t u ok) : ok = true ∧ p = v ∧ q = 0 ∧ r = v ∧ s = v ∧ t = sw v ∧ u = sw v := by
  obtain ⟨hi, M⟩ := of_in hv
  obtain ⟨hok, _⟩ := h.i v hv hi
  obtain ⟨⟨w1, w2, w3, w4, w5, w6⟩, N⟩ := h.w hok
  rw [aNz N.rb] at w1
  rw [aNz N.ra] at w2
  have := N.u; have := N.s
  exact ⟨hok, w2, w1, by omega, by omega, by omega, by omega⟩
theorem br_alone {op : Int} {wide taken : Bool} {v w p q r s t u p' q' r' s' t' u' : Int} {ok : Bool} (hv : uu v) (hw : uu w) (h : BrP op wide taken v 0 v v (sw v) (sw v) w 0 w w (sw w) (sw w) p q r s t u p' q' r' s' t' u' ok) :
    (jok op = true → ok = (jdo op wide v w == taken)) ∧ (jok op = false → ok = true) := by
  refine ⟨fun hj => ?_, fun hj => (h.bad hj).1⟩
  by_cases e : jdo op wide v w = taken
  · rw [(h.i v w hv hw (of_in hv).1 (of_in hw).1 (Or.inl e)).1, e]; simp
  · rw [h.x hj rfl rfl e]; symm; simpa using e
theorem oAlone (op : Int) (wide : Bool) (v w : Int) (hv : uu v) (hw : uu w) : nAlone op wide v w (· = .bool true) := by
  obtain ⟨iv, Mv⟩ := of_in hv
  obtain ⟨iw, Mw⟩ := of_in hw
  have h32 : swk 32 := Or.inr (Or.inl rfl)
  rw [nAlone_eq]
  refine ⟨⟨hv, hw⟩, fun n hn ok hok => ?_⟩
  (repeat (first | refine ob_self ?_ | refine ob_true ?_ | (refine nm_intro ?_; intro _ _)))
  refine ⟨⟨Mv, Mw⟩, fun p q r s t u hA => ?_⟩
  (repeat (first | refine ob_self ?_ | refine ob_true ?_ | (refine nm_intro ?_; intro _ _)))
  refine br_no ?_ ?_
  · subst_vars
    cases hk : wok op with
    | false => rfl
    | true =>
      obtain ⟨rfl, rfl, rfl, rfl, rfl, rfl⟩ := (hA.i hk).o rfl rfl v w hv hw iv iw
      simp only [eq_b]; rfl
  refine ⟨⟨h32, hv⟩, fun m hm => ⟨⟨hv, hw⟩, fun does hd is his => ⟨⟨Mv, Mw⟩, fun p1 q1 r1 s1 t1 u1 p2 q2 r2 s2 t2 u2 o1 hB => ⟨⟨Mv, Mw⟩, fun p3 q3 r3 s3 t3 u3 p4 q4 r4 s4 t4 u4 o2 hC => ?_⟩⟩⟩⟩
  obtain ⟨b1, b2⟩ := br_alone hv hw hB
  obtain ⟨c1, c2⟩ := br_alone hv hw hC
  (repeat (first | refine ob_self ?_ | refine ob_true ?_ | (refine nm_intro ?_; intro _ _)))
  refine br_no ?_ ?_
  · clear hA hB hC
    subst_vars
    cases hk : jok op with
    | true =>
      rw [b1 hk, c1 hk]
      cases jdo op wide v w <;> rfl
    | false => rw [b2 hk, c2 hk]; rfl
  refine fun y one hI => ⟨Mv, fun p5 q5 r5 s5 t5 u5 o5 hN => ?_⟩
  obtain ⟨e1, e2⟩ := hI.l rfl
  obtain ⟨e3, e4, e5, e6, e7, e8, e9⟩ := norm_of hv hN
  (repeat (first | refine ob_self ?_ | refine ob_true ?_ | (refine nm_intro ?_; intro _ _)))
  refine ⟨⟨h32, Mv⟩, fun p6 q6 r6 s6 t6 u6 hS => ?_⟩
  obtain ⟨z1, z2, z3, z4, z5, z6⟩ := hS.o rfl v hv iv
  clear hA hB hC hI hN hS b1 b2 c1 c2
  (repeat (first | refine ob_self ?_ | refine ob_true ?_ | (refine nm_intro ?_; intro _ _)))
  subst_vars
  simp only [eq_b]; rfl
theorem any_b {p q r s t u : Int} (h : p = 0 ∧ q = 18446744073709551615 ∧ r = 0 ∧ s = 18446744073709551615 ∧ t = -9223372036854775808 ∧ u = 9223372036854775807) :
    ((p == 0 && q == 18446744073709551615) && ((r == 0 && s == 18446744073709551615) && (t == -9223372036854775808 && u == 9223372036854775807))) = true := by
  obtain ⟨rfl, rfl, rfl, rfl, rfl, rfl⟩ := h; rfl
theorem oSound (op : Int) (wide : Bool) (a b c d e f a' b' c' d' e' f' v w : Int) (hr : rng a b c d e f) (hr' : rng a' b' c' d' e' f') (hv : uu v) (hw : uu w) : nSound op wide a b c d e f a' b' c' d' e' f' v w (· = .bool true) := by
  have h16 : swk 16 := Or.inl rfl
  have h32 : swk 32 := Or.inr (Or.inl rfl)
  have h64 : swk 64 := Or.inr (Or.inr rfl)
  rw [nSound_eq]
  refine ⟨⟨hr, hv⟩, fun a1 b1 c1 d1 e1 f1 M hi => ⟨⟨hr', hw⟩, fun a2 b2 c2 d2 e2 f2 M' hj => ⟨⟨M, M'⟩, fun p q r s t u hA => ⟨⟨hv, hw⟩, fun n hn ok hok => ⟨hA.m, ?_⟩⟩⟩⟩⟩
  (repeat (first | refine ob_self ?_ | refine ob_true ?_ | (refine nm_intro ?_; intro _ _)))
  refine br_no ?_ ?_
  · subst_vars
    cases hk : wok op with
    | true =>
      rw [in_of ((hA.i hk).i v w hv hw hi hj)]; rfl
    | false =>
      obtain ⟨rfl, rfl, rfl, rfl, rfl, rfl⟩ := hA.n hk
      rfl
  clear hA hn hok
  (repeat (first | refine ob_self ?_ | refine ob_true ?_ | (refine nm_intro ?_; intro _ _)))
  refine ⟨⟨h16, M⟩, fun p q r s t u hS => ?_⟩
  (repeat (first | refine ob_self ?_ | refine ob_true ?_ | (refine nm_intro ?_; intro _ _)))
  refine ⟨⟨h16, hv⟩, fun n hn => ⟨hS.m, ?_⟩⟩
  (repeat (first | refine ob_self ?_ | refine ob_true ?_ | (refine nm_intro ?_; intro _ _)))
  refine br_no ?_ ?_
  · subst_vars; rw [in_of (hS.i v hv hi)]; rfl
  clear hS
  (repeat (first | refine ob_self ?_ | refine ob_true ?_ | (refine nm_intro ?_; intro _ _)))
  refine ⟨⟨h16, M⟩, fun p q r s t u hS => ?_⟩
  (repeat (first | refine ob_self ?_ | refine ob_true ?_ | (refine nm_intro ?_; intro _ _)))
  refine ⟨⟨h16, hv⟩, fun n hn => ⟨hS.m, ?_⟩⟩
  (repeat (first | refine ob_self ?_ | refine ob_true ?_ | (refine nm_intro ?_; intro _ _)))
  refine br_no ?_ ?_
  · subst_vars; rw [in_of (hS.i v hv hi)]; rfl
  clear hS
  (repeat (first | refine ob_self ?_ | refine ob_true ?_ | (refine nm_intro ?_; intro _ _)))
  refine ⟨⟨h32, M⟩, fun p q r s t u hS => ?_⟩
  (repeat (first | refine ob_self ?_ | refine ob_true ?_ | (refine nm_intro ?_; intro _ _)))
  refine ⟨⟨h32, hv⟩, fun n hn => ⟨hS.m, ?_⟩⟩
  (repeat (first | refine ob_self ?_ | refine ob_true ?_ | (refine nm_intro ?_; intro _ _)))
  refine br_no ?_ ?_
  · subst_vars; rw [in_of (hS.i v hv hi)]; rfl
  clear hS
  (repeat (first | refine ob_self ?_ | refine ob_true ?_ | (refine nm_intro ?_; intro _ _)))
  refine ⟨⟨h32, M⟩, fun p q r s t u hS => ?_⟩
  (repeat (first | refine ob_self ?_ | refine ob_true ?_ | (refine nm_intro ?_; intro _ _)))
  refine ⟨⟨h32, hv⟩, fun n hn => ⟨hS.m, ?_⟩⟩
  (repeat (first | refine ob_self ?_ | refine ob_true ?_ | (refine nm_intro ?_; intro _ _)))
  refine br_no ?_ ?_
  · subst_vars; rw [in_of (hS.i v hv hi)]; rfl
  clear hS
  (repeat (first | refine ob_self ?_ | refine ob_true ?_ | (refine nm_intro ?_; intro _ _)))
  refine ⟨⟨h64, M⟩, fun p q r s t u hS => ?_⟩
  (repeat (first | refine ob_self ?_ | refine ob_true ?_ | (refine nm_intro ?_; intro _ _)))
  refine ⟨⟨h64, hv⟩, fun n hn => ⟨hS.m, ?_⟩⟩
  (repeat (first | refine ob_self ?_ | refine ob_true ?_ | (refine nm_intro ?_; intro _ _)))
  refine br_no ?_ ?_
  · subst_vars; rw [in_of (hS.i v hv hi)]; rfl
  clear hS
  (repeat (first | refine ob_self ?_ | refine ob_true ?_ | (refine nm_intro ?_; intro _ _)))
  refine ⟨⟨h64, M⟩, fun p q r s t u hS => ?_⟩
  (repeat (first | refine ob_self ?_ | refine ob_true ?_ | (refine nm_intro ?_; intro _ _)))
  refine ⟨⟨h64, hv⟩, fun n hn => ⟨hS.m, ?_⟩⟩
  (repeat (first | refine ob_self ?_ | refine ob_true ?_ | (refine nm_intro ?_; intro _ _)))
  refine br_no ?_ ?_
  · subst_vars; rw [in_of (hS.i v hv hi)]; rfl
  clear hS
  refine ⟨M, fun p q r s t u ok hN => ?_⟩
  obtain ⟨g, iN⟩ := hN.i v hv hi
  subst g
  obtain ⟨wN, mN⟩ := hN.w rfl
  (repeat (first | refine ob_self ?_ | refine ob_true ?_ | (refine nm_intro ?_; intro _ _)))
  refine ⟨mN, ?_⟩
  (repeat (first | refine ob_self ?_ | refine ob_true ?_ | (refine nm_intro ?_; intro _ _)))
  have w1 := in_of iN
  have w2 := wi_of (show ScZ.Wi p q r s t u a1 b1 c1 d1 e1 f1 from wN)
  clear hN wN mN iN
  subst_vars
  rw [w1, w2]; rfl
end Go.Proofs.Ytceclodenhgoeaa.ScUm
