/- Without Go: Zcg, Zch, Zci, Zcj, Zck, Zcl, Zcm, LScalarBranch, in one text. -/
import Derived.Test.YtceclodenhgoeaaGreatZcf
set_option linter.unusedVariables false
set_option linter.unusedSimpArgs false
set_option linter.unusedSectionVars false
section
/- Layer 5, against the reference: the parts of what a jump teaches: contracts. -/
namespace Go.Proofs.YtceclodenhgoeaaGreat.Zcg
open Go Go.RowKit Go.Proofs Go.Proofs.YtceclodenhgoeaaGreat.Xc Go.Proofs.YtceclodenhgoeaaGreat.Zs Go.Proofs.YtceclodenhgoeaaGreat.Zk Go.Proofs.YtceclodenhgoeaaGreat.Zo Go.Proofs.YtceclodenhgoeaaGreat.Zq Go.Proofs.YtceclodenhgoeaaGreat.Zu Go.Proofs.YtceclodenhgoeaaGreat.Zv Go.Proofs.YtceclodenhgoeaaGreat.Zbf Go.Proofs.YtceclodenhgoeaaGreat.Zbh Go.Proofs.YtceclodenhgoeaaGreat.Zbi Go.Proofs.YtceclodenhgoeaaGreat.Zbj Go.Proofs.YtceclodenhgoeaaGreat.Zbk Go.Proofs.YtceclodenhgoeaaGreat.Zbm Go.Proofs.YtceclodenhgoeaaGreat.Zcb Go.Proofs.YtceclodenhgoeaaGreat.Zce Go.Proofs.YtceclodenhgoeaaGreat.Zcf Go.Proofs.YtceclodenhgoeaaGreat.Bv
set_option linter.unusedVariables false
set_option linter.unusedSimpArgs false
theorem ntE : (if IntKind.signed .u64 = true then (-1 : Int) else IntKind.max .u64) = 18446744073709551615 := by decide
theorem dj_n {v : Int} (h : u6 v) : dj 0 (ntv v) := by
  refine ⟨0#64, BitVec.ofInt 64 18446744073709551615 ^^^ BitVec.ofInt 64 v, rfl, ?_, by simp⟩
  unfold ntv; rw [b_xor]
section
variable {a b c d e f a' b' c' d' e' f' : Int} {K : Value → Prop}
theorem rMeC (h1 : dj a b) (h2 : dj a' b') (h : br (mtO a b c d e f a' b' c' d' e' f') (K (.tuple #[Sc (meV a b a' b') (meM a b a' b') (mxi c c') (mni d d') (mxi e e') (mni f f'), .bool true])) (al fun p => al fun q => al fun r => al fun s => al fun t => al fun u => im (an6 p q r s t u) (K (.tuple #[Sc p q r s t u, .bool false])))) : nMeC a b c d e f a' b' c' d' e' f' K := by
  rw [nMeC_eq]
  refine ⟨⟨h1, h2⟩, ?_⟩
  unfold mtO at h
  revert h
  cases g0 : meO a b a' b' <;> cases g1 : lei (mxi c c') (mni d d') <;> cases g2 : lei (mxi e e') (mni f f') <;> intro h <;> (repeat (first
    | exact h | exact h _ _ _ _ _ _ trivial
    | with_reducible refine ob_self ?_ | with_reducible refine ob_true ?_ | ((with_reducible refine nm_intro ?_); intro r hr; subst hr)
    | refine br_yes rfl ?_ | refine br_no rfl ?_ | refine br_yes (by assumption) ?_ | refine br_no (by assumption) ?_))
theorem rMeR (h1 : dj a b) (h2 : dj a' b') (h : br (mtO a b c d e f a' b' c' d' e' f') (K (.tuple #[Sc (meV a b a' b') (meM a b a' b') (mxi c c') (mni d d') (mxi e e') (mni f f'), .bool true])) (al fun p => al fun q => al fun r => al fun s => al fun t => al fun u => im (an6 p q r s t u) (K (.tuple #[Sc p q r s t u, .bool false])))) : nMeR a b c d e f a' b' c' d' e' f' K := by
  rw [nMeR_eq]
  refine ⟨⟨h1, h2⟩, ?_⟩
  unfold mtO at h
  revert h
  cases g0 : meO a b a' b' <;> cases g1 : lei (mxi c c') (mni d d') <;> cases g2 : lei (mxi e e') (mni f f') <;> intro h <;> (repeat (first
    | exact h | exact h _ _ _ _ _ _ trivial
    | with_reducible refine ob_self ?_ | with_reducible refine ob_true ?_ | ((with_reducible refine nm_intro ?_); intro r hr; subst hr)
    | refine br_yes rfl ?_ | refine br_no rfl ?_ | refine br_yes (by assumption) ?_ | refine br_no (by assumption) ?_))
theorem rClC {v : Int} (h1 : dj a b) (h2 : u6 v) (h : br (meO a b 0 (ntv v)) (K (.tuple #[Sc (meV a b 0 (ntv v)) (meM a b 0 (ntv v)) c d e f, .bool true])) (al fun p => al fun q => al fun r => al fun s => al fun t => al fun u => im (an6 p q r s t u) (K (.tuple #[Sc p q r s t u, .bool false])))) : nClC a b c d e f v K := by
  rw [nClC_eq]
  simp only [ntE]
  refine ⟨⟨h1, dj_n h2⟩, fun r hr s hs => ?_⟩
  subst hr; subst hs
  exact br_cases (fun q => by rw [show meO a b 0 (ntv v) = true from q] at h; exact h) (fun q => by rw [show meO a b 0 (ntv v) = false from q] at h; exact h _ _ _ _ _ _ trivial)
theorem wlU {c v : Int} (h : c = v) : wl c v = c + 1 := by unfold wl; rw [if_pos h]
/-- What goes from the ends. -/
theorem wo_k {v : Int} {x y : Bool} {c1 d1 e1 f1 : Int} (h : K (.tuple #[Sc a b (wl c v) (wh c d v) (wl e (sv v)) (wh e f (sv v)), .bool true])) (e0 : c1 = wl c v) (e2 : d1 = wh c d v) (e3 : e1 = wl e (sv v)) (e4 : f1 = wh e f (sv v)) : K (.tuple #[Sc a b c1 d1 e1 f1, .bool true]) := by
  subst e0; subst e2; subst e3; subst e4; exact h
theorem wU1 (x : Int) (h : 0 ≤ x ∧ x < 18446744073709551616) : IntKind.wrap .u64 x = x := by rw [uW]; omega
theorem wI1 (x : Int) (h : -9223372036854775808 ≤ x ∧ x < 9223372036854775808) : IntKind.wrap .i64 x = x := by rw [Zcb.isw]; omega
theorem rWoC {v : Int} (hu : (u6 c ∧ u6 d) ∧ c ≤ d) (hs : (i6 e ∧ i6 f) ∧ e ≤ f) (h : br (woO c d e f v) (K (.tuple #[Sc a b (wl c v) (wh c d v) (wl e (sv v)) (wh e f (sv v)), .bool true])) (al fun p => al fun q => al fun r => al fun s => al fun t => al fun u => im (an6 p q r s t u) (K (.tuple #[Sc p q r s t u, .bool false])))) : nWoC a b c d e f v K := by
  rw [nWoC_eq]
  unfold u6 at hu; unfold i6 at hs
  have eo : (bif (fun x => c == v && x) (d == v) then true else (fun x => e == IntKind.wrap .i64 v && x) (f == IntKind.wrap .i64 v)) = !woO c d e f v := by
    show (bif (c == v && d == v) then true else (e == sv v && f == sv v)) = _
    unfold woO; rw [Bool.not_not, Bool.cond_true_left]
  repeat (first | with_reducible refine ob_self ?_ | with_reducible refine ob_true ?_ | ((with_reducible refine nm_intro ?_); intro r hr; subst hr))
  rw [eo]
  cases g : woO c d e f v
  · rw [g] at h; exact br_yes rfl (h _ _ _ _ _ _ trivial)
  · rw [g] at h
    have g : ¬ (c = v ∧ d = v) ∧ ¬ (e = sv v ∧ f = sv v) := by
      unfold woO at g
      simp only [Bool.not_eq_true', Bool.or_eq_false_iff, Bool.and_eq_false_imp, beq_iff_eq, beq_eq_false_iff_ne, ne_eq] at g
      exact ⟨fun k => g.1 k.1 k.2, fun k => g.2 k.1 k.2⟩
    refine br_no rfl ?_
    have hsv : IntKind.wrap .i64 v = sv v := rfl
    rw [hsv]
    generalize sv v = s at *
    refine br_cases (fun q1 => ?_) (fun q1 => br_cases (fun q2 => ?_) (fun q2 => ?_)) <;> refine br_cases (fun q3 => ?_) (fun q3 => br_cases (fun q4 => ?_) (fun q4 => ?_))
    all_goals simp only [beq_iff_eq, beq_eq_false_iff_ne, ne_eq] at *
    all_goals (unfold wl wh at h)
    all_goals (first | rw [wU1 _ (by omega)] | skip)
    all_goals (first | rw [wI1 _ (by omega)] | skip)
    all_goals (repeat (first | rw [if_pos (by omega : c = v)] at h | rw [if_neg (by omega : ¬ c = v)] at h | rw [if_pos (by omega : d = v)] at h | rw [if_neg (by omega : ¬ d = v)] at h | rw [if_pos (by omega : e = s)] at h | rw [if_neg (by omega : ¬ e = s)] at h | rw [if_pos (by omega : f = s)] at h | rw [if_neg (by omega : ¬ f = s)] at h))
    all_goals exact h
theorem rWoR {v : Int} (hu : (u6 c ∧ u6 d) ∧ c ≤ d) (hs : (i6 e ∧ i6 f) ∧ e ≤ f) (h : br (woO c d e f v) (K (.tuple #[Sc a b (wl c v) (wh c d v) (wl e (sv v)) (wh e f (sv v)), .bool true])) (al fun p => al fun q => al fun r => al fun s => al fun t => al fun u => im (an6 p q r s t u) (K (.tuple #[Sc p q r s t u, .bool false])))) : nWoR a b c d e f v K := by
  rw [nWoR_eq]
  unfold u6 at hu; unfold i6 at hs
  have eo : (bif (bif c == d then c == v else false) then true else bif e == f then e == IntKind.wrap .i64 v else false) = !woO c d e f v := by
    unfold woO sv
    rw [Bool.not_not, Bool.eq_iff_iff]
    simp only [Bool.cond_true_left, Bool.cond_false_right, Bool.or_eq_true, Bool.and_eq_true, beq_iff_eq]
    omega
  repeat (first | with_reducible refine ob_self ?_ | with_reducible refine ob_true ?_ | ((with_reducible refine nm_intro ?_); intro r hr; subst hr))
  rw [eo]
  cases g : woO c d e f v
  · rw [g] at h; exact br_yes rfl (h _ _ _ _ _ _ trivial)
  · rw [g] at h
    have g : ¬ (c = v ∧ d = v) ∧ ¬ (e = sv v ∧ f = sv v) := by
      unfold woO at g
      simp only [Bool.not_eq_true', Bool.or_eq_false_iff, Bool.and_eq_false_imp, beq_iff_eq, beq_eq_false_iff_ne, ne_eq] at g
      exact ⟨fun k => g.1 k.1 k.2, fun k => g.2 k.1 k.2⟩
    refine br_no rfl ?_
    have hsv : IntKind.wrap .i64 v = sv v := rfl
    rw [hsv]
    generalize sv v = s at *
    refine br_cases (fun q1 => ?_) (fun q1 => br_cases (fun q2 => ?_) (fun q2 => ?_)) <;> refine br_cases (fun q3 => ?_) (fun q3 => br_cases (fun q4 => ?_) (fun q4 => ?_))
    all_goals simp only [beq_iff_eq, beq_eq_false_iff_ne, ne_eq] at *
    all_goals (unfold wl wh at h)
    all_goals (first | rw [wU1 _ (by omega)] | skip)
    all_goals (first | rw [wI1 _ (by omega)] | skip)
    all_goals (repeat (first | rw [if_pos (by omega : c = v)] at h | rw [if_neg (by omega : ¬ c = v)] at h | rw [if_pos (by omega : d = v)] at h | rw [if_neg (by omega : ¬ d = v)] at h | rw [if_pos (by omega : e = s)] at h | rw [if_neg (by omega : ¬ e = s)] at h | rw [if_pos (by omega : f = s)] at h | rw [if_neg (by omega : ¬ f = s)] at h))
    all_goals (first | exact h | (subst q1; first | exact h | (subst q3; exact h) | (subst q4; exact h)) | (subst q2; first | exact h | (subst q3; exact h) | (subst q4; exact h)) | (subst q3; exact h) | (subst q4; exact h))
end
end Go.Proofs.YtceclodenhgoeaaGreat.Zcg
end
section
/- Layer 5, against the reference: one below the other: contracts; the tables of what a jump teaches. -/
namespace Go.Proofs.YtceclodenhgoeaaGreat.Zch
open Go Go.RowKit Go.Proofs Go.Proofs.YtceclodenhgoeaaGreat.Xc Go.Proofs.YtceclodenhgoeaaGreat.Zs Go.Proofs.YtceclodenhgoeaaGreat.Zk Go.Proofs.YtceclodenhgoeaaGreat.Zo Go.Proofs.YtceclodenhgoeaaGreat.Zq Go.Proofs.YtceclodenhgoeaaGreat.Zu Go.Proofs.YtceclodenhgoeaaGreat.Zv Go.Proofs.YtceclodenhgoeaaGreat.Zbf Go.Proofs.YtceclodenhgoeaaGreat.Zbg Go.Proofs.YtceclodenhgoeaaGreat.Zbh Go.Proofs.YtceclodenhgoeaaGreat.Zbi Go.Proofs.YtceclodenhgoeaaGreat.Zbj Go.Proofs.YtceclodenhgoeaaGreat.Zbk Go.Proofs.YtceclodenhgoeaaGreat.Zbm Go.Proofs.YtceclodenhgoeaaGreat.Zcb Go.Proofs.YtceclodenhgoeaaGreat.Zce Go.Proofs.YtceclodenhgoeaaGreat.Zcf Go.Proofs.YtceclodenhgoeaaGreat.Zcg Go.Proofs.YtceclodenhgoeaaGreat.Bv
set_option linter.unusedVariables false
set_option linter.unusedSimpArgs false
theorem kT {k : IntKind} {K : Value → Prop} {a d x y x' y' : Int} (h : K (.tuple #[.agg #[.int k a, .int k x], .agg #[.int k y, .int k d], .bool true])) (e1 : x' = x) (e2 : y' = y) : K (.tuple #[.agg #[.int k a, .int k x'], .agg #[.int k y', .int k d], .bool true]) := by subst e1; subst e2; exact h
section
variable {a b c d e f a' b' c' d' e' f' : Int} {K : Value → Prop}
theorem rLeS {same : Bool} (h1 : i6 e ∧ i6 f) (h2 : i6 e' ∧ i6 f') (h : br (leO same e f') (K (.tuple #[Sc a b c d e (leH same f f'), Sc a' b' c' d' (leL same e e') f', .bool true])) (al fun x => al fun y => im (an6 x y 0 0 0 0) (K (.tuple #[Sc a b c d e x, Sc a' b' c' d' y f', .bool false])))) : nLeS same a b c d e f a' b' c' d' e' f' K := by
  rw [nLeS_eq]
  unfold i6 at h1 h2
  cases same
  · refine br_no rfl ?_
    repeat (first | with_reducible refine ob_self ?_ | with_reducible refine ob_true ?_ | ((with_reducible refine nm_intro ?_); intro r hr; subst hr))
    unfold leO at h; simp only [cond_false] at h
    refine br_cases (fun q => ?_) (fun q => ?_)
    · simp only [Bool.cond_true_left, Bool.or_eq_true, beq_iff_eq] at q
      rw [decide_eq_false (show ¬ e < f' by omega)] at h; exact h _ _ trivial
    · simp only [Bool.cond_true_left, Bool.or_eq_false_iff, beq_eq_false_iff_ne, ne_eq] at q
      rw [wI1 (f' - 1) (by omega), wI1 (e + 1) (by omega)]
      by_cases k : e < f'
      · rw [decide_eq_true k] at h ⊢
        rw [show (if f' - 1 < f then f' - 1 else f) = leH false f f' by unfold leH kk mni; simp only [cond_false]; split <;> omega, show (if e + 1 > e' then e + 1 else e') = leL false e e' by unfold leL kk mxi; simp only [cond_false]; split <;> omega]
        exact h
      · rw [decide_eq_false k] at h ⊢; exact h _ _ trivial
  · refine br_yes rfl ?_
    unfold leO at h; simp only [cond_true] at h
    by_cases k : e ≤ f'
    · rw [decide_eq_true k] at h ⊢
      rw [show (if f' < f then f' else f) = leH true f f' by unfold leH kk mni; simp only [cond_true]; split <;> omega, show (if e > e' then e else e') = leL true e e' by unfold leL kk mxi; simp only [cond_true]; split <;> omega]
      exact h
    · rw [decide_eq_false k] at h ⊢; exact h _ _ trivial
theorem rLeU {same : Bool} (h1 : u6 c ∧ u6 d) (h2 : u6 c' ∧ u6 d') (h : br (leO same c d') (K (.tuple #[Sc a b c (leH same d d') e f, Sc a' b' (leL same c c') d' e' f', .bool true])) (al fun x => al fun y => im (an6 x y 0 0 0 0) (K (.tuple #[Sc a b c x e f, Sc a' b' y d' e' f', .bool false])))) : nLeU same a b c d e f a' b' c' d' e' f' K := by
  rw [nLeU_eq]
  unfold u6 at h1 h2
  cases same
  · refine br_no rfl ?_
    repeat (first | with_reducible refine ob_self ?_ | with_reducible refine ob_true ?_ | ((with_reducible refine nm_intro ?_); intro r hr; subst hr))
    unfold leO at h; simp only [cond_false] at h
    refine br_cases (fun q => ?_) (fun q => ?_)
    · simp only [Bool.cond_true_left, Bool.or_eq_true, beq_iff_eq] at q
      rw [decide_eq_false (show ¬ c < d' by omega)] at h; exact h _ _ trivial
    · simp only [Bool.cond_true_left, Bool.or_eq_false_iff, beq_eq_false_iff_ne, ne_eq] at q
      rw [wU1 (d' - 1) (by omega), wU1 (c + 1) (by omega)]
      by_cases k : c < d'
      · rw [decide_eq_true k] at h ⊢
        rw [show (if d' - 1 < d then d' - 1 else d) = leH false d d' by unfold leH kk mni; simp only [cond_false]; split <;> omega, show (if c + 1 > c' then c + 1 else c') = leL false c c' by unfold leL kk mxi; simp only [cond_false]; split <;> omega]
        exact h
      · rw [decide_eq_false k] at h ⊢; exact h _ _ trivial
  · refine br_yes rfl ?_
    unfold leO at h; simp only [cond_true] at h
    by_cases k : c ≤ d'
    · rw [decide_eq_true k] at h ⊢
      rw [show (if d' < d then d' else d) = leH true d d' by unfold leH kk mni; simp only [cond_true]; split <;> omega, show (if c > c' then c else c') = leL true c c' by unfold leL kk mxi; simp only [cond_true]; split <;> omega]
      exact h
    · rw [decide_eq_false k] at h ⊢; exact h _ _ trivial
theorem rLsR {same : Bool} (h1 : u6 a ∧ u6 b) (h2 : u6 c ∧ u6 d) (h3 : a ≤ b ∧ c ≤ d) (h : br (leO same a d) (K (.tuple #[T2 a (leH same b d), T2 (leL same a c) d, .bool true])) (al fun x => al fun y => al fun x' => al fun y' => im (an6 x y x' y' 0 0) (K (.tuple #[T2 x y, T2 x' y', .bool false])))) : nLsR same a b c d K := by
  rw [nLsR_eq]
  unfold u6 at h1 h2
  cases same
  · refine br_no rfl ?_
    repeat (first | with_reducible refine ob_self ?_ | with_reducible refine ob_true ?_ | ((with_reducible refine nm_intro ?_); intro r hr; subst hr))
    unfold leO at h; simp only [cond_false] at h
    rw [wU1 (18446744073709551615 - 1) (by omega)]
    refine br_cases (fun q => ?_) (fun q => ?_)
    · simp only [Bool.cond_true_left, Bool.or_eq_true, decide_eq_true_eq] at q
      rw [decide_eq_false (show ¬ a < d by omega)] at h; exact h _ _ _ _ trivial
    · simp only [Bool.cond_true_left, Bool.or_eq_false_iff, decide_eq_false_iff_not] at q
      rw [wU1 (d - 1) (by omega), wU1 (a + 1) (by omega)]
      repeat (first | with_reducible refine ob_self ?_ | with_reducible refine ob_true ?_ | ((with_reducible refine nm_intro ?_); intro r hr; subst hr))
      have eh : (if d - 1 < b then d - 1 else b) = leH false b d := by unfold leH kk mni; simp only [cond_false]; split <;> omega
      have el : (if a + 1 > c then a + 1 else c) = leL false a c := by unfold leL kk mxi; simp only [cond_false]; split <;> omega
      rw [eh, el]
      have hh : leH false b d = min b (d - 1) := rfl
      have hl : leL false a c = max c (a + 1) := rfl
      by_cases k : a < d
      · rw [decide_eq_true k] at h
        rw [decide_eq_true (show a ≤ leH false b d by omega), decide_eq_true (show leL false a c ≤ d by omega)]
        exact h
      · rw [decide_eq_false k] at h
        have : (bif decide (a ≤ leH false b d) then decide (leL false a c ≤ d) else false) = false := by
          rw [decide_eq_false (show ¬ a ≤ leH false b d by omega)]; rfl
        rw [this]; exact h _ _ _ _ trivial
  · refine br_yes rfl ?_
    repeat (first | with_reducible refine ob_self ?_ | with_reducible refine ob_true ?_ | ((with_reducible refine nm_intro ?_); intro r hr; subst hr))
    unfold leO at h; simp only [cond_true] at h
    rw [wU1 (18446744073709551615 - 0) (by omega)]
    refine br_cases (fun q => ?_) (fun q => ?_)
    · simp only [Bool.cond_true_left, Bool.or_eq_true, decide_eq_true_eq] at q
      omega
    · rw [wU1 (d - 0) (by omega), wU1 (a + 0) (by omega)]
      repeat (first | with_reducible refine ob_self ?_ | with_reducible refine ob_true ?_ | ((with_reducible refine nm_intro ?_); intro r hr; subst hr))
      have eh : (if d - 0 < b then d - 0 else b) = leH true b d := by unfold leH kk mni; simp only [cond_true]; split <;> omega
      have el : (if a + 0 > c then a + 0 else c) = leL true a c := by unfold leL kk mxi; simp only [cond_true]; split <;> omega
      rw [eh, el]
      have hh : leH true b d = min b (d - 0) := rfl
      have hl : leL true a c = max c (a + 0) := rfl
      by_cases k : a ≤ d
      · rw [decide_eq_true k] at h
        rw [decide_eq_true (show a ≤ leH true b d by omega), decide_eq_true (show leL true a c ≤ d by omega)]
        exact h
      · rw [decide_eq_false k] at h
        have : (bif decide (a ≤ leH true b d) then decide (leL true a c ≤ d) else false) = false := by
          rw [decide_eq_false (show ¬ a ≤ leH true b d by omega)]; rfl
        rw [this]; exact h _ _ _ _ trivial
theorem rUnR {same : Bool} (h1 : i6 a ∧ i6 b) (h2 : i6 c ∧ i6 d) (h3 : a ≤ b ∧ c ≤ d) (h : br (leO same a d) (K (.tuple #[S2 a (leH same b d), S2 (leL same a c) d, .bool true])) (al fun x => al fun y => al fun x' => al fun y' => im (an6 x y x' y' 0 0) (K (.tuple #[S2 x y, S2 x' y', .bool false])))) : nUnR same a b c d K := by
  rw [nUnR_eq]
  unfold i6 at h1 h2
  cases same
  · refine br_no rfl ?_
    repeat (first | with_reducible refine ob_self ?_ | with_reducible refine ob_true ?_ | ((with_reducible refine nm_intro ?_); intro r hr; subst hr))
    unfold leO at h; simp only [cond_false] at h
    rw [wI1 (9223372036854775807 - 1) (by omega), wI1 (-9223372036854775808 + 1) (by omega)]
    refine br_cases (fun q => ?_) (fun q => ?_)
    · simp only [Bool.cond_true_left, Bool.or_eq_true, decide_eq_true_eq] at q
      rw [decide_eq_false (show ¬ a < d by omega)] at h; exact h _ _ _ _ trivial
    · simp only [Bool.cond_true_left, Bool.or_eq_false_iff, decide_eq_false_iff_not] at q
      rw [wI1 (d - 1) (by omega), wI1 (a + 1) (by omega)]
      repeat (first | with_reducible refine ob_self ?_ | with_reducible refine ob_true ?_ | ((with_reducible refine nm_intro ?_); intro r hr; subst hr))
      have eh : (if d - 1 < b then d - 1 else b) = leH false b d := by unfold leH kk mni; simp only [cond_false]; split <;> omega
      have el : (if a + 1 > c then a + 1 else c) = leL false a c := by unfold leL kk mxi; simp only [cond_false]; split <;> omega
      rw [eh, el]
      have hh : leH false b d = min b (d - 1) := rfl
      have hl : leL false a c = max c (a + 1) := rfl
      by_cases k : a < d
      · rw [decide_eq_true k] at h
        rw [decide_eq_true (show a ≤ leH false b d by omega), decide_eq_true (show leL false a c ≤ d by omega)]
        exact h
      · rw [decide_eq_false k] at h
        have : (bif decide (a ≤ leH false b d) then decide (leL false a c ≤ d) else false) = false := by
          rw [decide_eq_false (show ¬ a ≤ leH false b d by omega)]; rfl
        rw [this]; exact h _ _ _ _ trivial
  · refine br_yes rfl ?_
    repeat (first | with_reducible refine ob_self ?_ | with_reducible refine ob_true ?_ | ((with_reducible refine nm_intro ?_); intro r hr; subst hr))
    unfold leO at h; simp only [cond_true] at h
    rw [wI1 (9223372036854775807 - 0) (by omega), wI1 (-9223372036854775808 + 0) (by omega)]
    refine br_cases (fun q => ?_) (fun q => ?_)
    · simp only [Bool.cond_true_left, Bool.or_eq_true, decide_eq_true_eq] at q
      omega
    · rw [wI1 (d - 0) (by omega), wI1 (a + 0) (by omega)]
      repeat (first | with_reducible refine ob_self ?_ | with_reducible refine ob_true ?_ | ((with_reducible refine nm_intro ?_); intro r hr; subst hr))
      have eh : (if d - 0 < b then d - 0 else b) = leH true b d := by unfold leH kk mni; simp only [cond_true]; split <;> omega
      have el : (if a + 0 > c then a + 0 else c) = leL true a c := by unfold leL kk mxi; simp only [cond_true]; split <;> omega
      rw [eh, el]
      have hh : leH true b d = min b (d - 0) := rfl
      have hl : leL true a c = max c (a + 0) := rfl
      by_cases k : a ≤ d
      · rw [decide_eq_true k] at h
        rw [decide_eq_true (show a ≤ leH true b d by omega), decide_eq_true (show leL true a c ≤ d by omega)]
        exact h
      · rw [decide_eq_false k] at h
        have : (bif decide (a ≤ leH true b d) then decide (leL true a c ≤ d) else false) = false := by
          rw [decide_eq_false (show ¬ a ≤ leH true b d by omega)]; rfl
        rw [this]; exact h _ _ _ _ trivial
end
theorem tm : TabOk Tryz.prog TM := by
  refine tab_runK good (by kernel_rfl) (fun vs K h => ?_) (tab_runL good (by kernel_rfl) (fun vs K h => ?_) (tab_runK good (by kernel_rfl) (fun vs K h => ?_) (tab_runK good (by kernel_rfl) (fun vs K h => ?_) (tab_runK good (by kernel_rfl) (fun vs K h => ?_) (tab_runK good (by kernel_rfl) (fun vs K h => ?_) tab_nil)))))
  · unfold cMe at h; split at h
    · have o := rM1 h.1.1 h.1.2 (to_meK h.2); unfold nM1 at o; exact ⟨[], EEz, true, 90, tab_nil, eez, o⟩
    · exact h.elim
  · unfold cMe at h; split at h
    · have o := rM2 h.1.1 h.1.2 (to_meK h.2); unfold nM2 at o; exact ⟨[], EEz, true, LtM, 90, tab_nil, eez, lokM, o⟩
    · exact h.elim
  · unfold cUM at h; split at h
    · rename_i a b c d
      have o := Zqa.rU1 a b c d K (to_mk2 h); unfold nUMeet1 at o; exact ⟨[], EEz, true, 90, tab_nil, eez, o⟩
    · exact h.elim
  · unfold cUM at h; split at h
    · rename_i a b c d
      have o := Zqa.rU2 a b c d K (to_mk2 h); unfold nUMeet2 at o; exact ⟨[], EEz, true, 90, tab_nil, eez, o⟩
    · exact h.elim
  · unfold cSM at h; split at h
    · rename_i a b c d
      have o := Zqa.rS1 a b c d K (to_mk2 h); unfold nSMeet1 at o; exact ⟨[], EEz, true, 90, tab_nil, eez, o⟩
    · exact h.elim
  · unfold cSM at h; split at h
    · rename_i a b c d
      have o := Zqa.rS2 a b c d K (to_mk2 h); unfold nSMeet2 at o; exact ⟨[], EEz, true, 90, tab_nil, eez, o⟩
    · exact h.elim
theorem tcc : TabOk Tryz.prog TC := by
  refine tab_runK good (by kernel_rfl) (fun vs K h => ?_) (tab_runK good (by kernel_rfl) (fun vs K h => ?_) (tab_runK good (by kernel_rfl) (fun vs K h => ?_) (tab_runK good (by kernel_rfl) (fun vs K h => ?_) (tab_runK good (by kernel_rfl) (fun vs K h => ?_) tab_nil))))
  · unfold cIs at h; split at h
    · rename_i a b c d e f
      have o : nIs1 a b c d e f K := by rw [nIs1_eq]; exact is_as (h _ rfl _ rfl)
      unfold nIs1 at o; exact ⟨[], EEz, true, 90, tab_nil, eez, o⟩
    · exact h.elim
  · unfold cMt at h; split at h
    · have o := rMeC h.1.1 h.1.2 h.2; unfold nMeC at o; exact ⟨TM, EEk, true, 90, tm, eek, o⟩
    · exact h.elim
  · unfold cWo at h; split at h
    · have o := rWoC h.1.1 h.1.2 h.2; unfold nWoC at o; exact ⟨TM, EEk, true, 90, tm, eek, o⟩
    · exact h.elim
  · unfold cCl at h; split at h
    · have o := rClC h.1.1 h.1.2 h.2; unfold nClC at o; exact ⟨TM, EEk, true, 90, tm, eek, o⟩
    · exact h.elim
  · unfold cLe at h; split at h
    · have o := rLeS h.1.1 h.1.2 h.2; unfold nLeS at o; exact ⟨TM, EEk, true, 90, tm, eek, o⟩
    · have o := rLeU h.1.1 h.1.2 h.2; unfold nLeU at o; exact ⟨TM, EEk, true, 90, tm, eek, o⟩
    · exact h.elim
theorem tqq : TabOk Tryz.prog TQ := by
  refine tab_runK good (by kernel_rfl) (fun vs K h => ?_) (tab_runK good (by kernel_rfl) (fun vs K h => ?_) (tab_runK good (by kernel_rfl) (fun vs K h => ?_) (tab_runL good (by kernel_rfl) (fun vs K h => ?_) (tab_runK good (by kernel_rfl) (fun vs K h => ?_) (tab_runK good (by kernel_rfl) (fun vs K h => ?_) tab_nil)))))
  · unfold cIs at h; split at h
    · rename_i a b c d e f
      have o : nIs2 a b c d e f K := by rw [nIs2_eq]; exact is_as (h _ rfl _ rfl)
      unfold nIs2 at o; exact ⟨[], EEz, true, 90, tab_nil, eez, o⟩
    · exact h.elim
  · unfold cMt at h; split at h
    · have o := rMeR h.1.1 h.1.2 h.2; unfold nMeR at o; exact ⟨TM, EEk, true, 90, tm, eek, o⟩
    · exact h.elim
  · unfold cWo at h; split at h
    · have o := rWoR h.1.1 h.1.2 h.2; unfold nWoR at o; exact ⟨TM, EEk, true, 90, tm, eek, o⟩
    · exact h.elim
  · unfold cMe at h; split at h
    · have o := rM2 h.1.1 h.1.2 (to_meK h.2); unfold nM2 at o; exact ⟨[], EEz, true, LtM, 90, tab_nil, eez, lokM, o⟩
    · exact h.elim
  · unfold cLs at h; split at h
    · have o := rLsR h.1.1.1 h.1.1.2 h.1.2 h.2; unfold nLsR at o; exact ⟨TM, EEk, true, 90, tm, eek, o⟩
    · exact h.elim
  · unfold cUn at h; split at h
    · have o := rUnR h.1.1.1 h.1.1.2 h.1.2 h.2; unfold nUnR at o; exact ⟨TM, EEk, true, 90, tm, eek, o⟩
    · exact h.elim
end Go.Proofs.YtceclodenhgoeaaGreat.Zch
end
section
/- Layer 5, against the reference: what a jump teaches is the same on both sides. -/
namespace Go.Proofs.YtceclodenhgoeaaGreat.Zci
open Go Go.RowKit Go.Proofs Go.Proofs.YtceclodenhgoeaaGreat.Xc Go.Proofs.YtceclodenhgoeaaGreat.Zs Go.Proofs.YtceclodenhgoeaaGreat.Zk Go.Proofs.YtceclodenhgoeaaGreat.Zo Go.Proofs.YtceclodenhgoeaaGreat.Zq Go.Proofs.YtceclodenhgoeaaGreat.Zu Go.Proofs.YtceclodenhgoeaaGreat.Zv Go.Proofs.YtceclodenhgoeaaGreat.Zbf Go.Proofs.YtceclodenhgoeaaGreat.Zbg Go.Proofs.YtceclodenhgoeaaGreat.Zbh Go.Proofs.YtceclodenhgoeaaGreat.Zbi Go.Proofs.YtceclodenhgoeaaGreat.Zbj Go.Proofs.YtceclodenhgoeaaGreat.Zbk Go.Proofs.YtceclodenhgoeaaGreat.Zbm Go.Proofs.YtceclodenhgoeaaGreat.Zce Go.Proofs.YtceclodenhgoeaaGreat.Zcf Go.Proofs.YtceclodenhgoeaaGreat.Zcg Go.Proofs.YtceclodenhgoeaaGreat.Zch Go.Proofs.YtceclodenhgoeaaGreat.Bv
set_option linter.unusedVariables false
set_option linter.unusedSimpArgs false
/-- Two scalars, or none. -/
structure LR where
  p1 : Int
  p2 : Int
  p3 : Int
  p4 : Int
  p5 : Int
  p6 : Int
  q1 : Int
  q2 : Int
  q3 : Int
  q4 : Int
  q5 : Int
  q6 : Int
  ok : Bool
def mkL (r : LR) : Value := .tuple #[Sc r.p1 r.p2 r.p3 r.p4 r.p5 r.p6, Sc r.q1 r.q2 r.q3 r.q4 r.q5 r.q6, .bool true]
def bad12 (K : Value → Prop) : Prop := ∀ g1 g2 g3 g4 g5 g6 g7 g8 g9 g10 g11 g12 : Int, K (.tuple #[Sc g1 g2 g3 g4 g5 g6, Sc g7 g8 g9 g10 g11 g12, .bool false])
def ansL (r : LR) (K : Value → Prop) : Prop := br r.ok (K (mkL r)) (bad12 K)
theorem br2 {p q : Bool} {A B C D : Prop} (e : p = q) (h : br q C D) (h1 : C → A) (h2 : D → B) : br p A B := by
  subst e; cases p
  · exact h2 h
  · exact h1 h
def lQ (q a b c d e f a' b' c' d' e' f' : Int) : LR :=
  if q = 0 then ⟨bif iso a' b' c' d' e' f' then meV a b 0 (ntv (isv a' b' c' d' e' f')) else a, bif iso a' b' c' d' e' f' then meM a b 0 (ntv (isv a' b' c' d' e' f')) else b, c, d, e, f, bif iso a b c d e f then meV a' b' 0 (ntv (isv a b c d e f)) else a', bif iso a b c d e f then meM a' b' 0 (ntv (isv a b c d e f)) else b', c', d', e', f', (bif iso a' b' c' d' e' f' then meO a b 0 (ntv (isv a' b' c' d' e' f')) else true) && (bif iso a b c d e f then meO a' b' 0 (ntv (isv a b c d e f)) else true)⟩
  else if q = 1 then ⟨meV a b a' b', meM a b a' b', mxi c c', mni d d', mxi e e', mni f f', meV a b a' b', meM a b a' b', mxi c c', mni d d', mxi e e', mni f f', mtO a b c d e f a' b' c' d' e' f'⟩
  else if q = 5 then ⟨a, b, bif iso a' b' c' d' e' f' then wl c (isv a' b' c' d' e' f') else c, bif iso a' b' c' d' e' f' then wh c d (isv a' b' c' d' e' f') else d, bif iso a' b' c' d' e' f' then wl e (sv (isv a' b' c' d' e' f')) else e, bif iso a' b' c' d' e' f' then wh e f (sv (isv a' b' c' d' e' f')) else f, a', b', bif iso a b c d e f then wl c' (isv a b c d e f) else c', bif iso a b c d e f then wh c' d' (isv a b c d e f) else d', bif iso a b c d e f then wl e' (sv (isv a b c d e f)) else e', bif iso a b c d e f then wh e' f' (sv (isv a b c d e f)) else f', (bif iso a' b' c' d' e' f' then woO c d e f (isv a' b' c' d' e' f') else true) && (bif iso a b c d e f then woO c' d' e' f' (isv a b c d e f) else true)⟩
  else if q = 10 then ⟨a, b, c, leH false d d', e, f, a', b', leL false c c', d', e', f', leO false c d'⟩
  else if q = 11 then ⟨a, b, c, leH true d d', e, f, a', b', leL true c c', d', e', f', leO true c d'⟩
  else if q = 2 then ⟨a, b, leL false c' c, d, e, f, a', b', c', leH false d' d, e', f', leO false c' d⟩
  else if q = 3 then ⟨a, b, leL true c' c, d, e, f, a', b', c', leH true d' d, e', f', leO true c' d⟩
  else if q = 12 then ⟨a, b, c, d, e, leH false f f', a', b', c', d', leL false e e', f', leO false e f'⟩
  else if q = 13 then ⟨a, b, c, d, e, leH true f f', a', b', c', d', leL true e e', f', leO true e f'⟩
  else if q = 6 then ⟨a, b, c, d, leL false e' e, f, a', b', c', d', e', leH false f' f, leO false e' f⟩
  else if q = 7 then ⟨a, b, c, d, leL true e' e, f, a', b', c', d', e', leH true f' f, leO true e' f⟩
  else ⟨a, b, c, d, e, f, a', b', c', d', e', f', true⟩
section
variable {a b c d e f a' b' c' d' e' f' : Int} {K : Value → Prop}
theorem lQ_0 : lQ 0 a b c d e f a' b' c' d' e' f' = ⟨bif iso a' b' c' d' e' f' then meV a b 0 (ntv (isv a' b' c' d' e' f')) else a, bif iso a' b' c' d' e' f' then meM a b 0 (ntv (isv a' b' c' d' e' f')) else b, c, d, e, f, bif iso a b c d e f then meV a' b' 0 (ntv (isv a b c d e f)) else a', bif iso a b c d e f then meM a' b' 0 (ntv (isv a b c d e f)) else b', c', d', e', f', (bif iso a' b' c' d' e' f' then meO a b 0 (ntv (isv a' b' c' d' e' f')) else true) && (bif iso a b c d e f then meO a' b' 0 (ntv (isv a b c d e f)) else true)⟩ := by unfold lQ; rw [if_pos rfl]
theorem lQ_1 : lQ 1 a b c d e f a' b' c' d' e' f' = ⟨meV a b a' b', meM a b a' b', mxi c c', mni d d', mxi e e', mni f f', meV a b a' b', meM a b a' b', mxi c c', mni d d', mxi e e', mni f f', mtO a b c d e f a' b' c' d' e' f'⟩ := by unfold lQ; rw [if_neg (by decide), if_pos rfl]
theorem lQ_5 : lQ 5 a b c d e f a' b' c' d' e' f' = ⟨a, b, bif iso a' b' c' d' e' f' then wl c (isv a' b' c' d' e' f') else c, bif iso a' b' c' d' e' f' then wh c d (isv a' b' c' d' e' f') else d, bif iso a' b' c' d' e' f' then wl e (sv (isv a' b' c' d' e' f')) else e, bif iso a' b' c' d' e' f' then wh e f (sv (isv a' b' c' d' e' f')) else f, a', b', bif iso a b c d e f then wl c' (isv a b c d e f) else c', bif iso a b c d e f then wh c' d' (isv a b c d e f) else d', bif iso a b c d e f then wl e' (sv (isv a b c d e f)) else e', bif iso a b c d e f then wh e' f' (sv (isv a b c d e f)) else f', (bif iso a' b' c' d' e' f' then woO c d e f (isv a' b' c' d' e' f') else true) && (bif iso a b c d e f then woO c' d' e' f' (isv a b c d e f) else true)⟩ := by unfold lQ; rw [if_neg (by decide), if_neg (by decide), if_pos rfl]
theorem lQ_10 : lQ 10 a b c d e f a' b' c' d' e' f' = ⟨a, b, c, leH false d d', e, f, a', b', leL false c c', d', e', f', leO false c d'⟩ := by unfold lQ; rw [if_neg (by decide), if_neg (by decide), if_neg (by decide), if_pos rfl]
theorem lQ_11 : lQ 11 a b c d e f a' b' c' d' e' f' = ⟨a, b, c, leH true d d', e, f, a', b', leL true c c', d', e', f', leO true c d'⟩ := by unfold lQ; rw [if_neg (by decide), if_neg (by decide), if_neg (by decide), if_neg (by decide), if_pos rfl]
theorem lQ_2 : lQ 2 a b c d e f a' b' c' d' e' f' = ⟨a, b, leL false c' c, d, e, f, a', b', c', leH false d' d, e', f', leO false c' d⟩ := by unfold lQ; rw [if_neg (by decide), if_neg (by decide), if_neg (by decide), if_neg (by decide), if_neg (by decide), if_pos rfl]
theorem lQ_3 : lQ 3 a b c d e f a' b' c' d' e' f' = ⟨a, b, leL true c' c, d, e, f, a', b', c', leH true d' d, e', f', leO true c' d⟩ := by unfold lQ; rw [if_neg (by decide), if_neg (by decide), if_neg (by decide), if_neg (by decide), if_neg (by decide), if_neg (by decide), if_pos rfl]
theorem lQ_12 : lQ 12 a b c d e f a' b' c' d' e' f' = ⟨a, b, c, d, e, leH false f f', a', b', c', d', leL false e e', f', leO false e f'⟩ := by unfold lQ; rw [if_neg (by decide), if_neg (by decide), if_neg (by decide), if_neg (by decide), if_neg (by decide), if_neg (by decide), if_neg (by decide), if_pos rfl]
theorem lQ_13 : lQ 13 a b c d e f a' b' c' d' e' f' = ⟨a, b, c, d, e, leH true f f', a', b', c', d', leL true e e', f', leO true e f'⟩ := by unfold lQ; rw [if_neg (by decide), if_neg (by decide), if_neg (by decide), if_neg (by decide), if_neg (by decide), if_neg (by decide), if_neg (by decide), if_neg (by decide), if_pos rfl]
theorem lQ_6 : lQ 6 a b c d e f a' b' c' d' e' f' = ⟨a, b, c, d, leL false e' e, f, a', b', c', d', e', leH false f' f, leO false e' f⟩ := by unfold lQ; rw [if_neg (by decide), if_neg (by decide), if_neg (by decide), if_neg (by decide), if_neg (by decide), if_neg (by decide), if_neg (by decide), if_neg (by decide), if_neg (by decide), if_pos rfl]
theorem lQ_7 : lQ 7 a b c d e f a' b' c' d' e' f' = ⟨a, b, c, d, leL true e' e, f, a', b', c', d', e', leH true f' f, leO true e' f⟩ := by unfold lQ; rw [if_neg (by decide), if_neg (by decide), if_neg (by decide), if_neg (by decide), if_neg (by decide), if_neg (by decide), if_neg (by decide), if_neg (by decide), if_neg (by decide), if_neg (by decide), if_pos rfl]
theorem lQ_4 : lQ 4 a b c d e f a' b' c' d' e' f' = ⟨a, b, c, d, e, f, a', b', c', d', e', f', true⟩ := by unfold lQ; rw [if_neg (by decide), if_neg (by decide), if_neg (by decide), if_neg (by decide), if_neg (by decide), if_neg (by decide), if_neg (by decide), if_neg (by decide), if_neg (by decide), if_neg (by decide), if_neg (by decide)]
theorem oQ0 (M : MayQ a b c d e f) (M' : MayQ a' b' c' d' e' f') (I : i6 e ∧ i6 f) (I' : i6 e' ∧ i6 f') (ua : u6 a) (ua' : u6 a') (h : ansL (lQ 0 a b c d e f a' b' c' d' e' f') K) : nQ0 a b c d e f a' b' c' d' e' f' K := by
  have n1 : dj a b ∧ dj a' b' := ⟨M.dj, M'.dj⟩
  have n2 : ((u6 c ∧ u6 d) ∧ c ≤ d) ∧ (i6 e ∧ i6 f) ∧ e ≤ f := ⟨⟨⟨M.uc, M.ud⟩, M.cd⟩, I, M.ef⟩
  have n3 : ((u6 c' ∧ u6 d') ∧ c' ≤ d') ∧ (i6 e' ∧ i6 f') ∧ e' ≤ f' := ⟨⟨⟨M'.uc, M'.ud⟩, M'.cd⟩, I', M'.ef⟩
  have uv : u6 (isv a b c d e f) := isv_u ⟨ua, M.uc⟩
  have uw : u6 (isv a' b' c' d' e' f') := isv_u ⟨ua', M'.uc⟩
  have n4 : dj a b ∧ u6 (isv a' b' c' d' e' f') := ⟨M.dj, uw⟩
  have n5 : dj a' b' ∧ u6 (isv a b c d e f) := ⟨M'.dj, uv⟩
  have n6 : dj a b ∧ dj 0 (ntv (isv a' b' c' d' e' f')) := ⟨M.dj, dj_n uw⟩
  have n7 : dj a' b' ∧ dj 0 (ntv (isv a b c d e f)) := ⟨M'.dj, dj_n uv⟩
  have n8 : (i6 e ∧ i6 f) ∧ i6 e' ∧ i6 f' := ⟨I, I'⟩
  have n9 : (i6 e' ∧ i6 f') ∧ i6 e ∧ i6 f := ⟨I', I⟩
  have n10 : (u6 c ∧ u6 d) ∧ u6 c' ∧ u6 d' := ⟨⟨M.uc, M.ud⟩, M'.uc, M'.ud⟩
  have n11 : (u6 c' ∧ u6 d') ∧ u6 c ∧ u6 d := ⟨⟨M'.uc, M'.ud⟩, M.uc, M.ud⟩
  have n12 : ((u6 c ∧ u6 d) ∧ u6 c' ∧ u6 d') ∧ c ≤ d ∧ c' ≤ d' := ⟨n10, M.cd, M'.cd⟩
  have n13 : ((u6 c' ∧ u6 d') ∧ u6 c ∧ u6 d) ∧ c' ≤ d' ∧ c ≤ d := ⟨n11, M'.cd, M.cd⟩
  have n14 : ((i6 e ∧ i6 f) ∧ i6 e' ∧ i6 f') ∧ e ≤ f ∧ e' ≤ f' := ⟨n8, M.ef, M'.ef⟩
  have n15 : ((i6 e' ∧ i6 f') ∧ i6 e ∧ i6 f) ∧ e' ≤ f' ∧ e ≤ f := ⟨n9, M'.ef, M.ef⟩
  rw [nQ0_eq]
  simp only [ntE]
  rw [lQ_0] at h
  dsimp only [ansL, mkL, bad12] at h
  revert h
  cases g1 : iso a b c d e f <;> cases g2 : iso a' b' c' d' e' f' <;> cases g3 : meO a b 0 (ntv (isv a' b' c' d' e' f')) <;> cases g4 : meO a' b' 0 (ntv (isv a b c d e f)) <;> intro h <;> (repeat (first
    | exact h | exact h _ _ _ _ _ _ _ _ _ _ _ _
    | with_reducible refine ob_self ?_ | with_reducible refine ob_true ?_
    | ((with_reducible refine nm_intro ?_); intro r hr; subst hr)
    | refine br_yes rfl ?_ | refine br_no rfl ?_ | refine br_yes (by assumption) ?_ | refine br_no (by assumption) ?_
    | refine And.intro (by assumption) ?_
    | refine br2 rfl h (fun h => ?_) (fun h => ?_)
    | intro _))
theorem oQ1 (M : MayQ a b c d e f) (M' : MayQ a' b' c' d' e' f') (I : i6 e ∧ i6 f) (I' : i6 e' ∧ i6 f') (ua : u6 a) (ua' : u6 a') (h : ansL (lQ 1 a b c d e f a' b' c' d' e' f') K) : nQ1 a b c d e f a' b' c' d' e' f' K := by
  have n1 : dj a b ∧ dj a' b' := ⟨M.dj, M'.dj⟩
  have n2 : ((u6 c ∧ u6 d) ∧ c ≤ d) ∧ (i6 e ∧ i6 f) ∧ e ≤ f := ⟨⟨⟨M.uc, M.ud⟩, M.cd⟩, I, M.ef⟩
  have n3 : ((u6 c' ∧ u6 d') ∧ c' ≤ d') ∧ (i6 e' ∧ i6 f') ∧ e' ≤ f' := ⟨⟨⟨M'.uc, M'.ud⟩, M'.cd⟩, I', M'.ef⟩
  have uv : u6 (isv a b c d e f) := isv_u ⟨ua, M.uc⟩
  have uw : u6 (isv a' b' c' d' e' f') := isv_u ⟨ua', M'.uc⟩
  have n4 : dj a b ∧ u6 (isv a' b' c' d' e' f') := ⟨M.dj, uw⟩
  have n5 : dj a' b' ∧ u6 (isv a b c d e f) := ⟨M'.dj, uv⟩
  have n6 : dj a b ∧ dj 0 (ntv (isv a' b' c' d' e' f')) := ⟨M.dj, dj_n uw⟩
  have n7 : dj a' b' ∧ dj 0 (ntv (isv a b c d e f)) := ⟨M'.dj, dj_n uv⟩
  have n8 : (i6 e ∧ i6 f) ∧ i6 e' ∧ i6 f' := ⟨I, I'⟩
  have n9 : (i6 e' ∧ i6 f') ∧ i6 e ∧ i6 f := ⟨I', I⟩
  have n10 : (u6 c ∧ u6 d) ∧ u6 c' ∧ u6 d' := ⟨⟨M.uc, M.ud⟩, M'.uc, M'.ud⟩
  have n11 : (u6 c' ∧ u6 d') ∧ u6 c ∧ u6 d := ⟨⟨M'.uc, M'.ud⟩, M.uc, M.ud⟩
  have n12 : ((u6 c ∧ u6 d) ∧ u6 c' ∧ u6 d') ∧ c ≤ d ∧ c' ≤ d' := ⟨n10, M.cd, M'.cd⟩
  have n13 : ((u6 c' ∧ u6 d') ∧ u6 c ∧ u6 d) ∧ c' ≤ d' ∧ c ≤ d := ⟨n11, M'.cd, M.cd⟩
  have n14 : ((i6 e ∧ i6 f) ∧ i6 e' ∧ i6 f') ∧ e ≤ f ∧ e' ≤ f' := ⟨n8, M.ef, M'.ef⟩
  have n15 : ((i6 e' ∧ i6 f') ∧ i6 e ∧ i6 f) ∧ e' ≤ f' ∧ e ≤ f := ⟨n9, M'.ef, M.ef⟩
  rw [nQ1_eq]
  rw [lQ_1] at h
  dsimp only [ansL, mkL, bad12] at h
  (repeat (first
    | exact h | exact h _ _ _ _ _ _ _ _ _ _ _ _
    | with_reducible refine ob_self ?_ | with_reducible refine ob_true ?_
    | ((with_reducible refine nm_intro ?_); intro r hr; subst hr)
    | refine br_yes rfl ?_ | refine br_no rfl ?_ | refine br_yes (by assumption) ?_ | refine br_no (by assumption) ?_
    | refine And.intro (by assumption) ?_
    | refine br2 rfl h (fun h => ?_) (fun h => ?_)
    | intro _))
theorem oQ5 (M : MayQ a b c d e f) (M' : MayQ a' b' c' d' e' f') (I : i6 e ∧ i6 f) (I' : i6 e' ∧ i6 f') (ua : u6 a) (ua' : u6 a') (h : ansL (lQ 5 a b c d e f a' b' c' d' e' f') K) : nQ5 a b c d e f a' b' c' d' e' f' K := by
  have n1 : dj a b ∧ dj a' b' := ⟨M.dj, M'.dj⟩
  have n2 : ((u6 c ∧ u6 d) ∧ c ≤ d) ∧ (i6 e ∧ i6 f) ∧ e ≤ f := ⟨⟨⟨M.uc, M.ud⟩, M.cd⟩, I, M.ef⟩
  have n3 : ((u6 c' ∧ u6 d') ∧ c' ≤ d') ∧ (i6 e' ∧ i6 f') ∧ e' ≤ f' := ⟨⟨⟨M'.uc, M'.ud⟩, M'.cd⟩, I', M'.ef⟩
  have uv : u6 (isv a b c d e f) := isv_u ⟨ua, M.uc⟩
  have uw : u6 (isv a' b' c' d' e' f') := isv_u ⟨ua', M'.uc⟩
  have n4 : dj a b ∧ u6 (isv a' b' c' d' e' f') := ⟨M.dj, uw⟩
  have n5 : dj a' b' ∧ u6 (isv a b c d e f) := ⟨M'.dj, uv⟩
  have n6 : dj a b ∧ dj 0 (ntv (isv a' b' c' d' e' f')) := ⟨M.dj, dj_n uw⟩
  have n7 : dj a' b' ∧ dj 0 (ntv (isv a b c d e f)) := ⟨M'.dj, dj_n uv⟩
  have n8 : (i6 e ∧ i6 f) ∧ i6 e' ∧ i6 f' := ⟨I, I'⟩
  have n9 : (i6 e' ∧ i6 f') ∧ i6 e ∧ i6 f := ⟨I', I⟩
  have n10 : (u6 c ∧ u6 d) ∧ u6 c' ∧ u6 d' := ⟨⟨M.uc, M.ud⟩, M'.uc, M'.ud⟩
  have n11 : (u6 c' ∧ u6 d') ∧ u6 c ∧ u6 d := ⟨⟨M'.uc, M'.ud⟩, M.uc, M.ud⟩
  have n12 : ((u6 c ∧ u6 d) ∧ u6 c' ∧ u6 d') ∧ c ≤ d ∧ c' ≤ d' := ⟨n10, M.cd, M'.cd⟩
  have n13 : ((u6 c' ∧ u6 d') ∧ u6 c ∧ u6 d) ∧ c' ≤ d' ∧ c ≤ d := ⟨n11, M'.cd, M.cd⟩
  have n14 : ((i6 e ∧ i6 f) ∧ i6 e' ∧ i6 f') ∧ e ≤ f ∧ e' ≤ f' := ⟨n8, M.ef, M'.ef⟩
  have n15 : ((i6 e' ∧ i6 f') ∧ i6 e ∧ i6 f) ∧ e' ≤ f' ∧ e ≤ f := ⟨n9, M'.ef, M.ef⟩
  rw [nQ5_eq]
  rw [lQ_5] at h
  dsimp only [ansL, mkL, bad12] at h
  revert h
  cases g1 : iso a b c d e f <;> cases g2 : iso a' b' c' d' e' f' <;> cases g3 : woO c d e f (isv a' b' c' d' e' f') <;> cases g4 : woO c' d' e' f' (isv a b c d e f) <;> intro h <;> (repeat (first
    | exact h | exact h _ _ _ _ _ _ _ _ _ _ _ _
    | with_reducible refine ob_self ?_ | with_reducible refine ob_true ?_
    | ((with_reducible refine nm_intro ?_); intro r hr; subst hr)
    | refine br_yes rfl ?_ | refine br_no rfl ?_ | refine br_yes (by assumption) ?_ | refine br_no (by assumption) ?_
    | refine And.intro (by assumption) ?_
    | refine br2 rfl h (fun h => ?_) (fun h => ?_)
    | intro _))
theorem oQ10 (M : MayQ a b c d e f) (M' : MayQ a' b' c' d' e' f') (I : i6 e ∧ i6 f) (I' : i6 e' ∧ i6 f') (ua : u6 a) (ua' : u6 a') (h : ansL (lQ 10 a b c d e f a' b' c' d' e' f') K) : nQ10 a b c d e f a' b' c' d' e' f' K := by
  have n1 : dj a b ∧ dj a' b' := ⟨M.dj, M'.dj⟩
  have n2 : ((u6 c ∧ u6 d) ∧ c ≤ d) ∧ (i6 e ∧ i6 f) ∧ e ≤ f := ⟨⟨⟨M.uc, M.ud⟩, M.cd⟩, I, M.ef⟩
  have n3 : ((u6 c' ∧ u6 d') ∧ c' ≤ d') ∧ (i6 e' ∧ i6 f') ∧ e' ≤ f' := ⟨⟨⟨M'.uc, M'.ud⟩, M'.cd⟩, I', M'.ef⟩
  have uv : u6 (isv a b c d e f) := isv_u ⟨ua, M.uc⟩
  have uw : u6 (isv a' b' c' d' e' f') := isv_u ⟨ua', M'.uc⟩
  have n4 : dj a b ∧ u6 (isv a' b' c' d' e' f') := ⟨M.dj, uw⟩
  have n5 : dj a' b' ∧ u6 (isv a b c d e f) := ⟨M'.dj, uv⟩
  have n6 : dj a b ∧ dj 0 (ntv (isv a' b' c' d' e' f')) := ⟨M.dj, dj_n uw⟩
  have n7 : dj a' b' ∧ dj 0 (ntv (isv a b c d e f)) := ⟨M'.dj, dj_n uv⟩
  have n8 : (i6 e ∧ i6 f) ∧ i6 e' ∧ i6 f' := ⟨I, I'⟩
  have n9 : (i6 e' ∧ i6 f') ∧ i6 e ∧ i6 f := ⟨I', I⟩
  have n10 : (u6 c ∧ u6 d) ∧ u6 c' ∧ u6 d' := ⟨⟨M.uc, M.ud⟩, M'.uc, M'.ud⟩
  have n11 : (u6 c' ∧ u6 d') ∧ u6 c ∧ u6 d := ⟨⟨M'.uc, M'.ud⟩, M.uc, M.ud⟩
  have n12 : ((u6 c ∧ u6 d) ∧ u6 c' ∧ u6 d') ∧ c ≤ d ∧ c' ≤ d' := ⟨n10, M.cd, M'.cd⟩
  have n13 : ((u6 c' ∧ u6 d') ∧ u6 c ∧ u6 d) ∧ c' ≤ d' ∧ c ≤ d := ⟨n11, M'.cd, M.cd⟩
  have n14 : ((i6 e ∧ i6 f) ∧ i6 e' ∧ i6 f') ∧ e ≤ f ∧ e' ≤ f' := ⟨n8, M.ef, M'.ef⟩
  have n15 : ((i6 e' ∧ i6 f') ∧ i6 e ∧ i6 f) ∧ e' ≤ f' ∧ e ≤ f := ⟨n9, M'.ef, M.ef⟩
  rw [nQ10_eq]
  rw [lQ_10] at h
  dsimp only [ansL, mkL, bad12] at h
  (repeat (first
    | exact h | exact h _ _ _ _ _ _ _ _ _ _ _ _
    | with_reducible refine ob_self ?_ | with_reducible refine ob_true ?_
    | ((with_reducible refine nm_intro ?_); intro r hr; subst hr)
    | refine br_yes rfl ?_ | refine br_no rfl ?_ | refine br_yes (by assumption) ?_ | refine br_no (by assumption) ?_
    | refine And.intro (by assumption) ?_
    | refine br2 rfl h (fun h => ?_) (fun h => ?_)
    | intro _))
theorem oQ11 (M : MayQ a b c d e f) (M' : MayQ a' b' c' d' e' f') (I : i6 e ∧ i6 f) (I' : i6 e' ∧ i6 f') (ua : u6 a) (ua' : u6 a') (h : ansL (lQ 11 a b c d e f a' b' c' d' e' f') K) : nQ11 a b c d e f a' b' c' d' e' f' K := by
  have n1 : dj a b ∧ dj a' b' := ⟨M.dj, M'.dj⟩
  have n2 : ((u6 c ∧ u6 d) ∧ c ≤ d) ∧ (i6 e ∧ i6 f) ∧ e ≤ f := ⟨⟨⟨M.uc, M.ud⟩, M.cd⟩, I, M.ef⟩
  have n3 : ((u6 c' ∧ u6 d') ∧ c' ≤ d') ∧ (i6 e' ∧ i6 f') ∧ e' ≤ f' := ⟨⟨⟨M'.uc, M'.ud⟩, M'.cd⟩, I', M'.ef⟩
  have uv : u6 (isv a b c d e f) := isv_u ⟨ua, M.uc⟩
  have uw : u6 (isv a' b' c' d' e' f') := isv_u ⟨ua', M'.uc⟩
  have n4 : dj a b ∧ u6 (isv a' b' c' d' e' f') := ⟨M.dj, uw⟩
  have n5 : dj a' b' ∧ u6 (isv a b c d e f) := ⟨M'.dj, uv⟩
  have n6 : dj a b ∧ dj 0 (ntv (isv a' b' c' d' e' f')) := ⟨M.dj, dj_n uw⟩
  have n7 : dj a' b' ∧ dj 0 (ntv (isv a b c d e f)) := ⟨M'.dj, dj_n uv⟩
  have n8 : (i6 e ∧ i6 f) ∧ i6 e' ∧ i6 f' := ⟨I, I'⟩
  have n9 : (i6 e' ∧ i6 f') ∧ i6 e ∧ i6 f := ⟨I', I⟩
  have n10 : (u6 c ∧ u6 d) ∧ u6 c' ∧ u6 d' := ⟨⟨M.uc, M.ud⟩, M'.uc, M'.ud⟩
  have n11 : (u6 c' ∧ u6 d') ∧ u6 c ∧ u6 d := ⟨⟨M'.uc, M'.ud⟩, M.uc, M.ud⟩
  have n12 : ((u6 c ∧ u6 d) ∧ u6 c' ∧ u6 d') ∧ c ≤ d ∧ c' ≤ d' := ⟨n10, M.cd, M'.cd⟩
  have n13 : ((u6 c' ∧ u6 d') ∧ u6 c ∧ u6 d) ∧ c' ≤ d' ∧ c ≤ d := ⟨n11, M'.cd, M.cd⟩
  have n14 : ((i6 e ∧ i6 f) ∧ i6 e' ∧ i6 f') ∧ e ≤ f ∧ e' ≤ f' := ⟨n8, M.ef, M'.ef⟩
  have n15 : ((i6 e' ∧ i6 f') ∧ i6 e ∧ i6 f) ∧ e' ≤ f' ∧ e ≤ f := ⟨n9, M'.ef, M.ef⟩
  rw [nQ11_eq]
  rw [lQ_11] at h
  dsimp only [ansL, mkL, bad12] at h
  (repeat (first
    | exact h | exact h _ _ _ _ _ _ _ _ _ _ _ _
    | with_reducible refine ob_self ?_ | with_reducible refine ob_true ?_
    | ((with_reducible refine nm_intro ?_); intro r hr; subst hr)
    | refine br_yes rfl ?_ | refine br_no rfl ?_ | refine br_yes (by assumption) ?_ | refine br_no (by assumption) ?_
    | refine And.intro (by assumption) ?_
    | refine br2 rfl h (fun h => ?_) (fun h => ?_)
    | intro _))
theorem oQ2 (M : MayQ a b c d e f) (M' : MayQ a' b' c' d' e' f') (I : i6 e ∧ i6 f) (I' : i6 e' ∧ i6 f') (ua : u6 a) (ua' : u6 a') (h : ansL (lQ 2 a b c d e f a' b' c' d' e' f') K) : nQ2 a b c d e f a' b' c' d' e' f' K := by
  have n1 : dj a b ∧ dj a' b' := ⟨M.dj, M'.dj⟩
  have n2 : ((u6 c ∧ u6 d) ∧ c ≤ d) ∧ (i6 e ∧ i6 f) ∧ e ≤ f := ⟨⟨⟨M.uc, M.ud⟩, M.cd⟩, I, M.ef⟩
  have n3 : ((u6 c' ∧ u6 d') ∧ c' ≤ d') ∧ (i6 e' ∧ i6 f') ∧ e' ≤ f' := ⟨⟨⟨M'.uc, M'.ud⟩, M'.cd⟩, I', M'.ef⟩
  have uv : u6 (isv a b c d e f) := isv_u ⟨ua, M.uc⟩
  have uw : u6 (isv a' b' c' d' e' f') := isv_u ⟨ua', M'.uc⟩
  have n4 : dj a b ∧ u6 (isv a' b' c' d' e' f') := ⟨M.dj, uw⟩
  have n5 : dj a' b' ∧ u6 (isv a b c d e f) := ⟨M'.dj, uv⟩
  have n6 : dj a b ∧ dj 0 (ntv (isv a' b' c' d' e' f')) := ⟨M.dj, dj_n uw⟩
  have n7 : dj a' b' ∧ dj 0 (ntv (isv a b c d e f)) := ⟨M'.dj, dj_n uv⟩
  have n8 : (i6 e ∧ i6 f) ∧ i6 e' ∧ i6 f' := ⟨I, I'⟩
  have n9 : (i6 e' ∧ i6 f') ∧ i6 e ∧ i6 f := ⟨I', I⟩
  have n10 : (u6 c ∧ u6 d) ∧ u6 c' ∧ u6 d' := ⟨⟨M.uc, M.ud⟩, M'.uc, M'.ud⟩
  have n11 : (u6 c' ∧ u6 d') ∧ u6 c ∧ u6 d := ⟨⟨M'.uc, M'.ud⟩, M.uc, M.ud⟩
  have n12 : ((u6 c ∧ u6 d) ∧ u6 c' ∧ u6 d') ∧ c ≤ d ∧ c' ≤ d' := ⟨n10, M.cd, M'.cd⟩
  have n13 : ((u6 c' ∧ u6 d') ∧ u6 c ∧ u6 d) ∧ c' ≤ d' ∧ c ≤ d := ⟨n11, M'.cd, M.cd⟩
  have n14 : ((i6 e ∧ i6 f) ∧ i6 e' ∧ i6 f') ∧ e ≤ f ∧ e' ≤ f' := ⟨n8, M.ef, M'.ef⟩
  have n15 : ((i6 e' ∧ i6 f') ∧ i6 e ∧ i6 f) ∧ e' ≤ f' ∧ e ≤ f := ⟨n9, M'.ef, M.ef⟩
  rw [nQ2_eq]
  rw [lQ_2] at h
  dsimp only [ansL, mkL, bad12] at h
  (repeat (first
    | exact h | exact h _ _ _ _ _ _ _ _ _ _ _ _
    | with_reducible refine ob_self ?_ | with_reducible refine ob_true ?_
    | ((with_reducible refine nm_intro ?_); intro r hr; subst hr)
    | refine br_yes rfl ?_ | refine br_no rfl ?_ | refine br_yes (by assumption) ?_ | refine br_no (by assumption) ?_
    | refine And.intro (by assumption) ?_
    | refine br2 rfl h (fun h => ?_) (fun h => ?_)
    | intro _))
theorem oQ3 (M : MayQ a b c d e f) (M' : MayQ a' b' c' d' e' f') (I : i6 e ∧ i6 f) (I' : i6 e' ∧ i6 f') (ua : u6 a) (ua' : u6 a') (h : ansL (lQ 3 a b c d e f a' b' c' d' e' f') K) : nQ3 a b c d e f a' b' c' d' e' f' K := by
  have n1 : dj a b ∧ dj a' b' := ⟨M.dj, M'.dj⟩
  have n2 : ((u6 c ∧ u6 d) ∧ c ≤ d) ∧ (i6 e ∧ i6 f) ∧ e ≤ f := ⟨⟨⟨M.uc, M.ud⟩, M.cd⟩, I, M.ef⟩
  have n3 : ((u6 c' ∧ u6 d') ∧ c' ≤ d') ∧ (i6 e' ∧ i6 f') ∧ e' ≤ f' := ⟨⟨⟨M'.uc, M'.ud⟩, M'.cd⟩, I', M'.ef⟩
  have uv : u6 (isv a b c d e f) := isv_u ⟨ua, M.uc⟩
  have uw : u6 (isv a' b' c' d' e' f') := isv_u ⟨ua', M'.uc⟩
  have n4 : dj a b ∧ u6 (isv a' b' c' d' e' f') := ⟨M.dj, uw⟩
  have n5 : dj a' b' ∧ u6 (isv a b c d e f) := ⟨M'.dj, uv⟩
  have n6 : dj a b ∧ dj 0 (ntv (isv a' b' c' d' e' f')) := ⟨M.dj, dj_n uw⟩
  have n7 : dj a' b' ∧ dj 0 (ntv (isv a b c d e f)) := ⟨M'.dj, dj_n uv⟩
  have n8 : (i6 e ∧ i6 f) ∧ i6 e' ∧ i6 f' := ⟨I, I'⟩
  have n9 : (i6 e' ∧ i6 f') ∧ i6 e ∧ i6 f := ⟨I', I⟩
  have n10 : (u6 c ∧ u6 d) ∧ u6 c' ∧ u6 d' := ⟨⟨M.uc, M.ud⟩, M'.uc, M'.ud⟩
  have n11 : (u6 c' ∧ u6 d') ∧ u6 c ∧ u6 d := ⟨⟨M'.uc, M'.ud⟩, M.uc, M.ud⟩
  have n12 : ((u6 c ∧ u6 d) ∧ u6 c' ∧ u6 d') ∧ c ≤ d ∧ c' ≤ d' := ⟨n10, M.cd, M'.cd⟩
  have n13 : ((u6 c' ∧ u6 d') ∧ u6 c ∧ u6 d) ∧ c' ≤ d' ∧ c ≤ d := ⟨n11, M'.cd, M.cd⟩
  have n14 : ((i6 e ∧ i6 f) ∧ i6 e' ∧ i6 f') ∧ e ≤ f ∧ e' ≤ f' := ⟨n8, M.ef, M'.ef⟩
  have n15 : ((i6 e' ∧ i6 f') ∧ i6 e ∧ i6 f) ∧ e' ≤ f' ∧ e ≤ f := ⟨n9, M'.ef, M.ef⟩
  rw [nQ3_eq]
  rw [lQ_3] at h
  dsimp only [ansL, mkL, bad12] at h
  (repeat (first
    | exact h | exact h _ _ _ _ _ _ _ _ _ _ _ _
    | with_reducible refine ob_self ?_ | with_reducible refine ob_true ?_
    | ((with_reducible refine nm_intro ?_); intro r hr; subst hr)
    | refine br_yes rfl ?_ | refine br_no rfl ?_ | refine br_yes (by assumption) ?_ | refine br_no (by assumption) ?_
    | refine And.intro (by assumption) ?_
    | refine br2 rfl h (fun h => ?_) (fun h => ?_)
    | intro _))
theorem oQ12 (M : MayQ a b c d e f) (M' : MayQ a' b' c' d' e' f') (I : i6 e ∧ i6 f) (I' : i6 e' ∧ i6 f') (ua : u6 a) (ua' : u6 a') (h : ansL (lQ 12 a b c d e f a' b' c' d' e' f') K) : nQ12 a b c d e f a' b' c' d' e' f' K := by
  have n1 : dj a b ∧ dj a' b' := ⟨M.dj, M'.dj⟩
  have n2 : ((u6 c ∧ u6 d) ∧ c ≤ d) ∧ (i6 e ∧ i6 f) ∧ e ≤ f := ⟨⟨⟨M.uc, M.ud⟩, M.cd⟩, I, M.ef⟩
  have n3 : ((u6 c' ∧ u6 d') ∧ c' ≤ d') ∧ (i6 e' ∧ i6 f') ∧ e' ≤ f' := ⟨⟨⟨M'.uc, M'.ud⟩, M'.cd⟩, I', M'.ef⟩
  have uv : u6 (isv a b c d e f) := isv_u ⟨ua, M.uc⟩
  have uw : u6 (isv a' b' c' d' e' f') := isv_u ⟨ua', M'.uc⟩
  have n4 : dj a b ∧ u6 (isv a' b' c' d' e' f') := ⟨M.dj, uw⟩
  have n5 : dj a' b' ∧ u6 (isv a b c d e f) := ⟨M'.dj, uv⟩
  have n6 : dj a b ∧ dj 0 (ntv (isv a' b' c' d' e' f')) := ⟨M.dj, dj_n uw⟩
  have n7 : dj a' b' ∧ dj 0 (ntv (isv a b c d e f)) := ⟨M'.dj, dj_n uv⟩
  have n8 : (i6 e ∧ i6 f) ∧ i6 e' ∧ i6 f' := ⟨I, I'⟩
  have n9 : (i6 e' ∧ i6 f') ∧ i6 e ∧ i6 f := ⟨I', I⟩
  have n10 : (u6 c ∧ u6 d) ∧ u6 c' ∧ u6 d' := ⟨⟨M.uc, M.ud⟩, M'.uc, M'.ud⟩
  have n11 : (u6 c' ∧ u6 d') ∧ u6 c ∧ u6 d := ⟨⟨M'.uc, M'.ud⟩, M.uc, M.ud⟩
  have n12 : ((u6 c ∧ u6 d) ∧ u6 c' ∧ u6 d') ∧ c ≤ d ∧ c' ≤ d' := ⟨n10, M.cd, M'.cd⟩
  have n13 : ((u6 c' ∧ u6 d') ∧ u6 c ∧ u6 d) ∧ c' ≤ d' ∧ c ≤ d := ⟨n11, M'.cd, M.cd⟩
  have n14 : ((i6 e ∧ i6 f) ∧ i6 e' ∧ i6 f') ∧ e ≤ f ∧ e' ≤ f' := ⟨n8, M.ef, M'.ef⟩
  have n15 : ((i6 e' ∧ i6 f') ∧ i6 e ∧ i6 f) ∧ e' ≤ f' ∧ e ≤ f := ⟨n9, M'.ef, M.ef⟩
  rw [nQ12_eq]
  rw [lQ_12] at h
  dsimp only [ansL, mkL, bad12] at h
  (repeat (first
    | exact h | exact h _ _ _ _ _ _ _ _ _ _ _ _
    | with_reducible refine ob_self ?_ | with_reducible refine ob_true ?_
    | ((with_reducible refine nm_intro ?_); intro r hr; subst hr)
    | refine br_yes rfl ?_ | refine br_no rfl ?_ | refine br_yes (by assumption) ?_ | refine br_no (by assumption) ?_
    | refine And.intro (by assumption) ?_
    | refine br2 rfl h (fun h => ?_) (fun h => ?_)
    | intro _))
theorem oQ13 (M : MayQ a b c d e f) (M' : MayQ a' b' c' d' e' f') (I : i6 e ∧ i6 f) (I' : i6 e' ∧ i6 f') (ua : u6 a) (ua' : u6 a') (h : ansL (lQ 13 a b c d e f a' b' c' d' e' f') K) : nQ13 a b c d e f a' b' c' d' e' f' K := by
  have n1 : dj a b ∧ dj a' b' := ⟨M.dj, M'.dj⟩
  have n2 : ((u6 c ∧ u6 d) ∧ c ≤ d) ∧ (i6 e ∧ i6 f) ∧ e ≤ f := ⟨⟨⟨M.uc, M.ud⟩, M.cd⟩, I, M.ef⟩
  have n3 : ((u6 c' ∧ u6 d') ∧ c' ≤ d') ∧ (i6 e' ∧ i6 f') ∧ e' ≤ f' := ⟨⟨⟨M'.uc, M'.ud⟩, M'.cd⟩, I', M'.ef⟩
  have uv : u6 (isv a b c d e f) := isv_u ⟨ua, M.uc⟩
  have uw : u6 (isv a' b' c' d' e' f') := isv_u ⟨ua', M'.uc⟩
  have n4 : dj a b ∧ u6 (isv a' b' c' d' e' f') := ⟨M.dj, uw⟩
  have n5 : dj a' b' ∧ u6 (isv a b c d e f) := ⟨M'.dj, uv⟩
  have n6 : dj a b ∧ dj 0 (ntv (isv a' b' c' d' e' f')) := ⟨M.dj, dj_n uw⟩
  have n7 : dj a' b' ∧ dj 0 (ntv (isv a b c d e f)) := ⟨M'.dj, dj_n uv⟩
  have n8 : (i6 e ∧ i6 f) ∧ i6 e' ∧ i6 f' := ⟨I, I'⟩
  have n9 : (i6 e' ∧ i6 f') ∧ i6 e ∧ i6 f := ⟨I', I⟩
  have n10 : (u6 c ∧ u6 d) ∧ u6 c' ∧ u6 d' := ⟨⟨M.uc, M.ud⟩, M'.uc, M'.ud⟩
  have n11 : (u6 c' ∧ u6 d') ∧ u6 c ∧ u6 d := ⟨⟨M'.uc, M'.ud⟩, M.uc, M.ud⟩
  have n12 : ((u6 c ∧ u6 d) ∧ u6 c' ∧ u6 d') ∧ c ≤ d ∧ c' ≤ d' := ⟨n10, M.cd, M'.cd⟩
  have n13 : ((u6 c' ∧ u6 d') ∧ u6 c ∧ u6 d) ∧ c' ≤ d' ∧ c ≤ d := ⟨n11, M'.cd, M.cd⟩
  have n14 : ((i6 e ∧ i6 f) ∧ i6 e' ∧ i6 f') ∧ e ≤ f ∧ e' ≤ f' := ⟨n8, M.ef, M'.ef⟩
  have n15 : ((i6 e' ∧ i6 f') ∧ i6 e ∧ i6 f) ∧ e' ≤ f' ∧ e ≤ f := ⟨n9, M'.ef, M.ef⟩
  rw [nQ13_eq]
  rw [lQ_13] at h
  dsimp only [ansL, mkL, bad12] at h
  (repeat (first
    | exact h | exact h _ _ _ _ _ _ _ _ _ _ _ _
    | with_reducible refine ob_self ?_ | with_reducible refine ob_true ?_
    | ((with_reducible refine nm_intro ?_); intro r hr; subst hr)
    | refine br_yes rfl ?_ | refine br_no rfl ?_ | refine br_yes (by assumption) ?_ | refine br_no (by assumption) ?_
    | refine And.intro (by assumption) ?_
    | refine br2 rfl h (fun h => ?_) (fun h => ?_)
    | intro _))
theorem oQ6 (M : MayQ a b c d e f) (M' : MayQ a' b' c' d' e' f') (I : i6 e ∧ i6 f) (I' : i6 e' ∧ i6 f') (ua : u6 a) (ua' : u6 a') (h : ansL (lQ 6 a b c d e f a' b' c' d' e' f') K) : nQ6 a b c d e f a' b' c' d' e' f' K := by
  have n1 : dj a b ∧ dj a' b' := ⟨M.dj, M'.dj⟩
  have n2 : ((u6 c ∧ u6 d) ∧ c ≤ d) ∧ (i6 e ∧ i6 f) ∧ e ≤ f := ⟨⟨⟨M.uc, M.ud⟩, M.cd⟩, I, M.ef⟩
  have n3 : ((u6 c' ∧ u6 d') ∧ c' ≤ d') ∧ (i6 e' ∧ i6 f') ∧ e' ≤ f' := ⟨⟨⟨M'.uc, M'.ud⟩, M'.cd⟩, I', M'.ef⟩
  have uv : u6 (isv a b c d e f) := isv_u ⟨ua, M.uc⟩
  have uw : u6 (isv a' b' c' d' e' f') := isv_u ⟨ua', M'.uc⟩
  have n4 : dj a b ∧ u6 (isv a' b' c' d' e' f') := ⟨M.dj, uw⟩
  have n5 : dj a' b' ∧ u6 (isv a b c d e f) := ⟨M'.dj, uv⟩
  have n6 : dj a b ∧ dj 0 (ntv (isv a' b' c' d' e' f')) := ⟨M.dj, dj_n uw⟩
  have n7 : dj a' b' ∧ dj 0 (ntv (isv a b c d e f)) := ⟨M'.dj, dj_n uv⟩
  have n8 : (i6 e ∧ i6 f) ∧ i6 e' ∧ i6 f' := ⟨I, I'⟩
  have n9 : (i6 e' ∧ i6 f') ∧ i6 e ∧ i6 f := ⟨I', I⟩
  have n10 : (u6 c ∧ u6 d) ∧ u6 c' ∧ u6 d' := ⟨⟨M.uc, M.ud⟩, M'.uc, M'.ud⟩
  have n11 : (u6 c' ∧ u6 d') ∧ u6 c ∧ u6 d := ⟨⟨M'.uc, M'.ud⟩, M.uc, M.ud⟩
  have n12 : ((u6 c ∧ u6 d) ∧ u6 c' ∧ u6 d') ∧ c ≤ d ∧ c' ≤ d' := ⟨n10, M.cd, M'.cd⟩
  have n13 : ((u6 c' ∧ u6 d') ∧ u6 c ∧ u6 d) ∧ c' ≤ d' ∧ c ≤ d := ⟨n11, M'.cd, M.cd⟩
  have n14 : ((i6 e ∧ i6 f) ∧ i6 e' ∧ i6 f') ∧ e ≤ f ∧ e' ≤ f' := ⟨n8, M.ef, M'.ef⟩
  have n15 : ((i6 e' ∧ i6 f') ∧ i6 e ∧ i6 f) ∧ e' ≤ f' ∧ e ≤ f := ⟨n9, M'.ef, M.ef⟩
  rw [nQ6_eq]
  rw [lQ_6] at h
  dsimp only [ansL, mkL, bad12] at h
  (repeat (first
    | exact h | exact h _ _ _ _ _ _ _ _ _ _ _ _
    | with_reducible refine ob_self ?_ | with_reducible refine ob_true ?_
    | ((with_reducible refine nm_intro ?_); intro r hr; subst hr)
    | refine br_yes rfl ?_ | refine br_no rfl ?_ | refine br_yes (by assumption) ?_ | refine br_no (by assumption) ?_
    | refine And.intro (by assumption) ?_
    | refine br2 rfl h (fun h => ?_) (fun h => ?_)
    | intro _))
theorem oQ7 (M : MayQ a b c d e f) (M' : MayQ a' b' c' d' e' f') (I : i6 e ∧ i6 f) (I' : i6 e' ∧ i6 f') (ua : u6 a) (ua' : u6 a') (h : ansL (lQ 7 a b c d e f a' b' c' d' e' f') K) : nQ7 a b c d e f a' b' c' d' e' f' K := by
  have n1 : dj a b ∧ dj a' b' := ⟨M.dj, M'.dj⟩
  have n2 : ((u6 c ∧ u6 d) ∧ c ≤ d) ∧ (i6 e ∧ i6 f) ∧ e ≤ f := ⟨⟨⟨M.uc, M.ud⟩, M.cd⟩, I, M.ef⟩
  have n3 : ((u6 c' ∧ u6 d') ∧ c' ≤ d') ∧ (i6 e' ∧ i6 f') ∧ e' ≤ f' := ⟨⟨⟨M'.uc, M'.ud⟩, M'.cd⟩, I', M'.ef⟩
  have uv : u6 (isv a b c d e f) := isv_u ⟨ua, M.uc⟩
  have uw : u6 (isv a' b' c' d' e' f') := isv_u ⟨ua', M'.uc⟩
  have n4 : dj a b ∧ u6 (isv a' b' c' d' e' f') := ⟨M.dj, uw⟩
  have n5 : dj a' b' ∧ u6 (isv a b c d e f) := ⟨M'.dj, uv⟩
  have n6 : dj a b ∧ dj 0 (ntv (isv a' b' c' d' e' f')) := ⟨M.dj, dj_n uw⟩
  have n7 : dj a' b' ∧ dj 0 (ntv (isv a b c d e f)) := ⟨M'.dj, dj_n uv⟩
  have n8 : (i6 e ∧ i6 f) ∧ i6 e' ∧ i6 f' := ⟨I, I'⟩
  have n9 : (i6 e' ∧ i6 f') ∧ i6 e ∧ i6 f := ⟨I', I⟩
  have n10 : (u6 c ∧ u6 d) ∧ u6 c' ∧ u6 d' := ⟨⟨M.uc, M.ud⟩, M'.uc, M'.ud⟩
  have n11 : (u6 c' ∧ u6 d') ∧ u6 c ∧ u6 d := ⟨⟨M'.uc, M'.ud⟩, M.uc, M.ud⟩
  have n12 : ((u6 c ∧ u6 d) ∧ u6 c' ∧ u6 d') ∧ c ≤ d ∧ c' ≤ d' := ⟨n10, M.cd, M'.cd⟩
  have n13 : ((u6 c' ∧ u6 d') ∧ u6 c ∧ u6 d) ∧ c' ≤ d' ∧ c ≤ d := ⟨n11, M'.cd, M.cd⟩
  have n14 : ((i6 e ∧ i6 f) ∧ i6 e' ∧ i6 f') ∧ e ≤ f ∧ e' ≤ f' := ⟨n8, M.ef, M'.ef⟩
  have n15 : ((i6 e' ∧ i6 f') ∧ i6 e ∧ i6 f) ∧ e' ≤ f' ∧ e ≤ f := ⟨n9, M'.ef, M.ef⟩
  rw [nQ7_eq]
  rw [lQ_7] at h
  dsimp only [ansL, mkL, bad12] at h
  (repeat (first
    | exact h | exact h _ _ _ _ _ _ _ _ _ _ _ _
    | with_reducible refine ob_self ?_ | with_reducible refine ob_true ?_
    | ((with_reducible refine nm_intro ?_); intro r hr; subst hr)
    | refine br_yes rfl ?_ | refine br_no rfl ?_ | refine br_yes (by assumption) ?_ | refine br_no (by assumption) ?_
    | refine And.intro (by assumption) ?_
    | refine br2 rfl h (fun h => ?_) (fun h => ?_)
    | intro _))
theorem oQ4 (M : MayQ a b c d e f) (M' : MayQ a' b' c' d' e' f') (I : i6 e ∧ i6 f) (I' : i6 e' ∧ i6 f') (ua : u6 a) (ua' : u6 a') (h : ansL (lQ 4 a b c d e f a' b' c' d' e' f') K) : nQ4 a b c d e f a' b' c' d' e' f' K := by
  have n1 : dj a b ∧ dj a' b' := ⟨M.dj, M'.dj⟩
  have n2 : ((u6 c ∧ u6 d) ∧ c ≤ d) ∧ (i6 e ∧ i6 f) ∧ e ≤ f := ⟨⟨⟨M.uc, M.ud⟩, M.cd⟩, I, M.ef⟩
  have n3 : ((u6 c' ∧ u6 d') ∧ c' ≤ d') ∧ (i6 e' ∧ i6 f') ∧ e' ≤ f' := ⟨⟨⟨M'.uc, M'.ud⟩, M'.cd⟩, I', M'.ef⟩
  have uv : u6 (isv a b c d e f) := isv_u ⟨ua, M.uc⟩
  have uw : u6 (isv a' b' c' d' e' f') := isv_u ⟨ua', M'.uc⟩
  have n4 : dj a b ∧ u6 (isv a' b' c' d' e' f') := ⟨M.dj, uw⟩
  have n5 : dj a' b' ∧ u6 (isv a b c d e f) := ⟨M'.dj, uv⟩
  have n6 : dj a b ∧ dj 0 (ntv (isv a' b' c' d' e' f')) := ⟨M.dj, dj_n uw⟩
  have n7 : dj a' b' ∧ dj 0 (ntv (isv a b c d e f)) := ⟨M'.dj, dj_n uv⟩
  have n8 : (i6 e ∧ i6 f) ∧ i6 e' ∧ i6 f' := ⟨I, I'⟩
  have n9 : (i6 e' ∧ i6 f') ∧ i6 e ∧ i6 f := ⟨I', I⟩
  have n10 : (u6 c ∧ u6 d) ∧ u6 c' ∧ u6 d' := ⟨⟨M.uc, M.ud⟩, M'.uc, M'.ud⟩
  have n11 : (u6 c' ∧ u6 d') ∧ u6 c ∧ u6 d := ⟨⟨M'.uc, M'.ud⟩, M.uc, M.ud⟩
  have n12 : ((u6 c ∧ u6 d) ∧ u6 c' ∧ u6 d') ∧ c ≤ d ∧ c' ≤ d' := ⟨n10, M.cd, M'.cd⟩
  have n13 : ((u6 c' ∧ u6 d') ∧ u6 c ∧ u6 d) ∧ c' ≤ d' ∧ c ≤ d := ⟨n11, M'.cd, M.cd⟩
  have n14 : ((i6 e ∧ i6 f) ∧ i6 e' ∧ i6 f') ∧ e ≤ f ∧ e' ≤ f' := ⟨n8, M.ef, M'.ef⟩
  have n15 : ((i6 e' ∧ i6 f') ∧ i6 e ∧ i6 f) ∧ e' ≤ f' ∧ e ≤ f := ⟨n9, M'.ef, M.ef⟩
  rw [nQ4_eq]
  rw [lQ_4] at h
  dsimp only [ansL, mkL, bad12] at h
  (repeat (first
    | exact h | exact h _ _ _ _ _ _ _ _ _ _ _ _
    | with_reducible refine ob_self ?_ | with_reducible refine ob_true ?_
    | ((with_reducible refine nm_intro ?_); intro r hr; subst hr)
    | refine br_yes rfl ?_ | refine br_no rfl ?_ | refine br_yes (by assumption) ?_ | refine br_no (by assumption) ?_
    | refine And.intro (by assumption) ?_
    | refine br2 rfl h (fun h => ?_) (fun h => ?_)
    | intro _))
theorem oC1t (M : MayQ a b c d e f) (M' : MayQ a' b' c' d' e' f') (I : i6 e ∧ i6 f) (I' : i6 e' ∧ i6 f') (ua : u6 a) (ua' : u6 a') (h : ansL (lQ 1 a b c d e f a' b' c' d' e' f') K) : nC1t a b c d e f a' b' c' d' e' f' K := by
  have n1 : dj a b ∧ dj a' b' := ⟨M.dj, M'.dj⟩
  have n2 : ((u6 c ∧ u6 d) ∧ c ≤ d) ∧ (i6 e ∧ i6 f) ∧ e ≤ f := ⟨⟨⟨M.uc, M.ud⟩, M.cd⟩, I, M.ef⟩
  have n3 : ((u6 c' ∧ u6 d') ∧ c' ≤ d') ∧ (i6 e' ∧ i6 f') ∧ e' ≤ f' := ⟨⟨⟨M'.uc, M'.ud⟩, M'.cd⟩, I', M'.ef⟩
  have uv : u6 (isv a b c d e f) := isv_u ⟨ua, M.uc⟩
  have uw : u6 (isv a' b' c' d' e' f') := isv_u ⟨ua', M'.uc⟩
  have n4 : dj a b ∧ u6 (isv a' b' c' d' e' f') := ⟨M.dj, uw⟩
  have n5 : dj a' b' ∧ u6 (isv a b c d e f) := ⟨M'.dj, uv⟩
  have n6 : dj a b ∧ dj 0 (ntv (isv a' b' c' d' e' f')) := ⟨M.dj, dj_n uw⟩
  have n7 : dj a' b' ∧ dj 0 (ntv (isv a b c d e f)) := ⟨M'.dj, dj_n uv⟩
  have n8 : (i6 e ∧ i6 f) ∧ i6 e' ∧ i6 f' := ⟨I, I'⟩
  have n9 : (i6 e' ∧ i6 f') ∧ i6 e ∧ i6 f := ⟨I', I⟩
  have n10 : (u6 c ∧ u6 d) ∧ u6 c' ∧ u6 d' := ⟨⟨M.uc, M.ud⟩, M'.uc, M'.ud⟩
  have n11 : (u6 c' ∧ u6 d') ∧ u6 c ∧ u6 d := ⟨⟨M'.uc, M'.ud⟩, M.uc, M.ud⟩
  have n12 : ((u6 c ∧ u6 d) ∧ u6 c' ∧ u6 d') ∧ c ≤ d ∧ c' ≤ d' := ⟨n10, M.cd, M'.cd⟩
  have n13 : ((u6 c' ∧ u6 d') ∧ u6 c ∧ u6 d) ∧ c' ≤ d' ∧ c ≤ d := ⟨n11, M'.cd, M.cd⟩
  have n14 : ((i6 e ∧ i6 f) ∧ i6 e' ∧ i6 f') ∧ e ≤ f ∧ e' ≤ f' := ⟨n8, M.ef, M'.ef⟩
  have n15 : ((i6 e' ∧ i6 f') ∧ i6 e ∧ i6 f) ∧ e' ≤ f' ∧ e ≤ f := ⟨n9, M'.ef, M.ef⟩
  rw [nC1t_eq]
  rw [lQ_1] at h
  dsimp only [ansL, mkL, bad12] at h
  (repeat (first
    | exact h | exact h _ _ _ _ _ _ _ _ _ _ _ _
    | with_reducible refine ob_self ?_ | with_reducible refine ob_true ?_
    | ((with_reducible refine nm_intro ?_); intro r hr; subst hr)
    | refine br_yes rfl ?_ | refine br_no rfl ?_ | refine br_yes (by assumption) ?_ | refine br_no (by assumption) ?_
    | refine And.intro (by assumption) ?_
    | refine br2 rfl h (fun h => ?_) (fun h => ?_)
    | intro _))
theorem oC1f (M : MayQ a b c d e f) (M' : MayQ a' b' c' d' e' f') (I : i6 e ∧ i6 f) (I' : i6 e' ∧ i6 f') (ua : u6 a) (ua' : u6 a') (h : ansL (lQ 5 a b c d e f a' b' c' d' e' f') K) : nC1f a b c d e f a' b' c' d' e' f' K := by
  have n1 : dj a b ∧ dj a' b' := ⟨M.dj, M'.dj⟩
  have n2 : ((u6 c ∧ u6 d) ∧ c ≤ d) ∧ (i6 e ∧ i6 f) ∧ e ≤ f := ⟨⟨⟨M.uc, M.ud⟩, M.cd⟩, I, M.ef⟩
  have n3 : ((u6 c' ∧ u6 d') ∧ c' ≤ d') ∧ (i6 e' ∧ i6 f') ∧ e' ≤ f' := ⟨⟨⟨M'.uc, M'.ud⟩, M'.cd⟩, I', M'.ef⟩
  have uv : u6 (isv a b c d e f) := isv_u ⟨ua, M.uc⟩
  have uw : u6 (isv a' b' c' d' e' f') := isv_u ⟨ua', M'.uc⟩
  have n4 : dj a b ∧ u6 (isv a' b' c' d' e' f') := ⟨M.dj, uw⟩
  have n5 : dj a' b' ∧ u6 (isv a b c d e f) := ⟨M'.dj, uv⟩
  have n6 : dj a b ∧ dj 0 (ntv (isv a' b' c' d' e' f')) := ⟨M.dj, dj_n uw⟩
  have n7 : dj a' b' ∧ dj 0 (ntv (isv a b c d e f)) := ⟨M'.dj, dj_n uv⟩
  have n8 : (i6 e ∧ i6 f) ∧ i6 e' ∧ i6 f' := ⟨I, I'⟩
  have n9 : (i6 e' ∧ i6 f') ∧ i6 e ∧ i6 f := ⟨I', I⟩
  have n10 : (u6 c ∧ u6 d) ∧ u6 c' ∧ u6 d' := ⟨⟨M.uc, M.ud⟩, M'.uc, M'.ud⟩
  have n11 : (u6 c' ∧ u6 d') ∧ u6 c ∧ u6 d := ⟨⟨M'.uc, M'.ud⟩, M.uc, M.ud⟩
  have n12 : ((u6 c ∧ u6 d) ∧ u6 c' ∧ u6 d') ∧ c ≤ d ∧ c' ≤ d' := ⟨n10, M.cd, M'.cd⟩
  have n13 : ((u6 c' ∧ u6 d') ∧ u6 c ∧ u6 d) ∧ c' ≤ d' ∧ c ≤ d := ⟨n11, M'.cd, M.cd⟩
  have n14 : ((i6 e ∧ i6 f) ∧ i6 e' ∧ i6 f') ∧ e ≤ f ∧ e' ≤ f' := ⟨n8, M.ef, M'.ef⟩
  have n15 : ((i6 e' ∧ i6 f') ∧ i6 e ∧ i6 f) ∧ e' ≤ f' ∧ e ≤ f := ⟨n9, M'.ef, M.ef⟩
  rw [nC1f_eq]
  rw [lQ_5] at h
  dsimp only [ansL, mkL, bad12] at h
  revert h
  cases g1 : iso a b c d e f <;> cases g2 : iso a' b' c' d' e' f' <;> cases g3 : woO c d e f (isv a' b' c' d' e' f') <;> cases g4 : woO c' d' e' f' (isv a b c d e f) <;> intro h <;> (repeat (first
    | exact h | exact h _ _ _ _ _ _ _ _ _ _ _ _
    | with_reducible refine ob_self ?_ | with_reducible refine ob_true ?_
    | ((with_reducible refine nm_intro ?_); intro r hr; subst hr)
    | refine br_yes rfl ?_ | refine br_no rfl ?_ | refine br_yes (by assumption) ?_ | refine br_no (by assumption) ?_
    | refine And.intro (by assumption) ?_
    | refine br2 rfl h (fun h => ?_) (fun h => ?_)
    | intro _))
theorem oC2t (M : MayQ a b c d e f) (M' : MayQ a' b' c' d' e' f') (I : i6 e ∧ i6 f) (I' : i6 e' ∧ i6 f') (ua : u6 a) (ua' : u6 a') (h : ansL (lQ 2 a b c d e f a' b' c' d' e' f') K) : nC2t a b c d e f a' b' c' d' e' f' K := by
  have n1 : dj a b ∧ dj a' b' := ⟨M.dj, M'.dj⟩
  have n2 : ((u6 c ∧ u6 d) ∧ c ≤ d) ∧ (i6 e ∧ i6 f) ∧ e ≤ f := ⟨⟨⟨M.uc, M.ud⟩, M.cd⟩, I, M.ef⟩
  have n3 : ((u6 c' ∧ u6 d') ∧ c' ≤ d') ∧ (i6 e' ∧ i6 f') ∧ e' ≤ f' := ⟨⟨⟨M'.uc, M'.ud⟩, M'.cd⟩, I', M'.ef⟩
  have uv : u6 (isv a b c d e f) := isv_u ⟨ua, M.uc⟩
  have uw : u6 (isv a' b' c' d' e' f') := isv_u ⟨ua', M'.uc⟩
  have n4 : dj a b ∧ u6 (isv a' b' c' d' e' f') := ⟨M.dj, uw⟩
  have n5 : dj a' b' ∧ u6 (isv a b c d e f) := ⟨M'.dj, uv⟩
  have n6 : dj a b ∧ dj 0 (ntv (isv a' b' c' d' e' f')) := ⟨M.dj, dj_n uw⟩
  have n7 : dj a' b' ∧ dj 0 (ntv (isv a b c d e f)) := ⟨M'.dj, dj_n uv⟩
  have n8 : (i6 e ∧ i6 f) ∧ i6 e' ∧ i6 f' := ⟨I, I'⟩
  have n9 : (i6 e' ∧ i6 f') ∧ i6 e ∧ i6 f := ⟨I', I⟩
  have n10 : (u6 c ∧ u6 d) ∧ u6 c' ∧ u6 d' := ⟨⟨M.uc, M.ud⟩, M'.uc, M'.ud⟩
  have n11 : (u6 c' ∧ u6 d') ∧ u6 c ∧ u6 d := ⟨⟨M'.uc, M'.ud⟩, M.uc, M.ud⟩
  have n12 : ((u6 c ∧ u6 d) ∧ u6 c' ∧ u6 d') ∧ c ≤ d ∧ c' ≤ d' := ⟨n10, M.cd, M'.cd⟩
  have n13 : ((u6 c' ∧ u6 d') ∧ u6 c ∧ u6 d) ∧ c' ≤ d' ∧ c ≤ d := ⟨n11, M'.cd, M.cd⟩
  have n14 : ((i6 e ∧ i6 f) ∧ i6 e' ∧ i6 f') ∧ e ≤ f ∧ e' ≤ f' := ⟨n8, M.ef, M'.ef⟩
  have n15 : ((i6 e' ∧ i6 f') ∧ i6 e ∧ i6 f) ∧ e' ≤ f' ∧ e ≤ f := ⟨n9, M'.ef, M.ef⟩
  rw [nC2t_eq]
  rw [lQ_2] at h
  dsimp only [ansL, mkL, bad12] at h
  (repeat (first
    | exact h | exact h _ _ _ _ _ _ _ _ _ _ _ _
    | with_reducible refine ob_self ?_ | with_reducible refine ob_true ?_
    | ((with_reducible refine nm_intro ?_); intro r hr; subst hr)
    | refine br_yes rfl ?_ | refine br_no rfl ?_ | refine br_yes (by assumption) ?_ | refine br_no (by assumption) ?_
    | refine And.intro (by assumption) ?_
    | refine br2 rfl h (fun h => ?_) (fun h => ?_)
    | intro _))
theorem oC2f (M : MayQ a b c d e f) (M' : MayQ a' b' c' d' e' f') (I : i6 e ∧ i6 f) (I' : i6 e' ∧ i6 f') (ua : u6 a) (ua' : u6 a') (h : ansL (lQ 11 a b c d e f a' b' c' d' e' f') K) : nC2f a b c d e f a' b' c' d' e' f' K := by
  have n1 : dj a b ∧ dj a' b' := ⟨M.dj, M'.dj⟩
  have n2 : ((u6 c ∧ u6 d) ∧ c ≤ d) ∧ (i6 e ∧ i6 f) ∧ e ≤ f := ⟨⟨⟨M.uc, M.ud⟩, M.cd⟩, I, M.ef⟩
  have n3 : ((u6 c' ∧ u6 d') ∧ c' ≤ d') ∧ (i6 e' ∧ i6 f') ∧ e' ≤ f' := ⟨⟨⟨M'.uc, M'.ud⟩, M'.cd⟩, I', M'.ef⟩
  have uv : u6 (isv a b c d e f) := isv_u ⟨ua, M.uc⟩
  have uw : u6 (isv a' b' c' d' e' f') := isv_u ⟨ua', M'.uc⟩
  have n4 : dj a b ∧ u6 (isv a' b' c' d' e' f') := ⟨M.dj, uw⟩
  have n5 : dj a' b' ∧ u6 (isv a b c d e f) := ⟨M'.dj, uv⟩
  have n6 : dj a b ∧ dj 0 (ntv (isv a' b' c' d' e' f')) := ⟨M.dj, dj_n uw⟩
  have n7 : dj a' b' ∧ dj 0 (ntv (isv a b c d e f)) := ⟨M'.dj, dj_n uv⟩
  have n8 : (i6 e ∧ i6 f) ∧ i6 e' ∧ i6 f' := ⟨I, I'⟩
  have n9 : (i6 e' ∧ i6 f') ∧ i6 e ∧ i6 f := ⟨I', I⟩
  have n10 : (u6 c ∧ u6 d) ∧ u6 c' ∧ u6 d' := ⟨⟨M.uc, M.ud⟩, M'.uc, M'.ud⟩
  have n11 : (u6 c' ∧ u6 d') ∧ u6 c ∧ u6 d := ⟨⟨M'.uc, M'.ud⟩, M.uc, M.ud⟩
  have n12 : ((u6 c ∧ u6 d) ∧ u6 c' ∧ u6 d') ∧ c ≤ d ∧ c' ≤ d' := ⟨n10, M.cd, M'.cd⟩
  have n13 : ((u6 c' ∧ u6 d') ∧ u6 c ∧ u6 d) ∧ c' ≤ d' ∧ c ≤ d := ⟨n11, M'.cd, M.cd⟩
  have n14 : ((i6 e ∧ i6 f) ∧ i6 e' ∧ i6 f') ∧ e ≤ f ∧ e' ≤ f' := ⟨n8, M.ef, M'.ef⟩
  have n15 : ((i6 e' ∧ i6 f') ∧ i6 e ∧ i6 f) ∧ e' ≤ f' ∧ e ≤ f := ⟨n9, M'.ef, M.ef⟩
  rw [nC2f_eq]
  rw [lQ_11] at h
  dsimp only [ansL, mkL, bad12] at h
  (repeat (first
    | exact h | exact h _ _ _ _ _ _ _ _ _ _ _ _
    | with_reducible refine ob_self ?_ | with_reducible refine ob_true ?_
    | ((with_reducible refine nm_intro ?_); intro r hr; subst hr)
    | refine br_yes rfl ?_ | refine br_no rfl ?_ | refine br_yes (by assumption) ?_ | refine br_no (by assumption) ?_
    | refine And.intro (by assumption) ?_
    | refine br2 rfl h (fun h => ?_) (fun h => ?_)
    | intro _))
theorem oC3t (M : MayQ a b c d e f) (M' : MayQ a' b' c' d' e' f') (I : i6 e ∧ i6 f) (I' : i6 e' ∧ i6 f') (ua : u6 a) (ua' : u6 a') (h : ansL (lQ 3 a b c d e f a' b' c' d' e' f') K) : nC3t a b c d e f a' b' c' d' e' f' K := by
  have n1 : dj a b ∧ dj a' b' := ⟨M.dj, M'.dj⟩
  have n2 : ((u6 c ∧ u6 d) ∧ c ≤ d) ∧ (i6 e ∧ i6 f) ∧ e ≤ f := ⟨⟨⟨M.uc, M.ud⟩, M.cd⟩, I, M.ef⟩
  have n3 : ((u6 c' ∧ u6 d') ∧ c' ≤ d') ∧ (i6 e' ∧ i6 f') ∧ e' ≤ f' := ⟨⟨⟨M'.uc, M'.ud⟩, M'.cd⟩, I', M'.ef⟩
  have uv : u6 (isv a b c d e f) := isv_u ⟨ua, M.uc⟩
  have uw : u6 (isv a' b' c' d' e' f') := isv_u ⟨ua', M'.uc⟩
  have n4 : dj a b ∧ u6 (isv a' b' c' d' e' f') := ⟨M.dj, uw⟩
  have n5 : dj a' b' ∧ u6 (isv a b c d e f) := ⟨M'.dj, uv⟩
  have n6 : dj a b ∧ dj 0 (ntv (isv a' b' c' d' e' f')) := ⟨M.dj, dj_n uw⟩
  have n7 : dj a' b' ∧ dj 0 (ntv (isv a b c d e f)) := ⟨M'.dj, dj_n uv⟩
  have n8 : (i6 e ∧ i6 f) ∧ i6 e' ∧ i6 f' := ⟨I, I'⟩
  have n9 : (i6 e' ∧ i6 f') ∧ i6 e ∧ i6 f := ⟨I', I⟩
  have n10 : (u6 c ∧ u6 d) ∧ u6 c' ∧ u6 d' := ⟨⟨M.uc, M.ud⟩, M'.uc, M'.ud⟩
  have n11 : (u6 c' ∧ u6 d') ∧ u6 c ∧ u6 d := ⟨⟨M'.uc, M'.ud⟩, M.uc, M.ud⟩
  have n12 : ((u6 c ∧ u6 d) ∧ u6 c' ∧ u6 d') ∧ c ≤ d ∧ c' ≤ d' := ⟨n10, M.cd, M'.cd⟩
  have n13 : ((u6 c' ∧ u6 d') ∧ u6 c ∧ u6 d) ∧ c' ≤ d' ∧ c ≤ d := ⟨n11, M'.cd, M.cd⟩
  have n14 : ((i6 e ∧ i6 f) ∧ i6 e' ∧ i6 f') ∧ e ≤ f ∧ e' ≤ f' := ⟨n8, M.ef, M'.ef⟩
  have n15 : ((i6 e' ∧ i6 f') ∧ i6 e ∧ i6 f) ∧ e' ≤ f' ∧ e ≤ f := ⟨n9, M'.ef, M.ef⟩
  rw [nC3t_eq]
  rw [lQ_3] at h
  dsimp only [ansL, mkL, bad12] at h
  (repeat (first
    | exact h | exact h _ _ _ _ _ _ _ _ _ _ _ _
    | with_reducible refine ob_self ?_ | with_reducible refine ob_true ?_
    | ((with_reducible refine nm_intro ?_); intro r hr; subst hr)
    | refine br_yes rfl ?_ | refine br_no rfl ?_ | refine br_yes (by assumption) ?_ | refine br_no (by assumption) ?_
    | refine And.intro (by assumption) ?_
    | refine br2 rfl h (fun h => ?_) (fun h => ?_)
    | intro _))
theorem oC3f (M : MayQ a b c d e f) (M' : MayQ a' b' c' d' e' f') (I : i6 e ∧ i6 f) (I' : i6 e' ∧ i6 f') (ua : u6 a) (ua' : u6 a') (h : ansL (lQ 10 a b c d e f a' b' c' d' e' f') K) : nC3f a b c d e f a' b' c' d' e' f' K := by
  have n1 : dj a b ∧ dj a' b' := ⟨M.dj, M'.dj⟩
  have n2 : ((u6 c ∧ u6 d) ∧ c ≤ d) ∧ (i6 e ∧ i6 f) ∧ e ≤ f := ⟨⟨⟨M.uc, M.ud⟩, M.cd⟩, I, M.ef⟩
  have n3 : ((u6 c' ∧ u6 d') ∧ c' ≤ d') ∧ (i6 e' ∧ i6 f') ∧ e' ≤ f' := ⟨⟨⟨M'.uc, M'.ud⟩, M'.cd⟩, I', M'.ef⟩
  have uv : u6 (isv a b c d e f) := isv_u ⟨ua, M.uc⟩
  have uw : u6 (isv a' b' c' d' e' f') := isv_u ⟨ua', M'.uc⟩
  have n4 : dj a b ∧ u6 (isv a' b' c' d' e' f') := ⟨M.dj, uw⟩
  have n5 : dj a' b' ∧ u6 (isv a b c d e f) := ⟨M'.dj, uv⟩
  have n6 : dj a b ∧ dj 0 (ntv (isv a' b' c' d' e' f')) := ⟨M.dj, dj_n uw⟩
  have n7 : dj a' b' ∧ dj 0 (ntv (isv a b c d e f)) := ⟨M'.dj, dj_n uv⟩
  have n8 : (i6 e ∧ i6 f) ∧ i6 e' ∧ i6 f' := ⟨I, I'⟩
  have n9 : (i6 e' ∧ i6 f') ∧ i6 e ∧ i6 f := ⟨I', I⟩
  have n10 : (u6 c ∧ u6 d) ∧ u6 c' ∧ u6 d' := ⟨⟨M.uc, M.ud⟩, M'.uc, M'.ud⟩
  have n11 : (u6 c' ∧ u6 d') ∧ u6 c ∧ u6 d := ⟨⟨M'.uc, M'.ud⟩, M.uc, M.ud⟩
  have n12 : ((u6 c ∧ u6 d) ∧ u6 c' ∧ u6 d') ∧ c ≤ d ∧ c' ≤ d' := ⟨n10, M.cd, M'.cd⟩
  have n13 : ((u6 c' ∧ u6 d') ∧ u6 c ∧ u6 d) ∧ c' ≤ d' ∧ c ≤ d := ⟨n11, M'.cd, M.cd⟩
  have n14 : ((i6 e ∧ i6 f) ∧ i6 e' ∧ i6 f') ∧ e ≤ f ∧ e' ≤ f' := ⟨n8, M.ef, M'.ef⟩
  have n15 : ((i6 e' ∧ i6 f') ∧ i6 e ∧ i6 f) ∧ e' ≤ f' ∧ e ≤ f := ⟨n9, M'.ef, M.ef⟩
  rw [nC3f_eq]
  rw [lQ_10] at h
  dsimp only [ansL, mkL, bad12] at h
  (repeat (first
    | exact h | exact h _ _ _ _ _ _ _ _ _ _ _ _
    | with_reducible refine ob_self ?_ | with_reducible refine ob_true ?_
    | ((with_reducible refine nm_intro ?_); intro r hr; subst hr)
    | refine br_yes rfl ?_ | refine br_no rfl ?_ | refine br_yes (by assumption) ?_ | refine br_no (by assumption) ?_
    | refine And.intro (by assumption) ?_
    | refine br2 rfl h (fun h => ?_) (fun h => ?_)
    | intro _))
theorem oC4t (M : MayQ a b c d e f) (M' : MayQ a' b' c' d' e' f') (I : i6 e ∧ i6 f) (I' : i6 e' ∧ i6 f') (ua : u6 a) (ua' : u6 a') (h : ansL (lQ 4 a b c d e f a' b' c' d' e' f') K) : nC4t a b c d e f a' b' c' d' e' f' K := by
  have n1 : dj a b ∧ dj a' b' := ⟨M.dj, M'.dj⟩
  have n2 : ((u6 c ∧ u6 d) ∧ c ≤ d) ∧ (i6 e ∧ i6 f) ∧ e ≤ f := ⟨⟨⟨M.uc, M.ud⟩, M.cd⟩, I, M.ef⟩
  have n3 : ((u6 c' ∧ u6 d') ∧ c' ≤ d') ∧ (i6 e' ∧ i6 f') ∧ e' ≤ f' := ⟨⟨⟨M'.uc, M'.ud⟩, M'.cd⟩, I', M'.ef⟩
  have uv : u6 (isv a b c d e f) := isv_u ⟨ua, M.uc⟩
  have uw : u6 (isv a' b' c' d' e' f') := isv_u ⟨ua', M'.uc⟩
  have n4 : dj a b ∧ u6 (isv a' b' c' d' e' f') := ⟨M.dj, uw⟩
  have n5 : dj a' b' ∧ u6 (isv a b c d e f) := ⟨M'.dj, uv⟩
  have n6 : dj a b ∧ dj 0 (ntv (isv a' b' c' d' e' f')) := ⟨M.dj, dj_n uw⟩
  have n7 : dj a' b' ∧ dj 0 (ntv (isv a b c d e f)) := ⟨M'.dj, dj_n uv⟩
  have n8 : (i6 e ∧ i6 f) ∧ i6 e' ∧ i6 f' := ⟨I, I'⟩
  have n9 : (i6 e' ∧ i6 f') ∧ i6 e ∧ i6 f := ⟨I', I⟩
  have n10 : (u6 c ∧ u6 d) ∧ u6 c' ∧ u6 d' := ⟨⟨M.uc, M.ud⟩, M'.uc, M'.ud⟩
  have n11 : (u6 c' ∧ u6 d') ∧ u6 c ∧ u6 d := ⟨⟨M'.uc, M'.ud⟩, M.uc, M.ud⟩
  have n12 : ((u6 c ∧ u6 d) ∧ u6 c' ∧ u6 d') ∧ c ≤ d ∧ c' ≤ d' := ⟨n10, M.cd, M'.cd⟩
  have n13 : ((u6 c' ∧ u6 d') ∧ u6 c ∧ u6 d) ∧ c' ≤ d' ∧ c ≤ d := ⟨n11, M'.cd, M.cd⟩
  have n14 : ((i6 e ∧ i6 f) ∧ i6 e' ∧ i6 f') ∧ e ≤ f ∧ e' ≤ f' := ⟨n8, M.ef, M'.ef⟩
  have n15 : ((i6 e' ∧ i6 f') ∧ i6 e ∧ i6 f) ∧ e' ≤ f' ∧ e ≤ f := ⟨n9, M'.ef, M.ef⟩
  rw [nC4t_eq]
  rw [lQ_4] at h
  dsimp only [ansL, mkL, bad12] at h
  (repeat (first
    | exact h | exact h _ _ _ _ _ _ _ _ _ _ _ _
    | with_reducible refine ob_self ?_ | with_reducible refine ob_true ?_
    | ((with_reducible refine nm_intro ?_); intro r hr; subst hr)
    | refine br_yes rfl ?_ | refine br_no rfl ?_ | refine br_yes (by assumption) ?_ | refine br_no (by assumption) ?_
    | refine And.intro (by assumption) ?_
    | refine br2 rfl h (fun h => ?_) (fun h => ?_)
    | intro _))
theorem oC4f (M : MayQ a b c d e f) (M' : MayQ a' b' c' d' e' f') (I : i6 e ∧ i6 f) (I' : i6 e' ∧ i6 f') (ua : u6 a) (ua' : u6 a') (h : ansL (lQ 0 a b c d e f a' b' c' d' e' f') K) : nC4f a b c d e f a' b' c' d' e' f' K := by
  have n1 : dj a b ∧ dj a' b' := ⟨M.dj, M'.dj⟩
  have n2 : ((u6 c ∧ u6 d) ∧ c ≤ d) ∧ (i6 e ∧ i6 f) ∧ e ≤ f := ⟨⟨⟨M.uc, M.ud⟩, M.cd⟩, I, M.ef⟩
  have n3 : ((u6 c' ∧ u6 d') ∧ c' ≤ d') ∧ (i6 e' ∧ i6 f') ∧ e' ≤ f' := ⟨⟨⟨M'.uc, M'.ud⟩, M'.cd⟩, I', M'.ef⟩
  have uv : u6 (isv a b c d e f) := isv_u ⟨ua, M.uc⟩
  have uw : u6 (isv a' b' c' d' e' f') := isv_u ⟨ua', M'.uc⟩
  have n4 : dj a b ∧ u6 (isv a' b' c' d' e' f') := ⟨M.dj, uw⟩
  have n5 : dj a' b' ∧ u6 (isv a b c d e f) := ⟨M'.dj, uv⟩
  have n6 : dj a b ∧ dj 0 (ntv (isv a' b' c' d' e' f')) := ⟨M.dj, dj_n uw⟩
  have n7 : dj a' b' ∧ dj 0 (ntv (isv a b c d e f)) := ⟨M'.dj, dj_n uv⟩
  have n8 : (i6 e ∧ i6 f) ∧ i6 e' ∧ i6 f' := ⟨I, I'⟩
  have n9 : (i6 e' ∧ i6 f') ∧ i6 e ∧ i6 f := ⟨I', I⟩
  have n10 : (u6 c ∧ u6 d) ∧ u6 c' ∧ u6 d' := ⟨⟨M.uc, M.ud⟩, M'.uc, M'.ud⟩
  have n11 : (u6 c' ∧ u6 d') ∧ u6 c ∧ u6 d := ⟨⟨M'.uc, M'.ud⟩, M.uc, M.ud⟩
  have n12 : ((u6 c ∧ u6 d) ∧ u6 c' ∧ u6 d') ∧ c ≤ d ∧ c' ≤ d' := ⟨n10, M.cd, M'.cd⟩
  have n13 : ((u6 c' ∧ u6 d') ∧ u6 c ∧ u6 d) ∧ c' ≤ d' ∧ c ≤ d := ⟨n11, M'.cd, M.cd⟩
  have n14 : ((i6 e ∧ i6 f) ∧ i6 e' ∧ i6 f') ∧ e ≤ f ∧ e' ≤ f' := ⟨n8, M.ef, M'.ef⟩
  have n15 : ((i6 e' ∧ i6 f') ∧ i6 e ∧ i6 f) ∧ e' ≤ f' ∧ e ≤ f := ⟨n9, M'.ef, M.ef⟩
  rw [nC4f_eq]
  rw [lQ_0] at h
  dsimp only [ansL, mkL, bad12] at h
  revert h
  cases g1 : iso a b c d e f <;> cases g2 : iso a' b' c' d' e' f' <;> cases g3 : meO a b 0 (ntv (isv a' b' c' d' e' f')) <;> cases g4 : meO a' b' 0 (ntv (isv a b c d e f)) <;> intro h <;> (repeat (first
    | exact h | exact h _ _ _ _ _ _ _ _ _ _ _ _
    | with_reducible refine ob_self ?_ | with_reducible refine ob_true ?_
    | ((with_reducible refine nm_intro ?_); intro r hr; subst hr)
    | refine br_yes rfl ?_ | refine br_no rfl ?_ | refine br_yes (by assumption) ?_ | refine br_no (by assumption) ?_
    | refine And.intro (by assumption) ?_
    | refine br2 rfl h (fun h => ?_) (fun h => ?_)
    | intro _))
theorem oC5t (M : MayQ a b c d e f) (M' : MayQ a' b' c' d' e' f') (I : i6 e ∧ i6 f) (I' : i6 e' ∧ i6 f') (ua : u6 a) (ua' : u6 a') (h : ansL (lQ 5 a b c d e f a' b' c' d' e' f') K) : nC5t a b c d e f a' b' c' d' e' f' K := by
  have n1 : dj a b ∧ dj a' b' := ⟨M.dj, M'.dj⟩
  have n2 : ((u6 c ∧ u6 d) ∧ c ≤ d) ∧ (i6 e ∧ i6 f) ∧ e ≤ f := ⟨⟨⟨M.uc, M.ud⟩, M.cd⟩, I, M.ef⟩
  have n3 : ((u6 c' ∧ u6 d') ∧ c' ≤ d') ∧ (i6 e' ∧ i6 f') ∧ e' ≤ f' := ⟨⟨⟨M'.uc, M'.ud⟩, M'.cd⟩, I', M'.ef⟩
  have uv : u6 (isv a b c d e f) := isv_u ⟨ua, M.uc⟩
  have uw : u6 (isv a' b' c' d' e' f') := isv_u ⟨ua', M'.uc⟩
  have n4 : dj a b ∧ u6 (isv a' b' c' d' e' f') := ⟨M.dj, uw⟩
  have n5 : dj a' b' ∧ u6 (isv a b c d e f) := ⟨M'.dj, uv⟩
  have n6 : dj a b ∧ dj 0 (ntv (isv a' b' c' d' e' f')) := ⟨M.dj, dj_n uw⟩
  have n7 : dj a' b' ∧ dj 0 (ntv (isv a b c d e f)) := ⟨M'.dj, dj_n uv⟩
  have n8 : (i6 e ∧ i6 f) ∧ i6 e' ∧ i6 f' := ⟨I, I'⟩
  have n9 : (i6 e' ∧ i6 f') ∧ i6 e ∧ i6 f := ⟨I', I⟩
  have n10 : (u6 c ∧ u6 d) ∧ u6 c' ∧ u6 d' := ⟨⟨M.uc, M.ud⟩, M'.uc, M'.ud⟩
  have n11 : (u6 c' ∧ u6 d') ∧ u6 c ∧ u6 d := ⟨⟨M'.uc, M'.ud⟩, M.uc, M.ud⟩
  have n12 : ((u6 c ∧ u6 d) ∧ u6 c' ∧ u6 d') ∧ c ≤ d ∧ c' ≤ d' := ⟨n10, M.cd, M'.cd⟩
  have n13 : ((u6 c' ∧ u6 d') ∧ u6 c ∧ u6 d) ∧ c' ≤ d' ∧ c ≤ d := ⟨n11, M'.cd, M.cd⟩
  have n14 : ((i6 e ∧ i6 f) ∧ i6 e' ∧ i6 f') ∧ e ≤ f ∧ e' ≤ f' := ⟨n8, M.ef, M'.ef⟩
  have n15 : ((i6 e' ∧ i6 f') ∧ i6 e ∧ i6 f) ∧ e' ≤ f' ∧ e ≤ f := ⟨n9, M'.ef, M.ef⟩
  rw [nC5t_eq]
  rw [lQ_5] at h
  dsimp only [ansL, mkL, bad12] at h
  revert h
  cases g1 : iso a b c d e f <;> cases g2 : iso a' b' c' d' e' f' <;> cases g3 : woO c d e f (isv a' b' c' d' e' f') <;> cases g4 : woO c' d' e' f' (isv a b c d e f) <;> intro h <;> (repeat (first
    | exact h | exact h _ _ _ _ _ _ _ _ _ _ _ _
    | with_reducible refine ob_self ?_ | with_reducible refine ob_true ?_
    | ((with_reducible refine nm_intro ?_); intro r hr; subst hr)
    | refine br_yes rfl ?_ | refine br_no rfl ?_ | refine br_yes (by assumption) ?_ | refine br_no (by assumption) ?_
    | refine And.intro (by assumption) ?_
    | refine br2 rfl h (fun h => ?_) (fun h => ?_)
    | intro _))
theorem oC5f (M : MayQ a b c d e f) (M' : MayQ a' b' c' d' e' f') (I : i6 e ∧ i6 f) (I' : i6 e' ∧ i6 f') (ua : u6 a) (ua' : u6 a') (h : ansL (lQ 1 a b c d e f a' b' c' d' e' f') K) : nC5f a b c d e f a' b' c' d' e' f' K := by
  have n1 : dj a b ∧ dj a' b' := ⟨M.dj, M'.dj⟩
  have n2 : ((u6 c ∧ u6 d) ∧ c ≤ d) ∧ (i6 e ∧ i6 f) ∧ e ≤ f := ⟨⟨⟨M.uc, M.ud⟩, M.cd⟩, I, M.ef⟩
  have n3 : ((u6 c' ∧ u6 d') ∧ c' ≤ d') ∧ (i6 e' ∧ i6 f') ∧ e' ≤ f' := ⟨⟨⟨M'.uc, M'.ud⟩, M'.cd⟩, I', M'.ef⟩
  have uv : u6 (isv a b c d e f) := isv_u ⟨ua, M.uc⟩
  have uw : u6 (isv a' b' c' d' e' f') := isv_u ⟨ua', M'.uc⟩
  have n4 : dj a b ∧ u6 (isv a' b' c' d' e' f') := ⟨M.dj, uw⟩
  have n5 : dj a' b' ∧ u6 (isv a b c d e f) := ⟨M'.dj, uv⟩
  have n6 : dj a b ∧ dj 0 (ntv (isv a' b' c' d' e' f')) := ⟨M.dj, dj_n uw⟩
  have n7 : dj a' b' ∧ dj 0 (ntv (isv a b c d e f)) := ⟨M'.dj, dj_n uv⟩
  have n8 : (i6 e ∧ i6 f) ∧ i6 e' ∧ i6 f' := ⟨I, I'⟩
  have n9 : (i6 e' ∧ i6 f') ∧ i6 e ∧ i6 f := ⟨I', I⟩
  have n10 : (u6 c ∧ u6 d) ∧ u6 c' ∧ u6 d' := ⟨⟨M.uc, M.ud⟩, M'.uc, M'.ud⟩
  have n11 : (u6 c' ∧ u6 d') ∧ u6 c ∧ u6 d := ⟨⟨M'.uc, M'.ud⟩, M.uc, M.ud⟩
  have n12 : ((u6 c ∧ u6 d) ∧ u6 c' ∧ u6 d') ∧ c ≤ d ∧ c' ≤ d' := ⟨n10, M.cd, M'.cd⟩
  have n13 : ((u6 c' ∧ u6 d') ∧ u6 c ∧ u6 d) ∧ c' ≤ d' ∧ c ≤ d := ⟨n11, M'.cd, M.cd⟩
  have n14 : ((i6 e ∧ i6 f) ∧ i6 e' ∧ i6 f') ∧ e ≤ f ∧ e' ≤ f' := ⟨n8, M.ef, M'.ef⟩
  have n15 : ((i6 e' ∧ i6 f') ∧ i6 e ∧ i6 f) ∧ e' ≤ f' ∧ e ≤ f := ⟨n9, M'.ef, M.ef⟩
  rw [nC5f_eq]
  rw [lQ_1] at h
  dsimp only [ansL, mkL, bad12] at h
  (repeat (first
    | exact h | exact h _ _ _ _ _ _ _ _ _ _ _ _
    | with_reducible refine ob_self ?_ | with_reducible refine ob_true ?_
    | ((with_reducible refine nm_intro ?_); intro r hr; subst hr)
    | refine br_yes rfl ?_ | refine br_no rfl ?_ | refine br_yes (by assumption) ?_ | refine br_no (by assumption) ?_
    | refine And.intro (by assumption) ?_
    | refine br2 rfl h (fun h => ?_) (fun h => ?_)
    | intro _))
theorem oC6t (M : MayQ a b c d e f) (M' : MayQ a' b' c' d' e' f') (I : i6 e ∧ i6 f) (I' : i6 e' ∧ i6 f') (ua : u6 a) (ua' : u6 a') (h : ansL (lQ 6 a b c d e f a' b' c' d' e' f') K) : nC6t a b c d e f a' b' c' d' e' f' K := by
  have n1 : dj a b ∧ dj a' b' := ⟨M.dj, M'.dj⟩
  have n2 : ((u6 c ∧ u6 d) ∧ c ≤ d) ∧ (i6 e ∧ i6 f) ∧ e ≤ f := ⟨⟨⟨M.uc, M.ud⟩, M.cd⟩, I, M.ef⟩
  have n3 : ((u6 c' ∧ u6 d') ∧ c' ≤ d') ∧ (i6 e' ∧ i6 f') ∧ e' ≤ f' := ⟨⟨⟨M'.uc, M'.ud⟩, M'.cd⟩, I', M'.ef⟩
  have uv : u6 (isv a b c d e f) := isv_u ⟨ua, M.uc⟩
  have uw : u6 (isv a' b' c' d' e' f') := isv_u ⟨ua', M'.uc⟩
  have n4 : dj a b ∧ u6 (isv a' b' c' d' e' f') := ⟨M.dj, uw⟩
  have n5 : dj a' b' ∧ u6 (isv a b c d e f) := ⟨M'.dj, uv⟩
  have n6 : dj a b ∧ dj 0 (ntv (isv a' b' c' d' e' f')) := ⟨M.dj, dj_n uw⟩
  have n7 : dj a' b' ∧ dj 0 (ntv (isv a b c d e f)) := ⟨M'.dj, dj_n uv⟩
  have n8 : (i6 e ∧ i6 f) ∧ i6 e' ∧ i6 f' := ⟨I, I'⟩
  have n9 : (i6 e' ∧ i6 f') ∧ i6 e ∧ i6 f := ⟨I', I⟩
  have n10 : (u6 c ∧ u6 d) ∧ u6 c' ∧ u6 d' := ⟨⟨M.uc, M.ud⟩, M'.uc, M'.ud⟩
  have n11 : (u6 c' ∧ u6 d') ∧ u6 c ∧ u6 d := ⟨⟨M'.uc, M'.ud⟩, M.uc, M.ud⟩
  have n12 : ((u6 c ∧ u6 d) ∧ u6 c' ∧ u6 d') ∧ c ≤ d ∧ c' ≤ d' := ⟨n10, M.cd, M'.cd⟩
  have n13 : ((u6 c' ∧ u6 d') ∧ u6 c ∧ u6 d) ∧ c' ≤ d' ∧ c ≤ d := ⟨n11, M'.cd, M.cd⟩
  have n14 : ((i6 e ∧ i6 f) ∧ i6 e' ∧ i6 f') ∧ e ≤ f ∧ e' ≤ f' := ⟨n8, M.ef, M'.ef⟩
  have n15 : ((i6 e' ∧ i6 f') ∧ i6 e ∧ i6 f) ∧ e' ≤ f' ∧ e ≤ f := ⟨n9, M'.ef, M.ef⟩
  rw [nC6t_eq]
  rw [lQ_6] at h
  dsimp only [ansL, mkL, bad12] at h
  (repeat (first
    | exact h | exact h _ _ _ _ _ _ _ _ _ _ _ _
    | with_reducible refine ob_self ?_ | with_reducible refine ob_true ?_
    | ((with_reducible refine nm_intro ?_); intro r hr; subst hr)
    | refine br_yes rfl ?_ | refine br_no rfl ?_ | refine br_yes (by assumption) ?_ | refine br_no (by assumption) ?_
    | refine And.intro (by assumption) ?_
    | refine br2 rfl h (fun h => ?_) (fun h => ?_)
    | intro _))
theorem oC6f (M : MayQ a b c d e f) (M' : MayQ a' b' c' d' e' f') (I : i6 e ∧ i6 f) (I' : i6 e' ∧ i6 f') (ua : u6 a) (ua' : u6 a') (h : ansL (lQ 13 a b c d e f a' b' c' d' e' f') K) : nC6f a b c d e f a' b' c' d' e' f' K := by
  have n1 : dj a b ∧ dj a' b' := ⟨M.dj, M'.dj⟩
  have n2 : ((u6 c ∧ u6 d) ∧ c ≤ d) ∧ (i6 e ∧ i6 f) ∧ e ≤ f := ⟨⟨⟨M.uc, M.ud⟩, M.cd⟩, I, M.ef⟩
  have n3 : ((u6 c' ∧ u6 d') ∧ c' ≤ d') ∧ (i6 e' ∧ i6 f') ∧ e' ≤ f' := ⟨⟨⟨M'.uc, M'.ud⟩, M'.cd⟩, I', M'.ef⟩
  have uv : u6 (isv a b c d e f) := isv_u ⟨ua, M.uc⟩
  have uw : u6 (isv a' b' c' d' e' f') := isv_u ⟨ua', M'.uc⟩
  have n4 : dj a b ∧ u6 (isv a' b' c' d' e' f') := ⟨M.dj, uw⟩
  have n5 : dj a' b' ∧ u6 (isv a b c d e f) := ⟨M'.dj, uv⟩
  have n6 : dj a b ∧ dj 0 (ntv (isv a' b' c' d' e' f')) := ⟨M.dj, dj_n uw⟩
  have n7 : dj a' b' ∧ dj 0 (ntv (isv a b c d e f)) := ⟨M'.dj, dj_n uv⟩
  have n8 : (i6 e ∧ i6 f) ∧ i6 e' ∧ i6 f' := ⟨I, I'⟩
  have n9 : (i6 e' ∧ i6 f') ∧ i6 e ∧ i6 f := ⟨I', I⟩
  have n10 : (u6 c ∧ u6 d) ∧ u6 c' ∧ u6 d' := ⟨⟨M.uc, M.ud⟩, M'.uc, M'.ud⟩
  have n11 : (u6 c' ∧ u6 d') ∧ u6 c ∧ u6 d := ⟨⟨M'.uc, M'.ud⟩, M.uc, M.ud⟩
  have n12 : ((u6 c ∧ u6 d) ∧ u6 c' ∧ u6 d') ∧ c ≤ d ∧ c' ≤ d' := ⟨n10, M.cd, M'.cd⟩
  have n13 : ((u6 c' ∧ u6 d') ∧ u6 c ∧ u6 d) ∧ c' ≤ d' ∧ c ≤ d := ⟨n11, M'.cd, M.cd⟩
  have n14 : ((i6 e ∧ i6 f) ∧ i6 e' ∧ i6 f') ∧ e ≤ f ∧ e' ≤ f' := ⟨n8, M.ef, M'.ef⟩
  have n15 : ((i6 e' ∧ i6 f') ∧ i6 e ∧ i6 f) ∧ e' ≤ f' ∧ e ≤ f := ⟨n9, M'.ef, M.ef⟩
  rw [nC6f_eq]
  rw [lQ_13] at h
  dsimp only [ansL, mkL, bad12] at h
  (repeat (first
    | exact h | exact h _ _ _ _ _ _ _ _ _ _ _ _
    | with_reducible refine ob_self ?_ | with_reducible refine ob_true ?_
    | ((with_reducible refine nm_intro ?_); intro r hr; subst hr)
    | refine br_yes rfl ?_ | refine br_no rfl ?_ | refine br_yes (by assumption) ?_ | refine br_no (by assumption) ?_
    | refine And.intro (by assumption) ?_
    | refine br2 rfl h (fun h => ?_) (fun h => ?_)
    | intro _))
theorem oC7t (M : MayQ a b c d e f) (M' : MayQ a' b' c' d' e' f') (I : i6 e ∧ i6 f) (I' : i6 e' ∧ i6 f') (ua : u6 a) (ua' : u6 a') (h : ansL (lQ 7 a b c d e f a' b' c' d' e' f') K) : nC7t a b c d e f a' b' c' d' e' f' K := by
  have n1 : dj a b ∧ dj a' b' := ⟨M.dj, M'.dj⟩
  have n2 : ((u6 c ∧ u6 d) ∧ c ≤ d) ∧ (i6 e ∧ i6 f) ∧ e ≤ f := ⟨⟨⟨M.uc, M.ud⟩, M.cd⟩, I, M.ef⟩
  have n3 : ((u6 c' ∧ u6 d') ∧ c' ≤ d') ∧ (i6 e' ∧ i6 f') ∧ e' ≤ f' := ⟨⟨⟨M'.uc, M'.ud⟩, M'.cd⟩, I', M'.ef⟩
  have uv : u6 (isv a b c d e f) := isv_u ⟨ua, M.uc⟩
  have uw : u6 (isv a' b' c' d' e' f') := isv_u ⟨ua', M'.uc⟩
  have n4 : dj a b ∧ u6 (isv a' b' c' d' e' f') := ⟨M.dj, uw⟩
  have n5 : dj a' b' ∧ u6 (isv a b c d e f) := ⟨M'.dj, uv⟩
  have n6 : dj a b ∧ dj 0 (ntv (isv a' b' c' d' e' f')) := ⟨M.dj, dj_n uw⟩
  have n7 : dj a' b' ∧ dj 0 (ntv (isv a b c d e f)) := ⟨M'.dj, dj_n uv⟩
  have n8 : (i6 e ∧ i6 f) ∧ i6 e' ∧ i6 f' := ⟨I, I'⟩
  have n9 : (i6 e' ∧ i6 f') ∧ i6 e ∧ i6 f := ⟨I', I⟩
  have n10 : (u6 c ∧ u6 d) ∧ u6 c' ∧ u6 d' := ⟨⟨M.uc, M.ud⟩, M'.uc, M'.ud⟩
  have n11 : (u6 c' ∧ u6 d') ∧ u6 c ∧ u6 d := ⟨⟨M'.uc, M'.ud⟩, M.uc, M.ud⟩
  have n12 : ((u6 c ∧ u6 d) ∧ u6 c' ∧ u6 d') ∧ c ≤ d ∧ c' ≤ d' := ⟨n10, M.cd, M'.cd⟩
  have n13 : ((u6 c' ∧ u6 d') ∧ u6 c ∧ u6 d) ∧ c' ≤ d' ∧ c ≤ d := ⟨n11, M'.cd, M.cd⟩
  have n14 : ((i6 e ∧ i6 f) ∧ i6 e' ∧ i6 f') ∧ e ≤ f ∧ e' ≤ f' := ⟨n8, M.ef, M'.ef⟩
  have n15 : ((i6 e' ∧ i6 f') ∧ i6 e ∧ i6 f) ∧ e' ≤ f' ∧ e ≤ f := ⟨n9, M'.ef, M.ef⟩
  rw [nC7t_eq]
  rw [lQ_7] at h
  dsimp only [ansL, mkL, bad12] at h
  (repeat (first
    | exact h | exact h _ _ _ _ _ _ _ _ _ _ _ _
    | with_reducible refine ob_self ?_ | with_reducible refine ob_true ?_
    | ((with_reducible refine nm_intro ?_); intro r hr; subst hr)
    | refine br_yes rfl ?_ | refine br_no rfl ?_ | refine br_yes (by assumption) ?_ | refine br_no (by assumption) ?_
    | refine And.intro (by assumption) ?_
    | refine br2 rfl h (fun h => ?_) (fun h => ?_)
    | intro _))
theorem oC7f (M : MayQ a b c d e f) (M' : MayQ a' b' c' d' e' f') (I : i6 e ∧ i6 f) (I' : i6 e' ∧ i6 f') (ua : u6 a) (ua' : u6 a') (h : ansL (lQ 12 a b c d e f a' b' c' d' e' f') K) : nC7f a b c d e f a' b' c' d' e' f' K := by
  have n1 : dj a b ∧ dj a' b' := ⟨M.dj, M'.dj⟩
  have n2 : ((u6 c ∧ u6 d) ∧ c ≤ d) ∧ (i6 e ∧ i6 f) ∧ e ≤ f := ⟨⟨⟨M.uc, M.ud⟩, M.cd⟩, I, M.ef⟩
  have n3 : ((u6 c' ∧ u6 d') ∧ c' ≤ d') ∧ (i6 e' ∧ i6 f') ∧ e' ≤ f' := ⟨⟨⟨M'.uc, M'.ud⟩, M'.cd⟩, I', M'.ef⟩
  have uv : u6 (isv a b c d e f) := isv_u ⟨ua, M.uc⟩
  have uw : u6 (isv a' b' c' d' e' f') := isv_u ⟨ua', M'.uc⟩
  have n4 : dj a b ∧ u6 (isv a' b' c' d' e' f') := ⟨M.dj, uw⟩
  have n5 : dj a' b' ∧ u6 (isv a b c d e f) := ⟨M'.dj, uv⟩
  have n6 : dj a b ∧ dj 0 (ntv (isv a' b' c' d' e' f')) := ⟨M.dj, dj_n uw⟩
  have n7 : dj a' b' ∧ dj 0 (ntv (isv a b c d e f)) := ⟨M'.dj, dj_n uv⟩
  have n8 : (i6 e ∧ i6 f) ∧ i6 e' ∧ i6 f' := ⟨I, I'⟩
  have n9 : (i6 e' ∧ i6 f') ∧ i6 e ∧ i6 f := ⟨I', I⟩
  have n10 : (u6 c ∧ u6 d) ∧ u6 c' ∧ u6 d' := ⟨⟨M.uc, M.ud⟩, M'.uc, M'.ud⟩
  have n11 : (u6 c' ∧ u6 d') ∧ u6 c ∧ u6 d := ⟨⟨M'.uc, M'.ud⟩, M.uc, M.ud⟩
  have n12 : ((u6 c ∧ u6 d) ∧ u6 c' ∧ u6 d') ∧ c ≤ d ∧ c' ≤ d' := ⟨n10, M.cd, M'.cd⟩
  have n13 : ((u6 c' ∧ u6 d') ∧ u6 c ∧ u6 d) ∧ c' ≤ d' ∧ c ≤ d := ⟨n11, M'.cd, M.cd⟩
  have n14 : ((i6 e ∧ i6 f) ∧ i6 e' ∧ i6 f') ∧ e ≤ f ∧ e' ≤ f' := ⟨n8, M.ef, M'.ef⟩
  have n15 : ((i6 e' ∧ i6 f') ∧ i6 e ∧ i6 f) ∧ e' ≤ f' ∧ e ≤ f := ⟨n9, M'.ef, M.ef⟩
  rw [nC7f_eq]
  rw [lQ_12] at h
  dsimp only [ansL, mkL, bad12] at h
  (repeat (first
    | exact h | exact h _ _ _ _ _ _ _ _ _ _ _ _
    | with_reducible refine ob_self ?_ | with_reducible refine ob_true ?_
    | ((with_reducible refine nm_intro ?_); intro r hr; subst hr)
    | refine br_yes rfl ?_ | refine br_no rfl ?_ | refine br_yes (by assumption) ?_ | refine br_no (by assumption) ?_
    | refine And.intro (by assumption) ?_
    | refine br2 rfl h (fun h => ?_) (fun h => ?_)
    | intro _))
theorem oC10t (M : MayQ a b c d e f) (M' : MayQ a' b' c' d' e' f') (I : i6 e ∧ i6 f) (I' : i6 e' ∧ i6 f') (ua : u6 a) (ua' : u6 a') (h : ansL (lQ 10 a b c d e f a' b' c' d' e' f') K) : nC10t a b c d e f a' b' c' d' e' f' K := by
  have n1 : dj a b ∧ dj a' b' := ⟨M.dj, M'.dj⟩
  have n2 : ((u6 c ∧ u6 d) ∧ c ≤ d) ∧ (i6 e ∧ i6 f) ∧ e ≤ f := ⟨⟨⟨M.uc, M.ud⟩, M.cd⟩, I, M.ef⟩
  have n3 : ((u6 c' ∧ u6 d') ∧ c' ≤ d') ∧ (i6 e' ∧ i6 f') ∧ e' ≤ f' := ⟨⟨⟨M'.uc, M'.ud⟩, M'.cd⟩, I', M'.ef⟩
  have uv : u6 (isv a b c d e f) := isv_u ⟨ua, M.uc⟩
  have uw : u6 (isv a' b' c' d' e' f') := isv_u ⟨ua', M'.uc⟩
  have n4 : dj a b ∧ u6 (isv a' b' c' d' e' f') := ⟨M.dj, uw⟩
  have n5 : dj a' b' ∧ u6 (isv a b c d e f) := ⟨M'.dj, uv⟩
  have n6 : dj a b ∧ dj 0 (ntv (isv a' b' c' d' e' f')) := ⟨M.dj, dj_n uw⟩
  have n7 : dj a' b' ∧ dj 0 (ntv (isv a b c d e f)) := ⟨M'.dj, dj_n uv⟩
  have n8 : (i6 e ∧ i6 f) ∧ i6 e' ∧ i6 f' := ⟨I, I'⟩
  have n9 : (i6 e' ∧ i6 f') ∧ i6 e ∧ i6 f := ⟨I', I⟩
  have n10 : (u6 c ∧ u6 d) ∧ u6 c' ∧ u6 d' := ⟨⟨M.uc, M.ud⟩, M'.uc, M'.ud⟩
  have n11 : (u6 c' ∧ u6 d') ∧ u6 c ∧ u6 d := ⟨⟨M'.uc, M'.ud⟩, M.uc, M.ud⟩
  have n12 : ((u6 c ∧ u6 d) ∧ u6 c' ∧ u6 d') ∧ c ≤ d ∧ c' ≤ d' := ⟨n10, M.cd, M'.cd⟩
  have n13 : ((u6 c' ∧ u6 d') ∧ u6 c ∧ u6 d) ∧ c' ≤ d' ∧ c ≤ d := ⟨n11, M'.cd, M.cd⟩
  have n14 : ((i6 e ∧ i6 f) ∧ i6 e' ∧ i6 f') ∧ e ≤ f ∧ e' ≤ f' := ⟨n8, M.ef, M'.ef⟩
  have n15 : ((i6 e' ∧ i6 f') ∧ i6 e ∧ i6 f) ∧ e' ≤ f' ∧ e ≤ f := ⟨n9, M'.ef, M.ef⟩
  rw [nC10t_eq]
  rw [lQ_10] at h
  dsimp only [ansL, mkL, bad12] at h
  (repeat (first
    | exact h | exact h _ _ _ _ _ _ _ _ _ _ _ _
    | with_reducible refine ob_self ?_ | with_reducible refine ob_true ?_
    | ((with_reducible refine nm_intro ?_); intro r hr; subst hr)
    | refine br_yes rfl ?_ | refine br_no rfl ?_ | refine br_yes (by assumption) ?_ | refine br_no (by assumption) ?_
    | refine And.intro (by assumption) ?_
    | refine br2 rfl h (fun h => ?_) (fun h => ?_)
    | intro _))
theorem oC10f (M : MayQ a b c d e f) (M' : MayQ a' b' c' d' e' f') (I : i6 e ∧ i6 f) (I' : i6 e' ∧ i6 f') (ua : u6 a) (ua' : u6 a') (h : ansL (lQ 3 a b c d e f a' b' c' d' e' f') K) : nC10f a b c d e f a' b' c' d' e' f' K := by
  have n1 : dj a b ∧ dj a' b' := ⟨M.dj, M'.dj⟩
  have n2 : ((u6 c ∧ u6 d) ∧ c ≤ d) ∧ (i6 e ∧ i6 f) ∧ e ≤ f := ⟨⟨⟨M.uc, M.ud⟩, M.cd⟩, I, M.ef⟩
  have n3 : ((u6 c' ∧ u6 d') ∧ c' ≤ d') ∧ (i6 e' ∧ i6 f') ∧ e' ≤ f' := ⟨⟨⟨M'.uc, M'.ud⟩, M'.cd⟩, I', M'.ef⟩
  have uv : u6 (isv a b c d e f) := isv_u ⟨ua, M.uc⟩
  have uw : u6 (isv a' b' c' d' e' f') := isv_u ⟨ua', M'.uc⟩
  have n4 : dj a b ∧ u6 (isv a' b' c' d' e' f') := ⟨M.dj, uw⟩
  have n5 : dj a' b' ∧ u6 (isv a b c d e f) := ⟨M'.dj, uv⟩
  have n6 : dj a b ∧ dj 0 (ntv (isv a' b' c' d' e' f')) := ⟨M.dj, dj_n uw⟩
  have n7 : dj a' b' ∧ dj 0 (ntv (isv a b c d e f)) := ⟨M'.dj, dj_n uv⟩
  have n8 : (i6 e ∧ i6 f) ∧ i6 e' ∧ i6 f' := ⟨I, I'⟩
  have n9 : (i6 e' ∧ i6 f') ∧ i6 e ∧ i6 f := ⟨I', I⟩
  have n10 : (u6 c ∧ u6 d) ∧ u6 c' ∧ u6 d' := ⟨⟨M.uc, M.ud⟩, M'.uc, M'.ud⟩
  have n11 : (u6 c' ∧ u6 d') ∧ u6 c ∧ u6 d := ⟨⟨M'.uc, M'.ud⟩, M.uc, M.ud⟩
  have n12 : ((u6 c ∧ u6 d) ∧ u6 c' ∧ u6 d') ∧ c ≤ d ∧ c' ≤ d' := ⟨n10, M.cd, M'.cd⟩
  have n13 : ((u6 c' ∧ u6 d') ∧ u6 c ∧ u6 d) ∧ c' ≤ d' ∧ c ≤ d := ⟨n11, M'.cd, M.cd⟩
  have n14 : ((i6 e ∧ i6 f) ∧ i6 e' ∧ i6 f') ∧ e ≤ f ∧ e' ≤ f' := ⟨n8, M.ef, M'.ef⟩
  have n15 : ((i6 e' ∧ i6 f') ∧ i6 e ∧ i6 f) ∧ e' ≤ f' ∧ e ≤ f := ⟨n9, M'.ef, M.ef⟩
  rw [nC10f_eq]
  rw [lQ_3] at h
  dsimp only [ansL, mkL, bad12] at h
  (repeat (first
    | exact h | exact h _ _ _ _ _ _ _ _ _ _ _ _
    | with_reducible refine ob_self ?_ | with_reducible refine ob_true ?_
    | ((with_reducible refine nm_intro ?_); intro r hr; subst hr)
    | refine br_yes rfl ?_ | refine br_no rfl ?_ | refine br_yes (by assumption) ?_ | refine br_no (by assumption) ?_
    | refine And.intro (by assumption) ?_
    | refine br2 rfl h (fun h => ?_) (fun h => ?_)
    | intro _))
theorem oC11t (M : MayQ a b c d e f) (M' : MayQ a' b' c' d' e' f') (I : i6 e ∧ i6 f) (I' : i6 e' ∧ i6 f') (ua : u6 a) (ua' : u6 a') (h : ansL (lQ 11 a b c d e f a' b' c' d' e' f') K) : nC11t a b c d e f a' b' c' d' e' f' K := by
  have n1 : dj a b ∧ dj a' b' := ⟨M.dj, M'.dj⟩
  have n2 : ((u6 c ∧ u6 d) ∧ c ≤ d) ∧ (i6 e ∧ i6 f) ∧ e ≤ f := ⟨⟨⟨M.uc, M.ud⟩, M.cd⟩, I, M.ef⟩
  have n3 : ((u6 c' ∧ u6 d') ∧ c' ≤ d') ∧ (i6 e' ∧ i6 f') ∧ e' ≤ f' := ⟨⟨⟨M'.uc, M'.ud⟩, M'.cd⟩, I', M'.ef⟩
  have uv : u6 (isv a b c d e f) := isv_u ⟨ua, M.uc⟩
  have uw : u6 (isv a' b' c' d' e' f') := isv_u ⟨ua', M'.uc⟩
  have n4 : dj a b ∧ u6 (isv a' b' c' d' e' f') := ⟨M.dj, uw⟩
  have n5 : dj a' b' ∧ u6 (isv a b c d e f) := ⟨M'.dj, uv⟩
  have n6 : dj a b ∧ dj 0 (ntv (isv a' b' c' d' e' f')) := ⟨M.dj, dj_n uw⟩
  have n7 : dj a' b' ∧ dj 0 (ntv (isv a b c d e f)) := ⟨M'.dj, dj_n uv⟩
  have n8 : (i6 e ∧ i6 f) ∧ i6 e' ∧ i6 f' := ⟨I, I'⟩
  have n9 : (i6 e' ∧ i6 f') ∧ i6 e ∧ i6 f := ⟨I', I⟩
  have n10 : (u6 c ∧ u6 d) ∧ u6 c' ∧ u6 d' := ⟨⟨M.uc, M.ud⟩, M'.uc, M'.ud⟩
  have n11 : (u6 c' ∧ u6 d') ∧ u6 c ∧ u6 d := ⟨⟨M'.uc, M'.ud⟩, M.uc, M.ud⟩
  have n12 : ((u6 c ∧ u6 d) ∧ u6 c' ∧ u6 d') ∧ c ≤ d ∧ c' ≤ d' := ⟨n10, M.cd, M'.cd⟩
  have n13 : ((u6 c' ∧ u6 d') ∧ u6 c ∧ u6 d) ∧ c' ≤ d' ∧ c ≤ d := ⟨n11, M'.cd, M.cd⟩
  have n14 : ((i6 e ∧ i6 f) ∧ i6 e' ∧ i6 f') ∧ e ≤ f ∧ e' ≤ f' := ⟨n8, M.ef, M'.ef⟩
  have n15 : ((i6 e' ∧ i6 f') ∧ i6 e ∧ i6 f) ∧ e' ≤ f' ∧ e ≤ f := ⟨n9, M'.ef, M.ef⟩
  rw [nC11t_eq]
  rw [lQ_11] at h
  dsimp only [ansL, mkL, bad12] at h
  (repeat (first
    | exact h | exact h _ _ _ _ _ _ _ _ _ _ _ _
    | with_reducible refine ob_self ?_ | with_reducible refine ob_true ?_
    | ((with_reducible refine nm_intro ?_); intro r hr; subst hr)
    | refine br_yes rfl ?_ | refine br_no rfl ?_ | refine br_yes (by assumption) ?_ | refine br_no (by assumption) ?_
    | refine And.intro (by assumption) ?_
    | refine br2 rfl h (fun h => ?_) (fun h => ?_)
    | intro _))
theorem oC11f (M : MayQ a b c d e f) (M' : MayQ a' b' c' d' e' f') (I : i6 e ∧ i6 f) (I' : i6 e' ∧ i6 f') (ua : u6 a) (ua' : u6 a') (h : ansL (lQ 2 a b c d e f a' b' c' d' e' f') K) : nC11f a b c d e f a' b' c' d' e' f' K := by
  have n1 : dj a b ∧ dj a' b' := ⟨M.dj, M'.dj⟩
  have n2 : ((u6 c ∧ u6 d) ∧ c ≤ d) ∧ (i6 e ∧ i6 f) ∧ e ≤ f := ⟨⟨⟨M.uc, M.ud⟩, M.cd⟩, I, M.ef⟩
  have n3 : ((u6 c' ∧ u6 d') ∧ c' ≤ d') ∧ (i6 e' ∧ i6 f') ∧ e' ≤ f' := ⟨⟨⟨M'.uc, M'.ud⟩, M'.cd⟩, I', M'.ef⟩
  have uv : u6 (isv a b c d e f) := isv_u ⟨ua, M.uc⟩
  have uw : u6 (isv a' b' c' d' e' f') := isv_u ⟨ua', M'.uc⟩
  have n4 : dj a b ∧ u6 (isv a' b' c' d' e' f') := ⟨M.dj, uw⟩
  have n5 : dj a' b' ∧ u6 (isv a b c d e f) := ⟨M'.dj, uv⟩
  have n6 : dj a b ∧ dj 0 (ntv (isv a' b' c' d' e' f')) := ⟨M.dj, dj_n uw⟩
  have n7 : dj a' b' ∧ dj 0 (ntv (isv a b c d e f)) := ⟨M'.dj, dj_n uv⟩
  have n8 : (i6 e ∧ i6 f) ∧ i6 e' ∧ i6 f' := ⟨I, I'⟩
  have n9 : (i6 e' ∧ i6 f') ∧ i6 e ∧ i6 f := ⟨I', I⟩
  have n10 : (u6 c ∧ u6 d) ∧ u6 c' ∧ u6 d' := ⟨⟨M.uc, M.ud⟩, M'.uc, M'.ud⟩
  have n11 : (u6 c' ∧ u6 d') ∧ u6 c ∧ u6 d := ⟨⟨M'.uc, M'.ud⟩, M.uc, M.ud⟩
  have n12 : ((u6 c ∧ u6 d) ∧ u6 c' ∧ u6 d') ∧ c ≤ d ∧ c' ≤ d' := ⟨n10, M.cd, M'.cd⟩
  have n13 : ((u6 c' ∧ u6 d') ∧ u6 c ∧ u6 d) ∧ c' ≤ d' ∧ c ≤ d := ⟨n11, M'.cd, M.cd⟩
  have n14 : ((i6 e ∧ i6 f) ∧ i6 e' ∧ i6 f') ∧ e ≤ f ∧ e' ≤ f' := ⟨n8, M.ef, M'.ef⟩
  have n15 : ((i6 e' ∧ i6 f') ∧ i6 e ∧ i6 f) ∧ e' ≤ f' ∧ e ≤ f := ⟨n9, M'.ef, M.ef⟩
  rw [nC11f_eq]
  rw [lQ_2] at h
  dsimp only [ansL, mkL, bad12] at h
  (repeat (first
    | exact h | exact h _ _ _ _ _ _ _ _ _ _ _ _
    | with_reducible refine ob_self ?_ | with_reducible refine ob_true ?_
    | ((with_reducible refine nm_intro ?_); intro r hr; subst hr)
    | refine br_yes rfl ?_ | refine br_no rfl ?_ | refine br_yes (by assumption) ?_ | refine br_no (by assumption) ?_
    | refine And.intro (by assumption) ?_
    | refine br2 rfl h (fun h => ?_) (fun h => ?_)
    | intro _))
theorem oC12t (M : MayQ a b c d e f) (M' : MayQ a' b' c' d' e' f') (I : i6 e ∧ i6 f) (I' : i6 e' ∧ i6 f') (ua : u6 a) (ua' : u6 a') (h : ansL (lQ 12 a b c d e f a' b' c' d' e' f') K) : nC12t a b c d e f a' b' c' d' e' f' K := by
  have n1 : dj a b ∧ dj a' b' := ⟨M.dj, M'.dj⟩
  have n2 : ((u6 c ∧ u6 d) ∧ c ≤ d) ∧ (i6 e ∧ i6 f) ∧ e ≤ f := ⟨⟨⟨M.uc, M.ud⟩, M.cd⟩, I, M.ef⟩
  have n3 : ((u6 c' ∧ u6 d') ∧ c' ≤ d') ∧ (i6 e' ∧ i6 f') ∧ e' ≤ f' := ⟨⟨⟨M'.uc, M'.ud⟩, M'.cd⟩, I', M'.ef⟩
  have uv : u6 (isv a b c d e f) := isv_u ⟨ua, M.uc⟩
  have uw : u6 (isv a' b' c' d' e' f') := isv_u ⟨ua', M'.uc⟩
  have n4 : dj a b ∧ u6 (isv a' b' c' d' e' f') := ⟨M.dj, uw⟩
  have n5 : dj a' b' ∧ u6 (isv a b c d e f) := ⟨M'.dj, uv⟩
  have n6 : dj a b ∧ dj 0 (ntv (isv a' b' c' d' e' f')) := ⟨M.dj, dj_n uw⟩
  have n7 : dj a' b' ∧ dj 0 (ntv (isv a b c d e f)) := ⟨M'.dj, dj_n uv⟩
  have n8 : (i6 e ∧ i6 f) ∧ i6 e' ∧ i6 f' := ⟨I, I'⟩
  have n9 : (i6 e' ∧ i6 f') ∧ i6 e ∧ i6 f := ⟨I', I⟩
  have n10 : (u6 c ∧ u6 d) ∧ u6 c' ∧ u6 d' := ⟨⟨M.uc, M.ud⟩, M'.uc, M'.ud⟩
  have n11 : (u6 c' ∧ u6 d') ∧ u6 c ∧ u6 d := ⟨⟨M'.uc, M'.ud⟩, M.uc, M.ud⟩
  have n12 : ((u6 c ∧ u6 d) ∧ u6 c' ∧ u6 d') ∧ c ≤ d ∧ c' ≤ d' := ⟨n10, M.cd, M'.cd⟩
  have n13 : ((u6 c' ∧ u6 d') ∧ u6 c ∧ u6 d) ∧ c' ≤ d' ∧ c ≤ d := ⟨n11, M'.cd, M.cd⟩
  have n14 : ((i6 e ∧ i6 f) ∧ i6 e' ∧ i6 f') ∧ e ≤ f ∧ e' ≤ f' := ⟨n8, M.ef, M'.ef⟩
  have n15 : ((i6 e' ∧ i6 f') ∧ i6 e ∧ i6 f) ∧ e' ≤ f' ∧ e ≤ f := ⟨n9, M'.ef, M.ef⟩
  rw [nC12t_eq]
  rw [lQ_12] at h
  dsimp only [ansL, mkL, bad12] at h
  (repeat (first
    | exact h | exact h _ _ _ _ _ _ _ _ _ _ _ _
    | with_reducible refine ob_self ?_ | with_reducible refine ob_true ?_
    | ((with_reducible refine nm_intro ?_); intro r hr; subst hr)
    | refine br_yes rfl ?_ | refine br_no rfl ?_ | refine br_yes (by assumption) ?_ | refine br_no (by assumption) ?_
    | refine And.intro (by assumption) ?_
    | refine br2 rfl h (fun h => ?_) (fun h => ?_)
    | intro _))
theorem oC12f (M : MayQ a b c d e f) (M' : MayQ a' b' c' d' e' f') (I : i6 e ∧ i6 f) (I' : i6 e' ∧ i6 f') (ua : u6 a) (ua' : u6 a') (h : ansL (lQ 7 a b c d e f a' b' c' d' e' f') K) : nC12f a b c d e f a' b' c' d' e' f' K := by
  have n1 : dj a b ∧ dj a' b' := ⟨M.dj, M'.dj⟩
  have n2 : ((u6 c ∧ u6 d) ∧ c ≤ d) ∧ (i6 e ∧ i6 f) ∧ e ≤ f := ⟨⟨⟨M.uc, M.ud⟩, M.cd⟩, I, M.ef⟩
  have n3 : ((u6 c' ∧ u6 d') ∧ c' ≤ d') ∧ (i6 e' ∧ i6 f') ∧ e' ≤ f' := ⟨⟨⟨M'.uc, M'.ud⟩, M'.cd⟩, I', M'.ef⟩
  have uv : u6 (isv a b c d e f) := isv_u ⟨ua, M.uc⟩
  have uw : u6 (isv a' b' c' d' e' f') := isv_u ⟨ua', M'.uc⟩
  have n4 : dj a b ∧ u6 (isv a' b' c' d' e' f') := ⟨M.dj, uw⟩
  have n5 : dj a' b' ∧ u6 (isv a b c d e f) := ⟨M'.dj, uv⟩
  have n6 : dj a b ∧ dj 0 (ntv (isv a' b' c' d' e' f')) := ⟨M.dj, dj_n uw⟩
  have n7 : dj a' b' ∧ dj 0 (ntv (isv a b c d e f)) := ⟨M'.dj, dj_n uv⟩
  have n8 : (i6 e ∧ i6 f) ∧ i6 e' ∧ i6 f' := ⟨I, I'⟩
  have n9 : (i6 e' ∧ i6 f') ∧ i6 e ∧ i6 f := ⟨I', I⟩
  have n10 : (u6 c ∧ u6 d) ∧ u6 c' ∧ u6 d' := ⟨⟨M.uc, M.ud⟩, M'.uc, M'.ud⟩
  have n11 : (u6 c' ∧ u6 d') ∧ u6 c ∧ u6 d := ⟨⟨M'.uc, M'.ud⟩, M.uc, M.ud⟩
  have n12 : ((u6 c ∧ u6 d) ∧ u6 c' ∧ u6 d') ∧ c ≤ d ∧ c' ≤ d' := ⟨n10, M.cd, M'.cd⟩
  have n13 : ((u6 c' ∧ u6 d') ∧ u6 c ∧ u6 d) ∧ c' ≤ d' ∧ c ≤ d := ⟨n11, M'.cd, M.cd⟩
  have n14 : ((i6 e ∧ i6 f) ∧ i6 e' ∧ i6 f') ∧ e ≤ f ∧ e' ≤ f' := ⟨n8, M.ef, M'.ef⟩
  have n15 : ((i6 e' ∧ i6 f') ∧ i6 e ∧ i6 f) ∧ e' ≤ f' ∧ e ≤ f := ⟨n9, M'.ef, M.ef⟩
  rw [nC12f_eq]
  rw [lQ_7] at h
  dsimp only [ansL, mkL, bad12] at h
  (repeat (first
    | exact h | exact h _ _ _ _ _ _ _ _ _ _ _ _
    | with_reducible refine ob_self ?_ | with_reducible refine ob_true ?_
    | ((with_reducible refine nm_intro ?_); intro r hr; subst hr)
    | refine br_yes rfl ?_ | refine br_no rfl ?_ | refine br_yes (by assumption) ?_ | refine br_no (by assumption) ?_
    | refine And.intro (by assumption) ?_
    | refine br2 rfl h (fun h => ?_) (fun h => ?_)
    | intro _))
theorem oC13t (M : MayQ a b c d e f) (M' : MayQ a' b' c' d' e' f') (I : i6 e ∧ i6 f) (I' : i6 e' ∧ i6 f') (ua : u6 a) (ua' : u6 a') (h : ansL (lQ 13 a b c d e f a' b' c' d' e' f') K) : nC13t a b c d e f a' b' c' d' e' f' K := by
  have n1 : dj a b ∧ dj a' b' := ⟨M.dj, M'.dj⟩
  have n2 : ((u6 c ∧ u6 d) ∧ c ≤ d) ∧ (i6 e ∧ i6 f) ∧ e ≤ f := ⟨⟨⟨M.uc, M.ud⟩, M.cd⟩, I, M.ef⟩
  have n3 : ((u6 c' ∧ u6 d') ∧ c' ≤ d') ∧ (i6 e' ∧ i6 f') ∧ e' ≤ f' := ⟨⟨⟨M'.uc, M'.ud⟩, M'.cd⟩, I', M'.ef⟩
  have uv : u6 (isv a b c d e f) := isv_u ⟨ua, M.uc⟩
  have uw : u6 (isv a' b' c' d' e' f') := isv_u ⟨ua', M'.uc⟩
  have n4 : dj a b ∧ u6 (isv a' b' c' d' e' f') := ⟨M.dj, uw⟩
  have n5 : dj a' b' ∧ u6 (isv a b c d e f) := ⟨M'.dj, uv⟩
  have n6 : dj a b ∧ dj 0 (ntv (isv a' b' c' d' e' f')) := ⟨M.dj, dj_n uw⟩
  have n7 : dj a' b' ∧ dj 0 (ntv (isv a b c d e f)) := ⟨M'.dj, dj_n uv⟩
  have n8 : (i6 e ∧ i6 f) ∧ i6 e' ∧ i6 f' := ⟨I, I'⟩
  have n9 : (i6 e' ∧ i6 f') ∧ i6 e ∧ i6 f := ⟨I', I⟩
  have n10 : (u6 c ∧ u6 d) ∧ u6 c' ∧ u6 d' := ⟨⟨M.uc, M.ud⟩, M'.uc, M'.ud⟩
  have n11 : (u6 c' ∧ u6 d') ∧ u6 c ∧ u6 d := ⟨⟨M'.uc, M'.ud⟩, M.uc, M.ud⟩
  have n12 : ((u6 c ∧ u6 d) ∧ u6 c' ∧ u6 d') ∧ c ≤ d ∧ c' ≤ d' := ⟨n10, M.cd, M'.cd⟩
  have n13 : ((u6 c' ∧ u6 d') ∧ u6 c ∧ u6 d) ∧ c' ≤ d' ∧ c ≤ d := ⟨n11, M'.cd, M.cd⟩
  have n14 : ((i6 e ∧ i6 f) ∧ i6 e' ∧ i6 f') ∧ e ≤ f ∧ e' ≤ f' := ⟨n8, M.ef, M'.ef⟩
  have n15 : ((i6 e' ∧ i6 f') ∧ i6 e ∧ i6 f) ∧ e' ≤ f' ∧ e ≤ f := ⟨n9, M'.ef, M.ef⟩
  rw [nC13t_eq]
  rw [lQ_13] at h
  dsimp only [ansL, mkL, bad12] at h
  (repeat (first
    | exact h | exact h _ _ _ _ _ _ _ _ _ _ _ _
    | with_reducible refine ob_self ?_ | with_reducible refine ob_true ?_
    | ((with_reducible refine nm_intro ?_); intro r hr; subst hr)
    | refine br_yes rfl ?_ | refine br_no rfl ?_ | refine br_yes (by assumption) ?_ | refine br_no (by assumption) ?_
    | refine And.intro (by assumption) ?_
    | refine br2 rfl h (fun h => ?_) (fun h => ?_)
    | intro _))
theorem oC13f (M : MayQ a b c d e f) (M' : MayQ a' b' c' d' e' f') (I : i6 e ∧ i6 f) (I' : i6 e' ∧ i6 f') (ua : u6 a) (ua' : u6 a') (h : ansL (lQ 6 a b c d e f a' b' c' d' e' f') K) : nC13f a b c d e f a' b' c' d' e' f' K := by
  have n1 : dj a b ∧ dj a' b' := ⟨M.dj, M'.dj⟩
  have n2 : ((u6 c ∧ u6 d) ∧ c ≤ d) ∧ (i6 e ∧ i6 f) ∧ e ≤ f := ⟨⟨⟨M.uc, M.ud⟩, M.cd⟩, I, M.ef⟩
  have n3 : ((u6 c' ∧ u6 d') ∧ c' ≤ d') ∧ (i6 e' ∧ i6 f') ∧ e' ≤ f' := ⟨⟨⟨M'.uc, M'.ud⟩, M'.cd⟩, I', M'.ef⟩
  have uv : u6 (isv a b c d e f) := isv_u ⟨ua, M.uc⟩
  have uw : u6 (isv a' b' c' d' e' f') := isv_u ⟨ua', M'.uc⟩
  have n4 : dj a b ∧ u6 (isv a' b' c' d' e' f') := ⟨M.dj, uw⟩
  have n5 : dj a' b' ∧ u6 (isv a b c d e f) := ⟨M'.dj, uv⟩
  have n6 : dj a b ∧ dj 0 (ntv (isv a' b' c' d' e' f')) := ⟨M.dj, dj_n uw⟩
  have n7 : dj a' b' ∧ dj 0 (ntv (isv a b c d e f)) := ⟨M'.dj, dj_n uv⟩
  have n8 : (i6 e ∧ i6 f) ∧ i6 e' ∧ i6 f' := ⟨I, I'⟩
  have n9 : (i6 e' ∧ i6 f') ∧ i6 e ∧ i6 f := ⟨I', I⟩
  have n10 : (u6 c ∧ u6 d) ∧ u6 c' ∧ u6 d' := ⟨⟨M.uc, M.ud⟩, M'.uc, M'.ud⟩
  have n11 : (u6 c' ∧ u6 d') ∧ u6 c ∧ u6 d := ⟨⟨M'.uc, M'.ud⟩, M.uc, M.ud⟩
  have n12 : ((u6 c ∧ u6 d) ∧ u6 c' ∧ u6 d') ∧ c ≤ d ∧ c' ≤ d' := ⟨n10, M.cd, M'.cd⟩
  have n13 : ((u6 c' ∧ u6 d') ∧ u6 c ∧ u6 d) ∧ c' ≤ d' ∧ c ≤ d := ⟨n11, M'.cd, M.cd⟩
  have n14 : ((i6 e ∧ i6 f) ∧ i6 e' ∧ i6 f') ∧ e ≤ f ∧ e' ≤ f' := ⟨n8, M.ef, M'.ef⟩
  have n15 : ((i6 e' ∧ i6 f') ∧ i6 e ∧ i6 f) ∧ e' ≤ f' ∧ e ≤ f := ⟨n9, M'.ef, M.ef⟩
  rw [nC13f_eq]
  rw [lQ_6] at h
  dsimp only [ansL, mkL, bad12] at h
  (repeat (first
    | exact h | exact h _ _ _ _ _ _ _ _ _ _ _ _
    | with_reducible refine ob_self ?_ | with_reducible refine ob_true ?_
    | ((with_reducible refine nm_intro ?_); intro r hr; subst hr)
    | refine br_yes rfl ?_ | refine br_no rfl ?_ | refine br_yes (by assumption) ?_ | refine br_no (by assumption) ?_
    | refine And.intro (by assumption) ?_
    | refine br2 rfl h (fun h => ?_) (fun h => ?_)
    | intro _))
end
end Go.Proofs.YtceclodenhgoeaaGreat.Zci
end
section
/- Layer 5, against the reference: Branch on both sides, run. -/
namespace Go.Proofs.YtceclodenhgoeaaGreat.Zcj
open Go Go.RowKit Go.Proofs Go.Proofs.YtceclodenhgoeaaGreat.Xc Go.Proofs.YtceclodenhgoeaaGreat.Zs Go.Proofs.YtceclodenhgoeaaGreat.Zk Go.Proofs.YtceclodenhgoeaaGreat.Zo Go.Proofs.YtceclodenhgoeaaGreat.Zq Go.Proofs.YtceclodenhgoeaaGreat.Zu Go.Proofs.YtceclodenhgoeaaGreat.Zbf Go.Proofs.YtceclodenhgoeaaGreat.Zbi Go.Proofs.YtceclodenhgoeaaGreat.Zbj Go.Proofs.YtceclodenhgoeaaGreat.Zbm Go.Proofs.YtceclodenhgoeaaGreat.Zcd Go.Proofs.YtceclodenhgoeaaGreat.Zcf Go.Proofs.YtceclodenhgoeaaGreat.Zci
set_option maxRecDepth 100000
set_option linter.unusedVariables false
structure LN (a b c d e f a' b' c' d' e' f' : Int) : Prop where
  m : MayQ a b c d e f
  m' : MayQ a' b' c' d' e' f'
  i : i6 e ∧ i6 f
  i' : i6 e' ∧ i6 f'
  ua : u6 a
  ua' : u6 a'
structure LM (r : LR) : Prop where
  m : MayQ r.p1 r.p2 r.p3 r.p4 r.p5 r.p6
  m' : MayQ r.q1 r.q2 r.q3 r.q4 r.q5 r.q6
def ctr (op : Int) : Int := if op = 1 then 5 else if op = 5 then 1 else if op = 2 then 11 else if op = 11 then 2 else if op = 3 then 10 else if op = 10 then 3 else if op = 6 then 13 else if op = 13 then 6 else if op = 7 then 12 else if op = 12 then 7 else 0
def qn (op : Int) (taken : Bool) : Int := bif taken then op else ctr op
def rq (q : Int) (set : Bool) : Prop := (set = true ∧ q = 0) ∨ (set = false ∧ jok q = true)
def an12 (_ _ _ _ _ _ _ _ _ _ _ _ : Int) : Prop := True
def cJu (vs : List Value) (K : Value → Prop) : Prop := match vs with
  | [.int .i64 op, .bool wide, .int .u64 a, .int .u64 b] => need (u6 a ∧ u6 b) (nm (jdo op wide a b) fun does => nm (jok op) fun ok => K (.tuple #[.bool does, .bool ok]))
  | _ => False
def cLc (vs : List Value) (K : Value → Prop) : Prop := match vs with
  | [.int .i64 op, .bool taken, .agg ⟨[.int .u64 a, .int .u64 b, .int .u64 c, .int .u64 d, .int .i64 e, .int .i64 f]⟩, .agg ⟨[.int .u64 a', .int .u64 b', .int .u64 c', .int .u64 d', .int .i64 e', .int .i64 f']⟩] => need (LN a b c d e f a' b' c' d' e' f' ∧ jok op = true) (nm (lQ (qn op taken) a b c d e f a' b' c' d' e' f') fun r => br r.ok (im (LM r) (K (.tuple #[Sc r.p1 r.p2 r.p3 r.p4 r.p5 r.p6, Sc r.q1 r.q2 r.q3 r.q4 r.q5 r.q6, .bool true]))) (al fun g1 => al fun g2 => al fun g3 => al fun g4 => al fun g5 => al fun g6 => al fun g7 => al fun g8 => al fun g9 => al fun g10 => al fun g11 => al fun g12 => im (an12 g1 g2 g3 g4 g5 g6 g7 g8 g9 g10 g11 g12) (K (.tuple #[Sc g1 g2 g3 g4 g5 g6, Sc g7 g8 g9 g10 g11 g12, .bool false]))))
  | _ => False
def cLq (vs : List Value) (K : Value → Prop) : Prop := match vs with
  | [.int .i64 q, .bool set, .agg ⟨[.int .u64 a, .int .u64 b, .int .u64 c, .int .u64 d, .int .i64 e, .int .i64 f]⟩, .agg ⟨[.int .u64 a', .int .u64 b', .int .u64 c', .int .u64 d', .int .i64 e', .int .i64 f']⟩] => need (LN a b c d e f a' b' c' d' e' f' ∧ rq q set) (nm (lQ q a b c d e f a' b' c' d' e' f') fun r => br r.ok (im (LM r) (K (.tuple #[Sc r.p1 r.p2 r.p3 r.p4 r.p5 r.p6, Sc r.q1 r.q2 r.q3 r.q4 r.q5 r.q6, .bool true]))) (al fun g1 => al fun g2 => al fun g3 => al fun g4 => al fun g5 => al fun g6 => al fun g7 => al fun g8 => al fun g9 => al fun g10 => al fun g11 => al fun g12 => im (an12 g1 g2 g3 g4 g5 g6 g7 g8 g9 g10 g11 g12) (K (.tuple #[Sc g1 g2 g3 g4 g5 g6, Sc g7 g8 g9 g10 g11 g12, .bool false]))))
  | _ => False
def cCt (vs : List Value) (K : Value → Prop) : Prop := match vs with
  | [.int .i64 op] => nm (ctr op) fun q => K (.int .i64 q)
  | _ => False
noncomputable abbrev TBc : Tab := [(13, cIs), (40, cJu), (25, cWi), (21, cUp), (41, cLc), (15, cNo)]
noncomputable abbrev TBr : Tab := [(14, cIs), (42, cJu), (26, cWi), (22, cUp), (44, cLq), (43, cCt), (16, cNo)]
def nBc (op : Int) (wide taken : Bool) (a b c d e f a' b' c' d' e' f' : Int) (K : Value → Prop) : Prop := run Tryz.prog TBc EEk true 90 11 [.int .i64 op, .bool wide, .bool taken, Sc a b c d e f, Sc a' b' c' d' e' f'] K
theorem nBc_eq (op : Int) (wide taken : Bool) (a b c d e f a' b' c' d' e' f' : Int) (K : Value → Prop) : nBc op wide taken a b c d e f a' b' c' d' e' f' K = (nm (Go.Proofs.YtceclodenhgoeaaGreat.Zu.isv a b c d e f) fun r => nm (Go.Proofs.YtceclodenhgoeaaGreat.Zu.iso a b c d e f) fun r_1 => nm (Go.Proofs.YtceclodenhgoeaaGreat.Zu.isv a' b' c' d' e' f') fun r_2 => nm (Go.Proofs.YtceclodenhgoeaaGreat.Zu.iso a' b' c' d' e' f') fun r_3 => need (Go.Proofs.YtceclodenhgoeaaGreat.Zu.u6 r ∧ Go.Proofs.YtceclodenhgoeaaGreat.Zu.u6 r_2) (nm (Go.Proofs.YtceclodenhgoeaaGreat.Zcd.jdo op wide r r_2) fun r => nm (Go.Proofs.YtceclodenhgoeaaGreat.Zcd.jok op) fun r_4 => br (!r_4) (K (.tuple (#[.agg (#[.int .u64 a, .int .u64 b, .int .u64 c, .int .u64 d, .int .i64 e, .int .i64 f]), .agg (#[.int .u64 a', .int .u64 b', .int .u64 c', .int .u64 d', .int .i64 e', .int .i64 f']), .bool true]))) (ob r_1 r_1 (ob (!r_1) true (nm (bif r_1 then r_3 else false) fun r_5 => ob r_5 r_5 (ob r_5 r_5 (ob r_5 r_5 (ob r_5 r_5 (ob r_5 r_5 (ob (!r_5) true (nm (bif r_5 then r == taken else false) fun r => br r (K (.tuple (#[.agg (#[.int .u64 a, .int .u64 b, .int .u64 c, .int .u64 d, .int .i64 e, .int .i64 f]), .agg (#[.int .u64 a', .int .u64 b', .int .u64 c', .int .u64 d', .int .i64 e', .int .i64 f']), .bool true]))) (ob r_1 r_1 (ob (!r_1) true (nm (bif r_1 then r_3 else false) fun r => br r (K (.tuple (#[.agg (#[.int .u64 0, .int .u64 0, .int .u64 0, .int .u64 0, .int .i64 0, .int .i64 0]), .agg (#[.int .u64 0, .int .u64 0, .int .u64 0, .int .u64 0, .int .i64 0, .int .i64 0]), .bool false]))) (ob (!op == 6) (!op == 6) (ob (!op == 6) (!op == 6) (ob (op == 6) true (ob (!op == 6) (!op == 6) (nm (bif op == 6 then true else op == 7) fun r => ob (!r) (!r) (ob (!r) (!r) (ob r true (ob (!r) (!r) (nm (bif r then true else op == 12) fun r => ob (!r) (!r) (ob (!r) (!r) (ob r true (ob (!r) (!r) (nm (bif r then true else op == 13) fun r => nm (4294967295 : Int) fun r_6 => nm (0 : Int) fun r_7 => nm (4294967295 : Int) fun r_8 => need ((Go.Proofs.YtceclodenhgoeaaGreat.Zbf.dj a b ∧ Go.Proofs.YtceclodenhgoeaaGreat.Zbf.dj 0 r_6) ∧ c ≤ d) (nm (Go.Proofs.YtceclodenhgoeaaGreat.Zbm.wiS a b c d e f 0 r_6 0 r_6 r_7 r_8) fun r_9 => nm (4294967295 : Int) fun r_10 => nm (0 : Int) fun r_11 => nm (4294967295 : Int) fun r_12 => ob r_9 r_9 (ob r_9 r_9 (need ((Go.Proofs.YtceclodenhgoeaaGreat.Zbf.dj a' b' ∧ Go.Proofs.YtceclodenhgoeaaGreat.Zbf.dj 0 r_10) ∧ c' ≤ d') (nm (Go.Proofs.YtceclodenhgoeaaGreat.Zbm.wiS a' b' c' d' e' f' 0 r_10 0 r_10 r_11 r_12) fun r_13 => ob r_9 r_9 (ob (!r_9) true (nm (bif r_9 then r_13 else false) fun r_14 => ob r_14 r_14 (ob r_14 r_14 (ob (r_14 && !!r) (r_14 && !!r) (ob (r_14 && !!r) (r_14 && !!r) (ob (r_14 && !!r) (r_14 && !!r) (ob (r_14 && !!r) (r_14 && !!r) (ob (r_14 && !!r) (r_14 && !!r) (ob (r_14 && !!r) (r_14 && !!r) (ob (r_14 && !!r) (r_14 && !!r) (ob r_14 r_14 (ob (r_14 && !r) true (ob (r_14 && !!r) (r_14 && !!r) (nm (bif !r then true else decide ((if d' > d then d' else d) < 2147483648)) fun r => ob r_14 r_14 (ob (!r_14) true (nm (bif r_14 then r else false) fun r => ob (!wide) (!wide) (ob (!wide) (!wide) (ob (!!wide) true (nm (bif !wide then !r else false) fun r => br r (K (.tuple (#[.agg (#[.int .u64 a, .int .u64 b, .int .u64 c, .int .u64 d, .int .i64 e, .int .i64 f]), .agg (#[.int .u64 a', .int .u64 b', .int .u64 c', .int .u64 d', .int .i64 e', .int .i64 f']), .bool true]))) (need (Go.Proofs.YtceclodenhgoeaaGreat.Zcj.LN a b c d e f a' b' c' d' e' f' ∧ Go.Proofs.YtceclodenhgoeaaGreat.Zcd.jok op = true) (nm (Go.Proofs.YtceclodenhgoeaaGreat.Zci.lQ (Go.Proofs.YtceclodenhgoeaaGreat.Zcj.qn op taken) a b c d e f a' b' c' d' e' f') fun r => br (Go.Proofs.YtceclodenhgoeaaGreat.Zci.LR.ok r) (im (Go.Proofs.YtceclodenhgoeaaGreat.Zcj.LM r) (need (Go.Proofs.YtceclodenhgoeaaGreat.Zbm.MayQ (Go.Proofs.YtceclodenhgoeaaGreat.Zci.LR.p1 r) (Go.Proofs.YtceclodenhgoeaaGreat.Zci.LR.p2 r) (Go.Proofs.YtceclodenhgoeaaGreat.Zci.LR.p3 r) (Go.Proofs.YtceclodenhgoeaaGreat.Zci.LR.p4 r) (Go.Proofs.YtceclodenhgoeaaGreat.Zci.LR.p5 r) (Go.Proofs.YtceclodenhgoeaaGreat.Zci.LR.p6 r)) (nm (Go.Proofs.YtceclodenhgoeaaGreat.Zbj.nz (Go.Proofs.YtceclodenhgoeaaGreat.Zci.LR.p1 r) (Go.Proofs.YtceclodenhgoeaaGreat.Zci.LR.p2 r) (Go.Proofs.YtceclodenhgoeaaGreat.Zci.LR.p3 r) (Go.Proofs.YtceclodenhgoeaaGreat.Zci.LR.p4 r) (Go.Proofs.YtceclodenhgoeaaGreat.Zci.LR.p5 r) (Go.Proofs.YtceclodenhgoeaaGreat.Zci.LR.p6 r)) fun r_15 => br (Go.Proofs.YtceclodenhgoeaaGreat.Zbj.NR.ok r_15) (need (Go.Proofs.YtceclodenhgoeaaGreat.Zbm.MayQ (Go.Proofs.YtceclodenhgoeaaGreat.Zci.LR.q1 r) (Go.Proofs.YtceclodenhgoeaaGreat.Zci.LR.q2 r) (Go.Proofs.YtceclodenhgoeaaGreat.Zci.LR.q3 r) (Go.Proofs.YtceclodenhgoeaaGreat.Zci.LR.q4 r) (Go.Proofs.YtceclodenhgoeaaGreat.Zci.LR.q5 r) (Go.Proofs.YtceclodenhgoeaaGreat.Zci.LR.q6 r)) (nm (Go.Proofs.YtceclodenhgoeaaGreat.Zbj.nz (Go.Proofs.YtceclodenhgoeaaGreat.Zci.LR.q1 r) (Go.Proofs.YtceclodenhgoeaaGreat.Zci.LR.q2 r) (Go.Proofs.YtceclodenhgoeaaGreat.Zci.LR.q3 r) (Go.Proofs.YtceclodenhgoeaaGreat.Zci.LR.q4 r) (Go.Proofs.YtceclodenhgoeaaGreat.Zci.LR.q5 r) (Go.Proofs.YtceclodenhgoeaaGreat.Zci.LR.q6 r)) fun r => br (Go.Proofs.YtceclodenhgoeaaGreat.Zbj.NR.ok r) (K (.tuple (#[.agg (#[.int .u64 (Go.Proofs.YtceclodenhgoeaaGreat.Zbj.NR.a r_15), .int .u64 (Go.Proofs.YtceclodenhgoeaaGreat.Zbj.NR.b r_15), .int .u64 (Go.Proofs.YtceclodenhgoeaaGreat.Zbj.NR.c r_15), .int .u64 (Go.Proofs.YtceclodenhgoeaaGreat.Zbj.NR.d r_15), .int .i64 (Go.Proofs.YtceclodenhgoeaaGreat.Zbj.NR.e r_15), .int .i64 (Go.Proofs.YtceclodenhgoeaaGreat.Zbj.NR.f r_15)]), .agg (#[.int .u64 (Go.Proofs.YtceclodenhgoeaaGreat.Zbj.NR.a r), .int .u64 (Go.Proofs.YtceclodenhgoeaaGreat.Zbj.NR.b r), .int .u64 (Go.Proofs.YtceclodenhgoeaaGreat.Zbj.NR.c r), .int .u64 (Go.Proofs.YtceclodenhgoeaaGreat.Zbj.NR.d r), .int .i64 (Go.Proofs.YtceclodenhgoeaaGreat.Zbj.NR.e r), .int .i64 (Go.Proofs.YtceclodenhgoeaaGreat.Zbj.NR.f r)]), .bool true]))) (K (.tuple (#[.agg (#[.int .u64 0, .int .u64 0, .int .u64 0, .int .u64 0, .int .i64 0, .int .i64 0]), .agg (#[.int .u64 0, .int .u64 0, .int .u64 0, .int .u64 0, .int .i64 0, .int .i64 0]), .bool false]))))) (K (.tuple (#[.agg (#[.int .u64 0, .int .u64 0, .int .u64 0, .int .u64 0, .int .i64 0, .int .i64 0]), .agg (#[.int .u64 0, .int .u64 0, .int .u64 0, .int .u64 0, .int .i64 0, .int .i64 0]), .bool false])))))) (al fun x => al fun x_1 => al fun x_2 => al fun x_3 => al fun x_4 => al fun x_5 => al fun x_6 => al fun x_7 => al fun x_8 => al fun x_9 => al fun x_10 => al fun x_11 => im (Go.Proofs.YtceclodenhgoeaaGreat.Zcj.an12 x x_1 x_2 x_3 x_4 x_5 x_6 x_7 x_8 x_9 x_10 x_11) (K (.tuple (#[.agg (#[.int .u64 0, .int .u64 0, .int .u64 0, .int .u64 0, .int .i64 0, .int .i64 0]), .agg (#[.int .u64 0, .int .u64 0, .int .u64 0, .int .u64 0, .int .i64 0, .int .i64 0]), .bool false])))))))))))))))))))))))))))))))))))))))))))))))))))))))) := by kernel_rfl
def nBr (op : Int) (wide taken : Bool) (a b c d e f a' b' c' d' e' f' : Int) (K : Value → Prop) : Prop := run Tryz.prog TBr EEk true 90 12 [.int .i64 op, .bool wide, .bool taken, Sc a b c d e f, Sc a' b' c' d' e' f'] K
theorem nBr_eq (op : Int) (wide taken : Bool) (a b c d e f a' b' c' d' e' f' : Int) (K : Value → Prop) : nBr op wide taken a b c d e f a' b' c' d' e' f' K = (nm (Go.Proofs.YtceclodenhgoeaaGreat.Zu.isv a b c d e f) fun r => nm (Go.Proofs.YtceclodenhgoeaaGreat.Zu.iso a b c d e f) fun r_1 => nm (Go.Proofs.YtceclodenhgoeaaGreat.Zu.isv a' b' c' d' e' f') fun r_2 => nm (Go.Proofs.YtceclodenhgoeaaGreat.Zu.iso a' b' c' d' e' f') fun r_3 => need (Go.Proofs.YtceclodenhgoeaaGreat.Zu.u6 r ∧ Go.Proofs.YtceclodenhgoeaaGreat.Zu.u6 r_2) (nm (Go.Proofs.YtceclodenhgoeaaGreat.Zcd.jdo op wide r r_2) fun r => nm (Go.Proofs.YtceclodenhgoeaaGreat.Zcd.jok op) fun r_4 => br (!r_4) (K (.tuple (#[.agg (#[.int .u64 a, .int .u64 b, .int .u64 c, .int .u64 d, .int .i64 e, .int .i64 f]), .agg (#[.int .u64 a', .int .u64 b', .int .u64 c', .int .u64 d', .int .i64 e', .int .i64 f']), .bool true]))) (ob r_1 r_1 (ob (!r_1) true (nm (bif r_1 then r_3 else false) fun r_5 => br r_5 (br (r == taken) (K (.tuple (#[.agg (#[.int .u64 a, .int .u64 b, .int .u64 c, .int .u64 d, .int .i64 e, .int .i64 f]), .agg (#[.int .u64 a', .int .u64 b', .int .u64 c', .int .u64 d', .int .i64 e', .int .i64 f']), .bool true]))) (K (.tuple (#[.agg (#[.int .u64 0, .int .u64 0, .int .u64 0, .int .u64 0, .int .i64 0, .int .i64 0]), .agg (#[.int .u64 0, .int .u64 0, .int .u64 0, .int .u64 0, .int .i64 0, .int .i64 0]), .bool false])))) (ob (!op == 6) (!op == 6) (ob (!op == 6) (!op == 6) (ob (op == 6) true (ob (!op == 6) (!op == 6) (nm (bif op == 6 then true else op == 7) fun r => ob (!r) (!r) (ob (!r) (!r) (ob r true (ob (!r) (!r) (nm (bif r then true else op == 12) fun r => ob (!r) (!r) (ob (!r) (!r) (ob r true (ob (!r) (!r) (nm (bif r then true else op == 13) fun r => nm (4294967295 : Int) fun r_6 => nm (0 : Int) fun r_7 => nm (4294967295 : Int) fun r_8 => ob (!wide) (!wide) (ob (!wide) (!wide) (need ((Go.Proofs.YtceclodenhgoeaaGreat.Zbf.dj a b ∧ Go.Proofs.YtceclodenhgoeaaGreat.Zbf.dj 0 r_6) ∧ c ≤ d) (nm (Go.Proofs.YtceclodenhgoeaaGreat.Zbm.wiS a b c d e f 0 r_6 0 r_6 r_7 r_8) fun r_9 => ob (!wide) (!wide) (ob (!wide) (!wide) (nm (4294967295 : Int) fun r_10 => nm (0 : Int) fun r_11 => nm (4294967295 : Int) fun r_12 => ob (!wide && !!r_9) (!wide && !!r_9) (ob (!wide && !!r_9) (!wide && !!r_9) (need ((Go.Proofs.YtceclodenhgoeaaGreat.Zbf.dj a' b' ∧ Go.Proofs.YtceclodenhgoeaaGreat.Zbf.dj 0 r_10) ∧ c' ≤ d') (nm (Go.Proofs.YtceclodenhgoeaaGreat.Zbm.wiS a' b' c' d' e' f' 0 r_10 0 r_10 r_11 r_12) fun r_13 => ob (!wide && !!r_9) (!wide && !!r_9) (ob (!wide) (!wide) (ob (!wide && !r_9) true (ob (!wide && !!r_9) (!wide && !!r_9) (nm (bif !r_9 then true else !r_13) fun r_14 => ob (!wide) (!wide) (ob (!wide && !r_14) (!wide && !r_14) (ob (!wide && !r_14 && r) (!wide && !r_14 && r) (ob (!wide && !r_14 && r) (!wide && !r_14 && r) (ob (!wide && !r_14 && r) (!wide && !r_14 && r) (ob (!wide && !r_14 && r) (!wide && !r_14 && r) (ob (!wide && !r_14 && r && !decide (d ≥ 2147483648)) (!wide && !r_14 && r && !decide (d ≥ 2147483648)) (ob (!wide && !r_14 && r && !decide (d ≥ 2147483648)) (!wide && !r_14 && r && !decide (d ≥ 2147483648)) (ob (!wide && !r_14 && r && !decide (d ≥ 2147483648)) (!wide && !r_14 && r && !decide (d ≥ 2147483648)) (ob (!wide && !r_14 && r) (!wide && !r_14 && r) (ob (!wide && !r_14 && r && decide (d ≥ 2147483648)) true (ob (!wide && !r_14 && r && !decide (d ≥ 2147483648)) (!wide && !r_14 && r && !decide (d ≥ 2147483648)) (nm (bif decide (d ≥ 2147483648) then true else decide (d' ≥ 2147483648)) fun r_15 => ob (!wide && !r_14) (!wide && !r_14) (ob (!wide && !r_14 && r) (!wide && !r_14 && r) (ob (!wide && !r_14 && !r) true (nm (bif r then r_15 else false) fun r => ob (!wide) (!wide) (ob (!wide && r_14) true (ob (!wide && !r_14) (!wide && !r_14) (nm (bif r_14 then true else r) fun r => ob (!wide) (!wide) (ob (!!wide) true (nm (bif !wide then r else false) fun r => br r (K (.tuple (#[.agg (#[.int .u64 a, .int .u64 b, .int .u64 c, .int .u64 d, .int .i64 e, .int .i64 f]), .agg (#[.int .u64 a', .int .u64 b', .int .u64 c', .int .u64 d', .int .i64 e', .int .i64 f']), .bool true]))) (ob (op == 4) (op == 4) (ob (op == 4) (op == 4) (ob (!op == 4) true (nm (bif op == 4 then !taken else false) fun r => br (!taken) (nm (Go.Proofs.YtceclodenhgoeaaGreat.Zcj.ctr op) fun r_16 => need (Go.Proofs.YtceclodenhgoeaaGreat.Zcj.LN a b c d e f a' b' c' d' e' f' ∧ Go.Proofs.YtceclodenhgoeaaGreat.Zcj.rq r_16 r) (nm (Go.Proofs.YtceclodenhgoeaaGreat.Zci.lQ r_16 a b c d e f a' b' c' d' e' f') fun r => br (Go.Proofs.YtceclodenhgoeaaGreat.Zci.LR.ok r) (im (Go.Proofs.YtceclodenhgoeaaGreat.Zcj.LM r) (need (Go.Proofs.YtceclodenhgoeaaGreat.Zbm.MayQ (Go.Proofs.YtceclodenhgoeaaGreat.Zci.LR.p1 r) (Go.Proofs.YtceclodenhgoeaaGreat.Zci.LR.p2 r) (Go.Proofs.YtceclodenhgoeaaGreat.Zci.LR.p3 r) (Go.Proofs.YtceclodenhgoeaaGreat.Zci.LR.p4 r) (Go.Proofs.YtceclodenhgoeaaGreat.Zci.LR.p5 r) (Go.Proofs.YtceclodenhgoeaaGreat.Zci.LR.p6 r)) (nm (Go.Proofs.YtceclodenhgoeaaGreat.Zbj.nz (Go.Proofs.YtceclodenhgoeaaGreat.Zci.LR.p1 r) (Go.Proofs.YtceclodenhgoeaaGreat.Zci.LR.p2 r) (Go.Proofs.YtceclodenhgoeaaGreat.Zci.LR.p3 r) (Go.Proofs.YtceclodenhgoeaaGreat.Zci.LR.p4 r) (Go.Proofs.YtceclodenhgoeaaGreat.Zci.LR.p5 r) (Go.Proofs.YtceclodenhgoeaaGreat.Zci.LR.p6 r)) fun r_17 => need (Go.Proofs.YtceclodenhgoeaaGreat.Zbm.MayQ (Go.Proofs.YtceclodenhgoeaaGreat.Zci.LR.q1 r) (Go.Proofs.YtceclodenhgoeaaGreat.Zci.LR.q2 r) (Go.Proofs.YtceclodenhgoeaaGreat.Zci.LR.q3 r) (Go.Proofs.YtceclodenhgoeaaGreat.Zci.LR.q4 r) (Go.Proofs.YtceclodenhgoeaaGreat.Zci.LR.q5 r) (Go.Proofs.YtceclodenhgoeaaGreat.Zci.LR.q6 r)) (nm (Go.Proofs.YtceclodenhgoeaaGreat.Zbj.nz (Go.Proofs.YtceclodenhgoeaaGreat.Zci.LR.q1 r) (Go.Proofs.YtceclodenhgoeaaGreat.Zci.LR.q2 r) (Go.Proofs.YtceclodenhgoeaaGreat.Zci.LR.q3 r) (Go.Proofs.YtceclodenhgoeaaGreat.Zci.LR.q4 r) (Go.Proofs.YtceclodenhgoeaaGreat.Zci.LR.q5 r) (Go.Proofs.YtceclodenhgoeaaGreat.Zci.LR.q6 r)) fun r => ob (!!Go.Proofs.YtceclodenhgoeaaGreat.Zbj.NR.ok r_17) (!!Go.Proofs.YtceclodenhgoeaaGreat.Zbj.NR.ok r_17) (ob (!Go.Proofs.YtceclodenhgoeaaGreat.Zbj.NR.ok r_17) true (ob (!!Go.Proofs.YtceclodenhgoeaaGreat.Zbj.NR.ok r_17) (!!Go.Proofs.YtceclodenhgoeaaGreat.Zbj.NR.ok r_17) (nm (bif !Go.Proofs.YtceclodenhgoeaaGreat.Zbj.NR.ok r_17 then true else !Go.Proofs.YtceclodenhgoeaaGreat.Zbj.NR.ok r) fun r_18 => br r_18 (K (.tuple (#[.agg (#[.int .u64 0, .int .u64 0, .int .u64 0, .int .u64 0, .int .i64 0, .int .i64 0]), .agg (#[.int .u64 0, .int .u64 0, .int .u64 0, .int .u64 0, .int .i64 0, .int .i64 0]), .bool false]))) (K (.tuple (#[.agg (#[.int .u64 (Go.Proofs.YtceclodenhgoeaaGreat.Zbj.NR.a r_17), .int .u64 (Go.Proofs.YtceclodenhgoeaaGreat.Zbj.NR.b r_17), .int .u64 (Go.Proofs.YtceclodenhgoeaaGreat.Zbj.NR.c r_17), .int .u64 (Go.Proofs.YtceclodenhgoeaaGreat.Zbj.NR.d r_17), .int .i64 (Go.Proofs.YtceclodenhgoeaaGreat.Zbj.NR.e r_17), .int .i64 (Go.Proofs.YtceclodenhgoeaaGreat.Zbj.NR.f r_17)]), .agg (#[.int .u64 (Go.Proofs.YtceclodenhgoeaaGreat.Zbj.NR.a r), .int .u64 (Go.Proofs.YtceclodenhgoeaaGreat.Zbj.NR.b r), .int .u64 (Go.Proofs.YtceclodenhgoeaaGreat.Zbj.NR.c r), .int .u64 (Go.Proofs.YtceclodenhgoeaaGreat.Zbj.NR.d r), .int .i64 (Go.Proofs.YtceclodenhgoeaaGreat.Zbj.NR.e r), .int .i64 (Go.Proofs.YtceclodenhgoeaaGreat.Zbj.NR.f r)]), .bool true])))))))))) (al fun x => al fun x_1 => al fun x_2 => al fun x_3 => al fun x_4 => al fun x_5 => al fun x_6 => al fun x_7 => al fun x_8 => al fun x_9 => al fun x_10 => al fun x_11 => im (Go.Proofs.YtceclodenhgoeaaGreat.Zcj.an12 x x_1 x_2 x_3 x_4 x_5 x_6 x_7 x_8 x_9 x_10 x_11) (K (.tuple (#[.agg (#[.int .u64 0, .int .u64 0, .int .u64 0, .int .u64 0, .int .i64 0, .int .i64 0]), .agg (#[.int .u64 0, .int .u64 0, .int .u64 0, .int .u64 0, .int .i64 0, .int .i64 0]), .bool false])))))) (need (Go.Proofs.YtceclodenhgoeaaGreat.Zcj.LN a b c d e f a' b' c' d' e' f' ∧ Go.Proofs.YtceclodenhgoeaaGreat.Zcj.rq op r) (nm (Go.Proofs.YtceclodenhgoeaaGreat.Zci.lQ op a b c d e f a' b' c' d' e' f') fun r => br (Go.Proofs.YtceclodenhgoeaaGreat.Zci.LR.ok r) (im (Go.Proofs.YtceclodenhgoeaaGreat.Zcj.LM r) (need (Go.Proofs.YtceclodenhgoeaaGreat.Zbm.MayQ (Go.Proofs.YtceclodenhgoeaaGreat.Zci.LR.p1 r) (Go.Proofs.YtceclodenhgoeaaGreat.Zci.LR.p2 r) (Go.Proofs.YtceclodenhgoeaaGreat.Zci.LR.p3 r) (Go.Proofs.YtceclodenhgoeaaGreat.Zci.LR.p4 r) (Go.Proofs.YtceclodenhgoeaaGreat.Zci.LR.p5 r) (Go.Proofs.YtceclodenhgoeaaGreat.Zci.LR.p6 r)) (nm (Go.Proofs.YtceclodenhgoeaaGreat.Zbj.nz (Go.Proofs.YtceclodenhgoeaaGreat.Zci.LR.p1 r) (Go.Proofs.YtceclodenhgoeaaGreat.Zci.LR.p2 r) (Go.Proofs.YtceclodenhgoeaaGreat.Zci.LR.p3 r) (Go.Proofs.YtceclodenhgoeaaGreat.Zci.LR.p4 r) (Go.Proofs.YtceclodenhgoeaaGreat.Zci.LR.p5 r) (Go.Proofs.YtceclodenhgoeaaGreat.Zci.LR.p6 r)) fun r_16 => need (Go.Proofs.YtceclodenhgoeaaGreat.Zbm.MayQ (Go.Proofs.YtceclodenhgoeaaGreat.Zci.LR.q1 r) (Go.Proofs.YtceclodenhgoeaaGreat.Zci.LR.q2 r) (Go.Proofs.YtceclodenhgoeaaGreat.Zci.LR.q3 r) (Go.Proofs.YtceclodenhgoeaaGreat.Zci.LR.q4 r) (Go.Proofs.YtceclodenhgoeaaGreat.Zci.LR.q5 r) (Go.Proofs.YtceclodenhgoeaaGreat.Zci.LR.q6 r)) (nm (Go.Proofs.YtceclodenhgoeaaGreat.Zbj.nz (Go.Proofs.YtceclodenhgoeaaGreat.Zci.LR.q1 r) (Go.Proofs.YtceclodenhgoeaaGreat.Zci.LR.q2 r) (Go.Proofs.YtceclodenhgoeaaGreat.Zci.LR.q3 r) (Go.Proofs.YtceclodenhgoeaaGreat.Zci.LR.q4 r) (Go.Proofs.YtceclodenhgoeaaGreat.Zci.LR.q5 r) (Go.Proofs.YtceclodenhgoeaaGreat.Zci.LR.q6 r)) fun r => ob (!!Go.Proofs.YtceclodenhgoeaaGreat.Zbj.NR.ok r_16) (!!Go.Proofs.YtceclodenhgoeaaGreat.Zbj.NR.ok r_16) (ob (!Go.Proofs.YtceclodenhgoeaaGreat.Zbj.NR.ok r_16) true (ob (!!Go.Proofs.YtceclodenhgoeaaGreat.Zbj.NR.ok r_16) (!!Go.Proofs.YtceclodenhgoeaaGreat.Zbj.NR.ok r_16) (nm (bif !Go.Proofs.YtceclodenhgoeaaGreat.Zbj.NR.ok r_16 then true else !Go.Proofs.YtceclodenhgoeaaGreat.Zbj.NR.ok r) fun r_17 => br r_17 (K (.tuple (#[.agg (#[.int .u64 0, .int .u64 0, .int .u64 0, .int .u64 0, .int .i64 0, .int .i64 0]), .agg (#[.int .u64 0, .int .u64 0, .int .u64 0, .int .u64 0, .int .i64 0, .int .i64 0]), .bool false]))) (K (.tuple (#[.agg (#[.int .u64 (Go.Proofs.YtceclodenhgoeaaGreat.Zbj.NR.a r_16), .int .u64 (Go.Proofs.YtceclodenhgoeaaGreat.Zbj.NR.b r_16), .int .u64 (Go.Proofs.YtceclodenhgoeaaGreat.Zbj.NR.c r_16), .int .u64 (Go.Proofs.YtceclodenhgoeaaGreat.Zbj.NR.d r_16), .int .i64 (Go.Proofs.YtceclodenhgoeaaGreat.Zbj.NR.e r_16), .int .i64 (Go.Proofs.YtceclodenhgoeaaGreat.Zbj.NR.f r_16)]), .agg (#[.int .u64 (Go.Proofs.YtceclodenhgoeaaGreat.Zbj.NR.a r), .int .u64 (Go.Proofs.YtceclodenhgoeaaGreat.Zbj.NR.b r), .int .u64 (Go.Proofs.YtceclodenhgoeaaGreat.Zbj.NR.c r), .int .u64 (Go.Proofs.YtceclodenhgoeaaGreat.Zbj.NR.d r), .int .i64 (Go.Proofs.YtceclodenhgoeaaGreat.Zbj.NR.e r), .int .i64 (Go.Proofs.YtceclodenhgoeaaGreat.Zbj.NR.f r)]), .bool true])))))))))) (al fun x => al fun x_1 => al fun x_2 => al fun x_3 => al fun x_4 => al fun x_5 => al fun x_6 => al fun x_7 => al fun x_8 => al fun x_9 => al fun x_10 => al fun x_11 => im (Go.Proofs.YtceclodenhgoeaaGreat.Zcj.an12 x x_1 x_2 x_3 x_4 x_5 x_6 x_7 x_8 x_9 x_10 x_11) (K (.tuple (#[.agg (#[.int .u64 0, .int .u64 0, .int .u64 0, .int .u64 0, .int .i64 0, .int .i64 0]), .agg (#[.int .u64 0, .int .u64 0, .int .u64 0, .int .u64 0, .int .i64 0, .int .i64 0]), .bool false])))))))))))))))))))))))))))))))))))))))))))))))))))))))))))) := by kernel_rfl
end Go.Proofs.YtceclodenhgoeaaGreat.Zcj
end
section
/- Layer 5, against the reference: Branch is the same on both sides. -/
namespace Go.Proofs.YtceclodenhgoeaaGreat.Zck
open Go Go.RowKit Go.Proofs Go.Proofs.YtceclodenhgoeaaGreat.Xc Go.Proofs.YtceclodenhgoeaaGreat.Zs Go.Proofs.YtceclodenhgoeaaGreat.Zk Go.Proofs.YtceclodenhgoeaaGreat.Zo Go.Proofs.YtceclodenhgoeaaGreat.Zq Go.Proofs.YtceclodenhgoeaaGreat.Zu Go.Proofs.YtceclodenhgoeaaGreat.Zv Go.Proofs.YtceclodenhgoeaaGreat.Zbf Go.Proofs.YtceclodenhgoeaaGreat.Zbi Go.Proofs.YtceclodenhgoeaaGreat.Zbj Go.Proofs.YtceclodenhgoeaaGreat.Zbm Go.Proofs.YtceclodenhgoeaaGreat.Zcd Go.Proofs.YtceclodenhgoeaaGreat.Zcf Go.Proofs.YtceclodenhgoeaaGreat.Zcg Go.Proofs.YtceclodenhgoeaaGreat.Zci Go.Proofs.YtceclodenhgoeaaGreat.Zcj Go.Proofs.YtceclodenhgoeaaGreat.Bv
set_option linter.unusedVariables false
set_option linter.unusedSimpArgs false
def sgB (op : Int) : Bool := ((op == 6 || op == 7) || op == 12) || op == 13
def smB (op a b c d e f a' b' c' d' e' f' : Int) : Bool := (wiS a b c d e f 0 4294967295 0 4294967295 0 4294967295 && wiS a' b' c' d' e' f' 0 4294967295 0 4294967295 0 4294967295) && (!sgB op || (decide (d < 2147483648) && decide (d' < 2147483648)))
def zL : LR := ⟨0, 0, 0, 0, 0, 0, 0, 0, 0, 0, 0, 0, false⟩
noncomputable def nrL (r : LR) : LR := bif r.ok then (bif (nz r.p1 r.p2 r.p3 r.p4 r.p5 r.p6).ok && (nz r.q1 r.q2 r.q3 r.q4 r.q5 r.q6).ok then ⟨(nz r.p1 r.p2 r.p3 r.p4 r.p5 r.p6).a, (nz r.p1 r.p2 r.p3 r.p4 r.p5 r.p6).b, (nz r.p1 r.p2 r.p3 r.p4 r.p5 r.p6).c, (nz r.p1 r.p2 r.p3 r.p4 r.p5 r.p6).d, (nz r.p1 r.p2 r.p3 r.p4 r.p5 r.p6).e, (nz r.p1 r.p2 r.p3 r.p4 r.p5 r.p6).f, (nz r.q1 r.q2 r.q3 r.q4 r.q5 r.q6).a, (nz r.q1 r.q2 r.q3 r.q4 r.q5 r.q6).b, (nz r.q1 r.q2 r.q3 r.q4 r.q5 r.q6).c, (nz r.q1 r.q2 r.q3 r.q4 r.q5 r.q6).d, (nz r.q1 r.q2 r.q3 r.q4 r.q5 r.q6).e, (nz r.q1 r.q2 r.q3 r.q4 r.q5 r.q6).f, true⟩ else zL) else zL
noncomputable def brQ (op : Int) (wide taken : Bool) (a b c d e f a' b' c' d' e' f' : Int) : LR :=
  bif jok op then (bif iso a b c d e f && iso a' b' c' d' e' f' then (bif jdo op wide (isv a b c d e f) (isv a' b' c' d' e' f') == taken then ⟨a, b, c, d, e, f, a', b', c', d', e', f', true⟩ else zL)
    else (bif !wide && !smB op a b c d e f a' b' c' d' e' f' then ⟨a, b, c, d, e, f, a', b', c', d', e', f', true⟩ else nrL (lQ (qn op taken) a b c d e f a' b' c' d' e' f')))
  else ⟨a, b, c, d, e, f, a', b', c', d', e', f', true⟩
def mkV2 (r : LR) : Value := .tuple #[Sc r.p1 r.p2 r.p3 r.p4 r.p5 r.p6, Sc r.q1 r.q2 r.q3 r.q4 r.q5 r.q6, .bool r.ok]
theorem brk {p q : Bool} {A B : Prop} (e : p = q) (h1 : q = true → A) (h0 : q = false → B) : br p A B := by subst e; exact br_cases h1 h0
theorem mx2 (d d' : Int) : decide ((if d' > d then d' else d) < 2147483648) = (decide (d < 2147483648) && decide (d' < 2147483648)) := by
  rw [Bool.eq_iff_iff]; simp only [decide_eq_true_eq, Bool.and_eq_true]; split <;> omega
theorem ge1 (d : Int) : decide (d ≥ 2147483648) = !decide (d < 2147483648) := by
  rw [Bool.eq_iff_iff]; simp only [decide_eq_true_eq, Bool.not_eq_true', decide_eq_false_iff_not]; omega
theorem dj32 : dj 0 4294967295 := ⟨0#64, BitVec.ofInt 64 4294967295, rfl, by decide, by simp⟩
theorem finC {R : LR} {K : Value → Prop} (h : K (mkV2 (nrL R))) : br (LR.ok R) (im (LM R) (need (MayQ (LR.p1 R) (LR.p2 R) (LR.p3 R) (LR.p4 R) (LR.p5 R) (LR.p6 R)) (nm (nz (LR.p1 R) (LR.p2 R) (LR.p3 R) (LR.p4 R) (LR.p5 R) (LR.p6 R)) fun x => br (NR.ok x) (need (MayQ (LR.q1 R) (LR.q2 R) (LR.q3 R) (LR.q4 R) (LR.q5 R) (LR.q6 R)) (nm (nz (LR.q1 R) (LR.q2 R) (LR.q3 R) (LR.q4 R) (LR.q5 R) (LR.q6 R)) fun y => br (NR.ok y)
    (K (.tuple (#[.agg (#[.int .u64 (NR.a x), .int .u64 (NR.b x), .int .u64 (NR.c x), .int .u64 (NR.d x), .int .i64 (NR.e x), .int .i64 (NR.f x)]), .agg (#[.int .u64 (NR.a y), .int .u64 (NR.b y), .int .u64 (NR.c y), .int .u64 (NR.d y), .int .i64 (NR.e y), .int .i64 (NR.f y)]), .bool true])))
    (K (.tuple (#[.agg (#[.int .u64 0, .int .u64 0, .int .u64 0, .int .u64 0, .int .i64 0, .int .i64 0]), .agg (#[.int .u64 0, .int .u64 0, .int .u64 0, .int .u64 0, .int .i64 0, .int .i64 0]), .bool false])))))
    (K (.tuple (#[.agg (#[.int .u64 0, .int .u64 0, .int .u64 0, .int .u64 0, .int .i64 0, .int .i64 0]), .agg (#[.int .u64 0, .int .u64 0, .int .u64 0, .int .u64 0, .int .i64 0, .int .i64 0]), .bool false]))))))
    (al fun x => al fun x_1 => al fun x_2 => al fun x_3 => al fun x_4 => al fun x_5 => al fun x_6 => al fun x_7 => al fun x_8 => al fun x_9 => al fun x_10 => al fun x_11 => im (an12 x x_1 x_2 x_3 x_4 x_5 x_6 x_7 x_8 x_9 x_10 x_11) (K (.tuple (#[.agg (#[.int .u64 0, .int .u64 0, .int .u64 0, .int .u64 0, .int .i64 0, .int .i64 0]), .agg (#[.int .u64 0, .int .u64 0, .int .u64 0, .int .u64 0, .int .i64 0, .int .i64 0]), .bool false])))) := by
  unfold nrL at h
  refine br_cases (fun q => fun lm => ⟨lm.m, fun x hx => ?_⟩) (fun q => fun _ _ _ _ _ _ _ _ _ _ _ _ _ => ?_)
  · rw [q, cond_true] at h
    rw [← hx] at h
    refine br_cases (fun q1 => ⟨lm.m', fun y hy => ?_⟩) (fun q1 => ?_)
    · rw [← hy] at h
      refine br_cases (fun q2 => ?_) (fun q2 => ?_)
      · rw [q1, q2] at h; exact h
      · rw [q1, q2] at h; exact h
    · rw [q1] at h; exact h
  · rw [q] at h; exact h
theorem finR {R : LR} {K : Value → Prop} (h : K (mkV2 (nrL R))) : br (LR.ok R) (im (LM R) (need (MayQ (LR.p1 R) (LR.p2 R) (LR.p3 R) (LR.p4 R) (LR.p5 R) (LR.p6 R)) (nm (nz (LR.p1 R) (LR.p2 R) (LR.p3 R) (LR.p4 R) (LR.p5 R) (LR.p6 R)) fun x => need (MayQ (LR.q1 R) (LR.q2 R) (LR.q3 R) (LR.q4 R) (LR.q5 R) (LR.q6 R)) (nm (nz (LR.q1 R) (LR.q2 R) (LR.q3 R) (LR.q4 R) (LR.q5 R) (LR.q6 R)) fun y =>
    ob (!!NR.ok x) (!!NR.ok x) (ob (!NR.ok x) true (ob (!!NR.ok x) (!!NR.ok x) (nm (bif !NR.ok x then true else !NR.ok y) fun z => br z
    (K (.tuple (#[.agg (#[.int .u64 0, .int .u64 0, .int .u64 0, .int .u64 0, .int .i64 0, .int .i64 0]), .agg (#[.int .u64 0, .int .u64 0, .int .u64 0, .int .u64 0, .int .i64 0, .int .i64 0]), .bool false])))
    (K (.tuple (#[.agg (#[.int .u64 (NR.a x), .int .u64 (NR.b x), .int .u64 (NR.c x), .int .u64 (NR.d x), .int .i64 (NR.e x), .int .i64 (NR.f x)]), .agg (#[.int .u64 (NR.a y), .int .u64 (NR.b y), .int .u64 (NR.c y), .int .u64 (NR.d y), .int .i64 (NR.e y), .int .i64 (NR.f y)]), .bool true]))))))))))
    (al fun x => al fun x_1 => al fun x_2 => al fun x_3 => al fun x_4 => al fun x_5 => al fun x_6 => al fun x_7 => al fun x_8 => al fun x_9 => al fun x_10 => al fun x_11 => im (an12 x x_1 x_2 x_3 x_4 x_5 x_6 x_7 x_8 x_9 x_10 x_11) (K (.tuple (#[.agg (#[.int .u64 0, .int .u64 0, .int .u64 0, .int .u64 0, .int .i64 0, .int .i64 0]), .agg (#[.int .u64 0, .int .u64 0, .int .u64 0, .int .u64 0, .int .i64 0, .int .i64 0]), .bool false])))) := by
  unfold nrL at h
  refine br_cases (fun q => fun lm => ⟨lm.m, fun x hx => ⟨lm.m', fun y hy => ?_⟩⟩) (fun q => fun _ _ _ _ _ _ _ _ _ _ _ _ _ => ?_)
  · rw [q, cond_true] at h
    rw [← hx, ← hy] at h
    refine ob_self (ob_true (ob_self (fun z hz => ?_)))
    subst hz
    revert h
    cases NR.ok x <;> cases NR.ok y <;> intro h <;> exact h
  · rw [q] at h; exact h
theorem ctr_ok {op : Int} (h : jok op = true) (h4 : op ≠ 4) : jok (ctr op) = true := by
  have h : op = 1 ∨ op = 2 ∨ op = 3 ∨ op = 4 ∨ op = 5 ∨ op = 6 ∨ op = 7 ∨ op = 10 ∨ op = 11 ∨ op = 12 ∨ op = 13 := of_decide_eq_true h
  rcases h with rfl | rfl | rfl | rfl | rfl | rfl | rfl | rfl | rfl | rfl | rfl <;> first | exact absurd rfl h4 | decide
section
variable {op a b c d e f a' b' c' d' e' f' : Int} {wide taken : Bool} {K : Value → Prop}
theorem oBc (N : LN a b c d e f a' b' c' d' e' f') (h : K (mkV2 (brQ op wide taken a b c d e f a' b' c' d' e' f'))) : nBc op wide taken a b c d e f a' b' c' d' e' f' K := by
  have uv : u6 (isv a b c d e f) := isv_u ⟨N.ua, N.m.uc⟩
  have uw : u6 (isv a' b' c' d' e' f') := isv_u ⟨N.ua', N.m'.uc⟩
  have n1 : u6 (isv a b c d e f) ∧ u6 (isv a' b' c' d' e' f') := ⟨uv, uw⟩
  have n2 : (dj a b ∧ dj 0 4294967295) ∧ c ≤ d := ⟨⟨N.m.dj, dj32⟩, N.m.cd⟩
  have n3 : (dj a' b' ∧ dj 0 4294967295) ∧ c' ≤ d' := ⟨⟨N.m'.dj, dj32⟩, N.m'.cd⟩
  rw [nBc_eq]
  unfold brQ at h
  revert h
  cases hj : jok op <;> cases g1 : iso a b c d e f <;> cases g2 : iso a' b' c' d' e' f' <;> cases g3 : (jdo op wide (isv a b c d e f) (isv a' b' c' d' e' f') == taken) <;> intro h
  all_goals (repeat (first
    | exact h
    | with_reducible refine ob_self ?_ | with_reducible refine ob_true ?_
    | ((with_reducible refine nm_intro ?_); intro r hr; subst hr)
    | refine And.intro (by assumption) ?_
    | (simp only [hj, g1, g2, g3, cond_true, cond_false, Bool.not_true, Bool.not_false]; first | exact br_yes rfl h | refine br_no rfl ?_)
    | refine br_no rfl ?_))
  all_goals (refine brk (q := !wide && !smB op a b c d e f a' b' c' d' e' f') (by unfold smB sgB; simp only [mx2, Bool.cond_true_left, Bool.cond_false_right]) (fun k => ?_) (fun k => ?_))
  all_goals (first | (have h : K (mkV2 (bif !wide && !smB op a b c d e f a' b' c' d' e' f' then ⟨a, b, c, d, e, f, a', b', c', d', e', f', true⟩ else nrL (lQ (qn op taken) a b c d e f a' b' c' d' e' f'))) := h; rw [k] at h))
  all_goals (first | exact h | (refine ⟨⟨N, by first | exact hj | trivial⟩, fun R hR => ?_⟩; subst hR; exact finC h))
theorem oBr (N : LN a b c d e f a' b' c' d' e' f') (h : K (mkV2 (brQ op wide taken a b c d e f a' b' c' d' e' f'))) : nBr op wide taken a b c d e f a' b' c' d' e' f' K := by
  have uv : u6 (isv a b c d e f) := isv_u ⟨N.ua, N.m.uc⟩
  have uw : u6 (isv a' b' c' d' e' f') := isv_u ⟨N.ua', N.m'.uc⟩
  have n1 : u6 (isv a b c d e f) ∧ u6 (isv a' b' c' d' e' f') := ⟨uv, uw⟩
  have n2 : (dj a b ∧ dj 0 4294967295) ∧ c ≤ d := ⟨⟨N.m.dj, dj32⟩, N.m.cd⟩
  have n3 : (dj a' b' ∧ dj 0 4294967295) ∧ c' ≤ d' := ⟨⟨N.m'.dj, dj32⟩, N.m'.cd⟩
  rw [nBr_eq]
  unfold brQ at h
  revert h
  cases hj : jok op <;> cases g1 : iso a b c d e f <;> cases g2 : iso a' b' c' d' e' f' <;> cases g3 : (jdo op wide (isv a b c d e f) (isv a' b' c' d' e' f') == taken) <;> intro h
  all_goals (repeat (first
    | exact h
    | with_reducible refine ob_self ?_ | with_reducible refine ob_true ?_
    | ((with_reducible refine nm_intro ?_); intro r hr; subst hr)
    | refine And.intro (by assumption) ?_
    | (simp only [hj, g1, g2, g3, cond_true, cond_false, Bool.not_true, Bool.not_false]; first | exact br_yes rfl h | refine br_no rfl ?_)
    | refine br_yes rfl ?_
    | refine br_no rfl ?_))
  all_goals (refine brk (q := !wide && !smB op a b c d e f a' b' c' d' e' f') (by unfold smB sgB; simp only [ge1, Bool.cond_true_left, Bool.cond_false_right, Bool.not_and, Bool.not_or, Bool.not_not]) (fun k => ?_) (fun k => ?_))
  all_goals (first | (have h : K (mkV2 (bif !wide && !smB op a b c d e f a' b' c' d' e' f' then ⟨a, b, c, d, e, f, a', b', c', d', e', f', true⟩ else nrL (lQ (qn op taken) a b c d e f a' b' c' d' e' f'))) := h; rw [k] at h))
  all_goals (first | exact h | skip)
  all_goals (repeat (first | with_reducible refine ob_self ?_ | with_reducible refine ob_true ?_ | ((with_reducible refine nm_intro ?_); intro r hr; subst hr)))
  all_goals (cases taken)
  all_goals (first
    | (refine br_yes rfl (fun q hq => ?_); subst hq; refine ⟨⟨N, ?_⟩, fun R hR => ?_⟩
       · by_cases h4 : op = 4
         · subst h4; exact Or.inl ⟨rfl, rfl⟩
         · exact Or.inr ⟨by simp [h4], by first | exact ctr_ok hj h4 | trivial⟩
       · subst hR; exact finR h)
    | (refine br_no rfl ⟨⟨N, Or.inr ⟨by cases (op == 4) <;> rfl, by first | exact hj | trivial⟩⟩, fun R hR => ?_⟩; subst hR; exact finR h))
end
end Go.Proofs.YtceclodenhgoeaaGreat.Zck
end
section
/- Layer 5, against the reference: ScalarBranch: the tables. -/
namespace Go.Proofs.YtceclodenhgoeaaGreat.Zcl
open Go Go.RowKit Go.Proofs Go.Proofs.YtceclodenhgoeaaGreat.Xc Go.Proofs.YtceclodenhgoeaaGreat.Zs Go.Proofs.YtceclodenhgoeaaGreat.Zk Go.Proofs.YtceclodenhgoeaaGreat.Zo Go.Proofs.YtceclodenhgoeaaGreat.Zq Go.Proofs.YtceclodenhgoeaaGreat.Zu Go.Proofs.YtceclodenhgoeaaGreat.Zv Go.Proofs.YtceclodenhgoeaaGreat.Zx Go.Proofs.YtceclodenhgoeaaGreat.Zbf Go.Proofs.YtceclodenhgoeaaGreat.Zbh Go.Proofs.YtceclodenhgoeaaGreat.Zbi Go.Proofs.YtceclodenhgoeaaGreat.Zbj Go.Proofs.YtceclodenhgoeaaGreat.Zbk Go.Proofs.YtceclodenhgoeaaGreat.Zbm Go.Proofs.YtceclodenhgoeaaGreat.Zbn Go.Proofs.YtceclodenhgoeaaGreat.Zcc Go.Proofs.YtceclodenhgoeaaGreat.Zcd Go.Proofs.YtceclodenhgoeaaGreat.Zcf Go.Proofs.YtceclodenhgoeaaGreat.Zcg Go.Proofs.YtceclodenhgoeaaGreat.Zch Go.Proofs.YtceclodenhgoeaaGreat.Zci Go.Proofs.YtceclodenhgoeaaGreat.Zcj Go.Proofs.YtceclodenhgoeaaGreat.Zck Go.Proofs.YtceclodenhgoeaaGreat.Bv
set_option linter.unusedVariables false
set_option linter.unusedSimpArgs false
theorem leU_may {s : Bool} {c d c' d' : Int} (h1 : u6 c) (h2 : u6 d) (h3 : u6 c') (h4 : u6 d') (h5 : c ≤ d) (h6 : c' ≤ d') (hk : leO s c d' = true) : (u6 (leH s d d') ∧ c ≤ leH s d d') ∧ u6 (leL s c c') ∧ leL s c c' ≤ d' := by
  unfold leO at hk; unfold u6 at *; unfold leH leL kk mni mxi
  cases s
  · have hk := of_decide_eq_true hk; simp only [cond_false]; omega
  · have hk := of_decide_eq_true hk; simp only [cond_true]; omega
theorem leS_may {s : Bool} {c d c' d' : Int} (h5 : c ≤ d) (h6 : c' ≤ d') (hk : leO s c d' = true) : c ≤ leH s d d' ∧ leL s c c' ≤ d' := by
  unfold leO at hk; unfold leH leL kk mni mxi
  cases s
  · have hk := of_decide_eq_true hk; simp only [cond_false]; omega
  · have hk := of_decide_eq_true hk; simp only [cond_true]; omega
theorem wo_may {c d e f v : Int} (h1 : u6 c) (h2 : u6 d) (h5 : c ≤ d) (h6 : e ≤ f) (hk : woO c d e f v = true) : (u6 (wl c v) ∧ u6 (wh c d v)) ∧ wl c v ≤ wh c d v ∧ wl e (sv v) ≤ wh e f (sv v) := by
  have g : ¬ (c = v ∧ d = v) ∧ ¬ (e = sv v ∧ f = sv v) := by
    unfold woO at hk
    simp only [Bool.not_eq_true', Bool.or_eq_false_iff, Bool.and_eq_false_imp, beq_iff_eq, beq_eq_false_iff_ne, ne_eq] at hk
    exact ⟨fun k => hk.1 k.1 k.2, fun k => hk.2 k.1 k.2⟩
  generalize sv v = s at *
  unfold wl wh; unfold u6 at *
  refine ⟨⟨?_, ?_⟩, ?_, ?_⟩
  · split <;> omega
  · split
    · omega
    · split <;> omega
  · split
    · omega
    · split <;> omega
  · split
    · omega
    · split <;> omega
section
variable {a b c d e f a' b' c' d' e' f' : Int}
theorem may_4 (N : LN a b c d e f a' b' c' d' e' f') (hk : (lQ 4 a b c d e f a' b' c' d' e' f').ok = true) : LM (lQ 4 a b c d e f a' b' c' d' e' f') := by
  rw [lQ_4] at hk ⊢
  have M := N.m; have M' := N.m'
  exact ⟨M, M'⟩
theorem may_1 (N : LN a b c d e f a' b' c' d' e' f') (hk : (lQ 1 a b c d e f a' b' c' d' e' f').ok = true) : LM (lQ 1 a b c d e f a' b' c' d' e' f') := by
  rw [lQ_1] at hk ⊢
  have M := N.m; have M' := N.m'
  dsimp only at hk
  unfold mtO at hk
  simp only [Bool.and_eq_true] at hk
  have k1 := le_of hk.1.2; have k2 := le_of hk.2
  have j := (me_dj M.dj M'.dj).1
  exact ⟨⟨j, u6_mx M.uc M'.uc, u6_mn M.ud M'.ud, k1, k2⟩, ⟨j, u6_mx M.uc M'.uc, u6_mn M.ud M'.ud, k1, k2⟩⟩
theorem may_0 (N : LN a b c d e f a' b' c' d' e' f') (hk : (lQ 0 a b c d e f a' b' c' d' e' f').ok = true) : LM (lQ 0 a b c d e f a' b' c' d' e' f') := by
  rw [lQ_0] at hk ⊢
  have M := N.m; have M' := N.m'
  have uv : u6 (isv a b c d e f) := isv_u ⟨N.ua, M.uc⟩
  have uw : u6 (isv a' b' c' d' e' f') := isv_u ⟨N.ua', M'.uc⟩
  refine ⟨⟨?_, M.uc, M.ud, M.cd, M.ef⟩, ⟨?_, M'.uc, M'.ud, M'.cd, M'.ef⟩⟩
  · show dj (bif iso a' b' c' d' e' f' then _ else _) (bif iso a' b' c' d' e' f' then _ else _)
    cases iso a' b' c' d' e' f'
    · exact M.dj
    · exact (me_dj M.dj (dj_n uw)).1
  · show dj (bif iso a b c d e f then _ else _) (bif iso a b c d e f then _ else _)
    cases iso a b c d e f
    · exact M'.dj
    · exact (me_dj M'.dj (dj_n uv)).1
theorem may_5 (N : LN a b c d e f a' b' c' d' e' f') (hk : (lQ 5 a b c d e f a' b' c' d' e' f').ok = true) : LM (lQ 5 a b c d e f a' b' c' d' e' f') := by
  rw [lQ_5] at hk ⊢
  have M := N.m; have M' := N.m'
  dsimp only at hk
  revert hk
  cases iso a' b' c' d' e' f' <;> cases iso a b c d e f <;> intro hk <;> simp only [cond_true, cond_false, Bool.and_eq_true, Bool.true_and, Bool.and_true] at hk
  · exact ⟨M, M'⟩
  · have k := wo_may M'.uc M'.ud M'.cd M'.ef hk
    exact ⟨M, ⟨M'.dj, k.1.1, k.1.2, k.2.1, k.2.2⟩⟩
  · have k := wo_may M.uc M.ud M.cd M.ef hk
    exact ⟨⟨M.dj, k.1.1, k.1.2, k.2.1, k.2.2⟩, M'⟩
  · have k := wo_may M.uc M.ud M.cd M.ef hk.1
    have k' := wo_may M'.uc M'.ud M'.cd M'.ef hk.2
    exact ⟨⟨M.dj, k.1.1, k.1.2, k.2.1, k.2.2⟩, ⟨M'.dj, k'.1.1, k'.1.2, k'.2.1, k'.2.2⟩⟩
theorem may_10 (N : LN a b c d e f a' b' c' d' e' f') (hk : (lQ 10 a b c d e f a' b' c' d' e' f').ok = true) : LM (lQ 10 a b c d e f a' b' c' d' e' f') := by
  rw [lQ_10] at hk ⊢
  have M := N.m; have M' := N.m'
  dsimp only at hk
  have k := leU_may M.uc M.ud M'.uc M'.ud M.cd M'.cd hk
  exact ⟨⟨M.dj, M.uc, k.1.1, k.1.2, M.ef⟩, ⟨M'.dj, k.2.1, M'.ud, k.2.2, M'.ef⟩⟩
theorem may_11 (N : LN a b c d e f a' b' c' d' e' f') (hk : (lQ 11 a b c d e f a' b' c' d' e' f').ok = true) : LM (lQ 11 a b c d e f a' b' c' d' e' f') := by
  rw [lQ_11] at hk ⊢
  have M := N.m; have M' := N.m'
  dsimp only at hk
  have k := leU_may M.uc M.ud M'.uc M'.ud M.cd M'.cd hk
  exact ⟨⟨M.dj, M.uc, k.1.1, k.1.2, M.ef⟩, ⟨M'.dj, k.2.1, M'.ud, k.2.2, M'.ef⟩⟩
theorem may_2 (N : LN a b c d e f a' b' c' d' e' f') (hk : (lQ 2 a b c d e f a' b' c' d' e' f').ok = true) : LM (lQ 2 a b c d e f a' b' c' d' e' f') := by
  rw [lQ_2] at hk ⊢
  have M := N.m; have M' := N.m'
  dsimp only at hk
  have k := leU_may M'.uc M'.ud M.uc M.ud M'.cd M.cd hk
  exact ⟨⟨M.dj, k.2.1, M.ud, k.2.2, M.ef⟩, ⟨M'.dj, M'.uc, k.1.1, k.1.2, M'.ef⟩⟩
theorem may_3 (N : LN a b c d e f a' b' c' d' e' f') (hk : (lQ 3 a b c d e f a' b' c' d' e' f').ok = true) : LM (lQ 3 a b c d e f a' b' c' d' e' f') := by
  rw [lQ_3] at hk ⊢
  have M := N.m; have M' := N.m'
  dsimp only at hk
  have k := leU_may M'.uc M'.ud M.uc M.ud M'.cd M.cd hk
  exact ⟨⟨M.dj, k.2.1, M.ud, k.2.2, M.ef⟩, ⟨M'.dj, M'.uc, k.1.1, k.1.2, M'.ef⟩⟩
theorem may_12 (N : LN a b c d e f a' b' c' d' e' f') (hk : (lQ 12 a b c d e f a' b' c' d' e' f').ok = true) : LM (lQ 12 a b c d e f a' b' c' d' e' f') := by
  rw [lQ_12] at hk ⊢
  have M := N.m; have M' := N.m'
  dsimp only at hk
  have k := leS_may M.ef M'.ef hk
  exact ⟨⟨M.dj, M.uc, M.ud, M.cd, k.1⟩, ⟨M'.dj, M'.uc, M'.ud, M'.cd, k.2⟩⟩
theorem may_13 (N : LN a b c d e f a' b' c' d' e' f') (hk : (lQ 13 a b c d e f a' b' c' d' e' f').ok = true) : LM (lQ 13 a b c d e f a' b' c' d' e' f') := by
  rw [lQ_13] at hk ⊢
  have M := N.m; have M' := N.m'
  dsimp only at hk
  have k := leS_may M.ef M'.ef hk
  exact ⟨⟨M.dj, M.uc, M.ud, M.cd, k.1⟩, ⟨M'.dj, M'.uc, M'.ud, M'.cd, k.2⟩⟩
theorem may_6 (N : LN a b c d e f a' b' c' d' e' f') (hk : (lQ 6 a b c d e f a' b' c' d' e' f').ok = true) : LM (lQ 6 a b c d e f a' b' c' d' e' f') := by
  rw [lQ_6] at hk ⊢
  have M := N.m; have M' := N.m'
  dsimp only at hk
  have k := leS_may M'.ef M.ef hk
  exact ⟨⟨M.dj, M.uc, M.ud, M.cd, k.2⟩, ⟨M'.dj, M'.uc, M'.ud, M'.cd, k.1⟩⟩
theorem may_7 (N : LN a b c d e f a' b' c' d' e' f') (hk : (lQ 7 a b c d e f a' b' c' d' e' f').ok = true) : LM (lQ 7 a b c d e f a' b' c' d' e' f') := by
  rw [lQ_7] at hk ⊢
  have M := N.m; have M' := N.m'
  dsimp only at hk
  have k := leS_may M'.ef M.ef hk
  exact ⟨⟨M.dj, M.uc, M.ud, M.cd, k.2⟩, ⟨M'.dj, M'.uc, M'.ud, M'.cd, k.1⟩⟩
/-- From the contract's word to the closed one. -/
theorem to_ans {R : LR} {K : Value → Prop} (hm : R.ok = true → LM R) (h : nm R fun r => br r.ok (im (LM r) (K (.tuple #[Sc r.p1 r.p2 r.p3 r.p4 r.p5 r.p6, Sc r.q1 r.q2 r.q3 r.q4 r.q5 r.q6, .bool true]))) (al fun g1 => al fun g2 => al fun g3 => al fun g4 => al fun g5 => al fun g6 => al fun g7 => al fun g8 => al fun g9 => al fun g10 => al fun g11 => al fun g12 => im (an12 g1 g2 g3 g4 g5 g6 g7 g8 g9 g10 g11 g12) (K (.tuple #[Sc g1 g2 g3 g4 g5 g6, Sc g7 g8 g9 g10 g11 g12, .bool false])))) : ansL R K := by
  have h := h R rfl
  dsimp only at h
  unfold ansL
  refine br_cases (fun q => ?_) (fun q => ?_)
  · rw [q] at h; exact h (hm q)
  · rw [q] at h; exact fun g1 g2 g3 g4 g5 g6 g7 g8 g9 g10 g11 g12 => h g1 g2 g3 g4 g5 g6 g7 g8 g9 g10 g11 g12 trivial
theorem oLc {op : Int} {taken : Bool} {K : Value → Prop} (N : LN a b c d e f a' b' c' d' e' f') (hj : jok op = true) (h : ∀ q, qn op taken = q → ((lQ q a b c d e f a' b' c' d' e' f').ok = true → LM (lQ q a b c d e f a' b' c' d' e' f')) → ansL (lQ q a b c d e f a' b' c' d' e' f') K) : run Tryz.prog TC EEk true 90 41 [.int .i64 op, .bool taken, Sc a b c d e f, Sc a' b' c' d' e' f'] K := by
  have hj : op = 1 ∨ op = 2 ∨ op = 3 ∨ op = 4 ∨ op = 5 ∨ op = 6 ∨ op = 7 ∨ op = 10 ∨ op = 11 ∨ op = 12 ∨ op = 13 := of_decide_eq_true hj
  cases taken <;> rcases hj with rfl | rfl | rfl | rfl | rfl | rfl | rfl | rfl | rfl | rfl | rfl
  · have o := oC1f N.m N.m' N.i N.i' N.ua N.ua' (h 5 rfl (may_5 N)); unfold nC1f at o; exact o
  · have o := oC2f N.m N.m' N.i N.i' N.ua N.ua' (h 11 rfl (may_11 N)); unfold nC2f at o; exact o
  · have o := oC3f N.m N.m' N.i N.i' N.ua N.ua' (h 10 rfl (may_10 N)); unfold nC3f at o; exact o
  · have o := oC4f N.m N.m' N.i N.i' N.ua N.ua' (h 0 rfl (may_0 N)); unfold nC4f at o; exact o
  · have o := oC5f N.m N.m' N.i N.i' N.ua N.ua' (h 1 rfl (may_1 N)); unfold nC5f at o; exact o
  · have o := oC6f N.m N.m' N.i N.i' N.ua N.ua' (h 13 rfl (may_13 N)); unfold nC6f at o; exact o
  · have o := oC7f N.m N.m' N.i N.i' N.ua N.ua' (h 12 rfl (may_12 N)); unfold nC7f at o; exact o
  · have o := oC10f N.m N.m' N.i N.i' N.ua N.ua' (h 3 rfl (may_3 N)); unfold nC10f at o; exact o
  · have o := oC11f N.m N.m' N.i N.i' N.ua N.ua' (h 2 rfl (may_2 N)); unfold nC11f at o; exact o
  · have o := oC12f N.m N.m' N.i N.i' N.ua N.ua' (h 7 rfl (may_7 N)); unfold nC12f at o; exact o
  · have o := oC13f N.m N.m' N.i N.i' N.ua N.ua' (h 6 rfl (may_6 N)); unfold nC13f at o; exact o
  · have o := oC1t N.m N.m' N.i N.i' N.ua N.ua' (h 1 rfl (may_1 N)); unfold nC1t at o; exact o
  · have o := oC2t N.m N.m' N.i N.i' N.ua N.ua' (h 2 rfl (may_2 N)); unfold nC2t at o; exact o
  · have o := oC3t N.m N.m' N.i N.i' N.ua N.ua' (h 3 rfl (may_3 N)); unfold nC3t at o; exact o
  · have o := oC4t N.m N.m' N.i N.i' N.ua N.ua' (h 4 rfl (may_4 N)); unfold nC4t at o; exact o
  · have o := oC5t N.m N.m' N.i N.i' N.ua N.ua' (h 5 rfl (may_5 N)); unfold nC5t at o; exact o
  · have o := oC6t N.m N.m' N.i N.i' N.ua N.ua' (h 6 rfl (may_6 N)); unfold nC6t at o; exact o
  · have o := oC7t N.m N.m' N.i N.i' N.ua N.ua' (h 7 rfl (may_7 N)); unfold nC7t at o; exact o
  · have o := oC10t N.m N.m' N.i N.i' N.ua N.ua' (h 10 rfl (may_10 N)); unfold nC10t at o; exact o
  · have o := oC11t N.m N.m' N.i N.i' N.ua N.ua' (h 11 rfl (may_11 N)); unfold nC11t at o; exact o
  · have o := oC12t N.m N.m' N.i N.i' N.ua N.ua' (h 12 rfl (may_12 N)); unfold nC12t at o; exact o
  · have o := oC13t N.m N.m' N.i N.i' N.ua N.ua' (h 13 rfl (may_13 N)); unfold nC13t at o; exact o
theorem oLq {q : Int} {set : Bool} {K : Value → Prop} (N : LN a b c d e f a' b' c' d' e' f') (hj : rq q set) (h : ((lQ q a b c d e f a' b' c' d' e' f').ok = true → LM (lQ q a b c d e f a' b' c' d' e' f')) → ansL (lQ q a b c d e f a' b' c' d' e' f') K) : run Tryz.prog TQ EEk true 90 44 [.int .i64 q, .bool set, Sc a b c d e f, Sc a' b' c' d' e' f'] K := by
  rcases hj with ⟨rfl, rfl⟩ | ⟨rfl, hj⟩
  · have o := oQ0 N.m N.m' N.i N.i' N.ua N.ua' (h (may_0 N)); unfold nQ0 at o; exact o
  have hj : q = 1 ∨ q = 2 ∨ q = 3 ∨ q = 4 ∨ q = 5 ∨ q = 6 ∨ q = 7 ∨ q = 10 ∨ q = 11 ∨ q = 12 ∨ q = 13 := of_decide_eq_true hj
  rcases hj with rfl | rfl | rfl | rfl | rfl | rfl | rfl | rfl | rfl | rfl | rfl
  · have o := oQ1 N.m N.m' N.i N.i' N.ua N.ua' (h (may_1 N)); unfold nQ1 at o; exact o
  · have o := oQ2 N.m N.m' N.i N.i' N.ua N.ua' (h (may_2 N)); unfold nQ2 at o; exact o
  · have o := oQ3 N.m N.m' N.i N.i' N.ua N.ua' (h (may_3 N)); unfold nQ3 at o; exact o
  · have o := oQ4 N.m N.m' N.i N.i' N.ua N.ua' (h (may_4 N)); unfold nQ4 at o; exact o
  · have o := oQ5 N.m N.m' N.i N.i' N.ua N.ua' (h (may_5 N)); unfold nQ5 at o; exact o
  · have o := oQ6 N.m N.m' N.i N.i' N.ua N.ua' (h (may_6 N)); unfold nQ6 at o; exact o
  · have o := oQ7 N.m N.m' N.i N.i' N.ua N.ua' (h (may_7 N)); unfold nQ7 at o; exact o
  · have o := oQ10 N.m N.m' N.i N.i' N.ua N.ua' (h (may_10 N)); unfold nQ10 at o; exact o
  · have o := oQ11 N.m N.m' N.i N.i' N.ua N.ua' (h (may_11 N)); unfold nQ11 at o; exact o
  · have o := oQ12 N.m N.m' N.i N.i' N.ua N.ua' (h (may_12 N)); unfold nQ12 at o; exact o
  · have o := oQ13 N.m N.m' N.i N.i' N.ua N.ua' (h (may_13 N)); unfold nQ13 at o; exact o
end
theorem oCt {op : Int} {K : Value → Prop} (h : K (.int .i64 (ctr op))) : nCt op K := by
  rw [nCt_eq]
  unfold ctr at h
  repeat (first | with_reducible refine ob_self ?_ | with_reducible refine ob_true ?_)
  refine br_cases (fun q => ?_) (fun q => ?_)
  · rw [if_pos (eq_of_beq q).symm] at h; repeat (first | with_reducible refine ob_self ?_ | with_reducible refine ob_true ?_)
    exact h
  rw [if_neg (fun e => beq_eq_false_iff_ne.1 q e.symm)] at h
  repeat (first | with_reducible refine ob_self ?_ | with_reducible refine ob_true ?_)
  refine br_cases (fun q => ?_) (fun q => ?_)
  · rw [if_pos (eq_of_beq q).symm] at h; repeat (first | with_reducible refine ob_self ?_ | with_reducible refine ob_true ?_)
    exact h
  rw [if_neg (fun e => beq_eq_false_iff_ne.1 q e.symm)] at h
  repeat (first | with_reducible refine ob_self ?_ | with_reducible refine ob_true ?_)
  refine br_cases (fun q => ?_) (fun q => ?_)
  · rw [if_pos (eq_of_beq q).symm] at h; repeat (first | with_reducible refine ob_self ?_ | with_reducible refine ob_true ?_)
    exact h
  rw [if_neg (fun e => beq_eq_false_iff_ne.1 q e.symm)] at h
  repeat (first | with_reducible refine ob_self ?_ | with_reducible refine ob_true ?_)
  refine br_cases (fun q => ?_) (fun q => ?_)
  · rw [if_pos (eq_of_beq q).symm] at h; repeat (first | with_reducible refine ob_self ?_ | with_reducible refine ob_true ?_)
    exact h
  rw [if_neg (fun e => beq_eq_false_iff_ne.1 q e.symm)] at h
  repeat (first | with_reducible refine ob_self ?_ | with_reducible refine ob_true ?_)
  refine br_cases (fun q => ?_) (fun q => ?_)
  · rw [if_pos (eq_of_beq q).symm] at h; repeat (first | with_reducible refine ob_self ?_ | with_reducible refine ob_true ?_)
    exact h
  rw [if_neg (fun e => beq_eq_false_iff_ne.1 q e.symm)] at h
  repeat (first | with_reducible refine ob_self ?_ | with_reducible refine ob_true ?_)
  refine br_cases (fun q => ?_) (fun q => ?_)
  · rw [if_pos (eq_of_beq q).symm] at h; repeat (first | with_reducible refine ob_self ?_ | with_reducible refine ob_true ?_)
    exact h
  rw [if_neg (fun e => beq_eq_false_iff_ne.1 q e.symm)] at h
  repeat (first | with_reducible refine ob_self ?_ | with_reducible refine ob_true ?_)
  refine br_cases (fun q => ?_) (fun q => ?_)
  · rw [if_pos (eq_of_beq q).symm] at h; repeat (first | with_reducible refine ob_self ?_ | with_reducible refine ob_true ?_)
    exact h
  rw [if_neg (fun e => beq_eq_false_iff_ne.1 q e.symm)] at h
  repeat (first | with_reducible refine ob_self ?_ | with_reducible refine ob_true ?_)
  refine br_cases (fun q => ?_) (fun q => ?_)
  · rw [if_pos (eq_of_beq q).symm] at h; repeat (first | with_reducible refine ob_self ?_ | with_reducible refine ob_true ?_)
    exact h
  rw [if_neg (fun e => beq_eq_false_iff_ne.1 q e.symm)] at h
  repeat (first | with_reducible refine ob_self ?_ | with_reducible refine ob_true ?_)
  refine br_cases (fun q => ?_) (fun q => ?_)
  · rw [if_pos (eq_of_beq q).symm] at h; repeat (first | with_reducible refine ob_self ?_ | with_reducible refine ob_true ?_)
    exact h
  rw [if_neg (fun e => beq_eq_false_iff_ne.1 q e.symm)] at h
  repeat (first | with_reducible refine ob_self ?_ | with_reducible refine ob_true ?_)
  refine br_cases (fun q => ?_) (fun q => ?_)
  · rw [if_pos (eq_of_beq q).symm] at h; repeat (first | with_reducible refine ob_self ?_ | with_reducible refine ob_true ?_)
    exact h
  rw [if_neg (fun e => beq_eq_false_iff_ne.1 q e.symm)] at h
  exact h
theorem tbc : TabOk Tryz.prog TBc := by
  refine tab_runK good (by kernel_rfl) (fun vs K h => ?_) (tab_runK good (by kernel_rfl) (fun vs K h => ?_) (tab_runK good (by kernel_rfl) (fun vs K h => ?_) (tab_run good (by kernel_rfl) (fun vs K h => ?_) (tab_runK good (by kernel_rfl) (fun vs K h => ?_) (tab_runK good (by kernel_rfl) (fun vs K h => ?_) tab_nil)))))
  · unfold cIs at h; split at h
    · rename_i a b c d e f
      have o : nIs1 a b c d e f K := by rw [nIs1_eq]; exact is_as (h _ rfl _ rfl)
      unfold nIs1 at o; exact ⟨[], EEz, true, 90, tab_nil, eez, o⟩
    · exact h.elim
  · unfold cJu at h; split at h
    · rename_i op wide a b
      have o := rJump op wide a b K h.1.1 h.1.2 (h.2 _ rfl _ rfl); unfold Zca.nJump at o; exact ⟨Zca.TJ, EEz, true, 90, tj, eez, o⟩
    · exact h.elim
  · unfold cWi at h; split at h
    · have o := oWi1 (K := K) h.1.1.1 h.1.1.2 (h.2 _ rfl); unfold Zbl.nWi1 at o; exact ⟨Zbl.TL, EEz, true, 90, tl, eez, o⟩
    · exact h.elim
  · unfold cUp at h; split at h
    · rename_i n
      have o := oUp1 n; unfold nUp1 at o; exact ⟨_, h _ rfl _ rfl _ rfl, [], EEz, true, 90, tab_nil, eez, o⟩
    · exact h.elim
  · unfold cLc at h; split at h
    · obtain ⟨⟨N, hj⟩, h⟩ := h
      exact ⟨TC, EEk, true, 90, tcc, eek, oLc N hj (fun q hq hm => to_ans hm (by subst hq; exact h))⟩
    · exact h.elim
  · unfold cNo at h; split at h
    · rename_i a b c d e f
      obtain ⟨q, h⟩ := h
      have o := oN1 (K := K) q.dj q.uc q.ud q.ef (h _ rfl)
      unfold nN1 at o; exact ⟨TN, EEz, true, 90, tn, eez, o⟩
    · exact h.elim
theorem tbr : TabOk Tryz.prog TBr := by
  refine tab_runK good (by kernel_rfl) (fun vs K h => ?_) (tab_runK good (by kernel_rfl) (fun vs K h => ?_) (tab_runK good (by kernel_rfl) (fun vs K h => ?_) (tab_run good (by kernel_rfl) (fun vs K h => ?_) (tab_runK good (by kernel_rfl) (fun vs K h => ?_) (tab_runK good (by kernel_rfl) (fun vs K h => ?_) (tab_runK good (by kernel_rfl) (fun vs K h => ?_) tab_nil))))))
  · unfold cIs at h; split at h
    · rename_i a b c d e f
      have o : nIs2 a b c d e f K := by rw [nIs2_eq]; exact is_as (h _ rfl _ rfl)
      unfold nIs2 at o; exact ⟨[], EEz, true, 90, tab_nil, eez, o⟩
    · exact h.elim
  · unfold cJu at h; split at h
    · rename_i op wide a b
      have o := rJ2 op wide a b K h.1.1 h.1.2 (h.2 _ rfl _ rfl); unfold Zcc.nJ2 at o; exact ⟨TJ2, EEz, true, 90, tj2, eez, o⟩
    · exact h.elim
  · unfold cWi at h; split at h
    · have o := oWi2 (K := K) h.1.1.1 h.1.1.2 h.1.2 (h.2 _ rfl); unfold Zbl.nWi2 at o; exact ⟨Zbl.TL, EEz, true, 90, tl, eez, o⟩
    · exact h.elim
  · unfold cUp at h; split at h
    · rename_i n
      have o := oUp2 n; unfold nUp2 at o; exact ⟨_, h _ rfl _ rfl _ rfl, [], EEz, true, 90, tab_nil, eez, o⟩
    · exact h.elim
  · unfold cLq at h; split at h
    · obtain ⟨⟨N, hj⟩, h⟩ := h
      exact ⟨TQ, EEk, true, 90, tqq, eek, oLq N hj (fun hm => to_ans hm h)⟩
    · exact h.elim
  · unfold cCt at h; split at h
    · have o := oCt (K := K) (h _ rfl); unfold nCt at o; exact ⟨[], EEk, true, 90, tab_nil, eek, o⟩
    · exact h.elim
  · unfold cNo at h; split at h
    · rename_i a b c d e f
      obtain ⟨q, h⟩ := h
      have o := oN2 (K := K) q.dj q.uc q.ud q.ef (h _ rfl)
      unfold nN2 at o; exact ⟨TN, EEz, true, 90, tn, eez, o⟩
    · exact h.elim
end Go.Proofs.YtceclodenhgoeaaGreat.Zcl
end
section
/- Layer 5, against the reference: ScalarBranch, run. -/
namespace Go.Proofs.YtceclodenhgoeaaGreat.Zcm
open Go Go.RowKit Go.Proofs Go.Proofs.YtceclodenhgoeaaGreat.Xc Go.Proofs.YtceclodenhgoeaaGreat.Zs Go.Proofs.YtceclodenhgoeaaGreat.Zu Go.Proofs.YtceclodenhgoeaaGreat.Zo Go.Proofs.YtceclodenhgoeaaGreat.Zbm Go.Proofs.YtceclodenhgoeaaGreat.Zcf Go.Proofs.YtceclodenhgoeaaGreat.Zci Go.Proofs.YtceclodenhgoeaaGreat.Zcj Go.Proofs.YtceclodenhgoeaaGreat.Zck
set_option maxRecDepth 100000
set_option linter.unusedVariables false
structure MayR (a b c d e f : Int) : Prop where
  m : MayQ a b c d e f
  i : i6 e ∧ i6 f
  u : u6 a
def cMy (vs : List Value) (K : Value → Prop) : Prop := match vs with
  | [.agg ⟨[.int .u64 a, .int .u64 b, .int .u64 c, .int .u64 d, .int .i64 e, .int .i64 f]⟩] => need (((u6 a ∧ u6 b) ∧ (u6 c ∧ u6 d)) ∧ (i6 e ∧ i6 f)) (al fun a' => al fun c' => al fun d' => al fun e' => al fun f' => im (MayR a' b c' d' e' f') (K (Sc a' b c' d' e' f')))
  | _ => False
noncomputable def cBq (vs : List Value) (K : Value → Prop) : Prop := match vs with
  | [.int .i64 op, .bool wide, .bool taken, .agg ⟨[.int .u64 a, .int .u64 b, .int .u64 c, .int .u64 d, .int .i64 e, .int .i64 f]⟩, .agg ⟨[.int .u64 a', .int .u64 b', .int .u64 c', .int .u64 d', .int .i64 e', .int .i64 f']⟩] => need (LN a b c d e f a' b' c' d' e' f') (nm (brQ op wide taken a b c d e f a' b' c' d' e' f') fun r => K (.tuple #[Sc r.p1 r.p2 r.p3 r.p4 r.p5 r.p6, Sc r.q1 r.q2 r.q3 r.q4 r.q5 r.q6, .bool r.ok]))
  | _ => False
noncomputable abbrev TB4 : Tab := [(10, cTrue), (7, cMy), (11, cBq), (12, cBq)]
def nB4 (op : Int) (wide taken : Bool) (a b c d e f a' b' c' d' e' f' : Int) (K : Value → Prop) : Prop := run Tryz.prog TB4 EEz true 90 4 [.int .i64 op, .bool wide, .bool taken, Sc a b c d e f, Sc a' b' c' d' e' f'] K
theorem nB4_eq (op : Int) (wide taken : Bool) (a b c d e f a' b' c' d' e' f' : Int) (K : Value → Prop) : nB4 op wide taken a b c d e f a' b' c' d' e' f' K = (need (((Go.Proofs.YtceclodenhgoeaaGreat.Zu.u6 a ∧ Go.Proofs.YtceclodenhgoeaaGreat.Zu.u6 b) ∧ Go.Proofs.YtceclodenhgoeaaGreat.Zu.u6 c ∧ Go.Proofs.YtceclodenhgoeaaGreat.Zu.u6 d) ∧ Go.Proofs.YtceclodenhgoeaaGreat.Zcf.i6 e ∧ Go.Proofs.YtceclodenhgoeaaGreat.Zcf.i6 f) (al fun x => al fun x_1 => al fun x_2 => al fun x_3 => al fun x_4 => im (Go.Proofs.YtceclodenhgoeaaGreat.Zcm.MayR x b x_1 x_2 x_3 x_4) (need (((Go.Proofs.YtceclodenhgoeaaGreat.Zu.u6 a' ∧ Go.Proofs.YtceclodenhgoeaaGreat.Zu.u6 b') ∧ Go.Proofs.YtceclodenhgoeaaGreat.Zu.u6 c' ∧ Go.Proofs.YtceclodenhgoeaaGreat.Zu.u6 d') ∧ Go.Proofs.YtceclodenhgoeaaGreat.Zcf.i6 e' ∧ Go.Proofs.YtceclodenhgoeaaGreat.Zcf.i6 f') (al fun x_5 => al fun x_6 => al fun x_7 => al fun x_8 => al fun x_9 => im (Go.Proofs.YtceclodenhgoeaaGreat.Zcm.MayR x_5 b' x_6 x_7 x_8 x_9) (need (Go.Proofs.YtceclodenhgoeaaGreat.Zcj.LN x b x_1 x_2 x_3 x_4 x_5 b' x_6 x_7 x_8 x_9) (nm (Go.Proofs.YtceclodenhgoeaaGreat.Zck.brQ op wide taken x b x_1 x_2 x_3 x_4 x_5 b' x_6 x_7 x_8 x_9) fun r => need (Go.Proofs.YtceclodenhgoeaaGreat.Zcj.LN x b x_1 x_2 x_3 x_4 x_5 b' x_6 x_7 x_8 x_9) (nm (Go.Proofs.YtceclodenhgoeaaGreat.Zck.brQ op wide taken x b x_1 x_2 x_3 x_4 x_5 b' x_6 x_7 x_8 x_9) fun r_1 => ob ((fun x => (fun x => Go.Proofs.YtceclodenhgoeaaGreat.Zci.LR.p1 r == Go.Proofs.YtceclodenhgoeaaGreat.Zci.LR.p1 r_1 && x) (Go.Proofs.YtceclodenhgoeaaGreat.Zci.LR.p2 r == Go.Proofs.YtceclodenhgoeaaGreat.Zci.LR.p2 r_1) && x) ((fun x => (fun x => Go.Proofs.YtceclodenhgoeaaGreat.Zci.LR.p3 r == Go.Proofs.YtceclodenhgoeaaGreat.Zci.LR.p3 r_1 && x) (Go.Proofs.YtceclodenhgoeaaGreat.Zci.LR.p4 r == Go.Proofs.YtceclodenhgoeaaGreat.Zci.LR.p4 r_1) && x) ((fun x => Go.Proofs.YtceclodenhgoeaaGreat.Zci.LR.p5 r == Go.Proofs.YtceclodenhgoeaaGreat.Zci.LR.p5 r_1 && x) (Go.Proofs.YtceclodenhgoeaaGreat.Zci.LR.p6 r == Go.Proofs.YtceclodenhgoeaaGreat.Zci.LR.p6 r_1)))) ((fun x => (fun x => Go.Proofs.YtceclodenhgoeaaGreat.Zci.LR.p1 r == Go.Proofs.YtceclodenhgoeaaGreat.Zci.LR.p1 r_1 && x) (Go.Proofs.YtceclodenhgoeaaGreat.Zci.LR.p2 r == Go.Proofs.YtceclodenhgoeaaGreat.Zci.LR.p2 r_1) && x) ((fun x => (fun x => Go.Proofs.YtceclodenhgoeaaGreat.Zci.LR.p3 r == Go.Proofs.YtceclodenhgoeaaGreat.Zci.LR.p3 r_1 && x) (Go.Proofs.YtceclodenhgoeaaGreat.Zci.LR.p4 r == Go.Proofs.YtceclodenhgoeaaGreat.Zci.LR.p4 r_1) && x) ((fun x => Go.Proofs.YtceclodenhgoeaaGreat.Zci.LR.p5 r == Go.Proofs.YtceclodenhgoeaaGreat.Zci.LR.p5 r_1 && x) (Go.Proofs.YtceclodenhgoeaaGreat.Zci.LR.p6 r == Go.Proofs.YtceclodenhgoeaaGreat.Zci.LR.p6 r_1)))) (ob ((fun x => (fun x => Go.Proofs.YtceclodenhgoeaaGreat.Zci.LR.p1 r == Go.Proofs.YtceclodenhgoeaaGreat.Zci.LR.p1 r_1 && x) (Go.Proofs.YtceclodenhgoeaaGreat.Zci.LR.p2 r == Go.Proofs.YtceclodenhgoeaaGreat.Zci.LR.p2 r_1) && x) ((fun x => (fun x => Go.Proofs.YtceclodenhgoeaaGreat.Zci.LR.p3 r == Go.Proofs.YtceclodenhgoeaaGreat.Zci.LR.p3 r_1 && x) (Go.Proofs.YtceclodenhgoeaaGreat.Zci.LR.p4 r == Go.Proofs.YtceclodenhgoeaaGreat.Zci.LR.p4 r_1) && x) ((fun x => Go.Proofs.YtceclodenhgoeaaGreat.Zci.LR.p5 r == Go.Proofs.YtceclodenhgoeaaGreat.Zci.LR.p5 r_1 && x) (Go.Proofs.YtceclodenhgoeaaGreat.Zci.LR.p6 r == Go.Proofs.YtceclodenhgoeaaGreat.Zci.LR.p6 r_1)))) ((fun x => (fun x => Go.Proofs.YtceclodenhgoeaaGreat.Zci.LR.p1 r == Go.Proofs.YtceclodenhgoeaaGreat.Zci.LR.p1 r_1 && x) (Go.Proofs.YtceclodenhgoeaaGreat.Zci.LR.p2 r == Go.Proofs.YtceclodenhgoeaaGreat.Zci.LR.p2 r_1) && x) ((fun x => (fun x => Go.Proofs.YtceclodenhgoeaaGreat.Zci.LR.p3 r == Go.Proofs.YtceclodenhgoeaaGreat.Zci.LR.p3 r_1 && x) (Go.Proofs.YtceclodenhgoeaaGreat.Zci.LR.p4 r == Go.Proofs.YtceclodenhgoeaaGreat.Zci.LR.p4 r_1) && x) ((fun x => Go.Proofs.YtceclodenhgoeaaGreat.Zci.LR.p5 r == Go.Proofs.YtceclodenhgoeaaGreat.Zci.LR.p5 r_1 && x) (Go.Proofs.YtceclodenhgoeaaGreat.Zci.LR.p6 r == Go.Proofs.YtceclodenhgoeaaGreat.Zci.LR.p6 r_1)))) (ob ((fun x => (fun x => Go.Proofs.YtceclodenhgoeaaGreat.Zci.LR.p1 r == Go.Proofs.YtceclodenhgoeaaGreat.Zci.LR.p1 r_1 && x) (Go.Proofs.YtceclodenhgoeaaGreat.Zci.LR.p2 r == Go.Proofs.YtceclodenhgoeaaGreat.Zci.LR.p2 r_1) && x) ((fun x => (fun x => Go.Proofs.YtceclodenhgoeaaGreat.Zci.LR.p3 r == Go.Proofs.YtceclodenhgoeaaGreat.Zci.LR.p3 r_1 && x) (Go.Proofs.YtceclodenhgoeaaGreat.Zci.LR.p4 r == Go.Proofs.YtceclodenhgoeaaGreat.Zci.LR.p4 r_1) && x) ((fun x => Go.Proofs.YtceclodenhgoeaaGreat.Zci.LR.p5 r == Go.Proofs.YtceclodenhgoeaaGreat.Zci.LR.p5 r_1 && x) (Go.Proofs.YtceclodenhgoeaaGreat.Zci.LR.p6 r == Go.Proofs.YtceclodenhgoeaaGreat.Zci.LR.p6 r_1)))) ((fun x => (fun x => Go.Proofs.YtceclodenhgoeaaGreat.Zci.LR.p1 r == Go.Proofs.YtceclodenhgoeaaGreat.Zci.LR.p1 r_1 && x) (Go.Proofs.YtceclodenhgoeaaGreat.Zci.LR.p2 r == Go.Proofs.YtceclodenhgoeaaGreat.Zci.LR.p2 r_1) && x) ((fun x => (fun x => Go.Proofs.YtceclodenhgoeaaGreat.Zci.LR.p3 r == Go.Proofs.YtceclodenhgoeaaGreat.Zci.LR.p3 r_1 && x) (Go.Proofs.YtceclodenhgoeaaGreat.Zci.LR.p4 r == Go.Proofs.YtceclodenhgoeaaGreat.Zci.LR.p4 r_1) && x) ((fun x => Go.Proofs.YtceclodenhgoeaaGreat.Zci.LR.p5 r == Go.Proofs.YtceclodenhgoeaaGreat.Zci.LR.p5 r_1 && x) (Go.Proofs.YtceclodenhgoeaaGreat.Zci.LR.p6 r == Go.Proofs.YtceclodenhgoeaaGreat.Zci.LR.p6 r_1)))) (ob (!(fun x => (fun x => Go.Proofs.YtceclodenhgoeaaGreat.Zci.LR.p1 r == Go.Proofs.YtceclodenhgoeaaGreat.Zci.LR.p1 r_1 && x) (Go.Proofs.YtceclodenhgoeaaGreat.Zci.LR.p2 r == Go.Proofs.YtceclodenhgoeaaGreat.Zci.LR.p2 r_1) && x) ((fun x => (fun x => Go.Proofs.YtceclodenhgoeaaGreat.Zci.LR.p3 r == Go.Proofs.YtceclodenhgoeaaGreat.Zci.LR.p3 r_1 && x) (Go.Proofs.YtceclodenhgoeaaGreat.Zci.LR.p4 r == Go.Proofs.YtceclodenhgoeaaGreat.Zci.LR.p4 r_1) && x) ((fun x => Go.Proofs.YtceclodenhgoeaaGreat.Zci.LR.p5 r == Go.Proofs.YtceclodenhgoeaaGreat.Zci.LR.p5 r_1 && x) (Go.Proofs.YtceclodenhgoeaaGreat.Zci.LR.p6 r == Go.Proofs.YtceclodenhgoeaaGreat.Zci.LR.p6 r_1)))) true (nm (bif (fun x => (fun x => Go.Proofs.YtceclodenhgoeaaGreat.Zci.LR.p1 r == Go.Proofs.YtceclodenhgoeaaGreat.Zci.LR.p1 r_1 && x) (Go.Proofs.YtceclodenhgoeaaGreat.Zci.LR.p2 r == Go.Proofs.YtceclodenhgoeaaGreat.Zci.LR.p2 r_1) && x) ((fun x => (fun x => Go.Proofs.YtceclodenhgoeaaGreat.Zci.LR.p3 r == Go.Proofs.YtceclodenhgoeaaGreat.Zci.LR.p3 r_1 && x) (Go.Proofs.YtceclodenhgoeaaGreat.Zci.LR.p4 r == Go.Proofs.YtceclodenhgoeaaGreat.Zci.LR.p4 r_1) && x) ((fun x => Go.Proofs.YtceclodenhgoeaaGreat.Zci.LR.p5 r == Go.Proofs.YtceclodenhgoeaaGreat.Zci.LR.p5 r_1 && x) (Go.Proofs.YtceclodenhgoeaaGreat.Zci.LR.p6 r == Go.Proofs.YtceclodenhgoeaaGreat.Zci.LR.p6 r_1))) then (fun x => (fun x => Go.Proofs.YtceclodenhgoeaaGreat.Zci.LR.q1 r == Go.Proofs.YtceclodenhgoeaaGreat.Zci.LR.q1 r_1 && x) (Go.Proofs.YtceclodenhgoeaaGreat.Zci.LR.q2 r == Go.Proofs.YtceclodenhgoeaaGreat.Zci.LR.q2 r_1) && x) ((fun x => (fun x => Go.Proofs.YtceclodenhgoeaaGreat.Zci.LR.q3 r == Go.Proofs.YtceclodenhgoeaaGreat.Zci.LR.q3 r_1 && x) (Go.Proofs.YtceclodenhgoeaaGreat.Zci.LR.q4 r == Go.Proofs.YtceclodenhgoeaaGreat.Zci.LR.q4 r_1) && x) ((fun x => Go.Proofs.YtceclodenhgoeaaGreat.Zci.LR.q5 r == Go.Proofs.YtceclodenhgoeaaGreat.Zci.LR.q5 r_1 && x) (Go.Proofs.YtceclodenhgoeaaGreat.Zci.LR.q6 r == Go.Proofs.YtceclodenhgoeaaGreat.Zci.LR.q6 r_1))) else false) fun r_2 => ob r_2 r_2 (ob r_2 r_2 (ob r_2 r_2 (ob r_2 r_2 (ob r_2 r_2 (ob (!r_2) true (nm (bif r_2 then Go.Proofs.YtceclodenhgoeaaGreat.Zci.LR.ok r == Go.Proofs.YtceclodenhgoeaaGreat.Zci.LR.ok r_1 else false) fun r => ob r r (ob (!r) true (nm (bif r then true else false) fun r => K (.bool r)))))))))))))))))))) := by kernel_rfl
end Go.Proofs.YtceclodenhgoeaaGreat.Zcm
end
section
/- ScalarBranch, by the executor. -/
namespace Go.Proofs.YtceclodenhgoeaaGreat.LScalarBranch
open Go Go.Proofs Go.RowKit Go.Proofs.YtceclodenhgoeaaGreat.Xc Go.Proofs.YtceclodenhgoeaaGreat.Zs Go.Proofs.YtceclodenhgoeaaGreat.Zk Go.Proofs.YtceclodenhgoeaaGreat.Zu Go.Proofs.YtceclodenhgoeaaGreat.Zv Go.Proofs.YtceclodenhgoeaaGreat.Zbh Go.Proofs.YtceclodenhgoeaaGreat.Zbm Go.Proofs.YtceclodenhgoeaaGreat.Zbn Go.Proofs.YtceclodenhgoeaaGreat.Zcf Go.Proofs.YtceclodenhgoeaaGreat.Zci Go.Proofs.YtceclodenhgoeaaGreat.Zcj Go.Proofs.YtceclodenhgoeaaGreat.Zck Go.Proofs.YtceclodenhgoeaaGreat.Zcl Go.Proofs.YtceclodenhgoeaaGreat.Zcm Go.Proofs.YtceclodenhgoeaaGreat.Bv
set_option linter.unusedVariables false
set_option linter.unusedSimpArgs false
theorem tb4 : TabOk Tryz.prog TB4 := by
  refine tab_run good (by kernel_rfl) (fun vs K h => ?_) (tab_runK good (by kernel_rfl) (fun vs K h => ?_) (tab_runK good (by kernel_rfl) (fun vs K h => ?_) (tab_runK good (by kernel_rfl) (fun vs K h => ?_) tab_nil)))
  · unfold cTrue at h; split at h
    · have o := oknown; unfold nknown at o; exact ⟨_, h, [], EEk, false, 90, tab_nil, eek, o⟩
    · exact h.elim
  · unfold cMy at h; split at h
    · rename_i a b c d e f
      obtain ⟨⟨⟨⟨ha, hb⟩, hc, hd⟩, he, hf⟩, h⟩ := h
      have o : nMay a b c d e f K := by
        rw [nMay_eq]
        refine h _ _ _ _ _ ⟨⟨?_, ?_, ?_, ?_, ?_⟩, ⟨?_, ?_⟩, ?_⟩
        · obtain ⟨A, rfl⟩ := exu ha
          obtain ⟨B, rfl⟩ := exu hb
          refine ⟨A &&& ~~~ B, B, ?_, rfl, dj_cl _ _⟩
          rw [b_andNot, ofInt_U, ofInt_U]
        · split <;> assumption
        · split <;> assumption
        · split <;> split <;> omega
        · split <;> split <;> omega
        · split <;> assumption
        · split <;> assumption
        · rw [b_andNot]; exact ⟨U_nonneg _, U_lt _⟩
      unfold nMay at o; exact ⟨[], EEz, true, 90, tab_nil, eez, o⟩
    · exact h.elim
  · unfold cBq at h; split at h
    · have o := oBc (K := K) h.1 (h.2 _ rfl); unfold nBc at o; exact ⟨TBc, EEk, true, 90, tbc, eek, o⟩
    · exact h.elim
  · unfold cBq at h; split at h
    · have o := oBr (K := K) h.1 (h.2 _ rfl); unfold nBr at o; exact ⟨TBr, EEk, true, 90, tbr, eek, o⟩
    · exact h.elim
theorem oB4 {op : Int} {wide taken : Bool} {a b c d e f a' b' c' d' e' f' : Int} (h1 : u6 a ∧ u6 b) (h2 : u6 c ∧ u6 d) (h3 : i6 e ∧ i6 f) (g1 : u6 a' ∧ u6 b') (g2 : u6 c' ∧ u6 d') (g3 : i6 e' ∧ i6 f') : nB4 op wide taken a b c d e f a' b' c' d' e' f' (· = .bool true) := by
  rw [nB4_eq]
  refine ⟨⟨⟨h1, h2⟩, h3⟩, fun x x1 x2 x3 x4 q1 => ⟨⟨⟨g1, g2⟩, g3⟩, fun y y1 y2 y3 y4 q2 => ?_⟩⟩
  have N : LN x b x1 x2 x3 x4 y b' y1 y2 y3 y4 := ⟨q1.m, q2.m, q1.i, q2.i, q1.u, q2.u⟩
  repeat (first | with_reducible refine ob_self ?_ | with_reducible refine ob_true ?_ | ((with_reducible refine nm_intro ?_); intro r hr; subst hr) | refine And.intro N ?_)
  simp
theorem wu {x : Int} (h : (Lit.int .u64 x).wf = true) : u6 x := by
  simp [Lit.wf, IntKind.min, IntKind.max, IntKind.signed, IntKind.bits] at h
  unfold u6; omega
theorem wi {x : Int} (h : (Lit.int .i64 x).wf = true) : i6 x := by
  simp [Lit.wf, IntKind.min, IntKind.max, IntKind.signed, IntKind.bits] at h
  unfold i6; omega
theorem calls (op : Int) (wide taken : Bool) (a b c d e f a' b' c' d' e' f' : Int) (_ : (Lit.int .i64 op).wf = true) (h0 : (Lit.int .u64 a).wf = true) (h1 : (Lit.int .u64 b).wf = true) (h2 : (Lit.int .u64 c).wf = true) (h3 : (Lit.int .u64 d).wf = true) (h8 : (Lit.int .i64 e).wf = true) (h9 : (Lit.int .i64 f).wf = true) (h4 : (Lit.int .u64 a').wf = true) (h5 : (Lit.int .u64 b').wf = true) (h6 : (Lit.int .u64 c').wf = true) (h7 : (Lit.int .u64 d').wf = true) (h10 : (Lit.int .i64 e').wf = true) (h11 : (Lit.int .i64 f').wf = true) (W : World) :
    Calls Tryz.prog 4 #[.int .i64 op, .bool wide, .bool taken, Sc a b c d e f, Sc a' b' c' d' e' f'] W (fun e W' => e = .returned (.bool true) ∧ Below W.heap.size W W') := by
  have o := oB4 (op := op) (wide := wide) (taken := taken) ⟨wu h0, wu h1⟩ ⟨wu h2, wu h3⟩ ⟨wi h8, wi h9⟩ ⟨wu h4, wu h5⟩ ⟨wu h6, wu h7⟩ ⟨wi h10, wi h11⟩
  unfold nB4 at o
  exact calls_run good tb4 eez o W
end Go.Proofs.YtceclodenhgoeaaGreat.LScalarBranch
end
