/- Layer 5, against the reference: Alu is the same on both sides, operation by operation. -/
import Derived.Test.YtceclodenhgoeaaGreatZdj
namespace Go.Proofs.YtceclodenhgoeaaGreat.Zdk
open Go Go.RowKit Go.Proofs Go.Proofs.YtceclodenhgoeaaGreat.Xc Go.Proofs.YtceclodenhgoeaaGreat.Zs Go.Proofs.YtceclodenhgoeaaGreat.Zk Go.Proofs.YtceclodenhgoeaaGreat.Zo Go.Proofs.YtceclodenhgoeaaGreat.Zq Go.Proofs.YtceclodenhgoeaaGreat.Zu Go.Proofs.YtceclodenhgoeaaGreat.Zv Go.Proofs.YtceclodenhgoeaaGreat.Zbf Go.Proofs.YtceclodenhgoeaaGreat.Zbi Go.Proofs.YtceclodenhgoeaaGreat.Zbj Go.Proofs.YtceclodenhgoeaaGreat.Zbm Go.Proofs.YtceclodenhgoeaaGreat.Zcf Go.Proofs.YtceclodenhgoeaaGreat.Zdb Go.Proofs.YtceclodenhgoeaaGreat.Zdc Go.Proofs.YtceclodenhgoeaaGreat.Zdf Go.Proofs.YtceclodenhgoeaaGreat.Zdg Go.Proofs.YtceclodenhgoeaaGreat.Zdh Go.Proofs.YtceclodenhgoeaaGreat.Zdi Go.Proofs.YtceclodenhgoeaaGreat.Zdj Go.Proofs.YtceclodenhgoeaaGreat.Zdz Go.Proofs.YtceclodenhgoeaaGreat.Bv
set_option linter.unusedVariables false
set_option linter.unusedSimpArgs false
theorem u60 : u6 0 := by unfold u6; omega
theorem u6M : u6 18446744073709551615 := by unfold u6; omega
theorem djA : dj 0 18446744073709551615 := dj0m u6M
theorem lhA : LH 0 18446744073709551615 := ⟨u60, u6M, by omega⟩
theorem liA : LI (-9223372036854775808) 9223372036854775807 := ⟨by unfold i6; omega, by unfold i6; omega, by omega⟩
theorem mzk {a b c d e f : Int} (h1 : dj a b) (h2 : LH c d) (h3 : LI e f) : MZ a b c d e f := ⟨⟨h1, h2.pl, h2.ph, h2.le, h3.le⟩, h3.pl, h3.ph⟩
theorem mz_lh {a b c d e f : Int} (h : MZ a b c d e f) : LH c d := ⟨h.m.uc, h.m.ud, h.m.cd⟩
theorem mz_li {a b c d e f : Int} (h : MZ a b c d e f) : LI e f := ⟨h.ie, h.jf, h.m.ef⟩
theorem sr_mz {r : SR} (h : r.M) : MZ r.a r.b r.c r.d r.e r.f := h
theorem mz0 : MZ 0 0 0 0 (IntKind.wrap .i64 0) (IntKind.wrap .i64 0) := ⟨⟨dj0m u60, u60, u60, by omega, by omega⟩, i6_w _, i6_w _⟩
theorem mz_isv {a b c d e f : Int} (h : MZ a b c d e f) : u6 (isv a b c d e f) := isv_u ⟨(Zbh.dj_u h.m.dj).1, h.m.uc⟩
theorem allE' : IntKind.wrap .u64 (9223372036854775808 + IntKind.wrap .u64 (9223372036854775808 - 1)) = 18446744073709551615 := by decide +kernel
theorem shn64 {v : Int} (h : u6 v) : shn 64 (IntKind.wrap .i64 (Int.tmod v 64)) := by
  unfold u6 at h; unfold shn i6
  have : Int.tmod v 64 = v % 64 := Int.tmod_eq_emod_of_nonneg h.1
  rw [isw]; omega
theorem shn32 {v : Int} (h : u6 v) : shn 64 (IntKind.wrap .i64 (Int.tmod v 32)) ∧ shn 32 (IntKind.wrap .i64 (Int.tmod v 32)) := by
  unfold u6 at h; unfold shn i6
  have : Int.tmod v 32 = v % 32 := Int.tmod_eq_emod_of_nonneg h.1
  rw [isw]; omega
theorem ob_f {q : Bool} {A : Prop} (h : A) : ob false q A := ⟨(fun x => by cases x), h⟩
theorem need_mk {q A : Prop} (h : q) (h2 : A) : need q A := ⟨h, h2⟩
theorem im_mk {q A : Prop} (h : q → A) : im q A := h
theorem ex6 {P Q : SR → Prop} (x1 x2 x3 x4 x5 x6 : Int) (h : P ⟨x1, x2, x3, x4, x5, x6⟩) (k : Q ⟨x1, x2, x3, x4, x5, x6⟩) : ∃ r, P r ∧ Q r := ⟨_, h, k⟩
section
variable {g : WG} {a b c d e f a' b' c' d' e' f' : Int}
theorem al0t (h : MZ a b c d e f) (h' : MZ a' b' c' d' e' f') : ∃ r : SR, Zdj.nC0t g a b c d e f a' b' c' d' e' f' (· = r.v) ∧ Zdj.nR0t g a b c d e f a' b' c' d' e' f' (· = r.v) := by
  have v := mz_isv h
  have v' := mz_isv h'
  have dd := h.m.dj
  have dd' := h'.m.dj
  have lh := mz_lh h
  have lh' := mz_lh h'
  have li := mz_li h
  have li' := mz_li h'
  cases h1 : iso a b c d e f <;> cases h2 : iso a' b' c' d' e' f' <;>
  apply ex6 <;> first | rw [Zdj.nC0t_eq] | rw [Zdj.nR0t_eq] | skip
  all_goals try simp only [allE']
  all_goals repeat' (first
    | with_reducible refine ob_self ?_
    | with_reducible refine ob_true ?_
    | with_reducible refine ob_f ?_
    | (with_reducible refine nm_intro ?_; intro r hr; (first | rw [h1] at hr | rw [h2] at hr | skip); subst hr)
    | with_reducible refine br_no (by with_unfolding_all rfl) ?_
    | with_reducible refine br_yes (by with_unfolding_all rfl) ?_
    | with_reducible refine need_mk ?_ ?_
    | (with_reducible refine im_mk ?_; intro hq)
    | with_reducible refine And.intro ?_ ?_
    | with_reducible assumption
    | with_reducible exact mz0 | with_reducible exact mz0.m.dj | with_reducible exact mz_lh mz0 | with_reducible exact mz_li mz0
    | with_reducible exact u60 | with_reducible exact djA | with_reducible exact lhA | with_reducible exact liA | with_reducible exact rfl
    | with_reducible exact shn64 (by assumption) | with_reducible exact (shn32 (by assumption)).1 | with_reducible exact (shn32 (by assumption)).2
    | with_reducible refine mzk ?_ ?_ ?_ | exact rfl)

theorem al0f (h : MZ a b c d e f) (h' : MZ a' b' c' d' e' f') : ∃ r : SR, Zdj.nC0f g a b c d e f a' b' c' d' e' f' (· = r.v) ∧ Zdj.nR0f g a b c d e f a' b' c' d' e' f' (· = r.v) := by
  have mm := slN_M h.m
  have mm' := slN_M h'.m
  have m := sr_mz mm
  have m' := sr_mz mm'
  have v := mz_isv m
  have v' := mz_isv m'
  have dd := m.m.dj
  have dd' := m'.m.dj
  have lh := mz_lh m
  have lh' := mz_lh m'
  have li := mz_li m
  have li' := mz_li m'
  cases h1 : iso (slN a b c d).a (slN a b c d).b (slN a b c d).c (slN a b c d).d (slN a b c d).e (slN a b c d).f <;> cases h2 : iso (slN a' b' c' d').a (slN a' b' c' d').b (slN a' b' c' d').c (slN a' b' c' d').d (slN a' b' c' d').e (slN a' b' c' d').f <;>
  apply ex6 <;> first | rw [Zdj.nC0f_eq] | rw [Zdj.nR0f_eq] | skip
  all_goals try simp only [allE']
  all_goals repeat' (first
    | with_reducible refine ob_self ?_
    | with_reducible refine ob_true ?_
    | with_reducible refine ob_f ?_
    | (with_reducible refine nm_intro ?_; intro r hr; (first | rw [h1] at hr | rw [h2] at hr | skip); subst hr)
    | with_reducible refine br_no (by with_unfolding_all rfl) ?_
    | with_reducible refine br_yes (by with_unfolding_all rfl) ?_
    | with_reducible refine need_mk ?_ ?_
    | (with_reducible refine im_mk ?_; intro hq)
    | with_reducible refine And.intro ?_ ?_
    | with_reducible assumption
    | with_reducible exact mz0 | with_reducible exact mz0.m.dj | with_reducible exact mz_lh mz0 | with_reducible exact mz_li mz0
    | with_reducible exact u60 | with_reducible exact djA | with_reducible exact lhA | with_reducible exact liA | with_reducible exact rfl
    | with_reducible exact shn64 (by assumption) | with_reducible exact (shn32 (by assumption)).1 | with_reducible exact (shn32 (by assumption)).2
    | with_reducible refine mzk ?_ ?_ ?_ | exact rfl)

theorem al1t (h : MZ a b c d e f) (h' : MZ a' b' c' d' e' f') : ∃ r : SR, Zdj.nC1t g a b c d e f a' b' c' d' e' f' (· = r.v) ∧ Zdj.nR1t g a b c d e f a' b' c' d' e' f' (· = r.v) := by
  have v := mz_isv h
  have v' := mz_isv h'
  have dd := h.m.dj
  have dd' := h'.m.dj
  have lh := mz_lh h
  have lh' := mz_lh h'
  have li := mz_li h
  have li' := mz_li h'
  cases h1 : iso a b c d e f <;> cases h2 : iso a' b' c' d' e' f' <;>
  apply ex6 <;> first | rw [Zdj.nC1t_eq] | rw [Zdj.nR1t_eq] | skip
  all_goals try simp only [allE']
  all_goals repeat' (first
    | with_reducible refine ob_self ?_
    | with_reducible refine ob_true ?_
    | with_reducible refine ob_f ?_
    | (with_reducible refine nm_intro ?_; intro r hr; (first | rw [h1] at hr | rw [h2] at hr | skip); subst hr)
    | with_reducible refine br_no (by with_unfolding_all rfl) ?_
    | with_reducible refine br_yes (by with_unfolding_all rfl) ?_
    | with_reducible refine need_mk ?_ ?_
    | (with_reducible refine im_mk ?_; intro hq)
    | with_reducible refine And.intro ?_ ?_
    | with_reducible assumption
    | with_reducible exact mz0 | with_reducible exact mz0.m.dj | with_reducible exact mz_lh mz0 | with_reducible exact mz_li mz0
    | with_reducible exact u60 | with_reducible exact djA | with_reducible exact lhA | with_reducible exact liA | with_reducible exact rfl
    | with_reducible exact shn64 (by assumption) | with_reducible exact (shn32 (by assumption)).1 | with_reducible exact (shn32 (by assumption)).2
    | with_reducible refine mzk ?_ ?_ ?_ | exact rfl)

theorem al1f (h : MZ a b c d e f) (h' : MZ a' b' c' d' e' f') : ∃ r : SR, Zdj.nC1f g a b c d e f a' b' c' d' e' f' (· = r.v) ∧ Zdj.nR1f g a b c d e f a' b' c' d' e' f' (· = r.v) := by
  have mm := slN_M h.m
  have mm' := slN_M h'.m
  have m := sr_mz mm
  have m' := sr_mz mm'
  have v := mz_isv m
  have v' := mz_isv m'
  have dd := m.m.dj
  have dd' := m'.m.dj
  have lh := mz_lh m
  have lh' := mz_lh m'
  have li := mz_li m
  have li' := mz_li m'
  cases h1 : iso (slN a b c d).a (slN a b c d).b (slN a b c d).c (slN a b c d).d (slN a b c d).e (slN a b c d).f <;> cases h2 : iso (slN a' b' c' d').a (slN a' b' c' d').b (slN a' b' c' d').c (slN a' b' c' d').d (slN a' b' c' d').e (slN a' b' c' d').f <;>
  apply ex6 <;> first | rw [Zdj.nC1f_eq] | rw [Zdj.nR1f_eq] | skip
  all_goals try simp only [allE']
  all_goals repeat' (first
    | with_reducible refine ob_self ?_
    | with_reducible refine ob_true ?_
    | with_reducible refine ob_f ?_
    | (with_reducible refine nm_intro ?_; intro r hr; (first | rw [h1] at hr | rw [h2] at hr | skip); subst hr)
    | with_reducible refine br_no (by with_unfolding_all rfl) ?_
    | with_reducible refine br_yes (by with_unfolding_all rfl) ?_
    | with_reducible refine need_mk ?_ ?_
    | (with_reducible refine im_mk ?_; intro hq)
    | with_reducible refine And.intro ?_ ?_
    | with_reducible assumption
    | with_reducible exact mz0 | with_reducible exact mz0.m.dj | with_reducible exact mz_lh mz0 | with_reducible exact mz_li mz0
    | with_reducible exact u60 | with_reducible exact djA | with_reducible exact lhA | with_reducible exact liA | with_reducible exact rfl
    | with_reducible exact shn64 (by assumption) | with_reducible exact (shn32 (by assumption)).1 | with_reducible exact (shn32 (by assumption)).2
    | with_reducible refine mzk ?_ ?_ ?_ | exact rfl)

theorem al2t (h : MZ a b c d e f) (h' : MZ a' b' c' d' e' f') : ∃ r : SR, Zdj.nC2t g a b c d e f a' b' c' d' e' f' (· = r.v) ∧ Zdj.nR2t g a b c d e f a' b' c' d' e' f' (· = r.v) := by
  have v := mz_isv h
  have v' := mz_isv h'
  have dd := h.m.dj
  have dd' := h'.m.dj
  have lh := mz_lh h
  have lh' := mz_lh h'
  have li := mz_li h
  have li' := mz_li h'
  cases h1 : iso a b c d e f <;> cases h2 : iso a' b' c' d' e' f' <;>
  apply ex6 <;> first | rw [Zdj.nC2t_eq] | rw [Zdj.nR2t_eq] | skip
  all_goals try simp only [allE']
  all_goals repeat' (first
    | with_reducible refine ob_self ?_
    | with_reducible refine ob_true ?_
    | with_reducible refine ob_f ?_
    | (with_reducible refine nm_intro ?_; intro r hr; (first | rw [h1] at hr | rw [h2] at hr | skip); subst hr)
    | with_reducible refine br_no (by with_unfolding_all rfl) ?_
    | with_reducible refine br_yes (by with_unfolding_all rfl) ?_
    | with_reducible refine need_mk ?_ ?_
    | (with_reducible refine im_mk ?_; intro hq)
    | with_reducible refine And.intro ?_ ?_
    | with_reducible assumption
    | with_reducible exact mz0 | with_reducible exact mz0.m.dj | with_reducible exact mz_lh mz0 | with_reducible exact mz_li mz0
    | with_reducible exact u60 | with_reducible exact djA | with_reducible exact lhA | with_reducible exact liA | with_reducible exact rfl
    | with_reducible exact shn64 (by assumption) | with_reducible exact (shn32 (by assumption)).1 | with_reducible exact (shn32 (by assumption)).2
    | with_reducible refine mzk ?_ ?_ ?_ | exact rfl)

theorem al2f (h : MZ a b c d e f) (h' : MZ a' b' c' d' e' f') : ∃ r : SR, Zdj.nC2f g a b c d e f a' b' c' d' e' f' (· = r.v) ∧ Zdj.nR2f g a b c d e f a' b' c' d' e' f' (· = r.v) := by
  have mm := slN_M h.m
  have mm' := slN_M h'.m
  have m := sr_mz mm
  have m' := sr_mz mm'
  have v := mz_isv m
  have v' := mz_isv m'
  have dd := m.m.dj
  have dd' := m'.m.dj
  have lh := mz_lh m
  have lh' := mz_lh m'
  have li := mz_li m
  have li' := mz_li m'
  cases h1 : iso (slN a b c d).a (slN a b c d).b (slN a b c d).c (slN a b c d).d (slN a b c d).e (slN a b c d).f <;> cases h2 : iso (slN a' b' c' d').a (slN a' b' c' d').b (slN a' b' c' d').c (slN a' b' c' d').d (slN a' b' c' d').e (slN a' b' c' d').f <;>
  apply ex6 <;> first | rw [Zdj.nC2f_eq] | rw [Zdj.nR2f_eq] | skip
  all_goals try simp only [allE']
  all_goals repeat' (first
    | with_reducible refine ob_self ?_
    | with_reducible refine ob_true ?_
    | with_reducible refine ob_f ?_
    | (with_reducible refine nm_intro ?_; intro r hr; (first | rw [h1] at hr | rw [h2] at hr | skip); subst hr)
    | with_reducible refine br_no (by with_unfolding_all rfl) ?_
    | with_reducible refine br_yes (by with_unfolding_all rfl) ?_
    | with_reducible refine need_mk ?_ ?_
    | (with_reducible refine im_mk ?_; intro hq)
    | with_reducible refine And.intro ?_ ?_
    | with_reducible assumption
    | with_reducible exact mz0 | with_reducible exact mz0.m.dj | with_reducible exact mz_lh mz0 | with_reducible exact mz_li mz0
    | with_reducible exact u60 | with_reducible exact djA | with_reducible exact lhA | with_reducible exact liA | with_reducible exact rfl
    | with_reducible exact shn64 (by assumption) | with_reducible exact (shn32 (by assumption)).1 | with_reducible exact (shn32 (by assumption)).2
    | with_reducible refine mzk ?_ ?_ ?_ | exact rfl)

theorem al3t (h : MZ a b c d e f) (h' : MZ a' b' c' d' e' f') : ∃ r : SR, Zdj.nC3t g a b c d e f a' b' c' d' e' f' (· = r.v) ∧ Zdj.nR3t g a b c d e f a' b' c' d' e' f' (· = r.v) := by
  have v := mz_isv h
  have v' := mz_isv h'
  have dd := h.m.dj
  have dd' := h'.m.dj
  have lh := mz_lh h
  have lh' := mz_lh h'
  have li := mz_li h
  have li' := mz_li h'
  cases h1 : iso a b c d e f <;> cases h2 : iso a' b' c' d' e' f' <;>
  apply ex6 <;> first | rw [Zdj.nC3t_eq] | rw [Zdj.nR3t_eq] | skip
  all_goals try simp only [allE']
  all_goals repeat' (first
    | with_reducible refine ob_self ?_
    | with_reducible refine ob_true ?_
    | with_reducible refine ob_f ?_
    | (with_reducible refine nm_intro ?_; intro r hr; (first | rw [h1] at hr | rw [h2] at hr | skip); subst hr)
    | with_reducible refine br_no (by with_unfolding_all rfl) ?_
    | with_reducible refine br_yes (by with_unfolding_all rfl) ?_
    | with_reducible refine need_mk ?_ ?_
    | (with_reducible refine im_mk ?_; intro hq)
    | with_reducible refine And.intro ?_ ?_
    | with_reducible assumption
    | with_reducible exact mz0 | with_reducible exact mz0.m.dj | with_reducible exact mz_lh mz0 | with_reducible exact mz_li mz0
    | with_reducible exact u60 | with_reducible exact djA | with_reducible exact lhA | with_reducible exact liA | with_reducible exact rfl
    | with_reducible exact shn64 (by assumption) | with_reducible exact (shn32 (by assumption)).1 | with_reducible exact (shn32 (by assumption)).2
    | with_reducible refine mzk ?_ ?_ ?_ | exact rfl)

theorem al3f (h : MZ a b c d e f) (h' : MZ a' b' c' d' e' f') : ∃ r : SR, Zdj.nC3f g a b c d e f a' b' c' d' e' f' (· = r.v) ∧ Zdj.nR3f g a b c d e f a' b' c' d' e' f' (· = r.v) := by
  have mm := slN_M h.m
  have mm' := slN_M h'.m
  have m := sr_mz mm
  have m' := sr_mz mm'
  have v := mz_isv m
  have v' := mz_isv m'
  have dd := m.m.dj
  have dd' := m'.m.dj
  have lh := mz_lh m
  have lh' := mz_lh m'
  have li := mz_li m
  have li' := mz_li m'
  cases h1 : iso (slN a b c d).a (slN a b c d).b (slN a b c d).c (slN a b c d).d (slN a b c d).e (slN a b c d).f <;> cases h2 : iso (slN a' b' c' d').a (slN a' b' c' d').b (slN a' b' c' d').c (slN a' b' c' d').d (slN a' b' c' d').e (slN a' b' c' d').f <;>
  apply ex6 <;> first | rw [Zdj.nC3f_eq] | rw [Zdj.nR3f_eq] | skip
  all_goals try simp only [allE']
  all_goals repeat' (first
    | with_reducible refine ob_self ?_
    | with_reducible refine ob_true ?_
    | with_reducible refine ob_f ?_
    | (with_reducible refine nm_intro ?_; intro r hr; (first | rw [h1] at hr | rw [h2] at hr | skip); subst hr)
    | with_reducible refine br_no (by with_unfolding_all rfl) ?_
    | with_reducible refine br_yes (by with_unfolding_all rfl) ?_
    | with_reducible refine need_mk ?_ ?_
    | (with_reducible refine im_mk ?_; intro hq)
    | with_reducible refine And.intro ?_ ?_
    | with_reducible assumption
    | with_reducible exact mz0 | with_reducible exact mz0.m.dj | with_reducible exact mz_lh mz0 | with_reducible exact mz_li mz0
    | with_reducible exact u60 | with_reducible exact djA | with_reducible exact lhA | with_reducible exact liA | with_reducible exact rfl
    | with_reducible exact shn64 (by assumption) | with_reducible exact (shn32 (by assumption)).1 | with_reducible exact (shn32 (by assumption)).2
    | with_reducible refine mzk ?_ ?_ ?_ | exact rfl)

theorem al4t (h : MZ a b c d e f) (h' : MZ a' b' c' d' e' f') : ∃ r : SR, Zdj.nC4t g a b c d e f a' b' c' d' e' f' (· = r.v) ∧ Zdj.nR4t g a b c d e f a' b' c' d' e' f' (· = r.v) := by
  have v := mz_isv h
  have v' := mz_isv h'
  have dd := h.m.dj
  have dd' := h'.m.dj
  have lh := mz_lh h
  have lh' := mz_lh h'
  have li := mz_li h
  have li' := mz_li h'
  cases h1 : iso a b c d e f <;> cases h2 : iso a' b' c' d' e' f' <;>
  apply ex6 <;> first | rw [Zdj.nC4t_eq] | rw [Zdj.nR4t_eq] | skip
  all_goals try simp only [allE']
  all_goals repeat' (first
    | with_reducible refine ob_self ?_
    | with_reducible refine ob_true ?_
    | with_reducible refine ob_f ?_
    | (with_reducible refine nm_intro ?_; intro r hr; (first | rw [h1] at hr | rw [h2] at hr | skip); subst hr)
    | with_reducible refine br_no (by with_unfolding_all rfl) ?_
    | with_reducible refine br_yes (by with_unfolding_all rfl) ?_
    | with_reducible refine need_mk ?_ ?_
    | (with_reducible refine im_mk ?_; intro hq)
    | with_reducible refine And.intro ?_ ?_
    | with_reducible assumption
    | with_reducible exact mz0 | with_reducible exact mz0.m.dj | with_reducible exact mz_lh mz0 | with_reducible exact mz_li mz0
    | with_reducible exact u60 | with_reducible exact djA | with_reducible exact lhA | with_reducible exact liA | with_reducible exact rfl
    | with_reducible exact shn64 (by assumption) | with_reducible exact (shn32 (by assumption)).1 | with_reducible exact (shn32 (by assumption)).2
    | with_reducible refine mzk ?_ ?_ ?_ | exact rfl)

theorem al4f (h : MZ a b c d e f) (h' : MZ a' b' c' d' e' f') : ∃ r : SR, Zdj.nC4f g a b c d e f a' b' c' d' e' f' (· = r.v) ∧ Zdj.nR4f g a b c d e f a' b' c' d' e' f' (· = r.v) := by
  have mm := slN_M h.m
  have mm' := slN_M h'.m
  have m := sr_mz mm
  have m' := sr_mz mm'
  have v := mz_isv m
  have v' := mz_isv m'
  have dd := m.m.dj
  have dd' := m'.m.dj
  have lh := mz_lh m
  have lh' := mz_lh m'
  have li := mz_li m
  have li' := mz_li m'
  cases h1 : iso (slN a b c d).a (slN a b c d).b (slN a b c d).c (slN a b c d).d (slN a b c d).e (slN a b c d).f <;> cases h2 : iso (slN a' b' c' d').a (slN a' b' c' d').b (slN a' b' c' d').c (slN a' b' c' d').d (slN a' b' c' d').e (slN a' b' c' d').f <;>
  apply ex6 <;> first | rw [Zdj.nC4f_eq] | rw [Zdj.nR4f_eq] | skip
  all_goals try simp only [allE']
  all_goals repeat' (first
    | with_reducible refine ob_self ?_
    | with_reducible refine ob_true ?_
    | with_reducible refine ob_f ?_
    | (with_reducible refine nm_intro ?_; intro r hr; (first | rw [h1] at hr | rw [h2] at hr | skip); subst hr)
    | with_reducible refine br_no (by with_unfolding_all rfl) ?_
    | with_reducible refine br_yes (by with_unfolding_all rfl) ?_
    | with_reducible refine need_mk ?_ ?_
    | (with_reducible refine im_mk ?_; intro hq)
    | with_reducible refine And.intro ?_ ?_
    | with_reducible assumption
    | with_reducible exact mz0 | with_reducible exact mz0.m.dj | with_reducible exact mz_lh mz0 | with_reducible exact mz_li mz0
    | with_reducible exact u60 | with_reducible exact djA | with_reducible exact lhA | with_reducible exact liA | with_reducible exact rfl
    | with_reducible exact shn64 (by assumption) | with_reducible exact (shn32 (by assumption)).1 | with_reducible exact (shn32 (by assumption)).2
    | with_reducible refine mzk ?_ ?_ ?_ | exact rfl)

theorem al5t (h : MZ a b c d e f) (h' : MZ a' b' c' d' e' f') : ∃ r : SR, Zdj.nC5t g a b c d e f a' b' c' d' e' f' (· = r.v) ∧ Zdj.nR5t g a b c d e f a' b' c' d' e' f' (· = r.v) := by
  have v := mz_isv h
  have v' := mz_isv h'
  have dd := h.m.dj
  have dd' := h'.m.dj
  have lh := mz_lh h
  have lh' := mz_lh h'
  have li := mz_li h
  have li' := mz_li h'
  cases h1 : iso a b c d e f <;> cases h2 : iso a' b' c' d' e' f' <;>
  apply ex6 <;> first | rw [Zdj.nC5t_eq] | rw [Zdj.nR5t_eq] | skip
  all_goals try simp only [allE']
  all_goals repeat' (first
    | with_reducible refine ob_self ?_
    | with_reducible refine ob_true ?_
    | with_reducible refine ob_f ?_
    | (with_reducible refine nm_intro ?_; intro r hr; (first | rw [h1] at hr | rw [h2] at hr | skip); subst hr)
    | with_reducible refine br_no (by with_unfolding_all rfl) ?_
    | with_reducible refine br_yes (by with_unfolding_all rfl) ?_
    | with_reducible refine need_mk ?_ ?_
    | (with_reducible refine im_mk ?_; intro hq)
    | with_reducible refine And.intro ?_ ?_
    | with_reducible assumption
    | with_reducible exact mz0 | with_reducible exact mz0.m.dj | with_reducible exact mz_lh mz0 | with_reducible exact mz_li mz0
    | with_reducible exact u60 | with_reducible exact djA | with_reducible exact lhA | with_reducible exact liA | with_reducible exact rfl
    | with_reducible exact shn64 (by assumption) | with_reducible exact (shn32 (by assumption)).1 | with_reducible exact (shn32 (by assumption)).2
    | with_reducible refine mzk ?_ ?_ ?_ | exact rfl)

theorem al5f (h : MZ a b c d e f) (h' : MZ a' b' c' d' e' f') : ∃ r : SR, Zdj.nC5f g a b c d e f a' b' c' d' e' f' (· = r.v) ∧ Zdj.nR5f g a b c d e f a' b' c' d' e' f' (· = r.v) := by
  have mm := slN_M h.m
  have mm' := slN_M h'.m
  have m := sr_mz mm
  have m' := sr_mz mm'
  have v := mz_isv m
  have v' := mz_isv m'
  have dd := m.m.dj
  have dd' := m'.m.dj
  have lh := mz_lh m
  have lh' := mz_lh m'
  have li := mz_li m
  have li' := mz_li m'
  cases h1 : iso (slN a b c d).a (slN a b c d).b (slN a b c d).c (slN a b c d).d (slN a b c d).e (slN a b c d).f <;> cases h2 : iso (slN a' b' c' d').a (slN a' b' c' d').b (slN a' b' c' d').c (slN a' b' c' d').d (slN a' b' c' d').e (slN a' b' c' d').f <;>
  apply ex6 <;> first | rw [Zdj.nC5f_eq] | rw [Zdj.nR5f_eq] | skip
  all_goals try simp only [allE']
  all_goals repeat' (first
    | with_reducible refine ob_self ?_
    | with_reducible refine ob_true ?_
    | with_reducible refine ob_f ?_
    | (with_reducible refine nm_intro ?_; intro r hr; (first | rw [h1] at hr | rw [h2] at hr | skip); subst hr)
    | with_reducible refine br_no (by with_unfolding_all rfl) ?_
    | with_reducible refine br_yes (by with_unfolding_all rfl) ?_
    | with_reducible refine need_mk ?_ ?_
    | (with_reducible refine im_mk ?_; intro hq)
    | with_reducible refine And.intro ?_ ?_
    | with_reducible assumption
    | with_reducible exact mz0 | with_reducible exact mz0.m.dj | with_reducible exact mz_lh mz0 | with_reducible exact mz_li mz0
    | with_reducible exact u60 | with_reducible exact djA | with_reducible exact lhA | with_reducible exact liA | with_reducible exact rfl
    | with_reducible exact shn64 (by assumption) | with_reducible exact (shn32 (by assumption)).1 | with_reducible exact (shn32 (by assumption)).2
    | with_reducible refine mzk ?_ ?_ ?_ | exact rfl)

theorem al6t (h : MZ a b c d e f) (h' : MZ a' b' c' d' e' f') : ∃ r : SR, Zdj.nC6t g a b c d e f a' b' c' d' e' f' (· = r.v) ∧ Zdj.nR6t g a b c d e f a' b' c' d' e' f' (· = r.v) := by
  have v := mz_isv h
  have v' := mz_isv h'
  have dd := h.m.dj
  have dd' := h'.m.dj
  have lh := mz_lh h
  have lh' := mz_lh h'
  have li := mz_li h
  have li' := mz_li h'
  cases h1 : iso a b c d e f <;> cases h2 : iso a' b' c' d' e' f' <;>
  apply ex6 <;> first | rw [Zdj.nC6t_eq] | rw [Zdj.nR6t_eq] | skip
  all_goals try simp only [allE']
  all_goals repeat' (first
    | with_reducible refine ob_self ?_
    | with_reducible refine ob_true ?_
    | with_reducible refine ob_f ?_
    | (with_reducible refine nm_intro ?_; intro r hr; (first | rw [h1] at hr | rw [h2] at hr | skip); subst hr)
    | with_reducible refine br_no (by with_unfolding_all rfl) ?_
    | with_reducible refine br_yes (by with_unfolding_all rfl) ?_
    | with_reducible refine need_mk ?_ ?_
    | (with_reducible refine im_mk ?_; intro hq)
    | with_reducible refine And.intro ?_ ?_
    | with_reducible assumption
    | with_reducible exact mz0 | with_reducible exact mz0.m.dj | with_reducible exact mz_lh mz0 | with_reducible exact mz_li mz0
    | with_reducible exact u60 | with_reducible exact djA | with_reducible exact lhA | with_reducible exact liA | with_reducible exact rfl
    | with_reducible exact shn64 (by assumption) | with_reducible exact (shn32 (by assumption)).1 | with_reducible exact (shn32 (by assumption)).2
    | with_reducible refine mzk ?_ ?_ ?_ | exact rfl)

theorem al6f (h : MZ a b c d e f) (h' : MZ a' b' c' d' e' f') : ∃ r : SR, Zdj.nC6f g a b c d e f a' b' c' d' e' f' (· = r.v) ∧ Zdj.nR6f g a b c d e f a' b' c' d' e' f' (· = r.v) := by
  have mm := slN_M h.m
  have mm' := slN_M h'.m
  have m := sr_mz mm
  have m' := sr_mz mm'
  have v := mz_isv m
  have v' := mz_isv m'
  have dd := m.m.dj
  have dd' := m'.m.dj
  have lh := mz_lh m
  have lh' := mz_lh m'
  have li := mz_li m
  have li' := mz_li m'
  cases h1 : iso (slN a b c d).a (slN a b c d).b (slN a b c d).c (slN a b c d).d (slN a b c d).e (slN a b c d).f <;> cases h2 : iso (slN a' b' c' d').a (slN a' b' c' d').b (slN a' b' c' d').c (slN a' b' c' d').d (slN a' b' c' d').e (slN a' b' c' d').f <;>
  apply ex6 <;> first | rw [Zdj.nC6f_eq] | rw [Zdj.nR6f_eq] | skip
  all_goals try simp only [allE']
  all_goals repeat' (first
    | with_reducible refine ob_self ?_
    | with_reducible refine ob_true ?_
    | with_reducible refine ob_f ?_
    | (with_reducible refine nm_intro ?_; intro r hr; (first | rw [h1] at hr | rw [h2] at hr | skip); subst hr)
    | with_reducible refine br_no (by with_unfolding_all rfl) ?_
    | with_reducible refine br_yes (by with_unfolding_all rfl) ?_
    | with_reducible refine need_mk ?_ ?_
    | (with_reducible refine im_mk ?_; intro hq)
    | with_reducible refine And.intro ?_ ?_
    | with_reducible assumption
    | with_reducible exact mz0 | with_reducible exact mz0.m.dj | with_reducible exact mz_lh mz0 | with_reducible exact mz_li mz0
    | with_reducible exact u60 | with_reducible exact djA | with_reducible exact lhA | with_reducible exact liA | with_reducible exact rfl
    | with_reducible exact shn64 (by assumption) | with_reducible exact (shn32 (by assumption)).1 | with_reducible exact (shn32 (by assumption)).2
    | with_reducible refine mzk ?_ ?_ ?_ | exact rfl)

theorem al7t (h : MZ a b c d e f) (h' : MZ a' b' c' d' e' f') : ∃ r : SR, Zdj.nC7t g a b c d e f a' b' c' d' e' f' (· = r.v) ∧ Zdj.nR7t g a b c d e f a' b' c' d' e' f' (· = r.v) := by
  have v := mz_isv h
  have v' := mz_isv h'
  have dd := h.m.dj
  have dd' := h'.m.dj
  have lh := mz_lh h
  have lh' := mz_lh h'
  have li := mz_li h
  have li' := mz_li h'
  cases h1 : iso a b c d e f <;> cases h2 : iso a' b' c' d' e' f' <;>
  apply ex6 <;> first | rw [Zdj.nC7t_eq] | rw [Zdj.nR7t_eq] | skip
  all_goals try simp only [allE']
  all_goals repeat' (first
    | with_reducible refine ob_self ?_
    | with_reducible refine ob_true ?_
    | with_reducible refine ob_f ?_
    | (with_reducible refine nm_intro ?_; intro r hr; (first | rw [h1] at hr | rw [h2] at hr | skip); subst hr)
    | with_reducible refine br_no (by with_unfolding_all rfl) ?_
    | with_reducible refine br_yes (by with_unfolding_all rfl) ?_
    | with_reducible refine need_mk ?_ ?_
    | (with_reducible refine im_mk ?_; intro hq)
    | with_reducible refine And.intro ?_ ?_
    | with_reducible assumption
    | with_reducible exact mz0 | with_reducible exact mz0.m.dj | with_reducible exact mz_lh mz0 | with_reducible exact mz_li mz0
    | with_reducible exact u60 | with_reducible exact djA | with_reducible exact lhA | with_reducible exact liA | with_reducible exact rfl
    | with_reducible exact shn64 (by assumption) | with_reducible exact (shn32 (by assumption)).1 | with_reducible exact (shn32 (by assumption)).2
    | with_reducible refine mzk ?_ ?_ ?_ | exact rfl)

theorem al7f (h : MZ a b c d e f) (h' : MZ a' b' c' d' e' f') : ∃ r : SR, Zdj.nC7f g a b c d e f a' b' c' d' e' f' (· = r.v) ∧ Zdj.nR7f g a b c d e f a' b' c' d' e' f' (· = r.v) := by
  have mm := slN_M h.m
  have mm' := slN_M h'.m
  have m := sr_mz mm
  have m' := sr_mz mm'
  have v := mz_isv m
  have v' := mz_isv m'
  have dd := m.m.dj
  have dd' := m'.m.dj
  have lh := mz_lh m
  have lh' := mz_lh m'
  have li := mz_li m
  have li' := mz_li m'
  cases h1 : iso (slN a b c d).a (slN a b c d).b (slN a b c d).c (slN a b c d).d (slN a b c d).e (slN a b c d).f <;> cases h2 : iso (slN a' b' c' d').a (slN a' b' c' d').b (slN a' b' c' d').c (slN a' b' c' d').d (slN a' b' c' d').e (slN a' b' c' d').f <;>
  apply ex6 <;> first | rw [Zdj.nC7f_eq] | rw [Zdj.nR7f_eq] | skip
  all_goals try simp only [allE']
  all_goals repeat' (first
    | with_reducible refine ob_self ?_
    | with_reducible refine ob_true ?_
    | with_reducible refine ob_f ?_
    | (with_reducible refine nm_intro ?_; intro r hr; (first | rw [h1] at hr | rw [h2] at hr | skip); subst hr)
    | with_reducible refine br_no (by with_unfolding_all rfl) ?_
    | with_reducible refine br_yes (by with_unfolding_all rfl) ?_
    | with_reducible refine need_mk ?_ ?_
    | (with_reducible refine im_mk ?_; intro hq)
    | with_reducible refine And.intro ?_ ?_
    | with_reducible assumption
    | with_reducible exact mz0 | with_reducible exact mz0.m.dj | with_reducible exact mz_lh mz0 | with_reducible exact mz_li mz0
    | with_reducible exact u60 | with_reducible exact djA | with_reducible exact lhA | with_reducible exact liA | with_reducible exact rfl
    | with_reducible exact shn64 (by assumption) | with_reducible exact (shn32 (by assumption)).1 | with_reducible exact (shn32 (by assumption)).2
    | with_reducible refine mzk ?_ ?_ ?_ | exact rfl)

theorem al8t (h : MZ a b c d e f) (h' : MZ a' b' c' d' e' f') : ∃ r : SR, Zdj.nC8t g a b c d e f a' b' c' d' e' f' (· = r.v) ∧ Zdj.nR8t g a b c d e f a' b' c' d' e' f' (· = r.v) := by
  have v := mz_isv h
  have v0 := mz_isv mz0
  have v' := mz_isv h'
  have dd := h.m.dj
  have dd' := h'.m.dj
  have lh := mz_lh h
  have lh' := mz_lh h'
  have li := mz_li h
  have li' := mz_li h'
  cases h1 : iso a b c d e f <;> cases h2 : iso a' b' c' d' e' f' <;>
  apply ex6 <;> first | rw [Zdj.nC8t_eq] | rw [Zdj.nR8t_eq] | skip
  all_goals try simp only [allE']
  all_goals repeat' (first
    | with_reducible refine ob_self ?_
    | with_reducible refine ob_true ?_
    | with_reducible refine ob_f ?_
    | (with_reducible refine nm_intro ?_; intro r hr; (first | rw [h1] at hr | rw [h2] at hr | skip); subst hr)
    | with_reducible refine br_no (by with_unfolding_all rfl) ?_
    | with_reducible refine br_yes (by with_unfolding_all rfl) ?_
    | with_reducible refine need_mk ?_ ?_
    | (with_reducible refine im_mk ?_; intro hq)
    | with_reducible refine And.intro ?_ ?_
    | with_reducible assumption
    | with_reducible exact mz0 | with_reducible exact mz0.m.dj | with_reducible exact mz_lh mz0 | with_reducible exact mz_li mz0
    | with_reducible exact u60 | with_reducible exact djA | with_reducible exact lhA | with_reducible exact liA | with_reducible exact rfl
    | with_reducible exact shn64 (by assumption) | with_reducible exact (shn32 (by assumption)).1 | with_reducible exact (shn32 (by assumption)).2
    | with_reducible refine mzk ?_ ?_ ?_ | exact rfl)

theorem al8f (h : MZ a b c d e f) (h' : MZ a' b' c' d' e' f') : ∃ r : SR, Zdj.nC8f g a b c d e f a' b' c' d' e' f' (· = r.v) ∧ Zdj.nR8f g a b c d e f a' b' c' d' e' f' (· = r.v) := by
  have mm := slN_M h.m
  have mm' := slN_M h'.m
  have m := sr_mz mm
  have m' := sr_mz mm'
  have m0 := sr_mz (slN_M mz0.m)
  have m2 := sr_mz (slN_M m.m)
  have v0 := mz_isv m0
  have v2 := mz_isv m2
  have d0 := m0.m.dj
  have d2 := m2.m.dj
  have lh0 := mz_lh m0
  have lh2 := mz_lh m2
  have li0 := mz_li m0
  have li2 := mz_li m2
  have v := mz_isv m
  have v' := mz_isv m'
  have dd := m.m.dj
  have dd' := m'.m.dj
  have lh := mz_lh m
  have lh' := mz_lh m'
  have li := mz_li m
  have li' := mz_li m'
  cases h1 : iso (slN a b c d).a (slN a b c d).b (slN a b c d).c (slN a b c d).d (slN a b c d).e (slN a b c d).f <;> cases h2 : iso (slN a' b' c' d').a (slN a' b' c' d').b (slN a' b' c' d').c (slN a' b' c' d').d (slN a' b' c' d').e (slN a' b' c' d').f <;>
  cases h3 : iso (slN 0 0 0 0).a (slN 0 0 0 0).b (slN 0 0 0 0).c (slN 0 0 0 0).d (slN 0 0 0 0).e (slN 0 0 0 0).f <;> cases h4 : iso (slN (slN a b c d).a (slN a b c d).b (slN a b c d).c (slN a b c d).d).a (slN (slN a b c d).a (slN a b c d).b (slN a b c d).c (slN a b c d).d).b (slN (slN a b c d).a (slN a b c d).b (slN a b c d).c (slN a b c d).d).c (slN (slN a b c d).a (slN a b c d).b (slN a b c d).c (slN a b c d).d).d (slN (slN a b c d).a (slN a b c d).b (slN a b c d).c (slN a b c d).d).e (slN (slN a b c d).a (slN a b c d).b (slN a b c d).c (slN a b c d).d).f <;>
  apply ex6 <;> first | rw [Zdj.nC8f_eq] | rw [Zdj.nR8f_eq] | skip
  all_goals try simp only [allE']
  all_goals repeat' (first
    | with_reducible refine ob_self ?_
    | with_reducible refine ob_true ?_
    | with_reducible refine ob_f ?_
    | (with_reducible refine nm_intro ?_; intro r hr; (first | rw [h1] at hr | rw [h2] at hr | rw [h3] at hr | rw [h4] at hr | skip); subst hr)
    | with_reducible refine br_no (by with_unfolding_all rfl) ?_
    | with_reducible refine br_yes (by with_unfolding_all rfl) ?_
    | with_reducible refine need_mk ?_ ?_
    | (with_reducible refine im_mk ?_; intro hq)
    | with_reducible refine And.intro ?_ ?_
    | with_reducible assumption
    | with_reducible exact mz0 | with_reducible exact mz0.m.dj | with_reducible exact mz_lh mz0 | with_reducible exact mz_li mz0
    | with_reducible exact u60 | with_reducible exact djA | with_reducible exact lhA | with_reducible exact liA | with_reducible exact rfl
    | with_reducible exact shn64 (by assumption) | with_reducible exact (shn32 (by assumption)).1 | with_reducible exact (shn32 (by assumption)).2
    | with_reducible refine mzk ?_ ?_ ?_ | exact rfl)

theorem al9t (h : MZ a b c d e f) (h' : MZ a' b' c' d' e' f') : ∃ r : SR, Zdj.nC9t g a b c d e f a' b' c' d' e' f' (· = r.v) ∧ Zdj.nR9t g a b c d e f a' b' c' d' e' f' (· = r.v) := by
  have v := mz_isv h
  have v' := mz_isv h'
  have dd := h.m.dj
  have dd' := h'.m.dj
  have lh := mz_lh h
  have lh' := mz_lh h'
  have li := mz_li h
  have li' := mz_li h'
  cases h1 : iso a b c d e f <;> cases h2 : iso a' b' c' d' e' f' <;>
  apply ex6 <;> first | rw [Zdj.nC9t_eq] | rw [Zdj.nR9t_eq] | skip
  all_goals try simp only [allE']
  all_goals repeat' (first
    | with_reducible refine ob_self ?_
    | with_reducible refine ob_true ?_
    | with_reducible refine ob_f ?_
    | (with_reducible refine nm_intro ?_; intro r hr; (first | rw [h1] at hr | rw [h2] at hr | skip); subst hr)
    | with_reducible refine br_no (by with_unfolding_all rfl) ?_
    | with_reducible refine br_yes (by with_unfolding_all rfl) ?_
    | with_reducible refine need_mk ?_ ?_
    | (with_reducible refine im_mk ?_; intro hq)
    | with_reducible refine And.intro ?_ ?_
    | with_reducible assumption
    | with_reducible exact mz0 | with_reducible exact mz0.m.dj | with_reducible exact mz_lh mz0 | with_reducible exact mz_li mz0
    | with_reducible exact u60 | with_reducible exact djA | with_reducible exact lhA | with_reducible exact liA | with_reducible exact rfl
    | with_reducible exact shn64 (by assumption) | with_reducible exact (shn32 (by assumption)).1 | with_reducible exact (shn32 (by assumption)).2
    | with_reducible refine mzk ?_ ?_ ?_ | exact rfl)

theorem al9f (h : MZ a b c d e f) (h' : MZ a' b' c' d' e' f') : ∃ r : SR, Zdj.nC9f g a b c d e f a' b' c' d' e' f' (· = r.v) ∧ Zdj.nR9f g a b c d e f a' b' c' d' e' f' (· = r.v) := by
  have mm := slN_M h.m
  have mm' := slN_M h'.m
  have m := sr_mz mm
  have m' := sr_mz mm'
  have v := mz_isv m
  have v' := mz_isv m'
  have dd := m.m.dj
  have dd' := m'.m.dj
  have lh := mz_lh m
  have lh' := mz_lh m'
  have li := mz_li m
  have li' := mz_li m'
  cases h1 : iso (slN a b c d).a (slN a b c d).b (slN a b c d).c (slN a b c d).d (slN a b c d).e (slN a b c d).f <;> cases h2 : iso (slN a' b' c' d').a (slN a' b' c' d').b (slN a' b' c' d').c (slN a' b' c' d').d (slN a' b' c' d').e (slN a' b' c' d').f <;>
  apply ex6 <;> first | rw [Zdj.nC9f_eq] | rw [Zdj.nR9f_eq] | skip
  all_goals try simp only [allE']
  all_goals repeat' (first
    | with_reducible refine ob_self ?_
    | with_reducible refine ob_true ?_
    | with_reducible refine ob_f ?_
    | (with_reducible refine nm_intro ?_; intro r hr; (first | rw [h1] at hr | rw [h2] at hr | skip); subst hr)
    | with_reducible refine br_no (by with_unfolding_all rfl) ?_
    | with_reducible refine br_yes (by with_unfolding_all rfl) ?_
    | with_reducible refine need_mk ?_ ?_
    | (with_reducible refine im_mk ?_; intro hq)
    | with_reducible refine And.intro ?_ ?_
    | with_reducible assumption
    | with_reducible exact mz0 | with_reducible exact mz0.m.dj | with_reducible exact mz_lh mz0 | with_reducible exact mz_li mz0
    | with_reducible exact u60 | with_reducible exact djA | with_reducible exact lhA | with_reducible exact liA | with_reducible exact rfl
    | with_reducible exact shn64 (by assumption) | with_reducible exact (shn32 (by assumption)).1 | with_reducible exact (shn32 (by assumption)).2
    | with_reducible refine mzk ?_ ?_ ?_ | exact rfl)

theorem al10t (h : MZ a b c d e f) (h' : MZ a' b' c' d' e' f') : ∃ r : SR, Zdj.nC10t g a b c d e f a' b' c' d' e' f' (· = r.v) ∧ Zdj.nR10t g a b c d e f a' b' c' d' e' f' (· = r.v) := by
  have v := mz_isv h
  have v' := mz_isv h'
  have dd := h.m.dj
  have dd' := h'.m.dj
  have lh := mz_lh h
  have lh' := mz_lh h'
  have li := mz_li h
  have li' := mz_li h'
  cases h1 : iso a b c d e f <;> cases h2 : iso a' b' c' d' e' f' <;>
  apply ex6 <;> first | rw [Zdj.nC10t_eq] | rw [Zdj.nR10t_eq] | skip
  all_goals try simp only [allE']
  all_goals repeat' (first
    | with_reducible refine ob_self ?_
    | with_reducible refine ob_true ?_
    | with_reducible refine ob_f ?_
    | (with_reducible refine nm_intro ?_; intro r hr; (first | rw [h1] at hr | rw [h2] at hr | skip); subst hr)
    | with_reducible refine br_no (by with_unfolding_all rfl) ?_
    | with_reducible refine br_yes (by with_unfolding_all rfl) ?_
    | with_reducible refine need_mk ?_ ?_
    | (with_reducible refine im_mk ?_; intro hq)
    | with_reducible refine And.intro ?_ ?_
    | with_reducible assumption
    | with_reducible exact mz0 | with_reducible exact mz0.m.dj | with_reducible exact mz_lh mz0 | with_reducible exact mz_li mz0
    | with_reducible exact u60 | with_reducible exact djA | with_reducible exact lhA | with_reducible exact liA | with_reducible exact rfl
    | with_reducible exact shn64 (by assumption) | with_reducible exact (shn32 (by assumption)).1 | with_reducible exact (shn32 (by assumption)).2
    | with_reducible refine mzk ?_ ?_ ?_ | exact rfl)

theorem al10f (h : MZ a b c d e f) (h' : MZ a' b' c' d' e' f') : ∃ r : SR, Zdj.nC10f g a b c d e f a' b' c' d' e' f' (· = r.v) ∧ Zdj.nR10f g a b c d e f a' b' c' d' e' f' (· = r.v) := by
  have mm := slN_M h.m
  have mm' := slN_M h'.m
  have m := sr_mz mm
  have m' := sr_mz mm'
  have v := mz_isv m
  have v' := mz_isv m'
  have dd := m.m.dj
  have dd' := m'.m.dj
  have lh := mz_lh m
  have lh' := mz_lh m'
  have li := mz_li m
  have li' := mz_li m'
  cases h1 : iso (slN a b c d).a (slN a b c d).b (slN a b c d).c (slN a b c d).d (slN a b c d).e (slN a b c d).f <;> cases h2 : iso (slN a' b' c' d').a (slN a' b' c' d').b (slN a' b' c' d').c (slN a' b' c' d').d (slN a' b' c' d').e (slN a' b' c' d').f <;>
  apply ex6 <;> first | rw [Zdj.nC10f_eq] | rw [Zdj.nR10f_eq] | skip
  all_goals try simp only [allE']
  all_goals repeat' (first
    | with_reducible refine ob_self ?_
    | with_reducible refine ob_true ?_
    | with_reducible refine ob_f ?_
    | (with_reducible refine nm_intro ?_; intro r hr; (first | rw [h1] at hr | rw [h2] at hr | skip); subst hr)
    | with_reducible refine br_no (by with_unfolding_all rfl) ?_
    | with_reducible refine br_yes (by with_unfolding_all rfl) ?_
    | with_reducible refine need_mk ?_ ?_
    | (with_reducible refine im_mk ?_; intro hq)
    | with_reducible refine And.intro ?_ ?_
    | with_reducible assumption
    | with_reducible exact mz0 | with_reducible exact mz0.m.dj | with_reducible exact mz_lh mz0 | with_reducible exact mz_li mz0
    | with_reducible exact u60 | with_reducible exact djA | with_reducible exact lhA | with_reducible exact liA | with_reducible exact rfl
    | with_reducible exact shn64 (by assumption) | with_reducible exact (shn32 (by assumption)).1 | with_reducible exact (shn32 (by assumption)).2
    | with_reducible refine mzk ?_ ?_ ?_ | exact rfl)

theorem al11t (h : MZ a b c d e f) (h' : MZ a' b' c' d' e' f') : ∃ r : SR, Zdj.nC11t g a b c d e f a' b' c' d' e' f' (· = r.v) ∧ Zdj.nR11t g a b c d e f a' b' c' d' e' f' (· = r.v) := by
  have v := mz_isv h
  have v' := mz_isv h'
  have dd := h.m.dj
  have dd' := h'.m.dj
  have lh := mz_lh h
  have lh' := mz_lh h'
  have li := mz_li h
  have li' := mz_li h'
  cases h1 : iso a b c d e f <;> cases h2 : iso a' b' c' d' e' f' <;>
  apply ex6 <;> first | rw [Zdj.nC11t_eq] | rw [Zdj.nR11t_eq] | skip
  all_goals try simp only [allE']
  all_goals repeat' (first
    | with_reducible refine ob_self ?_
    | with_reducible refine ob_true ?_
    | with_reducible refine ob_f ?_
    | (with_reducible refine nm_intro ?_; intro r hr; (first | rw [h1] at hr | rw [h2] at hr | skip); subst hr)
    | with_reducible refine br_no (by with_unfolding_all rfl) ?_
    | with_reducible refine br_yes (by with_unfolding_all rfl) ?_
    | with_reducible refine need_mk ?_ ?_
    | (with_reducible refine im_mk ?_; intro hq)
    | with_reducible refine And.intro ?_ ?_
    | with_reducible assumption
    | with_reducible exact mz0 | with_reducible exact mz0.m.dj | with_reducible exact mz_lh mz0 | with_reducible exact mz_li mz0
    | with_reducible exact u60 | with_reducible exact djA | with_reducible exact lhA | with_reducible exact liA | with_reducible exact rfl
    | with_reducible exact shn64 (by assumption) | with_reducible exact (shn32 (by assumption)).1 | with_reducible exact (shn32 (by assumption)).2
    | with_reducible refine mzk ?_ ?_ ?_ | exact rfl)

theorem al11f (h : MZ a b c d e f) (h' : MZ a' b' c' d' e' f') : ∃ r : SR, Zdj.nC11f g a b c d e f a' b' c' d' e' f' (· = r.v) ∧ Zdj.nR11f g a b c d e f a' b' c' d' e' f' (· = r.v) := by
  have mm := slN_M h.m
  have mm' := slN_M h'.m
  have m := sr_mz mm
  have m' := sr_mz mm'
  have v := mz_isv m
  have v' := mz_isv m'
  have dd := m.m.dj
  have dd' := m'.m.dj
  have lh := mz_lh m
  have lh' := mz_lh m'
  have li := mz_li m
  have li' := mz_li m'
  cases h1 : iso (slN a b c d).a (slN a b c d).b (slN a b c d).c (slN a b c d).d (slN a b c d).e (slN a b c d).f <;> cases h2 : iso (slN a' b' c' d').a (slN a' b' c' d').b (slN a' b' c' d').c (slN a' b' c' d').d (slN a' b' c' d').e (slN a' b' c' d').f <;>
  apply ex6 <;> first | rw [Zdj.nC11f_eq] | rw [Zdj.nR11f_eq] | skip
  all_goals try simp only [allE']
  all_goals repeat' (first
    | with_reducible refine ob_self ?_
    | with_reducible refine ob_true ?_
    | with_reducible refine ob_f ?_
    | (with_reducible refine nm_intro ?_; intro r hr; (first | rw [h1] at hr | rw [h2] at hr | skip); subst hr)
    | with_reducible refine br_no (by with_unfolding_all rfl) ?_
    | with_reducible refine br_yes (by with_unfolding_all rfl) ?_
    | with_reducible refine need_mk ?_ ?_
    | (with_reducible refine im_mk ?_; intro hq)
    | with_reducible refine And.intro ?_ ?_
    | with_reducible assumption
    | with_reducible exact mz0 | with_reducible exact mz0.m.dj | with_reducible exact mz_lh mz0 | with_reducible exact mz_li mz0
    | with_reducible exact u60 | with_reducible exact djA | with_reducible exact lhA | with_reducible exact liA | with_reducible exact rfl
    | with_reducible exact shn64 (by assumption) | with_reducible exact (shn32 (by assumption)).1 | with_reducible exact (shn32 (by assumption)).2
    | with_reducible refine mzk ?_ ?_ ?_ | exact rfl)

theorem al12t (h : MZ a b c d e f) (h' : MZ a' b' c' d' e' f') : ∃ r : SR, Zdj.nC12t g a b c d e f a' b' c' d' e' f' (· = r.v) ∧ Zdj.nR12t g a b c d e f a' b' c' d' e' f' (· = r.v) := by
  have v := mz_isv h
  have v' := mz_isv h'
  have dd := h.m.dj
  have dd' := h'.m.dj
  have lh := mz_lh h
  have lh' := mz_lh h'
  have li := mz_li h
  have li' := mz_li h'
  cases h1 : iso a b c d e f <;> cases h2 : iso a' b' c' d' e' f' <;>
  apply ex6 <;> first | rw [Zdj.nC12t_eq] | rw [Zdj.nR12t_eq] | skip
  all_goals try simp only [allE']
  all_goals repeat' (first
    | with_reducible refine ob_self ?_
    | with_reducible refine ob_true ?_
    | with_reducible refine ob_f ?_
    | (with_reducible refine nm_intro ?_; intro r hr; (first | rw [h1] at hr | rw [h2] at hr | skip); subst hr)
    | with_reducible refine br_no (by with_unfolding_all rfl) ?_
    | with_reducible refine br_yes (by with_unfolding_all rfl) ?_
    | with_reducible refine need_mk ?_ ?_
    | (with_reducible refine im_mk ?_; intro hq)
    | with_reducible refine And.intro ?_ ?_
    | with_reducible assumption
    | with_reducible exact mz0 | with_reducible exact mz0.m.dj | with_reducible exact mz_lh mz0 | with_reducible exact mz_li mz0
    | with_reducible exact u60 | with_reducible exact djA | with_reducible exact lhA | with_reducible exact liA | with_reducible exact rfl
    | with_reducible exact shn64 (by assumption) | with_reducible exact (shn32 (by assumption)).1 | with_reducible exact (shn32 (by assumption)).2
    | with_reducible refine mzk ?_ ?_ ?_ | exact rfl)

theorem al12f (h : MZ a b c d e f) (h' : MZ a' b' c' d' e' f') : ∃ r : SR, Zdj.nC12f g a b c d e f a' b' c' d' e' f' (· = r.v) ∧ Zdj.nR12f g a b c d e f a' b' c' d' e' f' (· = r.v) := by
  have mm := slN_M h.m
  have mm' := slN_M h'.m
  have m := sr_mz mm
  have m' := sr_mz mm'
  have v := mz_isv m
  have v' := mz_isv m'
  have dd := m.m.dj
  have dd' := m'.m.dj
  have lh := mz_lh m
  have lh' := mz_lh m'
  have li := mz_li m
  have li' := mz_li m'
  cases h1 : iso (slN a b c d).a (slN a b c d).b (slN a b c d).c (slN a b c d).d (slN a b c d).e (slN a b c d).f <;> cases h2 : iso (slN a' b' c' d').a (slN a' b' c' d').b (slN a' b' c' d').c (slN a' b' c' d').d (slN a' b' c' d').e (slN a' b' c' d').f <;>
  cases h3 : decide ((slN a b c d).d < 2147483648) <;>
  apply ex6 <;> first | rw [Zdj.nC12f_eq] | rw [Zdj.nR12f_eq] | skip
  all_goals try simp only [allE']
  all_goals repeat' (first
    | with_reducible refine ob_self ?_
    | with_reducible refine ob_true ?_
    | with_reducible refine ob_f ?_
    | (with_reducible refine nm_intro ?_; intro r hr; (first | rw [h1] at hr | rw [h2] at hr | skip); subst hr)
    | with_reducible refine br_no (by with_unfolding_all rfl) ?_
    | with_reducible refine br_yes (by with_unfolding_all rfl) ?_
    | with_reducible refine need_mk ?_ ?_
    | (with_reducible refine im_mk ?_; intro hq)
    | with_reducible refine And.intro ?_ ?_
    | with_reducible assumption
    | with_reducible exact mz0 | with_reducible exact mz0.m.dj | with_reducible exact mz_lh mz0 | with_reducible exact mz_li mz0
    | with_reducible exact u60 | with_reducible exact djA | with_reducible exact lhA | with_reducible exact liA | with_reducible exact rfl
    | with_reducible exact shn64 (by assumption) | with_reducible exact (shn32 (by assumption)).1 | with_reducible exact (shn32 (by assumption)).2
    | with_reducible refine br_no h3 ?_
    | with_reducible refine br_yes h3 ?_
    | with_reducible refine mzk ?_ ?_ ?_ | exact rfl)
end
end Go.Proofs.YtceclodenhgoeaaGreat.Zdk
