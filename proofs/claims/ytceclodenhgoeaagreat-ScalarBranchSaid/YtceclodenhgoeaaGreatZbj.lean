/- Layer 5, against the reference: Norm is the same on both sides. -/
import Derived.Test.YtceclodenhgoeaaGreatZbi
import Derived.Test.YtceclodenhgoeaaGreatZqc
namespace Go.Proofs.YtceclodenhgoeaaGreat.Zbj
open Go Go.RowKit Go.Proofs Go.Proofs.YtceclodenhgoeaaGreat.Xc Go.Proofs.YtceclodenhgoeaaGreat.Zs Go.Proofs.YtceclodenhgoeaaGreat.Zu Go.Proofs.YtceclodenhgoeaaGreat.Zv Go.Proofs.YtceclodenhgoeaaGreat.Zo Go.Proofs.YtceclodenhgoeaaGreat.Zq Go.Proofs.YtceclodenhgoeaaGreat.Zqa Go.Proofs.YtceclodenhgoeaaGreat.Zqb Go.Proofs.YtceclodenhgoeaaGreat.Zqc Go.Proofs.YtceclodenhgoeaaGreat.Zbc Go.Proofs.YtceclodenhgoeaaGreat.Zbf Go.Proofs.YtceclodenhgoeaaGreat.Zbh Go.Proofs.YtceclodenhgoeaaGreat.Zbi Go.Proofs.YtceclodenhgoeaaGreat.Bv
set_option linter.unusedVariables false
set_option linter.unusedSimpArgs false
/-- A scalar, or none. -/
structure NR where
  a : Int
  b : Int
  c : Int
  d : Int
  e : Int
  f : Int
  ok : Bool
def bad : NR := ⟨0, 0, 0, 0, 0, 0, false⟩
def stp (l h : Int) (k : Int → Int → NR) : NR := bif lei l h then k l h else bad
def stm (q : Bool) (v m : Int) (k : Int → Int → NR) : NR := bif q then k v m else bad
/-- Norm, once. -/
noncomputable def onceK (a b c d e f : Int) (k : Int → Int → Int → Int → Int → Int → NR) : NR :=
  stp (mxi c (tuL e f)) (mni d (tuH e f)) fun l1 h1 =>
  stp (mxi l1 a) (mni h1 (fuH a b)) fun l2 h2 =>
  stp (mxi e (tsL l2 h2)) (mni f (tsH l2 h2)) fun l3 h3 =>
  stp (mxi l3 (fsL a b)) (mni h3 (fsH a b)) fun l4 h4 =>
  stm (meO a b (ttV l2 h2) (ttM l2 h2)) (meV a b (ttV l2 h2) (ttM l2 h2)) (meM a b (ttV l2 h2) (ttM l2 h2)) fun v m => k v m l2 h2 l4 h4
noncomputable def nz (a b c d e f : Int) : NR := onceK a b c d e f fun a b c d e f => onceK a b c d e f fun a b c d e f => ⟨a, b, c, d, e, f, true⟩
def mkV (r : NR) : Value := .tuple #[Sc r.a r.b r.c r.d r.e r.f, .bool r.ok]
theorem st_p {l h : Int} {k : Int → Int → NR} {K : Value → Prop} {A B : Int → Int → Prop} (hh : K (mkV (stp l h k))) (h1 : ∀ r s, r = l → s = h → lei r s = true → K (mkV (k r s)) → A r s) (h2 : K (mkV bad) → ∀ r s, B r s) : nm l fun r => nm h fun s => br (lei r s) (A r s) (B r s) := fun r hr s hs => by
  subst hr; subst hs
  unfold stp at hh
  refine br_cases (fun q => ?_) (fun q => ?_)
  · rw [q] at hh; exact h1 _ _ rfl rfl q hh
  · rw [q] at hh; exact h2 hh _ _
theorem st_m {q : Bool} {v m : Int} {k : Int → Int → NR} {K : Value → Prop} {A B : Int → Int → Prop} (hh : K (mkV (stm q v m k))) (h1 : ∀ r s, r = v → s = m → K (mkV (k r s)) → A r s) (h2 : K (mkV bad) → ∀ r s, B r s) : nm v fun r => nm m fun s => br q (A r s) (B r s) := fun r hr s hs => by
  subst hr; subst hs
  unfold stm at hh
  refine br_cases (fun q => ?_) (fun q => ?_)
  · rw [q] at hh; exact h1 _ _ rfl rfl hh
  · rw [q] at hh; exact h2 hh _ _
theorem u6_mx {x y : Int} (h : u6 x) (k : u6 y) : u6 (mxi x y) := by unfold mxi u6 at *; omega
theorem u6_mn {x y : Int} (h : u6 x) (k : u6 y) : u6 (mni x y) := by unfold mni u6 at *; omega
theorem u6_w (x : Int) : u6 (IntKind.wrap .u64 x) := by rw [uW]; unfold u6; omega
theorem u6_tuL (a b : Int) : u6 (tuL a b) := by
  unfold tuL; split
  · unfold u6; omega
  · exact u6_w _
theorem u6_tuH (a b : Int) : u6 (tuH a b) := by
  unfold tuH; split
  · unfold u6; omega
  · exact u6_w _
theorem le_of {a b : Int} (h : lei a b = true) : a ≤ b := of_decide_eq_true h
theorem dj_tt {a b : Int} (h : u6 a) (k : u6 b) : dj (ttV a b) (ttM a b) := by
  obtain ⟨A, rfl⟩ := exu h
  obtain ⟨B, rfl⟩ := exu k
  exact tt_dj A B
theorem oN1 {a b c d e f : Int} {K : Value → Prop} (hd : dj a b) (hc : u6 c) (hu : u6 d) (hef : e ≤ f) (hh : K (mkV (nz a b c d e f))) : nN1 a b c d e f K := by
  rw [nN1_eq]
  unfold nz onceK at hh
  refine ⟨hd, ob_self ⟨hef, st_p hh (fun l1 h1 el1 eh1 qa1 hh => ?_) (fun hh _ _ => hh)⟩⟩
  refine ob_self (st_p hh (fun m1 g1 em1 eg1 qb1 hh => ?_) (fun hh _ _ => hh))
  have u1 : u6 m1 := by subst em1; subst el1; exact u6_mx (u6_mx hc (u6_tuL _ _)) (dj_u hd).1
  have v1 : u6 g1 := by subst eg1; subst eh1; exact u6_mn (u6_mn hu (u6_tuH _ _)) (u6_w _)
  refine ob_self ⟨⟨⟨u1, v1⟩, le_of qb1⟩, st_p hh (fun s1 t1 es1 et1 qc1 hh => ?_) (fun hh _ _ => hh)⟩
  refine ob_self (st_p hh (fun x1 y1 ex1 ey1 qd1 hh => ?_) (fun hh _ _ => hh))
  refine ob_self ⟨⟨u1, v1⟩, ⟨hd, dj_tt u1 v1⟩, st_m hh (fun z1 w1 ez1 ew1 hh => ?_) (fun hh _ _ => hh)⟩
  have hd2 : dj z1 w1 := by subst ez1; subst ew1; exact (me_dj hd (dj_tt u1 v1)).1
  unfold onceK at hh
  refine ⟨hd2, ob_self ⟨(le_of qd1), st_p hh (fun l2 h2 el2 eh2 qa2 hh => ?_) (fun hh _ _ => hh)⟩⟩
  refine ob_self (st_p hh (fun m2 g2 em2 eg2 qb2 hh => ?_) (fun hh _ _ => hh))
  have u2 : u6 m2 := by subst em2; subst el2; exact u6_mx (u6_mx u1 (u6_tuL _ _)) (dj_u hd2).1
  have v2 : u6 g2 := by subst eg2; subst eh2; exact u6_mn (u6_mn v1 (u6_tuH _ _)) (u6_w _)
  refine ob_self ⟨⟨⟨u2, v2⟩, le_of qb2⟩, st_p hh (fun s2 t2 es2 et2 qc2 hh => ?_) (fun hh _ _ => hh)⟩
  refine ob_self (st_p hh (fun x2 y2 ex2 ey2 qd2 hh => ?_) (fun hh _ _ => hh))
  refine ob_self ⟨⟨u2, v2⟩, ⟨hd2, dj_tt u2 v2⟩, st_m hh (fun z2 w2 ez2 ew2 hh => ?_) (fun hh _ _ => hh)⟩
  exact hh
theorem oN2 {a b c d e f : Int} {K : Value → Prop} (hd : dj a b) (hc : u6 c) (hu : u6 d) (hef : e ≤ f) (hh : K (mkV (nz a b c d e f))) : nN2 a b c d e f K := by
  rw [nN2_eq]
  unfold nz onceK at hh
  refine ⟨hef, st_p hh (fun l1 h1 el1 eh1 qa1 hh => ?_) (fun hh _ _ => hh)⟩
  refine ⟨hd, st_p hh (fun m1 g1 em1 eg1 qb1 hh => ?_) (fun hh _ _ => hh)⟩
  have u1 : u6 m1 := by subst em1; subst el1; exact u6_mx (u6_mx hc (u6_tuL _ _)) (dj_u hd).1
  have v1 : u6 g1 := by subst eg1; subst eh1; exact u6_mn (u6_mn hu (u6_tuH _ _)) (u6_w _)
  refine ⟨⟨⟨u1, v1⟩, le_of qb1⟩, st_p hh (fun s1 t1 es1 et1 qc1 hh => ?_) (fun hh _ _ => hh)⟩
  refine st_p hh (fun x1 y1 ex1 ey1 qd1 hh => ?_) (fun hh _ _ => hh)
  refine ⟨⟨u1, v1⟩, ⟨hd, dj_tt u1 v1⟩, st_m hh (fun z1 w1 ez1 ew1 hh => ?_) (fun hh _ _ => hh)⟩
  have hd2 : dj z1 w1 := by subst ez1; subst ew1; exact (me_dj hd (dj_tt u1 v1)).1
  unfold onceK at hh
  refine ⟨(le_of qd1), st_p hh (fun l2 h2 el2 eh2 qa2 hh => ?_) (fun hh _ _ => hh)⟩
  refine ⟨hd2, st_p hh (fun m2 g2 em2 eg2 qb2 hh => ?_) (fun hh _ _ => hh)⟩
  have u2 : u6 m2 := by subst em2; subst el2; exact u6_mx (u6_mx u1 (u6_tuL _ _)) (dj_u hd2).1
  have v2 : u6 g2 := by subst eg2; subst eh2; exact u6_mn (u6_mn v1 (u6_tuH _ _)) (u6_w _)
  refine ⟨⟨⟨u2, v2⟩, le_of qb2⟩, st_p hh (fun s2 t2 es2 et2 qc2 hh => ?_) (fun hh _ _ => hh)⟩
  refine st_p hh (fun x2 y2 ex2 ey2 qd2 hh => ?_) (fun hh _ _ => hh)
  refine ⟨⟨u2, v2⟩, ⟨hd2, dj_tt u2 v2⟩, st_m hh (fun z2 w2 ez2 ew2 hh => ?_) (fun hh _ _ => hh)⟩
  exact hh
end Go.Proofs.YtceclodenhgoeaaGreat.Zbj
