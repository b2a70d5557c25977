/- Layer 5: what Norm comes to. -/
import Derived.Test.YtaplgollkkpnaaaQScO
namespace Go.Proofs.Ytaplgollkkpnaaa.ScP
open Go Go.RowKit Go.Proofs Go.Proofs.Ytaplgollkkpnaaa.Xc Go.Proofs.Ytaplgollkkpnaaa.Sc Go.Proofs.Ytaplgollkkpnaaa.ScS Go.Proofs.Ytaplgollkkpnaaa.ScG Go.Proofs.Ytaplgollkkpnaaa.ScM Go.Proofs.Ytaplgollkkpnaaa.ScO Go.Proofs.Ytaplgollkkpnaaa.Bv
set_option linter.unusedVariables false
def inS (a b c d e f v : Int) : Prop := tin a b v ∧ uin c d v ∧ sin e f v
/-- What may be. -/
structure MayS (a b c d e f : Int) : Prop where
  m : ap a b
  u : c ≤ d
  s : e ≤ f
  ra : uu a
  rb : uu b
  rc : uu c
  rd : uu d
  re : ss e
  rf : ss f
structure NormP (a b c d e f p q r s t u : Int) (ok : Bool) : Prop where
  i : ∀ v, uu v → inS a b c d e f v → ok = true ∧ inS p q r s t u v
  w : ok = true → (aN q b = 0 ∧ aN p b = a ∧ c ≤ r ∧ s ≤ d ∧ e ≤ t ∧ u ≤ f) ∧ MayS p q r s t u
  n : ok = false → p = 0 ∧ q = 0 ∧ r = 0 ∧ s = 0 ∧ t = 0 ∧ u = 0
theorem meet_no {a b c d r1 r2 : Int} {r : Bool} (hr : r = decide (max a c ≤ min b d)) (h : (!r) = true) : ∀ v, a ≤ v ∧ v ≤ b → c ≤ v ∧ v ≤ d → False := by
  intro v h1 h2
  have : r = false := by simpa using h
  rw [this] at hr
  have := of_decide_eq_false hr.symm
  omega
theorem meet_yes {a b c d r1 r2 : Int} {r : Bool} (hr : r = decide (max a c ≤ min b d)) (h1 : r1 = bif r then max a c else 0) (h2 : r2 = bif r then min b d else 0) (h : (!r) = false) : r1 = max a c ∧ r2 = min b d ∧ r1 ≤ r2 := by
  have : r = true := by simpa using h
  subst this
  have := of_decide_eq_true hr.symm
  simp only [cond_true] at h1 h2
  omega
/-- One round of Norm, on: what one has before and behind. -/
structure Rnd (a b c d e f p q r s t u : Int) : Prop where
  i : ∀ v, uu v → inS a b c d e f v → inS p q r s t u v
  w : aN q b = 0 ∧ aN p b = a ∧ c ≤ r ∧ s ≤ d ∧ e ≤ t ∧ u ≤ f
  m : MayS p q r s t u
section
variable {a b c d e f x0 x1 x2 x3 x4 x5 x6 x7 y0 y1 c1 d1 c2 d2 e1 f1 e2 f2 p q : Int}
theorem rnd_fin (M : MayS a b c d e f) (F : FromTP a b x0 x1 x2 x3) (G : ToUP e f x4 x5) (k1 : c1 = max c x4 ∧ d1 = min d x5 ∧ c1 ≤ d1) (k2 : c2 = max c1 x0 ∧ d2 = min d1 x1 ∧ c2 ≤ d2) (Hs : ToSP c2 d2 x6 x7)
    (k3 : e1 = max e x6 ∧ f1 = min f x7 ∧ e1 ≤ f1) (k4 : e2 = max e1 x2 ∧ f2 = min f1 x3 ∧ e2 ≤ f2) (J : ToTP c2 d2 y0 y1) (Q : TMeetP a b y0 y1 p q true) : Rnd a b c d e f p q c2 d2 e2 f2 := by
  obtain ⟨_, u0, u1, _, s2, s3⟩ := F.m M.m M.ra M.rb
  obtain ⟨_, u4, u5⟩ := G.m M.re M.rf M.s
  have hc := M.rc; have hd := M.rd; have he := M.re; have hf := M.rf
  have uc2 : uu c2 := by unfold uu at *; omega
  have ud2 : uu d2 := by unfold uu at *; omega
  obtain ⟨_, s6, s7⟩ := Hs.m uc2 ud2 k2.2.2
  have se2 : ss e2 := by unfold ss at *; omega
  have sf2 : ss f2 := by unfold ss at *; omega
  obtain ⟨w1, w2, w3, w4, w5⟩ := Q.w M.m J.m.1 rfl
  refine ⟨fun v hv hi => ?_, ⟨w1, w2, by omega, by omega, by omega, by omega⟩, ⟨w3, k2.2.2, k4.2.2, w4, w5, uc2, ud2, se2, sf2⟩⟩
  obtain ⟨t, u, z⟩ := hi
  obtain ⟨g1, g2⟩ := F.s v hv t
  have g3 := G.s he hf v hv z
  have g4 : uin c2 d2 v := by unfold uin at *; omega
  have g5 := Hs.s v hv g4
  have g6 : sin e2 f2 v := by unfold sin at *; omega
  exact ⟨(Q.s v hv t (J.s uc2 ud2 v hv g4)).2, g4, g6⟩
end
theorem sub_trans {x y z : Int} (h1 : aN x y = 0) (h2 : aN y z = 0) : aN x z = 0 := by
  rw [← ScX.aN_sub x y z h2, h1]
  simp only [aN, b_andNot]
  rw [show (0 : Int) = U 0#64 from rfl, ofInt_U]; congr 1; simp
theorem rNorm (a b c d e f : Int) (K : Value → Prop) (M : MayS a b c d e f) (h : ∀ p q r s t u ok, NormP a b c d e f p q r s t u ok → K (.tuple #[Sc p q r s t u, .bool ok])) : nNorm a b c d e f K := by
  have no : (∀ v, uu v → inS a b c d e f v → False) → K (.tuple #[Sc 0 0 0 0 0 0, .bool false]) := fun hn =>
    h 0 0 0 0 0 0 false ⟨fun v hv hi => (hn v hv hi).elim, fun h => (by cases h), fun _ => ⟨rfl, rfl, rfl, rfl, rfl, rfl⟩⟩
  rw [nNorm_eq]
  refine fun xa0 xa1 xa2 xa3 Fa => ob_self fun xa4 xa5 Ga r hr c1a hc1 d1a hd1 => br_cases (fun q => no fun v hv hi => meet_no (r1 := 0) (r2 := 0) hr q v hi.2.1 (Ga.s M.re M.rf v hv hi.2.2)) fun q => ?_
  have k1a := meet_yes hr hc1 hd1 q
  clear hr hc1 hd1 q
  have i1a : ∀ v, uu v → inS a b c d e f v → uin c1a d1a v := fun v hv hi => by
    have g3 := Ga.s M.re M.rf v hv hi.2.2
    have g4 := hi.2.1
    unfold uin at *; omega
  refine ob_self fun r2 hr c2a hc2 d2a hd2 => br_cases (fun q => no fun v hv hi => meet_no (r1 := 0) (r2 := 0) hr q v (i1a v hv hi) (Fa.s v hv hi.1).1) fun q => ?_
  have k2a := meet_yes hr hc2 hd2 q
  clear hr hc2 hd2 q
  have i2a : ∀ v, uu v → inS a b c d e f v → uin c2a d2a v := fun v hv hi => by
    have g3 := i1a v hv hi
    have g4 := (Fa.s v hv hi.1).1
    unfold uin at *; omega
  refine ob_self fun xa6 xa7 Ha r3 hr e1a he1 f1a hf1 => br_cases (fun q => no fun v hv hi => meet_no (r1 := 0) (r2 := 0) hr q (sw v) hi.2.2 (Ha.s v hv (i2a v hv hi))) fun q => ?_
  have k3a := meet_yes hr he1 hf1 q
  clear hr he1 hf1 q
  have i3a : ∀ v, uu v → inS a b c d e f v → sin e1a f1a v := fun v hv hi => by
    have g3 := Ha.s v hv (i2a v hv hi)
    have g4 := hi.2.2
    unfold sin at *; omega
  refine ob_self fun r4 hr e2a he2 f2a hf2 => br_cases (fun q => no fun v hv hi => meet_no (r1 := 0) (r2 := 0) hr q (sw v) (i3a v hv hi) (Fa.s v hv hi.1).2) fun q => ?_
  have k4a := meet_yes hr he2 hf2 q
  clear hr he2 hf2 q
  have uu2a : uu c2a ∧ uu d2a := by
    obtain ⟨_, u0, u1, _⟩ := Fa.m M.m M.ra M.rb
    obtain ⟨_, u4, u5⟩ := Ga.m M.re M.rf M.s
    have hc := M.rc; have hd := M.rd
    unfold uu at *; omega
  refine ob_self ⟨uu2a, fun y0a y1a Ja pa qa ok Qa => br_cases (fun q => no fun v hv hi => ?_) fun q => ?_⟩
  · have := (Qa.s v hv hi.1 (Ja.s uu2a.1 uu2a.2 v hv (i2a v hv hi))).1
    rw [this] at q; cases q
  have q : ok = true := by simpa using q
  subst q
  have R := rnd_fin M Fa Ga k1a k2a Ha k3a k4a Ja Qa
  refine fun xb0 xb1 xb2 xb3 Fb => ob_self fun xb4 xb5 Gb r hr c1b hc1 d1b hd1 => br_cases (fun q => no fun v hv hi => meet_no (r1 := 0) (r2 := 0) hr q v (R.i v hv hi).2.1 (Gb.s R.m.re R.m.rf v hv (R.i v hv hi).2.2)) fun q => ?_
  have k1b := meet_yes hr hc1 hd1 q
  clear hr hc1 hd1 q
  have i1b : ∀ v, uu v → inS a b c d e f v → uin c1b d1b v := fun v hv hi => by
    have g3 := Gb.s R.m.re R.m.rf v hv (R.i v hv hi).2.2
    have g4 := (R.i v hv hi).2.1
    unfold uin at *; omega
  refine ob_self fun r2 hr c2b hc2 d2b hd2 => br_cases (fun q => no fun v hv hi => meet_no (r1 := 0) (r2 := 0) hr q v (i1b v hv hi) (Fb.s v hv (R.i v hv hi).1).1) fun q => ?_
  have k2b := meet_yes hr hc2 hd2 q
  clear hr hc2 hd2 q
  have i2b : ∀ v, uu v → inS a b c d e f v → uin c2b d2b v := fun v hv hi => by
    have g3 := i1b v hv hi
    have g4 := (Fb.s v hv (R.i v hv hi).1).1
    unfold uin at *; omega
  refine ob_self fun xb6 xb7 Hb r3 hr e1b he1 f1b hf1 => br_cases (fun q => no fun v hv hi => meet_no (r1 := 0) (r2 := 0) hr q (sw v) (R.i v hv hi).2.2 (Hb.s v hv (i2b v hv hi))) fun q => ?_
  have k3b := meet_yes hr he1 hf1 q
  clear hr he1 hf1 q
  have i3b : ∀ v, uu v → inS a b c d e f v → sin e1b f1b v := fun v hv hi => by
    have g3 := Hb.s v hv (i2b v hv hi)
    have g4 := (R.i v hv hi).2.2
    unfold sin at *; omega
  refine ob_self fun r4 hr e2b he2 f2b hf2 => br_cases (fun q => no fun v hv hi => meet_no (r1 := 0) (r2 := 0) hr q (sw v) (i3b v hv hi) (Fb.s v hv (R.i v hv hi).1).2) fun q => ?_
  have k4b := meet_yes hr he2 hf2 q
  clear hr he2 hf2 q
  have uu2b : uu c2b ∧ uu d2b := by
    obtain ⟨_, u0, u1, _⟩ := Fb.m R.m.m R.m.ra R.m.rb
    obtain ⟨_, u4, u5⟩ := Gb.m R.m.re R.m.rf R.m.s
    have hc := R.m.rc; have hd := R.m.rd
    unfold uu at *; omega
  refine ob_self ⟨uu2b, fun y0b y1b Jb pb qb ok Qb => br_cases (fun q => no fun v hv hi => ?_) fun q => ?_⟩
  · have := (Qb.s v hv (R.i v hv hi).1 (Jb.s uu2b.1 uu2b.2 v hv (i2b v hv hi))).1
    rw [this] at q; cases q
  have q : ok = true := by simpa using q
  subst q
  have R2 := rnd_fin R.m Fb Gb k1b k2b Hb k3b k4b Jb Qb
  refine h _ _ _ _ _ _ true ⟨fun v hv hi => ⟨rfl, R2.i v hv (R.i v hv hi)⟩, fun _ => ⟨?_, R2.m⟩, fun h => by cases h⟩
  obtain ⟨w1, w2, w3, w4, w5, w6⟩ := R.w
  obtain ⟨z1, z2, z3, z4, z5, z6⟩ := R2.w
  refine ⟨?_, ?_, by omega, by omega, by omega, by omega⟩
  · exact sub_trans z1 w1
  · rw [← ScX.aN_sub pb qa b w1, z2, w2]
theorem meet_as {k : IntKind} (a b c d : Int) (K : Value → Prop) (h : ∀ r, r = decide (max a c ≤ min b d) → ∀ x, x = (bif r then max a c else 0) → ∀ y, y = (bif r then min b d else 0) → K (.tuple #[.agg #[.int k x, .int k y], .bool r])) :
    br (!decide (max a c ≤ min b d)) (K (Value.tuple #[.agg #[.int k 0, .int k 0], .bool false])) (K (Value.tuple #[.agg #[.int k (max a c), .int k (min b d)], .bool true])) := by
  by_cases q : max a c ≤ min b d
  · rw [decide_eq_true q]; have := h _ rfl _ rfl _ rfl; rw [decide_eq_true q] at this; exact this
  · rw [decide_eq_false q]; have := h _ rfl _ rfl _ rfl; rw [decide_eq_false q] at this; exact this
open Go.Proofs.Ytaplgollkkpnaaa.ScF in
theorem tn : TabOk Try.prog TN := by
  refine tab_run good (by kernel_rfl) (fun vs K h => ?_) (tab_runK good (by kernel_rfl) (fun vs K h => ?_) (tab_runK good (by kernel_rfl) (fun vs K h => ?_) (tab_run good (by kernel_rfl) (fun vs K h => ?_) (tab_run good (by kernel_rfl) (fun vs K h => ?_) (tab_runK good (by kernel_rfl) (fun vs K h => ?_) (tab_run good (by kernel_rfl) (fun vs K h => ?_) tab_nil))))))
  all_goals split at h
  all_goals try exact h.elim
  · rename_i a b
    obtain ⟨c, d, e, f, hP, o⟩ := oFromT a b
    unfold nFromT at o; exact ⟨_, h c d e f hP, [], EE, true, 90, tab_nil, ee, o⟩
  · rename_i a b c d
    refine ⟨[], EE, true, 90, tab_nil, ee, ?_⟩
    have o : nUMeet a b c d K := by rw [nUMeet_eq]; simp only [mn, mx]; exact meet_as a b c d K h
    unfold nUMeet at o; exact o
  · rename_i a b c d
    refine ⟨[], EE, true, 90, tab_nil, ee, ?_⟩
    have o : nSMeet a b c d K := by rw [nSMeet_eq]; simp only [mn, mx]; exact meet_as a b c d K h
    unfold nSMeet at o; exact o
  · rename_i e f
    obtain ⟨c, d, hP, o⟩ := oToU e f
    unfold nToU at o; exact ⟨_, h c d hP, [], EE, true, 90, tab_nil, ee, o⟩
  · rename_i c d
    obtain ⟨e, f, hP, o⟩ := oToS c d
    unfold nToS at o; exact ⟨_, h e f hP, [], EE, true, 90, tab_nil, ee, o⟩
  · rename_i c d
    obtain ⟨⟨hc, hd⟩, h⟩ := h
    have o := rToT c d K hc hd h
    unfold ScL.nToT at o; exact ⟨ScL.TT, EE, true, 90, tt, ee, o⟩
  · rename_i a b c d
    obtain ⟨v, m, ok, hP, o⟩ := oTMeet a b c d
    unfold nTMeet at o; exact ⟨_, h v m ok hP, [], EE, true, 90, tab_nil, ee, o⟩
end Go.Proofs.Ytaplgollkkpnaaa.ScP
