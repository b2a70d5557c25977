/- Layer 5: what Alu comes to. -/
import Derived.Test.YtaplgollkkpnaaaQScUh
namespace Go.Proofs.Ytaplgollkkpnaaa.ScUi
open Go Go.RowKit Go.Proofs Go.Proofs.Ytaplgollkkpnaaa.Xc Go.Proofs.Ytaplgollkkpnaaa.Sc Go.Proofs.Ytaplgollkkpnaaa.ScS Go.Proofs.Ytaplgollkkpnaaa.ScG Go.Proofs.Ytaplgollkkpnaaa.ScP Go.Proofs.Ytaplgollkkpnaaa.ScO Go.Proofs.Ytaplgollkkpnaaa.ScQ Go.Proofs.Ytaplgollkkpnaaa.ScR Go.Proofs.Ytaplgollkkpnaaa.ScUa Go.Proofs.Ytaplgollkkpnaaa.ScUc Go.Proofs.Ytaplgollkkpnaaa.ScUd Go.Proofs.Ytaplgollkkpnaaa.ScUe Go.Proofs.Ytaplgollkkpnaaa.ScUf Go.Proofs.Ytaplgollkkpnaaa.ScUg Go.Proofs.Ytaplgollkkpnaaa.ScUh Go.Proofs.Ytaplgollkkpnaaa.ScV Go.Proofs.Ytaplgollkkpnaaa.ScY Go.Proofs.Ytaplgollkkpnaaa.Bv
set_option linter.unusedVariables false
set_option linter.unusedSimpArgs false
theorem bits_or_u (a b : Int) : uu (Go.bits .or .u64 a b) ∧ uu (Go.bits .and .u64 a b) ∧ uu (Go.bits .xor .u64 a b) := by
  rw [b_or, b_and, b_xor]; exact ⟨uu_U _, uu_U _, uu_U _⟩
theorem rm_u {x y : Int} (hx : uu x) (hy : uu y) : uu (rm x y) := by
  unfold rm; split
  · exact hx
  · have h1 := Int.emod_nonneg x (by assumption)
    have h2 := Int.emod_lt_of_pos x (show 0 < y by unfold uu at hy; omega)
    unfold uu at *; omega
theorem uu_div {x : Int} (n : Nat) (hx : uu x) : uu (x / 2 ^ n) := by
  have hp : (0 : Int) < 2 ^ n := Int.pow_pos (by decide)
  have h1 := Int.ediv_nonneg hx.1 (Int.le_of_lt hp)
  have h2 := Int.ediv_le_self (2 ^ n) hx.1
  have := hx.2
  exact ⟨h1, by omega⟩
theorem uu_ite {p : Prop} [Decidable p] {x y : Int} (h1 : uu x) (h2 : uu y) : uu (if p then x else y) := by split <;> assumption
theorem fop_u (op : Int) (n : Nat) {x y : Int} (hx : uu x) (hy : uu y) : uu (fop op n x y) := by
  have z : uu 0 := by unfold uu; omega
  obtain ⟨b1, b2, b3⟩ := bits_or_u x y
  unfold fop
  repeat' (with_reducible apply uu_ite)
  all_goals first | exact uu_uw _ | exact qt_u hx hy | exact rm_u hx hy | exact b1 | exact b2 | exact b3 | exact uu_div n hx | exact hy | exact z
theorem wal_u (op : Int) (wide : Bool) {x y : Int} (hx : uu x) (hy : uu y) : uu (wal op wide x y) := by
  cases wide with
  | true => exact fop_u op _ hx hy
  | false =>
    show uu (if op = 12 then _ else _)
    split
    · exact uu_sar _ _
    · unfold uu; omega
theorem cut_u (wide : Bool) {x : Int} (hx : uu x) : uu (cut wide x) := by
  cases wide with
  | true => exact hx
  | false => show uu (x % 4294967296); unfold uu; omega
theorem wal_cut (op : Int) (wide : Bool) (x y : Int) : wal op wide (cut wide x) (cut wide y) = wal op wide x y := by
  cases wide with
  | true => rfl
  | false =>
    have e1 : ∀ z : Int, z % 4294967296 % 4294967296 = z % 4294967296 := fun z => by omega
    have e2 : y % 4294967296 % 32 = y % 32 := by omega
    show (if op = 12 then sar32 (y % 4294967296 % 32).toNat (x % 4294967296) else fop op (y % 4294967296 % 32).toNat (x % 4294967296 % 4294967296) (y % 4294967296 % 4294967296) % 4294967296) = (if op = 12 then sar32 (y % 32).toNat x else fop op (y % 32).toNat (x % 4294967296) (y % 4294967296) % 4294967296)
    rw [e1, e1, e2, sar_mod]
/-- A scalar of one number. -/
structure OfP (n p q r s t u : Int) : Prop where
  e : p = n ∧ q = 0 ∧ r = n ∧ s = n ∧ t = sw n ∧ u = sw n
theorem of_in {n : Int} (hn : uu n) : inS n 0 n n (sw n) (sw n) n ∧ MayS n 0 n n (sw n) (sw n) := by
  have z : uu 0 := by unfold uu; omega
  have k := aNz hn
  exact ⟨⟨k, ⟨Int.le_refl _, Int.le_refl _⟩, Int.le_refl _, Int.le_refl _⟩, k, Int.le_refl _, Int.le_refl _, hn, z, hn, hn, ss_sw n, ss_sw n⟩
section
variable {op : Int} {wide : Bool} {a b c d e f a' b' c' d' e' f' : Int}
/-- Both are known. -/
theorem alu_one {v w : Int} (hv : uu v) (hw : uu w) (h : ∀ x y, uu x → uu y → inS a b c d e f x → inS a' b' c' d' e' f' y → wal op wide x y = wal op wide v w) :
    AluP op wide a b c d e f a' b' c' d' e' f' (wal op wide v w) 0 (wal op wide v w) (wal op wide v w) (sw (wal op wide v w)) (sw (wal op wide v w)) :=
  ⟨fun x y hx hy hi hj => by rw [h x y hx hy hi hj]; exact (of_in (wal_u op wide hv hw)).1, (of_in (wal_u op wide hv hw)).2, fun _ _ x y hx hy hi hj => by
    rw [h x y hx hy hi hj]; exact ⟨rfl, rfl, rfl, rfl, rfl, rfl⟩⟩
/-- Else. -/
theorem alu_more {p q r s t u : Int} (hi : ∀ x y, uu x → uu y → inS a b c d e f x → inS a' b' c' d' e' f' y → inS p q r s t u (wal op wide x y)) (hm : MayS p q r s t u)
    (ho : c = d → c' = d' → ∀ x y, uu x → uu y → inS a b c d e f x → inS a' b' c' d' e' f' y → False) : AluP op wide a b c d e f a' b' c' d' e' f' p q r s t u :=
  ⟨hi, hm, fun h1 h2 x y hx hy k1 k2 => (ho h1 h2 x y hx hy k1 k2).elim⟩
theorem set_id (M : MayS a b c d e f) : SetP true a b c d e f a b c d e f := ⟨fun x _ hi => hi, M, fun e x hx hi => e⟩
end
theorem tokM {a b c d e f : Int} (M : MayS a b c d e f) : tok a b := ⟨M.ra, M.rb, M.m⟩
theorem uokM {a b c d e f : Int} (M : MayS a b c d e f) : uok c d := ⟨M.rc, M.rd, M.u⟩
theorem sokM {a b c d e f : Int} (M : MayS a b c d e f) : sok e f := ⟨M.re, M.rf, M.s⟩
/-- The parts of a plain operation. -/
structure PaP (f : Int → Int → Int) (a b c d e g a' b' c' d' e' g' p q r s t u : Int) : Prop where
  i : ∀ x y, uu x → uu y → inS a b c d e g x → inS a' b' c' d' e' g' y → inS p q r s t u (f x y)
  m : MayS p q r s t u
section
variable {f : Int → Int → Int} {a b c d e g a' b' c' d' e' g' v m l h sl sh : Int}
theorem pa (M : MayS a b c d e g) (M' : MayS a' b' c' d' e' g') (hT : (∀ x y, uu x → uu y → tin a b x → tin a' b' y → tin v m (f x y)) ∧ ap v m ∧ uu v ∧ uu m) (hU : (∀ x y, uu x → uu y → uin c d x → uin c' d' y → uin l h (f x y)) ∧ l ≤ h ∧ uu l ∧ uu h)
    (hS : (∀ x y, uu x → uu y → sin e g x → sin e' g' y → sin sl sh (f x y)) ∧ sl ≤ sh ∧ ss sl ∧ ss sh) : PaP f a b c d e g a' b' c' d' e' g' v m l h sl sh :=
  ⟨fun x y hx hy hi hj => ⟨hT.1 x y hx hy hi.1 hj.1, hU.1 x y hx hy hi.2.1 hj.2.1, hS.1 x y hx hy hi.2.2 hj.2.2⟩, hT.2.1, hU.2.1, hS.2.1, hT.2.2.1, hT.2.2.2, hU.2.2.1, hU.2.2.2, hS.2.2.1, hS.2.2.2⟩
theorem paT (H : TOp f a b a' b' v m) : (∀ x y, uu x → uu y → tin a b x → tin a' b' y → tin v m (f x y)) ∧ ap v m ∧ uu v ∧ uu m := ⟨H.s, H.m⟩
theorem paT0 : (∀ x y, uu x → uu y → tin a b x → tin a' b' y → tin 0 18446744073709551615 (f x y)) ∧ ap 0 18446744073709551615 ∧ uu 0 ∧ uu 18446744073709551615 := ⟨fun x y _ _ _ _ => tin_all _, may_any.m, may_any.ra, may_any.rb⟩
theorem paU (M : MayS a b c d e g) (M' : MayS a' b' c' d' e' g') (H : UOp f c d c' d' l h) : (∀ x y, uu x → uu y → uin c d x → uin c' d' y → uin l h (f x y)) ∧ l ≤ h ∧ uu l ∧ uu h := ⟨H.s, H.m M.rc M.rd M'.rc M'.rd M.u M'.u⟩
theorem paU0 (hf : ∀ x y, uu x → uu y → uu (f x y)) : (∀ x y, uu x → uu y → uin c d x → uin c' d' y → uin 0 18446744073709551615 (f x y)) ∧ (0 : Int) ≤ 18446744073709551615 ∧ uu 0 ∧ uu 18446744073709551615 := ⟨fun x y hx hy _ _ => uin_all (hf x y hx hy), may_any.u, may_any.rc, may_any.rd⟩
theorem paS (M : MayS a b c d e g) (M' : MayS a' b' c' d' e' g') (H : SOp f e g e' g' sl sh) : (∀ x y, uu x → uu y → sin e g x → sin e' g' y → sin sl sh (f x y)) ∧ sl ≤ sh ∧ ss sl ∧ ss sh := ⟨H.s M.re M.rf M'.re M'.rf, H.m M.re M.rf M'.re M'.rf M.s M'.s⟩
theorem paS0 : (∀ x y, uu x → uu y → sin e g x → sin e' g' y → sin (-9223372036854775808) 9223372036854775807 (f x y)) ∧ (-9223372036854775808 : Int) ≤ 9223372036854775807 ∧ ss (-9223372036854775808) ∧ ss 9223372036854775807 := ⟨fun x y _ _ _ _ => sin_all _, may_any.s, may_any.re, may_any.rf⟩
end
theorem f_uu (op : Int) : ∀ x y, uu x → uu y → uu (fop op 0 x y) := fun x y hx hy => fop_u op 0 hx hy
theorem wal_plain {op : Int} (wide : Bool) (h : op = 0 ∨ op = 1 ∨ op = 2 ∨ op = 3 ∨ op = 4 ∨ op = 5 ∨ op = 9 ∨ op = 10) (x y : Int) : wal op wide x y = cut wide (fop op 0 (cut wide x) (cut wide y)) := by
  rcases h with rfl | rfl | rfl | rfl | rfl | rfl | rfl | rfl <;> cases wide <;> rfl
theorem rA0t (a b c d e f a' b' c' d' e' f' : Int) (K : Value → Prop) (M : MayS a b c d e f) (M' : MayS a' b' c' d' e' f') (h : ∀ p q r s t u, AluP 0 true a b c d e f a' b' c' d' e' f' p q r s t u → K (Sc p q r s t u)) : nA0t a b c d e f a' b' c' d' e' f' K := by
  rw [nA0t_eq]
  refine ⟨⟨may_any.ra, may_any.ra, rfl⟩, fun _ _ => ?_⟩
  have hA := set_id M
  have hB := set_id M'
  intro v one hI w two hJ
  (repeat (first | refine ob_self ?_ | refine ob_true ?_ | (refine nm_intro ?_; intro _ _)))
  rename_i g1 hg1 g2 hg2 g3 hg3
  have hg : g3 = true → one = true ∧ two = true := fun e => by subst hg1; subst hg2; rw [e] at hg3; cases one <;> cases two <;> first | exact ⟨rfl, rfl⟩ | cases hg3
  have hg' : one = true → two = true → g3 = true := fun e1 e2 => by subst e1; subst e2; subst hg1; subst hg2; exact hg3
  refine br_cases (fun k => ?_) (fun k => ?_)
  · have hv := hI.r hA.m.ra hA.m.rc
    have hw := hJ.r hB.m.ra hB.m.rc
    refine ⟨⟨hv, hw, rfl⟩, fun n hn => ?_⟩
    subst hn
    refine h _ _ _ _ _ _ (alu_one hv hw fun x y hx hy hi hj => ?_)
    have e1 := hI.i (hg k).1 _ (cut_u true hx) (hA.i x hx hi)
    have e2 := hJ.i (hg k).2 _ (cut_u true hy) (hB.i y hy hj)
    rw [← e1, ← e2, wal_cut]
  · refine ⟨⟨tokM hA.m, tokM hB.m⟩, fun xT1 xT2 hT => ?_⟩
    refine ⟨⟨uokM hA.m, uokM hB.m⟩, fun xU1 xU2 hU => ?_⟩
    refine ⟨⟨sokM hA.m, sokM hB.m⟩, fun xS1 xS2 hS => ?_⟩
    have P := pa (f := fop 0 0) hA.m hB.m (paT hT) (paU hA.m hB.m hU) (paS hA.m hB.m hS)
    refine ⟨P.m, fun p q r s t u hC => h _ _ _ _ _ _ (alu_more (fun x y hx hy hi hj => ?_) hC.m fun e1 e2 x y hx hy hi hj => ?_)⟩
    · rw [wal_plain true (by decide)]
      exact hC.i _ (f_uu 0 _ _ (cut_u true hx) (cut_u true hy)) (P.i _ _ (cut_u true hx) (cut_u true hy) (hA.i x hx hi) (hB.i y hy hj))
    · have k1 := (hI.l (hA.o e1 x hx hi)).1
      have k2 := (hJ.l (hB.o e2 y hy hj)).1
      rw [hg' k1 k2] at k; cases k
theorem rA0f (a b c d e f a' b' c' d' e' f' : Int) (K : Value → Prop) (M : MayS a b c d e f) (M' : MayS a' b' c' d' e' f') (h : ∀ p q r s t u, AluP 0 false a b c d e f a' b' c' d' e' f' p q r s t u → K (Sc p q r s t u)) : nA0f a b c d e f a' b' c' d' e' f' K := by
  rw [nA0f_eq]
  refine ⟨⟨may_any.ra, may_any.ra, rfl⟩, fun _ _ => ?_⟩
  refine ⟨M, fun p1 q1 r1 s1 t1 u1 hA => ⟨M', fun p2 q2 r2 s2 t2 u2 hB => ?_⟩⟩
  intro v one hI w two hJ
  (repeat (first | refine ob_self ?_ | refine ob_true ?_ | (refine nm_intro ?_; intro _ _)))
  rename_i g1 hg1 g2 hg2 g3 hg3
  have hg : g3 = true → one = true ∧ two = true := fun e => by subst hg1; subst hg2; rw [e] at hg3; cases one <;> cases two <;> first | exact ⟨rfl, rfl⟩ | cases hg3
  have hg' : one = true → two = true → g3 = true := fun e1 e2 => by subst e1; subst e2; subst hg1; subst hg2; exact hg3
  refine br_cases (fun k => ?_) (fun k => ?_)
  · have hv := hI.r hA.m.ra hA.m.rc
    have hw := hJ.r hB.m.ra hB.m.rc
    refine ⟨⟨hv, hw, rfl⟩, fun n hn => ?_⟩
    subst hn
    refine h _ _ _ _ _ _ (alu_one hv hw fun x y hx hy hi hj => ?_)
    have e1 := hI.i (hg k).1 _ (cut_u false hx) (hA.i x hx hi)
    have e2 := hJ.i (hg k).2 _ (cut_u false hy) (hB.i y hy hj)
    rw [← e1, ← e2, wal_cut]
  · refine ⟨⟨tokM hA.m, tokM hB.m⟩, fun xT1 xT2 hT => ?_⟩
    refine ⟨⟨uokM hA.m, uokM hB.m⟩, fun xU1 xU2 hU => ?_⟩
    refine ⟨⟨sokM hA.m, sokM hB.m⟩, fun xS1 xS2 hS => ?_⟩
    have P := pa (f := fop 0 0) hA.m hB.m (paT hT) (paU hA.m hB.m hU) (paS hA.m hB.m hS)
    refine ⟨P.m, fun p q r s t u hC => h _ _ _ _ _ _ (alu_more (fun x y hx hy hi hj => ?_) hC.m fun e1 e2 x y hx hy hi hj => ?_)⟩
    · rw [wal_plain false (by decide)]
      exact hC.i _ (f_uu 0 _ _ (cut_u false hx) (cut_u false hy)) (P.i _ _ (cut_u false hx) (cut_u false hy) (hA.i x hx hi) (hB.i y hy hj))
    · have k1 := (hI.l (hA.o e1 x hx hi)).1
      have k2 := (hJ.l (hB.o e2 y hy hj)).1
      rw [hg' k1 k2] at k; cases k
theorem rA1t (a b c d e f a' b' c' d' e' f' : Int) (K : Value → Prop) (M : MayS a b c d e f) (M' : MayS a' b' c' d' e' f') (h : ∀ p q r s t u, AluP 1 true a b c d e f a' b' c' d' e' f' p q r s t u → K (Sc p q r s t u)) : nA1t a b c d e f a' b' c' d' e' f' K := by
  rw [nA1t_eq]
  refine ⟨⟨may_any.ra, may_any.ra, rfl⟩, fun _ _ => ?_⟩
  have hA := set_id M
  have hB := set_id M'
  intro v one hI w two hJ
  (repeat (first | refine ob_self ?_ | refine ob_true ?_ | (refine nm_intro ?_; intro _ _)))
  rename_i g1 hg1 g2 hg2 g3 hg3
  have hg : g3 = true → one = true ∧ two = true := fun e => by subst hg1; subst hg2; rw [e] at hg3; cases one <;> cases two <;> first | exact ⟨rfl, rfl⟩ | cases hg3
  have hg' : one = true → two = true → g3 = true := fun e1 e2 => by subst e1; subst e2; subst hg1; subst hg2; exact hg3
  refine br_cases (fun k => ?_) (fun k => ?_)
  · have hv := hI.r hA.m.ra hA.m.rc
    have hw := hJ.r hB.m.ra hB.m.rc
    refine ⟨⟨hv, hw, rfl⟩, fun n hn => ?_⟩
    subst hn
    refine h _ _ _ _ _ _ (alu_one hv hw fun x y hx hy hi hj => ?_)
    have e1 := hI.i (hg k).1 _ (cut_u true hx) (hA.i x hx hi)
    have e2 := hJ.i (hg k).2 _ (cut_u true hy) (hB.i y hy hj)
    rw [← e1, ← e2, wal_cut]
  · refine ⟨⟨tokM hA.m, tokM hB.m⟩, fun xT1 xT2 hT => ?_⟩
    refine ⟨⟨uokM hA.m, uokM hB.m⟩, fun xU1 xU2 hU => ?_⟩
    refine ⟨⟨sokM hA.m, sokM hB.m⟩, fun xS1 xS2 hS => ?_⟩
    have P := pa (f := fop 1 0) hA.m hB.m (paT hT) (paU hA.m hB.m hU) (paS hA.m hB.m hS)
    refine ⟨P.m, fun p q r s t u hC => h _ _ _ _ _ _ (alu_more (fun x y hx hy hi hj => ?_) hC.m fun e1 e2 x y hx hy hi hj => ?_)⟩
    · rw [wal_plain true (by decide)]
      exact hC.i _ (f_uu 1 _ _ (cut_u true hx) (cut_u true hy)) (P.i _ _ (cut_u true hx) (cut_u true hy) (hA.i x hx hi) (hB.i y hy hj))
    · have k1 := (hI.l (hA.o e1 x hx hi)).1
      have k2 := (hJ.l (hB.o e2 y hy hj)).1
      rw [hg' k1 k2] at k; cases k
theorem rA1f (a b c d e f a' b' c' d' e' f' : Int) (K : Value → Prop) (M : MayS a b c d e f) (M' : MayS a' b' c' d' e' f') (h : ∀ p q r s t u, AluP 1 false a b c d e f a' b' c' d' e' f' p q r s t u → K (Sc p q r s t u)) : nA1f a b c d e f a' b' c' d' e' f' K := by
  rw [nA1f_eq]
  refine ⟨⟨may_any.ra, may_any.ra, rfl⟩, fun _ _ => ?_⟩
  refine ⟨M, fun p1 q1 r1 s1 t1 u1 hA => ⟨M', fun p2 q2 r2 s2 t2 u2 hB => ?_⟩⟩
  intro v one hI w two hJ
  (repeat (first | refine ob_self ?_ | refine ob_true ?_ | (refine nm_intro ?_; intro _ _)))
  rename_i g1 hg1 g2 hg2 g3 hg3
  have hg : g3 = true → one = true ∧ two = true := fun e => by subst hg1; subst hg2; rw [e] at hg3; cases one <;> cases two <;> first | exact ⟨rfl, rfl⟩ | cases hg3
  have hg' : one = true → two = true → g3 = true := fun e1 e2 => by subst e1; subst e2; subst hg1; subst hg2; exact hg3
  refine br_cases (fun k => ?_) (fun k => ?_)
  · have hv := hI.r hA.m.ra hA.m.rc
    have hw := hJ.r hB.m.ra hB.m.rc
    refine ⟨⟨hv, hw, rfl⟩, fun n hn => ?_⟩
    subst hn
    refine h _ _ _ _ _ _ (alu_one hv hw fun x y hx hy hi hj => ?_)
    have e1 := hI.i (hg k).1 _ (cut_u false hx) (hA.i x hx hi)
    have e2 := hJ.i (hg k).2 _ (cut_u false hy) (hB.i y hy hj)
    rw [← e1, ← e2, wal_cut]
  · refine ⟨⟨tokM hA.m, tokM hB.m⟩, fun xT1 xT2 hT => ?_⟩
    refine ⟨⟨uokM hA.m, uokM hB.m⟩, fun xU1 xU2 hU => ?_⟩
    refine ⟨⟨sokM hA.m, sokM hB.m⟩, fun xS1 xS2 hS => ?_⟩
    have P := pa (f := fop 1 0) hA.m hB.m (paT hT) (paU hA.m hB.m hU) (paS hA.m hB.m hS)
    refine ⟨P.m, fun p q r s t u hC => h _ _ _ _ _ _ (alu_more (fun x y hx hy hi hj => ?_) hC.m fun e1 e2 x y hx hy hi hj => ?_)⟩
    · rw [wal_plain false (by decide)]
      exact hC.i _ (f_uu 1 _ _ (cut_u false hx) (cut_u false hy)) (P.i _ _ (cut_u false hx) (cut_u false hy) (hA.i x hx hi) (hB.i y hy hj))
    · have k1 := (hI.l (hA.o e1 x hx hi)).1
      have k2 := (hJ.l (hB.o e2 y hy hj)).1
      rw [hg' k1 k2] at k; cases k
theorem rA2t (a b c d e f a' b' c' d' e' f' : Int) (K : Value → Prop) (M : MayS a b c d e f) (M' : MayS a' b' c' d' e' f') (h : ∀ p q r s t u, AluP 2 true a b c d e f a' b' c' d' e' f' p q r s t u → K (Sc p q r s t u)) : nA2t a b c d e f a' b' c' d' e' f' K := by
  rw [nA2t_eq]
  refine ⟨⟨may_any.ra, may_any.ra, rfl⟩, fun _ _ => ?_⟩
  have hA := set_id M
  have hB := set_id M'
  intro v one hI w two hJ
  (repeat (first | refine ob_self ?_ | refine ob_true ?_ | (refine nm_intro ?_; intro _ _)))
  rename_i g1 hg1 g2 hg2 g3 hg3
  have hg : g3 = true → one = true ∧ two = true := fun e => by subst hg1; subst hg2; rw [e] at hg3; cases one <;> cases two <;> first | exact ⟨rfl, rfl⟩ | cases hg3
  have hg' : one = true → two = true → g3 = true := fun e1 e2 => by subst e1; subst e2; subst hg1; subst hg2; exact hg3
  refine br_cases (fun k => ?_) (fun k => ?_)
  · have hv := hI.r hA.m.ra hA.m.rc
    have hw := hJ.r hB.m.ra hB.m.rc
    refine ⟨⟨hv, hw, rfl⟩, fun n hn => ?_⟩
    subst hn
    refine h _ _ _ _ _ _ (alu_one hv hw fun x y hx hy hi hj => ?_)
    have e1 := hI.i (hg k).1 _ (cut_u true hx) (hA.i x hx hi)
    have e2 := hJ.i (hg k).2 _ (cut_u true hy) (hB.i y hy hj)
    rw [← e1, ← e2, wal_cut]
  · refine ⟨⟨tokM hA.m, tokM hB.m⟩, fun xT1 xT2 hT => ?_⟩
    refine ⟨⟨uokM hA.m, uokM hB.m⟩, fun xU1 xU2 hU => ?_⟩
    have P := pa (f := fop 2 0) hA.m hB.m (paT hT) (paU hA.m hB.m hU) paS0
    refine ⟨P.m, fun p q r s t u hC => h _ _ _ _ _ _ (alu_more (fun x y hx hy hi hj => ?_) hC.m fun e1 e2 x y hx hy hi hj => ?_)⟩
    · rw [wal_plain true (by decide)]
      exact hC.i _ (f_uu 2 _ _ (cut_u true hx) (cut_u true hy)) (P.i _ _ (cut_u true hx) (cut_u true hy) (hA.i x hx hi) (hB.i y hy hj))
    · have k1 := (hI.l (hA.o e1 x hx hi)).1
      have k2 := (hJ.l (hB.o e2 y hy hj)).1
      rw [hg' k1 k2] at k; cases k
theorem rA2f (a b c d e f a' b' c' d' e' f' : Int) (K : Value → Prop) (M : MayS a b c d e f) (M' : MayS a' b' c' d' e' f') (h : ∀ p q r s t u, AluP 2 false a b c d e f a' b' c' d' e' f' p q r s t u → K (Sc p q r s t u)) : nA2f a b c d e f a' b' c' d' e' f' K := by
  rw [nA2f_eq]
  refine ⟨⟨may_any.ra, may_any.ra, rfl⟩, fun _ _ => ?_⟩
  refine ⟨M, fun p1 q1 r1 s1 t1 u1 hA => ⟨M', fun p2 q2 r2 s2 t2 u2 hB => ?_⟩⟩
  intro v one hI w two hJ
  (repeat (first | refine ob_self ?_ | refine ob_true ?_ | (refine nm_intro ?_; intro _ _)))
  rename_i g1 hg1 g2 hg2 g3 hg3
  have hg : g3 = true → one = true ∧ two = true := fun e => by subst hg1; subst hg2; rw [e] at hg3; cases one <;> cases two <;> first | exact ⟨rfl, rfl⟩ | cases hg3
  have hg' : one = true → two = true → g3 = true := fun e1 e2 => by subst e1; subst e2; subst hg1; subst hg2; exact hg3
  refine br_cases (fun k => ?_) (fun k => ?_)
  · have hv := hI.r hA.m.ra hA.m.rc
    have hw := hJ.r hB.m.ra hB.m.rc
    refine ⟨⟨hv, hw, rfl⟩, fun n hn => ?_⟩
    subst hn
    refine h _ _ _ _ _ _ (alu_one hv hw fun x y hx hy hi hj => ?_)
    have e1 := hI.i (hg k).1 _ (cut_u false hx) (hA.i x hx hi)
    have e2 := hJ.i (hg k).2 _ (cut_u false hy) (hB.i y hy hj)
    rw [← e1, ← e2, wal_cut]
  · refine ⟨⟨tokM hA.m, tokM hB.m⟩, fun xT1 xT2 hT => ?_⟩
    refine ⟨⟨uokM hA.m, uokM hB.m⟩, fun xU1 xU2 hU => ?_⟩
    have P := pa (f := fop 2 0) hA.m hB.m (paT hT) (paU hA.m hB.m hU) paS0
    refine ⟨P.m, fun p q r s t u hC => h _ _ _ _ _ _ (alu_more (fun x y hx hy hi hj => ?_) hC.m fun e1 e2 x y hx hy hi hj => ?_)⟩
    · rw [wal_plain false (by decide)]
      exact hC.i _ (f_uu 2 _ _ (cut_u false hx) (cut_u false hy)) (P.i _ _ (cut_u false hx) (cut_u false hy) (hA.i x hx hi) (hB.i y hy hj))
    · have k1 := (hI.l (hA.o e1 x hx hi)).1
      have k2 := (hJ.l (hB.o e2 y hy hj)).1
      rw [hg' k1 k2] at k; cases k
theorem rA3t (a b c d e f a' b' c' d' e' f' : Int) (K : Value → Prop) (M : MayS a b c d e f) (M' : MayS a' b' c' d' e' f') (h : ∀ p q r s t u, AluP 3 true a b c d e f a' b' c' d' e' f' p q r s t u → K (Sc p q r s t u)) : nA3t a b c d e f a' b' c' d' e' f' K := by
  rw [nA3t_eq]
  refine ⟨⟨may_any.ra, may_any.ra, rfl⟩, fun _ _ => ?_⟩
  have hA := set_id M
  have hB := set_id M'
  intro v one hI w two hJ
  (repeat (first | refine ob_self ?_ | refine ob_true ?_ | (refine nm_intro ?_; intro _ _)))
  rename_i g1 hg1 g2 hg2 g3 hg3
  have hg : g3 = true → one = true ∧ two = true := fun e => by subst hg1; subst hg2; rw [e] at hg3; cases one <;> cases two <;> first | exact ⟨rfl, rfl⟩ | cases hg3
  have hg' : one = true → two = true → g3 = true := fun e1 e2 => by subst e1; subst e2; subst hg1; subst hg2; exact hg3
  refine br_cases (fun k => ?_) (fun k => ?_)
  · have hv := hI.r hA.m.ra hA.m.rc
    have hw := hJ.r hB.m.ra hB.m.rc
    refine ⟨⟨hv, hw, rfl⟩, fun n hn => ?_⟩
    subst hn
    refine h _ _ _ _ _ _ (alu_one hv hw fun x y hx hy hi hj => ?_)
    have e1 := hI.i (hg k).1 _ (cut_u true hx) (hA.i x hx hi)
    have e2 := hJ.i (hg k).2 _ (cut_u true hy) (hB.i y hy hj)
    rw [← e1, ← e2, wal_cut]
  · refine ⟨⟨uokM hA.m, uokM hB.m⟩, fun xU1 xU2 hU => ?_⟩
    have P := pa (f := fop 3 0) hA.m hB.m paT0 (paU hA.m hB.m hU) paS0
    refine ⟨P.m, fun p q r s t u hC => h _ _ _ _ _ _ (alu_more (fun x y hx hy hi hj => ?_) hC.m fun e1 e2 x y hx hy hi hj => ?_)⟩
    · rw [wal_plain true (by decide)]
      exact hC.i _ (f_uu 3 _ _ (cut_u true hx) (cut_u true hy)) (P.i _ _ (cut_u true hx) (cut_u true hy) (hA.i x hx hi) (hB.i y hy hj))
    · have k1 := (hI.l (hA.o e1 x hx hi)).1
      have k2 := (hJ.l (hB.o e2 y hy hj)).1
      rw [hg' k1 k2] at k; cases k
theorem rA3f (a b c d e f a' b' c' d' e' f' : Int) (K : Value → Prop) (M : MayS a b c d e f) (M' : MayS a' b' c' d' e' f') (h : ∀ p q r s t u, AluP 3 false a b c d e f a' b' c' d' e' f' p q r s t u → K (Sc p q r s t u)) : nA3f a b c d e f a' b' c' d' e' f' K := by
  rw [nA3f_eq]
  refine ⟨⟨may_any.ra, may_any.ra, rfl⟩, fun _ _ => ?_⟩
  refine ⟨M, fun p1 q1 r1 s1 t1 u1 hA => ⟨M', fun p2 q2 r2 s2 t2 u2 hB => ?_⟩⟩
  intro v one hI w two hJ
  (repeat (first | refine ob_self ?_ | refine ob_true ?_ | (refine nm_intro ?_; intro _ _)))
  rename_i g1 hg1 g2 hg2 g3 hg3
  have hg : g3 = true → one = true ∧ two = true := fun e => by subst hg1; subst hg2; rw [e] at hg3; cases one <;> cases two <;> first | exact ⟨rfl, rfl⟩ | cases hg3
  have hg' : one = true → two = true → g3 = true := fun e1 e2 => by subst e1; subst e2; subst hg1; subst hg2; exact hg3
  refine br_cases (fun k => ?_) (fun k => ?_)
  · have hv := hI.r hA.m.ra hA.m.rc
    have hw := hJ.r hB.m.ra hB.m.rc
    refine ⟨⟨hv, hw, rfl⟩, fun n hn => ?_⟩
    subst hn
    refine h _ _ _ _ _ _ (alu_one hv hw fun x y hx hy hi hj => ?_)
    have e1 := hI.i (hg k).1 _ (cut_u false hx) (hA.i x hx hi)
    have e2 := hJ.i (hg k).2 _ (cut_u false hy) (hB.i y hy hj)
    rw [← e1, ← e2, wal_cut]
  · refine ⟨⟨uokM hA.m, uokM hB.m⟩, fun xU1 xU2 hU => ?_⟩
    have P := pa (f := fop 3 0) hA.m hB.m paT0 (paU hA.m hB.m hU) paS0
    refine ⟨P.m, fun p q r s t u hC => h _ _ _ _ _ _ (alu_more (fun x y hx hy hi hj => ?_) hC.m fun e1 e2 x y hx hy hi hj => ?_)⟩
    · rw [wal_plain false (by decide)]
      exact hC.i _ (f_uu 3 _ _ (cut_u false hx) (cut_u false hy)) (P.i _ _ (cut_u false hx) (cut_u false hy) (hA.i x hx hi) (hB.i y hy hj))
    · have k1 := (hI.l (hA.o e1 x hx hi)).1
      have k2 := (hJ.l (hB.o e2 y hy hj)).1
      rw [hg' k1 k2] at k; cases k
theorem rA4t (a b c d e f a' b' c' d' e' f' : Int) (K : Value → Prop) (M : MayS a b c d e f) (M' : MayS a' b' c' d' e' f') (h : ∀ p q r s t u, AluP 4 true a b c d e f a' b' c' d' e' f' p q r s t u → K (Sc p q r s t u)) : nA4t a b c d e f a' b' c' d' e' f' K := by
  rw [nA4t_eq]
  refine ⟨⟨may_any.ra, may_any.ra, rfl⟩, fun _ _ => ?_⟩
  have hA := set_id M
  have hB := set_id M'
  intro v one hI w two hJ
  (repeat (first | refine ob_self ?_ | refine ob_true ?_ | (refine nm_intro ?_; intro _ _)))
  rename_i g1 hg1 g2 hg2 g3 hg3
  have hg : g3 = true → one = true ∧ two = true := fun e => by subst hg1; subst hg2; rw [e] at hg3; cases one <;> cases two <;> first | exact ⟨rfl, rfl⟩ | cases hg3
  have hg' : one = true → two = true → g3 = true := fun e1 e2 => by subst e1; subst e2; subst hg1; subst hg2; exact hg3
  refine br_cases (fun k => ?_) (fun k => ?_)
  · have hv := hI.r hA.m.ra hA.m.rc
    have hw := hJ.r hB.m.ra hB.m.rc
    refine ⟨⟨hv, hw, rfl⟩, fun n hn => ?_⟩
    subst hn
    refine h _ _ _ _ _ _ (alu_one hv hw fun x y hx hy hi hj => ?_)
    have e1 := hI.i (hg k).1 _ (cut_u true hx) (hA.i x hx hi)
    have e2 := hJ.i (hg k).2 _ (cut_u true hy) (hB.i y hy hj)
    rw [← e1, ← e2, wal_cut]
  · refine ⟨⟨tokM hA.m, tokM hB.m⟩, fun xT1 xT2 hT => ?_⟩
    refine ⟨⟨uokM hA.m, uokM hB.m⟩, fun xU1 xU2 hU => ?_⟩
    have P := pa (f := fop 4 0) hA.m hB.m (paT hT) (paU hA.m hB.m hU) paS0
    refine ⟨P.m, fun p q r s t u hC => h _ _ _ _ _ _ (alu_more (fun x y hx hy hi hj => ?_) hC.m fun e1 e2 x y hx hy hi hj => ?_)⟩
    · rw [wal_plain true (by decide)]
      exact hC.i _ (f_uu 4 _ _ (cut_u true hx) (cut_u true hy)) (P.i _ _ (cut_u true hx) (cut_u true hy) (hA.i x hx hi) (hB.i y hy hj))
    · have k1 := (hI.l (hA.o e1 x hx hi)).1
      have k2 := (hJ.l (hB.o e2 y hy hj)).1
      rw [hg' k1 k2] at k; cases k
theorem rA4f (a b c d e f a' b' c' d' e' f' : Int) (K : Value → Prop) (M : MayS a b c d e f) (M' : MayS a' b' c' d' e' f') (h : ∀ p q r s t u, AluP 4 false a b c d e f a' b' c' d' e' f' p q r s t u → K (Sc p q r s t u)) : nA4f a b c d e f a' b' c' d' e' f' K := by
  rw [nA4f_eq]
  refine ⟨⟨may_any.ra, may_any.ra, rfl⟩, fun _ _ => ?_⟩
  refine ⟨M, fun p1 q1 r1 s1 t1 u1 hA => ⟨M', fun p2 q2 r2 s2 t2 u2 hB => ?_⟩⟩
  intro v one hI w two hJ
  (repeat (first | refine ob_self ?_ | refine ob_true ?_ | (refine nm_intro ?_; intro _ _)))
  rename_i g1 hg1 g2 hg2 g3 hg3
  have hg : g3 = true → one = true ∧ two = true := fun e => by subst hg1; subst hg2; rw [e] at hg3; cases one <;> cases two <;> first | exact ⟨rfl, rfl⟩ | cases hg3
  have hg' : one = true → two = true → g3 = true := fun e1 e2 => by subst e1; subst e2; subst hg1; subst hg2; exact hg3
  refine br_cases (fun k => ?_) (fun k => ?_)
  · have hv := hI.r hA.m.ra hA.m.rc
    have hw := hJ.r hB.m.ra hB.m.rc
    refine ⟨⟨hv, hw, rfl⟩, fun n hn => ?_⟩
    subst hn
    refine h _ _ _ _ _ _ (alu_one hv hw fun x y hx hy hi hj => ?_)
    have e1 := hI.i (hg k).1 _ (cut_u false hx) (hA.i x hx hi)
    have e2 := hJ.i (hg k).2 _ (cut_u false hy) (hB.i y hy hj)
    rw [← e1, ← e2, wal_cut]
  · refine ⟨⟨tokM hA.m, tokM hB.m⟩, fun xT1 xT2 hT => ?_⟩
    refine ⟨⟨uokM hA.m, uokM hB.m⟩, fun xU1 xU2 hU => ?_⟩
    have P := pa (f := fop 4 0) hA.m hB.m (paT hT) (paU hA.m hB.m hU) paS0
    refine ⟨P.m, fun p q r s t u hC => h _ _ _ _ _ _ (alu_more (fun x y hx hy hi hj => ?_) hC.m fun e1 e2 x y hx hy hi hj => ?_)⟩
    · rw [wal_plain false (by decide)]
      exact hC.i _ (f_uu 4 _ _ (cut_u false hx) (cut_u false hy)) (P.i _ _ (cut_u false hx) (cut_u false hy) (hA.i x hx hi) (hB.i y hy hj))
    · have k1 := (hI.l (hA.o e1 x hx hi)).1
      have k2 := (hJ.l (hB.o e2 y hy hj)).1
      rw [hg' k1 k2] at k; cases k
theorem rA5t (a b c d e f a' b' c' d' e' f' : Int) (K : Value → Prop) (M : MayS a b c d e f) (M' : MayS a' b' c' d' e' f') (h : ∀ p q r s t u, AluP 5 true a b c d e f a' b' c' d' e' f' p q r s t u → K (Sc p q r s t u)) : nA5t a b c d e f a' b' c' d' e' f' K := by
  rw [nA5t_eq]
  refine ⟨⟨may_any.ra, may_any.ra, rfl⟩, fun _ _ => ?_⟩
  have hA := set_id M
  have hB := set_id M'
  intro v one hI w two hJ
  (repeat (first | refine ob_self ?_ | refine ob_true ?_ | (refine nm_intro ?_; intro _ _)))
  rename_i g1 hg1 g2 hg2 g3 hg3
  have hg : g3 = true → one = true ∧ two = true := fun e => by subst hg1; subst hg2; rw [e] at hg3; cases one <;> cases two <;> first | exact ⟨rfl, rfl⟩ | cases hg3
  have hg' : one = true → two = true → g3 = true := fun e1 e2 => by subst e1; subst e2; subst hg1; subst hg2; exact hg3
  refine br_cases (fun k => ?_) (fun k => ?_)
  · have hv := hI.r hA.m.ra hA.m.rc
    have hw := hJ.r hB.m.ra hB.m.rc
    refine ⟨⟨hv, hw, rfl⟩, fun n hn => ?_⟩
    subst hn
    refine h _ _ _ _ _ _ (alu_one hv hw fun x y hx hy hi hj => ?_)
    have e1 := hI.i (hg k).1 _ (cut_u true hx) (hA.i x hx hi)
    have e2 := hJ.i (hg k).2 _ (cut_u true hy) (hB.i y hy hj)
    rw [← e1, ← e2, wal_cut]
  · refine ⟨⟨tokM hA.m, tokM hB.m⟩, fun xT1 xT2 hT => ?_⟩
    refine ⟨⟨uokM hA.m, uokM hB.m⟩, fun xU1 xU2 hU => ?_⟩
    have P := pa (f := fop 5 0) hA.m hB.m (paT hT) (paU hA.m hB.m hU) paS0
    refine ⟨P.m, fun p q r s t u hC => h _ _ _ _ _ _ (alu_more (fun x y hx hy hi hj => ?_) hC.m fun e1 e2 x y hx hy hi hj => ?_)⟩
    · rw [wal_plain true (by decide)]
      exact hC.i _ (f_uu 5 _ _ (cut_u true hx) (cut_u true hy)) (P.i _ _ (cut_u true hx) (cut_u true hy) (hA.i x hx hi) (hB.i y hy hj))
    · have k1 := (hI.l (hA.o e1 x hx hi)).1
      have k2 := (hJ.l (hB.o e2 y hy hj)).1
      rw [hg' k1 k2] at k; cases k
theorem rA5f (a b c d e f a' b' c' d' e' f' : Int) (K : Value → Prop) (M : MayS a b c d e f) (M' : MayS a' b' c' d' e' f') (h : ∀ p q r s t u, AluP 5 false a b c d e f a' b' c' d' e' f' p q r s t u → K (Sc p q r s t u)) : nA5f a b c d e f a' b' c' d' e' f' K := by
  rw [nA5f_eq]
  refine ⟨⟨may_any.ra, may_any.ra, rfl⟩, fun _ _ => ?_⟩
  refine ⟨M, fun p1 q1 r1 s1 t1 u1 hA => ⟨M', fun p2 q2 r2 s2 t2 u2 hB => ?_⟩⟩
  intro v one hI w two hJ
  (repeat (first | refine ob_self ?_ | refine ob_true ?_ | (refine nm_intro ?_; intro _ _)))
  rename_i g1 hg1 g2 hg2 g3 hg3
  have hg : g3 = true → one = true ∧ two = true := fun e => by subst hg1; subst hg2; rw [e] at hg3; cases one <;> cases two <;> first | exact ⟨rfl, rfl⟩ | cases hg3
  have hg' : one = true → two = true → g3 = true := fun e1 e2 => by subst e1; subst e2; subst hg1; subst hg2; exact hg3
  refine br_cases (fun k => ?_) (fun k => ?_)
  · have hv := hI.r hA.m.ra hA.m.rc
    have hw := hJ.r hB.m.ra hB.m.rc
    refine ⟨⟨hv, hw, rfl⟩, fun n hn => ?_⟩
    subst hn
    refine h _ _ _ _ _ _ (alu_one hv hw fun x y hx hy hi hj => ?_)
    have e1 := hI.i (hg k).1 _ (cut_u false hx) (hA.i x hx hi)
    have e2 := hJ.i (hg k).2 _ (cut_u false hy) (hB.i y hy hj)
    rw [← e1, ← e2, wal_cut]
  · refine ⟨⟨tokM hA.m, tokM hB.m⟩, fun xT1 xT2 hT => ?_⟩
    refine ⟨⟨uokM hA.m, uokM hB.m⟩, fun xU1 xU2 hU => ?_⟩
    have P := pa (f := fop 5 0) hA.m hB.m (paT hT) (paU hA.m hB.m hU) paS0
    refine ⟨P.m, fun p q r s t u hC => h _ _ _ _ _ _ (alu_more (fun x y hx hy hi hj => ?_) hC.m fun e1 e2 x y hx hy hi hj => ?_)⟩
    · rw [wal_plain false (by decide)]
      exact hC.i _ (f_uu 5 _ _ (cut_u false hx) (cut_u false hy)) (P.i _ _ (cut_u false hx) (cut_u false hy) (hA.i x hx hi) (hB.i y hy hj))
    · have k1 := (hI.l (hA.o e1 x hx hi)).1
      have k2 := (hJ.l (hB.o e2 y hy hj)).1
      rw [hg' k1 k2] at k; cases k
theorem rA9t (a b c d e f a' b' c' d' e' f' : Int) (K : Value → Prop) (M : MayS a b c d e f) (M' : MayS a' b' c' d' e' f') (h : ∀ p q r s t u, AluP 9 true a b c d e f a' b' c' d' e' f' p q r s t u → K (Sc p q r s t u)) : nA9t a b c d e f a' b' c' d' e' f' K := by
  rw [nA9t_eq]
  refine ⟨⟨may_any.ra, may_any.ra, rfl⟩, fun _ _ => ?_⟩
  have hA := set_id M
  have hB := set_id M'
  intro v one hI w two hJ
  (repeat (first | refine ob_self ?_ | refine ob_true ?_ | (refine nm_intro ?_; intro _ _)))
  rename_i g1 hg1 g2 hg2 g3 hg3
  have hg : g3 = true → one = true ∧ two = true := fun e => by subst hg1; subst hg2; rw [e] at hg3; cases one <;> cases two <;> first | exact ⟨rfl, rfl⟩ | cases hg3
  have hg' : one = true → two = true → g3 = true := fun e1 e2 => by subst e1; subst e2; subst hg1; subst hg2; exact hg3
  refine br_cases (fun k => ?_) (fun k => ?_)
  · have hv := hI.r hA.m.ra hA.m.rc
    have hw := hJ.r hB.m.ra hB.m.rc
    refine ⟨⟨hv, hw, rfl⟩, fun n hn => ?_⟩
    subst hn
    refine h _ _ _ _ _ _ (alu_one hv hw fun x y hx hy hi hj => ?_)
    have e1 := hI.i (hg k).1 _ (cut_u true hx) (hA.i x hx hi)
    have e2 := hJ.i (hg k).2 _ (cut_u true hy) (hB.i y hy hj)
    rw [← e1, ← e2, wal_cut]
  · refine ⟨⟨uokM hA.m, uokM hB.m⟩, fun xU1 xU2 hU => ?_⟩
    have P := pa (f := fop 9 0) hA.m hB.m paT0 (paU hA.m hB.m hU) paS0
    refine ⟨P.m, fun p q r s t u hC => h _ _ _ _ _ _ (alu_more (fun x y hx hy hi hj => ?_) hC.m fun e1 e2 x y hx hy hi hj => ?_)⟩
    · rw [wal_plain true (by decide)]
      exact hC.i _ (f_uu 9 _ _ (cut_u true hx) (cut_u true hy)) (P.i _ _ (cut_u true hx) (cut_u true hy) (hA.i x hx hi) (hB.i y hy hj))
    · have k1 := (hI.l (hA.o e1 x hx hi)).1
      have k2 := (hJ.l (hB.o e2 y hy hj)).1
      rw [hg' k1 k2] at k; cases k
theorem rA9f (a b c d e f a' b' c' d' e' f' : Int) (K : Value → Prop) (M : MayS a b c d e f) (M' : MayS a' b' c' d' e' f') (h : ∀ p q r s t u, AluP 9 false a b c d e f a' b' c' d' e' f' p q r s t u → K (Sc p q r s t u)) : nA9f a b c d e f a' b' c' d' e' f' K := by
  rw [nA9f_eq]
  refine ⟨⟨may_any.ra, may_any.ra, rfl⟩, fun _ _ => ?_⟩
  refine ⟨M, fun p1 q1 r1 s1 t1 u1 hA => ⟨M', fun p2 q2 r2 s2 t2 u2 hB => ?_⟩⟩
  intro v one hI w two hJ
  (repeat (first | refine ob_self ?_ | refine ob_true ?_ | (refine nm_intro ?_; intro _ _)))
  rename_i g1 hg1 g2 hg2 g3 hg3
  have hg : g3 = true → one = true ∧ two = true := fun e => by subst hg1; subst hg2; rw [e] at hg3; cases one <;> cases two <;> first | exact ⟨rfl, rfl⟩ | cases hg3
  have hg' : one = true → two = true → g3 = true := fun e1 e2 => by subst e1; subst e2; subst hg1; subst hg2; exact hg3
  refine br_cases (fun k => ?_) (fun k => ?_)
  · have hv := hI.r hA.m.ra hA.m.rc
    have hw := hJ.r hB.m.ra hB.m.rc
    refine ⟨⟨hv, hw, rfl⟩, fun n hn => ?_⟩
    subst hn
    refine h _ _ _ _ _ _ (alu_one hv hw fun x y hx hy hi hj => ?_)
    have e1 := hI.i (hg k).1 _ (cut_u false hx) (hA.i x hx hi)
    have e2 := hJ.i (hg k).2 _ (cut_u false hy) (hB.i y hy hj)
    rw [← e1, ← e2, wal_cut]
  · refine ⟨⟨uokM hA.m, uokM hB.m⟩, fun xU1 xU2 hU => ?_⟩
    have P := pa (f := fop 9 0) hA.m hB.m paT0 (paU hA.m hB.m hU) paS0
    refine ⟨P.m, fun p q r s t u hC => h _ _ _ _ _ _ (alu_more (fun x y hx hy hi hj => ?_) hC.m fun e1 e2 x y hx hy hi hj => ?_)⟩
    · rw [wal_plain false (by decide)]
      exact hC.i _ (f_uu 9 _ _ (cut_u false hx) (cut_u false hy)) (P.i _ _ (cut_u false hx) (cut_u false hy) (hA.i x hx hi) (hB.i y hy hj))
    · have k1 := (hI.l (hA.o e1 x hx hi)).1
      have k2 := (hJ.l (hB.o e2 y hy hj)).1
      rw [hg' k1 k2] at k; cases k
theorem rA10t (a b c d e f a' b' c' d' e' f' : Int) (K : Value → Prop) (M : MayS a b c d e f) (M' : MayS a' b' c' d' e' f') (h : ∀ p q r s t u, AluP 10 true a b c d e f a' b' c' d' e' f' p q r s t u → K (Sc p q r s t u)) : nA10t a b c d e f a' b' c' d' e' f' K := by
  rw [nA10t_eq]
  refine ⟨⟨may_any.ra, may_any.ra, rfl⟩, fun _ _ => ?_⟩
  have hA := set_id M
  have hB := set_id M'
  intro v one hI w two hJ
  (repeat (first | refine ob_self ?_ | refine ob_true ?_ | (refine nm_intro ?_; intro _ _)))
  rename_i g1 hg1 g2 hg2 g3 hg3
  have hg : g3 = true → one = true ∧ two = true := fun e => by subst hg1; subst hg2; rw [e] at hg3; cases one <;> cases two <;> first | exact ⟨rfl, rfl⟩ | cases hg3
  have hg' : one = true → two = true → g3 = true := fun e1 e2 => by subst e1; subst e2; subst hg1; subst hg2; exact hg3
  refine br_cases (fun k => ?_) (fun k => ?_)
  · have hv := hI.r hA.m.ra hA.m.rc
    have hw := hJ.r hB.m.ra hB.m.rc
    refine ⟨⟨hv, hw, rfl⟩, fun n hn => ?_⟩
    subst hn
    refine h _ _ _ _ _ _ (alu_one hv hw fun x y hx hy hi hj => ?_)
    have e1 := hI.i (hg k).1 _ (cut_u true hx) (hA.i x hx hi)
    have e2 := hJ.i (hg k).2 _ (cut_u true hy) (hB.i y hy hj)
    rw [← e1, ← e2, wal_cut]
  · refine ⟨⟨tokM hA.m, tokM hB.m⟩, fun xT1 xT2 hT => ?_⟩
    have P := pa (f := fop 10 0) hA.m hB.m (paT hT) (paU0 (f_uu 10)) paS0
    refine ⟨P.m, fun p q r s t u hC => h _ _ _ _ _ _ (alu_more (fun x y hx hy hi hj => ?_) hC.m fun e1 e2 x y hx hy hi hj => ?_)⟩
    · rw [wal_plain true (by decide)]
      exact hC.i _ (f_uu 10 _ _ (cut_u true hx) (cut_u true hy)) (P.i _ _ (cut_u true hx) (cut_u true hy) (hA.i x hx hi) (hB.i y hy hj))
    · have k1 := (hI.l (hA.o e1 x hx hi)).1
      have k2 := (hJ.l (hB.o e2 y hy hj)).1
      rw [hg' k1 k2] at k; cases k
theorem rA10f (a b c d e f a' b' c' d' e' f' : Int) (K : Value → Prop) (M : MayS a b c d e f) (M' : MayS a' b' c' d' e' f') (h : ∀ p q r s t u, AluP 10 false a b c d e f a' b' c' d' e' f' p q r s t u → K (Sc p q r s t u)) : nA10f a b c d e f a' b' c' d' e' f' K := by
  rw [nA10f_eq]
  refine ⟨⟨may_any.ra, may_any.ra, rfl⟩, fun _ _ => ?_⟩
  refine ⟨M, fun p1 q1 r1 s1 t1 u1 hA => ⟨M', fun p2 q2 r2 s2 t2 u2 hB => ?_⟩⟩
  intro v one hI w two hJ
  (repeat (first | refine ob_self ?_ | refine ob_true ?_ | (refine nm_intro ?_; intro _ _)))
  rename_i g1 hg1 g2 hg2 g3 hg3
  have hg : g3 = true → one = true ∧ two = true := fun e => by subst hg1; subst hg2; rw [e] at hg3; cases one <;> cases two <;> first | exact ⟨rfl, rfl⟩ | cases hg3
  have hg' : one = true → two = true → g3 = true := fun e1 e2 => by subst e1; subst e2; subst hg1; subst hg2; exact hg3
  refine br_cases (fun k => ?_) (fun k => ?_)
  · have hv := hI.r hA.m.ra hA.m.rc
    have hw := hJ.r hB.m.ra hB.m.rc
    refine ⟨⟨hv, hw, rfl⟩, fun n hn => ?_⟩
    subst hn
    refine h _ _ _ _ _ _ (alu_one hv hw fun x y hx hy hi hj => ?_)
    have e1 := hI.i (hg k).1 _ (cut_u false hx) (hA.i x hx hi)
    have e2 := hJ.i (hg k).2 _ (cut_u false hy) (hB.i y hy hj)
    rw [← e1, ← e2, wal_cut]
  · refine ⟨⟨tokM hA.m, tokM hB.m⟩, fun xT1 xT2 hT => ?_⟩
    have P := pa (f := fop 10 0) hA.m hB.m (paT hT) (paU0 (f_uu 10)) paS0
    refine ⟨P.m, fun p q r s t u hC => h _ _ _ _ _ _ (alu_more (fun x y hx hy hi hj => ?_) hC.m fun e1 e2 x y hx hy hi hj => ?_)⟩
    · rw [wal_plain false (by decide)]
      exact hC.i _ (f_uu 10 _ _ (cut_u false hx) (cut_u false hy)) (P.i _ _ (cut_u false hx) (cut_u false hy) (hA.i x hx hi) (hB.i y hy hj))
    · have k1 := (hI.l (hA.o e1 x hx hi)).1
      have k2 := (hJ.l (hB.o e2 y hy hj)).1
      rw [hg' k1 k2] at k; cases k
end Go.Proofs.Ytaplgollkkpnaaa.ScUi
