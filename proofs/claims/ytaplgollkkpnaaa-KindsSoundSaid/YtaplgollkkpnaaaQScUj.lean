/- Layer 5: what Alu comes to: shifts, negation, moves; all operations. -/
import Derived.Test.YtaplgollkkpnaaaQScUi
namespace Go.Proofs.Ytaplgollkkpnaaa.ScUj
open Go Go.RowKit Go.Proofs Go.Proofs.Ytaplgollkkpnaaa.Xc Go.Proofs.Ytaplgollkkpnaaa.Sc Go.Proofs.Ytaplgollkkpnaaa.ScS Go.Proofs.Ytaplgollkkpnaaa.ScG Go.Proofs.Ytaplgollkkpnaaa.ScP Go.Proofs.Ytaplgollkkpnaaa.ScR Go.Proofs.Ytaplgollkkpnaaa.ScUa Go.Proofs.Ytaplgollkkpnaaa.ScUc Go.Proofs.Ytaplgollkkpnaaa.ScUd Go.Proofs.Ytaplgollkkpnaaa.ScUe Go.Proofs.Ytaplgollkkpnaaa.ScUf Go.Proofs.Ytaplgollkkpnaaa.ScUg Go.Proofs.Ytaplgollkkpnaaa.ScUh Go.Proofs.Ytaplgollkkpnaaa.ScUi Go.Proofs.Ytaplgollkkpnaaa.ScV Go.Proofs.Ytaplgollkkpnaaa.ScY Go.Proofs.Ytaplgollkkpnaaa.Bv
set_option linter.unusedVariables false
set_option linter.unusedSimpArgs false
def shv (op : Int) (wide : Bool) (n : Nat) (x : Int) : Int := match wide with
  | true => fop op n x 0
  | false => if op = 12 then sar32 n x else fop op n x 0
theorem shv_u (op : Int) (wide : Bool) (n : Nat) {x : Int} (hx : uu x) : uu (shv op wide n x) := by
  have z : uu 0 := by unfold uu; omega
  cases wide with
  | true => exact fop_u op n hx z
  | false => exact uu_ite (uu_sar _ _) (fop_u op n hx z)
theorem sar_cut (n : Nat) (x : Int) : sar32 n x % 4294967296 = sar32 n x := by
  unfold sar32; rw [w32 (_ / _), w6432]; omega
theorem wal_sh {op : Int} (wide : Bool) (h : op = 6 ∨ op = 7 ∨ op = 12) (x y : Int) : wal op wide x y = cut wide (shv op wide (cut wide y % lim wide).toNat (cut wide x)) := by
  cases wide with
  | true => rcases h with rfl | rfl | rfl <;> rfl
  | false =>
    have e : y % 4294967296 % 32 = y % 32 := by omega
    rcases h with rfl | rfl | rfl
    · show _ = uw (x % 4294967296 * 2 ^ (y % 4294967296 % 32).toNat) % 4294967296
      rw [e]; rfl
    · show _ = x % 4294967296 / 2 ^ (y % 4294967296 % 32).toNat % 4294967296
      rw [e]; rfl
    · show _ = sar32 (y % 4294967296 % 32).toNat (x % 4294967296) % 4294967296
      rw [e, sar_cut, sar_mod]; rfl
theorem n_of (wide : Bool) {w k : Int} (hw : uu w) (hk : k = lim wide) : IntKind.wrap .i64 (Int.tmod w k) = w % lim wide ∧ shn (lim wide) (w % lim wide) := by
  have s := sw_eq; simp only [sw] at s
  subst hk
  rw [s, Int.tmod_eq_emod_of_nonneg hw.1]
  cases wide with
  | true => show _ = w % 64 ∧ shn 64 (w % 64); rw [show lim true = 64 from rfl]; unfold shn; omega
  | false => show _ = w % 32 ∧ shn 32 (w % 32); rw [show lim false = 32 from rfl]; unfold shn; omega
theorem wal_neg (wide : Bool) (x y : Int) : wal 8 wide x y = wal 1 wide 0 (cut wide x) := by
  cases wide with
  | true => rfl
  | false =>
    show uw (0 - x % 4294967296) % 4294967296 = uw (0 % 4294967296 - x % 4294967296 % 4294967296) % 4294967296
    rw [show (0 : Int) % 4294967296 = 0 from rfl, show x % 4294967296 % 4294967296 = x % 4294967296 by omega]
theorem wal_mov (wide : Bool) (x y : Int) : wal 11 wide x y = cut wide y := by
  cases wide with
  | true => rfl
  | false =>
    show y % 4294967296 % 4294967296 = y % 4294967296
    omega
theorem cut_cut (wide : Bool) (x : Int) : cut wide (cut wide x) = cut wide x := by
  cases wide with
  | true => rfl
  | false => show x % 4294967296 % 4294967296 = x % 4294967296; omega
theorem cut_lt {wide : Bool} (x : Int) (h : wide = false) : cut wide x < 4294967296 := by
  subst h; show x % 4294967296 < _; omega
theorem rA6t (a b c d e f a' b' c' d' e' f' : Int) (K : Value → Prop) (M : MayS a b c d e f) (M' : MayS a' b' c' d' e' f') (h : ∀ p q r s t u, AluP 6 true a b c d e f a' b' c' d' e' f' p q r s t u → K (Sc p q r s t u)) : nA6t a b c d e f a' b' c' d' e' f' K := by
  rw [nA6t_eq]
  refine ⟨⟨may_any.ra, may_any.ra, rfl⟩, fun _ _ => ?_⟩
  have hA := set_id M
  have hB := set_id M'
  intro v one hI w two hJ
  (repeat (first | refine ob_self ?_ | refine ob_true ?_ | (refine nm_intro ?_; intro _ _)))
  rename_i g1 hg1 g2 hg2 g3 hg3
  have hg : g3 = true → one = true ∧ two = true := fun e => by subst hg1; subst hg2; rw [e] at hg3; cases one <;> cases two <;> first | exact ⟨rfl, rfl⟩ | cases hg3
  have hg' : one = true → two = true → g3 = true := fun e1 e2 => by subst e1; subst e2; subst hg1; subst hg2; exact hg3
  have hv := hI.r hA.m.ra hA.m.rc
  have hw := hJ.r hB.m.ra hB.m.rc
  refine br_cases (fun k => ?_) (fun k => br_cases (fun k2 => ?_) (fun k2 => ?_))
  · refine ⟨⟨hv, hw, rfl⟩, fun n hn => ?_⟩
    subst hn
    refine h _ _ _ _ _ _ (alu_one hv hw fun x y hx hy hi hj => ?_)
    have e1 := hI.i (hg k).1 _ (cut_u true hx) (hA.i x hx hi)
    have e2 := hJ.i (hg k).2 _ (cut_u true hy) (hB.i y hy hj)
    rw [← e1, ← e2, wal_cut]
  · refine ⟨may_any, fun p q r s t u hC => h _ _ _ _ _ _ (alu_more (fun x y hx hy hi hj => ?_) hC.m fun e1 e2 x y hx hy hi hj => ?_)⟩
    · rw [wal_sh true (by decide)]
      have z := shv_u 6 true (cut true y % lim true).toNat (cut_u true hx)
      exact hC.i _ z ⟨tin_all _, uin_all z, sin_all _⟩
    · have := (hJ.l (hB.o e2 y hy hj)).1
      rw [this] at k2; cases k2
  · have k2 : two = true := by simpa using k2
    have hn := n_of true (k := 64) hw rfl
    rw [hn.1]
    refine ob_self ?_
    refine ⟨⟨hn.2, hA.m⟩, fun p3 q3 r3 s3 t3 u3 hS => ⟨hS.m, fun p q r s t u hC => h _ _ _ _ _ _ (alu_more (fun x y hx hy hi hj => ?_) hC.m fun e1 e2 x y hx hy hi hj => ?_)⟩⟩
    · have e2 := hJ.i k2 _ (cut_u true hy) (hB.i y hy hj)
      rw [wal_sh true (by decide), e2]
      exact hC.i _ (shv_u 6 true _ (cut_u true hx)) (hS.i _ (cut_u true hx) (hA.i x hx hi) (cut_lt x))
    · have k1 := (hI.l (hA.o e1 x hx hi)).1
      rw [hg' k1 k2] at k; cases k
theorem rA6f (a b c d e f a' b' c' d' e' f' : Int) (K : Value → Prop) (M : MayS a b c d e f) (M' : MayS a' b' c' d' e' f') (h : ∀ p q r s t u, AluP 6 false a b c d e f a' b' c' d' e' f' p q r s t u → K (Sc p q r s t u)) : nA6f a b c d e f a' b' c' d' e' f' K := by
  rw [nA6f_eq]
  refine ⟨⟨may_any.ra, may_any.ra, rfl⟩, fun _ _ => ?_⟩
  refine ⟨M, fun p1 q1 r1 s1 t1 u1 hA => ⟨M', fun p2 q2 r2 s2 t2 u2 hB => ?_⟩⟩
  intro v one hI w two hJ
  (repeat (first | refine ob_self ?_ | refine ob_true ?_ | (refine nm_intro ?_; intro _ _)))
  rename_i g1 hg1 g2 hg2 g3 hg3
  have hg : g3 = true → one = true ∧ two = true := fun e => by subst hg1; subst hg2; rw [e] at hg3; cases one <;> cases two <;> first | exact ⟨rfl, rfl⟩ | cases hg3
  have hg' : one = true → two = true → g3 = true := fun e1 e2 => by subst e1; subst e2; subst hg1; subst hg2; exact hg3
  have hv := hI.r hA.m.ra hA.m.rc
  have hw := hJ.r hB.m.ra hB.m.rc
  refine br_cases (fun k => ?_) (fun k => br_cases (fun k2 => ?_) (fun k2 => ?_))
  · refine ⟨⟨hv, hw, rfl⟩, fun n hn => ?_⟩
    subst hn
    refine h _ _ _ _ _ _ (alu_one hv hw fun x y hx hy hi hj => ?_)
    have e1 := hI.i (hg k).1 _ (cut_u false hx) (hA.i x hx hi)
    have e2 := hJ.i (hg k).2 _ (cut_u false hy) (hB.i y hy hj)
    rw [← e1, ← e2, wal_cut]
  · refine ⟨may_any, fun p q r s t u hC => h _ _ _ _ _ _ (alu_more (fun x y hx hy hi hj => ?_) hC.m fun e1 e2 x y hx hy hi hj => ?_)⟩
    · rw [wal_sh false (by decide)]
      have z := shv_u 6 false (cut false y % lim false).toNat (cut_u false hx)
      exact hC.i _ z ⟨tin_all _, uin_all z, sin_all _⟩
    · have := (hJ.l (hB.o e2 y hy hj)).1
      rw [this] at k2; cases k2
  · have k2 : two = true := by simpa using k2
    have hn := n_of false (k := 32) hw rfl
    rw [hn.1]
    refine ob_self ?_
    refine ⟨⟨hn.2, hA.m⟩, fun p3 q3 r3 s3 t3 u3 hS => ⟨hS.m, fun p q r s t u hC => h _ _ _ _ _ _ (alu_more (fun x y hx hy hi hj => ?_) hC.m fun e1 e2 x y hx hy hi hj => ?_)⟩⟩
    · have e2 := hJ.i k2 _ (cut_u false hy) (hB.i y hy hj)
      rw [wal_sh false (by decide), e2]
      exact hC.i _ (shv_u 6 false _ (cut_u false hx)) (hS.i _ (cut_u false hx) (hA.i x hx hi) (cut_lt x))
    · have k1 := (hI.l (hA.o e1 x hx hi)).1
      rw [hg' k1 k2] at k; cases k
theorem rA7t (a b c d e f a' b' c' d' e' f' : Int) (K : Value → Prop) (M : MayS a b c d e f) (M' : MayS a' b' c' d' e' f') (h : ∀ p q r s t u, AluP 7 true a b c d e f a' b' c' d' e' f' p q r s t u → K (Sc p q r s t u)) : nA7t a b c d e f a' b' c' d' e' f' K := by
  rw [nA7t_eq]
  refine ⟨⟨may_any.ra, may_any.ra, rfl⟩, fun _ _ => ?_⟩
  have hA := set_id M
  have hB := set_id M'
  intro v one hI w two hJ
  (repeat (first | refine ob_self ?_ | refine ob_true ?_ | (refine nm_intro ?_; intro _ _)))
  rename_i g1 hg1 g2 hg2 g3 hg3
  have hg : g3 = true → one = true ∧ two = true := fun e => by subst hg1; subst hg2; rw [e] at hg3; cases one <;> cases two <;> first | exact ⟨rfl, rfl⟩ | cases hg3
  have hg' : one = true → two = true → g3 = true := fun e1 e2 => by subst e1; subst e2; subst hg1; subst hg2; exact hg3
  have hv := hI.r hA.m.ra hA.m.rc
  have hw := hJ.r hB.m.ra hB.m.rc
  refine br_cases (fun k => ?_) (fun k => br_cases (fun k2 => ?_) (fun k2 => ?_))
  · refine ⟨⟨hv, hw, rfl⟩, fun n hn => ?_⟩
    subst hn
    refine h _ _ _ _ _ _ (alu_one hv hw fun x y hx hy hi hj => ?_)
    have e1 := hI.i (hg k).1 _ (cut_u true hx) (hA.i x hx hi)
    have e2 := hJ.i (hg k).2 _ (cut_u true hy) (hB.i y hy hj)
    rw [← e1, ← e2, wal_cut]
  · refine ⟨may_any, fun p q r s t u hC => h _ _ _ _ _ _ (alu_more (fun x y hx hy hi hj => ?_) hC.m fun e1 e2 x y hx hy hi hj => ?_)⟩
    · rw [wal_sh true (by decide)]
      have z := shv_u 7 true (cut true y % lim true).toNat (cut_u true hx)
      exact hC.i _ z ⟨tin_all _, uin_all z, sin_all _⟩
    · have := (hJ.l (hB.o e2 y hy hj)).1
      rw [this] at k2; cases k2
  · have k2 : two = true := by simpa using k2
    have hn := n_of true (k := 64) hw rfl
    rw [hn.1]
    refine ob_self ?_
    refine ⟨⟨hn.2, hA.m⟩, fun p3 q3 r3 s3 t3 u3 hS => ⟨hS.m, fun p q r s t u hC => h _ _ _ _ _ _ (alu_more (fun x y hx hy hi hj => ?_) hC.m fun e1 e2 x y hx hy hi hj => ?_)⟩⟩
    · have e2 := hJ.i k2 _ (cut_u true hy) (hB.i y hy hj)
      rw [wal_sh true (by decide), e2]
      exact hC.i _ (shv_u 7 true _ (cut_u true hx)) (hS.i _ (cut_u true hx) (hA.i x hx hi) (cut_lt x))
    · have k1 := (hI.l (hA.o e1 x hx hi)).1
      rw [hg' k1 k2] at k; cases k
theorem rA7f (a b c d e f a' b' c' d' e' f' : Int) (K : Value → Prop) (M : MayS a b c d e f) (M' : MayS a' b' c' d' e' f') (h : ∀ p q r s t u, AluP 7 false a b c d e f a' b' c' d' e' f' p q r s t u → K (Sc p q r s t u)) : nA7f a b c d e f a' b' c' d' e' f' K := by
  rw [nA7f_eq]
  refine ⟨⟨may_any.ra, may_any.ra, rfl⟩, fun _ _ => ?_⟩
  refine ⟨M, fun p1 q1 r1 s1 t1 u1 hA => ⟨M', fun p2 q2 r2 s2 t2 u2 hB => ?_⟩⟩
  intro v one hI w two hJ
  (repeat (first | refine ob_self ?_ | refine ob_true ?_ | (refine nm_intro ?_; intro _ _)))
  rename_i g1 hg1 g2 hg2 g3 hg3
  have hg : g3 = true → one = true ∧ two = true := fun e => by subst hg1; subst hg2; rw [e] at hg3; cases one <;> cases two <;> first | exact ⟨rfl, rfl⟩ | cases hg3
  have hg' : one = true → two = true → g3 = true := fun e1 e2 => by subst e1; subst e2; subst hg1; subst hg2; exact hg3
  have hv := hI.r hA.m.ra hA.m.rc
  have hw := hJ.r hB.m.ra hB.m.rc
  refine br_cases (fun k => ?_) (fun k => br_cases (fun k2 => ?_) (fun k2 => ?_))
  · refine ⟨⟨hv, hw, rfl⟩, fun n hn => ?_⟩
    subst hn
    refine h _ _ _ _ _ _ (alu_one hv hw fun x y hx hy hi hj => ?_)
    have e1 := hI.i (hg k).1 _ (cut_u false hx) (hA.i x hx hi)
    have e2 := hJ.i (hg k).2 _ (cut_u false hy) (hB.i y hy hj)
    rw [← e1, ← e2, wal_cut]
  · refine ⟨may_any, fun p q r s t u hC => h _ _ _ _ _ _ (alu_more (fun x y hx hy hi hj => ?_) hC.m fun e1 e2 x y hx hy hi hj => ?_)⟩
    · rw [wal_sh false (by decide)]
      have z := shv_u 7 false (cut false y % lim false).toNat (cut_u false hx)
      exact hC.i _ z ⟨tin_all _, uin_all z, sin_all _⟩
    · have := (hJ.l (hB.o e2 y hy hj)).1
      rw [this] at k2; cases k2
  · have k2 : two = true := by simpa using k2
    have hn := n_of false (k := 32) hw rfl
    rw [hn.1]
    refine ob_self ?_
    refine ⟨⟨hn.2, hA.m⟩, fun p3 q3 r3 s3 t3 u3 hS => ⟨hS.m, fun p q r s t u hC => h _ _ _ _ _ _ (alu_more (fun x y hx hy hi hj => ?_) hC.m fun e1 e2 x y hx hy hi hj => ?_)⟩⟩
    · have e2 := hJ.i k2 _ (cut_u false hy) (hB.i y hy hj)
      rw [wal_sh false (by decide), e2]
      exact hC.i _ (shv_u 7 false _ (cut_u false hx)) (hS.i _ (cut_u false hx) (hA.i x hx hi) (cut_lt x))
    · have k1 := (hI.l (hA.o e1 x hx hi)).1
      rw [hg' k1 k2] at k; cases k
theorem rA12t (a b c d e f a' b' c' d' e' f' : Int) (K : Value → Prop) (M : MayS a b c d e f) (M' : MayS a' b' c' d' e' f') (h : ∀ p q r s t u, AluP 12 true a b c d e f a' b' c' d' e' f' p q r s t u → K (Sc p q r s t u)) : nA12t a b c d e f a' b' c' d' e' f' K := by
  rw [nA12t_eq]
  refine ⟨⟨may_any.ra, may_any.ra, rfl⟩, fun _ _ => ?_⟩
  have hA := set_id M
  have hB := set_id M'
  intro v one hI w two hJ
  (repeat (first | refine ob_self ?_ | refine ob_true ?_ | (refine nm_intro ?_; intro _ _)))
  rename_i g1 hg1 g2 hg2 g3 hg3
  have hg : g3 = true → one = true ∧ two = true := fun e => by subst hg1; subst hg2; rw [e] at hg3; cases one <;> cases two <;> first | exact ⟨rfl, rfl⟩ | cases hg3
  have hg' : one = true → two = true → g3 = true := fun e1 e2 => by subst e1; subst e2; subst hg1; subst hg2; exact hg3
  have hv := hI.r hA.m.ra hA.m.rc
  have hw := hJ.r hB.m.ra hB.m.rc
  refine br_cases (fun k => ?_) (fun k => br_cases (fun k2 => ?_) (fun k2 => ?_))
  · refine ⟨⟨hv, hw, rfl⟩, fun n hn => ?_⟩
    subst hn
    refine h _ _ _ _ _ _ (alu_one hv hw fun x y hx hy hi hj => ?_)
    have e1 := hI.i (hg k).1 _ (cut_u true hx) (hA.i x hx hi)
    have e2 := hJ.i (hg k).2 _ (cut_u true hy) (hB.i y hy hj)
    rw [← e1, ← e2, wal_cut]
  · refine ⟨may_any, fun p q r s t u hC => h _ _ _ _ _ _ (alu_more (fun x y hx hy hi hj => ?_) hC.m fun e1 e2 x y hx hy hi hj => ?_)⟩
    · rw [wal_sh true (by decide)]
      have z := shv_u 12 true (cut true y % lim true).toNat (cut_u true hx)
      exact hC.i _ z ⟨tin_all _, uin_all z, sin_all _⟩
    · have := (hJ.l (hB.o e2 y hy hj)).1
      rw [this] at k2; cases k2
  · have k2 : two = true := by simpa using k2
    have hn := n_of true (k := 64) hw rfl
    rw [hn.1]
    refine ob_self ?_
    refine ⟨⟨hn.2, hA.m⟩, fun p3 q3 r3 s3 t3 u3 hS => ⟨hS.m, fun p q r s t u hC => h _ _ _ _ _ _ (alu_more (fun x y hx hy hi hj => ?_) hC.m fun e1 e2 x y hx hy hi hj => ?_)⟩⟩
    · have e2 := hJ.i k2 _ (cut_u true hy) (hB.i y hy hj)
      rw [wal_sh true (by decide), e2]
      exact hC.i _ (shv_u 12 true _ (cut_u true hx)) (hS.i _ (cut_u true hx) (hA.i x hx hi) (cut_lt x))
    · have k1 := (hI.l (hA.o e1 x hx hi)).1
      rw [hg' k1 k2] at k; cases k
theorem rA12f (a b c d e f a' b' c' d' e' f' : Int) (K : Value → Prop) (M : MayS a b c d e f) (M' : MayS a' b' c' d' e' f') (h : ∀ p q r s t u, AluP 12 false a b c d e f a' b' c' d' e' f' p q r s t u → K (Sc p q r s t u)) : nA12f a b c d e f a' b' c' d' e' f' K := by
  rw [nA12f_eq]
  refine ⟨⟨may_any.ra, may_any.ra, rfl⟩, fun _ _ => ?_⟩
  refine ⟨M, fun p1 q1 r1 s1 t1 u1 hA => ⟨M', fun p2 q2 r2 s2 t2 u2 hB => ?_⟩⟩
  intro v one hI w two hJ
  (repeat (first | refine ob_self ?_ | refine ob_true ?_ | (refine nm_intro ?_; intro _ _)))
  rename_i g1 hg1 g2 hg2 g3 hg3
  have hg : g3 = true → one = true ∧ two = true := fun e => by subst hg1; subst hg2; rw [e] at hg3; cases one <;> cases two <;> first | exact ⟨rfl, rfl⟩ | cases hg3
  have hg' : one = true → two = true → g3 = true := fun e1 e2 => by subst e1; subst e2; subst hg1; subst hg2; exact hg3
  have hv := hI.r hA.m.ra hA.m.rc
  have hw := hJ.r hB.m.ra hB.m.rc
  refine br_cases (fun k => ?_) (fun k => br_cases (fun k2 => ?_) (fun k2 => ?_))
  · refine ⟨⟨hv, hw, rfl⟩, fun n hn => ?_⟩
    subst hn
    refine h _ _ _ _ _ _ (alu_one hv hw fun x y hx hy hi hj => ?_)
    have e1 := hI.i (hg k).1 _ (cut_u false hx) (hA.i x hx hi)
    have e2 := hJ.i (hg k).2 _ (cut_u false hy) (hB.i y hy hj)
    rw [← e1, ← e2, wal_cut]
  · refine ⟨may_any, fun p q r s t u hC => h _ _ _ _ _ _ (alu_more (fun x y hx hy hi hj => ?_) hC.m fun e1 e2 x y hx hy hi hj => ?_)⟩
    · rw [wal_sh false (by decide)]
      have z := shv_u 12 false (cut false y % lim false).toNat (cut_u false hx)
      exact hC.i _ z ⟨tin_all _, uin_all z, sin_all _⟩
    · have := (hJ.l (hB.o e2 y hy hj)).1
      rw [this] at k2; cases k2
  · have k2 : two = true := by simpa using k2
    have hn := n_of false (k := 32) hw rfl
    rw [hn.1]
    refine ob_self ?_
    refine ⟨⟨hn.2, hA.m⟩, fun p3 q3 r3 s3 t3 u3 hS => ⟨hS.m, fun p q r s t u hC => h _ _ _ _ _ _ (alu_more (fun x y hx hy hi hj => ?_) hC.m fun e1 e2 x y hx hy hi hj => ?_)⟩⟩
    · have e2 := hJ.i k2 _ (cut_u false hy) (hB.i y hy hj)
      rw [wal_sh false (by decide), e2]
      exact hC.i _ (shv_u 12 false _ (cut_u false hx)) (hS.i _ (cut_u false hx) (hA.i x hx hi) (cut_lt x))
    · have k1 := (hI.l (hA.o e1 x hx hi)).1
      rw [hg' k1 k2] at k; cases k
theorem rA8t (a b c d e f a' b' c' d' e' f' : Int) (K : Value → Prop) (M : MayS a b c d e f) (M' : MayS a' b' c' d' e' f') (h : ∀ p q r s t u, AluP 8 true a b c d e f a' b' c' d' e' f' p q r s t u → K (Sc p q r s t u)) : nA8t a b c d e f a' b' c' d' e' f' K := by
  rw [nA8t_eq]
  refine ⟨⟨may_any.ra, may_any.ra, rfl⟩, fun _ _ => ?_⟩
  have hA := set_id M
  have hB := set_id M'
  intro v one hI w two hJ
  (repeat (first | refine ob_self ?_ | refine ob_true ?_ | (refine nm_intro ?_; intro _ _)))
  rename_i g1 hg1 g2 hg2 g3 hg3
  have hg : g3 = one := by subst hg1; subst hg2; rw [hg3]; cases one <;> cases two <;> rfl
  rw [hg]
  have hv := hI.r hA.m.ra hA.m.rc
  have hw := hJ.r hB.m.ra hB.m.rc
  refine br_cases (fun k => ?_) (fun k => ?_)
  · refine ⟨⟨hv, hw, rfl⟩, fun n hn => ?_⟩
    subst hn
    refine h _ _ _ _ _ _ (alu_one hv hw fun x y hx hy hi hj => ?_)
    have e1 := hI.i k _ (cut_u true hx) (hA.i x hx hi)
    rw [wal_neg, wal_neg, ← e1, cut_cut]
  · have z : uu 0 := by unfold uu; omega
    refine ⟨⟨(of_in z).2, hA.m⟩, fun p q r s t u hC => h _ _ _ _ _ _ (alu_more (fun x y hx hy hi hj => ?_) hC.m fun e1 e2 x y hx hy hi hj => ?_)⟩
    · rw [wal_neg]
      exact hC.i 0 _ z (cut_u true hx) (of_in z).1 (hA.i x hx hi)
    · have k1 := (hI.l (hA.o e1 x hx hi)).1
      rw [k1] at k; cases k
theorem rA8f (a b c d e f a' b' c' d' e' f' : Int) (K : Value → Prop) (M : MayS a b c d e f) (M' : MayS a' b' c' d' e' f') (h : ∀ p q r s t u, AluP 8 false a b c d e f a' b' c' d' e' f' p q r s t u → K (Sc p q r s t u)) : nA8f a b c d e f a' b' c' d' e' f' K := by
  rw [nA8f_eq]
  refine ⟨⟨may_any.ra, may_any.ra, rfl⟩, fun _ _ => ?_⟩
  refine ⟨M, fun p1 q1 r1 s1 t1 u1 hA => ⟨M', fun p2 q2 r2 s2 t2 u2 hB => ?_⟩⟩
  intro v one hI w two hJ
  (repeat (first | refine ob_self ?_ | refine ob_true ?_ | (refine nm_intro ?_; intro _ _)))
  rename_i g1 hg1 g2 hg2 g3 hg3
  have hg : g3 = one := by subst hg1; subst hg2; rw [hg3]; cases one <;> cases two <;> rfl
  rw [hg]
  have hv := hI.r hA.m.ra hA.m.rc
  have hw := hJ.r hB.m.ra hB.m.rc
  refine br_cases (fun k => ?_) (fun k => ?_)
  · refine ⟨⟨hv, hw, rfl⟩, fun n hn => ?_⟩
    subst hn
    refine h _ _ _ _ _ _ (alu_one hv hw fun x y hx hy hi hj => ?_)
    have e1 := hI.i k _ (cut_u false hx) (hA.i x hx hi)
    rw [wal_neg, wal_neg, ← e1, cut_cut]
  · have z : uu 0 := by unfold uu; omega
    refine ⟨⟨(of_in z).2, hA.m⟩, fun p q r s t u hC => h _ _ _ _ _ _ (alu_more (fun x y hx hy hi hj => ?_) hC.m fun e1 e2 x y hx hy hi hj => ?_)⟩
    · rw [wal_neg]
      exact hC.i 0 _ z (cut_u false hx) (of_in z).1 (hA.i x hx hi)
    · have k1 := (hI.l (hA.o e1 x hx hi)).1
      rw [k1] at k; cases k
theorem rA11t (a b c d e f a' b' c' d' e' f' : Int) (K : Value → Prop) (M : MayS a b c d e f) (M' : MayS a' b' c' d' e' f') (h : ∀ p q r s t u, AluP 11 true a b c d e f a' b' c' d' e' f' p q r s t u → K (Sc p q r s t u)) : nA11t a b c d e f a' b' c' d' e' f' K := by
  rw [nA11t_eq]
  refine ⟨⟨may_any.ra, may_any.ra, rfl⟩, fun _ _ => ?_⟩
  have hA := set_id M
  have hB := set_id M'
  intro v one hI w two hJ
  (repeat (first | refine ob_self ?_ | refine ob_true ?_ | (refine nm_intro ?_; intro _ _)))
  rename_i g1 hg1 g2 hg2 g3 hg3
  have hg : g3 = two := by subst hg1; subst hg2; rw [hg3]; cases one <;> cases two <;> rfl
  rw [hg]
  have hv := hI.r hA.m.ra hA.m.rc
  have hw := hJ.r hB.m.ra hB.m.rc
  refine br_cases (fun k => ?_) (fun k => ?_)
  · refine ⟨⟨hv, hw, rfl⟩, fun n hn => ?_⟩
    subst hn
    refine h _ _ _ _ _ _ (alu_one hv hw fun x y hx hy hi hj => ?_)
    have e2 := hJ.i k _ (cut_u true hy) (hB.i y hy hj)
    rw [wal_mov, wal_mov, ← e2, cut_cut]
  · refine h _ _ _ _ _ _ (alu_more (fun x y hx hy hi hj => ?_) hB.m fun e1 e2 x y hx hy hi hj => ?_)
    · rw [wal_mov]
      exact hB.i y hy hj
    · have k1 := (hJ.l (hB.o e2 y hy hj)).1
      rw [k1] at k; cases k
theorem rA11f (a b c d e f a' b' c' d' e' f' : Int) (K : Value → Prop) (M : MayS a b c d e f) (M' : MayS a' b' c' d' e' f') (h : ∀ p q r s t u, AluP 11 false a b c d e f a' b' c' d' e' f' p q r s t u → K (Sc p q r s t u)) : nA11f a b c d e f a' b' c' d' e' f' K := by
  rw [nA11f_eq]
  refine ⟨⟨may_any.ra, may_any.ra, rfl⟩, fun _ _ => ?_⟩
  refine ⟨M, fun p1 q1 r1 s1 t1 u1 hA => ⟨M', fun p2 q2 r2 s2 t2 u2 hB => ?_⟩⟩
  intro v one hI w two hJ
  (repeat (first | refine ob_self ?_ | refine ob_true ?_ | (refine nm_intro ?_; intro _ _)))
  rename_i g1 hg1 g2 hg2 g3 hg3
  have hg : g3 = two := by subst hg1; subst hg2; rw [hg3]; cases one <;> cases two <;> rfl
  rw [hg]
  have hv := hI.r hA.m.ra hA.m.rc
  have hw := hJ.r hB.m.ra hB.m.rc
  refine br_cases (fun k => ?_) (fun k => ?_)
  · refine ⟨⟨hv, hw, rfl⟩, fun n hn => ?_⟩
    subst hn
    refine h _ _ _ _ _ _ (alu_one hv hw fun x y hx hy hi hj => ?_)
    have e2 := hJ.i k _ (cut_u false hy) (hB.i y hy hj)
    rw [wal_mov, wal_mov, ← e2, cut_cut]
  · refine h _ _ _ _ _ _ (alu_more (fun x y hx hy hi hj => ?_) hB.m fun e1 e2 x y hx hy hi hj => ?_)
    · rw [wal_mov]
      exact hB.i y hy hj
    · have k1 := (hJ.l (hB.o e2 y hy hj)).1
      rw [k1] at k; cases k
theorem ta8 : TabOk Try.prog TA8 := by
  refine tab_runK good (by kernel_rfl) (fun vs K h => ?_) ta
  split at h
  · rename_i wide a b c d e f a' b' c' d' e' f'
    obtain ⟨⟨M, M'⟩, h⟩ := h
    cases wide with
    | true => have o := rA1t a b c d e f a' b' c' d' e' f' K M M' h; unfold nA1t at o; exact ⟨TA, EE, true, 90, ta, ee, o⟩
    | false => have o := rA1f a b c d e f a' b' c' d' e' f' K M M' h; unfold nA1f at o; exact ⟨TA, EE, true, 90, ta, ee, o⟩
  · exact h.elim
theorem tan : TabOk Try.prog TAn := by
  refine tab_runK good (by kernel_rfl) (fun vs K h => ?_) tab_nil
  split at h
  · rename_i op wide a b
    obtain ⟨⟨ha, hb, hk⟩, h⟩ := h
    have hw : wal op wide a b = 0 := by
      have hk := of_decide_eq_false hk
      have : op ≠ 0 ∧ op ≠ 1 ∧ op ≠ 2 ∧ op ≠ 3 ∧ op ≠ 4 ∧ op ≠ 5 ∧ op ≠ 6 ∧ op ≠ 7 ∧ op ≠ 8 ∧ op ≠ 9 ∧ op ≠ 10 ∧ op ≠ 11 ∧ op ≠ 12 := by omega
      obtain ⟨h0, h1, h2, h3, h4, h5, h6, h7, h8, h9, h10, h11, h12⟩ := this
      cases wide <;> simp only [wal, fop, h0, h1, h2, h3, h4, h5, h6, h7, h8, h9, h10, h11, h12, if_false]
      rfl
    have o := rWAlu op wide a b K ha hb (by rw [hk, hw]; exact h)
    unfold nWAlu at o; exact ⟨[], EE, true, 90, tab_nil, ee, o⟩
  · exact h.elim
/-- What Alu comes to, of any operation. -/
structure AlP (op : Int) (wide : Bool) (a b c d e f a' b' c' d' e' f' p q r s t u : Int) : Prop where
  i : wok op = true → AluP op wide a b c d e f a' b' c' d' e' f' p q r s t u
  m : MayS p q r s t u
  n : wok op = false → p = 0 ∧ q = 18446744073709551615 ∧ r = 0 ∧ s = 18446744073709551615 ∧ t = -9223372036854775808 ∧ u = 9223372036854775807
theorem rAlu (op : Int) (wide : Bool) (a b c d e f a' b' c' d' e' f' : Int) (K : Value → Prop) (M : MayS a b c d e f) (M' : MayS a' b' c' d' e' f') (h : ∀ p q r s t u, AlP op wide a b c d e f a' b' c' d' e' f' p q r s t u → K (Sc p q r s t u)) :
    ∃ T, TabOk Try.prog T ∧ run Try.prog T EE true 90 28 [.int .i64 op, .bool wide, Sc a b c d e f, Sc a' b' c' d' e' f'] K := by
  cases hk : wok op with
  | false =>
    have o : nAn op wide a b c d e f a' b' c' d' e' f' K := by
      rw [nAn_eq]
      exact ⟨⟨may_any.ra, may_any.ra, hk⟩, h _ _ _ _ _ _ ⟨fun e => (by rw [hk] at e; cases e), may_any, fun _ => ⟨rfl, rfl, rfl, rfl, rfl, rfl⟩⟩⟩
    unfold nAn at o
    exact ⟨TAn, tan, o⟩
  | true =>
    have h : ∀ p q r s t u, AluP op wide a b c d e f a' b' c' d' e' f' p q r s t u → K (Sc p q r s t u) := fun p q r s t u hP => h _ _ _ _ _ _ ⟨fun _ => hP, hP.m, fun e => (by rw [hk] at e; cases e)⟩
    have hk := of_decide_eq_true hk
    have hk : op = 0 ∨ op = 1 ∨ op = 2 ∨ op = 3 ∨ op = 4 ∨ op = 5 ∨ op = 6 ∨ op = 7 ∨ op = 8 ∨ op = 9 ∨ op = 10 ∨ op = 11 ∨ op = 12 := by omega
    rcases hk with rfl | rfl | rfl | rfl | rfl | rfl | rfl | rfl | rfl | rfl | rfl | rfl | rfl <;> cases wide
    · have o := rA0f a b c d e f a' b' c' d' e' f' K M M' h
      unfold nA0f at o; exact ⟨TA, ta, o⟩
    · have o := rA0t a b c d e f a' b' c' d' e' f' K M M' h
      unfold nA0t at o; exact ⟨TA, ta, o⟩
    · have o := rA1f a b c d e f a' b' c' d' e' f' K M M' h
      unfold nA1f at o; exact ⟨TA, ta, o⟩
    · have o := rA1t a b c d e f a' b' c' d' e' f' K M M' h
      unfold nA1t at o; exact ⟨TA, ta, o⟩
    · have o := rA2f a b c d e f a' b' c' d' e' f' K M M' h
      unfold nA2f at o; exact ⟨TA, ta, o⟩
    · have o := rA2t a b c d e f a' b' c' d' e' f' K M M' h
      unfold nA2t at o; exact ⟨TA, ta, o⟩
    · have o := rA3f a b c d e f a' b' c' d' e' f' K M M' h
      unfold nA3f at o; exact ⟨TA, ta, o⟩
    · have o := rA3t a b c d e f a' b' c' d' e' f' K M M' h
      unfold nA3t at o; exact ⟨TA, ta, o⟩
    · have o := rA4f a b c d e f a' b' c' d' e' f' K M M' h
      unfold nA4f at o; exact ⟨TA, ta, o⟩
    · have o := rA4t a b c d e f a' b' c' d' e' f' K M M' h
      unfold nA4t at o; exact ⟨TA, ta, o⟩
    · have o := rA5f a b c d e f a' b' c' d' e' f' K M M' h
      unfold nA5f at o; exact ⟨TA, ta, o⟩
    · have o := rA5t a b c d e f a' b' c' d' e' f' K M M' h
      unfold nA5t at o; exact ⟨TA, ta, o⟩
    · have o := rA6f a b c d e f a' b' c' d' e' f' K M M' h
      unfold nA6f at o; exact ⟨TA, ta, o⟩
    · have o := rA6t a b c d e f a' b' c' d' e' f' K M M' h
      unfold nA6t at o; exact ⟨TA, ta, o⟩
    · have o := rA7f a b c d e f a' b' c' d' e' f' K M M' h
      unfold nA7f at o; exact ⟨TA, ta, o⟩
    · have o := rA7t a b c d e f a' b' c' d' e' f' K M M' h
      unfold nA7t at o; exact ⟨TA, ta, o⟩
    · have o := rA8f a b c d e f a' b' c' d' e' f' K M M' h
      unfold nA8f at o; exact ⟨TA8, ta8, o⟩
    · have o := rA8t a b c d e f a' b' c' d' e' f' K M M' h
      unfold nA8t at o; exact ⟨TA8, ta8, o⟩
    · have o := rA9f a b c d e f a' b' c' d' e' f' K M M' h
      unfold nA9f at o; exact ⟨TA, ta, o⟩
    · have o := rA9t a b c d e f a' b' c' d' e' f' K M M' h
      unfold nA9t at o; exact ⟨TA, ta, o⟩
    · have o := rA10f a b c d e f a' b' c' d' e' f' K M M' h
      unfold nA10f at o; exact ⟨TA, ta, o⟩
    · have o := rA10t a b c d e f a' b' c' d' e' f' K M M' h
      unfold nA10t at o; exact ⟨TA, ta, o⟩
    · have o := rA11f a b c d e f a' b' c' d' e' f' K M M' h
      unfold nA11f at o; exact ⟨TA, ta, o⟩
    · have o := rA11t a b c d e f a' b' c' d' e' f' K M M' h
      unfold nA11t at o; exact ⟨TA, ta, o⟩
    · have o := rA12f a b c d e f a' b' c' d' e' f' K M M' h
      unfold nA12f at o; exact ⟨TA, ta, o⟩
    · have o := rA12t a b c d e f a' b' c' d' e' f' K M M' h
      unfold nA12t at o; exact ⟨TA, ta, o⟩
end Go.Proofs.Ytaplgollkkpnaaa.ScUj
