/- Layer 5: products of bits are sound. -/
import Derived.Test.YtaplgollkkpnaaaQScUb
namespace Go.Proofs.Ytaplgollkkpnaaa.ScUc
open Go Go.RowKit Go.Proofs Go.Proofs.Ytaplgollkkpnaaa.Xc Go.Proofs.Ytaplgollkkpnaaa.Sc Go.Proofs.Ytaplgollkkpnaaa.ScS Go.Proofs.Ytaplgollkkpnaaa.ScG Go.Proofs.Ytaplgollkkpnaaa.ScQ Go.Proofs.Ytaplgollkkpnaaa.ScR Go.Proofs.Ytaplgollkkpnaaa.ScUa Go.Proofs.Ytaplgollkkpnaaa.ScUb Go.Proofs.Ytaplgollkkpnaaa.Bv
set_option linter.unusedVariables false
set_option linter.unusedSimpArgs false
theorem aNz {x : Int} (h : uu x) : aN x 0 = x := by
  rw [aN, b_andNot, show (~~~ BitVec.ofInt 64 0 : W) = BitVec.allOnes 64 by decide, BitVec.and_allOnes, U_ofInt]
  unfold uu at h; omega
theorem and1 {x : Int} (hx : uu x) : Go.bits .and .u64 x 1 = x % 2 := by
  obtain ⟨n, rfl⟩ : ∃ n : Nat, x = n := ⟨x.toNat, by have := hx.1; omega⟩
  have h2 := hx.2
  rw [b_and, show (1 : Int) = ((2 ^ 1 - 1 : Nat) : Int) from rfl, oi_nat, oi_nat]
  unfold U
  rw [BitVec.toNat_and, BitVec.toNat_ofNat, BitVec.toNat_ofNat, Nat.mod_eq_of_lt (show n < 2 ^ 64 by omega), Nat.mod_eq_of_lt (show 2 ^ 1 - 1 < 2 ^ 64 by decide), Nat.and_two_pow_sub_one_eq_mod]
  omega
theorem low_U (X : W) : (U X % 2 = 1 ↔ X.getLsbD 0 = true) := by
  rw [BitVec.getLsbD, Nat.testBit_zero]; unfold U; simp; omega
theorem low_bit {a m x : Int} (ha : uu a) (hm : uu m) (hx : uu x) (h : tin a m x) : (a % 2 = 1 → x % 2 = 1) ∧ (a % 2 = 0 → m % 2 = 0 → x % 2 = 0) := by
  obtain ⟨A, rfl⟩ := exW ha
  obtain ⟨M, rfl⟩ := exW hm
  obtain ⟨X, rfl⟩ := exW hx
  have h := (tin_U _ _ _).1 h
  have h0 := congrArg (fun w : W => w.getLsbD 0) h
  simp only [BitVec.getLsbD_and, BitVec.getLsbD_not, show decide (0 < 64) = true from rfl, Bool.true_and] at h0
  have a1 := low_U A; have m1 := low_U M; have x1 := low_U X
  constructor
  · intro k
    rw [a1.1 k] at h0
    rw [x1]; simp at h0; exact h0.1
  · intro k1 k2
    have a2 : A.getLsbD 0 = false := by cases hq : A.getLsbD 0 with | false => rfl | true => exact absurd (a1.2 hq) (by omega)
    have m2 : M.getLsbD 0 = false := by cases hq : M.getLsbD 0 with | false => rfl | true => exact absurd (m1.2 hq) (by omega)
    rw [a2, m2] at h0
    have x2 : X.getLsbD 0 = false := by simpa using h0
    have : ¬ U X % 2 = 1 := fun k => by rw [x1.1 k] at x2; cases x2
    omega
theorem tin_none (m : Int) : tin 0 m 0 := by
  rw [tin, aN, b_andNot, show BitVec.ofInt 64 0 = 0#64 from rfl, BitVec.zero_and]; rfl
theorem tin_any {v m y : Int} (hv : uu v) (hm : uu m) (hy : uu y) (h : tin v m y) : tin 0 (Go.bits .or .u64 v m) y := by
  obtain ⟨V, rfl⟩ := exW hv
  obtain ⟨M, rfl⟩ := exW hm
  obtain ⟨Y, rfl⟩ := exW hy
  have h := (tin_U _ _ _).1 h
  rw [b_or, ofInt_U, ofInt_U, show (0 : Int) = U 0#64 from rfl, tin_U, ← h]
  (apply BitVec.eq_of_getLsbD_eq; intro i hi; simp only [BitVec.getLsbD_and, BitVec.getLsbD_or, BitVec.getLsbD_xor, BitVec.getLsbD_not, BitVec.getLsbD_zero, hi, decide_true, Bool.true_and]); cases Y.getLsbD i <;> cases M.getLsbD i <;> rfl
theorem tin_diff {v m y : Int} (hv : uu v) (hm : uu m) (hy : uu y) (h : tin v m y) : tin 0 m (uw (y - v)) := by
  obtain ⟨V, rfl⟩ := exW hv
  obtain ⟨M, rfl⟩ := exW hm
  obtain ⟨Y, rfl⟩ := exW hy
  have h := (tin_U _ _ _).1 h
  rw [uw, wrap_u64, oi_sub, ofInt_U, ofInt_U, show (0 : Int) = U 0#64 from rfl, tin_U]
  have h0 : V &&& (Y &&& M) = 0#64 := by
    rw [← h]; (apply BitVec.eq_of_getLsbD_eq; intro i hi; simp only [BitVec.getLsbD_and, BitVec.getLsbD_or, BitVec.getLsbD_xor, BitVec.getLsbD_not, BitVec.getLsbD_zero, hi, decide_true, Bool.true_and]); cases Y.getLsbD i <;> cases M.getLsbD i <;> rfl
  have e : Y = V + (Y &&& M) := by
    rw [BitVec.add_eq_or_of_and_eq_zero _ _ h0, ← h]
    (apply BitVec.eq_of_getLsbD_eq; intro i hi; simp only [BitVec.getLsbD_and, BitVec.getLsbD_or, BitVec.getLsbD_xor, BitVec.getLsbD_not, BitVec.getLsbD_zero, hi, decide_true, Bool.true_and]); cases Y.getLsbD i <;> cases M.getLsbD i <;> rfl
  have e2 : Y - V = Y &&& M := by
    generalize Y &&& M = z at *
    subst e; grind
  rw [e2]
  (apply BitVec.eq_of_getLsbD_eq; intro i hi; simp only [BitVec.getLsbD_and, BitVec.getLsbD_or, BitVec.getLsbD_xor, BitVec.getLsbD_not, BitVec.getLsbD_zero, hi, decide_true, Bool.true_and]); cases Y.getLsbD i <;> cases M.getLsbD i <;> rfl
theorem uw_k (z : Int) : ∃ k, uw z = z + 18446744073709551616 * k := ⟨-(z / 18446744073709551616), by rw [uw_eq]; omega⟩
theorem uw_of {z z' : Int} (t : Int) (h : z = z' + 18446744073709551616 * t) : uw z = uw z' := by
  rw [uw_eq, uw_eq, h, Int.add_mul_emod_self_left]
theorem uu_uw (z : Int) : uu (uw z) := by rw [uw_eq]; unfold uu; omega
theorem ar1 (p y v x' a' : Int) : uw (uw (p + uw (y - v)) + (x' * uw (y * 2) - a' * uw (v * 2))) = uw (p + ((2 * x' + 1) * y - (2 * a' + 1) * v)) := by
  obtain ⟨k1, e1⟩ := uw_k (y - v)
  obtain ⟨k2, e2⟩ := uw_k (p + uw (y - v))
  obtain ⟨k3, e3⟩ := uw_k (y * 2)
  obtain ⟨k4, e4⟩ := uw_k (v * 2)
  rw [e2, e3, e4, e1]
  refine uw_of (k1 + k2 + x' * k3 - a' * k4) ?_
  grind
theorem ar2 (p q y v x' a' x0 : Int) (hq : q = x0 * y) : uw (uw (p + q) + (x' * uw (y * 2) - a' * uw (v * 2))) = uw (p + ((2 * x' + x0) * y - (2 * a') * v)) := by
  obtain ⟨k2, e2⟩ := uw_k (p + q)
  obtain ⟨k3, e3⟩ := uw_k (y * 2)
  obtain ⟨k4, e4⟩ := uw_k (v * 2)
  rw [e2, e3, e4, hq]
  refine uw_of (k2 + x' * k3 - a' * k4) ?_
  grind
theorem blkM : blk Try.prog 81 0 = .loop bodyM := by kernel_rfl
structure MI where
  x0 : Value
  x1 : Value
  a : Int
  am : Int
  b : Int
  bm : Int
  r : Int
  rm : Int
  p : Int
  pm : Int
  s : Int
  sm : Int
def MI.st (i : MI) : St := SM i.x0 i.x1 i.a i.am i.b i.bm i.r i.rm i.p i.pm i.s i.sm
def MI.ok (i : MI) : Prop := okM i.a i.am i.b i.bm i.s i.sm
def MI.K (i : MI) (e : Exit) (s' : St) : Prop := ∃ b' bm' v m, e = .exit 0 ∧ s' = SM i.x0 i.x1 0 0 b' bm' i.r i.rm i.p i.pm v m ∧ MulP i.a i.am i.b i.bm i.s i.sm v m ∧ uu b' ∧ uu bm'
theorem two_pow : (2 : Int) ^ min (Int.toNat (Int.tmod (IntKind.wrap .u64 1) 64)) (IntKind.bits .u64) = 2 := by decide +kernel
theorem step (i : MI) (hI : i.ok) (hz : ¬ (i.a = 0 ∧ i.am = 0)) (v m : Int) (hv : ap v m ∧ uu v ∧ uu m)
    (h : ∀ v' m', MulP (i.a / 2) (i.am / 2) (uw (i.b * 2)) (uw (i.bm * 2)) v m v' m' → MulP i.a i.am i.b i.bm i.s i.sm v' m') :
    ∃ j : MI, St.mk ([AV.v i.x0, AV.v i.x1, AV.p 0 0, AV.p 1 0, AV.p 2 0, AV.p 3 0, AV.p 4 0] ++ List.replicate 40 .any) [bx (i.a / 2) (i.am / 2), bx (uw (i.b * 2)) (uw (i.bm * 2)), bx i.r i.rm, bx i.p i.pm, bx v m] = j.st ∧ j.ok ∧ j.a.toNat + j.am.toNat < i.a.toNat + i.am.toNat ∧ ∀ e' s', j.K e' s' → i.K e' s' := by
  obtain ⟨⟨a1, a2, a3⟩, ⟨b1, b2, b3⟩, s1, s2, s3⟩ := hI
  have ta := (top_rsh i.a i.am 1 (by omega) a2).m a1 a2 a3
  have tb := (top_lsh i.b i.bm 1 (by omega) b2).m b1 b2 b3
  refine ⟨⟨i.x0, i.x1, i.a / 2, i.am / 2, uw (i.b * 2), uw (i.bm * 2), i.r, i.rm, i.p, i.pm, v, m⟩, rfl, ⟨⟨ta.2.1, ta.2.2, ta.1⟩, ⟨tb.2.1, tb.2.2, tb.1⟩, hv.2.1, hv.2.2, hv.1⟩, ?_, ?_⟩
  · show (i.a / 2).toNat + (i.am / 2).toNat < i.a.toNat + i.am.toNat
    unfold uu at a1 a2; omega
  · rintro e' s' ⟨b', bm', v', m', h1, h2, h3, h4⟩
    exact ⟨b', bm', v', m', h1, h2, h v' m' h3, h4⟩
theorem tins {a am b bm x y : Int} (a2 : uu am) (b2 : uu bm) (hx : uu x) (hy : uu y) (h1 : tin a am x) (h2 : tin b bm y) : tin (a / 2) (am / 2) (x / 2) ∧ tin (uw (b * 2)) (uw (bm * 2)) (uw (y * 2)) ∧ uu (x / 2) ∧ uu (uw (y * 2)) :=
  ⟨(top_rsh a am 1 (by omega) a2).s x hx h1, (top_lsh b bm 1 (by omega) b2).s y hy h2, by unfold uu at *; omega, uu_uw _⟩
theorem lokM (hT : TabOk Try.prog TAo) : LOk Try.prog LtM := by
  refine lok_one fun s K hF => ?_
  unfold FM at hF
  split at hF
  · rename_i x0 x1 t a am b bm r rm p pm s sm
    obtain ⟨hs, hok, hK⟩ := hF
    have key := loop_ix (P := Try.prog) (c := bodyM) MI.st MI.ok (fun i => i.a.toNat + i.am.toNat) MI.K ?_ ⟨x0, x1, a, am, b, bm, r, rm, p, pm, s, sm⟩ hok
    · obtain ⟨e, s', ⟨b', bm', v, m, rfl, rfl, hM, hb⟩, hl⟩ := key
      refine ⟨_, _, hK b' bm' v m hM hb, ?_⟩
      rw [blkM]
      refine sw_pre (n := 7) ?_
      rw [hs]
      exact lw_of hl
    · clear hs hok hK x0 x1 t a am b bm r rm p pm s sm K
      intro i hI
      have hI' := hI
      obtain ⟨⟨a1, a2, a3⟩, ⟨b1, b2, b3⟩, s1, s2, s3⟩ := hI'
      refine rnd_sound (n := 90) (k := 7) (gm := true) good hT ee (by kernel_rfl) ?_
      show rnd Try.prog TAo EE true 90 7 bodyM (SM i.x0 i.x1 i.a i.am i.b i.bm i.r i.rm i.p i.pm i.s i.sm) _
      have o : nRnd i.x0 i.x1 i.a i.am i.b i.bm i.r i.rm i.p i.pm i.s i.sm (fun e s1 => (e ≠ .normal ∧ i.K e s1) ∨ (e = .normal ∧ ∃ j : MI, s1 = j.st ∧ j.ok ∧ j.a.toNat + j.am.toNat < i.a.toNat + i.am.toNat ∧ ∀ e' s', j.K e' s' → i.K e' s')) := by
        rw [nRnd_eq]
        rw [two_pow]
        refine br_cases (fun q => ?_) (fun q => Or.inl ⟨by simp, i.b, i.bm, i.s, i.sm, rfl, ?_, ⟨fun x y p hx hy hp t1 t2 t3 => ?_, s3, s1, s2⟩, b1, b2⟩)
        · have hz : ¬ (i.a = 0 ∧ i.am = 0) := by
            rintro ⟨e1, e2⟩
            rw [e1, e2] at q; cases q
          have q1 := and1 a1
          have q2 := and1 a2
          rw [q1, q2]
          refine br_cases (fun c1 => ?_) (fun c1 => br_cases (fun c2 => ?_) (fun c2 => ?_))
          · have c1 : i.a % 2 = 1 := by
              have h : i.a % 2 ≠ 0 := by simpa using c1
              omega
            intro v m hA
            (repeat (first | refine ob_self ?_ | refine ob_true ?_ | (refine nm_intro ?_; intro _ _)))
            refine Or.inr ⟨rfl, step i hI hz v m hA.m fun v' m' hM => ⟨fun x y p hx hy hp t1 t2 t3 => ?_, hM.m⟩⟩
            have hd := tin_diff b1 b2 hy t2
            have h1 := hA.s p (uw (y - i.b)) hp (uu_uw _) t3 hd
            obtain ⟨g1, g2, g3, g4⟩ := tins a2 b2 hx hy t1 t2
            have h2 := hM.s (x / 2) (uw (y * 2)) _ g3 g4 (uu_uw _) g1 g2 h1
            have hx1 := (low_bit a1 a2 hx t1).1 c1
            rw [ar1] at h2
            rw [show x = 2 * (x / 2) + 1 by omega, show i.a = 2 * (i.a / 2) + 1 by omega]
            exact h2
          · have c1 : i.a % 2 = 0 := by simpa using c1
            have c2 : i.am % 2 = 1 := by
              have h : i.am % 2 ≠ 0 := by simpa using c2
              omega
            intro v m hA
            (repeat (first | refine ob_self ?_ | refine ob_true ?_ | (refine nm_intro ?_; intro _ _)))
            refine Or.inr ⟨rfl, step i hI hz v m hA.m fun v' m' hM => ⟨fun x y p hx hy hp t1 t2 t3 => ?_, hM.m⟩⟩
            obtain ⟨g1, g2, g3, g4⟩ := tins a2 b2 hx hy t1 t2
            have fin : ∀ q x0, q = x0 * y → x = 2 * (x / 2) + x0 → uu q → tin 0 (Go.bits .or .u64 i.b i.bm) q → tin v' m' (uw (p + (x * y - i.a * i.b))) := fun q x0 hq hx0 huq htq => by
              have h1 := hA.s p q hp huq t3 htq
              have h2 := hM.s (x / 2) (uw (y * 2)) _ g3 g4 (uu_uw _) g1 g2 h1
              rw [ar2 p q y i.b (x / 2) (i.a / 2) x0 hq] at h2
              rw [hx0, show i.a = 2 * (i.a / 2) by omega]
              exact h2
            by_cases hx0 : x % 2 = 0
            · exact fin 0 0 (by omega) (by omega) (by unfold uu; omega) (tin_none _)
            · exact fin y 1 (by omega) (by omega) hy (tin_any b1 b2 hy t2)
          · have c1 : i.a % 2 = 0 := by simpa using c1
            have c2 : i.am % 2 = 0 := by simpa using c2
            (repeat (first | refine ob_self ?_ | refine ob_true ?_ | (refine nm_intro ?_; intro _ _)))
            refine Or.inr ⟨rfl, step i hI hz i.s i.sm ⟨s3, s1, s2⟩ fun v' m' hM => ⟨fun x y p hx hy hp t1 t2 t3 => ?_, hM.m⟩⟩
            obtain ⟨g1, g2, g3, g4⟩ := tins a2 b2 hx hy t1 t2
            have hx0 := (low_bit a1 a2 hx t1).2 c1 c2
            have h2 := hM.s (x / 2) (uw (y * 2)) p g3 g4 hp g1 g2 t3
            have e : uw (p + 0) = p := by rw [uw_eq]; unfold uu at hp; omega
            have h3 := ar2 p 0 y i.b (x / 2) (i.a / 2) 0 (by omega)
            rw [e] at h3
            rw [h3] at h2
            rw [show x = 2 * (x / 2) + 0 by omega, show i.a = 2 * (i.a / 2) by omega]
            exact h2
        · have : i.a = 0 ∧ i.am = 0 := by
            by_cases e1 : i.a = 0 <;> by_cases e2 : i.am = 0 <;> simp_all
          rw [this.1, this.2]; rfl
        · have : i.a = 0 ∧ i.am = 0 := by
            by_cases e1 : i.a = 0 <;> by_cases e2 : i.am = 0 <;> simp_all
          rw [this.1, this.2] at t1
          rw [this.1]
          have ex : x = 0 := by rw [tin, aNz hx] at t1; exact t1
          subst ex
          rw [show p + (0 * y - 0 * i.b) = p by omega]
          have : uw p = p := by rw [uw_eq]; unfold uu at hp; omega
          rw [this]; exact t3
      unfold nRnd at o
      exact o
  · exact hF.elim
theorem rTMul (a b c d : Int) (K : Value → Prop) (ha : uu a) (hb : uu b) (hc : uu c) (hd : uu d) (h1 : ap a b) (h2 : ap c d) (h : ∀ v m, TOp (fun x y => uw (x * y)) a b c d v m → K (T2 v m)) : nTMul a b c d K := by
  rw [nTMul_eq]
  have z : uu 0 := by unfold uu; omega
  have hz : ap 0 0 := by rw [ap, aNz z]
  refine ⟨rfl, rfl, ⟨⟨ha, hb, h1⟩, ⟨hc, hd, h2⟩, z, z, hz⟩, fun b' bm' s sm hM _ v m hA => h v m ⟨fun x y hx hy t1 t2 => ?_, hA.m⟩⟩
  have k1 := hM.s x y 0 hx hy z t1 t2 (tin_none 0)
  have u := uu_uw (a * c)
  have k2 := hA.s (uw (a * c)) _ u (uu_uw _) (by rw [tin, aNz u]) k1
  have e : uw (uw (a * c) + uw (0 + (x * y - a * c))) = uw (x * y) := by
    obtain ⟨k1, e1⟩ := uw_k (a * c)
    obtain ⟨k2, e2⟩ := uw_k (0 + (x * y - a * c))
    rw [e1, e2]
    refine uw_of (k1 + k2) ?_
    grind
  rw [e] at k2
  exact k2
end Go.Proofs.Ytaplgollkkpnaaa.ScUc
