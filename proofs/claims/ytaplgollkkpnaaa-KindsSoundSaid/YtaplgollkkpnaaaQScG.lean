/- Layer 5: what the parts of Norm come to. -/
import Derived.Test.YtaplgollkkpnaaaQScF
import Derived.Test.YtaplgollkkpnaaaQScX
namespace Go.Proofs.Ytaplgollkkpnaaa.ScG
open Go Go.RowKit Go.Proofs Go.Proofs.Ytaplgollkkpnaaa.Xc Go.Proofs.Ytaplgollkkpnaaa.Sc Go.Proofs.Ytaplgollkkpnaaa.ScS Go.Proofs.Ytaplgollkkpnaaa.ScF Go.Proofs.Ytaplgollkkpnaaa.ScX Go.Proofs.Ytaplgollkkpnaaa.Bv
set_option linter.unusedVariables false
set_option linter.unusedSimpArgs false
abbrev sw (v : Int) : Int := IntKind.i64.wrap v
abbrev uw (v : Int) : Int := IntKind.u64.wrap v
def uu (x : Int) : Prop := 0 ≤ x ∧ x < 18446744073709551616
def ss (x : Int) : Prop := -9223372036854775808 ≤ x ∧ x < 9223372036854775808
def tin (a b v : Int) : Prop := aN v b = a
def uin (c d v : Int) : Prop := c ≤ v ∧ v ≤ d
def sin (e f v : Int) : Prop := e ≤ sw v ∧ sw v ≤ f
theorem sw_eq (v : Int) : sw v = (v + 9223372036854775808) % 18446744073709551616 - 9223372036854775808 := by
  rw [sw, wrap_i64', S_ofInt]; unfold wrap64; omega
theorem uw_eq (v : Int) : uw v = v % 18446744073709551616 := by rw [uw, wrap_u64, U_ofInt]
theorem uu_aN (x y : Int) : uu (aN x y) := by rw [aN, b_andNot]; exact ⟨U_nonneg _, U_lt _⟩
structure ToUP (e f c d : Int) : Prop where
  s : ss e → ss f → ∀ v, uu v → sin e f v → uin c d v
  m : ss e → ss f → e ≤ f → c ≤ d ∧ uu c ∧ uu d
theorem oToU (e f : Int) : ∃ c d, ToUP e f c d ∧ nToU e f (· = T2 c d) := by
  by_cases q : (!decide (e < 0) == decide (f < 0)) = true
  · refine ⟨0, 18446744073709551615, ⟨fun _ _ v hv _ => ⟨hv.1, by have := hv.2; omega⟩, fun _ _ _ => ⟨by omega, by unfold uu; omega, by unfold uu; omega⟩⟩, ?_⟩
    rw [nToU_eq]; exact br_yes q rfl
  · refine ⟨uw e, uw f, ?_, by rw [nToU_eq]; exact br_no (by simpa using q) rfl⟩
    have hsame : (e < 0 ↔ f < 0) := by
      by_cases h1 : e < 0 <;> by_cases h2 : f < 0 <;> simp_all <;> omega
    refine ⟨fun he hf v hv hs => ?_, fun he hf hle => ?_⟩
    · simp only [sin, uin, sw_eq, uw_eq, uu, ss] at hs hv he hf ⊢; omega
    · simp only [uw_eq, uu, ss] at he hf ⊢; omega
structure ToSP (c d e f : Int) : Prop where
  s : ∀ v, uu v → uin c d v → sin e f v
  m : uu c → uu d → c ≤ d → e ≤ f ∧ ss e ∧ ss f
theorem oToS (c d : Int) : ∃ e f, ToSP c d e f ∧ nToS c d (· = S2 e f) := by
  have hp : ∀ x : Int, x / 2 ^ min (Int.toNat 63) (IntKind.bits .u64) = x / 9223372036854775808 := fun x => rfl
  by_cases q : (c / 9223372036854775808 != d / 9223372036854775808) = true
  · refine ⟨-9223372036854775808, 9223372036854775807, ⟨fun v hv _ => by simp only [sin, sw_eq]; omega, fun _ _ _ => ⟨by omega, by unfold ss; omega, by unfold ss; omega⟩⟩, ?_⟩
    rw [nToS_eq]; exact ob_self (ob_self (br_yes (by rw [hp, hp]; exact q) rfl))
  · refine ⟨sw c, sw d, ?_, by rw [nToS_eq]; exact ob_self (ob_self (br_no (by rw [hp, hp]; simpa using q) rfl))⟩
    have hsame : c / 9223372036854775808 = d / 9223372036854775808 := by simpa using q
    refine ⟨fun v hv hs => ?_, fun he hf hle => ?_⟩
    · simp only [sin, uin, sw_eq, uu] at hs hv ⊢; omega
    · simp only [sw_eq, uu, ss] at he hf ⊢; omega
structure FromTP (a b c d e f : Int) : Prop where
  s : ∀ v, uu v → tin a b v → uin c d v ∧ sin e f v
  m : ap a b → uu a → uu b → c ≤ d ∧ uu c ∧ uu d ∧ e ≤ f ∧ ss e ∧ ss f
structure TMeetP (a b c d v m : Int) (ok : Bool) : Prop where
  s : ∀ x, uu x → tin a b x → tin c d x → ok = true ∧ tin v m x
  w : ap a b → ap c d → ok = true → aN m b = 0 ∧ aN v b = a ∧ ap v m ∧ uu v ∧ uu m
  w2 : ap a b → ap c d → ok = true → aN m d = 0 ∧ aN v d = c
  n : ok = false → v = 0 ∧ m = 0
theorem oTMeet (a b c d : Int) : ∃ v m ok, TMeetP a b c d v m ok ∧ nTMeet a b c d (· = .tuple #[T2 v m, .bool ok]) := by
  by_cases q : (Go.bits .andNot .u64 (Go.bits .xor .u64 a c) (Go.bits .or .u64 b d) != 0) = true
  · refine ⟨0, 0, false, ⟨fun x hx h1 h2 => ?_, fun _ _ h => (by cases h), fun _ _ h => (by cases h), fun _ => ⟨rfl, rfl⟩⟩, by rw [nTMeet_eq]; exact br_yes q rfl⟩
    exfalso
    simp only [bne_iff_ne, ne_eq] at q
    apply q
    subst h1; subst h2
    simp only [aN, b_andNot, b_or, b_xor, ofInt_U]
    rw [show (0 : Int) = U 0#64 from rfl]; congr 1
    generalize BitVec.ofInt 64 x = x; generalize BitVec.ofInt 64 b = b; generalize BitVec.ofInt 64 d = d
    (apply BitVec.eq_of_getLsbD_eq; intro i hi; simp only [BitVec.getLsbD_and, BitVec.getLsbD_or, BitVec.getLsbD_xor, BitVec.getLsbD_not, BitVec.getLsbD_zero, hi, decide_true, Bool.true_and]); cases x.getLsbD i <;> cases b.getLsbD i <;> cases d.getLsbD i <;> rfl
  · refine ⟨_, _, true, ?_, by rw [nTMeet_eq]; exact br_no (by simpa using q) rfl⟩
    have q2 : Go.bits .andNot .u64 (Go.bits .xor .u64 a c) (Go.bits .or .u64 b d) = 0 := by simpa using q
    clear q
    rw [show (0 : Int) = U 0#64 from rfl] at q2
    simp only [b_andNot, b_or, b_xor, ofInt_U, U_inj] at q2
    refine (fun (k : ap a b → ap c d → (aN _ b = 0 ∧ aN _ b = a ∧ ap _ _ ∧ uu _ ∧ uu _) ∧ (aN _ d = 0 ∧ aN _ d = c)) => ⟨fun x hx h1 h2 => ⟨rfl, ?_⟩, fun h1 h2 _ => (k h1 h2).1, fun h1 h2 _ => (k h1 h2).2, fun h => by cases h⟩) (fun h1 h2 => ?_)
    rotate_left
    · subst h1; subst h2
      simp only [tin, aN, b_andNot, b_or, b_and, ofInt_U]; congr 1
      generalize BitVec.ofInt 64 x = x; generalize BitVec.ofInt 64 b = b; generalize BitVec.ofInt 64 d = d
      (apply BitVec.eq_of_getLsbD_eq; intro i hi; simp only [BitVec.getLsbD_and, BitVec.getLsbD_or, BitVec.getLsbD_xor, BitVec.getLsbD_not, BitVec.getLsbD_zero, hi, decide_true, Bool.true_and]); cases x.getLsbD i <;> cases b.getLsbD i <;> cases d.getLsbD i <;> rfl
    · simp only [ap, aN, b_andNot, b_or, b_and, ofInt_U] at h1 h2 ⊢
      have ha : a = U (BitVec.ofInt 64 a) := by rw [← h1, ofInt_U]
      have hc : c = U (BitVec.ofInt 64 c) := by rw [← h2, ofInt_U]
      rw [ha, U_inj, ofInt_U] at h1; rw [hc, U_inj, ofInt_U] at h2
      generalize BitVec.ofInt 64 a = x at *; generalize BitVec.ofInt 64 b = y at *; generalize BitVec.ofInt 64 c = z at *; generalize BitVec.ofInt 64 d = t at *
      subst ha; subst hc
      have hb : ∀ i : Nat, ((x.getLsbD i ^^ z.getLsbD i) && !(y.getLsbD i || t.getLsbD i)) = false ∧ (x.getLsbD i && !y.getLsbD i) = x.getLsbD i ∧ (z.getLsbD i && !t.getLsbD i) = z.getLsbD i := by
        intro i
        by_cases hi : i < 64
        · have k1 := congrArg (fun w : W => w.getLsbD i) q2
          have k2 := congrArg (fun w : W => w.getLsbD i) h1
          have k3 := congrArg (fun w : W => w.getLsbD i) h2
          simp only [BitVec.getLsbD_and, BitVec.getLsbD_or, BitVec.getLsbD_xor, BitVec.getLsbD_not, BitVec.getLsbD_zero, hi, decide_true, Bool.true_and] at k1 k2 k3
          exact ⟨k1, k2, k3⟩
        · rw [BitVec.getLsbD_of_ge x i (by omega), BitVec.getLsbD_of_ge y i (by omega), BitVec.getLsbD_of_ge z i (by omega), BitVec.getLsbD_of_ge t i (by omega)]; exact ⟨rfl, rfl, rfl⟩
      rw [show (0 : Int) = U 0#64 from rfl]
      simp only [U_inj]
      refine ⟨⟨?_, ?_, ?_, ⟨U_nonneg _, U_lt _⟩, ⟨U_nonneg _, U_lt _⟩⟩, ?_, ?_⟩
      all_goals
        (apply BitVec.eq_of_getLsbD_eq; intro i hi; simp only [BitVec.getLsbD_and, BitVec.getLsbD_or, BitVec.getLsbD_xor, BitVec.getLsbD_not, BitVec.getLsbD_zero, hi, decide_true, Bool.true_and])
        obtain ⟨k1, k2, k3⟩ := hb i
        generalize x.getLsbD i = p1 at *; generalize y.getLsbD i = p2 at *; generalize z.getLsbD i = p3 at *; generalize t.getLsbD i = p4 at *
        cases p1 <;> cases p2 <;> cases p3 <;> cases p4 <;> first | rfl | exact absurd k1 (by decide) | exact absurd k2 (by decide) | exact absurd k3 (by decide)
theorem sub_le {x y : W} (h : x &&& y = x) : U x ≤ U y := by
  have : x.toNat ≤ y.toNat := by rw [← h, BitVec.toNat_and]; exact Nat.and_le_right
  unfold U; omega
theorem hi63 (x : W) : 9223372036854775808 ≤ U x ↔ x.getLsbD 63 = true := by
  have h1 := BitVec.msb_eq_decide x
  have h2 := BitVec.msb_eq_getLsbD_last x
  rw [h1] at h2
  rw [← h2]; unfold U; simp
  omega
theorem ss_sw (v : Int) : ss (sw v) := by rw [sw_eq]; unfold ss; omega
abbrev H : W := BitVec.ofNat 64 9223372036854775808
theorem oFromT (a b : Int) : ∃ c d e f, FromTP a b c d e f ∧ nFromT a b (· = .tuple #[T2 c d, S2 e f]) := by
  have fin : ∀ c d e f, c = a → (∃ z, d = U z) → (∃ y, e = sw y) → (∃ y, f = sw y) → (∀ v, uu v → tin a b v → uin c d v ∧ sin e f v) → FromTP a b c d e f := by
    rintro c d e f rfl ⟨z, rfl⟩ ⟨y, rfl⟩ ⟨y', rfl⟩ hs
    refine ⟨hs, fun h1 h2 h3 => ?_⟩
    obtain ⟨⟨k1, k2⟩, k3, k4⟩ := hs c h2 h1
    exact ⟨by omega, h2, ⟨U_nonneg _, U_lt _⟩, by omega, ss_sw _, ss_sw _⟩
  by_cases q : (Go.bits .and .u64 b 9223372036854775808 == 0) = true
  · refine ⟨_, _, _, _, fin _ _ _ _ rfl ⟨_, b_or _ _⟩ ⟨_, rfl⟩ ⟨_, rfl⟩ ?_, by rw [nFromT_eq]; exact br_yes q rfl⟩
    intro v hv ht
    have q2 : Go.bits .and .u64 b 9223372036854775808 = 0 := by simpa using q
    clear q
    rw [show (0 : Int) = U 0#64 from rfl] at q2
    simp only [b_and, U_inj] at q2
    have hv2 : v = U (BitVec.ofInt 64 v) := by rw [U_ofInt]; unfold uu at hv; omega
    subst ht
    simp only [aN, b_andNot, b_or, ofInt_U, uin, sin, sw_eq]
    generalize BitVec.ofInt 64 v = x at *; generalize BitVec.ofInt 64 b = y at *
    subst hv2
    have s1 : U (x &&& ~~~y) ≤ U x := sub_le (by (apply BitVec.eq_of_getLsbD_eq; intro i hi; simp only [BitVec.getLsbD_and, BitVec.getLsbD_or, BitVec.getLsbD_xor, BitVec.getLsbD_not, BitVec.getLsbD_zero, hi, decide_true, Bool.true_and]); cases x.getLsbD i <;> cases y.getLsbD i <;> rfl)
    have s2 : U x ≤ U (x &&& ~~~y ||| y) := sub_le (by (apply BitVec.eq_of_getLsbD_eq; intro i hi; simp only [BitVec.getLsbD_and, BitVec.getLsbD_or, BitVec.getLsbD_xor, BitVec.getLsbD_not, BitVec.getLsbD_zero, hi, decide_true, Bool.true_and]); cases x.getLsbD i <;> cases y.getLsbD i <;> rfl)
    have yb : y.getLsbD 63 = false := by
      have := congrArg (fun w : W => w.getLsbD 63) q2
      simp only [BitVec.getLsbD_and] at this
      rw [show (BitVec.ofInt 64 9223372036854775808).getLsbD 63 = true by decide] at this
      simpa using this
    have t1 := hi63 x; have t2 := hi63 (x &&& ~~~y); have t3 := hi63 (x &&& ~~~y ||| y)
    simp only [BitVec.getLsbD_and, BitVec.getLsbD_or, BitVec.getLsbD_not, yb] at t2 t3
    simp at t2 t3
    have u1 := U_lt x; have u2 := U_lt (x &&& ~~~y ||| y); have u3 := U_nonneg (x &&& ~~~y)
    refine ⟨⟨s1, s2⟩, ?_⟩
    by_cases hx : x.getLsbD 63 = true
    · have := t1.2 hx; have := t2.2 hx; have := t3.2 hx; omega
    · have : ¬ 9223372036854775808 ≤ U x := fun h => hx (t1.1 h)
      have : ¬ 9223372036854775808 ≤ U (x &&& ~~~y) := fun h => hx (t2.1 h)
      have : ¬ 9223372036854775808 ≤ U (x &&& ~~~y ||| y) := fun h => hx (t3.1 h)
      omega
  · refine ⟨_, _, _, _, fin _ _ _ _ rfl ⟨_, b_or _ _⟩ ⟨_, rfl⟩ ⟨_, rfl⟩ ?_, by rw [nFromT_eq]; exact br_no (by simpa using q) rfl⟩
    intro v hv ht
    have q2 : ¬ Go.bits .and .u64 b 9223372036854775808 = 0 := by simpa using q
    clear q
    rw [show (0 : Int) = U 0#64 from rfl] at q2
    simp only [b_and, U_inj] at q2
    have hv2 : v = U (BitVec.ofInt 64 v) := by rw [U_ofInt]; unfold uu at hv; omega
    subst ht
    simp only [aN, b_andNot, b_or, ofInt_U, uin, sin, sw_eq]
    rw [show BitVec.ofInt 64 9223372036854775808 = H by decide] at q2 ⊢
    generalize BitVec.ofInt 64 v = x at *; generalize BitVec.ofInt 64 b = y at *
    subst hv2
    have hH : ∀ i, i < 64 → H.getLsbD i = decide (i = 63) := by decide
    have s1 : U (x &&& ~~~y) ≤ U x := sub_le (by (apply BitVec.eq_of_getLsbD_eq; intro i hi; simp only [BitVec.getLsbD_and, BitVec.getLsbD_or, BitVec.getLsbD_xor, BitVec.getLsbD_not, BitVec.getLsbD_zero, hi, decide_true, Bool.true_and]); cases x.getLsbD i <;> cases y.getLsbD i <;> rfl)
    have s2 : U x ≤ U (x &&& ~~~y ||| y) := sub_le (by (apply BitVec.eq_of_getLsbD_eq; intro i hi; simp only [BitVec.getLsbD_and, BitVec.getLsbD_or, BitVec.getLsbD_xor, BitVec.getLsbD_not, BitVec.getLsbD_zero, hi, decide_true, Bool.true_and]); cases x.getLsbD i <;> cases y.getLsbD i <;> rfl)
    have yb : y.getLsbD 63 = true := by
      apply Classical.byContradiction
      intro hn
      apply q2
      (apply BitVec.eq_of_getLsbD_eq; intro i hi; simp only [BitVec.getLsbD_and, BitVec.getLsbD_or, BitVec.getLsbD_xor, BitVec.getLsbD_not, BitVec.getLsbD_zero, hi, decide_true, Bool.true_and])
      rw [hH i (by assumption)]
      by_cases h : i = 63
      · subst h; simpa using hn
      · simp [h]
    have t1 := hi63 x; have t2 := hi63 (x &&& ~~~y ||| H); have t3 := hi63 (x &&& ~~~y ||| (y &&& ~~~H))
    have h63 := hH 63 (by decide)
    simp only [BitVec.getLsbD_and, BitVec.getLsbD_or, BitVec.getLsbD_not, yb, h63] at t2 t3
    simp at t2 t3
    have u1 := U_lt x; have u2 := U_lt (x &&& ~~~y ||| H); have u3 := U_nonneg (x &&& ~~~y ||| (y &&& ~~~H)); have u4 := U_nonneg x
    refine ⟨⟨s1, s2⟩, ?_⟩
    by_cases hx : x.getLsbD 63 = true
    · have := t1.2 hx
      have : U (x &&& ~~~y ||| H) ≤ U x := sub_le (by
        (apply BitVec.eq_of_getLsbD_eq; intro i hi; simp only [BitVec.getLsbD_and, BitVec.getLsbD_or, BitVec.getLsbD_xor, BitVec.getLsbD_not, BitVec.getLsbD_zero, hi, decide_true, Bool.true_and])
        rw [hH i (by assumption)]
        by_cases h : i = 63
        · subst h; simp [hx]
        · simp only [h, decide_false]; cases x.getLsbD i <;> cases y.getLsbD i <;> rfl)
      omega
    · have : ¬ 9223372036854775808 ≤ U x := fun h => hx (t1.1 h)
      have : U x ≤ U (x &&& ~~~y ||| (y &&& ~~~H)) := sub_le (by
        (apply BitVec.eq_of_getLsbD_eq; intro i hi; simp only [BitVec.getLsbD_and, BitVec.getLsbD_or, BitVec.getLsbD_xor, BitVec.getLsbD_not, BitVec.getLsbD_zero, hi, decide_true, Bool.true_and])
        rw [hH i (by assumption)]
        by_cases h : i = 63
        · subst h; rw [show x.getLsbD 63 = false by simpa using hx]; rfl
        · simp only [h, decide_false]; cases x.getLsbD i <;> cases y.getLsbD i <;> rfl)
      omega
end Go.Proofs.Ytaplgollkkpnaaa.ScG
