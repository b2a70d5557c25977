/- Layer 5: more operations on parts are sound. -/
import Derived.Test.YtaplgollkkpnaaaQScU
namespace Go.Proofs.Ytaplgollkkpnaaa.ScUa
open Go Go.RowKit Go.Proofs Go.Proofs.Ytaplgollkkpnaaa.Xc Go.Proofs.Ytaplgollkkpnaaa.Sc Go.Proofs.Ytaplgollkkpnaaa.ScS Go.Proofs.Ytaplgollkkpnaaa.ScG Go.Proofs.Ytaplgollkkpnaaa.ScL Go.Proofs.Ytaplgollkkpnaaa.ScM Go.Proofs.Ytaplgollkkpnaaa.ScQ Go.Proofs.Ytaplgollkkpnaaa.ScR Go.Proofs.Ytaplgollkkpnaaa.ScT Go.Proofs.Ytaplgollkkpnaaa.ScU Go.Proofs.Ytaplgollkkpnaaa.Bv Go.Proofs.Ytaplgollkkpnaaa.PA
set_option linter.unusedVariables false
set_option linter.unusedSimpArgs false
set_option maxRecDepth 4000
theorem exW {x : Int} (h : uu x) : ∃ X : W, x = U X := ⟨BitVec.ofInt 64 x, by rw [U_ofInt]; unfold uu at h; omega⟩
theorem uu_U (x : W) : uu (U x) := ⟨U_nonneg _, U_lt _⟩
theorem tin_U (a b x : W) : tin (U a) (U b) (U x) ↔ x &&& ~~~b = a := by rw [tin, aN, b_andNot, ofInt_U, ofInt_U, U_inj]
theorem ap_U (a b : W) : ap (U a) (U b) ↔ a &&& ~~~b = a := by rw [ap, aN, b_andNot, ofInt_U, ofInt_U, U_inj]
theorem rUMul (a b c d : Int) (K : Value → Prop) (ha : uu a) (hb : uu b) (hc : uu c) (hd : uu d) (h1 : a ≤ b) (h2 : c ≤ d) (h : ∀ l h, UOp (fun x y => uw (x * y)) a b c d l h → K (T2 l h)) : ScT.nUMul a b c d K := by
  rw [ScT.nUMul_eq]
  refine ⟨⟨hb, hd⟩, fun r hr l hl => br_cases (fun q => h _ _ ⟨fun x y _ _ _ _ => ?_, fun _ _ _ _ _ _ => ⟨by omega, by unfold uu; omega, by unfold uu; omega⟩⟩) (fun q => h _ _ ?_)⟩
  · simp only [uin, uw_eq]; omega
  have u := uw_eq; simp only [uw] at u
  have q : r = 0 := by simpa using q
  have hbd : 0 ≤ b * d := Int.mul_nonneg hb.1 hd.1
  have hac : 0 ≤ a * c := Int.mul_nonneg ha.1 hc.1
  have hacbd : a * c ≤ b * d := Int.mul_le_mul h1 h2 hc.1 hb.1
  subst hl; subst hr
  have hlt : b * d < 18446744073709551616 := by
    generalize b * d = z at *
    omega
  have e1 : b * d % 18446744073709551616 = b * d := Int.emod_eq_of_lt hbd hlt
  have e2 : IntKind.wrap .u64 (a * c) = a * c := by rw [u]; exact Int.emod_eq_of_lt hac (by omega)
  rw [e1, e2]
  refine ⟨fun x y hx hy h3 h4 => ?_, fun _ _ _ _ _ _ => ⟨hacbd, ⟨hac, by omega⟩, ⟨hbd, hlt⟩⟩⟩
  unfold uin at h3 h4 ⊢
  have k1 : a * c ≤ x * y := Int.mul_le_mul h3.1 h4.1 hc.1 hx.1
  have k2 : x * y ≤ b * d := Int.mul_le_mul h3.2 h4.2 hy.1 hb.1
  have e3 : uw (x * y) = x * y := by rw [uw_eq]; exact Int.emod_eq_of_lt (by omega) (by omega)
  rw [e3]; exact ⟨k1, k2⟩
theorem or_bounds (x y : Int) (hx : uu x) (hy : uu y) : x ≤ Go.bits .or .u64 x y ∧ y ≤ Go.bits .or .u64 x y := by
  obtain ⟨p, rfl⟩ := exW hx
  obtain ⟨q, rfl⟩ := exW hy
  rw [b_or, ofInt_U, ofInt_U]
  exact ⟨sub_le (by (apply BitVec.eq_of_getLsbD_eq; intro i hi; simp only [BitVec.getLsbD_and, BitVec.getLsbD_or, BitVec.getLsbD_xor, BitVec.getLsbD_not, BitVec.getLsbD_zero, hi, decide_true, Bool.true_and]); cases p.getLsbD i <;> cases q.getLsbD i <;> rfl), sub_le (by (apply BitVec.eq_of_getLsbD_eq; intro i hi; simp only [BitVec.getLsbD_and, BitVec.getLsbD_or, BitVec.getLsbD_xor, BitVec.getLsbD_not, BitVec.getLsbD_zero, hi, decide_true, Bool.true_and]); cases p.getLsbD i <;> cases q.getLsbD i <;> rfl)⟩
theorem or_lt (x y : Int) (hx : uu x) (hy : uu y) (k : Nat) (h1 : x < 2 ^ k) (h2 : y < 2 ^ k) : Go.bits .or .u64 x y < 2 ^ k := by
  obtain ⟨p, rfl⟩ := exW hx
  obtain ⟨q, rfl⟩ := exW hy
  rw [b_or, ofInt_U, ofInt_U]
  have a : (2 : Int) ^ k = ((2 ^ k : Nat) : Int) := by simp
  rw [a] at h1 h2 ⊢
  unfold U at h1 h2 ⊢
  rw [BitVec.toNat_or]
  exact Int.ofNat_lt.2 (Nat.or_lt_two_pow (Int.ofNat_lt.1 h1) (Int.ofNat_lt.1 h2))
theorem rUOr (a b c d : Int) (K : Value → Prop) (ha : uu a) (hb : uu b) (hc : uu c) (hd : uu d) (h1 : a ≤ b) (h2 : c ≤ d) (h : ∀ l h, UOp (fun x y => Go.bits .or .u64 x y) a b c d l h → K (T2 l h)) : nUOr a b c d K := by
  rw [nUOr_eq]; (repeat (first | refine ob_self ?_ | refine ob_true ?_ | (refine nm_intro ?_; intro _ _)))
  rename_i r hr
  refine br_cases (fun q => h _ _ ?_) (fun q => ?_)
  · subst hr
    have : a = b ∧ c = d := by
      by_cases e1 : a = b <;> by_cases e2 : c = d <;> simp_all
    obtain ⟨rfl, rfl⟩ := this
    have k : uu (Go.bits .or .u64 a c) := by rw [b_or]; exact uu_U _
    refine ⟨fun x y hx hy h3 h4 => ?_, fun _ _ _ _ _ _ => ⟨by omega, k, k⟩⟩
    obtain rfl : x = a := by unfold uin at h3; omega
    obtain rfl : y = c := by unfold uin at h4; omega
    exact ⟨Int.le_refl _, Int.le_refl _⟩
  · have ho : uu (Go.bits .or .u64 b d) := by rw [b_or]; exact uu_U _
    refine ⟨ho, fun m ⟨k, hk, hm, hlt⟩ => h _ _ ?_⟩
    have ob := or_bounds b d hb hd
    have hm2 : uu m := by
      subst hm
      have a : (2 : Int) ^ k = ((2 ^ k : Nat) : Int) := by simp
      have b : 2 ^ k ≤ 2 ^ 64 := Nat.pow_le_pow_right (by decide) hk
      have c : 0 < 2 ^ k := Nat.pow_pos (by decide)
      rw [a]; unfold uu; omega
    refine ⟨fun x y hx hy h3 h4 => ?_, fun _ _ _ _ _ _ => ?_⟩
    · have k1 := or_bounds x y hx hy
      have k2 := or_lt x y hx hy k (by unfold uin at h3; omega) (by unfold uin at h4; omega)
      unfold uin at *
      rw [mx]
      omega
    · rw [mx]
      unfold uu at *
      omega
structure TOp1 (op : Int → Int) (a b v m : Int) : Prop where
  s : ∀ x, uu x → tin a b x → tin v m (op x)
  m : uu a → uu b → ap a b → ap v m ∧ uu v ∧ uu m
/-- What picks bits keeps what is known of them. -/
theorem pick {a b v m : Int} {op : Int → Int} (f : W → W) (hb : uu b) (hv : ∀ A, a = U A → v = U (f A)) (hm : ∀ B, b = U B → m = U (f B)) (ho : ∀ X, op (U X) = U (f X)) (hf : ∀ A B X : W, X &&& ~~~B = A → f X &&& ~~~ f B = f A) : TOp1 op a b v m := by
  obtain ⟨B, rfl⟩ := exW hb
  refine ⟨fun x hx ht => ?_, fun ha _ hap => ?_⟩
  · obtain ⟨X, rfl⟩ := exW hx
    obtain ⟨A, rfl⟩ : ∃ A : W, a = U A := ⟨_, by rw [← ht, aN, b_andNot]⟩
    rw [hv A rfl, hm B rfl, ho, tin_U]
    exact hf A B X ((tin_U _ _ _).1 ht)
  · obtain ⟨A, rfl⟩ := exW ha
    rw [hv A rfl, hm B rfl, ap_U]
    exact ⟨hf A B A ((ap_U _ _).1 hap), uu_U _, uu_U _⟩
theorem tmod_n (n k : Nat) (hk : k ≤ 64) (hn : n < k) : Int.tmod (IntKind.wrap .u64 (n : Int)) (k : Int) = n := by
  have u := uw_eq; simp only [uw] at u
  rw [u, Int.emod_eq_of_lt (by omega) (by omega), Int.tmod_eq_emod_of_nonneg (by omega), Int.emod_eq_of_lt (by omega) (by omega)]
theorem min_n (n : Nat) (hn : n < 64) (k : IntKind) (hk : k.bits = 64) : min (Int.toNat (n : Int)) k.bits = n := by rw [Int.toNat_natCast, hk]; omega
theorem top_lsh (a b : Int) (n : Nat) (hn : n < 64) (hb : uu b) : TOp1 (fun x => uw (x * 2 ^ n)) a b (uw (a * 2 ^ n)) (uw (b * 2 ^ n)) := by
  have sh : ∀ X : W, IntKind.wrap .u64 (U X * 2 ^ n) = U (X <<< n) := fun X => by
    have := shl_U X (n : Int); unfold shl at this; rw [min_n n hn _ rfl] at this; simpa using this
  refine pick (fun X => X <<< n) hb (fun A hA => by rw [hA]; exact sh A) (fun B hB => by rw [hB]; exact sh B) (fun X => sh X) (fun A B X hX => ?_)
  subst hX
  apply BitVec.eq_of_getLsbD_eq; intro i hi
  simp only [BitVec.getLsbD_and, BitVec.getLsbD_not, BitVec.getLsbD_shiftLeft, hi]
  by_cases h : i < n
  · simp [h]
  · have h2 : i - n < 64 := by omega
    simp [h, h2]
theorem rTLsh (a b : Int) (n : Nat) (K : Value → Prop) (hn : n < 64) (hb : uu b) (h : ∀ v m, TOp1 (fun x => uw (x * 2 ^ n)) a b v m → K (T2 v m)) : nTLsh a b (n : Int) K := by
  have e := tmod_n n 64 (by omega) hn
  rw [show ((64 : Nat) : Int) = 64 from rfl] at e
  rw [nTLsh_eq, e]
  refine ob_self (ob_mk (fun _ => by simp) (ob_mk (fun _ => by simp) (h _ _ ?_)))
  rw [min_n n hn _ rfl]
  exact top_lsh a b n hn hb
theorem top_rsh (a b : Int) (n : Nat) (hn : n < 64) (hb : uu b) : TOp1 (fun x => x / 2 ^ n) a b (a / 2 ^ n) (b / 2 ^ n) := by
  have sh : ∀ X : W, U X / 2 ^ n = U (X >>> n) := fun X => by
    have := shr_U X (n : Int); unfold shr at this; rw [min_n n hn _ rfl] at this; simpa using this
  refine pick (fun X => X >>> n) hb (fun A hA => by rw [hA, sh]) (fun B hB => by rw [hB, sh]) (fun X => sh X) (fun A B X hX => ?_)
  subst hX
  apply BitVec.eq_of_getLsbD_eq; intro i hi
  simp only [BitVec.getLsbD_and, BitVec.getLsbD_not, BitVec.getLsbD_ushiftRight, hi]
  by_cases h : n + i < 64
  · simp [h]
  · rw [BitVec.getLsbD_of_ge X _ (by omega)]; simp
theorem rTRsh (a b : Int) (n : Nat) (K : Value → Prop) (hn : n < 64) (hb : uu b) (h : ∀ v m, TOp1 (fun x => x / 2 ^ n) a b v m → K (T2 v m)) : nTRsh a b (n : Int) K := by
  have e := tmod_n n 64 (by omega) hn
  rw [show ((64 : Nat) : Int) = 64 from rfl] at e
  rw [nTRsh_eq, e]
  refine ob_self (ob_mk (fun _ => by simp) (ob_mk (fun _ => by simp) (h _ _ ?_)))
  rw [min_n n hn _ rfl]
  exact top_rsh a b n hn hb
theorem rTArsh64 (a b : Int) (n : Nat) (K : Value → Prop) (hn : n < 64) (hb : uu b) (h : ∀ v m, TOp1 (fun x => uw (sw x / 2 ^ n)) a b v m → K (T2 v m)) : nTArsh64 a b (n : Int) K := by
  have e := tmod_n n 64 (by omega) hn
  rw [show ((64 : Nat) : Int) = 64 from rfl] at e
  rw [nTArsh64_eq, e]
  refine ob_self (ob_mk (fun _ => by simp) (ob_mk (fun _ => by simp) (h _ _ ?_)))
  have sh : ∀ X : W, IntKind.wrap .u64 (IntKind.wrap .i64 (U X) / 2 ^ n) = U (X.sshiftRight n) := fun X => by
    have := shr_S X (n : Int); unfold shr at this; rw [min_n n hn _ rfl] at this
    rw [wrap_i64', ofInt_U, this, wrap_u64, ofInt_S]; simp
  rw [min_n n hn _ rfl]
  refine pick (fun X => X.sshiftRight n) hb (fun A hA => by rw [hA, sh]) (fun B hB => by rw [hB, sh]) (fun X => sh X) (fun A B X hX => ?_)
  subst hX
  apply BitVec.eq_of_getLsbD_eq; intro i hi
  simp only [BitVec.getLsbD_and, BitVec.getLsbD_not, BitVec.getLsbD_sshiftRight, BitVec.msb_and, BitVec.msb_not, hi]
  have : ¬ 64 ≤ i := by omega
  by_cases h : n + i < 64
  · simp [h, this]
  · simp [h, this]
theorem bits_u32 (X : W) (n : Nat) (hn : n < 32) : IntKind.wrap .u64 (IntKind.wrap .u32 (IntKind.wrap .i32 (IntKind.wrap .u32 (U X)) / 2 ^ n)) = U ((X <<< 32).sshiftRight (32 + n) &&& 4294967295#64) := by
  have hL : ∀ Z : W, U (Z &&& 4294967295#64) = S Z % 4294967296 := fun Z => by
    have h1 := and_low (U Z) (uu_U Z)
    rw [b_and, ofInt_U, show BitVec.ofInt 64 4294967295 = 4294967295#64 by decide] at h1
    rw [h1]
    have h2 : U Z = S Z % 18446744073709551616 := by rw [← U_ofInt, ofInt_S]
    rw [h2]; omega
  rw [hL]
  have h1 : S ((X <<< 32).sshiftRight (32 + n)) = S (X <<< 32) / 2 ^ (32 + n) := by
    have := shr_S (X <<< 32) ((32 + n : Nat) : Int); unfold shr at this
    rw [min_n (32 + n) (by omega) _ rfl] at this
    rw [this, Int.toNat_natCast]
  have h2 : S (X <<< 32) = 4294967296 * IntKind.wrap .i32 (IntKind.wrap .u32 (U X)) := by
    have := shl_S X 32; unfold shl at this
    rw [show min (Int.toNat 32) (IntKind.bits .i64) = 32 from rfl, show ((2 : Int) ^ 32) = 4294967296 from rfl, show Int.toNat 32 = 32 from rfl] at this
    rw [← this]
    have hu : U X = S X % 18446744073709551616 := by rw [← U_ofInt, ofInt_S]
    rw [hu]
    have s := sw_eq; simp only [sw] at s
    rw [s]
    generalize S X = z
    simp [IntKind.wrap, IntKind.signed, IntKind.bits]; omega
  rw [h1, h2]
  generalize IntKind.wrap .i32 (IntKind.wrap .u32 (U X)) = z
  have hp : (0 : Int) < 2 ^ n := Int.pow_pos (by decide)
  have h3 : 4294967296 * z / 2 ^ (32 + n) = z / 2 ^ n := by
    rw [Int.pow_add, show ((2 : Int) ^ 32) = 4294967296 from rfl, Int.mul_ediv_mul_of_pos _ _ (by decide)]
  rw [h3]
  generalize z / 2 ^ n = y
  simp [IntKind.wrap, IntKind.signed, IntKind.bits]; omega
/-- A shift of 32 bits with their sign. -/
def sar32 (n : Nat) (x : Int) : Int := IntKind.wrap .u64 (IntKind.wrap .u32 (IntKind.wrap .i32 (IntKind.wrap .u32 x) / 2 ^ n))
theorem rTArsh32 (a b : Int) (n : Nat) (K : Value → Prop) (hn : n < 32) (hb : uu b) (h : ∀ v m, TOp1 (sar32 n) a b v m → K (T2 v m)) : nTArsh32 a b (n : Int) K := by
  have e := tmod_n n 32 (by omega) hn
  rw [show ((32 : Nat) : Int) = 32 from rfl] at e
  rw [nTArsh32_eq, e]
  refine ob_self (ob_mk (fun _ => by simp) (ob_mk (fun _ => by simp) (h _ _ ?_)))
  have e2 : min (Int.toNat (n : Int)) (IntKind.bits .i32) = n := by rw [Int.toNat_natCast, show IntKind.bits .i32 = 32 from rfl]; omega
  rw [e2]
  refine pick (fun X => (X <<< 32).sshiftRight (32 + n) &&& 4294967295#64) hb (fun A hA => by rw [hA, bits_u32 A n hn]) (fun B hB => by rw [hB, bits_u32 B n hn]) (fun X => bits_u32 X n hn) (fun A B X hX => ?_)
  subst hX
  apply BitVec.eq_of_getLsbD_eq; intro i hi
  simp only [BitVec.getLsbD_and, BitVec.getLsbD_not, BitVec.getLsbD_sshiftRight, BitVec.getLsbD_shiftLeft, BitVec.msb_eq_getLsbD_last, hi]
  generalize (4294967295#64 : W).getLsbD i = l
  have h1 : ¬ 64 ≤ i := by omega
  by_cases h : 32 + n + i < 64
  · have h2 : ¬ (32 + n + i < 32) := by omega
    have h3 : 32 + n + i - 32 < 64 := by omega
    simp [h, h1, h2, h3]
    generalize X[32 + n + i - 32] = p; generalize B[32 + n + i - 32] = q
    cases p <;> cases q <;> cases l <;> rfl
  · simp [h, h1]
    generalize X[31] = p; generalize B[31] = q
    cases p <;> cases q <;> cases l <;> rfl
theorem rTCut4 (a b : Int) (K : Value → Prop) (hb : uu b) (h : ∀ v m, TOp1 (fun x => x % 4294967296) a b v m → K (T2 v m)) : nTCut4 a b K := by
  rw [nTCut4_eq]
  refine ob_self (h _ _ ?_)
  rw [show IntKind.wrap .u64 (18446744073709551615 * 2 ^ min (Int.toNat (IntKind.wrap .i64 (8 * 4))) (IntKind.bits .u64)) = 18446744069414584320 by decide +kernel]
  have sh : ∀ X : W, Go.bits .andNot .u64 (U X) 18446744069414584320 = U (X &&& 4294967295#64) := fun X => by
    rw [b_andNot, ofInt_U, show ~~~ BitVec.ofInt 64 18446744069414584320 = 4294967295#64 by decide]
  refine pick (fun X => X &&& 4294967295#64) hb (fun A hA => by rw [hA, sh]) (fun B hB => by rw [hB, sh]) (fun X => ?_) (fun A B X hX => ?_)
  · have h1 := and_low (U X) (uu_U X)
    rw [b_and, ofInt_U, show BitVec.ofInt 64 4294967295 = 4294967295#64 by decide] at h1
    exact h1.symm
  · subst hX
    generalize 4294967295#64 = L
    (apply BitVec.eq_of_getLsbD_eq; intro i hi; simp only [BitVec.getLsbD_and, BitVec.getLsbD_or, BitVec.getLsbD_xor, BitVec.getLsbD_not, BitVec.getLsbD_zero, hi, decide_true, Bool.true_and]); cases X.getLsbD i <;> cases B.getLsbD i <;> cases L.getLsbD i <;> rfl
theorem rULsh (a b : Int) (n : Nat) (K : Value → Prop) (hn : n < 64) (ha : uu a) (hb : uu b) (hab : a ≤ b) (h : ∀ l h, UOp1 (fun x => uw (x * 2 ^ n)) a b l h → K (T2 l h)) : nULsh a b (n : Int) K := by
  rw [nULsh_eq, and63' n hn, min_n n hn _ rfl]
  have u := uw_eq; simp only [uw] at u
  have hp : (0 : Int) < 2 ^ n := Int.pow_pos (by decide)
  refine ob_mk (fun _ => by simp) (ob_mk (fun _ => by simp) (br_cases (fun q => h _ _ ⟨fun x _ _ => ?_, fun _ _ _ => ⟨by omega, by unfold uu; omega, by unfold uu; omega⟩⟩) (fun q => ob_mk (fun _ => by simp) (ob_mk (fun _ => by simp) (h _ _ ?_)))))
  · simp only [uin, uw_eq]; omega
  have q : IntKind.wrap .u64 (b * 2 ^ n) / 2 ^ n = b := by simpa using q
  have hlt : b * 2 ^ n < 18446744073709551616 := by
    apply Classical.byContradiction
    intro hn2
    rw [u] at q
    have h1 : b * 2 ^ n % 18446744073709551616 < b * 2 ^ n := by
      have := Int.mul_nonneg hb.1 (Int.le_of_lt hp)
      generalize b * 2 ^ n = z at *
      omega
    have h2 : b * 2 ^ n % 18446744073709551616 / 2 ^ n < b := by
      rw [Int.ediv_lt_iff_lt_mul hp]; exact h1
    omega
  have val : ∀ x, 0 ≤ x → x ≤ b → uw (x * 2 ^ n) = x * 2 ^ n ∧ 0 ≤ x * 2 ^ n ∧ x * 2 ^ n ≤ b * 2 ^ n := fun x h0 h1 => by
    have k1 := Int.mul_nonneg h0 (Int.le_of_lt hp)
    have k2 : x * 2 ^ n ≤ b * 2 ^ n := Int.mul_le_mul_of_nonneg_right h1 (Int.le_of_lt hp)
    rw [uw_eq]
    exact ⟨Int.emod_eq_of_lt k1 (by omega), k1, k2⟩
  obtain ⟨a1, a2, a3⟩ := val a ha.1 hab
  obtain ⟨b1, b2, b3⟩ := val b hb.1 (Int.le_refl _)
  simp only [uw] at a1 b1
  rw [a1, b1]
  refine ⟨fun x hx hi => ?_, fun _ _ _ => ⟨a3, ⟨a2, by omega⟩, b2, by omega⟩⟩
  obtain ⟨x1, x2, x3⟩ := val x hx.1 hi.2
  have k2 : a * 2 ^ n ≤ x * 2 ^ n := Int.mul_le_mul_of_nonneg_right hi.1 (Int.le_of_lt hp)
  show uin _ _ (uw (x * 2 ^ n))
  rw [x1]; exact ⟨k2, x3⟩
end Go.Proofs.Ytaplgollkkpnaaa.ScUa
