/- Layer 5: the operations on parts are sound. -/
import Derived.Test.YtaplgollkkpnaaaQScQ
import Derived.Test.YtaplgollkkpnaaaTn
import Derived.Test.YtaplgollkkpnaaaQScP
namespace Go.Proofs.Ytaplgollkkpnaaa.ScR
open Go Go.RowKit Go.Proofs Go.Proofs.Ytaplgollkkpnaaa.Xc Go.Proofs.Ytaplgollkkpnaaa.Sc Go.Proofs.Ytaplgollkkpnaaa.ScS Go.Proofs.Ytaplgollkkpnaaa.ScG Go.Proofs.Ytaplgollkkpnaaa.ScQ Go.Proofs.Ytaplgollkkpnaaa.ScP Go.Proofs.Ytaplgollkkpnaaa.Bv
set_option linter.unusedVariables false
set_option linter.unusedSimpArgs false
/-- An operation on bits: whatever is of the two, what comes of them is of what is told; and that may be. -/
structure TOp (op : Int → Int → Int) (a b c d v m : Int) : Prop where
  s : ∀ x y, uu x → uu y → tin a b x → tin c d y → tin v m (op x y)
  m : ap v m ∧ uu v ∧ uu m
structure UOp (op : Int → Int → Int) (a b c d l h : Int) : Prop where
  s : ∀ x y, uu x → uu y → uin a b x → uin c d y → uin l h (op x y)
  m : uu a → uu b → uu c → uu d → a ≤ b → c ≤ d → l ≤ h ∧ uu l ∧ uu h
structure SOp (op : Int → Int → Int) (a b c d l h : Int) : Prop where
  s : ss a → ss b → ss c → ss d → ∀ x y, uu x → uu y → sin a b x → sin c d y → sin l h (op x y)
  m : ss a → ss b → ss c → ss d → a ≤ b → c ≤ d → l ≤ h ∧ ss l ∧ ss h
theorem oUAdd (a b c d : Int) (ha : uu a) (hb : uu b) (hc : uu c) (hd : uu d) (h1 : a ≤ b) (h2 : c ≤ d) : ∃ l h, UOp (fun x y => uw (x + y)) a b c d l h ∧ nUAdd a b c d (· = T2 l h) := by
  have u := uw_eq; simp only [uw] at u
  by_cases q : decide (IntKind.wrap .u64 (b + d) < b) = true
  · refine ⟨0, 18446744073709551615, ⟨fun x y _ _ _ _ => ?_, fun _ _ _ _ _ _ => ⟨by omega, by unfold uu; omega, by unfold uu; omega⟩⟩, by rw [nUAdd_eq]; exact br_yes q rfl⟩
    simp only [uin, uw_eq]; omega
  · refine ⟨_, _, ?_, by rw [nUAdd_eq]; exact br_no (by simpa using q) rfl⟩
    have q : ¬ (IntKind.wrap .u64 (b + d) < b) := fun h => q (decide_eq_true h)
    rw [u] at q
    refine ⟨fun x y hx hy h3 h4 => ?_, fun _ _ _ _ _ _ => ?_⟩
    · simp only [uin, uw_eq, u] at *; unfold uu at *; omega
    · simp only [u]; unfold uu at *; omega
theorem oUSub (a b c d : Int) (ha : uu a) (hb : uu b) (hc : uu c) (hd : uu d) (h1 : a ≤ b) (h2 : c ≤ d) : ∃ l h, UOp (fun x y => uw (x - y)) a b c d l h ∧ nUSub a b c d (· = T2 l h) := by
  have u := uw_eq; simp only [uw] at u
  by_cases q : decide (a < d) = true
  · refine ⟨0, 18446744073709551615, ⟨fun x y _ _ _ _ => ?_, fun _ _ _ _ _ _ => ⟨by omega, by unfold uu; omega, by unfold uu; omega⟩⟩, by rw [nUSub_eq]; exact br_yes q rfl⟩
    simp only [uin, uw_eq]; omega
  · refine ⟨_, _, ?_, by rw [nUSub_eq]; exact br_no (by simpa using q) rfl⟩
    have q : ¬ (a < d) := fun h => q (decide_eq_true h)
    refine ⟨fun x y hx hy h3 h4 => ?_, fun _ _ _ _ _ _ => ?_⟩
    · simp only [uin, uw_eq, u] at *; unfold uu at *; omega
    · simp only [u]; unfold uu at *; omega
theorem sall (op : Int → Int → Int) (a b c d : Int) : SOp op a b c d (-9223372036854775808) 9223372036854775807 :=
  ⟨fun _ _ _ _ x y _ _ _ _ => by simp only [sin, sw_eq]; omega, fun _ _ _ _ _ _ => ⟨by omega, by unfold ss; omega, by unfold ss; omega⟩⟩
theorem noflow {p q : Prop} [Decidable p] [Decidable q] (h : (decide p == decide q) = true) : p ↔ q := by
  by_cases p <;> by_cases q <;> simp_all
theorem rSAdd (a b c d : Int) (K : Value → Prop) (ha : ss a) (hb : ss b) (hc : ss c) (hd : ss d) (h : ∀ l h, SOp (fun x y => uw (x + y)) a b c d l h → K (S2 l h)) : nSAdd a b c d K := by
  have w := sw_eq; simp only [sw] at w
  rw [nSAdd_eq]; (repeat (first | refine ob_self ?_ | refine ob_true ?_ | (refine nm_intro ?_; intro _ _)))
  rename_i r hr
  refine br_cases (fun _ => h _ _ (sall ..)) (fun q => h _ _ ?_)
  subst hr
  have q1 : (decide (IntKind.wrap .i64 (a + c) < a) == decide (c < 0)) = true := by
    cases hq : (decide (IntKind.wrap .i64 (a + c) < a) == decide (c < 0)) with
    | true => rfl
    | false => simp [hq] at q
  have q2 : (decide (IntKind.wrap .i64 (b + d) < b) == decide (d < 0)) = true := by
    simp [q1] at q; simpa using q
  have q1 := noflow q1; have q2 := noflow q2
  rw [w] at q1 q2
  unfold ss at ha hb hc hd
  refine ⟨fun _ _ _ _ x y hx hy h3 h4 => ?_, fun _ _ _ _ _ _ => ?_⟩
  · simp only [sin, sw_eq, uw_eq, w] at *; unfold uu at *; omega
  · simp only [w]; unfold ss at *; omega
theorem rSSub (a b c d : Int) (K : Value → Prop) (ha : ss a) (hb : ss b) (hc : ss c) (hd : ss d) (h : ∀ l h, SOp (fun x y => uw (x - y)) a b c d l h → K (S2 l h)) : nSSub a b c d K := by
  have w := sw_eq; simp only [sw] at w
  rw [nSSub_eq]; (repeat (first | refine ob_self ?_ | refine ob_true ?_ | (refine nm_intro ?_; intro _ _)))
  rename_i r hr
  refine br_cases (fun _ => h _ _ (sall ..)) (fun q => h _ _ ?_)
  subst hr
  have q1 : (decide (IntKind.wrap .i64 (a - d) > a) == decide (d < 0)) = true := by
    cases hq : (decide (IntKind.wrap .i64 (a - d) > a) == decide (d < 0)) with
    | true => rfl
    | false => simp [hq] at q
  have q2 : (decide (IntKind.wrap .i64 (b - c) > b) == decide (c < 0)) = true := by
    simp [q1] at q; simpa using q
  have q1 := noflow q1; have q2 := noflow q2
  rw [w] at q1 q2
  unfold ss at ha hb hc hd
  refine ⟨fun _ _ _ _ x y hx hy h3 h4 => ?_, fun _ _ _ _ _ _ => ?_⟩
  · simp only [sin, sw_eq, uw_eq, w] at *; unfold uu at *; omega
  · simp only [w]; unfold ss at *; omega
theorem oTOr (a b c d : Int) : ∃ v m, TOp (fun x y => Go.bits .or .u64 x y) a b c d v m ∧ nTOr a b c d (· = T2 v m) := by
  refine ⟨_, _, ?_, by rw [nTOr_eq]⟩
  refine ⟨fun x y hx hy h1 h2 => ?_, ?_, ?_, ?_⟩
  · subst h1; subst h2
    simp only [tin, aN, b_andNot, b_or, b_and, b_xor, ofInt_U]; congr 1
    generalize BitVec.ofInt 64 x = x; generalize BitVec.ofInt 64 y = y; generalize BitVec.ofInt 64 b = b; generalize BitVec.ofInt 64 d = d
    (apply BitVec.eq_of_getLsbD_eq; intro i hi; simp only [BitVec.getLsbD_and, BitVec.getLsbD_or, BitVec.getLsbD_xor, BitVec.getLsbD_not, BitVec.getLsbD_zero, hi, decide_true, Bool.true_and]); cases x.getLsbD i <;> cases y.getLsbD i <;> cases b.getLsbD i <;> cases d.getLsbD i <;> rfl
  · simp only [ap, aN, b_andNot, b_or, b_and, b_xor, ofInt_U]; congr 1
    generalize BitVec.ofInt 64 a = a; generalize BitVec.ofInt 64 b = b; generalize BitVec.ofInt 64 c = c; generalize BitVec.ofInt 64 d = d
    (apply BitVec.eq_of_getLsbD_eq; intro i hi; simp only [BitVec.getLsbD_and, BitVec.getLsbD_or, BitVec.getLsbD_xor, BitVec.getLsbD_not, BitVec.getLsbD_zero, hi, decide_true, Bool.true_and]); cases a.getLsbD i <;> cases b.getLsbD i <;> cases c.getLsbD i <;> cases d.getLsbD i <;> rfl
  all_goals (simp only [b_andNot, b_or, b_and, b_xor]; exact ⟨U_nonneg _, U_lt _⟩)
theorem oTAnd (a b c d : Int) : ∃ v m, TOp (fun x y => Go.bits .and .u64 x y) a b c d v m ∧ nTAnd a b c d (· = T2 v m) := by
  refine ⟨_, _, ?_, by rw [nTAnd_eq]⟩
  refine ⟨fun x y hx hy h1 h2 => ?_, ?_, ?_, ?_⟩
  · subst h1; subst h2
    simp only [tin, aN, b_andNot, b_or, b_and, b_xor, ofInt_U]; congr 1
    generalize BitVec.ofInt 64 x = x; generalize BitVec.ofInt 64 y = y; generalize BitVec.ofInt 64 b = b; generalize BitVec.ofInt 64 d = d
    (apply BitVec.eq_of_getLsbD_eq; intro i hi; simp only [BitVec.getLsbD_and, BitVec.getLsbD_or, BitVec.getLsbD_xor, BitVec.getLsbD_not, BitVec.getLsbD_zero, hi, decide_true, Bool.true_and]); cases x.getLsbD i <;> cases y.getLsbD i <;> cases b.getLsbD i <;> cases d.getLsbD i <;> rfl
  · simp only [ap, aN, b_andNot, b_or, b_and, b_xor, ofInt_U]; congr 1
    generalize BitVec.ofInt 64 a = a; generalize BitVec.ofInt 64 b = b; generalize BitVec.ofInt 64 c = c; generalize BitVec.ofInt 64 d = d
    (apply BitVec.eq_of_getLsbD_eq; intro i hi; simp only [BitVec.getLsbD_and, BitVec.getLsbD_or, BitVec.getLsbD_xor, BitVec.getLsbD_not, BitVec.getLsbD_zero, hi, decide_true, Bool.true_and]); cases a.getLsbD i <;> cases b.getLsbD i <;> cases c.getLsbD i <;> cases d.getLsbD i <;> rfl
  all_goals (simp only [b_andNot, b_or, b_and, b_xor]; exact ⟨U_nonneg _, U_lt _⟩)
theorem oTXor (a b c d : Int) : ∃ v m, TOp (fun x y => Go.bits .xor .u64 x y) a b c d v m ∧ nTXor a b c d (· = T2 v m) := by
  refine ⟨_, _, ?_, by rw [nTXor_eq]⟩
  refine ⟨fun x y hx hy h1 h2 => ?_, ?_, ?_, ?_⟩
  · subst h1; subst h2
    simp only [tin, aN, b_andNot, b_or, b_and, b_xor, ofInt_U]; congr 1
    generalize BitVec.ofInt 64 x = x; generalize BitVec.ofInt 64 y = y; generalize BitVec.ofInt 64 b = b; generalize BitVec.ofInt 64 d = d
    (apply BitVec.eq_of_getLsbD_eq; intro i hi; simp only [BitVec.getLsbD_and, BitVec.getLsbD_or, BitVec.getLsbD_xor, BitVec.getLsbD_not, BitVec.getLsbD_zero, hi, decide_true, Bool.true_and]); cases x.getLsbD i <;> cases y.getLsbD i <;> cases b.getLsbD i <;> cases d.getLsbD i <;> rfl
  · simp only [ap, aN, b_andNot, b_or, b_and, b_xor, ofInt_U]; congr 1
    generalize BitVec.ofInt 64 a = a; generalize BitVec.ofInt 64 b = b; generalize BitVec.ofInt 64 c = c; generalize BitVec.ofInt 64 d = d
    (apply BitVec.eq_of_getLsbD_eq; intro i hi; simp only [BitVec.getLsbD_and, BitVec.getLsbD_or, BitVec.getLsbD_xor, BitVec.getLsbD_not, BitVec.getLsbD_zero, hi, decide_true, Bool.true_and]); cases a.getLsbD i <;> cases b.getLsbD i <;> cases c.getLsbD i <;> cases d.getLsbD i <;> rfl
  all_goals (simp only [b_andNot, b_or, b_and, b_xor]; exact ⟨U_nonneg _, U_lt _⟩)
theorem oTAdd (a b c d : Int) : ∃ v m, TOp (fun x y => uw (x + y)) a b c d v m ∧ nTAdd a b c d (· = T2 v m) := by
  refine ⟨_, _, ?_, by rw [nTAdd_eq]⟩
  refine ⟨fun x y hx hy h1 h2 => ?_, ?_, ?_, ?_⟩
  · have k1 : Tn.Mem (BitVec.ofInt 64 a) (BitVec.ofInt 64 b) (BitVec.ofInt 64 x) := by subst h1; simp only [Tn.Mem, aN, b_andNot, ofInt_U]
    have k2 : Tn.Mem (BitVec.ofInt 64 c) (BitVec.ofInt 64 d) (BitVec.ofInt 64 y) := by subst h2; simp only [Tn.Mem, aN, b_andNot, ofInt_U]
    have v1 : BitVec.ofInt 64 a &&& BitVec.ofInt 64 b = 0 := by rw [← k1]; exact Tn.clear_valid _ _
    have v2 : BitVec.ofInt 64 c &&& BitVec.ofInt 64 d = 0 := by rw [← k2]; exact Tn.clear_valid _ _
    have := Tn.add_sound v1 v2 k1 k2
    simp only [tin, aN, uw, b_andNot, b_or, b_and, b_xor, wrap_u64, oi_add, oi_sub, ofInt_U, U_inj]
    exact this
  · simp only [ap, aN, b_andNot, b_or, b_and, b_xor, ofInt_U]; congr 1
    generalize BitVec.ofInt 64 a = a; generalize BitVec.ofInt 64 b = b; generalize BitVec.ofInt 64 c = c; generalize BitVec.ofInt 64 d = d
    (apply BitVec.eq_of_getLsbD_eq; intro i hi; simp only [BitVec.getLsbD_and, BitVec.getLsbD_or, BitVec.getLsbD_xor, BitVec.getLsbD_not, BitVec.getLsbD_zero, hi, decide_true, Bool.true_and])
    simp only [Bool.and_assoc, Bool.and_self]
  all_goals (simp only [b_andNot, b_or, b_and, b_xor]; exact ⟨U_nonneg _, U_lt _⟩)
theorem oTSub (a b c d : Int) : ∃ v m, TOp (fun x y => uw (x - y)) a b c d v m ∧ nTSub a b c d (· = T2 v m) := by
  refine ⟨_, _, ?_, by rw [nTSub_eq]⟩
  refine ⟨fun x y hx hy h1 h2 => ?_, ?_, ?_, ?_⟩
  · have k1 : Tn.Mem (BitVec.ofInt 64 a) (BitVec.ofInt 64 b) (BitVec.ofInt 64 x) := by subst h1; simp only [Tn.Mem, aN, b_andNot, ofInt_U]
    have k2 : Tn.Mem (BitVec.ofInt 64 c) (BitVec.ofInt 64 d) (BitVec.ofInt 64 y) := by subst h2; simp only [Tn.Mem, aN, b_andNot, ofInt_U]
    have v1 : BitVec.ofInt 64 a &&& BitVec.ofInt 64 b = 0 := by rw [← k1]; exact Tn.clear_valid _ _
    have v2 : BitVec.ofInt 64 c &&& BitVec.ofInt 64 d = 0 := by rw [← k2]; exact Tn.clear_valid _ _
    have := Tn.sub_sound v1 v2 k1 k2
    simp only [tin, aN, uw, b_andNot, b_or, b_and, b_xor, wrap_u64, oi_add, oi_sub, ofInt_U, U_inj]
    exact this
  · simp only [ap, aN, b_andNot, b_or, b_and, b_xor, ofInt_U]; congr 1
    generalize BitVec.ofInt 64 a = a; generalize BitVec.ofInt 64 b = b; generalize BitVec.ofInt 64 c = c; generalize BitVec.ofInt 64 d = d
    (apply BitVec.eq_of_getLsbD_eq; intro i hi; simp only [BitVec.getLsbD_and, BitVec.getLsbD_or, BitVec.getLsbD_xor, BitVec.getLsbD_not, BitVec.getLsbD_zero, hi, decide_true, Bool.true_and])
    simp only [Bool.and_assoc, Bool.and_self]
  all_goals (simp only [b_andNot, b_or, b_and, b_xor]; exact ⟨U_nonneg _, U_lt _⟩)
structure UOp1 (op : Int → Int) (a b l h : Int) : Prop where
  s : ∀ x, uu x → uin a b x → uin l h (op x)
  m : uu a → uu b → a ≤ b → l ≤ h ∧ uu l ∧ uu h
theorem and_low (x : Int) (hx : uu x) : Go.bits .and .u64 x 4294967295 = x % 4294967296 := by
  obtain ⟨n, rfl⟩ : ∃ n : Nat, x = n := ⟨x.toNat, by have := hx.1; omega⟩
  have h2 := hx.2
  rw [b_and, show (4294967295 : Int) = ((2 ^ 32 - 1 : Nat) : Int) from rfl, oi_nat, oi_nat]
  unfold U
  rw [BitVec.toNat_and, BitVec.toNat_ofNat, BitVec.toNat_ofNat, Nat.mod_eq_of_lt (show n < 2 ^ 64 by omega), Nat.mod_eq_of_lt (show 2 ^ 32 - 1 < 2 ^ 64 by decide), Nat.and_two_pow_sub_one_eq_mod]
  omega
theorem rUCut (a b : Int) (K : Value → Prop) (ha : uu a) (hb : uu b) (hab : a ≤ b) (h : ∀ l h, UOp1 (fun x => x % 4294967296) a b l h → K (T2 l h)) : nUCut a b K := by
  rw [nUCut_eq]
  refine ob_self (ob_self (br_cases (fun q => h _ _ ?_) (fun q => h _ _ ?_)))
  · have q : (a / 4294967296 == b / 4294967296) = true := q
    have q : a / 4294967296 = b / 4294967296 := by simpa using q
    rw [and_low a ha, and_low b hb]
    exact ⟨fun x hx h1 => by simp only [uin] at *; omega, fun _ _ _ => by unfold uu; omega⟩
  · exact ⟨fun x hx h1 => by simp only [uin] at *; omega, fun _ _ _ => by unfold uu; omega⟩
theorem and63' : ∀ n : Nat, n < 64 → Go.bits .and .i64 (n : Int) 63 = (n : Int) := by decide +kernel
theorem rURsh (a b : Int) (n : Nat) (K : Value → Prop) (hn : n < 64) (ha : uu a) (hb : uu b) (hab : a ≤ b) (h : ∀ l h, UOp1 (fun x => x / 2 ^ n) a b l h → K (T2 l h)) : nURsh a b (n : Int) K := by
  rw [nURsh_eq, and63' n hn]
  have e : min (Int.toNat (n : Int)) (IntKind.bits .u64) = n := by rw [Int.toNat_natCast, show IntKind.bits .u64 = 64 from rfl]; omega
  rw [e]
  refine ob_mk (fun _ => by simp) (ob_mk (fun _ => by simp) (h _ _ ?_))
  have hp : (0 : Int) < 2 ^ n := Int.pow_pos (by decide)
  have r : ∀ x : Int, uu x → uu (x / 2 ^ n) := fun x hx => by
    have h1 := Int.ediv_nonneg hx.1 (Int.le_of_lt hp)
    have h2 := Int.ediv_le_self (2 ^ n) hx.1
    have := hx.2
    exact ⟨h1, by omega⟩
  exact ⟨fun x hx h1 => ⟨Int.ediv_le_ediv hp h1.1, Int.ediv_le_ediv hp h1.2⟩, fun _ _ _ => ⟨Int.ediv_le_ediv hp hab, r a ha, r b hb⟩⟩
structure SOp1 (op : Int → Int) (a b l h : Int) : Prop where
  s : ss a → ss b → ∀ x, uu x → sin a b x → sin l h (op x)
  m : ss a → ss b → a ≤ b → l ≤ h ∧ ss l ∧ ss h
theorem ss_div (x : Int) (n : Nat) (hx : ss x) : ss (x / 2 ^ n) := by
  have hp : (0 : Int) < 2 ^ n := Int.pow_pos (by decide)
  have h1 : (-9223372036854775808 : Int) / 2 ^ n ≤ x / 2 ^ n := Int.ediv_le_ediv hp hx.1
  have h2 : x / 2 ^ n ≤ 9223372036854775807 / 2 ^ n := Int.ediv_le_ediv hp (by have := hx.2; omega)
  have h3 : (9223372036854775807 : Int) / 2 ^ n ≤ 9223372036854775807 := Int.ediv_le_self _ (by decide)
  have h4 : (-9223372036854775808 : Int) ≤ -9223372036854775808 / 2 ^ n := by
    rw [Int.le_ediv_iff_mul_le hp]
    have : (1 : Int) ≤ 2 ^ n := hp
    have := Int.mul_le_mul_of_nonneg_left this (show (0 : Int) ≤ 9223372036854775808 by decide)
    omega
  unfold ss; omega
theorem rSArsh (a b : Int) (n : Nat) (K : Value → Prop) (hn : n < 64) (h : ∀ l h, SOp1 (fun x => uw (sw x / 2 ^ n)) a b l h → K (S2 l h)) : nSArsh a b (n : Int) K := by
  rw [nSArsh_eq, and63' n hn]
  have e : min (Int.toNat (n : Int)) (IntKind.bits .i64) = n := by rw [Int.toNat_natCast, show IntKind.bits .i64 = 64 from rfl]; omega
  rw [e]
  refine ob_mk (fun _ => by simp) (ob_mk (fun _ => by simp) (h _ _ ?_))
  have hp : (0 : Int) < 2 ^ n := Int.pow_pos (by decide)
  refine ⟨fun ha hb x hx h1 => ?_, fun ha hb hab => ⟨Int.ediv_le_ediv hp hab, ss_div a n ha, ss_div b n hb⟩⟩
  have hs := ss_div (sw x) n (ss_sw x)
  have e2 : sw (uw (sw x / 2 ^ n)) = sw x / 2 ^ n := by
    generalize sw x / 2 ^ n = y at *
    rw [sw_eq, uw_eq]; unfold ss at hs; omega
  exact ⟨by rw [e2]; exact Int.ediv_le_ediv hp h1.1, by rw [e2]; exact Int.ediv_le_ediv hp h1.2⟩
theorem and_le (x y : Int) (hx : uu x) (hy : uu y) : 0 ≤ Go.bits .and .u64 x y ∧ Go.bits .and .u64 x y ≤ x ∧ Go.bits .and .u64 x y ≤ y ∧ Go.bits .and .u64 x y < 18446744073709551616 := by
  have ex : x = U (BitVec.ofInt 64 x) := by rw [U_ofInt]; unfold uu at hx; omega
  have ey : y = U (BitVec.ofInt 64 y) := by rw [U_ofInt]; unfold uu at hy; omega
  rw [b_and]
  generalize BitVec.ofInt 64 x = p at *; generalize BitVec.ofInt 64 y = q at *
  subst ex; subst ey
  exact ⟨U_nonneg _, sub_le (by (apply BitVec.eq_of_getLsbD_eq; intro i hi; simp only [BitVec.getLsbD_and, BitVec.getLsbD_or, BitVec.getLsbD_xor, BitVec.getLsbD_not, BitVec.getLsbD_zero, hi, decide_true, Bool.true_and]); cases p.getLsbD i <;> cases q.getLsbD i <;> rfl), sub_le (by (apply BitVec.eq_of_getLsbD_eq; intro i hi; simp only [BitVec.getLsbD_and, BitVec.getLsbD_or, BitVec.getLsbD_xor, BitVec.getLsbD_not, BitVec.getLsbD_zero, hi, decide_true, Bool.true_and]); cases p.getLsbD i <;> cases q.getLsbD i <;> rfl), U_lt _⟩
theorem rUAnd (a b c d : Int) (K : Value → Prop) (ha : uu a) (hb : uu b) (hc : uu c) (hd : uu d) (h1 : a ≤ b) (h2 : c ≤ d) (h : ∀ l h, UOp (fun x y => Go.bits .and .u64 x y) a b c d l h → K (T2 l h)) : nUAnd a b c d K := by
  rw [nUAnd_eq]; (repeat (first | refine ob_self ?_ | refine ob_true ?_ | (refine nm_intro ?_; intro _ _)))
  rename_i r hr
  refine br_cases (fun q => h _ _ ?_) (fun q => h _ _ ?_)
  · subst hr
    have : a = b ∧ c = d := by
      by_cases e1 : a = b <;> by_cases e2 : c = d <;> simp_all
    obtain ⟨rfl, rfl⟩ := this
    have k := and_le a c ha hc
    refine ⟨fun x y hx hy h3 h4 => ?_, fun _ _ _ _ _ _ => ⟨by omega, ⟨k.1, k.2.2.2⟩, ⟨k.1, k.2.2.2⟩⟩⟩
    obtain rfl : x = a := by unfold uin at h3; omega
    obtain rfl : y = c := by unfold uin at h4; omega
    exact ⟨Int.le_refl _, Int.le_refl _⟩
  · refine ⟨fun x y hx hy h3 h4 => ?_, fun _ _ _ _ _ _ => ?_⟩
    · have k := and_le x y hx hy
      unfold uin at *; split <;> omega
    · unfold uu at *; split <;> omega
/-- A quotient, as the machine of the document has it: by nought it is nought. -/
def qt (x y : Int) : Int := if y = 0 then 0 else x / y
def rm (x y : Int) : Int := if y = 0 then x else x % y
theorem rUDiv (a b c d : Int) (K : Value → Prop) (ha : uu a) (hb : uu b) (hc : uu c) (hd : uu d) (h1 : a ≤ b) (h2 : c ≤ d) (h : ∀ l h, UOp qt a b c d l h → K (T2 l h)) : nUDiv a b c d K := by
  rw [nUDiv_eq]; (repeat (first | refine ob_self ?_ | refine ob_true ?_ | (refine nm_intro ?_; intro _ _)))
  rename_i r hr
  refine br_cases (fun q => ?_) (fun q => h _ _ ?_)
  · subst hr
    have : c = d ∧ c ≠ 0 := by
      by_cases e1 : c = d <;> by_cases e2 : c = 0 <;> simp_all
    obtain ⟨rfl, hz⟩ := this
    have hcp : 0 < c := by unfold uu at hc; omega
    have hz2 : (c != 0) = true := by simpa using hz
    have w : ∀ x : Int, uu x → IntKind.wrap .u64 (Int.tdiv x c) = x / c ∧ uu (x / c) := fun x hx => by
      have u := uw_eq; simp only [uw] at u
      rw [u, Int.tdiv_eq_ediv_of_nonneg hx.1]
      have h3 := Int.ediv_nonneg hx.1 (Int.le_of_lt hcp)
      have h4 := Int.ediv_le_self c hx.1
      have := hx.2
      exact ⟨by omega, h3, by omega⟩
    refine ob_mk (fun _ => hz2) (ob_mk (fun _ => hz2) (h _ _ ?_))
    rw [(w a ha).1, (w b hb).1]
    refine ⟨fun x y hx hy h3 h4 => ?_, fun _ _ _ _ _ _ => ⟨Int.ediv_le_ediv hcp h1, (w a ha).2, (w b hb).2⟩⟩
    obtain rfl : y = c := by unfold uin at h4; omega
    rw [qt, if_neg hz]
    exact ⟨Int.ediv_le_ediv hcp h3.1, Int.ediv_le_ediv hcp h3.2⟩
  · refine ⟨fun x y hx hy h3 h4 => ?_, fun _ _ _ _ _ _ => by unfold uu at *; omega⟩
    unfold qt uin at *
    split
    · unfold uu at *; omega
    · have h5 := Int.ediv_nonneg hx.1 hy.1
      have h6 := Int.ediv_le_self y hx.1
      omega
theorem rUMod (a b c d : Int) (K : Value → Prop) (ha : uu a) (hb : uu b) (hc : uu c) (hd : uu d) (h1 : a ≤ b) (h2 : c ≤ d) (h : ∀ l h, UOp rm a b c d l h → K (T2 l h)) : nUMod a b c d K := by
  rw [nUMod_eq]; (repeat (first | refine ob_self ?_ | refine ob_true ?_ | (refine nm_intro ?_; intro _ _)))
  rename_i r hr
  have le : ∀ x y : Int, uu x → uu y → 0 ≤ rm x y ∧ rm x y ≤ x := fun x y hx hy => by
    unfold rm; split
    · exact ⟨hx.1, Int.le_refl _⟩
    · exact ⟨Int.emod_nonneg _ (by assumption), by
        have e := Int.mul_ediv_add_emod x y
        have := Int.mul_nonneg hy.1 (Int.ediv_nonneg hx.1 hy.1)
        omega⟩
  refine br_cases (fun q => h _ _ ?_) (fun q => ?_)
  · exact ⟨fun x y hx hy h3 h4 => by have := le x y hx hy; unfold uin at *; omega, fun _ _ _ _ _ _ => by unfold uu at *; omega⟩
  · subst hr
    have : c = d ∧ c ≠ 0 := by
      by_cases e1 : c = d <;> by_cases e2 : c = 0 <;> simp_all
    obtain ⟨rfl, hz⟩ := this
    have hcp : 0 < c := by unfold uu at hc; omega
    have hz2 : (c != 0) = true := by simpa using hz
    refine br_cases (fun q2 => h _ _ ?_) (fun q2 => br_cases (fun q3 => ob_mk (fun _ => hz2) (h _ _ ?_)) (fun q3 => h _ _ ?_))
    · have q2 := of_decide_eq_true q2
      refine ⟨fun x y hx hy h3 h4 => ?_, fun _ _ _ _ _ _ => ⟨h1, ha, hb⟩⟩
      obtain rfl : y = c := by unfold uin at h4; omega
      rw [rm, if_neg hz, Int.emod_eq_of_lt hx.1 (by unfold uin at h3; omega)]
      exact h3
    · have q3 : a = b := by simpa using q3
      subst q3
      rw [Int.tmod_eq_emod_of_nonneg ha.1]
      have k1 := Int.emod_nonneg a hz
      have k2 := Int.emod_lt_of_pos a hcp
      have := hc.2
      refine ⟨fun x y hx hy h3 h4 => ?_, fun _ _ _ _ _ _ => ⟨Int.le_refl _, ⟨k1, by omega⟩, ⟨k1, by omega⟩⟩⟩
      obtain rfl : y = c := by unfold uin at h4; omega
      obtain rfl : x = a := by unfold uin at h3; omega
      rw [rm, if_neg hz]
      exact ⟨Int.le_refl _, Int.le_refl _⟩
    · have u := uw_eq; simp only [uw] at u
      rw [u]
      refine ⟨fun x y hx hy h3 h4 => ?_, fun _ _ _ _ _ _ => by unfold uu at *; omega⟩
      obtain rfl : y = c := by unfold uin at h4; omega
      rw [rm, if_neg hz]
      have k1 := Int.emod_nonneg x hz
      have k2 := Int.emod_lt_of_pos x hcp
      unfold uu uin at *; omega
end Go.Proofs.Ytaplgollkkpnaaa.ScR
