/- Layer 5, against the reference: the code's ToT is the reference's. -/
import Derived.Test.YtceclodenhgoeaaGreatZbb
import Derived.Test.YtceclodenhgoeaaGreatZp
import Derived.Test.YtceclodenhgoeaaGreatZba
namespace Go.Proofs.YtceclodenhgoeaaGreat.Zbc
open Go Go.RowKit Go.Proofs Go.Proofs.YtceclodenhgoeaaGreat.Xc Go.Proofs.YtceclodenhgoeaaGreat.Zs Go.Proofs.YtceclodenhgoeaaGreat.Zu Go.Proofs.YtceclodenhgoeaaGreat.Zv Go.Proofs.YtceclodenhgoeaaGreat.Zo Go.Proofs.YtceclodenhgoeaaGreat.Zy Go.Proofs.YtceclodenhgoeaaGreat.Zbb Go.Proofs.YtceclodenhgoeaaGreat.Zt Go.Proofs.YtceclodenhgoeaaGreat.Bv
set_option linter.unusedVariables false
set_option linter.unusedSimpArgs false
theorem lit_ok : ∀ i : Nat, i < 256 → 0 ≤ byteAt lit8 (i : Int) ∧ byteAt lit8 (i : Int) ≤ 8 ∧ i < 2 ^ (byteAt lit8 (i : Int)).toNat ∧ (byteAt lit8 (i : Int) = 0 ∨ 2 ^ ((byteAt lit8 (i : Int)).toNat - 1) ≤ i) := by decide +kernel
theorem lit_size : (lit8.size : Int) = 256 := by kernel_rfl
theorem iW {n : Int} (h0 : 0 ≤ n) (h1 : n < 1000) : IntKind.i64.wrap n = n := by
  simp [IntKind.wrap, IntKind.signed, IntKind.bits]; omega
/-- The last step: a byte is left. -/
theorem len_fin {x s q r : Int} {K : Value → Prop} (h : ∀ k, LenP x k → K (.int .i64 k)) (n : Nat) (hs : s = n) (hn : n ≤ 56) (hq : q = x / 2 ^ n) (h0 : 0 ≤ q) (h1 : q < 256) (hz : n = 0 ∨ 1 ≤ q) (hr : r = q) : ob true (decide (0 ≤ r) && decide (r < (lit8.size : Int))) (K (.int .i64 (IntKind.i64.wrap (s + IntKind.i64.wrap (byteAt lit8 r))))) := by
  subst hr; subst hs
  rw [lit_size]
  refine ob_mk (fun _ => by simp; omega) ?_
  obtain ⟨i, rfl⟩ : ∃ i : Nat, r = i := ⟨r.toNat, by omega⟩
  obtain ⟨k1, k2, k3, k4⟩ := lit_ok i (by omega)
  generalize hL : byteAt lit8 (i : Int) = L at *
  obtain ⟨l, rfl⟩ : ∃ l : Nat, L = l := ⟨L.toNat, by omega⟩
  have e1 : IntKind.i64.wrap (l : Int) = l := iW (by omega) (by omega)
  have e2 : IntKind.i64.wrap ((n : Int) + l) = ((n + l : Nat) : Int) := by rw [iW (by omega) (by omega)]; omega
  rw [e1, e2]
  have hp : (0 : Int) < 2 ^ n := Int.pow_pos (by decide)
  simp only [Int.toNat_natCast] at k3 k4
  have hxl : (i : Int) * 2 ^ n ≤ x := by
    have := Int.ediv_mul_le x (b := 2 ^ n) (by omega)
    rw [← hq] at this; exact this
  refine h _ ⟨by omega, by omega, ?_, ?_⟩
  · simp only [Int.toNat_natCast]
    have h4 : x < (i + 1 : Int) * 2 ^ n := by
      have := Int.lt_ediv_add_one_mul_self x hp
      rw [← hq] at this; exact this
    have h6 : (i : Int) + 1 ≤ 2 ^ l := by
      have : ((i + 1 : Nat) : Int) ≤ ((2 ^ l : Nat) : Int) := by omega
      simpa using this
    have h5 : ((i : Int) + 1) * 2 ^ n ≤ 2 ^ l * 2 ^ n := Int.mul_le_mul_of_nonneg_right h6 (Int.le_of_lt hp)
    have h7 : (2 : Int) ^ (n + l) = 2 ^ l * 2 ^ n := by rw [Int.pow_add, Int.mul_comm]
    rw [h7]; omega
  · by_cases hl : l = 0
    · subst hl
      have : i = 0 := by simpa using k3
      left; omega
    · right
      simp only [Int.toNat_natCast]
      have k5 : 2 ^ (l - 1) ≤ i := by rcases k4 with k4 | k4 <;> omega
      have h6 : (2 : Int) ^ (l - 1) ≤ i := by
        have : ((2 ^ (l - 1) : Nat) : Int) ≤ (i : Int) := by omega
        simpa using this
      have h5 : (2 : Int) ^ (l - 1) * 2 ^ n ≤ i * 2 ^ n := Int.mul_le_mul_of_nonneg_right h6 (Int.le_of_lt hp)
      rw [show n + l - 1 = (l - 1) + n by omega, Int.pow_add]; omega
theorem rLen (x : Int) (K : Value → Prop) (h0 : 0 ≤ x) (h1 : x < 18446744073709551616) (h : ∀ k, LenP x k → K (.int .i64 k)) : nLen64 x K := by
  rw [nLen64_eq]
  have e32 : ∀ y : Int, y / 2 ^ min (Int.toNat 32) (IntKind.bits .u64) = y / 4294967296 := fun _ => rfl
  have e16 : ∀ y : Int, y / 2 ^ min (Int.toNat 16) (IntKind.bits .u64) = y / 65536 := fun _ => rfl
  have e8 : ∀ y : Int, y / 2 ^ min (Int.toNat 8) (IntKind.bits .u64) = y / 256 := fun _ => rfl
  have w8 : ∀ y : Int, 0 ≤ y → y < 256 → IntKind.wrap .u8 y = y := fun y h1 h2 => by
    simp [IntKind.wrap, IntKind.signed, IntKind.bits]; omega
  simp only [e32, e16, e8]
  refine br_cases (fun c1 => ?_) (fun c1 => ?_)
  all_goals (first | have c1 := of_decide_eq_true c1 | have c1 := of_decide_eq_false c1)
  · refine ob_self (br_cases (fun c2 => ?_) (fun c2 => ?_))
    all_goals (first | have c2 := of_decide_eq_true c2 | have c2 := of_decide_eq_false c2)
    · refine ob_self (br_cases (fun c3 => ?_) (fun c3 => ?_))
      all_goals (first | have c3 := of_decide_eq_true c3 | have c3 := of_decide_eq_false c3)
      · exact ob_self (len_fin h 56 rfl (by decide) (q := x / 4294967296 / 65536 / 256) (by omega) (by omega) (by omega) (by omega) (w8 _ (by omega) (by omega)))
      · exact len_fin h 48 rfl (by decide) (q := x / 4294967296 / 65536) (by omega) (by omega) (by omega) (by omega) (w8 _ (by omega) (by omega))
    · refine br_cases (fun c3 => ?_) (fun c3 => ?_)
      all_goals (first | have c3 := of_decide_eq_true c3 | have c3 := of_decide_eq_false c3)
      · exact ob_self (len_fin h 40 rfl (by decide) (q := x / 4294967296 / 256) (by omega) (by omega) (by omega) (by omega) (w8 _ (by omega) (by omega)))
      · exact len_fin h 32 rfl (by decide) (q := x / 4294967296) (by omega) (by omega) (by omega) (by omega) (w8 _ (by omega) (by omega))
  · refine br_cases (fun c2 => ?_) (fun c2 => ?_)
    all_goals (first | have c2 := of_decide_eq_true c2 | have c2 := of_decide_eq_false c2)
    · refine ob_self (br_cases (fun c3 => ?_) (fun c3 => ?_))
      all_goals (first | have c3 := of_decide_eq_true c3 | have c3 := of_decide_eq_false c3)
      · exact ob_self (len_fin h 24 rfl (by decide) (q := x / 65536 / 256) (by omega) (by omega) (by omega) (by omega) (w8 _ (by omega) (by omega)))
      · exact len_fin h 16 rfl (by decide) (q := x / 65536) (by omega) (by omega) (by omega) (by omega) (w8 _ (by omega) (by omega))
    · refine br_cases (fun c3 => ?_) (fun c3 => ?_)
      all_goals (first | have c3 := of_decide_eq_true c3 | have c3 := of_decide_eq_false c3)
      · exact ob_self (len_fin h 8 rfl (by decide) (q := x / 256) (by omega) (by omega) (by omega) (by omega) (w8 _ (by omega) (by omega)))
      · exact len_fin h 0 rfl (by decide) (q := x) (by omega) (by omega) (by omega) (by omega) (w8 _ (by omega) (by omega))
theorem tbl : TabOk Tryz.prog TB := by
  refine tab_runK good (by kernel_rfl) (fun vs K h => ?_) tab_nil
  split at h
  · rename_i x
    obtain ⟨⟨h0, h1⟩, h⟩ := h
    have o := rLen x K h0 h1 h
    unfold nLen64 at o; exact ⟨[], EEz, false, 90, tab_nil, eez, o⟩
  · exact h.elim
theorem rbelow (x : Int) (K : Value → Prop) (h0 : 0 ≤ x) (h1 : x < 18446744073709551616) (h : ∀ m, BelP x m → K (.int .u64 m)) : nbelow x K := by
  rw [nbelow_eq]
  refine ⟨⟨h0, h1⟩, fun k hk => ob_mk (fun _ => decide_eq_true hk.1) (h _ ⟨k.toNat, by have := hk.2.1; omega, ?_, hk.2.2.1, ?_⟩)⟩
  · obtain ⟨k0, k1, _⟩ := hk
    obtain ⟨n, rfl⟩ : ∃ n : Nat, k = n := ⟨k.toNat, by omega⟩
    rw [Int.toNat_natCast, show IntKind.bits .u64 = 64 from rfl, Nat.min_eq_left (by omega)]
    rw [uW, uW, Int.one_mul]
    by_cases hn : n = 64
    · subst hn; decide
    · have a : (2 : Int) ^ n = ((2 ^ n : Nat) : Int) := by simp
      have b : 2 ^ n ≤ 2 ^ 63 := Nat.pow_le_pow_right (by decide) (by omega)
      have c : 0 < 2 ^ n := Nat.pow_pos (by decide)
      rw [a]; omega
  · rcases hk.2.2.2 with e | e
    · left; omega
    · right; exact e
theorem ttl : TabOk Tryz.prog TT := by
  refine tab_runK good (by kernel_rfl) (fun vs K h => ?_) tab_nil
  split at h
  · rename_i x
    obtain ⟨⟨h0, h1⟩, h⟩ := h
    have o := rbelow x K h0 h1 h
    unfold nbelow at o; exact ⟨TB, EEz, true, 90, tbl, eez, o⟩
  · exact h.elim
theorem mask_bit (k i : Nat) (hk : k ≤ 64) (hi : i < 64) : (BitVec.ofInt 64 (2 ^ k - 1)).getLsbD i = decide (i < k) := by
  have e : (2 : Int) ^ k - 1 = ((2 ^ k - 1 : Nat) : Int) := by
    have : 0 < 2 ^ k := Nat.pow_pos (by decide)
    have a : (2 : Int) ^ k = ((2 ^ k : Nat) : Int) := by simp
    rw [a]; omega
  rw [e, oi_nat, BitVec.getLsbD_ofNat, Nat.testBit_two_pow_sub_one]
  simp [hi]
theorem pw_le {k : Nat} (hk : k ≤ 64) : (0 : Int) < 2 ^ k ∧ (2 : Int) ^ k ≤ 18446744073709551616 := by
  have a : (2 : Int) ^ k = ((2 ^ k : Nat) : Int) := by simp
  have b : 2 ^ k ≤ 2 ^ 64 := Nat.pow_le_pow_right (by decide) hk
  have c : 0 < 2 ^ k := Nat.pow_pos (by decide)
  rw [a]; omega
theorem U_mask {k : Nat} (hk : k ≤ 64) : U (BitVec.ofInt 64 (2 ^ k - 1)) = 2 ^ k - 1 := by
  have := pw_le hk
  rw [U_ofInt]; omega
theorem cut_low (C : W) {k : Nat} (hk : k ≤ 64) : U C - U C % 2 ^ k = U (C &&& ~~~ BitVec.ofInt 64 (2 ^ k - 1)) := by
  have e : C.toNat - C.toNat % 2 ^ k = (C &&& ~~~ BitVec.ofInt 64 (2 ^ k - 1)).toNat := by
    rw [show C.toNat - C.toNat % 2 ^ k = 2 ^ k * (C.toNat / 2 ^ k) by have := Nat.div_add_mod C.toNat (2 ^ k); omega]
    apply Nat.eq_of_testBit_eq; intro i
    rw [Nat.testBit_two_pow_mul, Nat.testBit_div_two_pow]
    by_cases hi : i < 64
    · show _ = (C &&& ~~~ BitVec.ofInt 64 (2 ^ k - 1)).getLsbD i
      rw [BitVec.getLsbD_and, BitVec.getLsbD_not, mask_bit k i hk hi, decide_eq_true hi]
      by_cases l : i < k
      · rw [decide_eq_true l, decide_eq_false (show ¬ i ≥ k by omega)]; simp
      · rw [decide_eq_false l, decide_eq_true (show i ≥ k by omega), show i - k + k = i by omega]
        simp; rfl
    · have h1 : ∀ X : W, X.toNat.testBit i = false := fun X => BitVec.getLsbD_of_ge X i (by omega)
      rw [h1]
      by_cases l : i ≥ k
      · rw [show i - k + k = i by omega, h1]; simp
      · simp [l]
  unfold U
  rw [← e]
  have a : (2 : Int) ^ k = ((2 ^ k : Nat) : Int) := by simp
  rw [a]
  have := Nat.mod_le C.toNat (2 ^ k)
  omega
theorem KP_uniq {c d : Int} {i j : Nat} (h : KP c d i) (k : KP c d j) : i = j := by
  rcases Nat.lt_trichotomy i j with l | l | l
  · exact absurd h.eq (k.ne i l)
  · exact l
  · exact absurd k.eq (h.ne j l)
/-- What an exclusive or tells of where two numbers differ. -/
theorem KP_of {C D : W} {k : Nat} (hk : k ≤ 64) (h1 : U (C ^^^ D) < 2 ^ k) (h2 : k = 0 ∨ 2 ^ (k - 1) ≤ U (C ^^^ D)) : KP (U C) (U D) k := by
  have key : ∀ i : Nat, U C / 2 ^ i = U D / 2 ^ i ↔ U (C ^^^ D) < 2 ^ i := by
    intro i
    have a : (2 : Int) ^ i = ((2 ^ i : Nat) : Int) := by simp
    have hp : 0 < 2 ^ i := Nat.pow_pos (by decide)
    unfold U
    rw [a, BitVec.toNat_xor]
    generalize C.toNat = x; generalize D.toNat = y
    have h3 : (x / 2 ^ i = y / 2 ^ i) ↔ (x ^^^ y) / 2 ^ i = 0 := by
      rw [Nat.xor_div_two_pow]
      constructor
      · intro e; rw [e, Nat.xor_self]
      · intro e
        apply Nat.eq_of_testBit_eq; intro j
        have := congrArg (fun n => n.testBit j) e
        simp only [Nat.testBit_xor, Nat.zero_testBit] at this
        generalize (x / 2 ^ i).testBit j = p at *; generalize (y / 2 ^ i).testBit j = q at *
        cases p <;> cases q <;> first | rfl | exact absurd this (by decide)
    have h4 : (x ^^^ y) / 2 ^ i = 0 ↔ x ^^^ y < 2 ^ i := by
      rw [Nat.div_eq_zero_iff]; omega
    constructor
    · intro e
      have e : x / 2 ^ i = y / 2 ^ i := by exact_mod_cast e
      have := h4.1 (h3.1 e); omega
    · intro e
      have e : x ^^^ y < 2 ^ i := by omega
      have := h3.2 (h4.2 e); exact_mod_cast this
  refine ⟨hk, (key k).2 h1, fun i hi e => ?_⟩
  have e := (key i).1 e
  rcases h2 with h2 | h2
  · omega
  · have : (2 : Int) ^ i ≤ 2 ^ (k - 1) := by
      have : 2 ^ i ≤ 2 ^ (k - 1) := Nat.pow_le_pow_right (by decide) (by omega)
      have a : ((2 ^ i : Nat) : Int) ≤ ((2 ^ (k - 1) : Nat) : Int) := by omega
      simpa using a
    omega
open Classical in
/-- The number of bits above which both are the same. -/
noncomputable def kpf (c d : Int) : Nat := if h : ∃ k, KP c d k then h.choose else 0
theorem kpf_eq {c d : Int} {k : Nat} (h : KP c d k) : kpf c d = k := by
  have e : ∃ k, KP c d k := ⟨k, h⟩
  unfold kpf; rw [dif_pos e]
  exact KP_uniq e.choose_spec h
noncomputable def ttV (c d : Int) : Int := c - c % 2 ^ kpf c d
noncomputable def ttM (c d : Int) : Int := 2 ^ kpf c d - 1
theorem ttV_eq {C D : W} {k : Nat} (h : KP (U C) (U D) k) : ttV (U C) (U D) = U (C &&& ~~~ BitVec.ofInt 64 (2 ^ k - 1)) ∧ ttM (U C) (U D) = U (BitVec.ofInt 64 (2 ^ k - 1)) := by
  unfold ttV ttM; rw [kpf_eq h, cut_low C h.le, U_mask h.le]; exact ⟨rfl, rfl⟩
/-- ToT of the code. -/
theorem rTT1 (C D : W) (K : Value → Prop) (h : K (T2 (ttV (U C) (U D)) (ttM (U C) (U D)))) : nToT (U C) (U D) K := by
  rw [nToT_eq]
  have e : Go.bits .xor .u64 (U C) (U D) = U (C ^^^ D) := by rw [b_xor, ofInt_U, ofInt_U]
  rw [e]
  refine ⟨⟨U_nonneg _, U_lt _⟩, fun m ⟨k, hk, hm, h1, h2⟩ => ?_⟩
  have q := KP_of hk h1 h2
  obtain ⟨e1, e2⟩ := ttV_eq q
  rw [e1, e2] at h
  subst hm
  rw [b_andNot, ofInt_U, ← U_mask hk]
  rw [ofInt_U]
  exact h
/-- ToT of the reference. -/
theorem rTT2 (c d : Int) (K : Value → Prop) (hc : u6 c) (hd : u6 d) (h : K (T2 (ttV c d) (ttM c d))) : nRTT c d K :=
  Zp.rRTT c d K hc hd fun k hk => by
    unfold ttV ttM at h
    rw [kpf_eq hk] at h; exact h
/-- There is such a number of bits. -/
theorem KP_ex (C D : W) : ∃ k, KP (U C) (U D) k := by
  have key : ∀ n : Nat, n ≤ 64 → U (C ^^^ D) < 2 ^ n → ∃ k, KP (U C) (U D) k := by
    intro n
    induction n with
    | zero => intro _ h; exact ⟨0, KP_of (by omega) h (Or.inl rfl)⟩
    | succ n ih =>
      intro hn h
      by_cases l : U (C ^^^ D) < 2 ^ n
      · exact ih (by omega) l
      · exact ⟨n + 1, KP_of hn h (Or.inr (by rw [Nat.add_sub_cancel]; omega))⟩
  exact key 64 (by omega) (U_lt _)
theorem tt_dj (C D : W) : ∃ X Y : W, ttV (U C) (U D) = U X ∧ ttM (U C) (U D) = U Y ∧ X &&& Y = 0#64 := by
  obtain ⟨k, hk⟩ := KP_ex C D
  obtain ⟨e1, e2⟩ := ttV_eq hk
  refine ⟨_, _, e1, e2, ?_⟩
  rw [BitVec.and_assoc, BitVec.and_comm (~~~ _), BitVec.and_not_self]; simp
end Go.Proofs.YtceclodenhgoeaaGreat.Zbc
