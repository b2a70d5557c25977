/- Layer 5: the bits below; ToT. -/
import Derived.Test.YtaplgollkkpnaaaQScL
import Derived.Test.YtaplgollkkpnaaaQScG
namespace Go.Proofs.Ytaplgollkkpnaaa.ScM
open Go Go.RowKit Go.Proofs Go.Proofs.Ytaplgollkkpnaaa.Xc Go.Proofs.Ytaplgollkkpnaaa.Sc Go.Proofs.Ytaplgollkkpnaaa.ScS Go.Proofs.Ytaplgollkkpnaaa.ScL Go.Proofs.Ytaplgollkkpnaaa.ScG Go.Proofs.Ytaplgollkkpnaaa.ScX Go.Proofs.Ytaplgollkkpnaaa.Bv
set_option linter.unusedVariables false
theorem lit_ok : ∀ i : Nat, i < 256 → 0 ≤ byteAt lit8 (i : Int) ∧ byteAt lit8 (i : Int) ≤ 8 ∧ i < 2 ^ (byteAt lit8 (i : Int)).toNat := by decide +kernel
theorem lit_size : (lit8.size : Int) = 256 := by kernel_rfl
/-- The last step: a byte is left. -/
theorem len_fin {x s q r : Int} {K : Value → Prop} (h : ∀ k, LenP x k → K (.int .i64 k)) (n : Nat) (hs : s = n) (hn : n ≤ 56) (hq : q = x / 2 ^ n) (h0 : 0 ≤ q) (h1 : q < 256) (hr : r = q) : ob true (decide (0 ≤ r) && decide (r < (lit8.size : Int))) (K (.int .i64 (IntKind.i64.wrap (s + IntKind.i64.wrap (byteAt lit8 r))))) := by
  subst hr; subst hs
  rw [lit_size]
  refine ob_mk (fun _ => by simp; omega) ?_
  obtain ⟨i, rfl⟩ : ∃ i : Nat, r = i := ⟨r.toNat, by omega⟩
  obtain ⟨k1, k2, k3⟩ := lit_ok i (by omega)
  generalize hL : byteAt lit8 (i : Int) = L at *
  obtain ⟨l, rfl⟩ : ∃ l : Nat, L = l := ⟨L.toNat, by omega⟩
  have e1 : IntKind.i64.wrap (l : Int) = l := by have := sw_eq (l : Int); simp only [sw] at this; omega
  have e2 : IntKind.i64.wrap ((n : Int) + l) = ((n + l : Nat) : Int) := by have := sw_eq ((n : Int) + l); simp only [sw] at this; omega
  rw [e1, e2]
  refine h _ ⟨by omega, by omega, ?_⟩
  simp only [Int.toNat_natCast] at k3 ⊢
  have hp : (0 : Int) < 2 ^ n := Int.pow_pos (by decide)
  have h4 : x < (i + 1 : Int) * 2 ^ n := by
    have := Int.lt_ediv_add_one_mul_self x hp
    rw [← hq] at this; exact this
  have h6 : (i : Int) + 1 ≤ 2 ^ l := by
    have : ((i + 1 : Nat) : Int) ≤ ((2 ^ l : Nat) : Int) := by omega
    simpa using this
  have h5 : ((i : Int) + 1) * 2 ^ n ≤ 2 ^ l * 2 ^ n := Int.mul_le_mul_of_nonneg_right h6 (Int.le_of_lt hp)
  have h7 : (2 : Int) ^ (n + l) = 2 ^ l * 2 ^ n := by rw [Int.pow_add, Int.mul_comm]
  rw [h7]; omega
theorem rLen (x : Int) (K : Value → Prop) (h0 : 0 ≤ x) (h1 : x < 18446744073709551616) (h : ∀ k, LenP x k → K (.int .i64 k)) : nLen64 x K := by
  rw [nLen64_eq]
  have e32 : ∀ y : Int, y / 2 ^ min (Int.toNat 32) (IntKind.bits .u64) = y / 4294967296 := fun _ => rfl
  have e16 : ∀ y : Int, y / 2 ^ min (Int.toNat 16) (IntKind.bits .u64) = y / 65536 := fun _ => rfl
  have e8 : ∀ y : Int, y / 2 ^ min (Int.toNat 8) (IntKind.bits .u64) = y / 256 := fun _ => rfl
  have w8 : ∀ y : Int, 0 ≤ y → y < 256 → IntKind.wrap .u8 y = y := fun y h1 h2 => by
    simp [IntKind.wrap, IntKind.signed, IntKind.bits]; omega
  simp only [e32, e16, e8]
  refine br_cases (fun c1 => ?_) (fun c1 => ?_)
  all_goals (first | have c1 := of_decide_eq_true c1 | have c1 := of_decide_eq_false c1)
  · refine ob_self (br_cases (fun c2 => ?_) (fun c2 => ?_))
    all_goals (first | have c2 := of_decide_eq_true c2 | have c2 := of_decide_eq_false c2)
    · refine ob_self (br_cases (fun c3 => ?_) (fun c3 => ?_))
      all_goals (first | have c3 := of_decide_eq_true c3 | have c3 := of_decide_eq_false c3)
      · exact ob_self (len_fin h 56 rfl (by decide) (q := x / 4294967296 / 65536 / 256) (by omega) (by omega) (by omega) (w8 _ (by omega) (by omega)))
      · exact len_fin h 48 rfl (by decide) (q := x / 4294967296 / 65536) (by omega) (by omega) (by omega) (w8 _ (by omega) (by omega))
    · refine br_cases (fun c3 => ?_) (fun c3 => ?_)
      all_goals (first | have c3 := of_decide_eq_true c3 | have c3 := of_decide_eq_false c3)
      · exact ob_self (len_fin h 40 rfl (by decide) (q := x / 4294967296 / 256) (by omega) (by omega) (by omega) (w8 _ (by omega) (by omega)))
      · exact len_fin h 32 rfl (by decide) (q := x / 4294967296) (by omega) (by omega) (by omega) (w8 _ (by omega) (by omega))
  · refine br_cases (fun c2 => ?_) (fun c2 => ?_)
    all_goals (first | have c2 := of_decide_eq_true c2 | have c2 := of_decide_eq_false c2)
    · refine ob_self (br_cases (fun c3 => ?_) (fun c3 => ?_))
      all_goals (first | have c3 := of_decide_eq_true c3 | have c3 := of_decide_eq_false c3)
      · exact ob_self (len_fin h 24 rfl (by decide) (q := x / 65536 / 256) (by omega) (by omega) (by omega) (w8 _ (by omega) (by omega)))
      · exact len_fin h 16 rfl (by decide) (q := x / 65536) (by omega) (by omega) (by omega) (w8 _ (by omega) (by omega))
    · refine br_cases (fun c3 => ?_) (fun c3 => ?_)
      all_goals (first | have c3 := of_decide_eq_true c3 | have c3 := of_decide_eq_false c3)
      · exact ob_self (len_fin h 8 rfl (by decide) (q := x / 256) (by omega) (by omega) (by omega) (w8 _ (by omega) (by omega)))
      · exact len_fin h 0 rfl (by decide) (q := x) (by omega) (by omega) (by omega) (w8 _ (by omega) (by omega))
theorem tb : TabOk Try.prog TB := by
  refine tab_runK good (by kernel_rfl) (fun vs K h => ?_) tab_nil
  split at h
  · rename_i x
    obtain ⟨⟨h0, h1⟩, h⟩ := h
    have o := rLen x K h0 h1 h
    unfold nLen64 at o; exact ⟨[], EE, false, 90, tab_nil, ee, o⟩
  · exact h.elim
theorem rbelow (x : Int) (K : Value → Prop) (h0 : 0 ≤ x) (h1 : x < 18446744073709551616) (h : ∀ m, BelP x m → K (.int .u64 m)) : nbelow x K := by
  rw [nbelow_eq]
  refine ⟨⟨h0, h1⟩, fun k hk => ob_mk (fun _ => decide_eq_true hk.1) (h _ ⟨k.toNat, by have := hk.2.1; omega, ?_, hk.2.2⟩)⟩
  obtain ⟨k0, k1, _⟩ := hk
  obtain ⟨n, rfl⟩ : ∃ n : Nat, k = n := ⟨k.toNat, by omega⟩
  rw [Int.toNat_natCast, show IntKind.bits .u64 = 64 from rfl, Nat.min_eq_left (by omega)]
  have u := uw_eq; simp only [uw] at u
  rw [u, u, Int.one_mul]
  by_cases hn : n = 64
  · subst hn; decide
  · have a : (2 : Int) ^ n = ((2 ^ n : Nat) : Int) := by simp
    have b : 2 ^ n ≤ 2 ^ 63 := Nat.pow_le_pow_right (by decide) (by omega)
    have c : 0 < 2 ^ n := Nat.pow_pos (by decide)
    rw [a]; omega
theorem tt : TabOk Try.prog TT := by
  refine tab_runK good (by kernel_rfl) (fun vs K h => ?_) tab_nil
  split at h
  · rename_i x
    obtain ⟨⟨h0, h1⟩, h⟩ := h
    have o := rbelow x K h0 h1 h
    unfold nbelow at o; exact ⟨TB, EE, true, 90, tb, ee, o⟩
  · exact h.elim
structure ToTP (c d a b : Int) : Prop where
  s : uu c → uu d → ∀ v, uu v → uin c d v → tin a b v
  m : ap a b ∧ uu a ∧ uu b
theorem mask_bit (k i : Nat) (hk : k ≤ 64) (hi : i < 64) : (BitVec.ofInt 64 (2 ^ k - 1)).getLsbD i = decide (i < k) := by
  have e : (2 : Int) ^ k - 1 = ((2 ^ k - 1 : Nat) : Int) := by
    have : 0 < 2 ^ k := Nat.pow_pos (by decide)
    have a : (2 : Int) ^ k = ((2 ^ k : Nat) : Int) := by simp
    rw [a]; omega
  rw [e, oi_nat, BitVec.getLsbD_ofNat, Nat.testBit_two_pow_sub_one]
  simp [hi]
theorem aN_mask {v w : Int} (hv : uu v) (hw : uu w) {k : Nat} (hk : k ≤ 64) (h : v / 2 ^ k = w / 2 ^ k) : aN v (2 ^ k - 1) = aN w (2 ^ k - 1) := by
  rw [aN, aN, b_andNot, b_andNot, U_inj]
  obtain ⟨x, rfl⟩ : ∃ x : Nat, v = x := ⟨v.toNat, by have := hv.1; omega⟩
  obtain ⟨y, rfl⟩ : ∃ y : Nat, w = y := ⟨w.toNat, by have := hw.1; omega⟩
  have h' : x / 2 ^ k = y / 2 ^ k := by
    have a : (2 : Int) ^ k = ((2 ^ k : Nat) : Int) := by simp
    rw [a] at h; exact_mod_cast h
  rw [oi_nat, oi_nat]
  apply BitVec.eq_of_getLsbD_eq; intro i hi
  simp only [BitVec.getLsbD_and, BitVec.getLsbD_not, hi, decide_true, Bool.true_and, mask_bit k i hk hi, BitVec.getLsbD_ofNat]
  by_cases hik : i < k
  · simp [hik]
  · have t : ∀ z : Nat, z.testBit i = (z / 2 ^ k).testBit (i - k) := fun z => by
      rw [Nat.testBit_div_two_pow]; congr 1; omega
    simp only [hik, decide_false, Bool.not_false, Bool.and_true, t x, t y, h']
theorem rToT (c d : Int) (K : Value → Prop) (hc : uu c) (hd : uu d) (h : ∀ a b, ToTP c d a b → K (T2 a b)) : nToT c d K := by
  rw [nToT_eq]
  have hx : uu (Go.bits .xor .u64 c d) := by rw [b_xor]; exact ⟨U_nonneg _, U_lt _⟩
  refine ⟨hx, fun m ⟨k, hk, hm, hlt⟩ => h _ _ ⟨fun _ _ v hv hcd => ?_, ?_, uu_aN _ _, ?_⟩⟩
  · subst hm
    refine aN_mask hv hc hk ?_
    have e : c / 2 ^ k = d / 2 ^ k := by
      obtain ⟨x, rfl⟩ : ∃ x : Nat, c = x := ⟨c.toNat, by have := hc.1; omega⟩
      obtain ⟨y, rfl⟩ : ∃ y : Nat, d = y := ⟨d.toNat, by have := hd.1; omega⟩
      rw [b_xor, oi_nat, oi_nat] at hlt
      have hx2 := hc.2; have hy2 := hd.2
      have hq : U (BitVec.ofNat 64 x ^^^ BitVec.ofNat 64 y) = ((x ^^^ y : Nat) : Int) := by
        unfold U; rw [BitVec.toNat_xor, BitVec.toNat_ofNat, BitVec.toNat_ofNat, Nat.mod_eq_of_lt (by omega), Nat.mod_eq_of_lt (by omega)]
      rw [hq] at hlt
      have a : (2 : Int) ^ k = ((2 ^ k : Nat) : Int) := by simp
      rw [a] at hlt ⊢
      have hlt : x ^^^ y < 2 ^ k := by exact_mod_cast hlt
      have h2 : (x ^^^ y) / 2 ^ k = 0 := Nat.div_eq_of_lt hlt
      rw [Nat.xor_div_two_pow] at h2
      have h3 : x / 2 ^ k = y / 2 ^ k := by
        apply Nat.eq_of_testBit_eq
        intro i
        have := congrArg (fun n => n.testBit i) h2
        simp only [Nat.testBit_xor, Nat.zero_testBit] at this
        generalize (x / 2 ^ k).testBit i = p at *; generalize (y / 2 ^ k).testBit i = q at *
        cases p <;> cases q <;> first | rfl | exact absurd this (by decide)
      exact_mod_cast h3
    have hp : (0 : Int) < 2 ^ k := Int.pow_pos (by decide)
    have l1 := Int.ediv_le_ediv hp hcd.1
    have l2 := Int.ediv_le_ediv hp hcd.2
    omega
  · exact aN_idem _ _
  · subst hm
    have a : (2 : Int) ^ k = ((2 ^ k : Nat) : Int) := by simp
    have b : 2 ^ k ≤ 2 ^ 64 := Nat.pow_le_pow_right (by decide) hk
    have c : 0 < 2 ^ k := Nat.pow_pos (by decide)
    rw [a]; unfold uu; omega
end Go.Proofs.Ytaplgollkkpnaaa.ScM
