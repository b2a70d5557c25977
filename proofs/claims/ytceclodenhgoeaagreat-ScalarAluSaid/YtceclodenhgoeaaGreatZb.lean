/- Zba, Zbb, Zbc, Zbd, Zbe, Zbf, Zbg, Zbh, Zbi, Zbj, Zbk, Zbl, Zbm, Zbn, in one text. -/
import Derived.Test.YtceclodenhgoeaaGreatZa
section
/- Layer 5, against the reference: the lowest bits of a word, one by one. -/
namespace Go.Proofs.YtceclodenhgoeaaGreat.Zba
open Go Go.RowKit Go.Proofs Go.Proofs.YtceclodenhgoeaaGreat.Bv Go.Proofs.YtceclodenhgoeaaGreat.Zt
set_option linter.unusedVariables false
set_option linter.unusedSimpArgs false
/-- The lowest i bits. -/
def low (i : Nat) (X : W) : W := BitVec.ofNat 64 (X.toNat % 2 ^ i)
theorem low_bit {i j : Nat} (X : W) (hj : j < 64) : (low i X).getLsbD j = (decide (j < i) && X.getLsbD j) := by
  unfold low
  rw [BitVec.getLsbD_ofNat, Nat.testBit_mod_two_pow, decide_eq_true hj, Bool.true_and]; rfl
theorem low_zero (X : W) : low 0 X = 0#64 := by
  apply BitVec.eq_of_getLsbD_eq; intro j hj; rw [low_bit X hj]; simp
theorem low_all (X : W) : low 64 X = X := by
  apply BitVec.eq_of_getLsbD_eq; intro j hj; rw [low_bit X hj]; simp [hj]
theorem low_no {i : Nat} (X : W) (h : X.getLsbD i = false) : low (i + 1) X = low i X := by
  apply BitVec.eq_of_getLsbD_eq; intro j hj
  rw [low_bit X hj, low_bit X hj]
  by_cases e : j = i
  · subst e; rw [h]; simp
  · rw [show decide (j < i + 1) = decide (j < i) by simp; omega]
theorem one_bit (k : Nat) : (1#64).getLsbD k = decide (k = 0) := by
  rw [BitVec.getLsbD_one]; simp [eq_comm]
theorem low_yes {i : Nat} (hi : i < 64) (X : W) (h : X.getLsbD i = true) : low i X ||| (1#64 <<< i) = low (i + 1) X := by
  apply BitVec.eq_of_getLsbD_eq; intro j hj
  rw [BitVec.getLsbD_or, low_bit X hj, low_bit X hj, BitVec.getLsbD_shiftLeft, one_bit, decide_eq_true hj]
  by_cases e : j = i
  · subst e; rw [h]; simp
  · by_cases l : j < i
    · rw [decide_eq_true l, decide_eq_true (show j < i + 1 by omega)]; simp
    · rw [decide_eq_false l, decide_eq_false (show ¬ j < i + 1 by omega), decide_eq_false (show ¬ j - i = 0 by omega)]; simp
def bt (b : Bool) : Int := bif b then 1 else 0
theorem tb {i : Nat} (hi : i < 64) (X : W) : Int.tmod (U X / 2 ^ min (Int.toNat (i : Int)) (IntKind.bits .u64)) 2 = bt (X.getLsbD i) := by
  rw [Int.toNat_natCast, show IntKind.bits .u64 = 64 from rfl, Nat.min_eq_left (by omega), divp, Int.tmod_eq_emod_of_nonneg (U_nonneg _)]
  unfold U
  rw [BitVec.toNat_ushiftRight, Nat.shiftRight_eq_div_pow, show X.getLsbD i = X.toNat.testBit i from rfl, Nat.testBit_eq_decide_div_mod_eq]
  rcases Nat.mod_two_eq_zero_or_one (X.toNat / 2 ^ i) with e | e
  · rw [e]; have h2 : ((X.toNat / 2 ^ i : Nat) : Int) % 2 = 0 := by omega
    rw [h2]; rfl
  · rw [e]; have h2 : ((X.toNat / 2 ^ i : Nat) : Int) % 2 = 1 := by omega
    rw [h2]; rfl
theorem upO {i : Nat} (hi : i < 64) (X : W) : Go.bits .or .u64 (U (low i X)) (IntKind.wrap .u64 (bt (X.getLsbD i) * 2 ^ min (Int.toNat (i : Int)) (IntKind.bits .u64))) = U (low (i + 1) X) := by
  rw [Int.toNat_natCast, show IntKind.bits .u64 = 64 from rfl, Nat.min_eq_left (by omega)]
  cases h : X.getLsbD i
  · rw [low_no X h, show bt false = U 0#64 from rfl, mulp, b_or, ofInt_U, ofInt_U]; simp
  · rw [show bt true = U 1#64 from rfl, mulp, b_or, ofInt_U, ofInt_U, low_yes hi X h]
theorem up1 {i : Nat} (hi : i < 64) (X : W) (h : X.getLsbD i = true) : Go.bits .or .u64 (U (low i X)) (IntKind.wrap .u64 (1 * 2 ^ min (Int.toNat (i : Int)) (IntKind.bits .u64))) = U (low (i + 1) X) := by
  have := upO hi X; rw [h] at this; exact this
theorem nxt {i : Nat} (hi : i < 64) : IntKind.wrap .u64 ((i : Int) + 1) = ((i + 1 : Nat) : Int) := by rw [Zv.uW]; omega
theorem bt0 (b : Bool) : (bt b == 0) = !b := by cases b <;> rfl
theorem bt1 (b : Bool) : (bt b == 1) = b := by cases b <;> rfl
theorem btn (a b : Bool) : (bt a != bt b) = (a ^^ b) := by cases a <;> cases b <;> rfl
end Go.Proofs.YtceclodenhgoeaaGreat.Zba
end
section
/- Layer 5, against the reference: the code's ToT, run. -/
namespace Go.Proofs.YtceclodenhgoeaaGreat.Zbb
open Go Go.RowKit Go.Proofs Go.Proofs.YtceclodenhgoeaaGreat.Xc Go.Proofs.YtceclodenhgoeaaGreat.Zs Go.Proofs.YtceclodenhgoeaaGreat.Zo
set_option linter.unusedVariables false
set_option maxRecDepth 100000
/-- The table of lengths. -/
def lit8 : ByteArray := ByteArray.mk (List.toArray (List.append (List.append [0, 1, 2, 2, 3, 3, 3, 3, 4, 4, 4, 4, 4, 4, 4, 4, 5, 5, 5, 5, 5, 5, 5, 5, 5, 5, 5, 5, 5, 5, 5, 5, 6, 6, 6, 6, 6, 6, 6, 6, 6, 6, 6, 6, 6, 6, 6, 6, 6, 6, 6, 6, 6, 6, 6, 6, 6, 6, 6, 6, 6, 6, 6, 6] [7, 7, 7, 7, 7, 7, 7, 7, 7, 7, 7, 7, 7, 7, 7, 7, 7, 7, 7, 7, 7, 7, 7, 7, 7, 7, 7, 7, 7, 7, 7, 7, 7, 7, 7, 7, 7, 7, 7, 7, 7, 7, 7, 7, 7, 7, 7, 7, 7, 7, 7, 7, 7, 7, 7, 7, 7, 7, 7, 7, 7, 7, 7, 7]) (List.append [8, 8, 8, 8, 8, 8, 8, 8, 8, 8, 8, 8, 8, 8, 8, 8, 8, 8, 8, 8, 8, 8, 8, 8, 8, 8, 8, 8, 8, 8, 8, 8, 8, 8, 8, 8, 8, 8, 8, 8, 8, 8, 8, 8, 8, 8, 8, 8, 8, 8, 8, 8, 8, 8, 8, 8, 8, 8, 8, 8, 8, 8, 8, 8] [8, 8, 8, 8, 8, 8, 8, 8, 8, 8, 8, 8, 8, 8, 8, 8, 8, 8, 8, 8, 8, 8, 8, 8, 8, 8, 8, 8, 8, 8, 8, 8, 8, 8, 8, 8, 8, 8, 8, 8, 8, 8, 8, 8, 8, 8, 8, 8, 8, 8, 8, 8, 8, 8, 8, 8, 8, 8, 8, 8, 8, 8, 8, 8])))
def LenP (x : Int) (k : Int) : Prop := 0 ≤ k ∧ k ≤ 64 ∧ x < 2 ^ k.toNat ∧ (k = 0 ∨ 2 ^ (k.toNat - 1) ≤ x)
def BelP (x m : Int) : Prop := ∃ k : Nat, k ≤ 64 ∧ m = 2 ^ k - 1 ∧ x < 2 ^ k ∧ (k = 0 ∨ 2 ^ (k - 1) ≤ x)
def nLen64 (x : Int) (K : Value → Prop) : Prop := run Tryz.prog [] EEz false 90 190 [.int .u64 x] K
noncomputable abbrev TB : Tab := [(190, fun vs K => match vs with
  | [.int .u64 x] => need (0 ≤ x ∧ x < 18446744073709551616) (al fun k => im (LenP x k) (K (.int .i64 k)))
  | _ => False)]
theorem nLen64_eq (x : Int) (K : Value → Prop) : nLen64 x K = (br (decide (x ≥ 4294967296)) (ob true true (br (decide (x / 2 ^ min (Int.toNat 32) (IntKind.bits .u64) ≥ 65536)) (ob true true (br (decide (x / 2 ^ min (Int.toNat 32) (IntKind.bits .u64) / 2 ^ min (Int.toNat 16) (IntKind.bits .u64) ≥ 256)) (ob true true (ob true (decide (0 ≤ IntKind.wrap .u8 (x / 2 ^ min (Int.toNat 32) (IntKind.bits .u64) / 2 ^ min (Int.toNat 16) (IntKind.bits .u64) / 2 ^ min (Int.toNat 8) (IntKind.bits .u64))) && decide (IntKind.wrap .u8 (x / 2 ^ min (Int.toNat 32) (IntKind.bits .u64) / 2 ^ min (Int.toNat 16) (IntKind.bits .u64) / 2 ^ min (Int.toNat 8) (IntKind.bits .u64)) < (↑(ByteArray.size lit8) : Int))) (K (.int .i64 (IntKind.wrap .i64 (IntKind.wrap .i64 (IntKind.wrap .i64 (32 + 16) + 8) + IntKind.wrap .i64 (byteAt lit8 (IntKind.wrap .u8 (x / 2 ^ min (Int.toNat 32) (IntKind.bits .u64) / 2 ^ min (Int.toNat 16) (IntKind.bits .u64) / 2 ^ min (Int.toNat 8) (IntKind.bits .u64)))))))))) (ob true (decide (0 ≤ IntKind.wrap .u8 (x / 2 ^ min (Int.toNat 32) (IntKind.bits .u64) / 2 ^ min (Int.toNat 16) (IntKind.bits .u64))) && decide (IntKind.wrap .u8 (x / 2 ^ min (Int.toNat 32) (IntKind.bits .u64) / 2 ^ min (Int.toNat 16) (IntKind.bits .u64)) < (↑(ByteArray.size lit8) : Int))) (K (.int .i64 (IntKind.wrap .i64 (IntKind.wrap .i64 (32 + 16) + IntKind.wrap .i64 (byteAt lit8 (IntKind.wrap .u8 (x / 2 ^ min (Int.toNat 32) (IntKind.bits .u64) / 2 ^ min (Int.toNat 16) (IntKind.bits .u64))))))))))) (br (decide (x / 2 ^ min (Int.toNat 32) (IntKind.bits .u64) ≥ 256)) (ob true true (ob true (decide (0 ≤ IntKind.wrap .u8 (x / 2 ^ min (Int.toNat 32) (IntKind.bits .u64) / 2 ^ min (Int.toNat 8) (IntKind.bits .u64))) && decide (IntKind.wrap .u8 (x / 2 ^ min (Int.toNat 32) (IntKind.bits .u64) / 2 ^ min (Int.toNat 8) (IntKind.bits .u64)) < (↑(ByteArray.size lit8) : Int))) (K (.int .i64 (IntKind.wrap .i64 (IntKind.wrap .i64 (32 + 8) + IntKind.wrap .i64 (byteAt lit8 (IntKind.wrap .u8 (x / 2 ^ min (Int.toNat 32) (IntKind.bits .u64) / 2 ^ min (Int.toNat 8) (IntKind.bits .u64)))))))))) (ob true (decide (0 ≤ IntKind.wrap .u8 (x / 2 ^ min (Int.toNat 32) (IntKind.bits .u64))) && decide (IntKind.wrap .u8 (x / 2 ^ min (Int.toNat 32) (IntKind.bits .u64)) < (↑(ByteArray.size lit8) : Int))) (K (.int .i64 (IntKind.wrap .i64 (32 + IntKind.wrap .i64 (byteAt lit8 (IntKind.wrap .u8 (x / 2 ^ min (Int.toNat 32) (IntKind.bits .u64)))))))))))) (br (decide (x ≥ 65536)) (ob true true (br (decide (x / 2 ^ min (Int.toNat 16) (IntKind.bits .u64) ≥ 256)) (ob true true (ob true (decide (0 ≤ IntKind.wrap .u8 (x / 2 ^ min (Int.toNat 16) (IntKind.bits .u64) / 2 ^ min (Int.toNat 8) (IntKind.bits .u64))) && decide (IntKind.wrap .u8 (x / 2 ^ min (Int.toNat 16) (IntKind.bits .u64) / 2 ^ min (Int.toNat 8) (IntKind.bits .u64)) < (↑(ByteArray.size lit8) : Int))) (K (.int .i64 (IntKind.wrap .i64 (IntKind.wrap .i64 (IntKind.wrap .i64 (0 + 16) + 8) + IntKind.wrap .i64 (byteAt lit8 (IntKind.wrap .u8 (x / 2 ^ min (Int.toNat 16) (IntKind.bits .u64) / 2 ^ min (Int.toNat 8) (IntKind.bits .u64)))))))))) (ob true (decide (0 ≤ IntKind.wrap .u8 (x / 2 ^ min (Int.toNat 16) (IntKind.bits .u64))) && decide (IntKind.wrap .u8 (x / 2 ^ min (Int.toNat 16) (IntKind.bits .u64)) < (↑(ByteArray.size lit8) : Int))) (K (.int .i64 (IntKind.wrap .i64 (IntKind.wrap .i64 (0 + 16) + IntKind.wrap .i64 (byteAt lit8 (IntKind.wrap .u8 (x / 2 ^ min (Int.toNat 16) (IntKind.bits .u64))))))))))) (br (decide (x ≥ 256)) (ob true true (ob true (decide (0 ≤ IntKind.wrap .u8 (x / 2 ^ min (Int.toNat 8) (IntKind.bits .u64))) && decide (IntKind.wrap .u8 (x / 2 ^ min (Int.toNat 8) (IntKind.bits .u64)) < (↑(ByteArray.size lit8) : Int))) (K (.int .i64 (IntKind.wrap .i64 (IntKind.wrap .i64 (0 + 8) + IntKind.wrap .i64 (byteAt lit8 (IntKind.wrap .u8 (x / 2 ^ min (Int.toNat 8) (IntKind.bits .u64)))))))))) (ob true (decide (0 ≤ IntKind.wrap .u8 x) && decide (IntKind.wrap .u8 x < (↑(ByteArray.size lit8) : Int))) (K (.int .i64 (IntKind.wrap .i64 (0 + IntKind.wrap .i64 (byteAt lit8 (IntKind.wrap .u8 x)))))))))) := by kernel_rfl
def nbelow (x : Int) (K : Value → Prop) : Prop := run Tryz.prog TB EEz true 90 162 [.int .u64 x] K
noncomputable abbrev TT : Tab := [(162, fun vs K => match vs with
  | [.int .u64 x] => need (0 ≤ x ∧ x < 18446744073709551616) (al fun m => im (BelP x m) (K (.int .u64 m)))
  | _ => False)]
theorem nbelow_eq (x : Int) (K : Value → Prop) : nbelow x K = (need (0 ≤ x ∧ x < 18446744073709551616) (al fun x_1 => im (Zbb.LenP x x_1) (ob true (decide (0 ≤ x_1)) (K (.int .u64 (IntKind.wrap .u64 (IntKind.wrap .u64 (1 * 2 ^ min (Int.toNat x_1) (IntKind.bits .u64)) - 1))))))) := by kernel_rfl
def nToT (c d : Int) (K : Value → Prop) : Prop := run Tryz.prog TT EEz true 90 56 [T2 c d] K
theorem nToT_eq (c d : Int) (K : Value → Prop) : nToT c d K = (need (0 ≤ Go.bits .xor .u64 c d ∧ Go.bits .xor .u64 c d < 18446744073709551616) (al fun x => im (Zbb.BelP (Go.bits .xor .u64 c d) x) (K (.agg (#[.int .u64 (Go.bits .andNot .u64 c x), .int .u64 x]))))) := by kernel_rfl
end Go.Proofs.YtceclodenhgoeaaGreat.Zbb
end
section
/- Layer 5, against the reference: the code's ToT is the reference's. -/
namespace Go.Proofs.YtceclodenhgoeaaGreat.Zbc
open Go Go.RowKit Go.Proofs Go.Proofs.YtceclodenhgoeaaGreat.Xc Go.Proofs.YtceclodenhgoeaaGreat.Zs Go.Proofs.YtceclodenhgoeaaGreat.Zu Go.Proofs.YtceclodenhgoeaaGreat.Zv Go.Proofs.YtceclodenhgoeaaGreat.Zo Go.Proofs.YtceclodenhgoeaaGreat.Zy Go.Proofs.YtceclodenhgoeaaGreat.Zbb Go.Proofs.YtceclodenhgoeaaGreat.Zt Go.Proofs.YtceclodenhgoeaaGreat.Bv
set_option linter.unusedVariables false
set_option linter.unusedSimpArgs false
theorem lit_ok : ∀ i : Nat, i < 256 → 0 ≤ byteAt lit8 (i : Int) ∧ byteAt lit8 (i : Int) ≤ 8 ∧ i < 2 ^ (byteAt lit8 (i : Int)).toNat ∧ (byteAt lit8 (i : Int) = 0 ∨ 2 ^ ((byteAt lit8 (i : Int)).toNat - 1) ≤ i) := by decide +kernel
theorem lit_size : (lit8.size : Int) = 256 := by kernel_rfl
theorem iW {n : Int} (h0 : 0 ≤ n) (h1 : n < 1000) : IntKind.i64.wrap n = n := by
  simp [IntKind.wrap, IntKind.signed, IntKind.bits]; omega
/-- The last step: a byte is left. -/
theorem len_fin {x s q r : Int} {K : Value → Prop} (h : ∀ k, LenP x k → K (.int .i64 k)) (n : Nat) (hs : s = n) (hn : n ≤ 56) (hq : q = x / 2 ^ n) (h0 : 0 ≤ q) (h1 : q < 256) (hz : n = 0 ∨ 1 ≤ q) (hr : r = q) : ob true (decide (0 ≤ r) && decide (r < (lit8.size : Int))) (K (.int .i64 (IntKind.i64.wrap (s + IntKind.i64.wrap (byteAt lit8 r))))) := by
  subst hr; subst hs
  rw [lit_size]
  refine ob_mk (fun _ => by simp; omega) ?_
  obtain ⟨i, rfl⟩ : ∃ i : Nat, r = i := ⟨r.toNat, by omega⟩
  obtain ⟨k1, k2, k3, k4⟩ := lit_ok i (by omega)
  generalize hL : byteAt lit8 (i : Int) = L at *
  obtain ⟨l, rfl⟩ : ∃ l : Nat, L = l := ⟨L.toNat, by omega⟩
  have e1 : IntKind.i64.wrap (l : Int) = l := iW (by omega) (by omega)
  have e2 : IntKind.i64.wrap ((n : Int) + l) = ((n + l : Nat) : Int) := by rw [iW (by omega) (by omega)]; omega
  rw [e1, e2]
  have hp : (0 : Int) < 2 ^ n := Int.pow_pos (by decide)
  simp only [Int.toNat_natCast] at k3 k4
  have hxl : (i : Int) * 2 ^ n ≤ x := by
    have := Int.ediv_mul_le x (b := 2 ^ n) (by omega)
    rw [← hq] at this; exact this
  refine h _ ⟨by omega, by omega, ?_, ?_⟩
  · simp only [Int.toNat_natCast]
    have h4 : x < (i + 1 : Int) * 2 ^ n := by
      have := Int.lt_ediv_add_one_mul_self x hp
      rw [← hq] at this; exact this
    have h6 : (i : Int) + 1 ≤ 2 ^ l := by
      have : ((i + 1 : Nat) : Int) ≤ ((2 ^ l : Nat) : Int) := by omega
      simpa using this
    have h5 : ((i : Int) + 1) * 2 ^ n ≤ 2 ^ l * 2 ^ n := Int.mul_le_mul_of_nonneg_right h6 (Int.le_of_lt hp)
    have h7 : (2 : Int) ^ (n + l) = 2 ^ l * 2 ^ n := by rw [Int.pow_add, Int.mul_comm]
    rw [h7]; omega
  · by_cases hl : l = 0
    · subst hl
      have : i = 0 := by simpa using k3
      left; omega
    · right
      simp only [Int.toNat_natCast]
      have k5 : 2 ^ (l - 1) ≤ i := by rcases k4 with k4 | k4 <;> omega
      have h6 : (2 : Int) ^ (l - 1) ≤ i := by
        have : ((2 ^ (l - 1) : Nat) : Int) ≤ (i : Int) := by omega
        simpa using this
      have h5 : (2 : Int) ^ (l - 1) * 2 ^ n ≤ i * 2 ^ n := Int.mul_le_mul_of_nonneg_right h6 (Int.le_of_lt hp)
      rw [show n + l - 1 = (l - 1) + n by omega, Int.pow_add]; omega
theorem rLen (x : Int) (K : Value → Prop) (h0 : 0 ≤ x) (h1 : x < 18446744073709551616) (h : ∀ k, LenP x k → K (.int .i64 k)) : nLen64 x K := by
  rw [nLen64_eq]
  have e32 : ∀ y : Int, y / 2 ^ min (Int.toNat 32) (IntKind.bits .u64) = y / 4294967296 := fun _ => rfl
  have e16 : ∀ y : Int, y / 2 ^ min (Int.toNat 16) (IntKind.bits .u64) = y / 65536 := fun _ => rfl
  have e8 : ∀ y : Int, y / 2 ^ min (Int.toNat 8) (IntKind.bits .u64) = y / 256 := fun _ => rfl
  have w8 : ∀ y : Int, 0 ≤ y → y < 256 → IntKind.wrap .u8 y = y := fun y h1 h2 => by
    simp [IntKind.wrap, IntKind.signed, IntKind.bits]; omega
  simp only [e32, e16, e8]
  refine br_cases (fun c1 => ?_) (fun c1 => ?_)
  all_goals (first | have c1 := of_decide_eq_true c1 | have c1 := of_decide_eq_false c1)
  · refine ob_self (br_cases (fun c2 => ?_) (fun c2 => ?_))
    all_goals (first | have c2 := of_decide_eq_true c2 | have c2 := of_decide_eq_false c2)
    · refine ob_self (br_cases (fun c3 => ?_) (fun c3 => ?_))
      all_goals (first | have c3 := of_decide_eq_true c3 | have c3 := of_decide_eq_false c3)
      · exact ob_self (len_fin h 56 rfl (by decide) (q := x / 4294967296 / 65536 / 256) (by omega) (by omega) (by omega) (by omega) (w8 _ (by omega) (by omega)))
      · exact len_fin h 48 rfl (by decide) (q := x / 4294967296 / 65536) (by omega) (by omega) (by omega) (by omega) (w8 _ (by omega) (by omega))
    · refine br_cases (fun c3 => ?_) (fun c3 => ?_)
      all_goals (first | have c3 := of_decide_eq_true c3 | have c3 := of_decide_eq_false c3)
      · exact ob_self (len_fin h 40 rfl (by decide) (q := x / 4294967296 / 256) (by omega) (by omega) (by omega) (by omega) (w8 _ (by omega) (by omega)))
      · exact len_fin h 32 rfl (by decide) (q := x / 4294967296) (by omega) (by omega) (by omega) (by omega) (w8 _ (by omega) (by omega))
  · refine br_cases (fun c2 => ?_) (fun c2 => ?_)
    all_goals (first | have c2 := of_decide_eq_true c2 | have c2 := of_decide_eq_false c2)
    · refine ob_self (br_cases (fun c3 => ?_) (fun c3 => ?_))
      all_goals (first | have c3 := of_decide_eq_true c3 | have c3 := of_decide_eq_false c3)
      · exact ob_self (len_fin h 24 rfl (by decide) (q := x / 65536 / 256) (by omega) (by omega) (by omega) (by omega) (w8 _ (by omega) (by omega)))
      · exact len_fin h 16 rfl (by decide) (q := x / 65536) (by omega) (by omega) (by omega) (by omega) (w8 _ (by omega) (by omega))
    · refine br_cases (fun c3 => ?_) (fun c3 => ?_)
      all_goals (first | have c3 := of_decide_eq_true c3 | have c3 := of_decide_eq_false c3)
      · exact ob_self (len_fin h 8 rfl (by decide) (q := x / 256) (by omega) (by omega) (by omega) (by omega) (w8 _ (by omega) (by omega)))
      · exact len_fin h 0 rfl (by decide) (q := x) (by omega) (by omega) (by omega) (by omega) (w8 _ (by omega) (by omega))
theorem tbl : TabOk Tryz.prog TB := by
  refine tab_runK good (by kernel_rfl) (fun vs K h => ?_) tab_nil
  split at h
  · rename_i x
    obtain ⟨⟨h0, h1⟩, h⟩ := h
    have o := rLen x K h0 h1 h
    unfold nLen64 at o; exact ⟨[], EEz, false, 90, tab_nil, eez, o⟩
  · exact h.elim
theorem rbelow (x : Int) (K : Value → Prop) (h0 : 0 ≤ x) (h1 : x < 18446744073709551616) (h : ∀ m, BelP x m → K (.int .u64 m)) : nbelow x K := by
  rw [nbelow_eq]
  refine ⟨⟨h0, h1⟩, fun k hk => ob_mk (fun _ => decide_eq_true hk.1) (h _ ⟨k.toNat, by have := hk.2.1; omega, ?_, hk.2.2.1, ?_⟩)⟩
  · obtain ⟨k0, k1, _⟩ := hk
    obtain ⟨n, rfl⟩ : ∃ n : Nat, k = n := ⟨k.toNat, by omega⟩
    rw [Int.toNat_natCast, show IntKind.bits .u64 = 64 from rfl, Nat.min_eq_left (by omega)]
    rw [uW, uW, Int.one_mul]
    by_cases hn : n = 64
    · subst hn; decide
    · have a : (2 : Int) ^ n = ((2 ^ n : Nat) : Int) := by simp
      have b : 2 ^ n ≤ 2 ^ 63 := Nat.pow_le_pow_right (by decide) (by omega)
      have c : 0 < 2 ^ n := Nat.pow_pos (by decide)
      rw [a]; omega
  · rcases hk.2.2.2 with e | e
    · left; omega
    · right; exact e
theorem ttl : TabOk Tryz.prog TT := by
  refine tab_runK good (by kernel_rfl) (fun vs K h => ?_) tab_nil
  split at h
  · rename_i x
    obtain ⟨⟨h0, h1⟩, h⟩ := h
    have o := rbelow x K h0 h1 h
    unfold nbelow at o; exact ⟨TB, EEz, true, 90, tbl, eez, o⟩
  · exact h.elim
theorem mask_bit (k i : Nat) (hk : k ≤ 64) (hi : i < 64) : (BitVec.ofInt 64 (2 ^ k - 1)).getLsbD i = decide (i < k) := by
  have e : (2 : Int) ^ k - 1 = ((2 ^ k - 1 : Nat) : Int) := by
    have : 0 < 2 ^ k := Nat.pow_pos (by decide)
    have a : (2 : Int) ^ k = ((2 ^ k : Nat) : Int) := by simp
    rw [a]; omega
  rw [e, oi_nat, BitVec.getLsbD_ofNat, Nat.testBit_two_pow_sub_one]
  simp [hi]
theorem pw_le {k : Nat} (hk : k ≤ 64) : (0 : Int) < 2 ^ k ∧ (2 : Int) ^ k ≤ 18446744073709551616 := by
  have a : (2 : Int) ^ k = ((2 ^ k : Nat) : Int) := by simp
  have b : 2 ^ k ≤ 2 ^ 64 := Nat.pow_le_pow_right (by decide) hk
  have c : 0 < 2 ^ k := Nat.pow_pos (by decide)
  rw [a]; omega
theorem U_mask {k : Nat} (hk : k ≤ 64) : U (BitVec.ofInt 64 (2 ^ k - 1)) = 2 ^ k - 1 := by
  have := pw_le hk
  rw [U_ofInt]; omega
theorem cut_low (C : W) {k : Nat} (hk : k ≤ 64) : U C - U C % 2 ^ k = U (C &&& ~~~ BitVec.ofInt 64 (2 ^ k - 1)) := by
  have e : C.toNat - C.toNat % 2 ^ k = (C &&& ~~~ BitVec.ofInt 64 (2 ^ k - 1)).toNat := by
    rw [show C.toNat - C.toNat % 2 ^ k = 2 ^ k * (C.toNat / 2 ^ k) by have := Nat.div_add_mod C.toNat (2 ^ k); omega]
    apply Nat.eq_of_testBit_eq; intro i
    rw [Nat.testBit_two_pow_mul, Nat.testBit_div_two_pow]
    by_cases hi : i < 64
    · show _ = (C &&& ~~~ BitVec.ofInt 64 (2 ^ k - 1)).getLsbD i
      rw [BitVec.getLsbD_and, BitVec.getLsbD_not, mask_bit k i hk hi, decide_eq_true hi]
      by_cases l : i < k
      · rw [decide_eq_true l, decide_eq_false (show ¬ i ≥ k by omega)]; simp
      · rw [decide_eq_false l, decide_eq_true (show i ≥ k by omega), show i - k + k = i by omega]
        simp; rfl
    · have h1 : ∀ X : W, X.toNat.testBit i = false := fun X => BitVec.getLsbD_of_ge X i (by omega)
      rw [h1]
      by_cases l : i ≥ k
      · rw [show i - k + k = i by omega, h1]; simp
      · simp [l]
  unfold U
  rw [← e]
  have a : (2 : Int) ^ k = ((2 ^ k : Nat) : Int) := by simp
  rw [a]
  have := Nat.mod_le C.toNat (2 ^ k)
  omega
theorem KP_uniq {c d : Int} {i j : Nat} (h : KP c d i) (k : KP c d j) : i = j := by
  rcases Nat.lt_trichotomy i j with l | l | l
  · exact absurd h.eq (k.ne i l)
  · exact l
  · exact absurd k.eq (h.ne j l)
/-- What an exclusive or tells of where two numbers differ. -/
theorem KP_of {C D : W} {k : Nat} (hk : k ≤ 64) (h1 : U (C ^^^ D) < 2 ^ k) (h2 : k = 0 ∨ 2 ^ (k - 1) ≤ U (C ^^^ D)) : KP (U C) (U D) k := by
  have key : ∀ i : Nat, U C / 2 ^ i = U D / 2 ^ i ↔ U (C ^^^ D) < 2 ^ i := by
    intro i
    have a : (2 : Int) ^ i = ((2 ^ i : Nat) : Int) := by simp
    have hp : 0 < 2 ^ i := Nat.pow_pos (by decide)
    unfold U
    rw [a, BitVec.toNat_xor]
    generalize C.toNat = x; generalize D.toNat = y
    have h3 : (x / 2 ^ i = y / 2 ^ i) ↔ (x ^^^ y) / 2 ^ i = 0 := by
      rw [Nat.xor_div_two_pow]
      constructor
      · intro e; rw [e, Nat.xor_self]
      · intro e
        apply Nat.eq_of_testBit_eq; intro j
        have := congrArg (fun n => n.testBit j) e
        simp only [Nat.testBit_xor, Nat.zero_testBit] at this
        generalize (x / 2 ^ i).testBit j = p at *; generalize (y / 2 ^ i).testBit j = q at *
        cases p <;> cases q <;> first | rfl | exact absurd this (by decide)
    have h4 : (x ^^^ y) / 2 ^ i = 0 ↔ x ^^^ y < 2 ^ i := by
      rw [Nat.div_eq_zero_iff]; omega
    constructor
    · intro e
      have e : x / 2 ^ i = y / 2 ^ i := by exact_mod_cast e
      have := h4.1 (h3.1 e); omega
    · intro e
      have e : x ^^^ y < 2 ^ i := by omega
      have := h3.2 (h4.2 e); exact_mod_cast this
  refine ⟨hk, (key k).2 h1, fun i hi e => ?_⟩
  have e := (key i).1 e
  rcases h2 with h2 | h2
  · omega
  · have : (2 : Int) ^ i ≤ 2 ^ (k - 1) := by
      have : 2 ^ i ≤ 2 ^ (k - 1) := Nat.pow_le_pow_right (by decide) (by omega)
      have a : ((2 ^ i : Nat) : Int) ≤ ((2 ^ (k - 1) : Nat) : Int) := by omega
      simpa using a
    omega
open Classical in
/-- The number of bits above which both are the same. -/
noncomputable def kpf (c d : Int) : Nat := if h : ∃ k, KP c d k then h.choose else 0
theorem kpf_eq {c d : Int} {k : Nat} (h : KP c d k) : kpf c d = k := by
  have e : ∃ k, KP c d k := ⟨k, h⟩
  unfold kpf; rw [dif_pos e]
  exact KP_uniq e.choose_spec h
noncomputable def ttV (c d : Int) : Int := c - c % 2 ^ kpf c d
noncomputable def ttM (c d : Int) : Int := 2 ^ kpf c d - 1
theorem ttV_eq {C D : W} {k : Nat} (h : KP (U C) (U D) k) : ttV (U C) (U D) = U (C &&& ~~~ BitVec.ofInt 64 (2 ^ k - 1)) ∧ ttM (U C) (U D) = U (BitVec.ofInt 64 (2 ^ k - 1)) := by
  unfold ttV ttM; rw [kpf_eq h, cut_low C h.le, U_mask h.le]; exact ⟨rfl, rfl⟩
/-- ToT of the code. -/
theorem rTT1 (C D : W) (K : Value → Prop) (h : K (T2 (ttV (U C) (U D)) (ttM (U C) (U D)))) : nToT (U C) (U D) K := by
  rw [nToT_eq]
  have e : Go.bits .xor .u64 (U C) (U D) = U (C ^^^ D) := by rw [b_xor, ofInt_U, ofInt_U]
  rw [e]
  refine ⟨⟨U_nonneg _, U_lt _⟩, fun m ⟨k, hk, hm, h1, h2⟩ => ?_⟩
  have q := KP_of hk h1 h2
  obtain ⟨e1, e2⟩ := ttV_eq q
  rw [e1, e2] at h
  subst hm
  rw [b_andNot, ofInt_U, ← U_mask hk]
  rw [ofInt_U]
  exact h
/-- ToT of the reference. -/
theorem rTT2 (c d : Int) (K : Value → Prop) (hc : u6 c) (hd : u6 d) (h : K (T2 (ttV c d) (ttM c d))) : nRTT c d K :=
  Zp.rRTT c d K hc hd fun k hk => by
    unfold ttV ttM at h
    rw [kpf_eq hk] at h; exact h
/-- There is such a number of bits. -/
theorem KP_ex (C D : W) : ∃ k, KP (U C) (U D) k := by
  have key : ∀ n : Nat, n ≤ 64 → U (C ^^^ D) < 2 ^ n → ∃ k, KP (U C) (U D) k := by
    intro n
    induction n with
    | zero => intro _ h; exact ⟨0, KP_of (by omega) h (Or.inl rfl)⟩
    | succ n ih =>
      intro hn h
      by_cases l : U (C ^^^ D) < 2 ^ n
      · exact ih (by omega) l
      · exact ⟨n + 1, KP_of hn h (Or.inr (by rw [Nat.add_sub_cancel]; omega))⟩
  exact key 64 (by omega) (U_lt _)
theorem tt_dj (C D : W) : ∃ X Y : W, ttV (U C) (U D) = U X ∧ ttM (U C) (U D) = U Y ∧ X &&& Y = 0#64 := by
  obtain ⟨k, hk⟩ := KP_ex C D
  obtain ⟨e1, e2⟩ := ttV_eq hk
  refine ⟨_, _, e1, e2, ?_⟩
  rw [BitVec.and_assoc, BitVec.and_comm (~~~ _), BitVec.and_not_self]; simp
end Go.Proofs.YtceclodenhgoeaaGreat.Zbc
end
section
/- Layer 5, against the reference: rounds of ref03.In, Within, Join, run. -/
namespace Go.Proofs.YtceclodenhgoeaaGreat.Zbd
open Go Go.RowKit Go.Proofs Go.Proofs.YtceclodenhgoeaaGreat.Xc Go.Proofs.YtceclodenhgoeaaGreat.Zs Go.Proofs.YtceclodenhgoeaaGreat.Zo
set_option maxRecDepth 100000
set_option linter.unusedVariables false
noncomputable def bodyI : Code := match blk Tryz.prog 73 0 with
  | .loop c => c
  | _ => .skip
noncomputable def bodyW : Code := match blk Tryz.prog 79 0 with
  | .loop c => c
  | _ => .skip
noncomputable def bodyJ : Code := match blk Tryz.prog 85 0 with
  | .loop c => c
  | _ => .skip
def SI (x0 : Value) (a m v i : Int) : St := ⟨[.v x0, .v (.int .u64 v), .p 0 0, .any, .v (.bool false), .v (.int .u64 i)] ++ List.replicate 22 .any, [[.v (.int .u64 a), .v (.int .u64 m)]]⟩
def SW (x0 x1 : Value) (a am b bm i : Int) : St := ⟨[.v x0, .v x1, .p 0 0, .p 1 0, .v (.bool false), .v (.int .u64 i)] ++ List.replicate 31 .any, [[.v (.int .u64 a), .v (.int .u64 am)], [.v (.int .u64 b), .v (.int .u64 bm)]]⟩
def SJ (x0 x1 : Value) (a am b bm o om i : Int) : St := ⟨[.v x0, .v x1, .p 0 0, .p 1 0, .p 2 0, .p 3 0, .v (.int .u64 i)] ++ List.replicate 49 .any, [[.v (.int .u64 a), .v (.int .u64 am)], [.v (.int .u64 b), .v (.int .u64 bm)], [.v (.int .u64 0), .v (.int .u64 0)], [.v (.int .u64 o), .v (.int .u64 om)]]⟩
def nRi (x0 : Value) (a m v i : Int) (K : Exit → St → Prop) : Prop := rndL Tryz.prog [] EEz true [] 90 [0, 1, 2, 4, 5] 1 bodyI (SI x0 a m v i) K
theorem nRi_eq (x0 : Value) (a m v i : Int) (K : Exit → St → Prop) : nRi x0 a m v i K = (br (decide (i < 64)) (ob true (decide (0 ≤ i)) (ob true true (ob (Int.tmod (m / 2 ^ min (Int.toNat i) (IntKind.bits .u64)) 2 == 0) (Int.tmod (m / 2 ^ min (Int.toNat i) (IntKind.bits .u64)) 2 == 0) (ob (Int.tmod (m / 2 ^ min (Int.toNat i) (IntKind.bits .u64)) 2 == 0) (Int.tmod (m / 2 ^ min (Int.toNat i) (IntKind.bits .u64)) 2 == 0) (ob (Int.tmod (m / 2 ^ min (Int.toNat i) (IntKind.bits .u64)) 2 == 0) (Int.tmod (m / 2 ^ min (Int.toNat i) (IntKind.bits .u64)) 2 == 0) (ob (Int.tmod (m / 2 ^ min (Int.toNat i) (IntKind.bits .u64)) 2 == 0) (decide (0 ≤ i)) (ob (Int.tmod (m / 2 ^ min (Int.toNat i) (IntKind.bits .u64)) 2 == 0) (Int.tmod (m / 2 ^ min (Int.toNat i) (IntKind.bits .u64)) 2 == 0) (ob (Int.tmod (m / 2 ^ min (Int.toNat i) (IntKind.bits .u64)) 2 == 0) true (ob (Int.tmod (m / 2 ^ min (Int.toNat i) (IntKind.bits .u64)) 2 == 0) (Int.tmod (m / 2 ^ min (Int.toNat i) (IntKind.bits .u64)) 2 == 0) (ob (Int.tmod (m / 2 ^ min (Int.toNat i) (IntKind.bits .u64)) 2 == 0) (Int.tmod (m / 2 ^ min (Int.toNat i) (IntKind.bits .u64)) 2 == 0) (ob (Int.tmod (m / 2 ^ min (Int.toNat i) (IntKind.bits .u64)) 2 == 0) (decide (0 ≤ i)) (ob (Int.tmod (m / 2 ^ min (Int.toNat i) (IntKind.bits .u64)) 2 == 0) (Int.tmod (m / 2 ^ min (Int.toNat i) (IntKind.bits .u64)) 2 == 0) (ob (Int.tmod (m / 2 ^ min (Int.toNat i) (IntKind.bits .u64)) 2 == 0) true (ob (Int.tmod (m / 2 ^ min (Int.toNat i) (IntKind.bits .u64)) 2 == 0) (Int.tmod (m / 2 ^ min (Int.toNat i) (IntKind.bits .u64)) 2 == 0) (ob (Int.tmod (m / 2 ^ min (Int.toNat i) (IntKind.bits .u64)) 2 == 0) (Int.tmod (m / 2 ^ min (Int.toNat i) (IntKind.bits .u64)) 2 == 0) (ob (Int.tmod (m / 2 ^ min (Int.toNat i) (IntKind.bits .u64)) 2 == 0) (Int.tmod (m / 2 ^ min (Int.toNat i) (IntKind.bits .u64)) 2 == 0) (ob (Int.tmod (m / 2 ^ min (Int.toNat i) (IntKind.bits .u64)) 2 == 0) (Int.tmod (m / 2 ^ min (Int.toNat i) (IntKind.bits .u64)) 2 == 0) (ob (Int.tmod (m / 2 ^ min (Int.toNat i) (IntKind.bits .u64)) 2 == 0) (Int.tmod (m / 2 ^ min (Int.toNat i) (IntKind.bits .u64)) 2 == 0) (ob (!Int.tmod (m / 2 ^ min (Int.toNat i) (IntKind.bits .u64)) 2 == 0) true (nm (bif Int.tmod (m / 2 ^ min (Int.toNat i) (IntKind.bits .u64)) 2 == 0 then Int.tmod (a / 2 ^ min (Int.toNat i) (IntKind.bits .u64)) 2 != Int.tmod (v / 2 ^ min (Int.toNat i) (IntKind.bits .u64)) 2 else false) fun r => br r (K Go.Exit.ret (St.mk [AV.v x0, AV.v (.int .u64 v), AV.p 0 0, AV.any, AV.v (.bool false), AV.v (.int .u64 i), AV.any, AV.any, AV.any, AV.any, AV.any, AV.any, AV.any, AV.any, AV.any, AV.any, AV.any, AV.any, AV.any, AV.any, AV.any, AV.any, AV.any, AV.any, AV.any, AV.any, AV.any, AV.any] [[AV.v (.int .u64 a), AV.v (.int .u64 m)]])) (K Go.Exit.normal (St.mk [AV.v x0, AV.v (.int .u64 v), AV.p 0 0, AV.any, AV.v (.bool false), AV.v (.int .u64 (IntKind.wrap .u64 (i + 1))), AV.any, AV.any, AV.any, AV.any, AV.any, AV.any, AV.any, AV.any, AV.any, AV.any, AV.any, AV.any, AV.any, AV.any, AV.any, AV.any, AV.any, AV.any, AV.any, AV.any, AV.any, AV.any] [[AV.v (.int .u64 a), AV.v (.int .u64 m)]])))))))))))))))))))))) (K (Go.Exit.exit 0) (St.mk [AV.v x0, AV.v (.int .u64 v), AV.p 0 0, AV.any, AV.v (.bool false), AV.v (.int .u64 i), AV.any, AV.any, AV.any, AV.any, AV.any, AV.any, AV.any, AV.any, AV.any, AV.any, AV.any, AV.any, AV.any, AV.any, AV.any, AV.any, AV.any, AV.any, AV.any, AV.any, AV.any, AV.any] [[AV.v (.int .u64 a), AV.v (.int .u64 m)]]))) := by kernel_rfl
def nRw (x0 x1 : Value) (a am b bm i : Int) (K : Exit → St → Prop) : Prop := rndL Tryz.prog [] EEz true [] 90 [0, 1, 2, 3, 4, 5] 2 bodyW (SW x0 x1 a am b bm i) K
theorem nRw_eq (x0 x1 : Value) (a am b bm i : Int) (K : Exit → St → Prop) : nRw x0 x1 a am b bm i K = (br (decide (i < 64)) (ob true (decide (0 ≤ i)) (ob true true (ob (Int.tmod (bm / 2 ^ min (Int.toNat i) (IntKind.bits .u64)) 2 == 0) (Int.tmod (bm / 2 ^ min (Int.toNat i) (IntKind.bits .u64)) 2 == 0) (ob (Int.tmod (bm / 2 ^ min (Int.toNat i) (IntKind.bits .u64)) 2 == 0) (Int.tmod (bm / 2 ^ min (Int.toNat i) (IntKind.bits .u64)) 2 == 0) (ob (Int.tmod (bm / 2 ^ min (Int.toNat i) (IntKind.bits .u64)) 2 == 0) (Int.tmod (bm / 2 ^ min (Int.toNat i) (IntKind.bits .u64)) 2 == 0) (ob (Int.tmod (bm / 2 ^ min (Int.toNat i) (IntKind.bits .u64)) 2 == 0) (decide (0 ≤ i)) (ob (Int.tmod (bm / 2 ^ min (Int.toNat i) (IntKind.bits .u64)) 2 == 0) (Int.tmod (bm / 2 ^ min (Int.toNat i) (IntKind.bits .u64)) 2 == 0) (ob (Int.tmod (bm / 2 ^ min (Int.toNat i) (IntKind.bits .u64)) 2 == 0) true (ob (Int.tmod (bm / 2 ^ min (Int.toNat i) (IntKind.bits .u64)) 2 == 0) (Int.tmod (bm / 2 ^ min (Int.toNat i) (IntKind.bits .u64)) 2 == 0) (ob (Int.tmod (bm / 2 ^ min (Int.toNat i) (IntKind.bits .u64)) 2 == 0) (Int.tmod (bm / 2 ^ min (Int.toNat i) (IntKind.bits .u64)) 2 == 0) (ob (Int.tmod (bm / 2 ^ min (Int.toNat i) (IntKind.bits .u64)) 2 == 0) (Int.tmod (bm / 2 ^ min (Int.toNat i) (IntKind.bits .u64)) 2 == 0) (ob (Int.tmod (bm / 2 ^ min (Int.toNat i) (IntKind.bits .u64)) 2 == 0 && !Int.tmod (am / 2 ^ min (Int.toNat i) (IntKind.bits .u64)) 2 == 1) (Int.tmod (bm / 2 ^ min (Int.toNat i) (IntKind.bits .u64)) 2 == 0 && !Int.tmod (am / 2 ^ min (Int.toNat i) (IntKind.bits .u64)) 2 == 1) (ob (Int.tmod (bm / 2 ^ min (Int.toNat i) (IntKind.bits .u64)) 2 == 0 && !Int.tmod (am / 2 ^ min (Int.toNat i) (IntKind.bits .u64)) 2 == 1) (Int.tmod (bm / 2 ^ min (Int.toNat i) (IntKind.bits .u64)) 2 == 0 && !Int.tmod (am / 2 ^ min (Int.toNat i) (IntKind.bits .u64)) 2 == 1) (ob (Int.tmod (bm / 2 ^ min (Int.toNat i) (IntKind.bits .u64)) 2 == 0 && !Int.tmod (am / 2 ^ min (Int.toNat i) (IntKind.bits .u64)) 2 == 1) (Int.tmod (bm / 2 ^ min (Int.toNat i) (IntKind.bits .u64)) 2 == 0 && !Int.tmod (am / 2 ^ min (Int.toNat i) (IntKind.bits .u64)) 2 == 1) (ob (Int.tmod (bm / 2 ^ min (Int.toNat i) (IntKind.bits .u64)) 2 == 0 && !Int.tmod (am / 2 ^ min (Int.toNat i) (IntKind.bits .u64)) 2 == 1) (decide (0 ≤ i)) (ob (Int.tmod (bm / 2 ^ min (Int.toNat i) (IntKind.bits .u64)) 2 == 0 && !Int.tmod (am / 2 ^ min (Int.toNat i) (IntKind.bits .u64)) 2 == 1) (Int.tmod (bm / 2 ^ min (Int.toNat i) (IntKind.bits .u64)) 2 == 0 && !Int.tmod (am / 2 ^ min (Int.toNat i) (IntKind.bits .u64)) 2 == 1) (ob (Int.tmod (bm / 2 ^ min (Int.toNat i) (IntKind.bits .u64)) 2 == 0 && !Int.tmod (am / 2 ^ min (Int.toNat i) (IntKind.bits .u64)) 2 == 1) true (ob (Int.tmod (bm / 2 ^ min (Int.toNat i) (IntKind.bits .u64)) 2 == 0 && !Int.tmod (am / 2 ^ min (Int.toNat i) (IntKind.bits .u64)) 2 == 1) (Int.tmod (bm / 2 ^ min (Int.toNat i) (IntKind.bits .u64)) 2 == 0 && !Int.tmod (am / 2 ^ min (Int.toNat i) (IntKind.bits .u64)) 2 == 1) (ob (Int.tmod (bm / 2 ^ min (Int.toNat i) (IntKind.bits .u64)) 2 == 0 && !Int.tmod (am / 2 ^ min (Int.toNat i) (IntKind.bits .u64)) 2 == 1) (Int.tmod (bm / 2 ^ min (Int.toNat i) (IntKind.bits .u64)) 2 == 0 && !Int.tmod (am / 2 ^ min (Int.toNat i) (IntKind.bits .u64)) 2 == 1) (ob (Int.tmod (bm / 2 ^ min (Int.toNat i) (IntKind.bits .u64)) 2 == 0 && !Int.tmod (am / 2 ^ min (Int.toNat i) (IntKind.bits .u64)) 2 == 1) (Int.tmod (bm / 2 ^ min (Int.toNat i) (IntKind.bits .u64)) 2 == 0 && !Int.tmod (am / 2 ^ min (Int.toNat i) (IntKind.bits .u64)) 2 == 1) (ob (Int.tmod (bm / 2 ^ min (Int.toNat i) (IntKind.bits .u64)) 2 == 0 && !Int.tmod (am / 2 ^ min (Int.toNat i) (IntKind.bits .u64)) 2 == 1) (decide (0 ≤ i)) (ob (Int.tmod (bm / 2 ^ min (Int.toNat i) (IntKind.bits .u64)) 2 == 0 && !Int.tmod (am / 2 ^ min (Int.toNat i) (IntKind.bits .u64)) 2 == 1) (Int.tmod (bm / 2 ^ min (Int.toNat i) (IntKind.bits .u64)) 2 == 0 && !Int.tmod (am / 2 ^ min (Int.toNat i) (IntKind.bits .u64)) 2 == 1) (ob (Int.tmod (bm / 2 ^ min (Int.toNat i) (IntKind.bits .u64)) 2 == 0 && !Int.tmod (am / 2 ^ min (Int.toNat i) (IntKind.bits .u64)) 2 == 1) true (ob (Int.tmod (bm / 2 ^ min (Int.toNat i) (IntKind.bits .u64)) 2 == 0 && !Int.tmod (am / 2 ^ min (Int.toNat i) (IntKind.bits .u64)) 2 == 1) (Int.tmod (bm / 2 ^ min (Int.toNat i) (IntKind.bits .u64)) 2 == 0 && !Int.tmod (am / 2 ^ min (Int.toNat i) (IntKind.bits .u64)) 2 == 1) (ob (Int.tmod (bm / 2 ^ min (Int.toNat i) (IntKind.bits .u64)) 2 == 0 && !Int.tmod (am / 2 ^ min (Int.toNat i) (IntKind.bits .u64)) 2 == 1) (Int.tmod (bm / 2 ^ min (Int.toNat i) (IntKind.bits .u64)) 2 == 0 && !Int.tmod (am / 2 ^ min (Int.toNat i) (IntKind.bits .u64)) 2 == 1) (ob (Int.tmod (bm / 2 ^ min (Int.toNat i) (IntKind.bits .u64)) 2 == 0 && !Int.tmod (am / 2 ^ min (Int.toNat i) (IntKind.bits .u64)) 2 == 1) (Int.tmod (bm / 2 ^ min (Int.toNat i) (IntKind.bits .u64)) 2 == 0 && !Int.tmod (am / 2 ^ min (Int.toNat i) (IntKind.bits .u64)) 2 == 1) (ob (Int.tmod (bm / 2 ^ min (Int.toNat i) (IntKind.bits .u64)) 2 == 0 && !Int.tmod (am / 2 ^ min (Int.toNat i) (IntKind.bits .u64)) 2 == 1) (Int.tmod (bm / 2 ^ min (Int.toNat i) (IntKind.bits .u64)) 2 == 0 && !Int.tmod (am / 2 ^ min (Int.toNat i) (IntKind.bits .u64)) 2 == 1) (ob (Int.tmod (bm / 2 ^ min (Int.toNat i) (IntKind.bits .u64)) 2 == 0) (Int.tmod (bm / 2 ^ min (Int.toNat i) (IntKind.bits .u64)) 2 == 0) (ob (Int.tmod (bm / 2 ^ min (Int.toNat i) (IntKind.bits .u64)) 2 == 0 && Int.tmod (am / 2 ^ min (Int.toNat i) (IntKind.bits .u64)) 2 == 1) true (ob (Int.tmod (bm / 2 ^ min (Int.toNat i) (IntKind.bits .u64)) 2 == 0 && !Int.tmod (am / 2 ^ min (Int.toNat i) (IntKind.bits .u64)) 2 == 1) (Int.tmod (bm / 2 ^ min (Int.toNat i) (IntKind.bits .u64)) 2 == 0 && !Int.tmod (am / 2 ^ min (Int.toNat i) (IntKind.bits .u64)) 2 == 1) (nm (bif Int.tmod (am / 2 ^ min (Int.toNat i) (IntKind.bits .u64)) 2 == 1 then true else Int.tmod (a / 2 ^ min (Int.toNat i) (IntKind.bits .u64)) 2 != Int.tmod (b / 2 ^ min (Int.toNat i) (IntKind.bits .u64)) 2) fun r => ob (Int.tmod (bm / 2 ^ min (Int.toNat i) (IntKind.bits .u64)) 2 == 0) (Int.tmod (bm / 2 ^ min (Int.toNat i) (IntKind.bits .u64)) 2 == 0) (ob (!Int.tmod (bm / 2 ^ min (Int.toNat i) (IntKind.bits .u64)) 2 == 0) true (nm (bif Int.tmod (bm / 2 ^ min (Int.toNat i) (IntKind.bits .u64)) 2 == 0 then r else false) fun r => br r (K Go.Exit.ret (St.mk [AV.v x0, AV.v x1, AV.p 0 0, AV.p 1 0, AV.v (.bool false), AV.v (.int .u64 i), AV.any, AV.any, AV.any, AV.any, AV.any, AV.any, AV.any, AV.any, AV.any, AV.any, AV.any, AV.any, AV.any, AV.any, AV.any, AV.any, AV.any, AV.any, AV.any, AV.any, AV.any, AV.any, AV.any, AV.any, AV.any, AV.any, AV.any, AV.any, AV.any, AV.any, AV.any] [[AV.v (.int .u64 a), AV.v (.int .u64 am)], [AV.v (.int .u64 b), AV.v (.int .u64 bm)]])) (K Go.Exit.normal (St.mk [AV.v x0, AV.v x1, AV.p 0 0, AV.p 1 0, AV.v (.bool false), AV.v (.int .u64 (IntKind.wrap .u64 (i + 1))), AV.any, AV.any, AV.any, AV.any, AV.any, AV.any, AV.any, AV.any, AV.any, AV.any, AV.any, AV.any, AV.any, AV.any, AV.any, AV.any, AV.any, AV.any, AV.any, AV.any, AV.any, AV.any, AV.any, AV.any, AV.any, AV.any, AV.any, AV.any, AV.any, AV.any, AV.any] [[AV.v (.int .u64 a), AV.v (.int .u64 am)], [AV.v (.int .u64 b), AV.v (.int .u64 bm)]]))))))))))))))))))))))))))))))))))) (K (Go.Exit.exit 0) (St.mk [AV.v x0, AV.v x1, AV.p 0 0, AV.p 1 0, AV.v (.bool false), AV.v (.int .u64 i), AV.any, AV.any, AV.any, AV.any, AV.any, AV.any, AV.any, AV.any, AV.any, AV.any, AV.any, AV.any, AV.any, AV.any, AV.any, AV.any, AV.any, AV.any, AV.any, AV.any, AV.any, AV.any, AV.any, AV.any, AV.any, AV.any, AV.any, AV.any, AV.any, AV.any, AV.any] [[AV.v (.int .u64 a), AV.v (.int .u64 am)], [AV.v (.int .u64 b), AV.v (.int .u64 bm)]]))) := by kernel_rfl
def nRj (x0 x1 : Value) (a am b bm o om i : Int) (K : Exit → St → Prop) : Prop := rndL Tryz.prog [] EEz true [] 90 [0, 1, 2, 3, 4, 5, 6] 4 bodyJ (SJ x0 x1 a am b bm o om i) K
theorem nRj_eq (x0 x1 : Value) (a am b bm o om i : Int) (K : Exit → St → Prop) : nRj x0 x1 a am b bm o om i K = (br (decide (i < 64)) (ob true (decide (0 ≤ i)) (ob true true (ob (!Int.tmod (am / 2 ^ min (Int.toNat i) (IntKind.bits .u64)) 2 == 1) (!Int.tmod (am / 2 ^ min (Int.toNat i) (IntKind.bits .u64)) 2 == 1) (ob (!Int.tmod (am / 2 ^ min (Int.toNat i) (IntKind.bits .u64)) 2 == 1) (!Int.tmod (am / 2 ^ min (Int.toNat i) (IntKind.bits .u64)) 2 == 1) (ob (!Int.tmod (am / 2 ^ min (Int.toNat i) (IntKind.bits .u64)) 2 == 1) (!Int.tmod (am / 2 ^ min (Int.toNat i) (IntKind.bits .u64)) 2 == 1) (ob (!Int.tmod (am / 2 ^ min (Int.toNat i) (IntKind.bits .u64)) 2 == 1) (decide (0 ≤ i)) (ob (!Int.tmod (am / 2 ^ min (Int.toNat i) (IntKind.bits .u64)) 2 == 1) (!Int.tmod (am / 2 ^ min (Int.toNat i) (IntKind.bits .u64)) 2 == 1) (ob (!Int.tmod (am / 2 ^ min (Int.toNat i) (IntKind.bits .u64)) 2 == 1) true (ob (!Int.tmod (am / 2 ^ min (Int.toNat i) (IntKind.bits .u64)) 2 == 1) (!Int.tmod (am / 2 ^ min (Int.toNat i) (IntKind.bits .u64)) 2 == 1) (ob (!Int.tmod (am / 2 ^ min (Int.toNat i) (IntKind.bits .u64)) 2 == 1) (!Int.tmod (am / 2 ^ min (Int.toNat i) (IntKind.bits .u64)) 2 == 1) (ob (Int.tmod (am / 2 ^ min (Int.toNat i) (IntKind.bits .u64)) 2 == 1) true (ob (!Int.tmod (am / 2 ^ min (Int.toNat i) (IntKind.bits .u64)) 2 == 1) (!Int.tmod (am / 2 ^ min (Int.toNat i) (IntKind.bits .u64)) 2 == 1) (nm (bif Int.tmod (am / 2 ^ min (Int.toNat i) (IntKind.bits .u64)) 2 == 1 then true else Int.tmod (bm / 2 ^ min (Int.toNat i) (IntKind.bits .u64)) 2 == 1) fun r => ob (!r) (!r) (ob (!r) (!r) (ob (!r) (!r) (ob (!r) (decide (0 ≤ i)) (ob (!r) (!r) (ob (!r) true (ob (!r) (!r) (ob (!r) (!r) (ob (!r) (!r) (ob (!r) (decide (0 ≤ i)) (ob (!r) (!r) (ob (!r) true (ob (!r) (!r) (ob (!r) (!r) (ob (!r) (!r) (ob (!r) (!r) (ob r true (ob (!r) (!r) (nm (bif r then true else Int.tmod (a / 2 ^ min (Int.toNat i) (IntKind.bits .u64)) 2 != Int.tmod (b / 2 ^ min (Int.toNat i) (IntKind.bits .u64)) 2) fun r => br r (ob true (decide (0 ≤ i)) (K Go.Exit.normal (St.mk [AV.v x0, AV.v x1, AV.p 0 0, AV.p 1 0, AV.p 2 0, AV.p 3 0, AV.v (.int .u64 (IntKind.wrap .u64 (i + 1))), AV.any, AV.any, AV.any, AV.any, AV.any, AV.any, AV.any, AV.any, AV.any, AV.any, AV.any, AV.any, AV.any, AV.any, AV.any, AV.any, AV.any, AV.any, AV.any, AV.any, AV.any, AV.any, AV.any, AV.any, AV.any, AV.any, AV.any, AV.any, AV.any, AV.any, AV.any, AV.any, AV.any, AV.any, AV.any, AV.any, AV.any, AV.any, AV.any, AV.any, AV.any, AV.any, AV.any, AV.any, AV.any, AV.any, AV.any, AV.any, AV.any] [[AV.v (.int .u64 a), AV.v (.int .u64 am)], [AV.v (.int .u64 b), AV.v (.int .u64 bm)], [AV.v (.int .u64 0), AV.v (.int .u64 0)], [AV.v (.int .u64 o), AV.v (.int .u64 (Go.bits .or .u64 om (IntKind.wrap .u64 (1 * 2 ^ min (Int.toNat i) (IntKind.bits .u64)))))]]))) (ob true (decide (0 ≤ i)) (ob true true (ob true (decide (0 ≤ i)) (K Go.Exit.normal (St.mk [AV.v x0, AV.v x1, AV.p 0 0, AV.p 1 0, AV.p 2 0, AV.p 3 0, AV.v (.int .u64 (IntKind.wrap .u64 (i + 1))), AV.any, AV.any, AV.any, AV.any, AV.any, AV.any, AV.any, AV.any, AV.any, AV.any, AV.any, AV.any, AV.any, AV.any, AV.any, AV.any, AV.any, AV.any, AV.any, AV.any, AV.any, AV.any, AV.any, AV.any, AV.any, AV.any, AV.any, AV.any, AV.any, AV.any, AV.any, AV.any, AV.any, AV.any, AV.any, AV.any, AV.any, AV.any, AV.any, AV.any, AV.any, AV.any, AV.any, AV.any, AV.any, AV.any, AV.any, AV.any, AV.any] [[AV.v (.int .u64 a), AV.v (.int .u64 am)], [AV.v (.int .u64 b), AV.v (.int .u64 bm)], [AV.v (.int .u64 0), AV.v (.int .u64 0)], [AV.v (.int .u64 (Go.bits .or .u64 o (IntKind.wrap .u64 (Int.tmod (a / 2 ^ min (Int.toNat i) (IntKind.bits .u64)) 2 * 2 ^ min (Int.toNat i) (IntKind.bits .u64))))), AV.v (.int .u64 om)]])))))))))))))))))))))))))))))))))))) (K (Go.Exit.exit 0) (St.mk [AV.v x0, AV.v x1, AV.p 0 0, AV.p 1 0, AV.p 2 0, AV.p 3 0, AV.v (.int .u64 i), AV.any, AV.any, AV.any, AV.any, AV.any, AV.any, AV.any, AV.any, AV.any, AV.any, AV.any, AV.any, AV.any, AV.any, AV.any, AV.any, AV.any, AV.any, AV.any, AV.any, AV.any, AV.any, AV.any, AV.any, AV.any, AV.any, AV.any, AV.any, AV.any, AV.any, AV.any, AV.any, AV.any, AV.any, AV.any, AV.any, AV.any, AV.any, AV.any, AV.any, AV.any, AV.any, AV.any, AV.any, AV.any, AV.any, AV.any, AV.any, AV.any] [[AV.v (.int .u64 a), AV.v (.int .u64 am)], [AV.v (.int .u64 b), AV.v (.int .u64 bm)], [AV.v (.int .u64 0), AV.v (.int .u64 0)], [AV.v (.int .u64 o), AV.v (.int .u64 om)]]))) := by kernel_rfl
end Go.Proofs.YtceclodenhgoeaaGreat.Zbd
end
section
/- Layer 5, against the reference: rounds of ref03.In, Within, Join, Meet, told of bits. -/
namespace Go.Proofs.YtceclodenhgoeaaGreat.Zbe
open Go Go.RowKit Go.Proofs Go.Proofs.YtceclodenhgoeaaGreat.Xc Go.Proofs.YtceclodenhgoeaaGreat.Zs Go.Proofs.YtceclodenhgoeaaGreat.Zr Go.Proofs.YtceclodenhgoeaaGreat.Zbd Go.Proofs.YtceclodenhgoeaaGreat.Zba Go.Proofs.YtceclodenhgoeaaGreat.Bv
set_option linter.unusedVariables false
set_option linter.unusedSimpArgs false
theorem hz (j : Nat) : decide ((0 : Int) ≤ (j : Int)) = true := decide_eq_true (by omega)
theorem rdI (x0 : Value) (A M V : W) {j : Nat} (hj : j < 64) {K : Exit → St → Prop} (h1 : (!M.getLsbD j && (A.getLsbD j ^^ V.getLsbD j)) = true → K .ret (SI x0 (U A) (U M) (U V) j)) (h2 : (!M.getLsbD j && (A.getLsbD j ^^ V.getLsbD j)) = false → K .normal (SI x0 (U A) (U M) (U V) (j + 1 : Nat))) : nRi x0 (U A) (U M) (U V) j K := by
  rw [nRi_eq]
  refine br_yes (decide_eq_true (by omega)) ?_
  simp only [tb hj, bt0, bt1, btn, hz]
  repeat (first | with_reducible refine ob_self ?_ | with_reducible refine ob_true ?_)
  refine nm_intro fun r hr => ?_
  have e : r = (!M.getLsbD j && (A.getLsbD j ^^ V.getLsbD j)) := by rw [hr]; cases M.getLsbD j <;> rfl
  refine br_cases (fun q => h1 (e ▸ q)) (fun q => ?_)
  have := h2 (e ▸ q)
  rw [nxt hj]; exact this
theorem rdI' (x0 : Value) (A M V : W) {K : Exit → St → Prop} (h : K (.exit 0) (SI x0 (U A) (U M) (U V) (64 : Nat))) : nRi x0 (U A) (U M) (U V) (64 : Nat) K := by
  rw [nRi_eq]; exact br_no (decide_eq_false (by omega)) h
theorem rdW (x0 x1 : Value) (A M B N : W) {j : Nat} (hj : j < 64) {K : Exit → St → Prop} (h1 : (!N.getLsbD j && (M.getLsbD j || (A.getLsbD j ^^ B.getLsbD j))) = true → K .ret (SW x0 x1 (U A) (U M) (U B) (U N) j)) (h2 : (!N.getLsbD j && (M.getLsbD j || (A.getLsbD j ^^ B.getLsbD j))) = false → K .normal (SW x0 x1 (U A) (U M) (U B) (U N) (j + 1 : Nat))) : nRw x0 x1 (U A) (U M) (U B) (U N) j K := by
  rw [nRw_eq]
  refine br_yes (decide_eq_true (by omega)) ?_
  simp only [tb hj, bt0, bt1, btn, hz]
  repeat (first | with_reducible refine ob_self ?_ | with_reducible refine ob_true ?_)
  refine nm_intro fun r hr => ?_
  repeat (first | with_reducible refine ob_self ?_ | with_reducible refine ob_true ?_)
  refine nm_intro fun r2 hr2 => ?_
  have e : r2 = (!N.getLsbD j && (M.getLsbD j || (A.getLsbD j ^^ B.getLsbD j))) := by rw [hr2, hr]; cases N.getLsbD j <;> cases M.getLsbD j <;> rfl
  refine br_cases (fun q => h1 (e ▸ q)) (fun q => ?_)
  have := h2 (e ▸ q)
  rw [nxt hj]; exact this
theorem rdW' (x0 x1 : Value) (A M B N : W) {K : Exit → St → Prop} (h : K (.exit 0) (SW x0 x1 (U A) (U M) (U B) (U N) (64 : Nat))) : nRw x0 x1 (U A) (U M) (U B) (U N) (64 : Nat) K := by
  rw [nRw_eq]; exact br_no (decide_eq_false (by omega)) h
theorem rdJ (x0 x1 : Value) (A M B N : W) {j : Nat} (hj : j < 64) {K : Exit → St → Prop} (h : K .normal (SJ x0 x1 (U A) (U M) (U B) (U N) (U (low (j + 1) (A &&& ~~~ (M ||| N ||| (A ^^^ B))))) (U (low (j + 1) (M ||| N ||| (A ^^^ B)))) (j + 1 : Nat))) : nRj x0 x1 (U A) (U M) (U B) (U N) (U (low j (A &&& ~~~ (M ||| N ||| (A ^^^ B))))) (U (low j (M ||| N ||| (A ^^^ B)))) j K := by
  rw [nRj_eq]
  refine br_yes (decide_eq_true (by omega)) ?_
  simp only [tb hj, bt0, bt1, btn, hz]
  repeat (first | with_reducible refine ob_self ?_ | with_reducible refine ob_true ?_)
  refine nm_intro fun r hr => ?_
  repeat (first | with_reducible refine ob_self ?_ | with_reducible refine ob_true ?_)
  refine nm_intro fun r2 hr2 => ?_
  have e : r2 = (M ||| N ||| (A ^^^ B)).getLsbD j := by rw [hr2, hr, BitVec.getLsbD_or, BitVec.getLsbD_or, BitVec.getLsbD_xor]; cases N.getLsbD j <;> cases M.getLsbD j <;> rfl
  have e2 : (A &&& ~~~ (M ||| N ||| (A ^^^ B))).getLsbD j = (A.getLsbD j && !(M ||| N ||| (A ^^^ B)).getLsbD j) := by rw [BitVec.getLsbD_and, BitVec.getLsbD_not, decide_eq_true hj, Bool.true_and]
  rw [nxt hj]
  generalize hX : M ||| N ||| (A ^^^ B) = X at *
  generalize hY : A &&& ~~~ X = Y at *
  refine br_cases (fun q => ?_) (fun q => ?_)
  · rw [e] at q
    rw [q] at e2
    rw [low_no Y (by rw [e2]; simp)] at h
    repeat (first | with_reducible refine ob_self ?_ | with_reducible refine ob_true ?_)
    rw [up1 hj X q]
    exact h
  · rw [e] at q
    rw [q, Bool.not_false, Bool.and_true] at e2
    rw [low_no X q] at h
    repeat (first | with_reducible refine ob_self ?_ | with_reducible refine ob_true ?_)
    rw [← e2, upO hj Y]
    exact h
theorem rdJ' (x0 x1 : Value) (A M B N : W) (o om : Int) {K : Exit → St → Prop} (h : K (.exit 0) (SJ x0 x1 (U A) (U M) (U B) (U N) o om (64 : Nat))) : nRj x0 x1 (U A) (U M) (U B) (U N) o om (64 : Nat) K := by
  rw [nRj_eq]; exact br_no (decide_eq_false (by omega)) h
theorem rdM (x0 x1 : Value) (A M B N : W) {j : Nat} (hj : j < 64) {K : Exit → St → Prop} (h1 : (!M.getLsbD j && !N.getLsbD j && (A.getLsbD j ^^ B.getLsbD j)) = true → K .ret (SP x0 x1 (U A) (U M) (U B) (U N) (U (low j (A ||| B))) (U (low j (M &&& N))) j)) (h2 : (!M.getLsbD j && !N.getLsbD j && (A.getLsbD j ^^ B.getLsbD j)) = false → K .normal (SP x0 x1 (U A) (U M) (U B) (U N) (U (low (j + 1) (A ||| B))) (U (low (j + 1) (M &&& N))) (j + 1 : Nat))) : nRm x0 x1 (U A) (U M) (U B) (U N) (U (low j (A ||| B))) (U (low j (M &&& N))) j K := by
  rw [nRm_eq]
  refine br_yes (decide_eq_true (by omega)) ?_
  have eo : Go.bits .or .u64 (U A) (U B) = U (A ||| B) := by rw [b_or, ofInt_U, ofInt_U]
  rw [eo]
  simp only [tb hj, bt0, bt1, btn, hz]
  repeat (first | with_reducible refine ob_self ?_ | with_reducible refine ob_true ?_)
  refine nm_intro fun r hr => ?_
  repeat (first | with_reducible refine ob_self ?_ | with_reducible refine ob_true ?_)
  refine nm_intro fun r2 hr2 => ?_
  have e : r2 = (!M.getLsbD j && !N.getLsbD j && (A.getLsbD j ^^ B.getLsbD j)) := by rw [hr2, hr]; cases N.getLsbD j <;> cases M.getLsbD j <;> rfl
  refine br_cases (fun q => h1 (e ▸ q)) (fun q => ?_)
  have h := h2 (e ▸ q)
  repeat (first | with_reducible refine ob_self ?_ | with_reducible refine ob_true ?_)
  refine nm_intro fun r3 hr3 => ?_
  have e3 : r3 = (M &&& N).getLsbD j := by rw [hr3, BitVec.getLsbD_and]; cases N.getLsbD j <;> cases M.getLsbD j <;> rfl
  rw [nxt hj]
  refine br_cases (fun q => ?_) (fun q => ?_)
  · repeat (first | with_reducible refine ob_self ?_ | with_reducible refine ob_true ?_)
    rw [upO hj, up1 hj _ (e3 ▸ q)]
    exact h
  · rw [low_no (M &&& N) (e3 ▸ q)] at h
    repeat (first | with_reducible refine ob_self ?_ | with_reducible refine ob_true ?_)
    rw [upO hj]
    exact h
theorem rdM' (x0 x1 : Value) (A M B N : W) (o om : Int) {K : Exit → St → Prop} (h : K (.exit 0) (SP x0 x1 (U A) (U M) (U B) (U N) o om (64 : Nat))) : nRm x0 x1 (U A) (U M) (U B) (U N) o om (64 : Nat) K := by
  rw [nRm_eq]; exact br_no (decide_eq_false (by omega)) h
end Go.Proofs.YtceclodenhgoeaaGreat.Zbe
end
section
/- Layer 5, against the reference: ref03.In, Within, Join, Meet with their loops known, and the code's, run. -/
namespace Go.Proofs.YtceclodenhgoeaaGreat.Zbf
open Go Go.RowKit Go.Proofs Go.Proofs.YtceclodenhgoeaaGreat.Xc Go.Proofs.YtceclodenhgoeaaGreat.Zs Go.Proofs.YtceclodenhgoeaaGreat.Zo Go.Proofs.YtceclodenhgoeaaGreat.Zr Go.Proofs.YtceclodenhgoeaaGreat.Zbd Go.Proofs.YtceclodenhgoeaaGreat.Bv
set_option maxRecDepth 100000
set_option linter.unusedVariables false
/-- A value without the bits of a mask. -/
def dj (a b : Int) : Prop := ∃ A B : W, a = U A ∧ b = U B ∧ A &&& B = 0#64
def inT (a m v : Int) : Bool := Go.bits .andNot .u64 v m == a
def wiT (a am b bm : Int) : Bool := Go.bits .andNot .u64 am bm == 0 && inT b bm a
def joM (a am b bm : Int) : Int := Go.bits .or .u64 (Go.bits .or .u64 am bm) (Go.bits .xor .u64 a b)
def joV (a am b bm : Int) : Int := Go.bits .andNot .u64 a (joM a am b bm)
def meO (a am b bm : Int) : Bool := Go.bits .andNot .u64 (Go.bits .xor .u64 a b) (Go.bits .or .u64 am bm) == 0
def meV (a am b bm : Int) : Int := Go.bits .or .u64 a b
def meM (a am b bm : Int) : Int := Go.bits .and .u64 am bm
def FI (s : St) (K : Exit → St → Prop) : Prop := match s with
  | ⟨.v x0 :: .v (.int .u64 v) :: t, [[.v (.int .u64 a), .v (.int .u64 m)]]⟩ => need (keep [0, 1, 2, 4, 5] 100 ⟨.v x0 :: .v (.int .u64 v) :: t, [[.v (.int .u64 a), .v (.int .u64 m)]]⟩ = SI x0 a m v 0) (need (dj a m ∧ dj v 0) (br (inT a m v) (K (.exit 0) (SI x0 a m v 64)) (al fun i => K .ret (SI x0 a m v i))))
  | _ => False
def FW (s : St) (K : Exit → St → Prop) : Prop := match s with
  | ⟨.v x0 :: .v x1 :: t, [[.v (.int .u64 a), .v (.int .u64 am)], [.v (.int .u64 b), .v (.int .u64 bm)]]⟩ => need (keep [0, 1, 2, 3, 4, 5] 100 ⟨.v x0 :: .v x1 :: t, [[.v (.int .u64 a), .v (.int .u64 am)], [.v (.int .u64 b), .v (.int .u64 bm)]]⟩ = SW x0 x1 a am b bm 0) (need (dj a am ∧ dj b bm) (br (wiT a am b bm) (K (.exit 0) (SW x0 x1 a am b bm 64)) (al fun i => K .ret (SW x0 x1 a am b bm i))))
  | _ => False
def FJ (s : St) (K : Exit → St → Prop) : Prop := match s with
  | ⟨.v x0 :: .v x1 :: t, [[.v (.int .u64 a), .v (.int .u64 am)], [.v (.int .u64 b), .v (.int .u64 bm)], p, q]⟩ => need (keep [0, 1, 2, 3, 4, 5, 6] 100 ⟨.v x0 :: .v x1 :: t, [[.v (.int .u64 a), .v (.int .u64 am)], [.v (.int .u64 b), .v (.int .u64 bm)], p, q]⟩ = SJ x0 x1 a am b bm 0 0 0) (need (dj a am ∧ dj b bm) (K (.exit 0) (SJ x0 x1 a am b bm (joV a am b bm) (joM a am b bm) 64)))
  | _ => False
def FM (s : St) (K : Exit → St → Prop) : Prop := match s with
  | ⟨.v x0 :: .v x1 :: t, [[.v (.int .u64 a), .v (.int .u64 am)], [.v (.int .u64 b), .v (.int .u64 bm)], p, q]⟩ => need (keep [0, 1, 2, 3, 4, 5, 6, 7] 100 ⟨.v x0 :: .v x1 :: t, [[.v (.int .u64 a), .v (.int .u64 am)], [.v (.int .u64 b), .v (.int .u64 bm)], p, q]⟩ = SP x0 x1 a am b bm 0 0 0) (need (dj a am ∧ dj b bm) (br (meO a am b bm) (K (.exit 0) (SP x0 x1 a am b bm (meV a am b bm) (meM a am b bm) 64)) (al fun o => al fun om => al fun i => K .ret (SP x0 x1 a am b bm o om i))))
  | _ => False
noncomputable def LtI : Loops := [(0, blk Tryz.prog 73 0, FI)]
noncomputable def LtW : Loops := [(0, blk Tryz.prog 79 0, FW)]
noncomputable def LtJ : Loops := [(0, blk Tryz.prog 85 0, FJ)]
noncomputable def LtM : Loops := [(0, blk Tryz.prog 154 0, FM)]
def nI2 (a m v : Int) (K : Value → Prop) : Prop := runL Tryz.prog [] EEz true LtI 90 73 [T2 a m, .int .u64 v] K
theorem nI2_eq (a m v : Int) (K : Value → Prop) : nI2 a m v K = (same (blk Go.Proofs.Tryz.prog 73 0) (blk Go.Proofs.Tryz.prog 73 0) (need (St.mk [AV.v (.agg (#[.int .u64 a, .int .u64 m])), AV.v (.int .u64 v), AV.p 0 0, AV.any, AV.v (.bool false), AV.v (.int .u64 0), AV.any, AV.any, AV.any, AV.any, AV.any, AV.any, AV.any, AV.any, AV.any, AV.any, AV.any, AV.any, AV.any, AV.any, AV.any, AV.any, AV.any, AV.any, AV.any, AV.any, AV.any, AV.any] [[AV.v (.int .u64 a), AV.v (.int .u64 m)]] = St.mk [AV.v (.agg (#[.int .u64 a, .int .u64 m])), AV.v (.int .u64 v), AV.p 0 0, AV.any, AV.v (.bool false), AV.v (.int .u64 0), AV.any, AV.any, AV.any, AV.any, AV.any, AV.any, AV.any, AV.any, AV.any, AV.any, AV.any, AV.any, AV.any, AV.any, AV.any, AV.any, AV.any, AV.any, AV.any, AV.any, AV.any, AV.any] [[AV.v (.int .u64 a), AV.v (.int .u64 m)]]) (need (Zbf.dj a m ∧ Zbf.dj v 0) (br (Zbf.inT a m v) (K (.bool true)) (al fun (x : Int) => K (.bool false)))))) := by kernel_rfl
def nW2 (a am b bm : Int) (K : Value → Prop) : Prop := runL Tryz.prog [] EEz true LtW 90 79 [T2 a am, T2 b bm] K
theorem nW2_eq (a am b bm : Int) (K : Value → Prop) : nW2 a am b bm K = (same (blk Go.Proofs.Tryz.prog 79 0) (blk Go.Proofs.Tryz.prog 79 0) (need (St.mk [AV.v (.agg (#[.int .u64 a, .int .u64 am])), AV.v (.agg (#[.int .u64 b, .int .u64 bm])), AV.p 0 0, AV.p 1 0, AV.v (.bool false), AV.v (.int .u64 0), AV.any, AV.any, AV.any, AV.any, AV.any, AV.any, AV.any, AV.any, AV.any, AV.any, AV.any, AV.any, AV.any, AV.any, AV.any, AV.any, AV.any, AV.any, AV.any, AV.any, AV.any, AV.any, AV.any, AV.any, AV.any, AV.any, AV.any, AV.any, AV.any, AV.any, AV.any] [[AV.v (.int .u64 a), AV.v (.int .u64 am)], [AV.v (.int .u64 b), AV.v (.int .u64 bm)]] = St.mk [AV.v (.agg (#[.int .u64 a, .int .u64 am])), AV.v (.agg (#[.int .u64 b, .int .u64 bm])), AV.p 0 0, AV.p 1 0, AV.v (.bool false), AV.v (.int .u64 0), AV.any, AV.any, AV.any, AV.any, AV.any, AV.any, AV.any, AV.any, AV.any, AV.any, AV.any, AV.any, AV.any, AV.any, AV.any, AV.any, AV.any, AV.any, AV.any, AV.any, AV.any, AV.any, AV.any, AV.any, AV.any, AV.any, AV.any, AV.any, AV.any, AV.any, AV.any] [[AV.v (.int .u64 a), AV.v (.int .u64 am)], [AV.v (.int .u64 b), AV.v (.int .u64 bm)]]) (need (Zbf.dj a am ∧ Zbf.dj b bm) (br (Zbf.wiT a am b bm) (K (.bool true)) (al fun (x : Int) => K (.bool false)))))) := by kernel_rfl
def nJ2 (a am b bm : Int) (K : Value → Prop) : Prop := runL Tryz.prog [] EEz true LtJ 90 85 [T2 a am, T2 b bm] K
theorem nJ2_eq (a am b bm : Int) (K : Value → Prop) : nJ2 a am b bm K = (same (blk Go.Proofs.Tryz.prog 85 0) (blk Go.Proofs.Tryz.prog 85 0) (need (St.mk [AV.v (.agg (#[.int .u64 a, .int .u64 am])), AV.v (.agg (#[.int .u64 b, .int .u64 bm])), AV.p 0 0, AV.p 1 0, AV.p 2 0, AV.p 3 0, AV.v (.int .u64 0), AV.any, AV.any, AV.any, AV.any, AV.any, AV.any, AV.any, AV.any, AV.any, AV.any, AV.any, AV.any, AV.any, AV.any, AV.any, AV.any, AV.any, AV.any, AV.any, AV.any, AV.any, AV.any, AV.any, AV.any, AV.any, AV.any, AV.any, AV.any, AV.any, AV.any, AV.any, AV.any, AV.any, AV.any, AV.any, AV.any, AV.any, AV.any, AV.any, AV.any, AV.any, AV.any, AV.any, AV.any, AV.any, AV.any, AV.any, AV.any, AV.any] [[AV.v (.int .u64 a), AV.v (.int .u64 am)], [AV.v (.int .u64 b), AV.v (.int .u64 bm)], [AV.v (.int .u64 0), AV.v (.int .u64 0)], [AV.v (.int .u64 0), AV.v (.int .u64 0)]] = St.mk [AV.v (.agg (#[.int .u64 a, .int .u64 am])), AV.v (.agg (#[.int .u64 b, .int .u64 bm])), AV.p 0 0, AV.p 1 0, AV.p 2 0, AV.p 3 0, AV.v (.int .u64 0), AV.any, AV.any, AV.any, AV.any, AV.any, AV.any, AV.any, AV.any, AV.any, AV.any, AV.any, AV.any, AV.any, AV.any, AV.any, AV.any, AV.any, AV.any, AV.any, AV.any, AV.any, AV.any, AV.any, AV.any, AV.any, AV.any, AV.any, AV.any, AV.any, AV.any, AV.any, AV.any, AV.any, AV.any, AV.any, AV.any, AV.any, AV.any, AV.any, AV.any, AV.any, AV.any, AV.any, AV.any, AV.any, AV.any, AV.any, AV.any, AV.any] [[AV.v (.int .u64 a), AV.v (.int .u64 am)], [AV.v (.int .u64 b), AV.v (.int .u64 bm)], [AV.v (.int .u64 0), AV.v (.int .u64 0)], [AV.v (.int .u64 0), AV.v (.int .u64 0)]]) (need (Zbf.dj a am ∧ Zbf.dj b bm) (K (.agg (#[.int .u64 (Zbf.joV a am b bm), .int .u64 (Zbf.joM a am b bm)])))))) := by kernel_rfl
def nM2 (a am b bm : Int) (K : Value → Prop) : Prop := runL Tryz.prog [] EEz true LtM 90 154 [T2 a am, T2 b bm] K
noncomputable abbrev EEt : Eqs := [(24, eqS Tryz.prog 24), (30, eqS Tryz.prog 30)]
theorem nM2_eq (a am b bm : Int) (K : Value → Prop) : nM2 a am b bm K = (same (blk Go.Proofs.Tryz.prog 154 0) (blk Go.Proofs.Tryz.prog 154 0) (need (St.mk [AV.v (.agg (#[.int .u64 a, .int .u64 am])), AV.v (.agg (#[.int .u64 b, .int .u64 bm])), AV.p 0 0, AV.p 1 0, AV.p 2 0, AV.v (.bool false), AV.p 3 0, AV.v (.int .u64 0), AV.any, AV.any, AV.any, AV.any, AV.any, AV.any, AV.any, AV.any, AV.any, AV.any, AV.any, AV.any, AV.any, AV.any, AV.any, AV.any, AV.any, AV.any, AV.any, AV.any, AV.any, AV.any, AV.any, AV.any, AV.any, AV.any, AV.any, AV.any, AV.any, AV.any, AV.any, AV.any, AV.any, AV.any, AV.any, AV.any, AV.any, AV.any, AV.any, AV.any, AV.any, AV.any, AV.any, AV.any, AV.any, AV.any, AV.any, AV.any, AV.any, AV.any, AV.any, AV.any, AV.any, AV.any, AV.any, AV.any, AV.any, AV.any, AV.any, AV.any, AV.any, AV.any, AV.any] [[AV.v (.int .u64 a), AV.v (.int .u64 am)], [AV.v (.int .u64 b), AV.v (.int .u64 bm)], [AV.v (.int .u64 0), AV.v (.int .u64 0)], [AV.v (.int .u64 0), AV.v (.int .u64 0)]] = St.mk [AV.v (.agg (#[.int .u64 a, .int .u64 am])), AV.v (.agg (#[.int .u64 b, .int .u64 bm])), AV.p 0 0, AV.p 1 0, AV.p 2 0, AV.v (.bool false), AV.p 3 0, AV.v (.int .u64 0), AV.any, AV.any, AV.any, AV.any, AV.any, AV.any, AV.any, AV.any, AV.any, AV.any, AV.any, AV.any, AV.any, AV.any, AV.any, AV.any, AV.any, AV.any, AV.any, AV.any, AV.any, AV.any, AV.any, AV.any, AV.any, AV.any, AV.any, AV.any, AV.any, AV.any, AV.any, AV.any, AV.any, AV.any, AV.any, AV.any, AV.any, AV.any, AV.any, AV.any, AV.any, AV.any, AV.any, AV.any, AV.any, AV.any, AV.any, AV.any, AV.any, AV.any, AV.any, AV.any, AV.any, AV.any, AV.any, AV.any, AV.any, AV.any, AV.any, AV.any, AV.any, AV.any, AV.any] [[AV.v (.int .u64 a), AV.v (.int .u64 am)], [AV.v (.int .u64 b), AV.v (.int .u64 bm)], [AV.v (.int .u64 0), AV.v (.int .u64 0)], [AV.v (.int .u64 0), AV.v (.int .u64 0)]]) (need (Zbf.dj a am ∧ Zbf.dj b bm) (br (Zbf.meO a am b bm) (K (.tuple (#[.agg (#[.int .u64 (Zbf.meV a am b bm), .int .u64 (Zbf.meM a am b bm)]), .bool true]))) (al fun (x : Int) => al fun (x : Int) => al fun (x : Int) => K (.tuple (#[.agg (#[.int .u64 0, .int .u64 0]), .bool false]))))))) := by kernel_rfl
theorem eet : EqOk Tryz.prog EEt := eq_cons (by kernel_rfl) (eq_cons (by kernel_rfl) eq_nil)
def nI1 (a m v : Int) (K : Value → Prop) : Prop := run Tryz.prog [] EEz true 90 70 [T2 a m, .int .u64 v] K
theorem nI1_eq (a m v : Int) (K : Value → Prop) : nI1 a m v K = (K (.bool (Go.bits .andNot .u64 v m == a))) := by kernel_rfl
def nW1 (a am b bm : Int) (K : Value → Prop) : Prop := run Tryz.prog [] EEz true 90 76 [T2 a am, T2 b bm] K
theorem nW1_eq (a am b bm : Int) (K : Value → Prop) : nW1 a am b bm K = (ob (Go.bits .andNot .u64 am bm == 0) (Go.bits .andNot .u64 am bm == 0) (ob (Go.bits .andNot .u64 am bm == 0) (Go.bits .andNot .u64 am bm == 0) (ob (Go.bits .andNot .u64 am bm == 0) (Go.bits .andNot .u64 am bm == 0) (ob (Go.bits .andNot .u64 am bm == 0) (Go.bits .andNot .u64 am bm == 0) (ob (!Go.bits .andNot .u64 am bm == 0) true (nm (bif Go.bits .andNot .u64 am bm == 0 then Go.bits .andNot .u64 a bm == b else false) fun r => K (.bool r))))))) := by kernel_rfl
def nJ1 (a am b bm : Int) (K : Value → Prop) : Prop := run Tryz.prog [] EEt true 90 82 [T2 a am, T2 b bm] K
theorem nJ1_eq (a am b bm : Int) (K : Value → Prop) : nJ1 a am b bm K = (br (a == b && am == bm) (K (.agg (#[.int .u64 a, .int .u64 am]))) (K (.agg (#[.int .u64 (Go.bits .andNot .u64 a (Go.bits .or .u64 (Go.bits .or .u64 am bm) (Go.bits .xor .u64 a b))), .int .u64 (Go.bits .or .u64 (Go.bits .or .u64 am bm) (Go.bits .xor .u64 a b))])))) := by kernel_rfl
def nM1 (a am b bm : Int) (K : Value → Prop) : Prop := run Tryz.prog [] EEz true 90 55 [T2 a am, T2 b bm] K
theorem nM1_eq (a am b bm : Int) (K : Value → Prop) : nM1 a am b bm K = (br (Go.bits .andNot .u64 (Go.bits .xor .u64 a b) (Go.bits .or .u64 am bm) != 0) (K (.tuple (#[.agg (#[.int .u64 0, .int .u64 0]), .bool false]))) (K (.tuple (#[.agg (#[.int .u64 (Go.bits .andNot .u64 (Go.bits .or .u64 a b) (Go.bits .and .u64 am bm)), .int .u64 (Go.bits .and .u64 am bm)]), .bool true])))) := by kernel_rfl
end Go.Proofs.YtceclodenhgoeaaGreat.Zbf
end
section
/- Layer 5, against the reference: In, Within, Join, Meet of tnums are the same on both sides. -/
namespace Go.Proofs.YtceclodenhgoeaaGreat.Zbg
open Go Go.RowKit Go.Proofs Go.Proofs.YtceclodenhgoeaaGreat.Xc Go.Proofs.YtceclodenhgoeaaGreat.Zs Go.Proofs.YtceclodenhgoeaaGreat.Zo Go.Proofs.YtceclodenhgoeaaGreat.Zr Go.Proofs.YtceclodenhgoeaaGreat.Zbd Go.Proofs.YtceclodenhgoeaaGreat.Zba Go.Proofs.YtceclodenhgoeaaGreat.Zbe Go.Proofs.YtceclodenhgoeaaGreat.Zbf Go.Proofs.YtceclodenhgoeaaGreat.Bv
set_option linter.unusedVariables false
set_option linter.unusedSimpArgs false
/-- Going through the bits from the lowest, out at the first that is bad. -/
theorem scan {P : Program} {c : Code} (st : Nat → St) (bad : Nat → Bool)
    (h1 : ∀ j, j < 64 → ∀ Q : Exit → St → Prop, (bad j = true → Q .ret (st j)) → (bad j = false → Q .normal (st (j + 1))) → ∃ e s', Q e s' ∧ Xc.SW P c (st j) e s')
    (h2 : ∀ Q : Exit → St → Prop, Q (.exit 0) (st 64) → ∃ e s', Q e s' ∧ Xc.SW P c (st 64) e s') :
    ((∀ j, j < 64 → bad j = false) ∧ LW P c (st 0) (.exit 0) (st 64)) ∨ ∃ i, i < 64 ∧ bad i = true ∧ LW P c (st 0) .ret (st i) := by
  have key := loop_ix (P := P) (c := c) st (fun j => j ≤ 64 ∧ ∀ i, i < j → bad i = false) (fun j => 64 - j) (fun _ e s' => ((∀ j, j < 64 → bad j = false) ∧ e = .exit 0 ∧ s' = st 64) ∨ ∃ i, i < 64 ∧ bad i = true ∧ e = .ret ∧ s' = st i) ?_ 0 ⟨by omega, fun i h => by omega⟩
  · obtain ⟨e, s', h | h, hl⟩ := key
    · obtain ⟨a, rfl, rfl⟩ := h; exact Or.inl ⟨a, hl⟩
    · obtain ⟨i, hi, b, rfl, rfl⟩ := h; exact Or.inr ⟨i, hi, b, hl⟩
  · intro j ⟨hj, ha⟩
    by_cases h64 : j < 64
    · refine h1 j h64 _ (fun b => ?_) (fun b => ?_)
      · exact Or.inl ⟨by simp, Or.inr ⟨j, h64, b, rfl, rfl⟩⟩
      · refine Or.inr ⟨rfl, j + 1, rfl, ⟨by omega, fun i hi => ?_⟩, by omega, fun _ _ h => h⟩
        by_cases e : i = j
        · rw [e]; exact b
        · exact ha i (by omega)
    · obtain rfl : j = 64 := by omega
      exact h2 _ (Or.inl ⟨by simp, Or.inl ⟨ha, rfl, rfl⟩⟩)
theorem at_bit {A B : W} (h : A = B) (j : Nat) : A.getLsbD j = B.getLsbD j := by rw [h]
theorem inT_iff {A M V : W} (h : A &&& M = 0#64) : inT (U A) (U M) (U V) = true ↔ ∀ j, j < 64 → (!M.getLsbD j && (A.getLsbD j ^^ V.getLsbD j)) = false := by
  unfold inT
  rw [b_andNot, ofInt_U, ofInt_U, U_beq, beq_iff_eq]
  constructor
  · intro e j hj
    have e := at_bit e j
    rw [BitVec.getLsbD_and, BitVec.getLsbD_not, decide_eq_true hj] at e
    revert e
    cases M.getLsbD j <;> cases A.getLsbD j <;> cases V.getLsbD j <;> simp
  · intro k
    apply BitVec.eq_of_getLsbD_eq; intro j hj
    have k := k j hj
    have e := at_bit h j
    rw [BitVec.getLsbD_and] at e
    rw [BitVec.getLsbD_and, BitVec.getLsbD_not, decide_eq_true hj]
    revert e k
    cases M.getLsbD j <;> cases A.getLsbD j <;> cases V.getLsbD j <;> simp
theorem wiT_iff {A M B N : W} (h : A &&& M = 0#64) (h2 : B &&& N = 0#64) : wiT (U A) (U M) (U B) (U N) = true ↔ ∀ j, j < 64 → (!N.getLsbD j && (M.getLsbD j || (A.getLsbD j ^^ B.getLsbD j))) = false := by
  unfold wiT
  rw [Bool.and_eq_true, inT_iff h2, b_andNot, ofInt_U, ofInt_U, show (0 : Int) = U 0#64 from rfl, U_beq, beq_iff_eq]
  constructor
  · intro ⟨e, k⟩ j hj
    have e := at_bit e j
    have k := k j hj
    rw [BitVec.getLsbD_and, BitVec.getLsbD_not, decide_eq_true hj] at e
    revert e k
    cases M.getLsbD j <;> cases A.getLsbD j <;> cases B.getLsbD j <;> cases N.getLsbD j <;> simp
  · intro k
    refine ⟨?_, fun j hj => ?_⟩
    · apply BitVec.eq_of_getLsbD_eq; intro j hj
      have k := k j hj
      rw [BitVec.getLsbD_and, BitVec.getLsbD_not, decide_eq_true hj]
      revert k
      cases M.getLsbD j <;> cases A.getLsbD j <;> cases B.getLsbD j <;> cases N.getLsbD j <;> simp
    · have k := k j hj
      revert k
      cases M.getLsbD j <;> cases A.getLsbD j <;> cases B.getLsbD j <;> cases N.getLsbD j <;> simp
theorem meO_iff {A M B N : W} : meO (U A) (U M) (U B) (U N) = true ↔ ∀ j, j < 64 → (!M.getLsbD j && !N.getLsbD j && (A.getLsbD j ^^ B.getLsbD j)) = false := by
  unfold meO
  rw [b_xor, b_or, b_andNot, ofInt_U, ofInt_U, ofInt_U, ofInt_U, ofInt_U, ofInt_U, show (0 : Int) = U 0#64 from rfl, U_beq, beq_iff_eq]
  constructor
  · intro e j hj
    have e := at_bit e j
    rw [BitVec.getLsbD_and, BitVec.getLsbD_not, decide_eq_true hj, BitVec.getLsbD_or, BitVec.getLsbD_xor] at e
    revert e
    cases M.getLsbD j <;> cases A.getLsbD j <;> cases B.getLsbD j <;> cases N.getLsbD j <;> simp
  · intro k
    apply BitVec.eq_of_getLsbD_eq; intro j hj
    have k := k j hj
    rw [BitVec.getLsbD_and, BitVec.getLsbD_not, decide_eq_true hj, BitVec.getLsbD_or, BitVec.getLsbD_xor]
    revert k
    cases M.getLsbD j <;> cases A.getLsbD j <;> cases B.getLsbD j <;> cases N.getLsbD j <;> simp
theorem no_all {f : Nat → Bool} {b : Bool} (h : b = true ↔ ∀ j, j < 64 → f j = false) {i : Nat} (hi : i < 64) (k : f i = true) : b = false := by
  cases b
  · rfl
  · have := h.1 rfl i hi; rw [this] at k; cases k
theorem okSI (x0 : Value) (a m v i : Int) : okSt (SI x0 a m v i) = true := by kernel_rfl
theorem okSW (x0 x1 : Value) (a am b bm i : Int) : okSt (SW x0 x1 a am b bm i) = true := by kernel_rfl
theorem okSJ (x0 x1 : Value) (a am b bm o om i : Int) : okSt (SJ x0 x1 a am b bm o om i) = true := by kernel_rfl
theorem okSP (x0 x1 : Value) (a am b bm o om i : Int) : okSt (SP x0 x1 a am b bm o om i) = true := by kernel_rfl
theorem blkI : blk Tryz.prog 73 0 = .loop bodyI := by kernel_rfl
theorem blkW : blk Tryz.prog 79 0 = .loop bodyW := by kernel_rfl
theorem blkJ : blk Tryz.prog 85 0 = .loop bodyJ := by kernel_rfl
theorem blkM : blk Tryz.prog 154 0 = .loop bodyP := by kernel_rfl
theorem lokI : LOk Tryz.prog LtI := by
  refine lok_one fun s K hF => ?_
  unfold FI at hF
  split at hF
  · rename_i x0 v t a m
    obtain ⟨hs, ⟨⟨A, M, rfl, rfl, hd⟩, ⟨V, _, rfl, _, _⟩⟩, hK⟩ := hF
    have key := scan (P := Tryz.prog) (c := bodyI) (fun j => SI x0 (U A) (U M) (U V) j) (fun j => !M.getLsbD j && (A.getLsbD j ^^ V.getLsbD j))
      (fun j hj Q h1 h2 => rndL_sound (gm := true) (Lt := []) (f := 90) (ks := [0, 1, 2, 4, 5]) (n := 1) good tab_nil eez lok_nil (by kernel_rfl) (by have o := rdI x0 A M V hj h1 h2; unfold nRi at o; exact o))
      (fun Q h => rndL_sound (gm := true) (Lt := []) (f := 90) (ks := [0, 1, 2, 4, 5]) (n := 1) good tab_nil eez lok_nil (by kernel_rfl) (by have o := rdI' x0 A M V h; unfold nRi at o; exact o))
    have fin : ∀ e s', LW Tryz.prog bodyI (SI x0 (U A) (U M) (U V) 0) e s' → Xc.SW Tryz.prog (blk Tryz.prog 73 0) ⟨.v x0 :: .v (.int .u64 (U V)) :: t, [[.v (.int .u64 (U A)), .v (.int .u64 (U M))]]⟩ e s' := fun e s' hl => by
      rw [blkI]
      refine keep_pre (ks := [0, 1, 2, 4, 5]) (n := 100) (show 1 ≤ 100 by decide) (by rw [hs]; exact okSI _ _ _ _ _) ?_
      rw [hs]; exact lw_of hl
    rcases key with ⟨ka, kl⟩ | ⟨i, hi, kb, kl⟩
    · have e := (inT_iff hd).2 ka
      rw [e] at hK
      exact ⟨_, _, hK, fin _ _ kl⟩
    · have e := no_all (inT_iff hd) hi kb
      rw [e] at hK
      exact ⟨_, _, hK _, fin _ _ kl⟩
  · exact hF.elim
theorem lokW : LOk Tryz.prog LtW := by
  refine lok_one fun s K hF => ?_
  unfold FW at hF
  split at hF
  · rename_i x0 x1 t a am b bm
    obtain ⟨hs, ⟨⟨A, M, rfl, rfl, hd⟩, ⟨B, N, rfl, rfl, hd2⟩⟩, hK⟩ := hF
    have key := scan (P := Tryz.prog) (c := bodyW) (fun j => SW x0 x1 (U A) (U M) (U B) (U N) j) (fun j => !N.getLsbD j && (M.getLsbD j || (A.getLsbD j ^^ B.getLsbD j)))
      (fun j hj Q h1 h2 => rndL_sound (gm := true) (Lt := []) (f := 90) (ks := [0, 1, 2, 3, 4, 5]) (n := 2) good tab_nil eez lok_nil (by kernel_rfl) (by have o := rdW x0 x1 A M B N hj h1 h2; unfold nRw at o; exact o))
      (fun Q h => rndL_sound (gm := true) (Lt := []) (f := 90) (ks := [0, 1, 2, 3, 4, 5]) (n := 2) good tab_nil eez lok_nil (by kernel_rfl) (by have o := rdW' x0 x1 A M B N h; unfold nRw at o; exact o))
    have fin : ∀ e s', LW Tryz.prog bodyW (SW x0 x1 (U A) (U M) (U B) (U N) 0) e s' → Xc.SW Tryz.prog (blk Tryz.prog 79 0) ⟨.v x0 :: .v x1 :: t, [[.v (.int .u64 (U A)), .v (.int .u64 (U M))], [.v (.int .u64 (U B)), .v (.int .u64 (U N))]]⟩ e s' := fun e s' hl => by
      rw [blkW]
      refine keep_pre (ks := [0, 1, 2, 3, 4, 5]) (n := 100) (show 2 ≤ 100 by decide) (by rw [hs]; exact okSW _ _ _ _ _ _ _) ?_
      rw [hs]; exact lw_of hl
    rcases key with ⟨ka, kl⟩ | ⟨i, hi, kb, kl⟩
    · have e := (wiT_iff hd hd2).2 ka
      rw [e] at hK
      exact ⟨_, _, hK, fin _ _ kl⟩
    · have e := no_all (wiT_iff hd hd2) hi kb
      rw [e] at hK
      exact ⟨_, _, hK _, fin _ _ kl⟩
  · exact hF.elim
theorem lokM : LOk Tryz.prog LtM := by
  refine lok_one fun s K hF => ?_
  unfold FM at hF
  split at hF
  · rename_i x0 x1 t a am b bm p q
    obtain ⟨hs, ⟨⟨A, M, rfl, rfl, hd⟩, ⟨B, N, rfl, rfl, hd2⟩⟩, hK⟩ := hF
    have key := scan (P := Tryz.prog) (c := bodyP) (fun j => SP x0 x1 (U A) (U M) (U B) (U N) (U (low j (A ||| B))) (U (low j (M &&& N))) j) (fun j => !M.getLsbD j && !N.getLsbD j && (A.getLsbD j ^^ B.getLsbD j))
      (fun j hj Q h1 h2 => rndL_sound (gm := true) (Lt := []) (f := 90) (ks := [0, 1, 2, 3, 4, 5, 6, 7]) (n := 4) good tab_nil eez lok_nil (by kernel_rfl) (by have o := rdM x0 x1 A M B N hj h1 h2; unfold nRm at o; exact o))
      (fun Q h => rndL_sound (gm := true) (Lt := []) (f := 90) (ks := [0, 1, 2, 3, 4, 5, 6, 7]) (n := 4) good tab_nil eez lok_nil (by kernel_rfl) (by have o := rdM' x0 x1 A M B N _ _ h; unfold nRm at o; exact o))
    simp only [low_zero, low_all] at key
    have fin : ∀ e s', LW Tryz.prog bodyP (SP x0 x1 (U A) (U M) (U B) (U N) 0 0 0) e s' → Xc.SW Tryz.prog (blk Tryz.prog 154 0) ⟨.v x0 :: .v x1 :: t, [[.v (.int .u64 (U A)), .v (.int .u64 (U M))], [.v (.int .u64 (U B)), .v (.int .u64 (U N))], p, q]⟩ e s' := fun e s' hl => by
      rw [blkM]
      refine keep_pre (ks := [0, 1, 2, 3, 4, 5, 6, 7]) (n := 100) (show 4 ≤ 100 by decide) (by rw [hs]; exact okSP _ _ _ _ _ _ _ _ _) ?_
      rw [hs]; exact lw_of hl
    rcases key with ⟨ka, kl⟩ | ⟨i, hi, kb, kl⟩
    · have e := (meO_iff).2 ka
      rw [e, show meV (U A) (U M) (U B) (U N) = U (A ||| B) by unfold meV; rw [b_or, ofInt_U, ofInt_U], show meM (U A) (U M) (U B) (U N) = U (M &&& N) by unfold meM; rw [b_and, ofInt_U, ofInt_U]] at hK
      exact ⟨_, _, hK, fin _ _ kl⟩
    · have e := no_all (meO_iff) hi kb
      rw [e] at hK
      exact ⟨_, _, hK _ _ _, fin _ _ kl⟩
  · exact hF.elim
theorem lokJ : LOk Tryz.prog LtJ := by
  refine lok_one fun s K hF => ?_
  unfold FJ at hF
  split at hF
  · rename_i x0 x1 t a am b bm p q
    obtain ⟨hs, ⟨⟨A, M, rfl, rfl, hd⟩, ⟨B, N, rfl, rfl, hd2⟩⟩, hK⟩ := hF
    have key := scan (P := Tryz.prog) (c := bodyJ) (fun j => SJ x0 x1 (U A) (U M) (U B) (U N) (U (low j (A &&& ~~~ (M ||| N ||| (A ^^^ B))))) (U (low j (M ||| N ||| (A ^^^ B)))) j) (fun j => false)
      (fun j hj Q h1 h2 => rndL_sound (gm := true) (Lt := []) (f := 90) (ks := [0, 1, 2, 3, 4, 5, 6]) (n := 4) good tab_nil eez lok_nil (by kernel_rfl) (by have o := rdJ x0 x1 A M B N hj (h2 rfl); unfold nRj at o; exact o))
      (fun Q h => rndL_sound (gm := true) (Lt := []) (f := 90) (ks := [0, 1, 2, 3, 4, 5, 6]) (n := 4) good tab_nil eez lok_nil (by kernel_rfl) (by have o := rdJ' x0 x1 A M B N _ _ h; unfold nRj at o; exact o))
    simp only [low_zero, low_all] at key
    have fin : ∀ e s', LW Tryz.prog bodyJ (SJ x0 x1 (U A) (U M) (U B) (U N) 0 0 0) e s' → Xc.SW Tryz.prog (blk Tryz.prog 85 0) ⟨.v x0 :: .v x1 :: t, [[.v (.int .u64 (U A)), .v (.int .u64 (U M))], [.v (.int .u64 (U B)), .v (.int .u64 (U N))], p, q]⟩ e s' := fun e s' hl => by
      rw [blkJ]
      refine keep_pre (ks := [0, 1, 2, 3, 4, 5, 6]) (n := 100) (show 4 ≤ 100 by decide) (by rw [hs]; exact okSJ _ _ _ _ _ _ _ _ _) ?_
      rw [hs]; exact lw_of hl
    rcases key with ⟨ka, kl⟩ | ⟨i, hi, kb, kl⟩
    · have em : joM (U A) (U M) (U B) (U N) = U (M ||| N ||| (A ^^^ B)) := by unfold joM; rw [b_xor, b_or, b_or]; simp only [ofInt_U]
      rw [show joV (U A) (U M) (U B) (U N) = U (A &&& ~~~ (M ||| N ||| (A ^^^ B))) by unfold joV; rw [em, b_andNot]; simp only [ofInt_U], em] at hK
      exact ⟨_, _, hK, fin _ _ kl⟩
    · cases kb
  · exact hF.elim
end Go.Proofs.YtceclodenhgoeaaGreat.Zbg
end
section
/- Layer 5, against the reference: In, Within, Join, Meet of tnums: the same answers on both sides. -/
namespace Go.Proofs.YtceclodenhgoeaaGreat.Zbh
open Go Go.RowKit Go.Proofs Go.Proofs.YtceclodenhgoeaaGreat.Xc Go.Proofs.YtceclodenhgoeaaGreat.Zs Go.Proofs.YtceclodenhgoeaaGreat.Zu Go.Proofs.YtceclodenhgoeaaGreat.Zv Go.Proofs.YtceclodenhgoeaaGreat.Zo Go.Proofs.YtceclodenhgoeaaGreat.Zbf Go.Proofs.YtceclodenhgoeaaGreat.Zbg Go.Proofs.YtceclodenhgoeaaGreat.Bv
set_option linter.unusedVariables false
set_option linter.unusedSimpArgs false
theorem dj0 {v : Int} (h : u6 v) : dj v 0 := by
  obtain ⟨V, rfl⟩ := exu h
  exact ⟨V, 0#64, rfl, rfl, by simp⟩
theorem dj_u {a b : Int} (h : dj a b) : u6 a ∧ u6 b := by
  obtain ⟨A, B, rfl, rfl, _⟩ := h; exact ⟨⟨U_nonneg _, U_lt _⟩, ⟨U_nonneg _, U_lt _⟩⟩
theorem dj_cl (X M : W) : (X &&& ~~~ M) &&& M = 0#64 := by
  rw [BitVec.and_assoc, BitVec.and_comm (~~~ M), BitVec.and_not_self]; simp
theorem rI2 {a m v : Int} {K : Value → Prop} (h : dj a m) (hv : u6 v) (k : K (.bool (inT a m v))) : nI2 a m v K := by
  rw [nI2_eq]
  refine ⟨rfl, rfl, ⟨h, dj0 hv⟩, br_cases (fun q => ?_) (fun q => fun _ => ?_)⟩
  · rw [q] at k; exact k
  · rw [q] at k; exact k
theorem rW2 {a am b bm : Int} {K : Value → Prop} (h : dj a am) (h2 : dj b bm) (k : K (.bool (wiT a am b bm))) : nW2 a am b bm K := by
  rw [nW2_eq]
  refine ⟨rfl, rfl, ⟨h, h2⟩, br_cases (fun q => ?_) (fun q => fun _ => ?_)⟩
  · rw [q] at k; exact k
  · rw [q] at k; exact k
theorem rJ2 {a am b bm : Int} {K : Value → Prop} (h : dj a am) (h2 : dj b bm) (k : K (T2 (joV a am b bm) (joM a am b bm))) : nJ2 a am b bm K := by
  rw [nJ2_eq]; exact ⟨rfl, rfl, ⟨h, h2⟩, k⟩
/-- What a meet says. -/
def meK (a am b bm : Int) (K : Value → Prop) : Prop := br (meO a am b bm) (K (.tuple #[T2 (meV a am b bm) (meM a am b bm), .bool true])) (K (.tuple #[T2 0 0, .bool false]))
theorem rM2 {a am b bm : Int} {K : Value → Prop} (h : dj a am) (h2 : dj b bm) (k : meK a am b bm K) : nM2 a am b bm K := by
  rw [nM2_eq]
  unfold meK at k
  refine ⟨rfl, rfl, ⟨h, h2⟩, br_cases (fun q => ?_) (fun q => fun _ _ _ => ?_)⟩
  · rw [q] at k; exact k
  · rw [q] at k; exact k
theorem rI1 {a m v : Int} {K : Value → Prop} (k : K (.bool (inT a m v))) : nI1 a m v K := by rw [nI1_eq]; exact k
theorem rW1 {a am b bm : Int} {K : Value → Prop} (k : K (.bool (wiT a am b bm))) : nW1 a am b bm K := by
  rw [nW1_eq]
  repeat (first | with_reducible refine ob_self ?_ | with_reducible refine ob_true ?_)
  refine nm_intro fun r hr => ?_
  rw [hr]
  unfold wiT inT at k
  revert k
  cases (Go.bits .andNot .u64 am bm == 0) <;> exact id
theorem rJ1 {a am b bm : Int} {K : Value → Prop} (h : dj a am) (h2 : dj b bm) (k : K (T2 (joV a am b bm) (joM a am b bm))) : nJ1 a am b bm K := by
  rw [nJ1_eq]
  refine br_cases (fun q => ?_) (fun q => k)
  simp only [Bool.and_eq_true, beq_iff_eq] at q
  obtain ⟨rfl, rfl⟩ := q
  obtain ⟨A, M, rfl, rfl, hd⟩ := h
  have em : joM (U A) (U M) (U A) (U M) = U M := by
    unfold joM; rw [b_xor, b_or, b_or]; simp only [ofInt_U, BitVec.or_self, BitVec.xor_self, BitVec.or_zero]
  have ev : joV (U A) (U M) (U A) (U M) = U A := by
    unfold joV; rw [em, b_andNot]; simp only [ofInt_U]
    congr 1
    apply BitVec.eq_of_getLsbD_eq; intro j hj
    have e := at_bit hd j
    rw [BitVec.getLsbD_and] at e
    rw [BitVec.getLsbD_and, BitVec.getLsbD_not, decide_eq_true hj]
    revert e
    cases M.getLsbD j <;> cases A.getLsbD j <;> simp
  rw [em, ev] at k; exact k
theorem me_dj {a am b bm : Int} (h : dj a am) (h2 : dj b bm) : dj (meV a am b bm) (meM a am b bm) ∧ Go.bits .andNot .u64 (Go.bits .or .u64 a b) (Go.bits .and .u64 am bm) = meV a am b bm := by
  obtain ⟨A, M, rfl, rfl, hd⟩ := h
  obtain ⟨B, N, rfl, rfl, hd2⟩ := h2
  have z : (A ||| B) &&& (M &&& N) = 0#64 := by
    apply BitVec.eq_of_getLsbD_eq; intro j hj
    have e := at_bit hd j
    have e2 := at_bit hd2 j
    rw [BitVec.getLsbD_and] at e e2
    rw [BitVec.getLsbD_and, BitVec.getLsbD_and, BitVec.getLsbD_or]
    revert e e2
    cases M.getLsbD j <;> cases A.getLsbD j <;> cases N.getLsbD j <;> cases B.getLsbD j <;> simp
  unfold meV meM
  rw [b_or, b_and, b_andNot]
  simp only [ofInt_U]
  refine ⟨⟨_, _, rfl, rfl, z⟩, ?_⟩
  congr 1
  apply BitVec.eq_of_getLsbD_eq; intro j hj
  have e := at_bit z j
  rw [BitVec.getLsbD_and] at e
  rw [BitVec.getLsbD_and, BitVec.getLsbD_not, decide_eq_true hj]
  revert e
  cases (M &&& N).getLsbD j <;> cases (A ||| B).getLsbD j <;> simp
theorem rM1 {a am b bm : Int} {K : Value → Prop} (h : dj a am) (h2 : dj b bm) (k : meK a am b bm K) : nM1 a am b bm K := by
  rw [nM1_eq, (me_dj h h2).2]
  unfold meK meO at k
  revert k
  rw [bne]
  cases (Go.bits .andNot .u64 (Go.bits .xor .u64 a b) (Go.bits .or .u64 am bm) == 0) <;> exact id
end Go.Proofs.YtceclodenhgoeaaGreat.Zbh
end
section
/- Layer 5, against the reference: Norm on both sides, run under the same contracts. -/
namespace Go.Proofs.YtceclodenhgoeaaGreat.Zbi
open Go Go.RowKit Go.Proofs Go.Proofs.YtceclodenhgoeaaGreat.Xc Go.Proofs.YtceclodenhgoeaaGreat.Zs Go.Proofs.YtceclodenhgoeaaGreat.Zu Go.Proofs.YtceclodenhgoeaaGreat.Zo Go.Proofs.YtceclodenhgoeaaGreat.Zq Go.Proofs.YtceclodenhgoeaaGreat.Zbc Go.Proofs.YtceclodenhgoeaaGreat.Zbf Go.Proofs.YtceclodenhgoeaaGreat.Zbh
set_option maxRecDepth 100000
set_option linter.unusedVariables false
def tuL (a b : Int) : Int := if a < 0 ∧ 0 ≤ b then 0 else IntKind.wrap .u64 a
def tuH (a b : Int) : Int := if a < 0 ∧ 0 ≤ b then 18446744073709551615 else IntKind.wrap .u64 b
def tsL (a b : Int) : Int := if a < 9223372036854775808 ∧ 9223372036854775808 ≤ b then -9223372036854775808 else IntKind.wrap .i64 a
def tsH (a b : Int) : Int := if a < 9223372036854775808 ∧ 9223372036854775808 ≤ b then 9223372036854775807 else IntKind.wrap .i64 b
def fuH (a b : Int) : Int := IntKind.wrap .u64 (a + b)
def fsL (a b : Int) : Int := if b < 9223372036854775808 then IntKind.wrap .i64 a else IntKind.wrap .i64 (IntKind.wrap .u64 (a + 9223372036854775808))
def fsH (a b : Int) : Int := if b < 9223372036854775808 then IntKind.wrap .i64 (IntKind.wrap .u64 (a + b)) else IntKind.wrap .i64 (IntKind.wrap .u64 (a + IntKind.wrap .u64 (b - 9223372036854775808)))
def mxi (a b : Int) : Int := max a b
def mni (a b : Int) : Int := min a b
def lei (a b : Int) : Bool := decide (a ≤ b)
def cUM (vs : List Value) (K : Value → Prop) : Prop := match vs with
  | [.agg ⟨[.int .u64 a, .int .u64 b]⟩, .agg ⟨[.int .u64 c, .int .u64 d]⟩] => nm (mxi a c) fun l => nm (mni b d) fun h => br (lei l h) (K (.tuple #[T2 l h, .bool true])) (K (.tuple #[T2 0 0, .bool false]))
  | _ => False
def cSM (vs : List Value) (K : Value → Prop) : Prop := match vs with
  | [.agg ⟨[.int .i64 a, .int .i64 b]⟩, .agg ⟨[.int .i64 c, .int .i64 d]⟩] => nm (mxi a c) fun l => nm (mni b d) fun h => br (lei l h) (K (.tuple #[S2 l h, .bool true])) (K (.tuple #[S2 0 0, .bool false]))
  | _ => False
def cTU (vs : List Value) (K : Value → Prop) : Prop := match vs with
  | [.agg ⟨[.int .i64 a, .int .i64 b]⟩] => need (a ≤ b) (K (T2 (tuL a b) (tuH a b)))
  | _ => False
def cTS (vs : List Value) (K : Value → Prop) : Prop := match vs with
  | [.agg ⟨[.int .u64 a, .int .u64 b]⟩] => need ((u6 a ∧ u6 b) ∧ a ≤ b) (K (S2 (tsL a b) (tsH a b)))
  | _ => False
def cFT (vs : List Value) (K : Value → Prop) : Prop := match vs with
  | [.agg ⟨[.int .u64 a, .int .u64 b]⟩] => need (dj a b) (K (.tuple #[T2 a (fuH a b), S2 (fsL a b) (fsH a b)]))
  | _ => False
noncomputable def cTT (vs : List Value) (K : Value → Prop) : Prop := match vs with
  | [.agg ⟨[.int .u64 a, .int .u64 b]⟩] => need (u6 a ∧ u6 b) (K (T2 (ttV a b) (ttM a b)))
  | _ => False
def cMe (vs : List Value) (K : Value → Prop) : Prop := match vs with
  | [.agg ⟨[.int .u64 a, .int .u64 b]⟩, .agg ⟨[.int .u64 c, .int .u64 d]⟩] => need (dj a b ∧ dj c d) (nm (meV a b c d) fun v => nm (meM a b c d) fun m => br (meO a b c d) (K (.tuple #[T2 v m, .bool true])) (K (.tuple #[T2 0 0, .bool false])))
  | _ => False
noncomputable abbrev TN : Tab := [(47, cUM), (163, cUM), (51, cSM), (166, cSM), (48, cTU), (164, cTU), (52, cTS), (167, cTS), (45, cFT), (165, cFT), (56, cTT), (168, cTT), (55, cMe), (154, cMe)]
def nN1 (a b c d e f : Int) (K : Value → Prop) : Prop := run Tryz.prog TN EEz true 90 15 [Sc a b c d e f] K
theorem nN1_eq (a b c d e f : Int) (K : Value → Prop) : nN1 a b c d e f K = (need (Zbf.dj a b) (ob true true (need (e ≤ f) (nm (Zbi.mxi c (Zbi.tuL e f)) fun r => nm (Zbi.mni d (Zbi.tuH e f)) fun r_1 => br (Zbi.lei r r_1) (ob true true (nm (Zbi.mxi r a) fun r => nm (Zbi.mni r_1 (Zbi.fuH a b)) fun r_2 => br (Zbi.lei r r_2) (ob true true (need ((Zu.u6 r ∧ Zu.u6 r_2) ∧ r ≤ r_2) (nm (Zbi.mxi e (Zbi.tsL r r_2)) fun r_3 => nm (Zbi.mni f (Zbi.tsH r r_2)) fun r_4 => br (Zbi.lei r_3 r_4) (ob true true (nm (Zbi.mxi r_3 (Zbi.fsL a b)) fun r_5 => nm (Zbi.mni r_4 (Zbi.fsH a b)) fun r_6 => br (Zbi.lei r_5 r_6) (ob true true (need (Zu.u6 r ∧ Zu.u6 r_2) (need (Zbf.dj a b ∧ Zbf.dj (Zbc.ttV r r_2) (Zbc.ttM r r_2)) (nm (Zbf.meV a b (Zbc.ttV r r_2) (Zbc.ttM r r_2)) fun r_7 => nm (Zbf.meM a b (Zbc.ttV r r_2) (Zbc.ttM r r_2)) fun r_8 => br (Zbf.meO a b (Zbc.ttV r r_2) (Zbc.ttM r r_2)) (need (Zbf.dj r_7 r_8) (ob true true (need (r_5 ≤ r_6) (nm (Zbi.mxi r (Zbi.tuL r_5 r_6)) fun r => nm (Zbi.mni r_2 (Zbi.tuH r_5 r_6)) fun r_9 => br (Zbi.lei r r_9) (ob true true (nm (Zbi.mxi r r_7) fun r => nm (Zbi.mni r_9 (Zbi.fuH r_7 r_8)) fun r_10 => br (Zbi.lei r r_10) (ob true true (need ((Zu.u6 r ∧ Zu.u6 r_10) ∧ r ≤ r_10) (nm (Zbi.mxi r_5 (Zbi.tsL r r_10)) fun r_11 => nm (Zbi.mni r_6 (Zbi.tsH r r_10)) fun r_12 => br (Zbi.lei r_11 r_12) (ob true true (nm (Zbi.mxi r_11 (Zbi.fsL r_7 r_8)) fun r_13 => nm (Zbi.mni r_12 (Zbi.fsH r_7 r_8)) fun r_14 => br (Zbi.lei r_13 r_14) (ob true true (need (Zu.u6 r ∧ Zu.u6 r_10) (need (Zbf.dj r_7 r_8 ∧ Zbf.dj (Zbc.ttV r r_10) (Zbc.ttM r r_10)) (nm (Zbf.meV r_7 r_8 (Zbc.ttV r r_10) (Zbc.ttM r r_10)) fun r_15 => nm (Zbf.meM r_7 r_8 (Zbc.ttV r r_10) (Zbc.ttM r r_10)) fun r_16 => br (Zbf.meO r_7 r_8 (Zbc.ttV r r_10) (Zbc.ttM r r_10)) (K (.tuple (#[.agg (#[.int .u64 r_15, .int .u64 r_16, .int .u64 r, .int .u64 r_10, .int .i64 r_13, .int .i64 r_14]), .bool true]))) (K (.tuple (#[.agg (#[.int .u64 0, .int .u64 0, .int .u64 0, .int .u64 0, .int .i64 0, .int .i64 0]), .bool false]))))))) (K (.tuple (#[.agg (#[.int .u64 0, .int .u64 0, .int .u64 0, .int .u64 0, .int .i64 0, .int .i64 0]), .bool false]))))) (K (.tuple (#[.agg (#[.int .u64 0, .int .u64 0, .int .u64 0, .int .u64 0, .int .i64 0, .int .i64 0]), .bool false])))))) (K (.tuple (#[.agg (#[.int .u64 0, .int .u64 0, .int .u64 0, .int .u64 0, .int .i64 0, .int .i64 0]), .bool false]))))) (K (.tuple (#[.agg (#[.int .u64 0, .int .u64 0, .int .u64 0, .int .u64 0, .int .i64 0, .int .i64 0]), .bool false]))))))) (K (.tuple (#[.agg (#[.int .u64 0, .int .u64 0, .int .u64 0, .int .u64 0, .int .i64 0, .int .i64 0]), .bool false]))))))) (K (.tuple (#[.agg (#[.int .u64 0, .int .u64 0, .int .u64 0, .int .u64 0, .int .i64 0, .int .i64 0]), .bool false]))))) (K (.tuple (#[.agg (#[.int .u64 0, .int .u64 0, .int .u64 0, .int .u64 0, .int .i64 0, .int .i64 0]), .bool false])))))) (K (.tuple (#[.agg (#[.int .u64 0, .int .u64 0, .int .u64 0, .int .u64 0, .int .i64 0, .int .i64 0]), .bool false]))))) (K (.tuple (#[.agg (#[.int .u64 0, .int .u64 0, .int .u64 0, .int .u64 0, .int .i64 0, .int .i64 0]), .bool false]))))))) := by kernel_rfl
def nN2 (a b c d e f : Int) (K : Value → Prop) : Prop := run Tryz.prog TN EEz true 90 16 [Sc a b c d e f] K
theorem nN2_eq (a b c d e f : Int) (K : Value → Prop) : nN2 a b c d e f K = (need (e ≤ f) (nm (Zbi.mxi c (Zbi.tuL e f)) fun r => nm (Zbi.mni d (Zbi.tuH e f)) fun r_1 => br (Zbi.lei r r_1) (need (Zbf.dj a b) (nm (Zbi.mxi r a) fun r => nm (Zbi.mni r_1 (Zbi.fuH a b)) fun r_2 => br (Zbi.lei r r_2) (need ((Zu.u6 r ∧ Zu.u6 r_2) ∧ r ≤ r_2) (nm (Zbi.mxi e (Zbi.tsL r r_2)) fun r_3 => nm (Zbi.mni f (Zbi.tsH r r_2)) fun r_4 => br (Zbi.lei r_3 r_4) (nm (Zbi.mxi r_3 (Zbi.fsL a b)) fun r_5 => nm (Zbi.mni r_4 (Zbi.fsH a b)) fun r_6 => br (Zbi.lei r_5 r_6) (need (Zu.u6 r ∧ Zu.u6 r_2) (need (Zbf.dj a b ∧ Zbf.dj (Zbc.ttV r r_2) (Zbc.ttM r r_2)) (nm (Zbf.meV a b (Zbc.ttV r r_2) (Zbc.ttM r r_2)) fun r_7 => nm (Zbf.meM a b (Zbc.ttV r r_2) (Zbc.ttM r r_2)) fun r_8 => br (Zbf.meO a b (Zbc.ttV r r_2) (Zbc.ttM r r_2)) (need (r_5 ≤ r_6) (nm (Zbi.mxi r (Zbi.tuL r_5 r_6)) fun r => nm (Zbi.mni r_2 (Zbi.tuH r_5 r_6)) fun r_9 => br (Zbi.lei r r_9) (need (Zbf.dj r_7 r_8) (nm (Zbi.mxi r r_7) fun r => nm (Zbi.mni r_9 (Zbi.fuH r_7 r_8)) fun r_10 => br (Zbi.lei r r_10) (need ((Zu.u6 r ∧ Zu.u6 r_10) ∧ r ≤ r_10) (nm (Zbi.mxi r_5 (Zbi.tsL r r_10)) fun r_11 => nm (Zbi.mni r_6 (Zbi.tsH r r_10)) fun r_12 => br (Zbi.lei r_11 r_12) (nm (Zbi.mxi r_11 (Zbi.fsL r_7 r_8)) fun r_13 => nm (Zbi.mni r_12 (Zbi.fsH r_7 r_8)) fun r_14 => br (Zbi.lei r_13 r_14) (need (Zu.u6 r ∧ Zu.u6 r_10) (need (Zbf.dj r_7 r_8 ∧ Zbf.dj (Zbc.ttV r r_10) (Zbc.ttM r r_10)) (nm (Zbf.meV r_7 r_8 (Zbc.ttV r r_10) (Zbc.ttM r r_10)) fun r_15 => nm (Zbf.meM r_7 r_8 (Zbc.ttV r r_10) (Zbc.ttM r r_10)) fun r_16 => br (Zbf.meO r_7 r_8 (Zbc.ttV r r_10) (Zbc.ttM r r_10)) (K (.tuple (#[.agg (#[.int .u64 r_15, .int .u64 r_16, .int .u64 r, .int .u64 r_10, .int .i64 r_13, .int .i64 r_14]), .bool true]))) (K (.tuple (#[.agg (#[.int .u64 0, .int .u64 0, .int .u64 0, .int .u64 0, .int .i64 0, .int .i64 0]), .bool false])))))) (K (.tuple (#[.agg (#[.int .u64 0, .int .u64 0, .int .u64 0, .int .u64 0, .int .i64 0, .int .i64 0]), .bool false])))) (K (.tuple (#[.agg (#[.int .u64 0, .int .u64 0, .int .u64 0, .int .u64 0, .int .i64 0, .int .i64 0]), .bool false]))))) (K (.tuple (#[.agg (#[.int .u64 0, .int .u64 0, .int .u64 0, .int .u64 0, .int .i64 0, .int .i64 0]), .bool false]))))) (K (.tuple (#[.agg (#[.int .u64 0, .int .u64 0, .int .u64 0, .int .u64 0, .int .i64 0, .int .i64 0]), .bool false]))))) (K (.tuple (#[.agg (#[.int .u64 0, .int .u64 0, .int .u64 0, .int .u64 0, .int .i64 0, .int .i64 0]), .bool false])))))) (K (.tuple (#[.agg (#[.int .u64 0, .int .u64 0, .int .u64 0, .int .u64 0, .int .i64 0, .int .i64 0]), .bool false])))) (K (.tuple (#[.agg (#[.int .u64 0, .int .u64 0, .int .u64 0, .int .u64 0, .int .i64 0, .int .i64 0]), .bool false]))))) (K (.tuple (#[.agg (#[.int .u64 0, .int .u64 0, .int .u64 0, .int .u64 0, .int .i64 0, .int .i64 0]), .bool false]))))) (K (.tuple (#[.agg (#[.int .u64 0, .int .u64 0, .int .u64 0, .int .u64 0, .int .i64 0, .int .i64 0]), .bool false]))))) := by kernel_rfl
end Go.Proofs.YtceclodenhgoeaaGreat.Zbi
end
section
/- Layer 5, against the reference: Norm is the same on both sides. -/
namespace Go.Proofs.YtceclodenhgoeaaGreat.Zbj
open Go Go.RowKit Go.Proofs Go.Proofs.YtceclodenhgoeaaGreat.Xc Go.Proofs.YtceclodenhgoeaaGreat.Zs Go.Proofs.YtceclodenhgoeaaGreat.Zu Go.Proofs.YtceclodenhgoeaaGreat.Zv Go.Proofs.YtceclodenhgoeaaGreat.Zo Go.Proofs.YtceclodenhgoeaaGreat.Zq Go.Proofs.YtceclodenhgoeaaGreat.Zqa Go.Proofs.YtceclodenhgoeaaGreat.Zqb Go.Proofs.YtceclodenhgoeaaGreat.Zqc Go.Proofs.YtceclodenhgoeaaGreat.Zbc Go.Proofs.YtceclodenhgoeaaGreat.Zbf Go.Proofs.YtceclodenhgoeaaGreat.Zbh Go.Proofs.YtceclodenhgoeaaGreat.Zbi Go.Proofs.YtceclodenhgoeaaGreat.Bv
set_option linter.unusedVariables false
set_option linter.unusedSimpArgs false
/-- A scalar, or none. -/
structure NR where
  a : Int
  b : Int
  c : Int
  d : Int
  e : Int
  f : Int
  ok : Bool
def bad : NR := ⟨0, 0, 0, 0, 0, 0, false⟩
def stp (l h : Int) (k : Int → Int → NR) : NR := bif lei l h then k l h else bad
def stm (q : Bool) (v m : Int) (k : Int → Int → NR) : NR := bif q then k v m else bad
/-- Norm, once. -/
noncomputable def onceK (a b c d e f : Int) (k : Int → Int → Int → Int → Int → Int → NR) : NR :=
  stp (mxi c (tuL e f)) (mni d (tuH e f)) fun l1 h1 =>
  stp (mxi l1 a) (mni h1 (fuH a b)) fun l2 h2 =>
  stp (mxi e (tsL l2 h2)) (mni f (tsH l2 h2)) fun l3 h3 =>
  stp (mxi l3 (fsL a b)) (mni h3 (fsH a b)) fun l4 h4 =>
  stm (meO a b (ttV l2 h2) (ttM l2 h2)) (meV a b (ttV l2 h2) (ttM l2 h2)) (meM a b (ttV l2 h2) (ttM l2 h2)) fun v m => k v m l2 h2 l4 h4
noncomputable def nz (a b c d e f : Int) : NR := onceK a b c d e f fun a b c d e f => onceK a b c d e f fun a b c d e f => ⟨a, b, c, d, e, f, true⟩
def mkV (r : NR) : Value := .tuple #[Sc r.a r.b r.c r.d r.e r.f, .bool r.ok]
theorem st_p {l h : Int} {k : Int → Int → NR} {K : Value → Prop} {A B : Int → Int → Prop} (hh : K (mkV (stp l h k))) (h1 : ∀ r s, r = l → s = h → lei r s = true → K (mkV (k r s)) → A r s) (h2 : K (mkV bad) → ∀ r s, B r s) : nm l fun r => nm h fun s => br (lei r s) (A r s) (B r s) := fun r hr s hs => by
  subst hr; subst hs
  unfold stp at hh
  refine br_cases (fun q => ?_) (fun q => ?_)
  · rw [q] at hh; exact h1 _ _ rfl rfl q hh
  · rw [q] at hh; exact h2 hh _ _
theorem st_m {q : Bool} {v m : Int} {k : Int → Int → NR} {K : Value → Prop} {A B : Int → Int → Prop} (hh : K (mkV (stm q v m k))) (h1 : ∀ r s, r = v → s = m → K (mkV (k r s)) → A r s) (h2 : K (mkV bad) → ∀ r s, B r s) : nm v fun r => nm m fun s => br q (A r s) (B r s) := fun r hr s hs => by
  subst hr; subst hs
  unfold stm at hh
  refine br_cases (fun q => ?_) (fun q => ?_)
  · rw [q] at hh; exact h1 _ _ rfl rfl hh
  · rw [q] at hh; exact h2 hh _ _
theorem u6_mx {x y : Int} (h : u6 x) (k : u6 y) : u6 (mxi x y) := by unfold mxi u6 at *; omega
theorem u6_mn {x y : Int} (h : u6 x) (k : u6 y) : u6 (mni x y) := by unfold mni u6 at *; omega
theorem u6_w (x : Int) : u6 (IntKind.wrap .u64 x) := by rw [uW]; unfold u6; omega
theorem u6_tuL (a b : Int) : u6 (tuL a b) := by
  unfold tuL; split
  · unfold u6; omega
  · exact u6_w _
theorem u6_tuH (a b : Int) : u6 (tuH a b) := by
  unfold tuH; split
  · unfold u6; omega
  · exact u6_w _
theorem le_of {a b : Int} (h : lei a b = true) : a ≤ b := of_decide_eq_true h
theorem dj_tt {a b : Int} (h : u6 a) (k : u6 b) : dj (ttV a b) (ttM a b) := by
  obtain ⟨A, rfl⟩ := exu h
  obtain ⟨B, rfl⟩ := exu k
  exact tt_dj A B
theorem oN1 {a b c d e f : Int} {K : Value → Prop} (hd : dj a b) (hc : u6 c) (hu : u6 d) (hef : e ≤ f) (hh : K (mkV (nz a b c d e f))) : nN1 a b c d e f K := by
  rw [nN1_eq]
  unfold nz onceK at hh
  refine ⟨hd, ob_self ⟨hef, st_p hh (fun l1 h1 el1 eh1 qa1 hh => ?_) (fun hh _ _ => hh)⟩⟩
  refine ob_self (st_p hh (fun m1 g1 em1 eg1 qb1 hh => ?_) (fun hh _ _ => hh))
  have u1 : u6 m1 := by subst em1; subst el1; exact u6_mx (u6_mx hc (u6_tuL _ _)) (dj_u hd).1
  have v1 : u6 g1 := by subst eg1; subst eh1; exact u6_mn (u6_mn hu (u6_tuH _ _)) (u6_w _)
  refine ob_self ⟨⟨⟨u1, v1⟩, le_of qb1⟩, st_p hh (fun s1 t1 es1 et1 qc1 hh => ?_) (fun hh _ _ => hh)⟩
  refine ob_self (st_p hh (fun x1 y1 ex1 ey1 qd1 hh => ?_) (fun hh _ _ => hh))
  refine ob_self ⟨⟨u1, v1⟩, ⟨hd, dj_tt u1 v1⟩, st_m hh (fun z1 w1 ez1 ew1 hh => ?_) (fun hh _ _ => hh)⟩
  have hd2 : dj z1 w1 := by subst ez1; subst ew1; exact (me_dj hd (dj_tt u1 v1)).1
  unfold onceK at hh
  refine ⟨hd2, ob_self ⟨(le_of qd1), st_p hh (fun l2 h2 el2 eh2 qa2 hh => ?_) (fun hh _ _ => hh)⟩⟩
  refine ob_self (st_p hh (fun m2 g2 em2 eg2 qb2 hh => ?_) (fun hh _ _ => hh))
  have u2 : u6 m2 := by subst em2; subst el2; exact u6_mx (u6_mx u1 (u6_tuL _ _)) (dj_u hd2).1
  have v2 : u6 g2 := by subst eg2; subst eh2; exact u6_mn (u6_mn v1 (u6_tuH _ _)) (u6_w _)
  refine ob_self ⟨⟨⟨u2, v2⟩, le_of qb2⟩, st_p hh (fun s2 t2 es2 et2 qc2 hh => ?_) (fun hh _ _ => hh)⟩
  refine ob_self (st_p hh (fun x2 y2 ex2 ey2 qd2 hh => ?_) (fun hh _ _ => hh))
  refine ob_self ⟨⟨u2, v2⟩, ⟨hd2, dj_tt u2 v2⟩, st_m hh (fun z2 w2 ez2 ew2 hh => ?_) (fun hh _ _ => hh)⟩
  exact hh
theorem oN2 {a b c d e f : Int} {K : Value → Prop} (hd : dj a b) (hc : u6 c) (hu : u6 d) (hef : e ≤ f) (hh : K (mkV (nz a b c d e f))) : nN2 a b c d e f K := by
  rw [nN2_eq]
  unfold nz onceK at hh
  refine ⟨hef, st_p hh (fun l1 h1 el1 eh1 qa1 hh => ?_) (fun hh _ _ => hh)⟩
  refine ⟨hd, st_p hh (fun m1 g1 em1 eg1 qb1 hh => ?_) (fun hh _ _ => hh)⟩
  have u1 : u6 m1 := by subst em1; subst el1; exact u6_mx (u6_mx hc (u6_tuL _ _)) (dj_u hd).1
  have v1 : u6 g1 := by subst eg1; subst eh1; exact u6_mn (u6_mn hu (u6_tuH _ _)) (u6_w _)
  refine ⟨⟨⟨u1, v1⟩, le_of qb1⟩, st_p hh (fun s1 t1 es1 et1 qc1 hh => ?_) (fun hh _ _ => hh)⟩
  refine st_p hh (fun x1 y1 ex1 ey1 qd1 hh => ?_) (fun hh _ _ => hh)
  refine ⟨⟨u1, v1⟩, ⟨hd, dj_tt u1 v1⟩, st_m hh (fun z1 w1 ez1 ew1 hh => ?_) (fun hh _ _ => hh)⟩
  have hd2 : dj z1 w1 := by subst ez1; subst ew1; exact (me_dj hd (dj_tt u1 v1)).1
  unfold onceK at hh
  refine ⟨(le_of qd1), st_p hh (fun l2 h2 el2 eh2 qa2 hh => ?_) (fun hh _ _ => hh)⟩
  refine ⟨hd2, st_p hh (fun m2 g2 em2 eg2 qb2 hh => ?_) (fun hh _ _ => hh)⟩
  have u2 : u6 m2 := by subst em2; subst el2; exact u6_mx (u6_mx u1 (u6_tuL _ _)) (dj_u hd2).1
  have v2 : u6 g2 := by subst eg2; subst eh2; exact u6_mn (u6_mn v1 (u6_tuH _ _)) (u6_w _)
  refine ⟨⟨⟨u2, v2⟩, le_of qb2⟩, st_p hh (fun s2 t2 es2 et2 qc2 hh => ?_) (fun hh _ _ => hh)⟩
  refine st_p hh (fun x2 y2 ex2 ey2 qd2 hh => ?_) (fun hh _ _ => hh)
  refine ⟨⟨u2, v2⟩, ⟨hd2, dj_tt u2 v2⟩, st_m hh (fun z2 w2 ez2 ew2 hh => ?_) (fun hh _ _ => hh)⟩
  exact hh
end Go.Proofs.YtceclodenhgoeaaGreat.Zbj
end
section
/- Layer 5, against the reference: the contracts of Norm's parts; Norm's. -/
namespace Go.Proofs.YtceclodenhgoeaaGreat.Zbk
open Go Go.RowKit Go.Proofs Go.Proofs.YtceclodenhgoeaaGreat.Xc Go.Proofs.YtceclodenhgoeaaGreat.Zs Go.Proofs.YtceclodenhgoeaaGreat.Zr Go.Proofs.YtceclodenhgoeaaGreat.Zu Go.Proofs.YtceclodenhgoeaaGreat.Zv Go.Proofs.YtceclodenhgoeaaGreat.Zo Go.Proofs.YtceclodenhgoeaaGreat.Zp Go.Proofs.YtceclodenhgoeaaGreat.Zq Go.Proofs.YtceclodenhgoeaaGreat.Zqa Go.Proofs.YtceclodenhgoeaaGreat.Zqb Go.Proofs.YtceclodenhgoeaaGreat.Zqc Go.Proofs.YtceclodenhgoeaaGreat.Zbb Go.Proofs.YtceclodenhgoeaaGreat.Zbc Go.Proofs.YtceclodenhgoeaaGreat.Zbf Go.Proofs.YtceclodenhgoeaaGreat.Zbg Go.Proofs.YtceclodenhgoeaaGreat.Zbh Go.Proofs.YtceclodenhgoeaaGreat.Zbi Go.Proofs.YtceclodenhgoeaaGreat.Zbj Go.Proofs.YtceclodenhgoeaaGreat.Bv
set_option linter.unusedVariables false
set_option linter.unusedSimpArgs false
theorem to_mk2 {k : IntKind} {a b c d : Int} {K : Value → Prop} (h : nm (mxi a c) fun l => nm (mni b d) fun h => br (lei l h) (K (.tuple #[.agg #[.int k l, .int k h], .bool true])) (K (.tuple #[.agg #[.int k 0, .int k 0], .bool false]))) : mk2 k K a b c d := by
  have h : br (decide (max a c ≤ min b d)) (K (.tuple #[.agg #[.int k (max a c), .int k (min b d)], .bool true])) (K (.tuple #[.agg #[.int k 0, .int k 0], .bool false])) := h _ rfl _ rfl
  unfold mk2
  split
  · rename_i q; rw [decide_eq_true q] at h; exact h
  · rename_i q; rw [decide_eq_false q] at h; exact h
theorem to_mkU {a b : Int} {K : Value → Prop} (h : K (T2 (tuL a b) (tuH a b))) : mkU K a b := by
  unfold mkU; unfold tuL tuH at h
  split
  · rename_i q; rw [if_pos q, if_pos q] at h; exact h
  · rename_i q; rw [if_neg q, if_neg q] at h; exact h
theorem to_mkS {a b : Int} {K : Value → Prop} (h : K (S2 (tsL a b) (tsH a b))) : mkS K a b := by
  unfold mkS; unfold tsL tsH at h
  split
  · rename_i q; rw [if_pos q, if_pos q] at h; exact h
  · rename_i q; rw [if_neg q, if_neg q] at h; exact h
theorem rFT2 {a b : Int} {K : Value → Prop} (h : K (.tuple #[T2 a (fuH a b), S2 (fsL a b) (fsH a b)])) : nFromT2 a b K := by
  rw [nFromT2_eq]
  unfold fuH fsL fsH at h
  refine br_cases (fun q => ?_) (fun q => ?_)
  · have q := of_decide_eq_true q; rw [if_pos q, if_pos q] at h; exact h
  · have q := of_decide_eq_false q; rw [if_neg q, if_neg q] at h; exact h
theorem rFT1 {a b : Int} {K : Value → Prop} (hd : dj a b) (h : K (.tuple #[T2 a (fuH a b), S2 (fsL a b) (fsH a b)])) : nFromT1 a b K := by
  obtain ⟨A, B, rfl, rfl, hd⟩ := hd
  exact rFromT A B K hd (rFT2 h)
theorem to_meK {a b c d : Int} {K : Value → Prop} (h : nm (meV a b c d) fun v => nm (meM a b c d) fun m => br (meO a b c d) (K (.tuple #[T2 v m, .bool true])) (K (.tuple #[T2 0 0, .bool false]))) : meK a b c d K := h _ rfl _ rfl
theorem tn : TabOk Tryz.prog TN := by
  refine tab_runK good (by kernel_rfl) (fun vs K h => ?_) (tab_runK good (by kernel_rfl) (fun vs K h => ?_) (tab_runK good (by kernel_rfl) (fun vs K h => ?_) (tab_runK good (by kernel_rfl) (fun vs K h => ?_) (tab_runK good (by kernel_rfl) (fun vs K h => ?_) (tab_runK good (by kernel_rfl) (fun vs K h => ?_) (tab_runK good (by kernel_rfl) (fun vs K h => ?_) (tab_runK good (by kernel_rfl) (fun vs K h => ?_) (tab_runK good (by kernel_rfl) (fun vs K h => ?_) (tab_runK good (by kernel_rfl) (fun vs K h => ?_) (tab_runK good (by kernel_rfl) (fun vs K h => ?_) (tab_runL good (by kernel_rfl) (fun vs K h => ?_) (tab_runK good (by kernel_rfl) (fun vs K h => ?_) (tab_runL good (by kernel_rfl) (fun vs K h => ?_) tab_nil)))))))))))))
  · unfold cUM at h; split at h
    · rename_i a b c d
      have o := rU1 a b c d K (to_mk2 h); unfold nUMeet1 at o; exact ⟨[], EEz, true, 90, tab_nil, eez, o⟩
    · exact h.elim
  · unfold cUM at h; split at h
    · rename_i a b c d
      have o := rU2 a b c d K (to_mk2 h); unfold nUMeet2 at o; exact ⟨[], EEz, true, 90, tab_nil, eez, o⟩
    · exact h.elim
  · unfold cSM at h; split at h
    · rename_i a b c d
      have o := rS1 a b c d K (to_mk2 h); unfold nSMeet1 at o; exact ⟨[], EEz, true, 90, tab_nil, eez, o⟩
    · exact h.elim
  · unfold cSM at h; split at h
    · rename_i a b c d
      have o := rS2 a b c d K (to_mk2 h); unfold nSMeet2 at o; exact ⟨[], EEz, true, 90, tab_nil, eez, o⟩
    · exact h.elim
  · unfold cTU at h; split at h
    · rename_i a b
      have o := rToU1 a b K h.1 (to_mkU h.2); unfold nToU1 at o; exact ⟨[], EEz, true, 90, tab_nil, eez, o⟩
    · exact h.elim
  · unfold cTU at h; split at h
    · rename_i a b
      have o := rToU2 a b K (to_mkU h.2); unfold nToU2 at o; exact ⟨[], EEz, true, 90, tab_nil, eez, o⟩
    · exact h.elim
  · unfold cTS at h; split at h
    · rename_i a b
      have o := rToS1 a b K h.1.1.1 h.1.1.2 h.1.2 (to_mkS h.2); unfold nToS1 at o; exact ⟨[], EEz, true, 90, tab_nil, eez, o⟩
    · exact h.elim
  · unfold cTS at h; split at h
    · rename_i a b
      have o := rToS2 a b K h.1.2 (to_mkS h.2); unfold nToS2 at o; exact ⟨[], EEz, true, 90, tab_nil, eez, o⟩
    · exact h.elim
  · unfold cFT at h; split at h
    · rename_i a b
      have o := rFT1 h.1 h.2; unfold nFromT1 at o; exact ⟨[], EEz, true, 90, tab_nil, eez, o⟩
    · exact h.elim
  · unfold cFT at h; split at h
    · rename_i a b
      have o := rFT2 h.2; unfold nFromT2 at o; exact ⟨[], EEz, true, 90, tab_nil, eez, o⟩
    · exact h.elim
  · unfold cTT at h; split at h
    · rename_i a b
      obtain ⟨⟨ha, hb⟩, h⟩ := h
      obtain ⟨A, rfl⟩ := exu ha
      obtain ⟨B, rfl⟩ := exu hb
      have o := rTT1 A B K h; unfold nToT at o; exact ⟨TT, EEz, true, 90, ttl, eez, o⟩
    · exact h.elim
  · unfold cTT at h; split at h
    · rename_i a b
      have o := rTT2 a b K h.1.1 h.1.2 h.2; unfold nRTT at o; exact ⟨TAl, EEz, true, LtT, 90, Zy.tal, eez, lokT, o⟩
    · exact h.elim
  · unfold cMe at h; split at h
    · rename_i a b c d
      have o := rM1 h.1.1 h.1.2 (to_meK h.2); unfold nM1 at o; exact ⟨[], EEz, true, 90, tab_nil, eez, o⟩
    · exact h.elim
  · unfold cMe at h; split at h
    · rename_i a b c d
      have o := rM2 h.1.1 h.1.2 (to_meK h.2); unfold nM2 at o; exact ⟨[], EEz, true, LtM, 90, tab_nil, eez, lokM, o⟩
    · exact h.elim
end Go.Proofs.YtceclodenhgoeaaGreat.Zbk
end
section
/- Layer 5, against the reference: In, Within, Join on both sides, and ScalarSets, run. -/
namespace Go.Proofs.YtceclodenhgoeaaGreat.Zbl
open Go Go.RowKit Go.Proofs Go.Proofs.YtceclodenhgoeaaGreat.Xc Go.Proofs.YtceclodenhgoeaaGreat.Zs Go.Proofs.YtceclodenhgoeaaGreat.Zu Go.Proofs.YtceclodenhgoeaaGreat.Zo Go.Proofs.YtceclodenhgoeaaGreat.Zq Go.Proofs.YtceclodenhgoeaaGreat.Zbf Go.Proofs.YtceclodenhgoeaaGreat.Zbi Go.Proofs.YtceclodenhgoeaaGreat.Zbj
set_option maxRecDepth 100000
set_option linter.unusedVariables false
def cI (vs : List Value) (K : Value → Prop) : Prop := match vs with
  | [.agg ⟨[.int .u64 a, .int .u64 b]⟩, .int .u64 v] => need (dj a b ∧ u6 v) (nm (inT a b v) fun r => K (.bool r))
  | _ => False
def cW (vs : List Value) (K : Value → Prop) : Prop := match vs with
  | [.agg ⟨[.int .u64 a, .int .u64 b]⟩, .agg ⟨[.int .u64 c, .int .u64 d]⟩] => need (dj a b ∧ dj c d) (nm (wiT a b c d) fun r => K (.bool r))
  | _ => False
def cJ (vs : List Value) (K : Value → Prop) : Prop := match vs with
  | [.agg ⟨[.int .u64 a, .int .u64 b]⟩, .agg ⟨[.int .u64 c, .int .u64 d]⟩] => need (dj a b ∧ dj c d) (nm (joV a b c d) fun v => nm (joM a b c d) fun m => K (T2 v m))
  | _ => False
noncomputable abbrev TL : Tab := [(70, cI), (73, cI), (76, cW), (79, cW), (82, cJ), (85, cJ)]
def nIn1 (a b c d e f v : Int) (K : Value → Prop) : Prop := run Tryz.prog TL EEz true 90 23 [Sc a b c d e f, .int .u64 v] K
theorem nIn1_eq (a b c d e f v : Int) (K : Value → Prop) : nIn1 a b c d e f v K = (need (Zbf.dj a b ∧ Zu.u6 v) (nm (Zbf.inT a b v) fun r => ob r r (ob r r (ob r r (ob (decide (c ≤ v)) (decide (c ≤ v)) (ob (decide (c ≤ v)) (decide (c ≤ v)) (ob (decide (c ≤ v)) (decide (c ≤ v)) (ob (!decide (c ≤ v)) true (nm (bif decide (c ≤ v) then decide (v ≤ d) else false) fun r_1 => ob r r (ob (!r) true (nm (bif r then r_1 else false) fun r => ob r r (ob r r (ob r r (ob (decide (e ≤ IntKind.wrap .i64 v)) (decide (e ≤ IntKind.wrap .i64 v)) (ob (decide (e ≤ IntKind.wrap .i64 v)) (decide (e ≤ IntKind.wrap .i64 v)) (ob (decide (e ≤ IntKind.wrap .i64 v)) (decide (e ≤ IntKind.wrap .i64 v)) (ob (!decide (e ≤ IntKind.wrap .i64 v)) true (nm (bif decide (e ≤ IntKind.wrap .i64 v) then decide (IntKind.wrap .i64 v ≤ f) else false) fun r_2 => ob r r (ob (!r) true (nm (bif r then r_2 else false) fun r => K (.bool r))))))))))))))))))))) := by kernel_rfl
def nIn2 (a b c d e f v : Int) (K : Value → Prop) : Prop := run Tryz.prog TL EEz true 90 24 [Sc a b c d e f, .int .u64 v] K
theorem nIn2_eq (a b c d e f v : Int) (K : Value → Prop) : nIn2 a b c d e f v K = (need (Zbf.dj a b ∧ Zu.u6 v) (nm (Zbf.inT a b v) fun r => ob r r (ob r r (ob r r (ob (decide (v ≥ c)) (decide (v ≥ c)) (ob (decide (v ≥ c)) (decide (v ≥ c)) (ob (decide (v ≥ c)) (decide (v ≥ c)) (ob (decide (v ≥ c)) (decide (v ≥ c)) (ob (!decide (v ≥ c)) true (nm (bif decide (v ≥ c) then decide (v ≤ d) else false) fun r_1 => ob r r (ob (!r) true (nm (bif r then r_1 else false) fun r => ob r r (ob r r (ob r r (ob (decide (IntKind.wrap .i64 v ≥ e)) (decide (IntKind.wrap .i64 v ≥ e)) (ob (decide (IntKind.wrap .i64 v ≥ e)) (decide (IntKind.wrap .i64 v ≥ e)) (ob (decide (IntKind.wrap .i64 v ≥ e)) (decide (IntKind.wrap .i64 v ≥ e)) (ob (decide (IntKind.wrap .i64 v ≥ e)) (decide (IntKind.wrap .i64 v ≥ e)) (ob (decide (IntKind.wrap .i64 v ≥ e)) (decide (IntKind.wrap .i64 v ≥ e)) (ob (!decide (IntKind.wrap .i64 v ≥ e)) true (nm (bif decide (IntKind.wrap .i64 v ≥ e) then decide (IntKind.wrap .i64 v ≤ f) else false) fun r_2 => ob r r (ob (!r) true (nm (bif r then r_2 else false) fun r => K (.bool r)))))))))))))))))))))))) := by kernel_rfl
def nWi1 (a b c d e f a' b' c' d' e' f' : Int) (K : Value → Prop) : Prop := run Tryz.prog TL EEz true 90 25 [Sc a b c d e f, Sc a' b' c' d' e' f'] K
theorem nWi1_eq (a b c d e f a' b' c' d' e' f' : Int) (K : Value → Prop) : nWi1 a b c d e f a' b' c' d' e' f' K = (need (Zbf.dj a b ∧ Zbf.dj a' b') (nm (Zbf.wiT a b a' b') fun r => ob r r (ob r r (ob r r (ob r r (ob (decide (c' ≤ c)) (decide (c' ≤ c)) (ob (decide (c' ≤ c)) (decide (c' ≤ c)) (ob (decide (c' ≤ c)) (decide (c' ≤ c)) (ob (decide (c' ≤ c)) (decide (c' ≤ c)) (ob (decide (c' ≤ c)) (decide (c' ≤ c)) (ob (!decide (c' ≤ c)) true (nm (bif decide (c' ≤ c) then decide (d ≤ d') else false) fun r_1 => ob r r (ob (!r) true (nm (bif r then r_1 else false) fun r => ob r r (ob r r (ob r r (ob r r (ob (decide (e' ≤ e)) (decide (e' ≤ e)) (ob (decide (e' ≤ e)) (decide (e' ≤ e)) (ob (decide (e' ≤ e)) (decide (e' ≤ e)) (ob (decide (e' ≤ e)) (decide (e' ≤ e)) (ob (decide (e' ≤ e)) (decide (e' ≤ e)) (ob (!decide (e' ≤ e)) true (nm (bif decide (e' ≤ e) then decide (f ≤ f') else false) fun r_2 => ob r r (ob (!r) true (nm (bif r then r_2 else false) fun r => K (.bool r))))))))))))))))))))))))))) := by kernel_rfl
def nWi2 (a b c d e f a' b' c' d' e' f' : Int) (K : Value → Prop) : Prop := run Tryz.prog TL EEz true 90 26 [Sc a b c d e f, Sc a' b' c' d' e' f'] K
theorem nWi2_eq (a b c d e f a' b' c' d' e' f' : Int) (K : Value → Prop) : nWi2 a b c d e f a' b' c' d' e' f' K = (need (Zbf.dj a b ∧ Zbf.dj a' b') (nm (Zbf.wiT a b a' b') fun r => ob r r (ob r r (ob r r (ob r r (ob (decide (c ≥ c')) (decide (c ≥ c')) (ob (decide (c ≥ c')) (decide (c ≥ c')) (ob (decide (c ≥ c')) (decide (c ≥ c')) (ob (decide (c ≥ c')) (decide (c ≥ c')) (ob (!decide (c ≥ c')) true (nm (bif decide (c ≥ c') then decide (c ≤ d') else false) fun r_1 => ob r_1 r_1 (ob r_1 r_1 (ob r_1 r_1 (ob (decide (d ≥ c')) (decide (d ≥ c')) (ob (decide (d ≥ c')) (decide (d ≥ c')) (ob (decide (d ≥ c')) (decide (d ≥ c')) (ob (decide (d ≥ c')) (decide (d ≥ c')) (ob (!decide (d ≥ c')) true (nm (bif decide (d ≥ c') then decide (d ≤ d') else false) fun r_2 => ob r_1 r_1 (ob (!r_1) true (nm (bif r_1 then r_2 else false) fun r_3 => ob r r (ob (!r) true (nm (bif r then r_3 else false) fun r => ob r r (ob r r (ob r r (ob r r (ob (decide (e ≥ e')) (decide (e ≥ e')) (ob (decide (e ≥ e')) (decide (e ≥ e')) (ob (decide (e ≥ e')) (decide (e ≥ e')) (ob (decide (e ≥ e')) (decide (e ≥ e')) (ob (decide (e ≥ e')) (decide (e ≥ e')) (ob (!decide (e ≥ e')) true (nm (bif decide (e ≥ e') then decide (f ≤ f') else false) fun r_4 => ob r r (ob (!r) true (nm (bif r then r_4 else false) fun r => K (.bool r)))))))))))))))))))))))))))))))))))) := by kernel_rfl
def nJo1 (a b c d e f a' b' c' d' e' f' : Int) (K : Value → Prop) : Prop := run Tryz.prog TL EEz true 90 27 [Sc a b c d e f, Sc a' b' c' d' e' f'] K
theorem nJo1_eq (a b c d e f a' b' c' d' e' f' : Int) (K : Value → Prop) : nJo1 a b c d e f a' b' c' d' e' f' K = (need (Zbf.dj a b ∧ Zbf.dj a' b') (nm (Zbf.joV a b a' b') fun r => nm (Zbf.joM a b a' b') fun r_1 => K (.agg (#[.int .u64 r, .int .u64 r_1, .int .u64 (if c' < c then c' else c), .int .u64 (if d' > d then d' else d), .int .i64 (if e' < e then e' else e), .int .i64 (if f' > f then f' else f)])))) := by kernel_rfl
def nJo2 (a b c d e f a' b' c' d' e' f' : Int) (K : Value → Prop) : Prop := run Tryz.prog TL EEz true 90 28 [Sc a b c d e f, Sc a' b' c' d' e' f'] K
theorem nJo2_eq (a b c d e f a' b' c' d' e' f' : Int) (K : Value → Prop) : nJo2 a b c d e f a' b' c' d' e' f' K = (need (Zbf.dj a b ∧ Zbf.dj a' b') (nm (Zbf.joV a b a' b') fun r => nm (Zbf.joM a b a' b') fun r_1 => br (decide (c' < c)) (br (decide (d' > d)) (br (decide (e' < e)) (br (decide (f' > f)) (K (.agg (#[.int .u64 r, .int .u64 r_1, .int .u64 c', .int .u64 d', .int .i64 e', .int .i64 f']))) (K (.agg (#[.int .u64 r, .int .u64 r_1, .int .u64 c', .int .u64 d', .int .i64 e', .int .i64 f])))) (br (decide (f' > f)) (K (.agg (#[.int .u64 r, .int .u64 r_1, .int .u64 c', .int .u64 d', .int .i64 e, .int .i64 f']))) (K (.agg (#[.int .u64 r, .int .u64 r_1, .int .u64 c', .int .u64 d', .int .i64 e, .int .i64 f]))))) (br (decide (e' < e)) (br (decide (f' > f)) (K (.agg (#[.int .u64 r, .int .u64 r_1, .int .u64 c', .int .u64 d, .int .i64 e', .int .i64 f']))) (K (.agg (#[.int .u64 r, .int .u64 r_1, .int .u64 c', .int .u64 d, .int .i64 e', .int .i64 f])))) (br (decide (f' > f)) (K (.agg (#[.int .u64 r, .int .u64 r_1, .int .u64 c', .int .u64 d, .int .i64 e, .int .i64 f']))) (K (.agg (#[.int .u64 r, .int .u64 r_1, .int .u64 c', .int .u64 d, .int .i64 e, .int .i64 f])))))) (br (decide (d' > d)) (br (decide (e' < e)) (br (decide (f' > f)) (K (.agg (#[.int .u64 r, .int .u64 r_1, .int .u64 c, .int .u64 d', .int .i64 e', .int .i64 f']))) (K (.agg (#[.int .u64 r, .int .u64 r_1, .int .u64 c, .int .u64 d', .int .i64 e', .int .i64 f])))) (br (decide (f' > f)) (K (.agg (#[.int .u64 r, .int .u64 r_1, .int .u64 c, .int .u64 d', .int .i64 e, .int .i64 f']))) (K (.agg (#[.int .u64 r, .int .u64 r_1, .int .u64 c, .int .u64 d', .int .i64 e, .int .i64 f]))))) (br (decide (e' < e)) (br (decide (f' > f)) (K (.agg (#[.int .u64 r, .int .u64 r_1, .int .u64 c, .int .u64 d, .int .i64 e', .int .i64 f']))) (K (.agg (#[.int .u64 r, .int .u64 r_1, .int .u64 c, .int .u64 d, .int .i64 e', .int .i64 f])))) (br (decide (f' > f)) (K (.agg (#[.int .u64 r, .int .u64 r_1, .int .u64 c, .int .u64 d, .int .i64 e, .int .i64 f']))) (K (.agg (#[.int .u64 r, .int .u64 r_1, .int .u64 c, .int .u64 d, .int .i64 e, .int .i64 f])))))))) := by kernel_rfl
end Go.Proofs.YtceclodenhgoeaaGreat.Zbl
end
section
/- Layer 5, against the reference: ScalarSets, run. -/
namespace Go.Proofs.YtceclodenhgoeaaGreat.Zbm
open Go Go.RowKit Go.Proofs Go.Proofs.YtceclodenhgoeaaGreat.Xc Go.Proofs.YtceclodenhgoeaaGreat.Zs Go.Proofs.YtceclodenhgoeaaGreat.Zu Go.Proofs.YtceclodenhgoeaaGreat.Zo Go.Proofs.YtceclodenhgoeaaGreat.Zq Go.Proofs.YtceclodenhgoeaaGreat.Zbf Go.Proofs.YtceclodenhgoeaaGreat.Zbi Go.Proofs.YtceclodenhgoeaaGreat.Zbj Go.Proofs.YtceclodenhgoeaaGreat.Zbl
set_option maxRecDepth 100000
set_option linter.unusedVariables false
def inS (a b c d e f v : Int) : Bool := inT a b v && lei c v && lei v d && lei e (IntKind.wrap .i64 v) && lei (IntKind.wrap .i64 v) f
def wiS (a b c d e f a' b' c' d' e' f' : Int) : Bool := wiT a b a' b' && lei c' c && lei d d' && lei e' e && lei f f'
structure MayQ (a b c d e f : Int) : Prop where
  dj : dj a b
  uc : u6 c
  ud : u6 d
  cd : c ≤ d
  ef : e ≤ f
def cTrue (vs : List Value) (K : Value → Prop) : Prop := match vs with
  | [] => K (.bool true)
  | _ => False
def cMay (vs : List Value) (K : Value → Prop) : Prop := match vs with
  | [.agg ⟨[.int .u64 a, .int .u64 b, .int .u64 c, .int .u64 d, .int .i64 e, .int .i64 f]⟩] => need ((u6 a ∧ u6 b) ∧ (u6 c ∧ u6 d)) (al fun a' => al fun c' => al fun d' => al fun e' => al fun f' => im (MayQ a' b c' d' e' f') (K (Sc a' b c' d' e' f')))
  | _ => False
def cIs (vs : List Value) (K : Value → Prop) : Prop := match vs with
  | [.agg ⟨[.int .u64 a, .int .u64 b, .int .u64 c, .int .u64 d, .int .i64 e, .int .i64 f]⟩] => nm (isv a b c d e f) fun v => nm (iso a b c d e f) fun one => K (.tuple #[.int .u64 v, .bool one])
  | _ => False
noncomputable def cNo (vs : List Value) (K : Value → Prop) : Prop := match vs with
  | [.agg ⟨[.int .u64 a, .int .u64 b, .int .u64 c, .int .u64 d, .int .i64 e, .int .i64 f]⟩] => need (MayQ a b c d e f) (nm (nz a b c d e f) fun r => K (.tuple #[Sc r.a r.b r.c r.d r.e r.f, .bool r.ok]))
  | _ => False
def cUp (vs : List Value) (K : Value → Prop) : Prop := match vs with
  | [.int .i64 n] => nm (upm n) fun m => nm (upl n) fun l => nm (uph n) fun h => K (Sc 0 m 0 m l h)
  | _ => False
def cIn (vs : List Value) (K : Value → Prop) : Prop := match vs with
  | [.agg ⟨[.int .u64 a, .int .u64 b, .int .u64 c, .int .u64 d, .int .i64 e, .int .i64 f]⟩, .int .u64 v] => need (dj a b ∧ u6 v) (nm (inS a b c d e f v) fun r => K (.bool r))
  | _ => False
def cWi (vs : List Value) (K : Value → Prop) : Prop := match vs with
  | [.agg ⟨[.int .u64 a, .int .u64 b, .int .u64 c, .int .u64 d, .int .i64 e, .int .i64 f]⟩, .agg ⟨[.int .u64 a', .int .u64 b', .int .u64 c', .int .u64 d', .int .i64 e', .int .i64 f']⟩] => need ((dj a b ∧ dj a' b') ∧ c ≤ d) (nm (wiS a b c d e f a' b' c' d' e' f') fun r => K (.bool r))
  | _ => False
def cJo (vs : List Value) (K : Value → Prop) : Prop := match vs with
  | [.agg ⟨[.int .u64 a, .int .u64 b, .int .u64 c, .int .u64 d, .int .i64 e, .int .i64 f]⟩, .agg ⟨[.int .u64 a', .int .u64 b', .int .u64 c', .int .u64 d', .int .i64 e', .int .i64 f']⟩] => need (dj a b ∧ dj a' b') (nm (joV a b a' b') fun v => nm (joM a b a' b') fun m => nm (mni c c') fun p => nm (mxi d d') fun q => nm (mni e e') fun s => nm (mxi f f') fun t => K (Sc v m p q s t))
  | _ => False
noncomputable abbrev TS : Tab := [(10, cTrue), (7, cMay), (13, cIs), (14, cIs), (15, cNo), (16, cNo), (21, cUp), (22, cUp), (23, cIn), (24, cIn), (25, cWi), (26, cWi), (27, cJo), (28, cJo)]
end Go.Proofs.YtceclodenhgoeaaGreat.Zbm
end
section
/- Layer 5, against the reference: ScalarSets: the contracts, and the law. -/
namespace Go.Proofs.YtceclodenhgoeaaGreat.Zbn
open Go Go.RowKit Go.Proofs Go.Proofs.YtceclodenhgoeaaGreat.Xc Go.Proofs.YtceclodenhgoeaaGreat.Zs Go.Proofs.YtceclodenhgoeaaGreat.Zr Go.Proofs.YtceclodenhgoeaaGreat.Zu Go.Proofs.YtceclodenhgoeaaGreat.Zv Go.Proofs.YtceclodenhgoeaaGreat.Zk Go.Proofs.YtceclodenhgoeaaGreat.Zx Go.Proofs.YtceclodenhgoeaaGreat.Zo Go.Proofs.YtceclodenhgoeaaGreat.Zq Go.Proofs.YtceclodenhgoeaaGreat.Zbf Go.Proofs.YtceclodenhgoeaaGreat.Zbg Go.Proofs.YtceclodenhgoeaaGreat.Zbh Go.Proofs.YtceclodenhgoeaaGreat.Zbi Go.Proofs.YtceclodenhgoeaaGreat.Zbj Go.Proofs.YtceclodenhgoeaaGreat.Zbk Go.Proofs.YtceclodenhgoeaaGreat.Zbl Go.Proofs.YtceclodenhgoeaaGreat.Zbm Go.Proofs.YtceclodenhgoeaaGreat.Bv
set_option linter.unusedVariables false
set_option linter.unusedSimpArgs false
theorem tl : TabOk Tryz.prog TL := by
  refine tab_runK good (by kernel_rfl) (fun vs K h => ?_) (tab_runL good (by kernel_rfl) (fun vs K h => ?_) (tab_runK good (by kernel_rfl) (fun vs K h => ?_) (tab_runL good (by kernel_rfl) (fun vs K h => ?_) (tab_runK good (by kernel_rfl) (fun vs K h => ?_) (tab_runL good (by kernel_rfl) (fun vs K h => ?_) tab_nil)))))
  · unfold cI at h; split at h
    · rename_i a b v
      have o := rI1 (K := K) (h.2 _ rfl); unfold nI1 at o; exact ⟨[], EEz, true, 90, tab_nil, eez, o⟩
    · exact h.elim
  · unfold cI at h; split at h
    · rename_i a b v
      have o := rI2 (K := K) h.1.1 h.1.2 (h.2 _ rfl); unfold nI2 at o; exact ⟨[], EEz, true, LtI, 90, tab_nil, eez, lokI, o⟩
    · exact h.elim
  · unfold cW at h; split at h
    · rename_i a b c d
      have o := rW1 (K := K) (h.2 _ rfl); unfold nW1 at o; exact ⟨[], EEz, true, 90, tab_nil, eez, o⟩
    · exact h.elim
  · unfold cW at h; split at h
    · rename_i a b c d
      have o := rW2 (K := K) h.1.1 h.1.2 (h.2 _ rfl); unfold nW2 at o; exact ⟨[], EEz, true, LtW, 90, tab_nil, eez, lokW, o⟩
    · exact h.elim
  · unfold cJ at h; split at h
    · rename_i a b c d
      have o := rJ1 (K := K) h.1.1 h.1.2 (h.2 _ rfl _ rfl); unfold nJ1 at o; exact ⟨[], EEt, true, 90, tab_nil, eet, o⟩
    · exact h.elim
  · unfold cJ at h; split at h
    · rename_i a b c d
      have o := rJ2 (K := K) h.1.1 h.1.2 (h.2 _ rfl _ rfl); unfold nJ2 at o; exact ⟨[], EEz, true, LtJ, 90, tab_nil, eez, lokJ, o⟩
    · exact h.elim
theorem kb {K : Value → Prop} {x y : Bool} (h : K (.bool y)) (e : x = y) : K (.bool x) := by rw [e]; exact h
theorem oIn1 {a b c d e f v : Int} {K : Value → Prop} (h1 : dj a b) (h2 : u6 v) (h : K (.bool (inS a b c d e f v))) : nIn1 a b c d e f v K := by
  rw [nIn1_eq]
  refine ⟨⟨h1, h2⟩, ?_⟩
  repeat (first | with_reducible refine ob_self ?_ | with_reducible refine ob_true ?_ | ((with_reducible refine nm_intro ?_); intro r hr; subst hr))
  refine kb h ?_
  unfold inS lei
  simp only [Bool.cond_false_right, ge_iff_le, Bool.and_assoc]
theorem oIn2 {a b c d e f v : Int} {K : Value → Prop} (h1 : dj a b) (h2 : u6 v) (h : K (.bool (inS a b c d e f v))) : nIn2 a b c d e f v K := by
  rw [nIn2_eq]
  refine ⟨⟨h1, h2⟩, ?_⟩
  repeat (first | with_reducible refine ob_self ?_ | with_reducible refine ob_true ?_ | ((with_reducible refine nm_intro ?_); intro r hr; subst hr))
  refine kb h ?_
  unfold inS lei
  simp only [Bool.cond_false_right, ge_iff_le, Bool.and_assoc]
theorem oWi1 {a b c d e f a' b' c' d' e' f' : Int} {K : Value → Prop} (h1 : dj a b) (h2 : dj a' b') (h : K (.bool (wiS a b c d e f a' b' c' d' e' f'))) : nWi1 a b c d e f a' b' c' d' e' f' K := by
  rw [nWi1_eq]
  refine ⟨⟨h1, h2⟩, ?_⟩
  repeat (first | with_reducible refine ob_self ?_ | with_reducible refine ob_true ?_ | ((with_reducible refine nm_intro ?_); intro r hr; subst hr))
  refine kb h ?_
  unfold wiS lei
  simp only [Bool.cond_false_right, ge_iff_le, Bool.and_assoc]
theorem four {c d c' d' : Int} (h : c ≤ d) : (decide (c' ≤ c) && (decide (c ≤ d') && (decide (c' ≤ d) && decide (d ≤ d')))) = (decide (c' ≤ c) && decide (d ≤ d')) := by
  rw [Bool.eq_iff_iff]; simp only [Bool.and_eq_true, decide_eq_true_eq]; omega
theorem oWi2 {a b c d e f a' b' c' d' e' f' : Int} {K : Value → Prop} (h1 : dj a b) (h2 : dj a' b') (h3 : c ≤ d) (h : K (.bool (wiS a b c d e f a' b' c' d' e' f'))) : nWi2 a b c d e f a' b' c' d' e' f' K := by
  rw [nWi2_eq]
  refine ⟨⟨h1, h2⟩, ?_⟩
  repeat (first | with_reducible refine ob_self ?_ | with_reducible refine ob_true ?_ | ((with_reducible refine nm_intro ?_); intro r hr; subst hr))
  refine kb h ?_
  unfold wiS lei
  have q := four (c' := c') (d' := d') h3
  simp only [Bool.cond_false_right, ge_iff_le]
  rw [← Bool.and_assoc (decide (c' ≤ c)), Bool.and_assoc (wiT a b a' b')] at *
  rw [q]
  simp only [Bool.and_assoc]
theorem kj {K : Value → Prop} {v m p q s t p' q' s' t' : Int} (h : K (Sc v m p q s t)) (e1 : p' = p) (e2 : q' = q) (e3 : s' = s) (e4 : t' = t) : K (Sc v m p' q' s' t') := by subst e1; subst e2; subst e3; subst e4; exact h
theorem oJo1 {a b c d e f a' b' c' d' e' f' : Int} {K : Value → Prop} (h1 : dj a b) (h2 : dj a' b') (h : K (Sc (joV a b a' b') (joM a b a' b') (mni c c') (mxi d d') (mni e e') (mxi f f'))) : nJo1 a b c d e f a' b' c' d' e' f' K := by
  rw [nJo1_eq]
  refine ⟨⟨h1, h2⟩, fun r hr s hs => ?_⟩
  subst hr; subst hs
  unfold mni mxi at h
  refine kj h ?_ ?_ ?_ ?_ <;> split <;> omega
theorem oJo2 {a b c d e f a' b' c' d' e' f' : Int} {K : Value → Prop} (h1 : dj a b) (h2 : dj a' b') (h : K (Sc (joV a b a' b') (joM a b a' b') (mni c c') (mxi d d') (mni e e') (mxi f f'))) : nJo2 a b c d e f a' b' c' d' e' f' K := by
  rw [nJo2_eq]
  refine ⟨⟨h1, h2⟩, fun r hr s hs => ?_⟩
  subst hr; subst hs
  unfold mni mxi at h
  refine br_cases (fun q1 => ?_) (fun q1 => ?_) <;> refine br_cases (fun q2 => ?_) (fun q2 => ?_) <;> refine br_cases (fun q3 => ?_) (fun q3 => ?_) <;> refine br_cases (fun q4 => ?_) (fun q4 => ?_)
  all_goals (first | have q1 := of_decide_eq_true q1 | have q1 := of_decide_eq_false q1)
  all_goals (first | have q2 := of_decide_eq_true q2 | have q2 := of_decide_eq_false q2)
  all_goals (first | have q3 := of_decide_eq_true q3 | have q3 := of_decide_eq_false q3)
  all_goals (first | have q4 := of_decide_eq_true q4 | have q4 := of_decide_eq_false q4)
  all_goals (refine kj h ?_ ?_ ?_ ?_ <;> omega)
theorem ts : TabOk Tryz.prog TS := by
  refine tab_run good (by kernel_rfl) (fun vs K h => ?_) (tab_runK good (by kernel_rfl) (fun vs K h => ?_) (tab_runK good (by kernel_rfl) (fun vs K h => ?_) (tab_runK good (by kernel_rfl) (fun vs K h => ?_) (tab_runK good (by kernel_rfl) (fun vs K h => ?_) (tab_runK good (by kernel_rfl) (fun vs K h => ?_) (tab_run good (by kernel_rfl) (fun vs K h => ?_) (tab_run good (by kernel_rfl) (fun vs K h => ?_) (tab_runK good (by kernel_rfl) (fun vs K h => ?_) (tab_runK good (by kernel_rfl) (fun vs K h => ?_) (tab_runK good (by kernel_rfl) (fun vs K h => ?_) (tab_runK good (by kernel_rfl) (fun vs K h => ?_) (tab_runK good (by kernel_rfl) (fun vs K h => ?_) (tab_runK good (by kernel_rfl) (fun vs K h => ?_) tab_nil)))))))))))))
  · unfold cTrue at h; split at h
    · have o := oknown; unfold nknown at o; exact ⟨_, h, [], EEk, false, 90, tab_nil, eek, o⟩
    · exact h.elim
  · unfold cMay at h; split at h
    · rename_i a b c d e f
      obtain ⟨⟨⟨ha, hb⟩, hc, hd⟩, h⟩ := h
      have o : nMay a b c d e f K := by
        rw [nMay_eq]
        refine h _ _ _ _ _ ⟨?_, ?_, ?_, ?_, ?_⟩
        · obtain ⟨A, rfl⟩ := exu ha
          obtain ⟨B, rfl⟩ := exu hb
          refine ⟨A &&& ~~~ B, B, ?_, rfl, dj_cl _ _⟩
          rw [b_andNot, ofInt_U, ofInt_U]
        · split <;> assumption
        · split <;> assumption
        · split <;> split <;> omega
        · split <;> split <;> omega
      unfold nMay at o; exact ⟨[], EEz, true, 90, tab_nil, eez, o⟩
    · exact h.elim
  · unfold cIs at h; split at h
    · rename_i a b c d e f
      have o : nIs1 a b c d e f K := by rw [nIs1_eq]; exact is_as (h _ rfl _ rfl)
      unfold nIs1 at o; exact ⟨[], EEz, true, 90, tab_nil, eez, o⟩
    · exact h.elim
  · unfold cIs at h; split at h
    · rename_i a b c d e f
      have o : nIs2 a b c d e f K := by rw [nIs2_eq]; exact is_as (h _ rfl _ rfl)
      unfold nIs2 at o; exact ⟨[], EEz, true, 90, tab_nil, eez, o⟩
    · exact h.elim
  · unfold cNo at h; split at h
    · rename_i a b c d e f
      obtain ⟨q, h⟩ := h
      have o := oN1 (K := K) q.dj q.uc q.ud q.ef (h _ rfl)
      unfold nN1 at o; exact ⟨TN, EEz, true, 90, tn, eez, o⟩
    · exact h.elim
  · unfold cNo at h; split at h
    · rename_i a b c d e f
      obtain ⟨q, h⟩ := h
      have o := oN2 (K := K) q.dj q.uc q.ud q.ef (h _ rfl)
      unfold nN2 at o; exact ⟨TN, EEz, true, 90, tn, eez, o⟩
    · exact h.elim
  · unfold cUp at h; split at h
    · rename_i n
      have o := oUp1 n; unfold nUp1 at o; exact ⟨_, h _ rfl _ rfl _ rfl, [], EEz, true, 90, tab_nil, eez, o⟩
    · exact h.elim
  · unfold cUp at h; split at h
    · rename_i n
      have o := oUp2 n; unfold nUp2 at o; exact ⟨_, h _ rfl _ rfl _ rfl, [], EEz, true, 90, tab_nil, eez, o⟩
    · exact h.elim
  · unfold cIn at h; split at h
    · rename_i a b c d e f v
      have o := oIn1 (K := K) h.1.1 h.1.2 (h.2 _ rfl); unfold nIn1 at o; exact ⟨TL, EEz, true, 90, tl, eez, o⟩
    · exact h.elim
  · unfold cIn at h; split at h
    · rename_i a b c d e f v
      have o := oIn2 (K := K) h.1.1 h.1.2 (h.2 _ rfl); unfold nIn2 at o; exact ⟨TL, EEz, true, 90, tl, eez, o⟩
    · exact h.elim
  · unfold cWi at h; split at h
    · have o := oWi1 (K := K) h.1.1.1 h.1.1.2 (h.2 _ rfl); unfold nWi1 at o; exact ⟨TL, EEz, true, 90, tl, eez, o⟩
    · exact h.elim
  · unfold cWi at h; split at h
    · have o := oWi2 (K := K) h.1.1.1 h.1.1.2 h.1.2 (h.2 _ rfl); unfold nWi2 at o; exact ⟨TL, EEz, true, 90, tl, eez, o⟩
    · exact h.elim
  · unfold cJo at h; split at h
    · have o := oJo1 (K := K) h.1.1 h.1.2 (h.2 _ rfl _ rfl _ rfl _ rfl _ rfl _ rfl); unfold nJo1 at o; exact ⟨TL, EEz, true, 90, tl, eez, o⟩
    · exact h.elim
  · unfold cJo at h; split at h
    · have o := oJo2 (K := K) h.1.1 h.1.2 (h.2 _ rfl _ rfl _ rfl _ rfl _ rfl _ rfl); unfold nJo2 at o; exact ⟨TL, EEz, true, 90, tl, eez, o⟩
    · exact h.elim
end Go.Proofs.YtceclodenhgoeaaGreat.Zbn
end
