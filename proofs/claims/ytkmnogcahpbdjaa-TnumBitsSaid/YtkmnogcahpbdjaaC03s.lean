/- The contracts of layer 3's reference: Join, Meet, shifts with a sign, cuts. -/
import Derived.Test.YtkmnogcahpbdjaaC03r
set_option linter.unusedVariables false
set_option linter.unusedSimpArgs false
set_option linter.unusedSectionVars false
namespace Go.Proofs.Ytkmnogcahpbdjaa.C03
open Go.RowKit Go.Proofs.YtkmnogcahpbdjaaW.PrintWords Go.Proofs.YtkmnogcahpbdjaaW.PrintLast Go.Proofs.YtkmnogcahpbdjaaW.PrintMore Go.Proofs.Ytkmnogcahpbdjaa.PA Go.Proofs.Ytkmnogcahpbdjaa.Bv Go.Proofs.Ytkmnogcahpbdjaa.Tn
theorem shl_bitat (v : W) (i : Nat) : shl .u64 (Int.tmod (shr .u64 (U v) (i : Int)) 2) (i : Int) = U (b1 (v.getLsbD i) <<< i) := by rw [bit_at, shl_bit]
theorem sh_bit (i : Nat) : shl .u64 1 (i : Int) = U (b1 true <<< i) := shl_bit true i
/-! Join -/
def jV (va ma vb mb : W) (i : Nat) : Bool := !(ma.getLsbD i || mb.getLsbD i || (va.getLsbD i ^^ vb.getLsbD i)) && va.getLsbD i
def jM (va ma vb mb : W) (i : Nat) : Bool := ma.getLsbD i || mb.getLsbD i || (va.getLsbD i ^^ vb.getLsbD i)
theorem acc_more {b : Nat → Bool} {i : Nat} (h : b i = true) : acc b i ||| b1 true <<< i = acc b (i + 1) := by rw [acc, h]
theorem acc_same {b : Nat → Bool} {i : Nat} (h : b i = false) : acc b i = acc b (i + 1) := by
  rw [acc, h]; simp [b1]
theorem rjoin_l (d : Nat) : ∀ (k i : Nat) (va ma vb mb : W), i + d = 64 → d < k →
    lockgateref03_Join.l0 k (i : Int) (U va) (U ma) (U vb) (U mb) (U (acc (jV va ma vb mb) i)) (U (acc (jM va ma vb mb) i)) = some (U (acc (jV va ma vb mb) 64), U (acc (jM va ma vb mb) 64)) := by
  induction d with
  | zero =>
    intro k i va ma vb mb hi hk
    obtain ⟨k, rfl⟩ : ∃ m, k = m + 1 := ⟨k - 1, by omega⟩
    obtain rfl : i = 64 := by omega
    rw [lockgateref03_Join.l0, if_neg (by omega)]
  | succ d ih =>
    intro k i va ma vb mb hi hk
    obtain ⟨k, rfl⟩ : ∃ m, k = m + 1 := ⟨k - 1, by omega⟩
    rw [lockgateref03_Join.l0, if_pos (by omega), if_pos (by omega), u_succ i (by omega)]
    have hh := ih k (i + 1) va ma vb mb (by omega) (by omega)
    simp only [bit_eq1, bit_eq, b_or, ofInt_U, sh_bit i, shl_bitat]
    by_cases h1 : ma.getLsbD i = true
    · rw [if_pos h1, acc_more (by simp [jM, h1]), acc_same (b := jV va ma vb mb) (by simp [jV, h1])]; exact hh
    · rw [if_neg h1]
      by_cases h2 : mb.getLsbD i = true
      · rw [if_pos h2, acc_more (by simp [jM, h2]), acc_same (b := jV va ma vb mb) (by simp [jV, h2])]; exact hh
      · rw [if_neg h2]
        simp only [Bool.not_eq_true] at h1 h2
        by_cases h3 : va.getLsbD i = vb.getLsbD i
        · rw [if_pos h3, acc_same (b := jM va ma vb mb) (by simp [jM, h1, h2, h3])]
          rw [show acc (jV va ma vb mb) i ||| b1 (va.getLsbD i) <<< i = acc (jV va ma vb mb) (i + 1) by rw [acc, jV, h1, h2, h3]; simp]
          exact hh
        · rw [if_neg h3, acc_more (by simp [jM, h3]), acc_same (b := jV va ma vb mb) (by simp [jV, h3])]; exact hh
theorem rjoin_f (k : Nat) (hk : 65 ≤ k) (va ma vb mb : W) : lockgateref03_Join.f k (U va) (U ma) (U vb) (U mb) = some (U (va &&& ~~~(ma ||| mb ||| (va ^^^ vb))), U (ma ||| mb ||| (va ^^^ vb))) := by
  rw [lockgateref03_Join.f]
  have := rjoin_l 64 k 0 va ma vb mb rfl (by omega)
  have z : ∀ b, U (acc b 0) = 0 := fun _ => rfl
  rw [z, z] at this
  rw [show (0 : Int) = ((0 : Nat) : Int) from rfl] at this ⊢
  rw [this]
  have e1 : acc (jV va ma vb mb) 64 = va &&& ~~~(ma ||| mb ||| (va ^^^ vb)) := by
    apply acc_eq (by omega)
    · intro i hi
      simp only [jV, BitVec.getLsbD_and, BitVec.getLsbD_not, BitVec.getLsbD_or, BitVec.getLsbD_xor, hi]
      cases va.getLsbD i <;> simp
    · intro i h1 h2; omega
  have e2 : acc (jM va ma vb mb) 64 = ma ||| mb ||| (va ^^^ vb) := by
    apply acc_eq (by omega)
    · intro i hi; simp only [jM, BitVec.getLsbD_or, BitVec.getLsbD_xor]
    · intro i h1 h2; omega
  rw [e1, e2]
/-! Meet -/
def mV (va vb : W) (i : Nat) : Bool := va.getLsbD i || vb.getLsbD i
def mM (ma mb : W) (i : Nat) : Bool := ma.getLsbD i && mb.getLsbD i
/-- a bit that both know differs. -/
def clash (va ma vb mb : W) (i : Nat) : Prop := ma.getLsbD i = false ∧ mb.getLsbD i = false ∧ va.getLsbD i ≠ vb.getLsbD i
open Classical in
theorem rmeet_l (d : Nat) : ∀ (k i : Nat) (va ma vb mb : W), i + d = 64 → 2 * d < k →
    lockgateref03_Meet.l0 k (i : Int) (U va) (U ma) (U vb) (U mb) (U (acc (mV va vb) i)) (U (acc (mM ma mb) i)) = if ∀ j, i ≤ j → j < 64 → ¬ clash va ma vb mb j then some (U (acc (mV va vb) 64), U (acc (mM ma mb) 64), true) else some (0, 0, false) := by
  induction d with
  | zero =>
    intro k i va ma vb mb hi hk
    obtain ⟨k, rfl⟩ : ∃ m, k = m + 1 := ⟨k - 1, by omega⟩
    obtain rfl : i = 64 := by omega
    rw [lockgateref03_Meet.l0, if_neg (by omega), if_pos (fun j h1 h2 => by omega)]
  | succ d ih =>
    intro k i va ma vb mb hi hk
    obtain ⟨k, rfl⟩ : ∃ m, k = m + 1 := ⟨k - 1, by omega⟩
    obtain ⟨k, rfl⟩ : ∃ m, k = m + 1 := ⟨k - 1, by omega⟩
    have hh := ih k (i + 1) va ma vb mb (by omega) (by omega)
    have step : ∀ c : Bool, c = decide (clash va ma vb mb i) → lockgateref03_Meet.j1 (k + 1) (i : Int) (!ma.getLsbD i) (!mb.getLsbD i) c (U va) (U ma) (U vb) (U mb) (U (acc (mV va vb) i)) (U (acc (mM ma mb) i)) = if ∀ j, i ≤ j → j < 64 → ¬ clash va ma vb mb j then some (U (acc (mV va vb) 64), U (acc (mM ma mb) 64), true) else some (0, 0, false) := by
      intro c hc
      rw [lockgateref03_Meet.j1]
      by_cases h : clash va ma vb mb i
      · rw [if_pos (by rw [hc]; simpa using h), if_neg (fun q => q i (by omega) (by omega) h)]
      · rw [if_neg (by rw [hc]; simpa using h)]
        have e : (∀ j, i ≤ j → j < 64 → ¬ clash va ma vb mb j) ↔ (∀ j, i + 1 ≤ j → j < 64 → ¬ clash va ma vb mb j) := by
          constructor
          · intro q j a b; exact q j (by omega) b
          · intro q j a b
            by_cases e : j = i
            · subst e; exact h
            · exact q j (by omega) b
        have hv : acc (mV va vb) i ||| b1 (va.getLsbD i || vb.getLsbD i) <<< i = acc (mV va vb) (i + 1) := by rw [acc, mV]
        simp only [e, b_or, ofInt_U, shl_bitat, BitVec.getLsbD_or, hv, sh_bit, u_succ i (show i < 64 by omega)]
        rw [← hh]
        have h0 : (0 : Int) ≤ (i : Int) := by omega
        cases h1 : ma.getLsbD i
        · simp only [Bool.not_false, if_true, if_pos h0]; rw [acc_same (b := mM ma mb) (by simp [mM, h1])]
        · cases h2 : mb.getLsbD i
          · simp only [Bool.not_false, Bool.not_true, if_true, if_pos h0, Bool.false_eq_true, if_false]; rw [acc_same (b := mM ma mb) (by simp [mM, h2])]
          · simp only [Bool.not_true, if_pos h0, Bool.false_eq_true, if_false]; rw [acc_more (b := mM ma mb) (by simp [mM, h1, h2])]
    rw [lockgateref03_Meet.l0, if_pos (by omega), if_pos (by omega)]
    have b0 : ∀ x : W, (Int.tmod (shr .u64 (U x) (i : Int)) 2 == 0) = !x.getLsbD i := fun x => by
      rw [bit_at, U_b1]; cases x.getLsbD i <;> rfl
    have bn : (Int.tmod (shr .u64 (U va) (i : Int)) 2 != Int.tmod (shr .u64 (U vb) (i : Int)) 2) = (va.getLsbD i != vb.getLsbD i) := by
      rw [bit_at, bit_at, U_b1, U_b1]; cases va.getLsbD i <;> cases vb.getLsbD i <;> rfl
    simp only [b0, bn, bit_eq0]
    by_cases h1 : ma.getLsbD i = false
    · rw [if_pos h1]
      by_cases h2 : mb.getLsbD i = false
      · rw [if_pos h2, step]
        rw [Bool.eq_iff_iff]; simp [clash, h1, h2]
      · rw [if_neg h2, step]; symm; simp [clash, h2]
    · rw [if_neg h1, step]; symm; simp [clash, h1]
theorem rmeet_f (k : Nat) (hk : 129 ≤ k) (va ma vb mb : W) (ha : va &&& ma = 0) (hb : vb &&& mb = 0) : lockgateref03_Meet.f k (U va) (U ma) (U vb) (U mb) = if (va ^^^ vb) &&& ~~~(ma ||| mb) = 0 then some (U ((va ||| vb) &&& ~~~(ma &&& mb)), U (ma &&& mb), true) else some (U 0, U 0, false) := by
  rw [lockgateref03_Meet.f]
  have h := rmeet_l 64 k 0 va ma vb mb rfl (by omega)
  have z : ∀ b, U (acc b 0) = 0 := fun _ => rfl
  rw [z, z] at h
  rw [show (0 : Int) = ((0 : Nat) : Int) from rfl] at h ⊢
  rw [h]
  have e1 : acc (mV va vb) 64 = va ||| vb := by
    apply acc_eq (by omega)
    · intro i hi; simp only [mV, BitVec.getLsbD_or]
    · intro i h1 h2; omega
  have e2 : acc (mM ma mb) 64 = ma &&& mb := by
    apply acc_eq (by omega)
    · intro i hi; simp only [mM, BitVec.getLsbD_and]
    · intro i h1 h2; omega
  have e3 : (va ||| vb) &&& ~~~(ma &&& mb) = va ||| vb := by
    apply BitVec.eq_of_getLsbD_eq
    intro i hi
    have h1 := and_bit ha i
    have h2 := and_bit hb i
    simp only [BitVec.getLsbD_and, BitVec.getLsbD_not, BitVec.getLsbD_or, hi]
    revert h1 h2
    cases va.getLsbD i <;> cases vb.getLsbD i <;> cases ma.getLsbD i <;> cases mb.getLsbD i <;> simp
  have e4 : (∀ j, 0 ≤ j → j < 64 → ¬ clash va ma vb mb j) ↔ (va ^^^ vb) &&& ~~~(ma ||| mb) = 0 := by
    constructor
    · intro q
      apply and_zero_of
      intro i hi
      have := q i (by omega) hi
      simp only [BitVec.getLsbD_not, BitVec.getLsbD_or, BitVec.getLsbD_xor, hi]
      unfold clash at this
      revert this
      cases va.getLsbD i <;> cases vb.getLsbD i <;> cases ma.getLsbD i <;> cases mb.getLsbD i <;> simp
    · intro q j _ hj
      have := and_bit q j
      simp only [BitVec.getLsbD_not, BitVec.getLsbD_or, BitVec.getLsbD_xor, hj] at this
      unfold clash
      revert this
      cases va.getLsbD j <;> cases vb.getLsbD j <;> cases ma.getLsbD j <;> cases mb.getLsbD j <;> simp
  rw [e1, e2, e3]
  simp only [e4]
  split
  · rfl
  · rfl
/-! Arsh, Cut -/
theorem rdown_l (w : Nat) (hw : w = 64 ∨ w = 32) (d : Nat) : ∀ (k i n : Nat) (v : W), n < w → i + d = w → d < k →
    lockgateref03_down.l0 k (U v) (n : Int) (w : Int) (U (acc (fun j => v.getLsbD (min (j + n) (w - 1))) i)) (i : Int) = some (U (acc (fun j => v.getLsbD (min (j + n) (w - 1))) w)) := by
  induction d with
  | zero =>
    intro k i n v hn hi hk
    obtain ⟨k, rfl⟩ : ∃ m, k = m + 1 := ⟨k - 1, by omega⟩
    obtain rfl : i = w := by omega
    rw [lockgateref03_down.l0, if_neg (by omega)]
  | succ d ih =>
    intro k i n v hn hi hk
    obtain ⟨k, rfl⟩ : ∃ m, k = m + 1 := ⟨k - 1, by omega⟩
    have hm : mn (IntKind.u64.wrap ((i : Int) + n)) (IntKind.u64.wrap ((w : Int) - 1)) = ((min (i + n) (w - 1) : Nat) : Int) := by
      simp only [wrap_u64, U_ofInt, mn]
      split <;> omega
    rw [lockgateref03_down.l0, if_pos (by omega), hm, if_pos (by omega), if_pos (by omega), u_succ i (by omega)]
    have hh := ih k (i + 1) n v hn (by omega) (by omega)
    rw [← hh]
    congr 1
    rw [bit_at, shl_bit, b_or, ofInt_U, ofInt_U, acc]
theorem rdown_f (w : Nat) (hw : w = 64 ∨ w = 32) (k n : Nat) (hk : 65 ≤ k) (hn : n < w) (v : W) : lockgateref03_down.f k (U v) (n : Int) (w : Int) = some (U (acc (fun j => v.getLsbD (min (j + n) (w - 1))) w)) := by
  rw [lockgateref03_down.f]
  exact rdown_l w hw w k 0 n v hn (by omega) (by omega)
theorem acc_sshr (v : W) (n : Nat) (hn : n < 64) : acc (fun j => v.getLsbD (min (j + n) (64 - 1))) 64 = v.sshiftRight n := by
  apply acc_eq (by omega)
  · intro i hi
    rw [BitVec.getLsbD_sshiftRight]
    simp only [hi, show ¬ 64 ≤ i by omega, decide_false, Bool.not_false, Bool.true_and]
    by_cases h : n + i < 64
    · rw [if_pos h, Nat.min_eq_left (by omega), Nat.add_comm]
    · rw [if_neg h, Nat.min_eq_right (by omega), BitVec.msb_eq_getLsbD_last]
  · intro i h1 h2; omega
end Go.Proofs.Ytkmnogcahpbdjaa.C03
