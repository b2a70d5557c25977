/- Layer 5: ScalarWithin, the law. -/
import Derived.Test.YtaplgollkkpnaaaQScW
namespace Go.Proofs.Ytaplgollkkpnaaa.ScX
open Go Go.RowKit Go.Proofs Go.Proofs.Ytaplgollkkpnaaa.Xc Go.Proofs.Ytaplgollkkpnaaa.Sc Go.Proofs.Ytaplgollkkpnaaa.ScS Go.Proofs.Ytaplgollkkpnaaa.ScB Go.Proofs.Ytaplgollkkpnaaa.ScK Go.Proofs.Ytaplgollkkpnaaa.ScW Go.Proofs.Ytaplgollkkpnaaa.Bv
set_option linter.unusedVariables false
theorem sub_bit {a b : W} (h : a &&& ~~~b = 0#64) (i : Nat) : (a.getLsbD i && !b.getLsbD i) = false := by
  by_cases hi : i < 64
  · have := congrArg (fun x : W => x.getLsbD i) h
    simp only [BitVec.getLsbD_and, BitVec.getLsbD_not, BitVec.getLsbD_zero, hi, decide_true, Bool.true_and] at this
    exact this
  · rw [BitVec.getLsbD_of_ge a i (by omega)]; rfl
theorem aN_sub (v a b : Int) (h : aN a b = 0) : aN (aN v a) b = aN v b := by
  rw [show (0 : Int) = U 0#64 from rfl] at h
  simp only [aN, b_andNot, ofInt_U, U_inj] at h ⊢
  generalize BitVec.ofInt 64 a = a at *; generalize BitVec.ofInt 64 b = b at *; generalize BitVec.ofInt 64 v = v at *
  apply BitVec.eq_of_getLsbD_eq; intro i hi
  have := sub_bit h i
  simp only [BitVec.getLsbD_and, BitVec.getLsbD_not, hi, decide_true, Bool.true_and]
  generalize v.getLsbD i = p at *; generalize a.getLsbD i = q at *; generalize b.getLsbD i = r at *
  cases p <;> cases q <;> cases r <;> first | rfl | exact absurd this (by decide)
section
variable {a b c d e f a' b' c' d' e' f' v jv jm : Int}
theorem within_in (hW : WP a b c d e f v) (h : wiB a b c d e f a' b' c' d' e' f' = true) : inB a' b' c' d' e' f' v = true := by
  simp only [wiB, inB, decide_eq_true_eq] at h ⊢
  obtain ⟨h1, h2, h3, h4, h5, h6⟩ := h
  obtain ⟨w1, w2, w3, w4, w5, w6⟩ := hW
  refine ⟨?_, by omega, by omega, by omega, by omega⟩
  rw [← aN_sub v b b' h1, w1, h2]
theorem join_l (h : JP a b a' b' jv jm) : wiB a b c d e f jv jm (min c c') (max d d') (min e e') (max f f') = true := by
  simp only [wiB, decide_eq_true_eq]
  exact ⟨h.m1, h.v1, by omega, by omega, by omega, by omega⟩
theorem join_r (h : JP a b a' b' jv jm) : wiB a' b' c' d' e' f' jv jm (min c c') (max d d') (min e e') (max f f') = true := by
  simp only [wiB, decide_eq_true_eq]
  exact ⟨h.m2, h.v2, by omega, by omega, by omega, by omega⟩
theorem within_self (h : ap a b) : wiB a b c d e f a b c d e f = true := by
  simp only [wiB, decide_eq_true_eq]
  refine ⟨?_, h, by omega, by omega, by omega, by omega⟩
  simp only [aN, b_andNot]; rw [show (0 : Int) = U 0#64 from rfl]; congr 1; simp
end
/-- The numbers of so many bytes. -/
theorem upto_in (n v : Int) (h0 : 0 ≤ v) (h1 : v < 18446744073709551616) (hn : n = 1 ∨ n = 2 ∨ n = 3 ∨ n = 4 ∨ n = 5 ∨ n = 6 ∨ n = 7) : inB 0 (upm n) 0 (upm n) (upl n) (uph n) v = decide (v < 2 ^ (8 * n).toNat) := by
  have key : ∀ (M : Int) (m : Nat), m < 63 → M = ((2 ^ m - 1 : Nat) : Int) → inB 0 M 0 M 0 M v = decide (v < ((2 ^ m : Nat) : Int)) := by
    intro M m hm hM
    obtain ⟨x, hx⟩ : ∃ x : Nat, v = x := ⟨v.toNat, by omega⟩
    have h2 : 2 ^ m ≤ 2 ^ 62 := Nat.pow_le_pow_right (by decide) (by omega)
    have h3 : 0 < 2 ^ m := Nat.pow_pos (by decide)
    have ha : aN v M = 0 ↔ v < ((2 ^ m : Nat) : Int) := by
      rw [show (0 : Int) = U 0#64 from rfl, aN, b_andNot, U_inj, hx, hM, oi_nat, oi_nat]
      have hxx : x < 2 ^ 64 := by omega
      have e1 : (BitVec.ofNat 64 x &&& ~~~ BitVec.ofNat 64 (2 ^ m - 1) = 0#64) ↔ (BitVec.ofNat 64 x &&& BitVec.ofNat 64 (2 ^ m - 1) = BitVec.ofNat 64 x) := by
        constructor
        · intro h
          apply BitVec.eq_of_getLsbD_eq; intro i hi
          have := sub_bit h i
          rw [BitVec.getLsbD_and]
          generalize (BitVec.ofNat 64 x).getLsbD i = p at *; generalize (BitVec.ofNat 64 (2 ^ m - 1)).getLsbD i = q at *
          cases p <;> cases q <;> first | rfl | exact absurd this (by decide)
        · intro h
          rw [← h]
          generalize BitVec.ofNat 64 x = p; generalize BitVec.ofNat 64 (2 ^ m - 1) = q
          apply BitVec.eq_of_getLsbD_eq; intro i hi
          simp only [BitVec.getLsbD_and, BitVec.getLsbD_not, BitVec.getLsbD_zero, hi, decide_true, Bool.true_and]
          cases p.getLsbD i <;> cases q.getLsbD i <;> rfl
      rw [e1, ← BitVec.toNat_inj, BitVec.toNat_and, BitVec.toNat_ofNat, BitVec.toNat_ofNat, Nat.mod_eq_of_lt hxx, Nat.mod_eq_of_lt (show 2 ^ m - 1 < 2 ^ 64 by omega), Nat.and_two_pow_sub_one_eq_mod]
      constructor
      · intro h; have := Nat.mod_lt x h3; omega
      · intro h; exact Nat.mod_eq_of_lt (by omega)
    rw [inB, decide_eq_decide, ha]
    constructor
    · rintro ⟨h, _⟩; exact h
    · intro h
      have hw : IntKind.i64.wrap v = v := by
        rw [wrap_i64', S_ofInt]; unfold wrap64; omega
      exact ⟨h, by omega, by omega, by rw [hw]; omega, by rw [hw]; omega⟩
  rcases hn with rfl | rfl | rfl | rfl | rfl | rfl | rfl
  · exact key _ 8 (by decide) rfl
  · exact key _ 16 (by decide) rfl
  · exact key _ 24 (by decide) rfl
  · exact key _ 32 (by decide) rfl
  · exact key _ 40 (by decide) rfl
  · exact key _ 48 (by decide) rfl
  · exact key _ 56 (by decide) rfl
theorem pw (k : Int) (hk : k = 1 ∨ k = 2 ∨ k = 3 ∨ k = 4 ∨ k = 5 ∨ k = 6 ∨ k = 7) : 0 ≤ IntKind.u64.wrap (IntKind.i64.wrap (8 * k)) ∧ IntKind.u64.wrap (1 * 2 ^ min (Int.toNat (IntKind.u64.wrap (IntKind.i64.wrap (8 * k)))) IntKind.u64.bits) = 2 ^ (8 * k).toNat := by
  rcases hk with rfl | rfl | rfl | rfl | rfl | rfl | rfl <;> exact ⟨by decide +kernel, by decide +kernel⟩
theorem all_in (v : Int) (h0 : 0 ≤ v) (h1 : v < 18446744073709551616) : inB 0 18446744073709551615 0 18446744073709551615 (-9223372036854775808) 9223372036854775807 v = true := by
  simp only [inB, decide_eq_true_eq]
  refine ⟨?_, by omega, by omega, ?_, ?_⟩
  · simp only [aN, b_andNot]; rw [show (0 : Int) = U 0#64 from rfl]; congr 1
    rw [show BitVec.ofInt 64 18446744073709551615 = ~~~(0#64) by decide]; simp
  · rw [wrap_i64']; exact S_ge _
  · rw [wrap_i64']; have := S_lt (BitVec.ofInt 64 v); omega
end Go.Proofs.Ytaplgollkkpnaaa.ScX
