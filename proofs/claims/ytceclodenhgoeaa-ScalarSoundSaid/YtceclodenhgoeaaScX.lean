/- Layer 5: ScalarWithin, the law. -/
import Derived.Test.YtceclodenhgoeaaScW
namespace Go.Proofs.Ytceclodenhgoeaa.ScX
open Go Go.RowKit Go.Proofs Go.Proofs.Ytceclodenhgoeaa.Xc Go.Proofs.Ytceclodenhgoeaa.Sc Go.Proofs.Ytceclodenhgoeaa.ScS Go.Proofs.Ytceclodenhgoeaa.ScB Go.Proofs.Ytceclodenhgoeaa.ScK Go.Proofs.Ytceclodenhgoeaa.ScW Go.Proofs.Ytceclodenhgoeaa.Bv
set_option linter.unusedVariables false
theorem sub_bit {a b : W} (h : a &&& ~~~b = 0#64) (i : Nat) : (a.getLsbD i && !b.getLsbD i) = false := by
  by_cases hi : i < 64
  · have := congrArg (fun x : W => x.getLsbD i) h
    simp only [BitVec.getLsbD_and, BitVec.getLsbD_not, BitVec.getLsbD_zero, hi, decide_true, Bool.true_and] at this
    exact this
  · rw [BitVec.getLsbD_of_ge a i (by omega)]; rfl
theorem aN_sub (v a b : Int) (h : aN a b = 0) : aN (aN v a) b = aN v b := by
  rw [show (0 : Int) = U 0#64 from rfl] at h
  simp only [aN, b_andNot, ofInt_U, U_inj] at h ⊢
  generalize BitVec.ofInt 64 a = a at *; generalize BitVec.ofInt 64 b = b at *; generalize BitVec.ofInt 64 v = v at *
  apply BitVec.eq_of_getLsbD_eq; intro i hi
  have := sub_bit h i
  simp only [BitVec.getLsbD_and, BitVec.getLsbD_not, hi, decide_true, Bool.true_and]
  generalize v.getLsbD i = p at *; generalize a.getLsbD i = q at *; generalize b.getLsbD i = r at *
  cases p <;> cases q <;> cases r <;> first | rfl | exact absurd this (by decide)
section
variable {a b c d e f a' b' c' d' e' f' v jv jm : Int}
theorem within_in (hW : WP a b c d e f v) (h : wiB a b c d e f a' b' c' d' e' f' = true) : inB a' b' c' d' e' f' v = true := by
  simp only [wiB, inB, decide_eq_true_eq] at h ⊢
  obtain ⟨h1, h2, h3, h4, h5, h6⟩ := h
  obtain ⟨w1, w2, w3, w4, w5, w6⟩ := hW
  refine ⟨?_, by omega, by omega, by omega, by omega⟩
  rw [← aN_sub v b b' h1, w1, h2]
theorem join_l (h : JP a b a' b' jv jm) : wiB a b c d e f jv jm (min c c') (max d d') (min e e') (max f f') = true := by
  simp only [wiB, decide_eq_true_eq]
  exact ⟨h.m1, h.v1, by omega, by omega, by omega, by omega⟩
theorem join_r (h : JP a b a' b' jv jm) : wiB a' b' c' d' e' f' jv jm (min c c') (max d d') (min e e') (max f f') = true := by
  simp only [wiB, decide_eq_true_eq]
  exact ⟨h.m2, h.v2, by omega, by omega, by omega, by omega⟩
theorem within_self (h : ap a b) : wiB a b c d e f a b c d e f = true := by
  simp only [wiB, decide_eq_true_eq]
  refine ⟨?_, h, by omega, by omega, by omega, by omega⟩
  simp only [aN, b_andNot]; rw [show (0 : Int) = U 0#64 from rfl]; congr 1; simp
end
/-- The numbers of so many bytes. -/
theorem upto_in (n v : Int) (h0 : 0 ≤ v) (h1 : v < 18446744073709551616) (hn : n = 1 ∨ n = 2 ∨ n = 3 ∨ n = 4 ∨ n = 5 ∨ n = 6 ∨ n = 7) : inB 0 (upm n) 0 (upm n) (upl n) (uph n) v = decide (v < 2 ^ (8 * n).toNat) := by
  have key : ∀ (M : Int) (m : Nat), m < 63 → M = ((2 ^ m - 1 : Nat) : Int) → inB 0 M 0 M 0 M v = decide (v < ((2 ^ m : Nat) : Int)) := by
    intro M m hm hM
    obtain ⟨x, hx⟩ : ∃ x : Nat, v = x := ⟨v.toNat, by omega⟩
    have h2 : 2 ^ m ≤ 2 ^ 62 := Nat.pow_le_pow_right (by decide) (by omega)
    have h3 : 0 < 2 ^ m := Nat.pow_pos (by decide)
    have ha : aN v M = 0 ↔ v < ((2 ^ m : Nat) : Int) := by
      rw [show (0 : Int) = U 0#64 from rfl, aN, b_andNot, U_inj, hx, hM, oi_nat, oi_nat]
      have hxx : x < 2 ^ 64 := by omega
      have e1 : (BitVec.ofNat 64 x &&& ~~~ BitVec.ofNat 64 (2 ^ m - 1) = 0#64) ↔ (BitVec.ofNat 64 x &&& BitVec.ofNat 64 (2 ^ m - 1) = BitVec.ofNat 64 x) := by
        constructor
        · intro h
          apply BitVec.eq_of_getLsbD_eq; intro i hi
          have := sub_bit h i
          rw [BitVec.getLsbD_and]
          generalize (BitVec.ofNat 64 x).getLsbD i = p at *; generalize (BitVec.ofNat 64 (2 ^ m - 1)).getLsbD i = q at *
          cases p <;> cases q <;> first | rfl | exact absurd this (by decide)
        · intro h
          rw [← h]
          generalize BitVec.ofNat 64 x = p; generalize BitVec.ofNat 64 (2 ^ m - 1) = q
          apply BitVec.eq_of_getLsbD_eq; intro i hi
          simp only [BitVec.getLsbD_and, BitVec.getLsbD_not, BitVec.getLsbD_zero, hi, decide_true, Bool.true_and]
          cases p.getLsbD i <;> cases q.getLsbD i <;> rfl
      rw [e1, ← BitVec.toNat_inj, BitVec.toNat_and, BitVec.toNat_ofNat, BitVec.toNat_ofNat, Nat.mod_eq_of_lt hxx, Nat.mod_eq_of_lt (show 2 ^ m - 1 < 2 ^ 64 by omega), Nat.and_two_pow_sub_one_eq_mod]
      constructor
      · intro h; have := Nat.mod_lt x h3; omega
      · intro h; exact Nat.mod_eq_of_lt (by omega)
    rw [inB, decide_eq_decide, ha]
    constructor
    · rintro ⟨h, _⟩; exact h
    · intro h
      have hw : IntKind.i64.wrap v = v := by
        rw [wrap_i64', S_ofInt]; unfold wrap64; omega
      exact ⟨h, by omega, by omega, by rw [hw]; omega, by rw [hw]; omega⟩
  rcases hn with rfl | rfl | rfl | rfl | rfl | rfl | rfl
  · exact key _ 8 (by decide) rfl
  · exact key _ 16 (by decide) rfl
  · exact key _ 24 (by decide) rfl
  · exact key _ 32 (by decide) rfl
  · exact key _ 40 (by decide) rfl
  · exact key _ 48 (by decide) rfl
  · exact key _ 56 (by decide) rfl
theorem pw (k : Int) (hk : k = 1 ∨ k = 2 ∨ k = 3 ∨ k = 4 ∨ k = 5 ∨ k = 6 ∨ k = 7) : 0 ≤ IntKind.u64.wrap (IntKind.i64.wrap (8 * k)) ∧ IntKind.u64.wrap (1 * 2 ^ min (Int.toNat (IntKind.u64.wrap (IntKind.i64.wrap (8 * k)))) IntKind.u64.bits) = 2 ^ (8 * k).toNat := by
  rcases hk with rfl | rfl | rfl | rfl | rfl | rfl | rfl <;> exact ⟨by decide +kernel, by decide +kernel⟩
theorem all_in (v : Int) (h0 : 0 ≤ v) (h1 : v < 18446744073709551616) : inB 0 18446744073709551615 0 18446744073709551615 (-9223372036854775808) 9223372036854775807 v = true := by
  simp only [inB, decide_eq_true_eq]
  refine ⟨?_, by omega, by omega, ?_, ?_⟩
  · simp only [aN, b_andNot]; rw [show (0 : Int) = U 0#64 from rfl]; congr 1
    rw [show BitVec.ofInt 64 18446744073709551615 = ~~~(0#64) by decide]; simp
  · rw [wrap_i64']; exact S_ge _
  · rw [wrap_i64']; have := S_lt (BitVec.ofInt 64 v); omega
theorem oLaw (a b c d e f a' b' c' d' e' f' v n : Int) (h0 : 0 ≤ v) (h1 : v < 18446744073709551616) : nLaw a b c d e f a' b' c' d' e' f' v n (· = .bool true) := by
  rw [nLaw_eq]
  refine fun a1 b1 c1 d1 e1 f1 hW a2 c2 d2 e2 f2 hM => ⟨⟨hW.m, hM.m⟩, fun jv jm hJ => ?_⟩
  (repeat (first | refine ob_self ?_ | refine ob_true ?_ | (refine nm_intro ?_; intro _ _)))
  refine br_no ?_ ?_
  · have F1 := fun h => within_in (a' := a2) (b' := b') (c' := c2) (d' := d2) (e' := e2) (f' := f2) hW h
    have F2 := join_l (c := c1) (d := d1) (e := e1) (f := f1) (c' := c2) (d' := d2) (e' := e2) (f' := f2) hJ
    have F3 := join_r (c := c1) (d := d1) (e := e1) (f := f1) (c' := c2) (d' := d2) (e' := e2) (f' := f2) hJ
    have F4 := within_in hW F2
    have F5 := within_self (c := c1) (d := d1) (e := e1) (f := f1) hW.m
    subst_vars
    rw [F2, F3, F4, F5]
    cases hq : wiB a1 b1 c1 d1 e1 f1 a2 b' c2 d2 e2 f2 with
    | false => rfl
    | true => rw [F1 hq]; rfl
  · obtain ⟨k, hk, hk7⟩ : ∃ k, (if (if 7 < n then 7 else n) > 1 then (if 7 < n then 7 else n) else 1) = k ∧ (k = 1 ∨ k = 2 ∨ k = 3 ∨ k = 4 ∨ k = 5 ∨ k = 6 ∨ k = 7) := ⟨_, rfl, by repeat' split <;> omega⟩
    rw [hk]
    obtain ⟨p1, p2⟩ := pw k hk7
    (repeat (first | refine ob_self ?_ | refine ob_true ?_ | (refine nm_intro ?_; intro _ _)))
    refine ob_mk (fun _ => decide_eq_true p1) ?_
    (repeat (first | refine ob_self ?_ | refine ob_true ?_ | (refine nm_intro ?_; intro _ _)))
    subst_vars
    rw [p2, upto_in _ v h0 h1 hk7, all_in v h0 h1]
    simp
theorem tl : TabOk Try.prog TL := by
  refine tab_run good (by kernel_rfl) (fun vs K h => ?_) (tab_run good (by kernel_rfl) (fun vs K h => ?_) (tab_run good (by kernel_rfl) (fun vs K h => ?_) (tab_run good (by kernel_rfl) (fun vs K h => ?_) (tab_run good (by kernel_rfl) (fun vs K h => ?_) (tab_run good (by kernel_rfl) (fun vs K h => ?_) (tab_run good (by kernel_rfl) (fun vs K h => ?_) tab_nil))))))
  all_goals split at h
  all_goals try exact h.elim
  · have o := oknown; unfold nknown at o; exact ⟨_, h, [], EE, false, 90, tab_nil, ee, o⟩
  · rename_i a b c d e f v
    obtain ⟨a', b', c', d', e', f', hP, o⟩ := owith a b c d e f v
    unfold nwith at o; exact ⟨_, h a' b' c' d' e' f' hP, [], EE, true, 90, tab_nil, ee, o⟩
  · rename_i a b c d e f
    obtain ⟨a', c', d', e', f', hP, o⟩ := oMay a b c d e f
    unfold nMay at o; exact ⟨_, h a' c' d' e' f' hP, [], EE, true, 90, tab_nil, ee, o⟩
  · rename_i a b c d e f v
    have o := oIn a b c d e f v; unfold nIn at o; exact ⟨_, h _ rfl, [], EE, true, 90, tab_nil, ee, o⟩
  · rename_i a b c d e f a' b' c' d' e' f'
    have o := oWithin a b c d e f a' b' c' d' e' f'; unfold nWithin at o; exact ⟨_, h _ rfl, [], EE, true, 90, tab_nil, ee, o⟩
  · rename_i a b c d e f a' b' c' d' e' f'
    obtain ⟨⟨h1, h2⟩, h⟩ := h
    obtain ⟨v, m, hJ, o⟩ := oJoin a b c d e f a' b' c' d' e' f' h1 h2
    unfold nJoin at o; exact ⟨_, h v m hJ _ rfl _ rfl _ rfl _ rfl, [], EE, true, 90, tab_nil, ee, o⟩
  · rename_i n
    have o := oUpto n; unfold nUpto at o; exact ⟨_, h _ rfl _ rfl _ rfl, [], EE, true, 90, tab_nil, ee, o⟩
end Go.Proofs.Ytceclodenhgoeaa.ScX
