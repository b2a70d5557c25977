/- Layer 5, against the reference: the loop of ref04.ToT. -/
import Derived.Test.YtceclodenhgoeaaGreatZr
import Derived.Test.YtceclodenhgoeaaGreatZx
namespace Go.Proofs.YtceclodenhgoeaaGreat.Zy
open Go Go.RowKit Go.Proofs Go.Proofs.YtceclodenhgoeaaGreat.Xc Go.Proofs.YtceclodenhgoeaaGreat.Zs Go.Proofs.YtceclodenhgoeaaGreat.Zr Go.Proofs.YtceclodenhgoeaaGreat.Zu Go.Proofs.YtceclodenhgoeaaGreat.Zv Go.Proofs.YtceclodenhgoeaaGreat.Bv
set_option linter.unusedVariables false
set_option linter.unusedSimpArgs false
/-- The least number of bits above which both are the same. -/
structure KP (c d : Int) (k : Nat) : Prop where
  le : k ≤ 64
  eq : c / 2 ^ k = d / 2 ^ k
  ne : ∀ i, i < k → c / 2 ^ i ≠ d / 2 ^ i
theorem tal : TabOk Tryz.prog TAl := by
  refine tab_runK good (by kernel_rfl) (fun vs K h => ?_) tab_nil
  split at h
  · have o : nUAll K := by rw [nUAll_eq]; exact h
    unfold nUAll at o; exact ⟨[], EEz, true, 90, tab_nil, eez, o⟩
  · exact h.elim
theorem loopT (x0 : Value) (c d : Int) (hc : u6 c) (hd : u6 d) : ∃ e s', (∃ k, KP c d k ∧ e = .exit 0 ∧ s' = ST x0 c d (2 ^ k - 1)) ∧ LW Tryz.prog bodyT (ST x0 c d 0) e s' := by
  have key := loop_ix (P := Tryz.prog) (c := bodyT) (fun j : Nat => ST x0 c d (2 ^ j - 1)) (fun j => j ≤ 64 ∧ ∀ i, i < j → c / 2 ^ i ≠ d / 2 ^ i) (fun j => 64 - j) (fun j e s' => ∃ k, KP c d k ∧ e = .exit 0 ∧ s' = ST x0 c d (2 ^ k - 1)) ?_ 0 ⟨by omega, fun i h => by omega⟩
  · exact key
  · intro j ⟨hj, hne⟩
    refine rndL_sound (gm := true) (Lt := []) (f := 90) (ks := [0, 1, 2, 3]) (n := 2) good tal eez lok_nil (by kernel_rfl) ?_
    have hp : (0 : Int) < 2 ^ j := Int.pow_pos (by decide)
    have hn : ∀ z, u6 z → 0 ≤ z % 2 ^ j ∧ z % 2 ^ j ≤ z := fun z hz => ⟨Int.emod_nonneg _ (by omega), by
      have e := Int.mul_ediv_add_emod z (2 ^ j)
      have := Int.mul_nonneg (Int.le_of_lt hp) (Int.ediv_nonneg hz.1 (Int.le_of_lt hp))
      omega⟩
    have fin : ∀ Q, nRt x0 c d (2 ^ j - 1) Q → rndL Tryz.prog TAl EEz true [] 90 [0, 1, 2, 3] 2 bodyT (ST x0 c d (2 ^ j - 1)) Q := fun Q h => by unfold nRt at h; exact h
    refine fin _ ?_
    rw [nRt_eq]
    have small : j < 64 → (2 : Int) ^ j ≤ 9223372036854775808 := fun h => by
      have a : (2 : Int) ^ j = ((2 ^ j : Nat) : Int) := by simp
      have b : 2 ^ j ≤ 2 ^ 63 := Nat.pow_le_pow_right (by decide) (by omega)
      rw [a]; omega
    have big : ¬ j < 64 → (2 : Int) ^ j = 18446744073709551616 := fun h => by
      obtain rfl : j = 64 := by omega
      decide
    have lt : (2 : Int) ^ j - 1 < 18446744073709551615 → j < 64 := fun h => Classical.byContradiction fun h2 => by have := big h2; omega
    have wn : j < 64 → IntKind.wrap .u64 (2 ^ j - 1 + 1) = 2 ^ j := fun h => by rw [uW]; have := small h; omega
    have hz : decide ((2 : Int) ^ j - 1 < 18446744073709551615) = true → (IntKind.wrap .u64 (2 ^ j - 1 + 1) != 0) = true := fun h => by
      rw [wn (lt (of_decide_eq_true h))]; simpa using (by omega : ¬ (2 : Int) ^ j = 0)
    repeat (first | with_reducible refine ob_self ?_ | with_reducible refine ob_true ?_ | with_reducible refine ob_mk hz ?_)
    refine fun r hr => br_cases (fun q => ?_) (fun q => ?_)
    · have hB : decide ((2 : Int) ^ j - 1 < 18446744073709551615) = true := by
        cases hb : decide ((2 : Int) ^ j - 1 < 18446744073709551615) with
        | true => rfl
        | false => rw [hb] at hr; rw [hr] at q; cases q
      have hj2 := lt (of_decide_eq_true hB)
      rw [hB, wn hj2, Int.tmod_eq_emod_of_nonneg hc.1, Int.tmod_eq_emod_of_nonneg hd.1] at hr
      have h1 := hn c hc; have h2 := hn d hd
      have e1 := Int.mul_ediv_add_emod c (2 ^ j)
      have e2 := Int.mul_ediv_add_emod d (2 ^ j)
      have hne2 : c / 2 ^ j ≠ d / 2 ^ j := fun e => by
        rw [e] at e1
        have : c - c % 2 ^ j = d - d % 2 ^ j := by omega
        rw [this] at hr
        rw [hr] at q; simp at q
      refine Or.inr ⟨rfl, j + 1, ?_, ⟨by omega, fun i hi => ?_⟩, by omega, fun _ _ h => h⟩
      · have e : IntKind.wrap .u64 (IntKind.wrap .u64 (2 * (2 ^ j - 1)) + 1) = 2 ^ (j + 1) - 1 := by
          have := small hj2
          rw [uW, uW, Int.pow_succ]; omega
        rw [e]; rfl
      · by_cases hij : i = j
        · subst hij; exact hne2
        · exact hne i (by omega)
    · refine Or.inl ⟨by simp, j, ⟨hj, ?_, hne⟩, rfl, rfl⟩
      by_cases hj2 : j < 64
      · have hB : decide ((2 : Int) ^ j - 1 < 18446744073709551615) = true := decide_eq_true (by have := small hj2; omega)
        rw [hB, wn hj2, Int.tmod_eq_emod_of_nonneg hc.1, Int.tmod_eq_emod_of_nonneg hd.1, uW, uW] at hr
        have h1 := hn c hc; have h2 := hn d hd
        have e1 := Int.mul_ediv_add_emod c (2 ^ j)
        have e2 := Int.mul_ediv_add_emod d (2 ^ j)
        rw [hr] at q
        have q : (c - c % 2 ^ j) % 18446744073709551616 = (d - d % 2 ^ j) % 18446744073709551616 := by simpa using q
        have hc' := hc; have hd' := hd
        unfold u6 at hc' hd'
        have q2 : 2 ^ j * (c / 2 ^ j) = 2 ^ j * (d / 2 ^ j) := by omega
        exact Int.eq_of_mul_eq_mul_left (by omega) q2
      · rw [big hj2]
        unfold u6 at hc hd
        omega
end Go.Proofs.YtceclodenhgoeaaGreat.Zy
