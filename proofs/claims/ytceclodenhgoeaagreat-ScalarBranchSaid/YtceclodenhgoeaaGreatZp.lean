/- Layer 5, against the reference: what ref04.ToT comes to. -/
import Derived.Test.YtceclodenhgoeaaGreatZo
namespace Go.Proofs.YtceclodenhgoeaaGreat.Zp
open Go Go.RowKit Go.Proofs Go.Proofs.YtceclodenhgoeaaGreat.Xc Go.Proofs.YtceclodenhgoeaaGreat.Zs Go.Proofs.YtceclodenhgoeaaGreat.Zr Go.Proofs.YtceclodenhgoeaaGreat.Zu Go.Proofs.YtceclodenhgoeaaGreat.Zv Go.Proofs.YtceclodenhgoeaaGreat.Zy Go.Proofs.YtceclodenhgoeaaGreat.Zo Go.Proofs.YtceclodenhgoeaaGreat.Bv
set_option linter.unusedVariables false
set_option linter.unusedSimpArgs false
theorem blkT : blk Tryz.prog 168 0 = .loop bodyT := by kernel_rfl
theorem okST (x0 : Value) (c d n : Int) : okSt (ST x0 c d n) = true := by kernel_rfl
theorem lokT : LOk Tryz.prog LtT := by
  refine lok_one fun s K hF => ?_
  unfold FT at hF
  split at hF
  · rename_i x0 t c d r
    obtain ⟨hs, ⟨hc, hd⟩, hK⟩ := hF
    obtain ⟨e, s', ⟨k, hk, rfl, rfl⟩, hl⟩ := loopT x0 c d hc hd
    refine ⟨_, _, hK k hk, ?_⟩
    rw [blkT]
    refine keep_pre (ks := [0, 1, 2, 3]) (n := 100) (show 2 ≤ 100 by decide) (by rw [hs]; exact okST _ _ _ _) ?_
    rw [hs]
    exact lw_of hl
  · exact hF.elim
/-- ToT, exactly. -/
theorem rRTT (c d : Int) (K : Value → Prop) (hc : u6 c) (hd : u6 d) (h : ∀ k, KP c d k → K (T2 (c - c % 2 ^ k) (2 ^ k - 1))) : nRTT c d K := by
  rw [nRTT_eq]
  refine ⟨rfl, rfl, ⟨hc, hd⟩, fun k hk => ?_⟩
  have hk64 := hk.le
  have small : k < 64 → (2 : Int) ^ k ≤ 9223372036854775808 := fun h => by
    have a : (2 : Int) ^ k = ((2 ^ k : Nat) : Int) := by simp
    have b : 2 ^ k ≤ 2 ^ 63 := Nat.pow_le_pow_right (by decide) (by omega)
    rw [a]; omega
  have big : ¬ k < 64 → (2 : Int) ^ k = 18446744073709551616 := fun h => by
    obtain rfl : k = 64 := by omega
    decide
  have hp : (0 : Int) < 2 ^ k := Int.pow_pos (by decide)
  have h := h k hk
  unfold pw
  refine br_cases (fun q => ?_) (fun q => ?_)
  · have q : (2 : Int) ^ k - 1 = 18446744073709551615 := by simpa using q
    have e : c - c % 2 ^ k = 0 := by rw [show (2 : Int) ^ k = 18446744073709551616 by omega]; unfold u6 at hc; omega
    rw [e] at h; exact h
  · have q : ¬ (2 : Int) ^ k - 1 = 18446744073709551615 := by simpa using q
    have hk2 : k < 64 := Classical.byContradiction fun h2 => q (by rw [big h2]; omega)
    have e : IntKind.wrap .u64 (2 ^ k - 1 + 1) = 2 ^ k := by rw [uW]; have := small hk2; omega
    rw [e, Int.tmod_eq_emod_of_nonneg hc.1]
    have e1 := Int.mul_ediv_add_emod c (2 ^ k)
    have e2 := Int.mul_nonneg (Int.le_of_lt hp) (Int.ediv_nonneg hc.1 (Int.le_of_lt hp))
    have e3 : IntKind.wrap .u64 (c - c % 2 ^ k) = c - c % 2 ^ k := by
      have := Int.emod_nonneg c (show (2 : Int) ^ k ≠ 0 by omega)
      rw [uW]; unfold u6 at hc; omega
    rw [e3]
    exact ob_mk (fun _ => by simpa using (by omega : ¬ (2 : Int) ^ k = 0)) h
end Go.Proofs.YtceclodenhgoeaaGreat.Zp
