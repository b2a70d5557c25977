/- WordTurns, without Go. -/
import Derived.Test.YtbionehmfbmcdaaL01
import Derived.Test.YtbionehmfbmcdaaC01s
import Derived.Test.YtbionehmfbmcdaaPA18
set_option linter.unusedVariables false
set_option linter.unusedSimpArgs false
set_option linter.unusedSectionVars false
namespace Go.Proofs.Ytbionehmfbmcdaa.LWordTurns
open Go.RowKit Go.Proofs.YtbionehmfbmcdaaW.PrintWords Go.Proofs.YtbionehmfbmcdaaW.PrintLast Go.Proofs.YtbionehmfbmcdaaW.PrintMore Go.Proofs.Ytbionehmfbmcdaa.PA Go.Proofs.Ytbionehmfbmcdaa.Bv Go.Proofs.Ytbionehmfbmcdaa.C01 Go.Proofs.Ytbionehmfbmcdaa.L01
theorem one_shl (m : Nat) (h : m < 64) : ((1 : W) <<< m).toNat = 2 ^ m := by
  rw [BitVec.toNat_shiftLeft, Nat.shiftLeft_eq, show (1 : W).toNat = 1 from rfl, Nat.one_mul]
  exact Nat.mod_eq_of_lt (Nat.pow_lt_pow_right (by decide) h)
theorem step (v : W) (k i n : Nat) (hn : n = 2 ∨ n = 4 ∨ n = 8) (hk : 10 ≤ k) (hi : i < 3) (hr : rd [16, 32, 64] (i : Int) = ((8 * n : Nat) : Int))
    (nx : lockgatelaw01_WordTurns.l0 k (U v) [16, 32, 64] ((i + 1 : Nat) : Int) = some true) : lockgatelaw01_WordTurns.l0 (k + 1) (U v) [16, 32, 64] (i : Int) = some true := by
  have hle : n ≤ 8 := by omega
  have s := fun b x => swap_f k n hn hk b x
  have e1 : IntKind.u64.wrap ((8 * n : Nat) : Int) = ((8 * n : Nat) : Int) := by rw [wrap_u64, U_ofInt]; omega
  have e2 : shl .u64 1 ((8 * n : Nat) : Int) = U ((1 : W) <<< (8 * n)) := by rw [show (1 : Int) = U 1 from rfl, shl_U, Int.toNat_natCast]
  have turn : U (swp n true (swp n true v)) = U (swp n false v) := congrArg U (revB_revB v n hle)
  rw [lockgatelaw01_WordTurns.l0, hr, e1, e2, i_up i (by omega)]
  refine ift (by omega) (ift (by omega) (ift (by simp; omega) (bs (s false v) (bs (s true v) (bs (s true _) (ift rfl (ift rfl (ift rfl (ift turn ?_)))))))))
  by_cases h8 : n = 8
  · exact ife (by omega) nx
  · have hu : U ((1 : W) <<< (8 * n)) = ((2 ^ (8 * n) : Nat) : Int) := congrArg Nat.cast (one_shl (8 * n) (by omega))
    have hp : 0 < 2 ^ (8 * n) := Nat.pow_pos (by decide)
    have hl : U (swp n false v) = Int.tmod (U v) (U ((1 : W) <<< (8 * n))) := by
      rw [hu, Int.tmod_eq_emod_of_nonneg (U_nonneg _)]
      show ((lowB v n).toNat : Int) = ((v.toNat : Nat) : Int) % _
      rw [lowB_toNat v n hle]; norm_cast
    have hg : ¬ U (swp n true v) ≥ U ((1 : W) <<< (8 * n)) := by
      rw [hu]
      have h1 : (revB v n).toNat = (revB v n).toNat % 2 ^ (8 * n) := by rw [← lowB_toNat _ n hle, lowB_rev v n hle]
      have h2 := Nat.mod_lt (revB v n).toNat hp
      have h3 : (revB v n).toNat < 2 ^ (8 * n) := by omega
      show ¬ (((revB v n).toNat : Nat) : Int) ≥ _
      exact Int.not_le.mpr (Int.ofNat_lt.mpr h3)
    exact ift (by omega) (ift (by omega) (ife (by rw [hu]; exact fun h => absurd (Int.ofNat.inj h) (by omega)) (ift hl (ife hg nx))))
theorem last (v : W) (k : Nat) (hk : 10 ≤ k) : lockgatelaw01_WordTurns.l0 (k + 1) (U v) [16, 32, 64] 3 = some true := by
  have e : U (swp 8 false v) = U v := by
    apply congrArg
    apply BitVec.eq_of_toNat_eq
    show (lowB v 8).toNat = _
    rw [lowB_toNat v 8 (by omega)]; have := v.isLt; omega
  rw [lockgatelaw01_WordTurns.l0]
  exact ife (by decide) (bs (swap_f k 8 (by omega) hk false v) (ift e (bs (known_f k (by omega)) rfl)))
theorem pure (a0 : Int) (w0 : (Lit.int .u64 a0).wf = true) : ∃ k, lockgatelaw01_WordTurns.f k a0 = some true := by
  obtain ⟨v, rfl⟩ := exU w0
  exact ⟨24, step v 23 0 2 (by omega) (by omega) (by omega) rfl (step v 22 1 4 (by omega) (by omega) (by omega) rfl (step v 21 2 8 (by omega) (by omega) (by omega) rfl (last v 20 (by omega))))⟩
end Go.Proofs.Ytbionehmfbmcdaa.LWordTurns
