/- The product's contracts. -/
import Derived.Test.YtkmnogcahpbdjaaC03
import Derived.Test.YtkmnogcahpbdjaaPA3
set_option linter.unusedVariables false
set_option linter.unusedSimpArgs false
set_option linter.unusedSectionVars false
namespace Go.Proofs.Ytkmnogcahpbdjaa.C03
open Go.RowKit Go.Proofs.YtkmnogcahpbdjaaW.PrintWords Go.Proofs.YtkmnogcahpbdjaaW.PrintLast Go.Proofs.YtkmnogcahpbdjaaW.PrintMore Go.Proofs.Ytkmnogcahpbdjaa.PA Go.Proofs.Ytkmnogcahpbdjaa.Bv Go.Proofs.Ytkmnogcahpbdjaa.Tn
def mulT (av am bv bm sv sm : W) : W × W := if av.getLsbD 0 then (tAddV sv sm 0 bm, addMask sv sm 0 bm) else if am.getLsbD 0 then (tAddV sv sm 0 (bv ||| bm), addMask sv sm 0 (bv ||| bm)) else (sv, sm)
def mulS : Nat → W → W → W → W → W × W → W × W
  | 0, _, _, _, _, s => s
  | n + 1, av, am, bv, bm, s => mulS n (av >>> 1) (am >>> 1) (bv <<< 1) (bm <<< 1) (mulT av am bv bm s.1 s.2)
theorem mulS_zero (n : Nat) : ∀ (bv bm : W) (s : W × W), mulS n 0 0 bv bm s = s := by
  induction n with
  | zero => intros; rfl
  | succ n ih => intro bv bm s; rw [mulS]; exact ih _ _ _
theorem and_one (x : W) : (x &&& 1 = 0) ↔ x.getLsbD 0 = false := by
  constructor
  · intro h
    have := congrArg (fun z => z.getLsbD 0) h
    simpa using this
  · intro h
    apply BitVec.eq_of_getLsbD_eq
    intro i hi
    by_cases h0 : i = 0
    · subst h0; rw [BitVec.getLsbD_and, h]; rfl
    · simp [h0]
theorem bt_one (x : W) : (Go.bits .and .u64 (U x) 1 = 0) ↔ x.getLsbD 0 = false := by
  rw [b_and, ofInt_U, U_eq_zero]; exact and_one x
theorem half_lt {x : W} {n : Nat} (h : x.toNat < 2 ^ (n + 1)) : (x >>> 1).toNat < 2 ^ n := by
  rw [BitVec.toNat_ushiftRight, Nat.shiftRight_eq_div_pow]; rw [Nat.pow_succ] at h; omega
theorem mul_l (n : Nat) : ∀ (k : Nat) (av am bv bm pv pm sv sm : W), av.toNat < 2 ^ n → am.toNat < 2 ^ n → n < k →
    tnum_Mul.l0 k (U av) (U am) (U bv) (U bm) (U pv) (U pm) (U sv) (U sm) = some (U (tAddV pv pm (mulS n av am bv bm (sv, sm)).1 (mulS n av am bv bm (sv, sm)).2), U (addMask pv pm (mulS n av am bv bm (sv, sm)).1 (mulS n av am bv bm (sv, sm)).2)) := by
  induction n with
  | zero =>
    intro k av am bv bm pv pm sv sm h1 h2 hk
    obtain ⟨k, rfl⟩ : ∃ m, k = m + 1 := ⟨k - 1, by omega⟩
    obtain rfl : av = 0 := BitVec.eq_of_toNat_eq (by simp at h1 ⊢; omega)
    obtain rfl : am = 0 := BitVec.eq_of_toNat_eq (by simp at h2 ⊢; omega)
    rw [tnum_Mul.l0, if_neg (by decide)]
    simp [mulS, add_f]
  | succ n ih =>
    intro k av am bv bm pv pm sv sm h1 h2 hk
    obtain ⟨k, rfl⟩ : ∃ m, k = m + 1 := ⟨k - 1, by omega⟩
    rw [tnum_Mul.l0]
    by_cases hz : av = 0 ∧ am = 0
    · obtain ⟨rfl, rfl⟩ := hz
      rw [if_neg (by decide), mulS_zero]; simp [add_f]
    · have hc : (!(U av == 0) || !(U am == 0)) = true := by
        have e1 : (U av == 0) = decide (av = 0) := by rw [Bool.eq_iff_iff]; simp [U_eq_zero]
        have e2 : (U am == 0) = decide (am = 0) := by rw [Bool.eq_iff_iff]; simp [U_eq_zero]
        rw [e1, e2]
        by_cases a : av = 0
        · have b : ¬ am = 0 := fun b => hz ⟨a, b⟩
          rw [decide_eq_false b]; simp
        · rw [decide_eq_false a]; simp
      have i1 := half_lt h1
      have i2 := half_lt h2
      have z : (0 : Int) = U 0 := rfl
      rw [if_pos hc]
      simp only [bt_one, rsh_1, lsh_1, b_or, ofInt_U, Option.bind_some]
      cases a : av.getLsbD 0
      · cases b : am.getLsbD 0
        · simp only [if_true]; rw [ih k _ _ _ _ _ _ _ _ i1 i2 (by omega)]; simp only [mulS, mulT, a, b]; rfl
        · simp only [if_true, Bool.true_eq_false, if_false]; rw [z, add_f]; simp only [Option.bind_some]; rw [ih k _ _ _ _ _ _ _ _ i1 i2 (by omega)]; simp only [mulS, mulT, a, b]; rfl
      · simp only [Bool.true_eq_false, if_false]; rw [z, add_f]; simp only [Option.bind_some]; rw [ih k _ _ _ _ _ _ _ _ i1 i2 (by omega)]; simp only [mulS, mulT, a]; rfl
def tMulS (av am bv bm : W) : W × W := mulS 64 av am bv bm (0, 0)
def tMulV (av am bv bm : W) : W := tAddV (av * bv) 0 (tMulS av am bv bm).1 (tMulS av am bv bm).2
def tMulM (av am bv bm : W) : W := addMask (av * bv) 0 (tMulS av am bv bm).1 (tMulS av am bv bm).2
theorem mul_f (k : Nat) (hk : 65 ≤ k) (av am bv bm : W) : tnum_Mul.f k (U av) (U am) (U bv) (U bm) = some (U (tMulV av am bv bm), U (tMulM av am bv bm)) := by
  have z : (0 : Int) = U 0 := rfl
  simp only [tnum_Mul.f, wrap_u64, oi_mul, ofInt_U]
  rw [z]
  simp only [of_f, Option.bind_some]
  exact mul_l 64 k av am bv bm _ _ _ _ av.isLt am.isLt (by omega)
end Go.Proofs.Ytkmnogcahpbdjaa.C03
