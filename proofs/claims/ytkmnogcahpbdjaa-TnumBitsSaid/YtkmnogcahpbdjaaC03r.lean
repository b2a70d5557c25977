/- The contracts of layer 3's reference. -/
import Derived.Test.YtkmnogcahpbdjaaC03m
import Derived.Test.YtkmnogcahpbdjaaPA7
import Derived.Test.YtkmnogcahpbdjaaPA8
import Derived.Test.YtkmnogcahpbdjaaPA9
import Derived.Test.YtkmnogcahpbdjaaPA10
import Derived.Test.YtkmnogcahpbdjaaPA11
import Derived.Test.YtkmnogcahpbdjaaPA12
set_option linter.unusedVariables false
set_option linter.unusedSimpArgs false
set_option linter.unusedSectionVars false
namespace Go.Proofs.Ytkmnogcahpbdjaa.C03
open Classical
open Go.RowKit Go.Proofs.YtkmnogcahpbdjaaW.PrintWords Go.Proofs.YtkmnogcahpbdjaaW.PrintLast Go.Proofs.YtkmnogcahpbdjaaW.PrintMore Go.Proofs.Ytkmnogcahpbdjaa.PA Go.Proofs.Ytkmnogcahpbdjaa.Bv Go.Proofs.Ytkmnogcahpbdjaa.Tn
attribute [local simp] wrap_u64 wrap_i64 oi_add oi_sub oi_mul oi_neg ofInt_U ofInt_S b_and b_or b_xor b_andNot U_inj U_beq U_eq_zero
theorem rof_f (v : W) : lockgateref03_Of.f (U v) = some (U v, U 0) := rfl
theorem rany_f : lockgateref03_Any.f = some (U 0, U (-1)) := rfl
theorem rclear_f (v m : W) : lockgateref03_without.f (U v) (U m) = some (U (v &&& ~~~m), U m) := by simp [lockgateref03_without.f]
theorem radd_f (va ma vb mb : W) : lockgateref03_Add.f (U va) (U ma) (U vb) (U mb) = some (U (tAddV va ma vb mb), U (addMask va ma vb mb)) := by
  simp [lockgateref03_Add.f, rclear_f, tAddV, addMask]
theorem rsub_f (va ma vb mb : W) : lockgateref03_Sub.f (U va) (U ma) (U vb) (U mb) = some (U (tSubV va ma vb mb), U (subMask va ma vb mb)) := by
  simp [lockgateref03_Sub.f, rclear_f, tSubV, subMask]
theorem rand_f (va ma vb mb : W) : lockgateref03_And.f (U va) (U ma) (U vb) (U mb) = some (U (va &&& vb), U ((va ||| ma) &&& (vb ||| mb) &&& ~~~(va &&& vb))) := by
  simp [lockgateref03_And.f]
theorem ror_f (va ma vb mb : W) : lockgateref03_Or.f (U va) (U ma) (U vb) (U mb) = some (U (va ||| vb), U ((ma ||| mb) &&& ~~~(va ||| vb))) := by
  simp [lockgateref03_Or.f]
theorem rxor_f (va ma vb mb : W) : lockgateref03_Xor.f (U va) (U ma) (U vb) (U mb) = some (U ((va ^^^ vb) &&& ~~~(ma ||| mb)), U (ma ||| mb)) := by
  simp [lockgateref03_Xor.f, rclear_f]
/-- a signed number modulo m (64 or 32) is the unsigned one modulo m. -/
theorem mod_S (n : W) (m : Nat) (hm : m = 64 ∨ m = 32) : (if Int.tmod (S n) (m : Int) < 0 then some (IntKind.u64.wrap (wrap64 (Int.tmod (S n) m + m))) else some (IntKind.u64.wrap (Int.tmod (S n) m))) = some (((n.toNat % m : Nat)) : Int) := by
  have h1 := S_ge n
  have h2 := S_lt n
  have hn : S n = (n.toNat : Int) ∨ S n = (n.toNat : Int) - 18446744073709551616 := by
    unfold S; rw [BitVec.toInt_eq_toNat_cond]; split
    · exact .inl rfl
    · exact .inr rfl
  have hlt := n.isLt
  have ht : Int.tmod (S n) m = if 0 ≤ S n then S n % m else -((-S n) % m) := by
    split
    · rename_i h; exact Int.tmod_eq_emod_of_nonneg h
    · rename_i h
      have : S n = - (-S n) := by omega
      rw [this, Int.neg_tmod, Int.tmod_eq_emod_of_nonneg (by omega)]; simp
  rw [ht]
  simp only [wrap_u64, U_ofInt]
  unfold wrap64
  rcases hm with rfl | rfl
  · split <;> split <;> congr 1 <;> omega
  · split <;> split <;> congr 1 <;> omega
theorem rcount64_f (n : W) : lockgateref03_count.f (S n) 64 = some (((n.toNat % 64 : Nat)) : Int) := by
  rw [lockgateref03_count.f, if_neg (by decide)]; exact mod_S n 64 (.inl rfl)
theorem rcount32_f (n : W) : lockgateref03_count.f (S n) 32 = some (((n.toNat % 32 : Nat)) : Int) := by
  rw [lockgateref03_count.f, if_neg (by decide)]; exact mod_S n 32 (.inr rfl)
theorem rlsh_f (v m n : W) : lockgateref03_Lsh.f (U v) (U m) (S n) = some (U (v <<< (n.toNat % 64)), U (m <<< (n.toNat % 64))) := by
  simp only [lockgateref03_Lsh.f, rcount64_f, Option.bind_some]
  rw [if_pos (by omega), if_pos (by omega), shl_U, shl_U, Int.toNat_natCast]
theorem rrsh_f (v m n : W) : lockgateref03_Rsh.f (U v) (U m) (S n) = some (U (v >>> (n.toNat % 64)), U (m >>> (n.toNat % 64))) := by
  simp only [lockgateref03_Rsh.f, rcount64_f, Option.bind_some]
  rw [if_pos (by omega), if_pos (by omega), shr_U, shr_U, Int.toNat_natCast]
/-! In, Within -/
theorem rin_l (d : Nat) : ∀ (k i : Nat) (v m x : W), i + d = 64 → d < k →
    lockgateref03_In.l0 k (U x) (i : Int) (U v) (U m) = some (decide (∀ j, i ≤ j → j < 64 → m.getLsbD j = false → v.getLsbD j = x.getLsbD j)) := by
  induction d with
  | zero =>
    intro k i v m x hi hk
    obtain ⟨k, rfl⟩ : ∃ m, k = m + 1 := ⟨k - 1, by omega⟩
    rw [lockgateref03_In.l0, if_neg (by omega)]
    congr 1; symm; rw [decide_eq_true_iff]; intro j h1 h2; omega
  | succ d ih =>
    intro k i v m x hi hk
    obtain ⟨k, rfl⟩ : ∃ m, k = m + 1 := ⟨k - 1, by omega⟩
    rw [lockgateref03_In.l0, if_pos (by omega), if_pos (by omega), u_succ i (by omega), ih k (i + 1) v m x (by omega) (by omega)]
    simp only [bit_eq0, bit_eq]
    by_cases h1 : m.getLsbD i = false
    · by_cases h2 : v.getLsbD i = x.getLsbD i
      · simp only [h1, h2, if_true]
        congr 1; rw [decide_eq_decide]
        constructor
        · intro h j a b c
          by_cases e : j = i
          · subst e; exact h2
          · exact h j (by omega) b c
        · intro h j a b c; exact h j (by omega) b c
      · rw [if_pos h1, if_neg h2]
        congr 1; symm; rw [decide_eq_false_iff_not]
        intro h; exact h2 (h i (by omega) (by omega) h1)
    · rw [if_neg h1]
      congr 1; rw [decide_eq_decide]
      constructor
      · intro h j a b c
        by_cases e : j = i
        · subst e; exact absurd c h1
        · exact h j (by omega) b c
      · intro h j a b c; exact h j (by omega) b c
theorem tIn_iff (v m x : W) (hv : v &&& m = 0) : tIn v m x = decide (∀ j, 0 ≤ j → j < 64 → m.getLsbD j = false → v.getLsbD j = x.getLsbD j) := by
  rw [Bool.eq_iff_iff, decide_eq_true_iff, tIn, beq_iff_eq]
  constructor
  · rintro rfl j _ hj hm; simp only [BitVec.getLsbD_and, BitVec.getLsbD_not, hj, hm]; simp
  · intro h
    apply BitVec.eq_of_getLsbD_eq
    intro j hj
    have hv' := congrArg (fun z => z.getLsbD j) hv
    simp only [BitVec.getLsbD_and, BitVec.getLsbD_not, hj] at hv' ⊢
    cases hm : m.getLsbD j
    · simp [h j (by omega) hj hm]
    · rw [hm] at hv'; simp at hv' ⊢; exact hv'
theorem rin_f (k : Nat) (hk : 65 ≤ k) (v m x : W) (hv : v &&& m = 0) : lockgateref03_In.f k (U v) (U m) (U x) = some (tIn v m x) := by
  rw [lockgateref03_In.f, tIn_iff v m x hv]; exact rin_l 64 k 0 v m x rfl (by omega)
theorem rwithin_l (d : Nat) : ∀ (k i : Nat) (va ma vb mb : W), i + d = 64 → d < k →
    lockgateref03_Within.l0 k (i : Int) (U va) (U ma) (U vb) (U mb) = some (decide (∀ j, i ≤ j → j < 64 → mb.getLsbD j = false → ma.getLsbD j = false ∧ va.getLsbD j = vb.getLsbD j)) := by
  induction d with
  | zero =>
    intro k i va ma vb mb hi hk
    obtain ⟨k, rfl⟩ : ∃ m, k = m + 1 := ⟨k - 1, by omega⟩
    rw [lockgateref03_Within.l0, if_neg (by omega)]
    congr 1; symm; rw [decide_eq_true_iff]; intro j h1 h2; omega
  | succ d ih =>
    intro k i va ma vb mb hi hk
    obtain ⟨k, rfl⟩ : ∃ m, k = m + 1 := ⟨k - 1, by omega⟩
    rw [lockgateref03_Within.l0, if_pos (by omega), if_pos (by omega), u_succ i (by omega), ih k (i + 1) va ma vb mb (by omega) (by omega)]
    simp only [bit_eq0, bit_eq, bit_eq1]
    have go : (mb.getLsbD i = false → ma.getLsbD i = false ∧ va.getLsbD i = vb.getLsbD i) → decide (∀ j, i + 1 ≤ j → j < 64 → mb.getLsbD j = false → ma.getLsbD j = false ∧ va.getLsbD j = vb.getLsbD j) = decide (∀ j, i ≤ j → j < 64 → mb.getLsbD j = false → ma.getLsbD j = false ∧ va.getLsbD j = vb.getLsbD j) := by
      intro h0
      rw [decide_eq_decide]
      constructor
      · intro h j a b c
        by_cases e : j = i
        · subst e; exact h0 c
        · exact h j (by omega) b c
      · intro h j a b c; exact h j (by omega) b c
    by_cases h1 : mb.getLsbD i = false
    · rw [if_pos h1]
      by_cases h2 : ma.getLsbD i = true
      · rw [if_pos h2]; congr 1; symm; rw [decide_eq_false_iff_not]
        intro h; have := (h i (by omega) (by omega) h1).1; rw [h2] at this; cases this
      · rw [if_neg h2]
        by_cases h3 : va.getLsbD i = vb.getLsbD i
        · rw [if_pos h3, go (fun _ => ⟨by simpa using h2, h3⟩)]
        · rw [if_neg h3]; congr 1; symm; rw [decide_eq_false_iff_not]
          intro h; exact h3 (h i (by omega) (by omega) h1).2
    · rw [if_neg h1, go (fun h => absurd h h1)]
theorem tWithin_iff (va ma vb mb : W) (hb : vb &&& mb = 0) : tWithin va ma vb mb = decide (∀ j, 0 ≤ j → j < 64 → mb.getLsbD j = false → ma.getLsbD j = false ∧ va.getLsbD j = vb.getLsbD j) := by
  rw [tWithin, tIn_iff vb mb va hb, Bool.eq_iff_iff, Bool.and_eq_true, decide_eq_true_iff, decide_eq_true_iff, beq_iff_eq]
  constructor
  · rintro ⟨h1, h2⟩ j a b c
    have h := congrArg (fun z => z.getLsbD j) h1
    simp only [BitVec.getLsbD_and, BitVec.getLsbD_not, b, c] at h
    exact ⟨by simpa using h, (h2 j a b c).symm⟩
  · intro h
    refine ⟨?_, fun j a b c => (h j a b c).2.symm⟩
    apply BitVec.eq_of_getLsbD_eq
    intro j hj
    simp only [BitVec.getLsbD_and, BitVec.getLsbD_not, hj]
    cases c : mb.getLsbD j
    · rw [(h j (by omega) hj c).1]; simp
    · simp
theorem rwithin_f (k : Nat) (hk : 65 ≤ k) (va ma vb mb : W) (hb : vb &&& mb = 0) : lockgateref03_Within.f k (U va) (U ma) (U vb) (U mb) = some (tWithin va ma vb mb) := by
  rw [lockgateref03_Within.f, tWithin_iff va ma vb mb hb]; exact rwithin_l 64 k 0 va ma vb mb rfl (by omega)
end Go.Proofs.Ytkmnogcahpbdjaa.C03
