/- TnumSound, without Go: what is made of numbers is of what is told. -/
import Derived.Test.YtkmnogcahpbdjaaL03w
import Derived.Test.YtkmnogcahpbdjaaPA21
set_option linter.unusedVariables false
set_option linter.unusedSimpArgs false
set_option linter.unusedSectionVars false
namespace Go.Proofs.Ytkmnogcahpbdjaa.LTnumSound
open Go.RowKit Go.Proofs.YtkmnogcahpbdjaaW.PrintWords Go.Proofs.YtkmnogcahpbdjaaW.PrintLast Go.Proofs.YtkmnogcahpbdjaaW.PrintMore Go.Proofs.Ytkmnogcahpbdjaa.PA Go.Proofs.Ytkmnogcahpbdjaa.Bv Go.Proofs.Ytkmnogcahpbdjaa.Tn Go.Proofs.Ytkmnogcahpbdjaa.C03 Go.Proofs.Ytkmnogcahpbdjaa.C01 Go.Proofs.Ytkmnogcahpbdjaa.L03
theorem mem_bits (v m x : W) : Mem v m x ↔ ∀ i, i < 64 → (x.getLsbD i && !m.getLsbD i) = v.getLsbD i := by
  unfold Mem
  constructor
  · intro h i hi; have := congrArg (fun z => z.getLsbD i) h; simpa [hi] using this
  · intro h; apply BitVec.eq_of_getLsbD_eq; intro i hi; have := h i hi; simpa [hi] using this
theorem one_mem {v m : W} (h : v &&& m = 0) (x : W) : Mem v m (v ||| (x &&& m)) := by
  rw [mem_bits]; intro i hi
  have g := and_bit h i
  simp only [BitVec.getLsbD_and, BitVec.getLsbD_or]
  revert g
  cases v.getLsbD i <;> cases m.getLsbD i <;> cases x.getLsbD i <;> simp
section
variable {va ma vb mb x y : W} (ha : va &&& ma = 0) (hb : vb &&& mb = 0) (hx : Mem va ma x) (hy : Mem vb mb y)
include ha hb hx hy
theorem h_or : has (va ||| vb) ((ma ||| mb) &&& ~~~(va ||| vb)) (x ||| y) = true := by
  refine has_of ?_ ?_
  · apply and_zero_of; intro i hi
    simp only [BitVec.getLsbD_and, BitVec.getLsbD_or, BitVec.getLsbD_not, hi]
    cases va.getLsbD i <;> cases ma.getLsbD i <;> cases vb.getLsbD i <;> cases mb.getLsbD i <;> simp
  · rw [mem_bits] at *; intro i hi
    have g1 := hx i hi
    have g2 := hy i hi
    simp only [BitVec.getLsbD_and, BitVec.getLsbD_or, BitVec.getLsbD_not, hi]
    revert g1 g2
    cases va.getLsbD i <;> cases ma.getLsbD i <;> cases vb.getLsbD i <;> cases mb.getLsbD i <;> cases x.getLsbD i <;> cases y.getLsbD i <;> simp
theorem h_and : has (va &&& vb) ((va ||| ma) &&& (vb ||| mb) &&& ~~~(va &&& vb)) (x &&& y) = true := by
  refine has_of ?_ ?_
  · apply and_zero_of; intro i hi
    simp only [BitVec.getLsbD_and, BitVec.getLsbD_or, BitVec.getLsbD_not, hi]
    cases va.getLsbD i <;> cases ma.getLsbD i <;> cases vb.getLsbD i <;> cases mb.getLsbD i <;> simp
  · rw [mem_bits] at *; intro i hi
    have g1 := hx i hi
    have g2 := hy i hi
    simp only [BitVec.getLsbD_and, BitVec.getLsbD_or, BitVec.getLsbD_not, hi]
    revert g1 g2
    cases va.getLsbD i <;> cases ma.getLsbD i <;> cases vb.getLsbD i <;> cases mb.getLsbD i <;> cases x.getLsbD i <;> cases y.getLsbD i <;> simp
theorem h_xor : has ((va ^^^ vb) &&& ~~~(ma ||| mb)) (ma ||| mb) (x ^^^ y) = true := by
  refine has_of (clear_valid _ _) ?_
  rw [mem_bits] at *; intro i hi
  have g1 := hx i hi
  have g2 := hy i hi
  simp only [BitVec.getLsbD_and, BitVec.getLsbD_or, BitVec.getLsbD_not, BitVec.getLsbD_xor, hi]
  revert g1 g2
  cases va.getLsbD i <;> cases ma.getLsbD i <;> cases vb.getLsbD i <;> cases mb.getLsbD i <;> cases x.getLsbD i <;> cases y.getLsbD i <;> simp
end
section
variable {va ma x : W} (ha : va &&& ma = 0) (hx : Mem va ma x)
include ha hx
theorem h_shl (n : Nat) : has (va <<< n) (ma <<< n) (x <<< n) = true := by
  refine has_of ?_ ?_
  · apply and_zero_of; intro i hi
    have g := and_bit ha (i - n)
    simp only [BitVec.getLsbD_shiftLeft, hi]
    by_cases h : i < n
    · simp [h]
    · simpa [h] using g
  · rw [mem_bits] at *; intro i hi
    simp only [BitVec.getLsbD_shiftLeft, hi]
    by_cases h : i < n
    · simp [h]
    · have g := hx (i - n) (by omega)
      simpa [h] using g
theorem h_shr (n : Nat) : has (va >>> n) (ma >>> n) (x >>> n) = true := by
  refine has_of ?_ ?_
  · apply and_zero_of; intro i hi
    have g := and_bit ha (n + i)
    simpa only [BitVec.getLsbD_ushiftRight] using g
  · rw [mem_bits] at *; intro i hi
    simp only [BitVec.getLsbD_ushiftRight]
    by_cases h : n + i < 64
    · exact hx (n + i) h
    · simp [BitVec.getLsbD_of_ge _ _ (show 64 ≤ n + i by omega)]
theorem h_sar (n : Nat) : has (va.sshiftRight n) (ma.sshiftRight n) (x.sshiftRight n) = true := by
  have b : ∀ (z : W) i, i < 64 → (z.sshiftRight n).getLsbD i = z.getLsbD (if n + i < 64 then n + i else 63) := fun z i hi => by
    rw [BitVec.getLsbD_sshiftRight, BitVec.msb_eq_getLsbD_last]
    simp only [show ¬ 64 ≤ i by omega, decide_false, Bool.not_false, Bool.true_and]
    split <;> rfl
  refine has_of ?_ ?_
  · apply and_zero_of; intro i hi
    rw [b _ i hi, b _ i hi]; exact and_bit ha _
  · rw [mem_bits] at *; intro i hi
    rw [b _ i hi, b _ i hi, b _ i hi]
    exact hx _ (by split <;> omega)
theorem h_sar32 (n : Nat) (hn : n < 32) : has (sar32 va n) (sar32 ma n) (sar32 x n) = true := by
  have b : ∀ (z : W) i, i < 64 → (sar32 z n).getLsbD i = (decide (i < 32) && z.getLsbD (min (i + n) 31)) := fun z i hi => by
    rw [← sar32_acc z n hn, acc_bit _ _ _ hi]
  refine has_of ?_ ?_
  · apply and_zero_of; intro i hi
    rw [b _ i hi, b _ i hi]
    have g := and_bit ha (min (i + n) 31)
    cases decide (i < 32)
    · simp
    · simpa using g
  · rw [mem_bits] at *; intro i hi
    rw [b _ i hi, b _ i hi, b _ i hi]
    have g := hx (min (i + n) 31) (by omega)
    cases decide (i < 32)
    · simp
    · simpa using g
end
/-- the lowest i bytes. -/
def cutn (v : W) (i : Nat) : W := v &&& ~~~ ((-1 : W) <<< (8 * i))
theorem cutn_f (v m : W) (i : Nat) (h1 : 1 ≤ i) (h2 : i < 8) : tnum_Cut.f (U v) (U m) (i : Int) = some (U (cutn v i), U (cutn m i)) := by
  have e : (i : Int) = S (BitVec.ofNat 64 i) := by
    unfold S; rw [BitVec.toInt_eq_toNat_cond, BitVec.toNat_ofNat, Nat.mod_eq_of_lt (by omega), if_pos (by omega)]
  have e2 : S (BitVec.ofNat 64 i) = (i : Int) := e.symm
  rw [e, cut_f]
  unfold cut cutn
  rw [if_neg (by omega), if_neg (by omega), if_neg (by omega), if_neg (by omega), e2, Int.toNat_natCast]
theorem cut8_f (v m : W) : tnum_Cut.f (U v) (U m) 8 = some (U v, U m) := by
  rw [tnum_Cut.f, if_pos (by decide)]
theorem cutn_bit (v : W) (i j : Nat) (hj : j < 64) : (cutn v i).getLsbD j = (decide (j < 8 * i) && v.getLsbD j) := by
  unfold cutn
  rw [BitVec.getLsbD_and, BitVec.getLsbD_not, BitVec.getLsbD_shiftLeft, show (-1 : W) = BitVec.allOnes 64 by decide, BitVec.getLsbD_allOnes]
  simp only [hj, decide_true, Bool.true_and, show j - 8 * i < 64 by omega, Bool.and_true, Bool.not_not]
  exact Bool.and_comm _ _
theorem rest_cut (x : W) (i : Nat) (hi : i < 8) : x % ((1 : W) <<< (8 * i)) = cutn x i := by
  apply BitVec.eq_of_getLsbD_eq
  intro j hj
  rw [cutn_bit x i j hj]
  have e : (x % ((1 : W) <<< (8 * i))).toNat = x.toNat % 2 ^ (8 * i) := by
    rw [BitVec.toNat_umod, BitVec.toNat_shiftLeft, Nat.shiftLeft_eq]
    have : (1 : W).toNat * 2 ^ (8 * i) % 2 ^ 64 = 2 ^ (8 * i) := by
      rw [show (1 : W).toNat = 1 from rfl, Nat.one_mul]
      exact Nat.mod_eq_of_lt (Nat.pow_lt_pow_right (by decide) (by omega))
    rw [this]
  rw [BitVec.getLsbD, e, Nat.testBit_mod_two_pow, BitVec.getLsbD]
theorem h_cutn {va ma x : W} (ha : va &&& ma = 0) (hx : Mem va ma x) (i : Nat) : has (cutn va i) (cutn ma i) (cutn x i) = true := by
  refine has_of ?_ ?_
  · apply and_zero_of; intro j hj
    rw [cutn_bit _ _ _ hj, cutn_bit _ _ _ hj]
    have g := and_bit ha j
    cases decide (j < 8 * i)
    · simp
    · simpa using g
  · rw [mem_bits] at *; intro j hj
    rw [cutn_bit _ _ _ hj, cutn_bit _ _ _ hj, cutn_bit _ _ _ hj]
    have g := hx j hj
    cases decide (j < 8 * i)
    · simp
    · simpa using g
theorem l_true {va ma x : W} (ha : va &&& ma = 0) (hx : Mem va ma x) (d : Nat) : ∀ (k i : Nat), i + d = 8 → 1 ≤ i → d + 70 < k → lockgatelaw03_TnumSound.l0 k (U x) (i : Int) (U va) (U ma) = some true := by
  induction d with
  | zero =>
    intro k i hi h1 hk
    obtain ⟨k, rfl⟩ : ∃ m, k = m + 1 := ⟨k - 1, by omega⟩
    rw [lockgatelaw03_TnumSound.l0, if_neg (by omega), cut8_f]
    simp only [Option.bind_some, has_f, has_of ha hx, if_true, known_f k (by omega)]
  | succ d ih =>
    intro k i hi h1 hk
    obtain ⟨k, rfl⟩ : ∃ m, k = m + 1 := ⟨k - 1, by omega⟩
    have e : IntKind.u64.wrap (wrap64 (8 * (i : Int))) = ((8 * i : Nat) : Int) := by
      rw [wrap_u64, U_ofInt]; unfold wrap64; omega
    have e1 : wrap64 ((i : Int) + 1) = ((i + 1 : Nat) : Int) := by unfold wrap64; omega
    have e2 : (shl .u64 1 ((8 * i : Nat) : Int)) = U ((1 : W) <<< (8 * i)) := by rw [show (1 : Int) = U 1 from rfl, shl_U, Int.toNat_natCast]
    have e3 : ¬ U ((1 : W) <<< (8 * i)) = 0 := by
      rw [U_eq_zero]; intro h
      have := congrArg (fun z => z.getLsbD (8 * i)) h
      simp only [getLsbD_one_shl _ _ (show 8 * i < 64 by omega)] at this
      simp at this
    rw [lockgatelaw03_TnumSound.l0, if_pos (by omega), cutn_f _ _ _ h1 (by omega), e, e1, e2]
    simp only [Option.bind_some]
    rw [if_pos (by omega), if_neg e3, U_mod, rest_cut _ _ (by omega), has_f, h_cutn ha hx]
    simp only [Option.bind_some, if_true]
    exact ih k (i + 1) (by omega) (by omega) (by omega)
theorem j2_true (k : Nat) (hk : 190 ≤ k) {v ma p : W} (hv0 : v &&& ma = 0) (mx : Mem v ma p) : lockgatelaw03_TnumSound.j2 (k + 1) (U p) false (U v) (U ma) = some true := by
  have l := l_true hv0 mx 7 k 1 (by omega) (by omega) (by omega)
  rw [lockgatelaw03_TnumSound.j2]
  simp only [Bool.false_eq_true, if_false]
  exact l
theorem j1_true (k : Nat) (hk : 190 ≤ k) {v ma p n : W} (hv0 : v &&& ma = 0) (mx : Mem v ma p) : lockgatelaw03_TnumSound.j1 (k + 2) (S n) (U p) false (U v) (U ma) = some true := by
  have h64 : (64 : Int) = S 64 := by decide
  have h32 : (32 : Int) = S 32 := by decide
  rw [lockgatelaw03_TnumSound.j1, h64, h32]
  simp only [Bool.false_eq_true, if_false, wrap_u64, ofInt_S, alu_f (k + 1) (by omega), lsh_f, rsh_f, arsh_f, lalu_f (k + 1) (by omega), alu6, alu7, alu12, alu12n, sar64, sar_32, has_f, h_shl hv0 mx, h_shr hv0 mx, h_sar hv0 mx, h_sar32 hv0 mx _ (Nat.mod_lt _ (by decide)), Option.bind_some, if_true, Bool.not_true]
  exact j2_true k hk hv0 mx
theorem j0_true (k : Nat) (hk : 193 ≤ k) {v ma p w mb q n : W} (hv0 : v &&& ma = 0) (mx : Mem v ma p) (hw0 : w &&& mb = 0) (my : Mem w mb q) : lockgatelaw03_TnumSound.j0 k (S n) (U p) (U q) false (U v) (U ma) (U w) (U mb) = some true := by
  obtain ⟨k, rfl⟩ : ∃ m, k = m + 3 := ⟨k - 3, by omega⟩
  rw [lockgatelaw03_TnumSound.j0]
  simp only [Bool.false_eq_true, if_false, or_f, and_f, xor_f, lalu_f (k + 2) (by omega), alu4, alu5, alu10, has_f, h_or hv0 hw0 mx my, h_and hv0 hw0 mx my, h_xor hv0 hw0 mx my, Option.bind_some, if_true, Bool.not_true]
  exact j1_true k (by omega) hv0 mx
theorem at_k (k : Nat) (hk : 200 ≤ k) (a0_0 a0_1 a1_0 a1_1 a2 a3 a4 : Int) (w0_0 : (Lit.int .u64 a0_0).wf = true) (w0_1 : (Lit.int .u64 a0_1).wf = true) (w1_0 : (Lit.int .u64 a1_0).wf = true) (w1_1 : (Lit.int .u64 a1_1).wf = true) (w2 : (Lit.int .u64 a2).wf = true) (w3 : (Lit.int .u64 a3).wf = true) (w4 : (Lit.int .i64 a4).wf = true) :
    lockgatelaw03_TnumSound.f k a0_0 a0_1 a1_0 a1_1 a2 a3 a4 = some true := by
  obtain ⟨va, rfl⟩ := exU w0_0
  obtain ⟨ma, rfl⟩ := exU w0_1
  obtain ⟨vb, rfl⟩ := exU w1_0
  obtain ⟨mb, rfl⟩ := exU w1_1
  obtain ⟨x, rfl⟩ := exU w2
  obtain ⟨y, rfl⟩ := exU w3
  obtain ⟨n, rfl⟩ := exS w4
  have hv0 : (va &&& ~~~ma) &&& ma = 0 := clear_valid va ma
  have hw0 : (vb &&& ~~~mb) &&& mb = 0 := clear_valid vb mb
  have mx := one_mem hv0 x
  have my := one_mem hw0 y
  have hs := has_of (add_valid _ _ _ _) (add_sound' hv0 hw0 mx my)
  have hd := has_of (sub_valid _ _ _ _) (sub_sound' hv0 hw0 mx my)
  have hp := has_of (mul_valid _ _ _ _) (mul_sound hv0 hw0 mx my)
  rw [← alu0] at hs
  rw [← alu1] at hd
  rw [← alu2] at hp
  unfold lockgatelaw03_TnumSound.f
  refine bs (may_f _ _) (bs (may_f _ _) (bs (one_f _ _ _) (bs (one_f _ _ _) (bs (add_f _ _ _ _) (bs (lalu_f k (by omega) _ _ _) (bs (has_f _ _ _) (ift hs ?_)))))))
  refine bs (sub_f _ _ _ _) (bs (lalu_f k (by omega) _ _ _) (bs (has_f _ _ _) (ift hd ?_)))
  refine bs (mul_f k (by omega) _ _ _ _) (bs (lalu_f k (by omega) _ _ _) (bs (has_f _ _ _) ?_))
  rw [hp]
  exact j0_true k (by omega) hv0 mx hw0 my
theorem pure (a0_0 a0_1 a1_0 a1_1 a2 a3 a4 : Int) (w0_0 : (Lit.int .u64 a0_0).wf = true) (w0_1 : (Lit.int .u64 a0_1).wf = true) (w1_0 : (Lit.int .u64 a1_0).wf = true) (w1_1 : (Lit.int .u64 a1_1).wf = true) (w2 : (Lit.int .u64 a2).wf = true) (w3 : (Lit.int .u64 a3).wf = true) (w4 : (Lit.int .i64 a4).wf = true) :
    ∃ k, lockgatelaw03_TnumSound.f k a0_0 a0_1 a1_0 a1_1 a2 a3 a4 = some true := ⟨200, at_k 200 (by decide) _ _ _ _ _ _ _ w0_0 w0_1 w1_0 w1_1 w2 w3 w4⟩
end Go.Proofs.Ytkmnogcahpbdjaa.LTnumSound
