/- E03, E03m, E03r, E03p, E03t, C01, C01r, C01q, C01b, C01a, C01z, in one text. -/
import Derived.Test.YtceclodenhgoeaaGreatBa
import Derived.Test.YtceclodenhgoeaaGreatPA90
import Derived.Test.YtceclodenhgoeaaGreatPA91
section
/- The contracts of layer 3's functions over bit vectors. -/
set_option linter.unusedVariables false
set_option linter.unusedSimpArgs false
set_option linter.unusedSectionVars false
namespace Go.Proofs.YtceclodenhgoeaaGreat.C03
open Go.RowKit Go.Proofs.YtceclodenhgoeaaGreatW.PrintWords Go.Proofs.YtceclodenhgoeaaGreatW.PrintLast Go.Proofs.YtceclodenhgoeaaGreatW.PrintMore Go.Proofs.YtceclodenhgoeaaGreat.PA Go.Proofs.YtceclodenhgoeaaGreat.Bv Go.Proofs.YtceclodenhgoeaaGreat.Tn
attribute [local simp] wrap_u64 wrap_i64 oi_add oi_sub oi_mul oi_neg ofInt_U ofInt_S b_and b_or b_xor b_andNot U_inj U_beq U_eq_zero
def tAddV (va ma vb mb : W) : W := (va + vb) &&& ~~~ addMask va ma vb mb
def tSubV (va ma vb mb : W) : W := (va - vb) &&& ~~~ subMask va ma vb mb
theorem clear_f (v m : W) : tnum_clear.f (U v) (U m) = some (U (v &&& ~~~m), U m) := by simp [tnum_clear.f]
theorem any_f : tnum_Any.f = some (U 0, U (-1)) := rfl
theorem add_f (va ma vb mb : W) : tnum_Add.f (U va) (U ma) (U vb) (U mb) = some (U (tAddV va ma vb mb), U (addMask va ma vb mb)) := by
  simp [tnum_Add.f, clear_f, tAddV, addMask]
theorem sub_f (va ma vb mb : W) : tnum_Sub.f (U va) (U ma) (U vb) (U mb) = some (U (tSubV va ma vb mb), U (subMask va ma vb mb)) := by
  simp [tnum_Sub.f, clear_f, tSubV, subMask]
theorem and_f (va ma vb mb : W) : tnum_And.f (U va) (U ma) (U vb) (U mb) = some (U (va &&& vb), U ((va ||| ma) &&& (vb ||| mb) &&& ~~~(va &&& vb))) := by
  simp [tnum_And.f]
theorem or_f (va ma vb mb : W) : tnum_Or.f (U va) (U ma) (U vb) (U mb) = some (U (va ||| vb), U ((ma ||| mb) &&& ~~~(va ||| vb))) := by
  simp [tnum_Or.f]
theorem xor_f (va ma vb mb : W) : tnum_Xor.f (U va) (U ma) (U vb) (U mb) = some (U ((va ^^^ vb) &&& ~~~(ma ||| mb)), U (ma ||| mb)) := by
  simp [tnum_Xor.f, clear_f]
/-- a count of 64, by a whole number. -/
theorem cnt64 (n : W) : Int.tmod (U n) 64 = ((n.toNat % 64 : Nat) : Int) := by
  rw [Int.tmod_eq_emod_of_nonneg (U_nonneg _)]; unfold U; omega
theorem cnt32 (n : W) : Int.tmod (U n) 32 = ((n.toNat % 32 : Nat) : Int) := by
  rw [Int.tmod_eq_emod_of_nonneg (U_nonneg _)]; unfold U; omega
theorem lsh_f (v m n : W) : tnum_Lsh.f (U v) (U m) (S n) = some (U (v <<< (n.toNat % 64)), U (m <<< (n.toNat % 64))) := by
  simp only [tnum_Lsh.f, wrap_u64, ofInt_S, cnt64]
  rw [if_pos (by omega), shl_U, shl_U, Int.toNat_natCast]
theorem rsh_f (v m n : W) : tnum_Rsh.f (U v) (U m) (S n) = some (U (v >>> (n.toNat % 64)), U (m >>> (n.toNat % 64))) := by
  simp only [tnum_Rsh.f, wrap_u64, ofInt_S, cnt64]
  rw [if_pos (by omega), shr_U, shr_U, Int.toNat_natCast]
end Go.Proofs.YtceclodenhgoeaaGreat.C03
end
section
/- The product's contracts. -/
set_option linter.unusedVariables false
set_option linter.unusedSimpArgs false
set_option linter.unusedSectionVars false
namespace Go.Proofs.YtceclodenhgoeaaGreat.C03
open Go.RowKit Go.Proofs.YtceclodenhgoeaaGreatW.PrintWords Go.Proofs.YtceclodenhgoeaaGreatW.PrintLast Go.Proofs.YtceclodenhgoeaaGreatW.PrintMore Go.Proofs.YtceclodenhgoeaaGreat.PA Go.Proofs.YtceclodenhgoeaaGreat.Bv Go.Proofs.YtceclodenhgoeaaGreat.Tn
def mulT (av am bv bm sv sm : W) : W × W := if av.getLsbD 0 then (tAddV sv sm 0 bm, addMask sv sm 0 bm) else if am.getLsbD 0 then (tAddV sv sm 0 (bv ||| bm), addMask sv sm 0 (bv ||| bm)) else (sv, sm)
def mulS : Nat → W → W → W → W → W × W → W × W
  | 0, _, _, _, _, s => s
  | n + 1, av, am, bv, bm, s => mulS n (av >>> 1) (am >>> 1) (bv <<< 1) (bm <<< 1) (mulT av am bv bm s.1 s.2)
theorem and_one (x : W) : (x &&& 1 = 0) ↔ x.getLsbD 0 = false := by
  constructor
  · intro h
    have := congrArg (fun z => z.getLsbD 0) h
    simpa using this
  · intro h
    apply BitVec.eq_of_getLsbD_eq
    intro i hi
    by_cases h0 : i = 0
    · subst h0; rw [BitVec.getLsbD_and, h]; rfl
    · simp [h0]
theorem half_lt {x : W} {n : Nat} (h : x.toNat < 2 ^ (n + 1)) : (x >>> 1).toNat < 2 ^ n := by
  rw [BitVec.toNat_ushiftRight, Nat.shiftRight_eq_div_pow]; rw [Nat.pow_succ] at h; omega
def tMulS (av am bv bm : W) : W × W := mulS 64 av am bv bm (0, 0)
def tMulV (av am bv bm : W) : W := tAddV (av * bv) 0 (tMulS av am bv bm).1 (tMulS av am bv bm).2
def tMulM (av am bv bm : W) : W := addMask (av * bv) 0 (tMulS av am bv bm).1 (tMulS av am bv bm).2
end Go.Proofs.YtceclodenhgoeaaGreat.C03
end
section
/- The contracts of layer 3's reference. -/
set_option linter.unusedVariables false
set_option linter.unusedSimpArgs false
set_option linter.unusedSectionVars false
namespace Go.Proofs.YtceclodenhgoeaaGreat.C03
open Classical
open Go.RowKit Go.Proofs.YtceclodenhgoeaaGreatW.PrintWords Go.Proofs.YtceclodenhgoeaaGreatW.PrintLast Go.Proofs.YtceclodenhgoeaaGreatW.PrintMore Go.Proofs.YtceclodenhgoeaaGreat.PA Go.Proofs.YtceclodenhgoeaaGreat.Bv Go.Proofs.YtceclodenhgoeaaGreat.Tn
attribute [local simp] wrap_u64 wrap_i64 oi_add oi_sub oi_mul oi_neg ofInt_U ofInt_S b_and b_or b_xor b_andNot U_inj U_beq U_eq_zero
theorem rof_f (v : W) : lockgateref03_Of.f (U v) = some (U v, U 0) := rfl
theorem rany_f : lockgateref03_Any.f = some (U 0, U (-1)) := rfl
theorem rclear_f (v m : W) : lockgateref03_without.f (U v) (U m) = some (U (v &&& ~~~m), U m) := by simp [lockgateref03_without.f]
theorem radd_f (va ma vb mb : W) : lockgateref03_Add.f (U va) (U ma) (U vb) (U mb) = some (U (tAddV va ma vb mb), U (addMask va ma vb mb)) := by
  simp [lockgateref03_Add.f, rclear_f, tAddV, addMask]
theorem rsub_f (va ma vb mb : W) : lockgateref03_Sub.f (U va) (U ma) (U vb) (U mb) = some (U (tSubV va ma vb mb), U (subMask va ma vb mb)) := by
  simp [lockgateref03_Sub.f, rclear_f, tSubV, subMask]
theorem rand_f (va ma vb mb : W) : lockgateref03_And.f (U va) (U ma) (U vb) (U mb) = some (U (va &&& vb), U ((va ||| ma) &&& (vb ||| mb) &&& ~~~(va &&& vb))) := by
  simp [lockgateref03_And.f]
theorem ror_f (va ma vb mb : W) : lockgateref03_Or.f (U va) (U ma) (U vb) (U mb) = some (U (va ||| vb), U ((ma ||| mb) &&& ~~~(va ||| vb))) := by
  simp [lockgateref03_Or.f]
theorem rxor_f (va ma vb mb : W) : lockgateref03_Xor.f (U va) (U ma) (U vb) (U mb) = some (U ((va ^^^ vb) &&& ~~~(ma ||| mb)), U (ma ||| mb)) := by
  simp [lockgateref03_Xor.f, rclear_f]
/-- a signed number modulo m (64 or 32) is the unsigned one modulo m. -/
theorem mod_S (n : W) (m : Nat) (hm : m = 64 ∨ m = 32) : (if Int.tmod (S n) (m : Int) < 0 then some (IntKind.u64.wrap (wrap64 (Int.tmod (S n) m + m))) else some (IntKind.u64.wrap (Int.tmod (S n) m))) = some (((n.toNat % m : Nat)) : Int) := by
  have h1 := S_ge n
  have h2 := S_lt n
  have hn : S n = (n.toNat : Int) ∨ S n = (n.toNat : Int) - 18446744073709551616 := by
    unfold S; rw [BitVec.toInt_eq_toNat_cond]; split
    · exact .inl rfl
    · exact .inr rfl
  have hlt := n.isLt
  have ht : Int.tmod (S n) m = if 0 ≤ S n then S n % m else -((-S n) % m) := by
    split
    · rename_i h; exact Int.tmod_eq_emod_of_nonneg h
    · rename_i h
      have : S n = - (-S n) := by omega
      rw [this, Int.neg_tmod, Int.tmod_eq_emod_of_nonneg (by omega)]; simp
  rw [ht]
  simp only [wrap_u64, U_ofInt]
  unfold wrap64
  rcases hm with rfl | rfl
  · split <;> split <;> congr 1 <;> omega
  · split <;> split <;> congr 1 <;> omega
theorem rcount64_f (n : W) : lockgateref03_count.f (S n) 64 = some (((n.toNat % 64 : Nat)) : Int) := by
  rw [lockgateref03_count.f, if_neg (by decide)]; exact mod_S n 64 (.inl rfl)
theorem rcount32_f (n : W) : lockgateref03_count.f (S n) 32 = some (((n.toNat % 32 : Nat)) : Int) := by
  rw [lockgateref03_count.f, if_neg (by decide)]; exact mod_S n 32 (.inr rfl)
theorem rlsh_f (v m n : W) : lockgateref03_Lsh.f (U v) (U m) (S n) = some (U (v <<< (n.toNat % 64)), U (m <<< (n.toNat % 64))) := by
  simp only [lockgateref03_Lsh.f, rcount64_f, Option.bind_some]
  rw [if_pos (by omega), if_pos (by omega), shl_U, shl_U, Int.toNat_natCast]
theorem rrsh_f (v m n : W) : lockgateref03_Rsh.f (U v) (U m) (S n) = some (U (v >>> (n.toNat % 64)), U (m >>> (n.toNat % 64))) := by
  simp only [lockgateref03_Rsh.f, rcount64_f, Option.bind_some]
  rw [if_pos (by omega), if_pos (by omega), shr_U, shr_U, Int.toNat_natCast]
/-! In, Within -/
theorem rmul_l (d : Nat) : ∀ (k i : Nat) (av am bv bm sv sm : W), i + d = 64 → d < k →
    lockgateref03_Mul.l0 k (i : Int) (U av) (U am) (U bv) (U bm) (U sv) (U sm) = some (U (tAddV (av * bv) 0 (mulS d (av >>> i) (am >>> i) (bv <<< i) (bm <<< i) (sv, sm)).1 (mulS d (av >>> i) (am >>> i) (bv <<< i) (bm <<< i) (sv, sm)).2), U (addMask (av * bv) 0 (mulS d (av >>> i) (am >>> i) (bv <<< i) (bm <<< i) (sv, sm)).1 (mulS d (av >>> i) (am >>> i) (bv <<< i) (bm <<< i) (sv, sm)).2)) := by
  induction d with
  | zero =>
    intro k i av am bv bm sv sm hi hk
    obtain ⟨k, rfl⟩ : ∃ m, k = m + 1 := ⟨k - 1, by omega⟩
    rw [lockgateref03_Mul.l0, if_neg (by omega), wrap_u64, oi_mul, ofInt_U, ofInt_U, rof_f]
    simp only [Option.bind_some, radd_f, mulS]
  | succ d ih =>
    intro k i av am bv bm sv sm hi hk
    obtain ⟨k, rfl⟩ : ∃ m, k = m + 1 := ⟨k - 1, by omega⟩
    have hh := fun sv sm => ih k (i + 1) av am bv bm sv sm (by omega) (by omega)
    have e1 : ∀ x : W, x >>> i >>> 1 = x >>> (i + 1) := fun x => by rw [BitVec.shiftRight_add]
    have e2 : ∀ x : W, x <<< i <<< 1 = x <<< (i + 1) := fun x => by rw [BitVec.shiftLeft_add]
    have e3 : ∀ x : W, (x >>> i).getLsbD 0 = x.getLsbD i := fun x => by rw [BitVec.getLsbD_ushiftRight, Nat.add_zero]
    have e4 : (bv ||| bm) <<< i = bv <<< i ||| bm <<< i := by rw [BitVec.shiftLeft_or_distrib]
    have z : (0 : Int) = U 0 := rfl
    rw [lockgateref03_Mul.l0, if_pos (by omega), if_pos (by omega), u_succ i (by omega)]
    simp only [bit_eq1, mulS, mulT, e1, e2, e3, b_or, ofInt_U, shl_U, Int.toNat_natCast, e4]
    cases h1 : av.getLsbD i
    · cases h2 : am.getLsbD i
      · simp only [Bool.false_eq_true, if_false]; exact hh _ _
      · simp only [Bool.false_eq_true, if_false, if_true]; rw [z, radd_f]; simp only [Option.bind_some]; exact hh _ _
    · simp only [if_true]; rw [z, radd_f]; simp only [Option.bind_some]; exact hh _ _
theorem rmul_f (k : Nat) (hk : 65 ≤ k) (av am bv bm : W) : lockgateref03_Mul.f k (U av) (U am) (U bv) (U bm) = some (U (tMulV av am bv bm), U (tMulM av am bv bm)) := by
  rw [lockgateref03_Mul.f, show lockgateref03_Of.f 0 = some (U 0, U 0) from rfl]
  simp only [Option.bind_some]
  have := rmul_l 64 k 0 av am bv bm 0 0 rfl (by omega)
  rw [BitVec.ushiftRight_zero, BitVec.ushiftRight_zero, BitVec.shiftLeft_zero, BitVec.shiftLeft_zero] at this
  exact this
/-! Arsh, Cut -/
theorem rdown_l (w : Nat) (hw : w = 64 ∨ w = 32) (d : Nat) : ∀ (k i n : Nat) (v : W), n < w → i + d = w → d < k →
    lockgateref03_down.l0 k (U v) (n : Int) (w : Int) (U (acc (fun j => v.getLsbD (min (j + n) (w - 1))) i)) (i : Int) = some (U (acc (fun j => v.getLsbD (min (j + n) (w - 1))) w)) := by
  induction d with
  | zero =>
    intro k i n v hn hi hk
    obtain ⟨k, rfl⟩ : ∃ m, k = m + 1 := ⟨k - 1, by omega⟩
    obtain rfl : i = w := by omega
    rw [lockgateref03_down.l0, if_neg (by omega)]
  | succ d ih =>
    intro k i n v hn hi hk
    obtain ⟨k, rfl⟩ : ∃ m, k = m + 1 := ⟨k - 1, by omega⟩
    have hm : mn (IntKind.u64.wrap ((i : Int) + n)) (IntKind.u64.wrap ((w : Int) - 1)) = ((min (i + n) (w - 1) : Nat) : Int) := by
      simp only [wrap_u64, U_ofInt, mn]
      split <;> omega
    rw [lockgateref03_down.l0, if_pos (by omega), hm, if_pos (by omega), if_pos (by omega), u_succ i (by omega)]
    have hh := ih k (i + 1) n v hn (by omega) (by omega)
    rw [← hh]
    congr 1
    rw [bit_at, shl_bit, b_or, ofInt_U, ofInt_U, acc]
theorem rdown_f (w : Nat) (hw : w = 64 ∨ w = 32) (k n : Nat) (hk : 65 ≤ k) (hn : n < w) (v : W) : lockgateref03_down.f k (U v) (n : Int) (w : Int) = some (U (acc (fun j => v.getLsbD (min (j + n) (w - 1))) w)) := by
  rw [lockgateref03_down.f]
  exact rdown_l w hw w k 0 n v hn (by omega) (by omega)
theorem acc_sshr (v : W) (n : Nat) (hn : n < 64) : acc (fun j => v.getLsbD (min (j + n) (64 - 1))) 64 = v.sshiftRight n := by
  apply acc_eq (by omega)
  · intro i hi
    rw [BitVec.getLsbD_sshiftRight]
    simp only [hi, show ¬ 64 ≤ i by omega, decide_false, Bool.not_false, Bool.true_and]
    by_cases h : n + i < 64
    · rw [if_pos h, Nat.min_eq_left (by omega), Nat.add_comm]
    · rw [if_neg h, Nat.min_eq_right (by omega), BitVec.msb_eq_getLsbD_last]
  · intro i h1 h2; omega
end Go.Proofs.YtceclodenhgoeaaGreat.C03
end
section
/- Layer 3: the program's shifts with a sign, and cuts. -/
set_option linter.unusedVariables false
set_option linter.unusedSimpArgs false
set_option linter.unusedSectionVars false
namespace Go.Proofs.YtceclodenhgoeaaGreat.C03
open Go.RowKit Go.Proofs.YtceclodenhgoeaaGreatW.PrintWords Go.Proofs.YtceclodenhgoeaaGreatW.PrintLast Go.Proofs.YtceclodenhgoeaaGreatW.PrintMore Go.Proofs.YtceclodenhgoeaaGreat.PA Go.Proofs.YtceclodenhgoeaaGreat.Bv Go.Proofs.YtceclodenhgoeaaGreat.Tn
/-- Arsh, of a value or a mask. -/
def sar (x : W) (n b : W) (any : W) : W := if S b = 64 then x.sshiftRight (n.toNat % 64) else if S b = 32 then sar32 x (n.toNat % 32) else any
theorem arsh_f (v m n b : W) : tnum_Arsh.f (U v) (U m) (S n) (S b) = some (U (sar v n b 0), U (sar m n b (-1))) := by
  unfold tnum_Arsh.f sar
  by_cases h1 : S b = 64
  · simp only [if_pos h1, wrap_u64, wrap_i64, ofInt_S, ofInt_U, cnt64]
    rw [if_pos (by omega), shr_S, shr_S]; simp only [ofInt_S, Int.toNat_natCast]
  · simp only [if_neg h1]
    by_cases h2 : S b = 32
    · simp only [if_pos h2, wrap_u64, ofInt_S, cnt32]
      rw [if_pos (by omega), sar32_f, sar32_f]
    · simp only [if_neg h2, any_f, Option.bind_some]
/-- Cut, of a value or a mask. -/
def cut (x : W) (n : W) : W := if 8 ≤ S n then x else if S n < 1 then 0 else x &&& ~~~ ((-1 : W) <<< (8 * (S n).toNat))
end Go.Proofs.YtceclodenhgoeaaGreat.C03
end
section
/- Layer 3: the reference's shifts with a sign, and cuts. -/
set_option linter.unusedVariables false
set_option linter.unusedSimpArgs false
set_option linter.unusedSectionVars false
namespace Go.Proofs.YtceclodenhgoeaaGreat.C03
open Go.RowKit Go.Proofs.YtceclodenhgoeaaGreatW.PrintWords Go.Proofs.YtceclodenhgoeaaGreatW.PrintLast Go.Proofs.YtceclodenhgoeaaGreatW.PrintMore Go.Proofs.YtceclodenhgoeaaGreat.PA Go.Proofs.YtceclodenhgoeaaGreat.Bv Go.Proofs.YtceclodenhgoeaaGreat.Tn
theorem rarsh_f (k : Nat) (hk : 66 ≤ k) (v m n b : W) : lockgateref03_Arsh.f k (U v) (U m) (S n) (S b) = some (U (sar v n b 0), U (sar m n b (-1))) := by
  obtain ⟨k, rfl⟩ : ∃ m, k = m + 1 := ⟨k - 1, by omega⟩
  unfold lockgateref03_Arsh.f sar
  simp only [lockgateref03_Arsh.j0]
  by_cases h1 : S b = 64
  · rw [h1]
    simp only [if_true, show ¬ (64 : Int) = 32 by decide, if_false, bne_self_eq_false, Bool.false_eq_true, rcount64_f, Option.bind_some]
    rw [show IntKind.u64.wrap 64 = ((64 : Nat) : Int) by decide, rdown_f 64 (.inl rfl) k _ (by omega) (by omega), rdown_f 64 (.inl rfl) k _ (by omega) (by omega)]
    simp only [Option.bind_some]
    rw [acc_sshr _ _ (by omega), acc_sshr _ _ (by omega)]
  · simp only [if_neg h1]
    by_cases h2 : S b = 32
    · rw [h2]
      simp only [if_true, Bool.false_eq_true, if_false, rcount32_f, Option.bind_some]
      rw [show IntKind.u64.wrap 32 = ((32 : Nat) : Int) by decide, rdown_f 32 (.inr rfl) k _ (by omega) (by omega), rdown_f 32 (.inr rfl) k _ (by omega) (by omega)]
      simp only [Option.bind_some]
      rw [sar32_acc _ _ (by omega), sar32_acc _ _ (by omega)]
    · have : (S b != 64) = true := by simpa using h1
      simp only [if_neg h2, this, if_true, rany_f, Option.bind_some]
end Go.Proofs.YtceclodenhgoeaaGreat.C03
end
section
/- Layer 1's Alu, over bit vectors. -/
set_option linter.unusedVariables false
set_option linter.unusedSimpArgs false
set_option linter.unusedSectionVars false
namespace Go.Proofs.YtceclodenhgoeaaGreat.C01
open Go.RowKit Go.Proofs.YtceclodenhgoeaaGreatW.PrintWords Go.Proofs.YtceclodenhgoeaaGreatW.PrintLast Go.Proofs.YtceclodenhgoeaaGreatW.PrintMore Go.Proofs.YtceclodenhgoeaaGreat.PA Go.Proofs.YtceclodenhgoeaaGreat.Bv
/-- an operation of 64 bits, but for Arsh; is there one. -/
def aluW (op : Int) (a b : W) : W := if op = 0 then a + b else if op = 1 then a - b else if op = 2 then a * b else if op = 3 then a / b else if op = 9 then a % b else if op = 4 then a ||| b else if op = 5 then a &&& b else if op = 10 then a ^^^ b
  else if op = 6 then a <<< (b.toNat % 64) else if op = 7 then a >>> (b.toNat % 64) else if op = 8 then -a else if op = 11 then b else 0
def aluN (op : Int) (a b : W32) : W32 := if op = 0 then a + b else if op = 1 then a - b else if op = 2 then a * b else if op = 3 then a / b else if op = 9 then a % b else if op = 4 then a ||| b else if op = 5 then a &&& b else if op = 10 then a ^^^ b
  else if op = 6 then a <<< (b.toNat % 32) else if op = 7 then a >>> (b.toNat % 32) else if op = 8 then -a else if op = 11 then b else 0
def isAlu (op : Int) : Bool := decide (0 ≤ op ∧ op ≤ 11)
theorem U_div (a b : W) : Int.tdiv (U a) (U b) = U (a / b) := by
  rw [Int.tdiv_eq_ediv_of_nonneg (U_nonneg _)]; unfold U; rw [BitVec.toNat_udiv]; norm_cast
theorem U_mod (a b : W) : Int.tmod (U a) (U b) = U (a % b) := by
  rw [Int.tmod_eq_emod_of_nonneg (U_nonneg _)]; unfold U; rw [BitVec.toNat_umod]; norm_cast
theorem V_nonneg (x : W32) : 0 ≤ V x := by unfold V; omega
theorem V_div (a b : W32) : Int.tdiv (V a) (V b) = V (a / b) := by
  rw [Int.tdiv_eq_ediv_of_nonneg (V_nonneg _)]; unfold V; rw [BitVec.toNat_udiv]; norm_cast
theorem V_mod (a b : W32) : Int.tmod (V a) (V b) = V (a % b) := by
  rw [Int.tmod_eq_emod_of_nonneg (V_nonneg _)]; unfold V; rw [BitVec.toNat_umod]; norm_cast
theorem wrapU (x : W) : IntKind.u64.wrap (U x) = U x := by rw [wrap_u64, ofInt_U]
theorem V_inj (x y : W32) : V x = V y ↔ x = y := by
  constructor
  · intro h; have := congrArg (BitVec.ofInt 32) h; simpa [ofInt_V] using this
  · rintro rfl; rfl
theorem V_eq_zero (x : W32) : V x = 0 ↔ x = 0 := by rw [show (0 : Int) = V 0 from rfl, V_inj]
theorem cntU64 (n : W) : Int.tmod (U n) 64 = ((n.toNat % 64 : Nat) : Int) := by
  rw [Int.tmod_eq_emod_of_nonneg (U_nonneg _)]; unfold U; omega
theorem cntU32 (n : W) : Int.tmod (U n) 32 = ((n.toNat % 32 : Nat) : Int) := by
  rw [Int.tmod_eq_emod_of_nonneg (U_nonneg _)]; unfold U; omega
theorem cntV32 (n : W32) : Int.tmod (V n) 32 = ((n.toNat % 32 : Nat) : Int) := by
  rw [Int.tmod_eq_emod_of_nonneg (V_nonneg _)]; unfold V; omega
theorem mod32 (n : Int) : n % 4294967296 = V (BitVec.ofInt 32 n) := (V_ofInt n).symm
theorem oi32_sub (a b : Int) : BitVec.ofInt 32 (a - b) = BitVec.ofInt 32 a - BitVec.ofInt 32 b := by
  rw [Int.sub_eq_add_neg, BitVec.ofInt_add, BitVec.ofInt_neg, BitVec.sub_eq_add_neg]
theorem wrap_u32 (n : Int) : IntKind.u32.wrap n = V (BitVec.ofInt 32 n) := by
  rw [V_ofInt]; simp [IntKind.wrap, IntKind.signed, IntKind.bits]
theorem b32_wrap (z : W32) : IntKind.u32.wrap (z.toNat : Int) = V z := by
  rw [wrap_u32, BitVec.ofInt_natCast]; simp
theorem n_and (a b : Int) : Go.bits .and .u32 a b = V (BitVec.ofInt 32 a &&& BitVec.ofInt 32 b) := b32_wrap _
theorem n_or (a b : Int) : Go.bits .or .u32 a b = V (BitVec.ofInt 32 a ||| BitVec.ofInt 32 b) := b32_wrap _
theorem n_xor (a b : Int) : Go.bits .xor .u32 a b = V (BitVec.ofInt 32 a ^^^ BitVec.ofInt 32 b) := b32_wrap _
theorem shl_V (x : W32) (n : Nat) (hn : n < 32) : shl .u32 (V x) (n : Int) = V (x <<< n) := by
  unfold shl
  rw [wrap_u32]
  congr 1
  rw [BitVec.ofInt_mul, ofInt_V, Int.toNat_natCast, show IntKind.u32.bits = 32 from rfl, Nat.min_eq_left (by omega)]
  have e : (2 : Int) ^ n = ((2 ^ n : Nat) : Int) := by norm_cast
  rw [e, BitVec.ofInt_natCast]
  apply BitVec.eq_of_toNat_eq
  rw [BitVec.toNat_mul, BitVec.toNat_ofNat, BitVec.toNat_shiftLeft, Nat.shiftLeft_eq]
  simp [Nat.mul_mod]
theorem shr_V (x : W32) (n : Nat) (hn : n < 32) : shr .u32 (V x) (n : Int) = V (x >>> n) := by
  unfold shr V
  rw [BitVec.toNat_ushiftRight, Nat.shiftRight_eq_div_pow, Int.toNat_natCast, show IntKind.u32.bits = 32 from rfl, Nat.min_eq_left (by omega)]; norm_cast
theorem pure64_f (op : Int) (a b : W) : word_pure_uint64.f op (U a) (U b) 64 = some (U (aluW op a b), isAlu op) := by
  unfold word_pure_uint64.f aluW
  by_cases h : 0 ≤ op ∧ op ≤ 11
  · have hi : isAlu op = true := by unfold isAlu; simp [h]
    have z : (0 : Int) = U 0 := rfl
    rw [hi]
    obtain ⟨h1, h2⟩ := h
    have : op = 0 ∨ op = 1 ∨ op = 2 ∨ op = 3 ∨ op = 4 ∨ op = 5 ∨ op = 6 ∨ op = 7 ∨ op = 8 ∨ op = 9 ∨ op = 10 ∨ op = 11 := by omega
    rcases this with rfl | rfl | rfl | rfl | rfl | rfl | rfl | rfl | rfl | rfl | rfl | rfl
    · simp [wrap_u64, oi_add, ofInt_U]
    · simp [wrap_u64, oi_sub, ofInt_U]
    · simp [wrap_u64, oi_mul, ofInt_U]
    · simp only [U_div, wrapU, U_eq_zero]
      by_cases hb : b = 0
      · subst hb; simp [U]
      · rw [if_neg hb]; simp
    · simp [b_or, ofInt_U]
    · simp [b_and, ofInt_U]
    · obtain ⟨m, hm⟩ : ∃ m, m = b.toNat % 64 := ⟨_, rfl⟩
      simp only [cntU64, ← hm]; simp [shl_U]
    · obtain ⟨m, hm⟩ : ∃ m, m = b.toNat % 64 := ⟨_, rfl⟩
      simp only [cntU64, ← hm]; simp [shr_U]
    · simp [wrap_u64, oi_neg, ofInt_U]
    · simp only [U_mod, U_eq_zero]
      by_cases hb : b = 0
      · subst hb; simp
      · simp; intro e; exact absurd e hb
    · simp [b_xor, ofInt_U]
    · simp
  · have hi : isAlu op = false := by unfold isAlu; simp only [decide_eq_false_iff_not]; exact h
    rw [hi]
    have n0 : ∀ j : Int, 0 ≤ j ∧ j ≤ 11 → op ≠ j := fun j hj e => h (e ▸ hj)
    simp only [n0 0 (by decide), n0 1 (by decide), n0 2 (by decide), n0 3 (by decide), n0 4 (by decide), n0 5 (by decide), n0 6 (by decide), n0 7 (by decide), n0 8 (by decide), n0 9 (by decide), n0 10 (by decide), n0 11 (by decide), if_false]
    rfl
theorem pure32_f (op : Int) (a b : W32) : word_pure_uint32.f op (V a) (V b) 32 = some (V (aluN op a b), isAlu op) := by
  unfold word_pure_uint32.f aluN
  by_cases h : 0 ≤ op ∧ op ≤ 11
  · have hi : isAlu op = true := by unfold isAlu; simp [h]
    rw [hi]
    obtain ⟨h1, h2⟩ := h
    have : op = 0 ∨ op = 1 ∨ op = 2 ∨ op = 3 ∨ op = 4 ∨ op = 5 ∨ op = 6 ∨ op = 7 ∨ op = 8 ∨ op = 9 ∨ op = 10 ∨ op = 11 := by omega
    rcases this with rfl | rfl | rfl | rfl | rfl | rfl | rfl | rfl | rfl | rfl | rfl | rfl
    · simp [mod32, BitVec.ofInt_add, ofInt_V]
    · simp [mod32, oi32_sub, ofInt_V]
    · simp [mod32, BitVec.ofInt_mul, ofInt_V]
    · simp only [V_div, mod32, ofInt_V, V_eq_zero]
      by_cases hb : b = 0
      · subst hb; simp [V]
      · rw [if_neg hb]; simp
    · simp [n_or, ofInt_V]
    · simp [n_and, ofInt_V]
    · obtain ⟨m, hm⟩ : ∃ m, m = b.toNat % 32 := ⟨_, rfl⟩
      have hl : m < 32 := by omega
      simp only [cntV32, ← hm]; simp [shl_V _ _ hl]
    · obtain ⟨m, hm⟩ : ∃ m, m = b.toNat % 32 := ⟨_, rfl⟩
      have hl : m < 32 := by omega
      simp only [cntV32, ← hm]; simp [shr_V _ _ hl]
    · simp [mod32, BitVec.ofInt_neg, ofInt_V]
    · simp only [V_mod, V_eq_zero]
      by_cases hb : b = 0
      · subst hb; simp
      · simp; intro e; exact absurd e hb
    · simp [n_xor, ofInt_V]
    · simp
  · have hi : isAlu op = false := by unfold isAlu; simp only [decide_eq_false_iff_not]; exact h
    rw [hi]
    have n0 : ∀ j : Int, 0 ≤ j ∧ j ≤ 11 → op ≠ j := fun j hj e => h (e ▸ hj)
    simp only [n0 0 (by decide), n0 1 (by decide), n0 2 (by decide), n0 3 (by decide), n0 4 (by decide), n0 5 (by decide), n0 6 (by decide), n0 7 (by decide), n0 8 (by decide), n0 9 (by decide), n0 10 (by decide), n0 11 (by decide), if_false]
    rfl
def alu (op : Int) (wide : Bool) (a b : W) : W := if op = 12 then (if wide then a.sshiftRight (b.toNat % 64) else sar32 a (b.toNat % 32)) else if wide then aluW op a b else up (aluN op (lo a) (lo b))
def isOp (op : Int) : Bool := decide (0 ≤ op ∧ op ≤ 12)
theorem alu_f (k : Nat) (hk : 1 ≤ k) (op : Int) (wide : Bool) (a b : W) : word_Alu.f k op wide (U a) (U b) = some (U (alu op wide a b), isOp op) := by
  obtain ⟨k, rfl⟩ : ∃ m, k = m + 1 := ⟨k - 1, by omega⟩
  unfold word_Alu.f alu
  simp only [word_Alu.j0]
  by_cases h : op = 12
  · subst h
    simp only [if_true]
    cases wide
    · simp only [Bool.false_eq_true, if_false, cntU32]
      rw [if_pos (by omega), sar32_f]; rfl
    · simp only [if_true, cntU64, wrap_u64, wrap_i64, ofInt_U]
      rw [if_pos (by omega), shr_S, ofInt_S]; rfl
  · have hi : isOp op = isAlu op := by unfold isOp isAlu; rw [decide_eq_decide]; omega
    simp only [if_neg h, Bool.false_eq_true, if_false, hi]
    cases wide
    · simp only [Bool.false_eq_true, if_false]; rw [U_mod32, U_mod32, pure32_f]; simp only [Option.bind_some, ← U_up, wrapU]
    · simp only [if_true, pure64_f, Option.bind_some]
end Go.Proofs.YtceclodenhgoeaaGreat.C01
end
section
/- Layer 1's reference, over bit vectors: sums, products, quotients bit by bit. -/
set_option linter.unusedVariables false
set_option linter.unusedSimpArgs false
set_option linter.unusedSectionVars false
namespace Go.Proofs.YtceclodenhgoeaaGreat.C01
open Go.RowKit Go.Proofs.YtceclodenhgoeaaGreatW.PrintWords Go.Proofs.YtceclodenhgoeaaGreatW.PrintLast Go.Proofs.YtceclodenhgoeaaGreatW.PrintMore Go.Proofs.YtceclodenhgoeaaGreat.PA Go.Proofs.YtceclodenhgoeaaGreat.Bv
theorem w_nat (i : Nat) (h : i < 18446744073709551616) : IntKind.u64.wrap (i : Int) = (i : Int) := by rw [wrap_u64, U_ofInt]; omega
theorem i_succ (i : Nat) (h : i < 100) : wrap64 ((i : Int) + 1) = ((i + 1 : Nat) : Int) := by unfold wrap64; omega
theorem bit_f (a : W) (i : Nat) (h : i < 64) : lockgateref01_bit.f (U a) (i : Int) = some (U (b1 (a.getLsbD i))) := by
  rw [lockgateref01_bit.f, w_nat i (by omega), if_pos (by omega), bit_at]
theorem ci_succ (i : Nat) (x y : W) (c : Bool) : BitVec.carry (i + 1) x y c = (x.getLsbD i && y.getLsbD i || (x.getLsbD i || y.getLsbD i) && BitVec.carry i x y c) := by
  rw [BitVec.carry_succ, Bool.atLeastTwo]
  cases x.getLsbD i <;> cases y.getLsbD i <;> cases BitVec.carry i x y c <;> rfl
/-- a sum with a carry. -/
def sum (a b : W) (c : Bool) : W := a + b + b1 c
theorem sum_bit (a b : W) (c : Bool) (i : Nat) (h : i < 64) : (sum a b c).getLsbD i = (a.getLsbD i ^^ (b.getLsbD i ^^ BitVec.carry i a b c)) := by
  have e : sum a b c = a + b + (BitVec.ofBool c).setWidth 64 := by unfold sum b1; cases c <;> rfl
  rw [e, BitVec.getLsbD_add_add_bool h]
theorem three (x y z : Bool) : IntKind.u64.wrap (IntKind.u64.wrap (U (b1 x) + U (b1 y)) + U (b1 z)) = U (b1 x + b1 y + b1 z) := by
  simp only [wrap_u64, oi_add, ofInt_U]
theorem three_mod (x y z : Bool) : Int.tmod (U (b1 x + b1 y + b1 z)) 2 = U (b1 (x ^^ (y ^^ z))) := by cases x <;> cases y <;> cases z <;> decide
theorem three_div (x y z : Bool) : IntKind.u64.wrap (Int.tdiv (U (b1 x + b1 y + b1 z)) 2) = U (b1 (x && y || (x || y) && z)) := by cases x <;> cases y <;> cases z <;> decide
theorem add_l (a b : W) (c : Bool) (d : Nat) : ∀ (k i : Nat), i + d = 64 → d < k →
    lockgateref01_add.l0 k (U a) (U b) (U (b1 (BitVec.carry i a b c))) (U (acc (fun j => (sum a b c).getLsbD j) i)) (i : Int) = some (U (sum a b c)) := by
  induction d with
  | zero =>
    intro k i hi hk
    obtain ⟨k, rfl⟩ : ∃ m, k = m + 1 := ⟨k - 1, by omega⟩
    obtain rfl : i = 64 := by omega
    rw [lockgateref01_add.l0, if_neg (by omega), acc_self]
  | succ d ih =>
    intro k i hi hk
    obtain ⟨k, rfl⟩ : ∃ m, k = m + 1 := ⟨k - 1, by omega⟩
    rw [lockgateref01_add.l0, if_pos (by omega), bit_f a i (by omega), bit_f b i (by omega)]
    simp only [Option.bind_some]
    rw [three, three_mod, three_div, w_nat i (by omega), if_pos (by omega), shl_bit, b_or, ofInt_U, ofInt_U, i_succ i (by omega), ← ci_succ, ← sum_bit a b c i (by omega)]
    exact ih k (i + 1) (by omega) (by omega)
theorem add_f (k : Nat) (hk : 65 ≤ k) (a b : W) (c : Bool) : lockgateref01_add.f k (U a) (U b) (U (b1 c)) = some (U (sum a b c)) := by
  have h := add_l a b c 64 k 0 rfl (by omega)
  have e : BitVec.carry 0 a b c = c := by simp
  rw [e] at h
  exact h
theorem add0_f (k : Nat) (hk : 65 ≤ k) (a b : W) : lockgateref01_add.f k (U a) (U b) 0 = some (U (a + b)) := by
  have := add_f k hk a b false
  rw [sum, show b1 false = 0 from rfl, show a + b + 0 = a + b by simp] at this
  exact this
theorem add1_f (k : Nat) (hk : 65 ≤ k) (a b : W) : lockgateref01_add.f k (U a) (U (~~~b)) 1 = some (U (a - b)) := by
  have := add_f k hk a (~~~b) true
  rw [sum, show b1 true = 1 from rfl, show a + ~~~b + 1 = a - b by rw [BitVec.not_eq_neg_add]; grind] at this
  exact this
theorem not_l (a : W) (d : Nat) : ∀ (k i : Nat), i + d = 64 → d < k → lockgateref01_not.l0 k (U a) (U (acc (fun j => !a.getLsbD j) i)) (i : Int) = some (U (acc (fun j => !a.getLsbD j) 64)) := by
  induction d with
  | zero =>
    intro k i hi hk
    obtain ⟨k, rfl⟩ : ∃ m, k = m + 1 := ⟨k - 1, by omega⟩
    obtain rfl : i = 64 := by omega
    rw [lockgateref01_not.l0, if_neg (by omega)]
  | succ d ih =>
    intro k i hi hk
    obtain ⟨k, rfl⟩ : ∃ m, k = m + 1 := ⟨k - 1, by omega⟩
    have e : IntKind.u64.wrap (1 - U (b1 (a.getLsbD i))) = U (b1 (!a.getLsbD i)) := by cases a.getLsbD i <;> decide
    rw [lockgateref01_not.l0, if_pos (by omega), bit_f a i (by omega)]
    simp only [Option.bind_some]
    rw [e, w_nat i (by omega), if_pos (by omega), shl_bit, b_or, ofInt_U, ofInt_U, i_succ i (by omega)]
    exact ih k (i + 1) (by omega) (by omega)
theorem not_f (k : Nat) (hk : 65 ≤ k) (a : W) : lockgateref01_not.f k (U a) = some (U (~~~a)) := by
  have h := not_l a 64 k 0 rfl (by omega)
  have e : acc (fun j => !a.getLsbD j) 64 = ~~~a := by
    apply acc_eq (by omega)
    · intro i hi; rw [BitVec.getLsbD_not]; simp [hi]
    · intro i h1 h2; omega
  rw [e] at h
  exact h
theorem times_l (a b : W) (d : Nat) : ∀ (k i : Nat) (s : W), i + d = 64 → d + 65 < k → lockgateref01_times.l0 k (U a) (U b) (U s) (i : Int) = some (U (s + (a >>> i) * (b <<< i))) := by
  induction d with
  | zero =>
    intro k i s hi hk
    obtain ⟨k, rfl⟩ : ∃ m, k = m + 1 := ⟨k - 1, by omega⟩
    obtain rfl : i = 64 := by omega
    rw [lockgateref01_times.l0, if_neg (by omega)]
    have : a >>> 64 = 0 := by
      apply BitVec.eq_of_toNat_eq; rw [BitVec.toNat_ushiftRight, Nat.shiftRight_eq_div_pow]
      have := a.isLt; simp; omega
    rw [this]; simp
  | succ d ih =>
    intro k i s hi hk
    obtain ⟨k, rfl⟩ : ∃ m, k = m + 1 := ⟨k - 1, by omega⟩
    have e3 : (a >>> i).getLsbD 0 = a.getLsbD i := by rw [BitVec.getLsbD_ushiftRight, Nat.add_zero]
    have e1 : a >>> i >>> 1 = a >>> (i + 1) := by rw [BitVec.shiftRight_add]
    have e2 : b <<< i <<< 1 = b <<< (i + 1) := by rw [BitVec.shiftLeft_add]
    rw [lockgateref01_times.l0, if_pos (by omega), bit_f a i (by omega)]
    simp only [Option.bind_some, w_nat i (by omega), i_succ i (show i < 100 by omega)]
    rw [prod_step (a >>> i) (b <<< i), e1, e2, e3]
    cases h : a.getLsbD i
    · rw [if_neg (by decide), ih k (i + 1) s (by omega) (by omega)]; simp [b1]
    · rw [if_pos (by decide), if_pos (by omega), shl_U, Int.toNat_natCast, add0_f k (by omega)]
      simp only [Option.bind_some]
      rw [ih k (i + 1) _ (by omega) (by omega)]
      simp [b1, BitVec.add_assoc]
theorem times_f (k : Nat) (hk : 131 ≤ k) (a b : W) : lockgateref01_times.f k (U a) (U b) = some (U (a * b)) := by
  have h := times_l a b 64 k 0 0 rfl (by omega)
  rw [BitVec.ushiftRight_zero, BitVec.shiftLeft_zero, show 0 + a * b = a * b by simp] at h
  exact h
end Go.Proofs.YtceclodenhgoeaaGreat.C01
end
section
/- Layer 1's reference: quotients, bits, shifts down, orders. -/
set_option linter.unusedVariables false
set_option linter.unusedSimpArgs false
set_option linter.unusedSectionVars false
namespace Go.Proofs.YtceclodenhgoeaaGreat.C01
open Go.RowKit Go.Proofs.YtceclodenhgoeaaGreatW.PrintWords Go.Proofs.YtceclodenhgoeaaGreatW.PrintLast Go.Proofs.YtceclodenhgoeaaGreatW.PrintMore Go.Proofs.YtceclodenhgoeaaGreat.PA Go.Proofs.YtceclodenhgoeaaGreat.Bv
theorem i_pred (i : Nat) (h : i < 100) : wrap64 ((i : Int) - 1) = (i : Int) - 1 := by unfold wrap64; omega
/-- n bits of a are still to come: the quotient so far, at its place; what is left over so far. -/
def dQ (a b : W) (n : Nat) : W := BitVec.ofNat 64 (a.toNat / 2 ^ n / b.toNat * 2 ^ n)
def dR (a b : W) (n : Nat) : W := BitVec.ofNat 64 (a.toNat / 2 ^ n % b.toNat)
theorem dQ_toNat (a b : W) (n : Nat) : (dQ a b n).toNat = a.toNat / 2 ^ n / b.toNat * 2 ^ n := by
  unfold dQ
  rw [BitVec.toNat_ofNat]
  apply Nat.mod_eq_of_lt
  have h1 : a.toNat / 2 ^ n / b.toNat ≤ a.toNat / 2 ^ n := Nat.div_le_self _ _
  have h2 : a.toNat / 2 ^ n * 2 ^ n ≤ a.toNat := Nat.div_mul_le_self _ _
  have h3 := Nat.mul_le_mul_right (2 ^ n) h1
  have := a.isLt
  omega
theorem dR_toNat (a b : W) (hb : b ≠ 0) (n : Nat) : (dR a b n).toNat = a.toNat / 2 ^ n % b.toNat := by
  unfold dR
  rw [BitVec.toNat_ofNat]
  apply Nat.mod_eq_of_lt
  have h0 : 0 < b.toNat := by
    rcases Nat.eq_zero_or_pos b.toNat with h | h
    · exact absurd (BitVec.eq_of_toNat_eq (by simpa using h)) hb
    · exact h
  have := Nat.mod_lt (a.toNat / 2 ^ n) h0
  have := b.isLt
  omega
theorem half_step (A n : Nat) : A / 2 ^ n = 2 * (A / 2 ^ (n + 1)) + A / 2 ^ n % 2 := by
  rw [Nat.pow_succ, ← Nat.div_div_eq_div_mul]; omega
theorem b1_toNat (b : Bool) : (b1 b).toNat = if b then 1 else 0 := by cases b <;> rfl
theorem bit_nat (a : W) (n : Nat) : (b1 (a.getLsbD n)).toNat = a.toNat / 2 ^ n % 2 := by
  rw [b1_toNat, BitVec.getLsbD, Nat.testBit_eq_decide_div_mod_eq]
  have := Nat.mod_two_eq_zero_or_one (a.toNat / 2 ^ n)
  rcases this with h | h <;> simp [h]
/-- a step down: what the quotient and the rest become. -/
theorem step_nat (m q r b bit : Nat) (hb : 0 < b) (hq : q = m / b) (hr : r = m % b) (hbit : bit < 2) :
    (2 * m + bit) / b = 2 * q + (if b ≤ 2 * r + bit then 1 else 0) ∧ (2 * m + bit) % b = 2 * r + bit - (if b ≤ 2 * r + bit then b else 0) := by
  have h1 : m = b * q + r := by rw [hq, hr]; exact (Nat.div_add_mod m b).symm
  have h2 : r < b := by rw [hr]; exact Nat.mod_lt _ hb
  have h3 : 2 * m + bit = b * (2 * q) + (2 * r + bit) := by rw [h1, Nat.mul_add]; have : b * (2 * q) = 2 * (b * q) := by rw [Nat.mul_left_comm]
                                                            omega
  by_cases h : b ≤ 2 * r + bit
  · rw [if_pos h, if_pos h]
    have h4 : 2 * m + bit = b * (2 * q + 1) + (2 * r + bit - b) := by rw [h3, Nat.mul_add, Nat.mul_one]; omega
    rw [h4]
    constructor
    · rw [Nat.mul_add_div hb, Nat.div_eq_of_lt (show 2 * r + bit - b < b by omega)]
    · rw [Nat.mul_add_mod, Nat.mod_eq_of_lt (by omega)]
  · rw [if_neg h, if_neg h, h3]
    constructor
    · rw [Nat.mul_add_div hb, Nat.div_eq_of_lt (by omega)]
    · rw [Nat.mul_add_mod, Nat.mod_eq_of_lt (by omega), Nat.sub_zero]
theorem divide_l (a b : W) (hb : b ≠ 0) (n : Nat) : ∀ k, n ≤ 64 → 2 * n + 66 < k →
    lockgateref01_divide.l0 k (U a) (U b) (U (dQ a b n)) (U (dR a b n)) ((n : Int) - 1) = some (U (a / b), U (a % b)) := by
  have h0 : 0 < b.toNat := by
    rcases Nat.eq_zero_or_pos b.toNat with h | h
    · exact absurd (BitVec.eq_of_toNat_eq (by simpa using h)) hb
    · exact h
  induction n with
  | zero =>
    intro k _ hk
    obtain ⟨k, rfl⟩ : ∃ m, k = m + 1 := ⟨k - 1, by omega⟩
    rw [lockgateref01_divide.l0, if_neg (by omega)]
    congr 2
    · apply congrArg; apply BitVec.eq_of_toNat_eq; rw [dQ_toNat, BitVec.toNat_udiv]; simp
    · apply congrArg; apply BitVec.eq_of_toNat_eq; rw [dR_toNat a b hb, BitVec.toNat_umod]; simp
  | succ n ih =>
    intro k hn hk
    obtain ⟨k, rfl⟩ : ∃ m, k = m + 2 := ⟨k - 2, by omega⟩
    have ih' := ih k (by omega) (by omega)
    have hi : ((n + 1 : Nat) : Int) - 1 = (n : Int) := by omega
    have e63 : (63 : Int) = ((63 : Nat) : Int) := rfl
    obtain ⟨sQ, sR⟩ := step_nat (a.toNat / 2 ^ (n + 1)) _ _ b.toNat (a.toNat / 2 ^ n % 2) h0 rfl rfl (Nat.mod_lt _ (by decide))
    rw [← half_step] at sQ sR
    have hR := dR_toNat a b hb (n + 1)
    have hR' := dR_toNat a b hb n
    have hlt := Nat.mod_lt (a.toNat / 2 ^ (n + 1)) h0
    have hbl := b.isLt
    have hbit := bit_nat a n
    have hov : (dR a b (n + 1)).getLsbD 63 = decide (2 ^ 63 ≤ (dR a b (n + 1)).toNat) := by
      rw [← BitVec.msb_eq_getLsbD_last, BitVec.msb_eq_decide]
    have hw : IntKind.u64.wrap (IntKind.u64.wrap (U (dR a b (n + 1)) * 2) + U (b1 (a.getLsbD n))) = U (dR a b (n + 1) + dR a b (n + 1) + b1 (a.getLsbD n)) := by
      simp only [wrap_u64, oi_add, oi_mul, ofInt_U]
      apply congrArg
      rw [show BitVec.ofInt 64 2 = (2 : W) by decide]
      grind
    have hsum : (dR a b (n + 1) + dR a b (n + 1) + b1 (a.getLsbD n)).toNat = (2 * (a.toNat / 2 ^ (n + 1) % b.toNat) + a.toNat / 2 ^ n % 2) % 2 ^ 64 := by
      rw [BitVec.toNat_add, BitVec.toNat_add, hR, hbit]; omega
    have hb2 : a.toNat / 2 ^ n % 2 < 2 := Nat.mod_lt _ (by decide)
    rw [lockgateref01_divide.l0, if_pos (by omega), e63, bit_f _ 63 (by omega), hi, bit_f a n (by omega)]
    simp only [Option.bind_some]
    rw [hw]
    have key : (if U (b1 ((dR a b (n + 1)).getLsbD 63)) = 1 then lockgateref01_divide.j1 (k + 1) (U a) (U b) (U (dQ a b (n + 1))) (U (dR a b (n + 1) + dR a b (n + 1) + b1 (a.getLsbD n))) (n : Int) true
        else lockgateref01_divide.j1 (k + 1) (U a) (U b) (U (dQ a b (n + 1))) (U (dR a b (n + 1) + dR a b (n + 1) + b1 (a.getLsbD n))) (n : Int) (decide (U (dR a b (n + 1) + dR a b (n + 1) + b1 (a.getLsbD n)) ≥ U b)))
        = lockgateref01_divide.j1 (k + 1) (U a) (U b) (U (dQ a b (n + 1))) (U (dR a b (n + 1) + dR a b (n + 1) + b1 (a.getLsbD n))) (n : Int) (decide (b.toNat ≤ 2 * (a.toNat / 2 ^ (n + 1) % b.toNat) + a.toNat / 2 ^ n % 2)) := by
      rw [hov]
      by_cases h : 2 ^ 63 ≤ (dR a b (n + 1)).toNat
      · rw [decide_eq_true h, if_pos (by decide)]
        congr 1; symm; rw [decide_eq_true_iff]; omega
      · rw [decide_eq_false h, if_neg (by decide)]
        congr 1; rw [decide_eq_decide, ge_iff_le, U_le_iff, BitVec.le_def, hsum]; omega
    rw [key, lockgateref01_divide.j1, not_f k (by omega)]
    simp only [Option.bind_some]
    rw [show lockgateref01_add.f k (U (dR a b (n + 1) + dR a b (n + 1) + b1 (a.getLsbD n))) (U (~~~b)) 1 = _ from add_f k (by omega) _ _ true, w_nat n (by omega)]
    have hQ := dQ_toNat a b (n + 1)
    have hQ' := dQ_toNat a b n
    have hi2 : wrap64 ((n : Int) - 1) = (n : Int) - 1 := i_pred n (by omega)
    have p0 : (0 : Int) ≤ (n : Int) := by omega
    by_cases h : b.toNat ≤ 2 * (a.toNat / 2 ^ (n + 1) % b.toNat) + a.toNat / 2 ^ n % 2
    · rw [if_pos h] at sQ sR
      simp only [Option.bind_some, if_pos (decide_eq_true h), if_pos p0]
      have eQ : Go.bits .or .u64 (U (dQ a b (n + 1))) (shl .u64 1 (n : Int)) = U (dQ a b n) := by
        rw [show (1 : Int) = U (b1 true) from rfl, shl_bit, b_or, ofInt_U, ofInt_U]
        apply congrArg
        have hz : dQ a b (n + 1) &&& b1 true <<< n = 0 := by
          apply and_zero_of
          intro j hj
          rw [getLsbD_b1_shl _ _ _ hj]
          by_cases e : j = n
          · subst e
            rw [BitVec.getLsbD, hQ, Nat.testBit_mul_two_pow, decide_eq_false (show ¬ j + 1 ≤ j by omega)]; rfl
          · simp [e]
        rw [← BitVec.add_eq_or_of_and_eq_zero _ _ hz]
        apply BitVec.eq_of_toNat_eq
        have h1 : (b1 true <<< n).toNat = 2 ^ n := by
          rw [BitVec.toNat_shiftLeft, Nat.shiftLeft_eq, show (b1 true).toNat = 1 from rfl, Nat.one_mul]
          exact Nat.mod_eq_of_lt (Nat.pow_lt_pow_right (by decide) (by omega))
        have h2 : (dQ a b n).toNat < 2 ^ 64 := (dQ a b n).isLt
        rw [BitVec.toNat_add, hQ, h1, hQ', sQ]
        rw [hQ', sQ] at h2
        rw [Nat.pow_succ, Nat.add_mul, Nat.one_mul] at *
        have : a.toNat / (2 ^ n * 2) / b.toNat * (2 ^ n * 2) = 2 * (a.toNat / (2 ^ n * 2) / b.toNat) * 2 ^ n := by
          rw [Nat.mul_comm (2 ^ n) 2, ← Nat.mul_assoc, Nat.mul_comm _ 2]
        rw [this]
        exact Nat.mod_eq_of_lt h2
      have eR : sum (dR a b (n + 1) + dR a b (n + 1) + b1 (a.getLsbD n)) (~~~b) true = dR a b n := by
        have : sum (dR a b (n + 1) + dR a b (n + 1) + b1 (a.getLsbD n)) (~~~b) true = dR a b (n + 1) + dR a b (n + 1) + b1 (a.getLsbD n) - b := by
          rw [sum, show b1 true = 1 from rfl, BitVec.not_eq_neg_add]; grind
        rw [this]
        apply BitVec.eq_of_toNat_eq
        rw [BitVec.toNat_sub, hsum, hR', sR]
        have := Nat.mod_lt (a.toNat / 2 ^ n) h0
        omega
      rw [eQ, eR, hi2]
      exact ih'
    · rw [if_neg h] at sQ sR
      simp only [Option.bind_some, decide_eq_false h, Bool.false_eq_true, if_false]
      have eQ : dQ a b (n + 1) = dQ a b n := by
        apply BitVec.eq_of_toNat_eq
        rw [hQ, hQ', sQ, Nat.pow_succ, Nat.add_zero, Nat.mul_comm (2 ^ n) 2, ← Nat.mul_assoc, Nat.mul_comm _ 2]
      have eR : dR a b (n + 1) + dR a b (n + 1) + b1 (a.getLsbD n) = dR a b n := by
        apply BitVec.eq_of_toNat_eq
        rw [hsum, hR', sR]; omega
      rw [eQ, eR, hi2]
      exact ih'
theorem divide_f (k : Nat) (hk : 195 ≤ k) (a b : W) (hb : b ≠ 0) : lockgateref01_divide.f k (U a) (U b) = some (U (a / b), U (a % b)) := by
  have h := divide_l a b hb 64 k (by omega) (by omega)
  have e1 : dQ a b 64 = 0 := by
    apply BitVec.eq_of_toNat_eq; rw [dQ_toNat, Nat.div_eq_of_lt a.isLt]; simp
  have e2 : dR a b 64 = 0 := by
    apply BitVec.eq_of_toNat_eq; rw [dR_toNat a b hb, Nat.div_eq_of_lt a.isLt]; simp
  rw [e1, e2] at h
  exact h
end Go.Proofs.YtceclodenhgoeaaGreat.C01
end
section
/- Layer 1's reference: bits, shifts down, what is low; its Alu. -/
set_option linter.unusedVariables false
set_option linter.unusedSimpArgs false
set_option linter.unusedSectionVars false
namespace Go.Proofs.YtceclodenhgoeaaGreat.C01
open Go.RowKit Go.Proofs.YtceclodenhgoeaaGreatW.PrintWords Go.Proofs.YtceclodenhgoeaaGreatW.PrintLast Go.Proofs.YtceclodenhgoeaaGreatW.PrintMore Go.Proofs.YtceclodenhgoeaaGreat.PA Go.Proofs.YtceclodenhgoeaaGreat.Bv
/-- what an operation of the bits makes of two bits. -/
def opB (op : Int) (x y : Bool) : Bool := if op = 4 then x || y else if op = 5 then x && y else if op = 10 then x ^^ y else false
theorem two_bits (x y : Bool) : IntKind.u64.wrap (U (b1 x) + U (b1 y)) = (if x then 1 else 0) + (if y then 1 else 0) := by cases x <;> cases y <;> decide
theorem bits_l (op : Int) (hop : op = 4 ∨ op = 5 ∨ op = 10) (a b : W) (d : Nat) : ∀ (k i : Nat), i + d = 64 → d < k →
    lockgateref01_bits.l0 k op (U a) (U b) (U (acc (fun j => opB op (a.getLsbD j) (b.getLsbD j)) i)) (i : Int) = some (U (acc (fun j => opB op (a.getLsbD j) (b.getLsbD j)) 64)) := by
  induction d with
  | zero =>
    intro k i hi hk
    obtain ⟨k, rfl⟩ : ∃ m, k = m + 1 := ⟨k - 1, by omega⟩
    obtain rfl : i = 64 := by omega
    rw [lockgateref01_bits.l0, if_neg (by omega)]
  | succ d ih =>
    intro k i hi hk
    obtain ⟨k, rfl⟩ : ∃ m, k = m + 1 := ⟨k - 1, by omega⟩
    have hh := ih k (i + 1) (by omega) (by omega)
    have p0 : (0 : Int) ≤ (i : Int) := by omega
    have sh : shl .u64 1 (i : Int) = U (b1 true <<< i) := shl_bit true i
    have e0 : ∀ c : Bool, opB op (a.getLsbD i) (b.getLsbD i) = c → (if c then lockgateref01_bits.l0 k op (U a) (U b) (U (acc (fun j => opB op (a.getLsbD j) (b.getLsbD j)) i ||| b1 true <<< i)) ((i + 1 : Nat) : Int) else lockgateref01_bits.l0 k op (U a) (U b) (U (acc (fun j => opB op (a.getLsbD j) (b.getLsbD j)) i)) ((i + 1 : Nat) : Int)) = some (U (acc (fun j => opB op (a.getLsbD j) (b.getLsbD j)) 64)) := by
      intro c hc
      rw [acc, hc] at hh
      cases c
      · rw [show (b1 false <<< i) = 0 by simp [b1], show ∀ z : W, z ||| 0 = z from fun z => by simp] at hh; exact hh
      · exact hh
    rw [lockgateref01_bits.l0, if_pos (by omega), bit_f a i (by omega), bit_f b i (by omega)]
    simp only [Option.bind_some, two_bits, w_nat i (show i < 18446744073709551616 by omega), i_succ i (show i < 100 by omega), if_pos p0, sh, b_or, ofInt_U]
    have e1 := e0 _ rfl
    rcases hop with rfl | rfl | rfl
    · simp only [opB, if_true] at e1 hh ⊢
      revert e1
      cases a.getLsbD i <;> cases b.getLsbD i <;> simp
    · simp only [opB, if_true] at e1 hh ⊢
      revert e1
      cases a.getLsbD i <;> cases b.getLsbD i <;> simp
    · simp only [opB, if_true] at e1 hh ⊢
      revert e1
      cases a.getLsbD i <;> cases b.getLsbD i <;> simp
theorem bits_f (k : Nat) (hk : 65 ≤ k) (op : Int) (hop : op = 4 ∨ op = 5 ∨ op = 10) (a b : W) : lockgateref01_bits.f k op (U a) (U b) = some (U (aluW op a b)) := by
  have h := bits_l op hop a b 64 k 0 rfl (by omega)
  have e : acc (fun j => opB op (a.getLsbD j) (b.getLsbD j)) 64 = aluW op a b := by
    apply acc_eq (by omega)
    · intro i hi
      rcases hop with rfl | rfl | rfl
      · simp [aluW, opB]
      · simp [aluW, opB]
      · simp [aluW, opB]
    · intro i h1 h2; omega
  rw [e] at h
  exact h
theorem down_l (a : W) (n w : Nat) (hw : w ≤ 64) (hn : n < 64) (c : Bool) (d : Nat) : ∀ (k i : Nat), i + d = w → d < k →
    lockgateref01_down.l0 k (U a) (n : Int) (w : Int) (U (b1 c)) (U (acc (fun j => if j + n < w then a.getLsbD (j + n) else c) i)) (i : Int) = some (U (acc (fun j => if j + n < w then a.getLsbD (j + n) else c) w)) := by
  induction d with
  | zero =>
    intro k i hi hk
    obtain ⟨k, rfl⟩ : ∃ m, k = m + 1 := ⟨k - 1, by omega⟩
    obtain rfl : i = w := by omega
    rw [lockgateref01_down.l0, if_neg (by omega)]
  | succ d ih =>
    intro k i hi hk
    obtain ⟨k, rfl⟩ : ∃ m, k = m + 1 := ⟨k - 1, by omega⟩
    have hh := ih k (i + 1) (by omega) (by omega)
    have p0 : (0 : Int) ≤ (i : Int) := by omega
    have hs : wrap64 ((i : Int) + (n : Int)) = ((i + n : Nat) : Int) := by unfold wrap64; omega
    rw [acc] at hh
    rw [lockgateref01_down.l0, if_pos (by omega), hs]
    by_cases h : i + n < w
    · rw [if_pos (by omega), bit_f a (i + n) (by omega)]
      simp only [Option.bind_some]
      rw [w_nat i (by omega), if_pos p0, shl_bit, b_or, ofInt_U, ofInt_U, i_succ i (by omega)]
      rw [if_pos h] at hh; exact hh
    · rw [if_neg (by omega), w_nat i (by omega), if_pos p0, shl_bit, b_or, ofInt_U, ofInt_U, i_succ i (by omega)]
      rw [if_neg h] at hh; exact hh
theorem down_f (k : Nat) (hk : 65 ≤ k) (a : W) (n w : Nat) (hw : w ≤ 64) (hn : n < 64) (c : Bool) : lockgateref01_down.f k (U a) (n : Int) (w : Int) (U (b1 c)) = some (U (acc (fun j => if j + n < w then a.getLsbD (j + n) else c) w)) :=
  down_l a n w hw hn c w k 0 (by omega) (by omega)
theorem low64_f (a : W) : lockgateref01_Low.f (U a) 64 = some (U a) := by rw [lockgateref01_Low.f, if_pos (by decide)]
theorem low32_f (a : W) : lockgateref01_Low.f (U a) 32 = some (U (up (lo a))) := by
  rw [lockgateref01_Low.f, if_neg (by decide), show IntKind.u64.wrap 32 = 32 by decide, if_pos (by decide), show shl .u64 1 32 = 4294967296 by decide, if_neg (by decide), Int.tmod_eq_emod_of_nonneg (U_nonneg _), U_mod32, U_up]
/-! The low half of what is made of low halves. -/
theorem lo_up (x : W32) : lo (up x) = x := by
  apply BitVec.eq_of_getLsbD_eq; intro i hi
  rw [lo_bit, up_bit]; simp [hi, show i < 64 by omega]
theorem lo_add (x y : W) : lo (x + y) = lo x + lo y := by unfold lo; rw [BitVec.setWidth_add _ _ (by decide)]
theorem lo_mul (x y : W) : lo (x * y) = lo x * lo y := by unfold lo; rw [BitVec.setWidth_mul _ _ (by decide)]
theorem lo_neg (x : W) : lo (-x) = - lo x := by
  have h := lo_add x (-x)
  rw [show x + -x = 0 by grind, show lo 0 = 0 by decide] at h
  have : lo (-x) = - lo x + (lo x + lo (-x)) := by grind
  rw [this, ← h]; simp
theorem lo_sub (x y : W) : lo (x - y) = lo x - lo y := by
  rw [BitVec.sub_eq_add_neg, lo_add, lo_neg, BitVec.sub_eq_add_neg]
theorem lo_and (x y : W) : lo (x &&& y) = lo x &&& lo y := by unfold lo; rw [BitVec.setWidth_and]
theorem lo_or (x y : W) : lo (x ||| y) = lo x ||| lo y := by unfold lo; rw [BitVec.setWidth_or]
theorem lo_xor (x y : W) : lo (x ^^^ y) = lo x ^^^ lo y := by unfold lo; rw [BitVec.setWidth_xor]
theorem up_toNat (x : W32) : (up x).toNat = x.toNat := by unfold up; rw [BitVec.toNat_setWidth]; have := x.isLt; omega
theorem up_div (x y : W32) : up x / up y = up (x / y) := by
  apply BitVec.eq_of_toNat_eq; rw [BitVec.toNat_udiv, up_toNat, up_toNat, up_toNat, BitVec.toNat_udiv]
theorem up_mod (x y : W32) : up x % up y = up (x % y) := by
  apply BitVec.eq_of_toNat_eq; rw [BitVec.toNat_umod, up_toNat, up_toNat, up_toNat, BitVec.toNat_umod]
theorem lo_shl (x : W) (n : Nat) : lo (x <<< n) = lo x <<< n := by
  apply BitVec.eq_of_getLsbD_eq; intro i hi
  rw [lo_bit, BitVec.getLsbD_shiftLeft, BitVec.getLsbD_shiftLeft, lo_bit]
  simp only [hi, show i < 64 by omega, decide_true, Bool.true_and, show i - n < 32 by omega]
end Go.Proofs.YtceclodenhgoeaaGreat.C01
end
section
/- Layer 1's reference: its Alu is the program's. -/
set_option linter.unusedVariables false
set_option linter.unusedSimpArgs false
set_option linter.unusedSectionVars false
namespace Go.Proofs.YtceclodenhgoeaaGreat.C01
open Go.RowKit Go.Proofs.YtceclodenhgoeaaGreatW.PrintWords Go.Proofs.YtceclodenhgoeaaGreatW.PrintLast Go.Proofs.YtceclodenhgoeaaGreatW.PrintMore Go.Proofs.YtceclodenhgoeaaGreat.PA Go.Proofs.YtceclodenhgoeaaGreat.Bv
theorem cases13 {op : Int} (h : 0 ≤ op ∧ op ≤ 12) : op = 0 ∨ op = 1 ∨ op = 2 ∨ op = 3 ∨ op = 4 ∨ op = 5 ∨ op = 6 ∨ op = 7 ∨ op = 8 ∨ op = 9 ∨ op = 10 ∨ op = 11 ∨ op = 12 := by omega
theorem pos_iff (b : W) : (U b > 0) ↔ b ≠ 0 := by
  have h1 := U_eq_zero b
  have h2 := U_nonneg b
  constructor
  · intro h e; have := h1.2 e; omega
  · intro h; have : ¬ U b = 0 := fun e => h (h1.1 e); omega
/-- how many bits; what is low. -/
def wd (wide : Bool) : Nat := if wide then 64 else 32
def low (wide : Bool) (a : W) : W := if wide then a else up (lo a)
theorem low_f (wide : Bool) (a : W) : lockgateref01_Low.f (U a) (wd wide : Int) = some (U (low wide a)) := by
  cases wide
  · exact low32_f a
  · exact low64_f a
theorem low0_f (wide : Bool) : lockgateref01_Low.f 0 (wd wide : Int) = some (U (low wide 0)) := low_f wide 0
theorem wd_wrap (wide : Bool) : IntKind.u64.wrap (wd wide : Int) = (wd wide : Int) := by cases wide <;> decide
theorem wd_ne (wide : Bool) : ¬ ((wd wide : Int) = 0) := by cases wide <;> decide
theorem wd_cnt (wide : Bool) (b : W) : wrap64 (Int.tmod (U b) (wd wide : Int)) = ((b.toNat % wd wide : Nat) : Int) := by
  cases wide
  · show wrap64 (Int.tmod (U b) 32) = ((b.toNat % 32 : Nat) : Int)
    rw [cntU32]; unfold wrap64; omega
  · show wrap64 (Int.tmod (U b) 64) = ((b.toNat % 64 : Nat) : Int)
    rw [cntU64]; unfold wrap64; omega
theorem wd_le (wide : Bool) : wd wide ≤ 64 ∧ 0 < wd wide := by cases wide <;> decide
theorem wd_top (wide : Bool) : wrap64 ((wd wide : Int) - 1) = ((wd wide - 1 : Nat) : Int) := by cases wide <;> (unfold wrap64; decide)
/-- what the reference makes, before it is cut. -/
def res (wide : Bool) (op : Int) (a b : W) : W := if op = 7 then acc (fun j => if j + b.toNat % wd wide < wd wide then a.getLsbD (j + b.toNat % wd wide) else false) (wd wide)
  else if op = 12 then acc (fun j => if j + b.toNat % wd wide < wd wide then a.getLsbD (j + b.toNat % wd wide) else a.getLsbD (wd wide - 1)) (wd wide)
  else if op = 6 then a <<< (b.toNat % wd wide) else aluW op a b
section
variable (wide : Bool) (a b : W)
theorem j2_bits (k : Nat) (hk : 280 ≤ k) (op : Int) (hop : op = 4 ∨ op = 5 ∨ op = 10) (n o : Int) : lockgateref01_Alu.j2 k op (U a) (U b) (wd wide : Int) n o true = some (U (low wide (res wide op a b)), true) := by
  obtain ⟨k, rfl⟩ : ∃ m, k = m + 1 := ⟨k - 1, by omega⟩
  rw [lockgateref01_Alu.j2, if_pos rfl, bits_f k (by omega) op hop]
  simp only [Option.bind_some, low_f]
  have e : res wide op a b = aluW op a b := by rcases hop with rfl | rfl | rfl <;> simp [res]
  rw [e]
theorem j2_rest (k : Nat) (hk : 280 ≤ k) (op : Int) (hop : op = 6 ∨ op = 7 ∨ op = 8 ∨ op = 11 ∨ op = 12) : lockgateref01_Alu.j2 k op (U a) (U b) (wd wide : Int) ((b.toNat % wd wide : Nat) : Int) op false = some (U (low wide (res wide op a b)), true) := by
  obtain ⟨k, rfl⟩ : ∃ m, k = m + 1 := ⟨k - 1, by omega⟩
  obtain ⟨w1, w2⟩ := wd_le wide
  have hl : b.toNat % wd wide < wd wide := Nat.mod_lt _ w2
  rw [lockgateref01_Alu.j2, if_neg (by decide)]
  rcases hop with rfl | rfl | rfl | rfl | rfl
  · rw [if_pos rfl, w_nat _ (by omega), if_pos (by omega), shl_U, Int.toNat_natCast, low_f]
    simp [res]
  · have hd : lockgateref01_down.f k (U a) ((b.toNat % wd wide : Nat) : Int) (wd wide : Int) 0 = _ := down_f k (by omega) a (b.toNat % wd wide) (wd wide) w1 (by omega) false
    rw [if_neg (by decide), if_pos rfl, hd]
    simp only [Option.bind_some, low_f]
    simp [res]
  · have h0 : lockgateref01_add.f k 0 (U (~~~a)) 1 = some (U (0 - a)) := add1_f k (by omega) 0 a
    have e0 : (0 : W) - a = -a := by simp
    rw [e0] at h0
    rw [if_neg (by decide), if_neg (by decide), if_pos rfl, not_f k (by omega)]
    simp only [Option.bind_some, h0, low_f]
    simp [res, aluW]
  · rw [if_neg (by decide), if_neg (by decide), if_neg (by decide), if_pos rfl, low_f]
    simp [res, aluW]
  · rw [if_neg (by decide), if_neg (by decide), if_neg (by decide), if_neg (by decide), if_pos rfl, wd_top, bit_f a _ (by omega)]
    simp only [Option.bind_some]
    rw [down_f k (by omega) a (b.toNat % wd wide) (wd wide) w1 (by omega)]
    simp only [Option.bind_some, low_f]
    simp [res]
theorem j2_none (k : Nat) (hk : 1 ≤ k) (op : Int) (h : ¬ (0 ≤ op ∧ op ≤ 12)) (n : Int) : lockgateref01_Alu.j2 k op (U a) (U b) (wd wide : Int) n op false = some (0, false) := by
  obtain ⟨k, rfl⟩ : ∃ m, k = m + 1 := ⟨k - 1, by omega⟩
  rw [lockgateref01_Alu.j2, if_neg (by decide), if_neg (by omega), if_neg (by omega), if_neg (by omega), if_neg (by omega), if_neg (by omega)]
theorem j1_div (k : Nat) (hk : 290 ≤ k) (op : Int) (hop : op = 3 ∨ op = 9) (n o : Int) : lockgateref01_Alu.j1 k op (U a) (U b) (wd wide : Int) n o true = some (U (low wide (res wide op a b)), true) := by
  obtain ⟨k, rfl⟩ : ∃ m, k = m + 1 := ⟨k - 1, by omega⟩
  rw [lockgateref01_Alu.j1, if_pos rfl]
  by_cases hb : b = 0
  · rw [if_neg (by rw [pos_iff]; exact fun h => h hb)]
    subst hb
    rcases hop with rfl | rfl
    · rw [if_neg (by decide), low0_f]; simp [res, aluW]
    · rw [if_pos rfl, low_f]; simp [res, aluW]
  · rw [if_pos ((pos_iff b).2 hb), divide_f k (by omega) a b hb]
    rcases hop with rfl | rfl
    · simp only [Option.bind_some]
      rw [if_neg (by decide), low_f]; simp [res, aluW]
    · simp only [Option.bind_some]
      rw [if_pos trivial, low_f]; simp [res, aluW]
theorem j1_other (k : Nat) (hk : 290 ≤ k) (op : Int) (h : 4 ≤ op ∧ op ≤ 12 ∧ op ≠ 9) : lockgateref01_Alu.j1 k op (U a) (U b) (wd wide : Int) ((b.toNat % wd wide : Nat) : Int) op false = some (U (low wide (res wide op a b)), true) := by
  obtain ⟨k, rfl⟩ : ∃ m, k = m + 1 := ⟨k - 1, by omega⟩
  rw [lockgateref01_Alu.j1, if_neg (by decide)]
  by_cases h4 : op = 4
  · rw [if_pos h4, show (op == 4) = true by simpa using h4]; exact j2_bits wide a b k (by omega) op (.inl h4) _ _
  · rw [if_neg h4]
    by_cases h5 : op = 5
    · rw [if_pos h5, show (op == 5) = true by simpa using h5]; exact j2_bits wide a b k (by omega) op (.inr (.inl h5)) _ _
    · rw [if_neg h5]
      by_cases h10 : op = 10
      · rw [show (op == 10) = true by simpa using h10]; exact j2_bits wide a b k (by omega) op (.inr (.inr h10)) _ _
      · rw [show (op == 10) = false by simpa using h10]; exact j2_rest wide a b k (by omega) op (by omega)
theorem j1_none (k : Nat) (hk : 2 ≤ k) (op : Int) (h : ¬ (0 ≤ op ∧ op ≤ 12)) (n : Int) : lockgateref01_Alu.j1 k op (U a) (U b) (wd wide : Int) n op false = some (0, false) := by
  obtain ⟨k, rfl⟩ : ∃ m, k = m + 1 := ⟨k - 1, by omega⟩
  have h10 : (op == 10) = false := by simp; omega
  rw [lockgateref01_Alu.j1, if_neg (by decide), if_neg (by omega), if_neg (by omega), h10]
  exact j2_none wide a b k (by omega) op h n
theorem j0_f (k : Nat) (hk : 300 ≤ k) (op : Int) : lockgateref01_Alu.j0 k op (U a) (U b) (wd wide : Int) = if 0 ≤ op ∧ op ≤ 12 then some (U (low wide (res wide op (low wide a) (low wide b))), true) else some (0, false) := by
  obtain ⟨k, rfl⟩ : ∃ m, k = m + 1 := ⟨k - 1, by omega⟩
  rw [lockgateref01_Alu.j0, low_f, low_f]
  refine bs rfl (bs rfl ?_)
  generalize low wide a = A
  generalize low wide b = B
  rw [wd_wrap, if_neg (wd_ne wide), wd_cnt]
  by_cases h0 : op = 0
  · subst h0; rw [if_pos rfl, if_pos (by decide), add0_f k (by omega)]; simp only [Option.bind_some, low_f]; simp [res, aluW]
  · rw [if_neg h0]
    by_cases h1 : op = 1
    · subst h1; rw [if_pos rfl, if_pos (by decide), not_f k (by omega)]; simp only [Option.bind_some, add1_f k (show 65 ≤ k by omega), low_f]; simp [res, aluW]
    · rw [if_neg h1]
      by_cases h2 : op = 2
      · subst h2; rw [if_pos rfl, if_pos (by decide), times_f k (by omega)]; simp only [Option.bind_some, low_f]; simp [res, aluW]
      · rw [if_neg h2]
        by_cases h3 : op = 3
        · subst h3; rw [if_pos rfl, if_pos (by decide)]; exact j1_div wide A B k (by omega) 3 (.inl rfl) _ _
        · rw [if_neg h3]
          by_cases h9 : op = 9
          · subst h9; rw [if_pos (by decide)]; exact j1_div wide A B k (by omega) 9 (.inr rfl) _ _
          · rw [show (op == 9) = false by simpa using h9]
            by_cases h : 0 ≤ op ∧ op ≤ 12
            · rw [if_pos h]; exact j1_other wide A B k (by omega) op (by omega)
            · rw [if_neg h]; exact j1_none wide A B k (by omega) op h _
end
end Go.Proofs.YtceclodenhgoeaaGreat.C01
end
section
/- Layer 1: the reference's Alu is the program's. -/
set_option linter.unusedVariables false
set_option linter.unusedSimpArgs false
set_option linter.unusedSectionVars false
namespace Go.Proofs.YtceclodenhgoeaaGreat.C01
open Go.RowKit Go.Proofs.YtceclodenhgoeaaGreatW.PrintWords Go.Proofs.YtceclodenhgoeaaGreatW.PrintLast Go.Proofs.YtceclodenhgoeaaGreatW.PrintMore Go.Proofs.YtceclodenhgoeaaGreat.PA Go.Proofs.YtceclodenhgoeaaGreat.Bv
theorem res_wide (op : Int) (a b : W) : res true op a b = alu op true a b := by
  unfold res alu wd
  simp only [if_true]
  by_cases h7 : op = 7
  · subst h7
    rw [if_pos rfl, if_neg (by decide)]
    have hl : b.toNat % 64 < 64 := Nat.mod_lt _ (by decide)
    have e : acc (fun j => if j + b.toNat % 64 < 64 then a.getLsbD (j + b.toNat % 64) else false) 64 = a >>> (b.toNat % 64) := by
      apply acc_eq (by omega)
      · intro i hi
        rw [BitVec.getLsbD_ushiftRight, Nat.add_comm _ i]
        by_cases h : i + b.toNat % 64 < 64
        · rw [if_pos h]
        · rw [if_neg h, BitVec.getLsbD_of_ge _ _ (by omega)]
      · intro i h1 h2; omega
    rw [e]; simp [aluW]
  · rw [if_neg h7]
    by_cases h12 : op = 12
    · rw [if_pos h12, if_pos h12]
      apply acc_eq (by omega)
      · intro i hi
        rw [BitVec.getLsbD_sshiftRight, Nat.add_comm _ i, BitVec.msb_eq_getLsbD_last]
        simp only [show ¬ 64 ≤ i by omega, decide_false, Bool.not_false, Bool.true_and]
      · intro i h1 h2; omega
    · rw [if_neg h12, if_neg h12]
      by_cases h6 : op = 6
      · subst h6; rw [if_pos rfl]; simp [aluW]
      · rw [if_neg h6]
theorem res_narrow (op : Int) (h : 0 ≤ op ∧ op ≤ 12) (a b : W) : low false (res false op (low false a) (low false b)) = alu op false a b := by
  have hl : ∀ x, low false x = up (lo x) := fun _ => rfl
  have hn : (up (lo b)).toNat % wd false = b.toNat % 32 := by
    rw [up_toNat]; unfold lo; rw [BitVec.toNat_setWidth]; show _ % 32 = _; omega
  have hw : wd false = 32 := rfl
  have hm : (lo b).toNat % 32 = b.toNat % 32 := by unfold lo; rw [BitVec.toNat_setWidth]; omega
  have hlt : b.toNat % 32 < 32 := Nat.mod_lt _ (by decide)
  simp only [hl]
  unfold res alu
  rw [hn, hw]
  simp only [Bool.false_eq_true, if_false]
  rcases cases13 h with rfl | rfl | rfl | rfl | rfl | rfl | rfl | rfl | rfl | rfl | rfl | rfl | rfl
  · simp [aluW, aluN, lo_add, lo_up]
  · simp [aluW, aluN, lo_sub, lo_up]
  · simp [aluW, aluN, lo_mul, lo_up]
  · simp [aluW, aluN, up_div, lo_up]
  · simp [aluW, aluN, lo_or, lo_up]
  · simp [aluW, aluN, lo_and, lo_up]
  · simp only [show ¬ (6 : Int) = 7 by decide, show ¬ (6 : Int) = 12 by decide, if_false, if_true]
    rw [lo_shl, lo_up]; simp [aluN, hm]
  · simp only [show ¬ (7 : Int) = 12 by decide, if_false, if_true]
    have e : acc (fun j => if j + b.toNat % 32 < 32 then (up (lo a)).getLsbD (j + b.toNat % 32) else false) 32 = up (lo a >>> (b.toNat % 32)) := by
      apply acc_eq (by omega)
      · intro i hi
        rw [up_bit, BitVec.getLsbD_ushiftRight, Nat.add_comm _ i]
        simp only [show i < 64 by omega, decide_true, Bool.true_and]
        by_cases h : i + b.toNat % 32 < 32
        · rw [if_pos h, up_bit]; simp [show i + b.toNat % 32 < 64 by omega]
        · rw [if_neg h, BitVec.getLsbD_of_ge _ _ (by omega)]
      · intro i h1 h2
        rw [up_bit, BitVec.getLsbD_of_ge _ _ (by omega)]; simp
    rw [e, lo_up]; simp [aluN, hm]
  · simp [aluW, aluN, lo_neg, lo_up]
  · simp [aluW, aluN, up_mod, lo_up]
  · simp [aluW, aluN, lo_xor, lo_up]
  · simp [aluW, aluN, lo_up]
  · simp only [show ¬ (12 : Int) = 7 by decide, if_false, if_true]
    have e : acc (fun j => if j + b.toNat % 32 < 32 then (up (lo a)).getLsbD (j + b.toNat % 32) else (up (lo a)).getLsbD (32 - 1)) 32 = up ((lo a).sshiftRight (b.toNat % 32)) := by
      apply acc_eq (by omega)
      · intro i hi
        rw [up_bit, BitVec.getLsbD_sshiftRight, Nat.add_comm _ i, BitVec.msb_eq_getLsbD_last]
        simp only [show i < 64 by omega, show ¬ 32 ≤ i by omega, decide_true, decide_false, Bool.not_false, Bool.true_and]
        by_cases h : i + b.toNat % 32 < 32
        · rw [if_pos h, if_pos h, up_bit]; simp [show i + b.toNat % 32 < 64 by omega]
        · rw [if_neg h, if_neg h, up_bit]; simp
      · intro i h1 h2
        rw [up_bit, BitVec.getLsbD_sshiftRight]; simp [h1]
    rw [e, lo_up]; rfl
theorem alu_none (op : Int) (h : ¬ (0 ≤ op ∧ op ≤ 12)) (wide : Bool) (a b : W) : alu op wide a b = 0 := by
  have n0 : ∀ j : Int, 0 ≤ j ∧ j ≤ 12 → op ≠ j := fun j hj e => h (e ▸ hj)
  unfold alu aluW aluN
  simp only [n0 0 (by decide), n0 1 (by decide), n0 2 (by decide), n0 3 (by decide), n0 4 (by decide), n0 5 (by decide), n0 6 (by decide), n0 7 (by decide), n0 8 (by decide), n0 9 (by decide), n0 10 (by decide), n0 11 (by decide), n0 12 (by decide), if_false]
  cases wide <;> rfl
theorem ralu_f (k : Nat) (hk : 300 ≤ k) (op : Int) (wide : Bool) (a b : W) : lockgateref01_Alu.f k op wide (U a) (U b) = some (U (alu op wide a b), isOp op) := by
  have h := j0_f wide a b k hk op
  have e : lockgateref01_Alu.f k op wide (U a) (U b) = lockgateref01_Alu.j0 k op (U a) (U b) (wd wide : Int) := by
    cases wide
    · rw [lockgateref01_Alu.f, if_neg (by decide)]; rfl
    · rw [lockgateref01_Alu.f, if_pos rfl]; rfl
  rw [e, h]
  by_cases hop : 0 ≤ op ∧ op ≤ 12
  · rw [if_pos hop, show isOp op = true from decide_eq_true hop]
    cases wide
    · rw [res_narrow op hop]
    · rw [show ∀ x, low true x = x from fun _ => rfl, show ∀ x, low true x = x from fun _ => rfl, show ∀ x, low true x = x from fun _ => rfl, res_wide]
  · rw [if_neg hop, alu_none op hop, show isOp op = false from decide_eq_false hop]; rfl
end Go.Proofs.YtceclodenhgoeaaGreat.C01
end
