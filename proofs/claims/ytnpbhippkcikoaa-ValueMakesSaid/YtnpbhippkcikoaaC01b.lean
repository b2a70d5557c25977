/- Layer 1's reference: bits, shifts down, what is low; its Alu. -/
import Derived.Test.YtnpbhippkcikoaaC01q
import Derived.Test.YtnpbhippkcikoaaPA11
import Derived.Test.YtnpbhippkcikoaaPA12
import Derived.Test.YtnpbhippkcikoaaPA13
import Derived.Test.YtnpbhippkcikoaaPA14
set_option linter.unusedVariables false
set_option linter.unusedSimpArgs false
set_option linter.unusedSectionVars false
namespace Go.Proofs.Ytnpbhippkcikoaa.C01
open Go.RowKit Go.Proofs.YtnpbhippkcikoaaW.PrintWords Go.Proofs.YtnpbhippkcikoaaW.PrintLast Go.Proofs.YtnpbhippkcikoaaW.PrintMore Go.Proofs.Ytnpbhippkcikoaa.PA Go.Proofs.Ytnpbhippkcikoaa.Bv
/-- what an operation of the bits makes of two bits. -/
def opB (op : Int) (x y : Bool) : Bool := if op = 4 then x || y else if op = 5 then x && y else if op = 10 then x ^^ y else false
theorem two_bits (x y : Bool) : IntKind.u64.wrap (U (b1 x) + U (b1 y)) = (if x then 1 else 0) + (if y then 1 else 0) := by cases x <;> cases y <;> decide
theorem bits_l (op : Int) (hop : op = 4 ∨ op = 5 ∨ op = 10) (a b : W) (d : Nat) : ∀ (k i : Nat), i + d = 64 → d < k →
    lockgateref01_bits.l0 k op (U a) (U b) (U (acc (fun j => opB op (a.getLsbD j) (b.getLsbD j)) i)) (i : Int) = some (U (acc (fun j => opB op (a.getLsbD j) (b.getLsbD j)) 64)) := by
  induction d with
  | zero =>
    intro k i hi hk
    obtain ⟨k, rfl⟩ : ∃ m, k = m + 1 := ⟨k - 1, by omega⟩
    obtain rfl : i = 64 := by omega
    rw [lockgateref01_bits.l0, if_neg (by omega)]
  | succ d ih =>
    intro k i hi hk
    obtain ⟨k, rfl⟩ : ∃ m, k = m + 1 := ⟨k - 1, by omega⟩
    have hh := ih k (i + 1) (by omega) (by omega)
    have p0 : (0 : Int) ≤ (i : Int) := by omega
    have sh : shl .u64 1 (i : Int) = U (b1 true <<< i) := shl_bit true i
    have e0 : ∀ c : Bool, opB op (a.getLsbD i) (b.getLsbD i) = c → (if c then lockgateref01_bits.l0 k op (U a) (U b) (U (acc (fun j => opB op (a.getLsbD j) (b.getLsbD j)) i ||| b1 true <<< i)) ((i + 1 : Nat) : Int) else lockgateref01_bits.l0 k op (U a) (U b) (U (acc (fun j => opB op (a.getLsbD j) (b.getLsbD j)) i)) ((i + 1 : Nat) : Int)) = some (U (acc (fun j => opB op (a.getLsbD j) (b.getLsbD j)) 64)) := by
      intro c hc
      rw [acc, hc] at hh
      cases c
      · rw [show (b1 false <<< i) = 0 by simp [b1], show ∀ z : W, z ||| 0 = z from fun z => by simp] at hh; exact hh
      · exact hh
    rw [lockgateref01_bits.l0, if_pos (by omega), bit_f a i (by omega), bit_f b i (by omega)]
    simp only [Option.bind_some, two_bits, w_nat i (show i < 18446744073709551616 by omega), i_succ i (show i < 100 by omega), if_pos p0, sh, b_or, ofInt_U]
    have e1 := e0 _ rfl
    rcases hop with rfl | rfl | rfl
    · simp only [opB, if_true] at e1 hh ⊢
      revert e1
      cases a.getLsbD i <;> cases b.getLsbD i <;> simp
    · simp only [opB, if_true] at e1 hh ⊢
      revert e1
      cases a.getLsbD i <;> cases b.getLsbD i <;> simp
    · simp only [opB, if_true] at e1 hh ⊢
      revert e1
      cases a.getLsbD i <;> cases b.getLsbD i <;> simp
theorem bits_f (k : Nat) (hk : 65 ≤ k) (op : Int) (hop : op = 4 ∨ op = 5 ∨ op = 10) (a b : W) : lockgateref01_bits.f k op (U a) (U b) = some (U (aluW op a b)) := by
  have h := bits_l op hop a b 64 k 0 rfl (by omega)
  have e : acc (fun j => opB op (a.getLsbD j) (b.getLsbD j)) 64 = aluW op a b := by
    apply acc_eq (by omega)
    · intro i hi
      rcases hop with rfl | rfl | rfl
      · simp [aluW, opB]
      · simp [aluW, opB]
      · simp [aluW, opB]
    · intro i h1 h2; omega
  rw [e] at h
  exact h
theorem down_l (a : W) (n w : Nat) (hw : w ≤ 64) (hn : n < 64) (c : Bool) (d : Nat) : ∀ (k i : Nat), i + d = w → d < k →
    lockgateref01_down.l0 k (U a) (n : Int) (w : Int) (U (b1 c)) (U (acc (fun j => if j + n < w then a.getLsbD (j + n) else c) i)) (i : Int) = some (U (acc (fun j => if j + n < w then a.getLsbD (j + n) else c) w)) := by
  induction d with
  | zero =>
    intro k i hi hk
    obtain ⟨k, rfl⟩ : ∃ m, k = m + 1 := ⟨k - 1, by omega⟩
    obtain rfl : i = w := by omega
    rw [lockgateref01_down.l0, if_neg (by omega)]
  | succ d ih =>
    intro k i hi hk
    obtain ⟨k, rfl⟩ : ∃ m, k = m + 1 := ⟨k - 1, by omega⟩
    have hh := ih k (i + 1) (by omega) (by omega)
    have p0 : (0 : Int) ≤ (i : Int) := by omega
    have hs : wrap64 ((i : Int) + (n : Int)) = ((i + n : Nat) : Int) := by unfold wrap64; omega
    rw [acc] at hh
    rw [lockgateref01_down.l0, if_pos (by omega), hs]
    by_cases h : i + n < w
    · rw [if_pos (by omega), bit_f a (i + n) (by omega)]
      simp only [Option.bind_some]
      rw [w_nat i (by omega), if_pos p0, shl_bit, b_or, ofInt_U, ofInt_U, i_succ i (by omega)]
      rw [if_pos h] at hh; exact hh
    · rw [if_neg (by omega), w_nat i (by omega), if_pos p0, shl_bit, b_or, ofInt_U, ofInt_U, i_succ i (by omega)]
      rw [if_neg h] at hh; exact hh
theorem down_f (k : Nat) (hk : 65 ≤ k) (a : W) (n w : Nat) (hw : w ≤ 64) (hn : n < 64) (c : Bool) : lockgateref01_down.f k (U a) (n : Int) (w : Int) (U (b1 c)) = some (U (acc (fun j => if j + n < w then a.getLsbD (j + n) else c) w)) :=
  down_l a n w hw hn c w k 0 (by omega) (by omega)
theorem low64_f (a : W) : lockgateref01_Low.f (U a) 64 = some (U a) := by rw [lockgateref01_Low.f, if_pos (by decide)]
theorem low32_f (a : W) : lockgateref01_Low.f (U a) 32 = some (U (up (lo a))) := by
  rw [lockgateref01_Low.f, if_neg (by decide), show IntKind.u64.wrap 32 = 32 by decide, if_pos (by decide), show shl .u64 1 32 = 4294967296 by decide, if_neg (by decide), Int.tmod_eq_emod_of_nonneg (U_nonneg _), U_mod32, U_up]
/-! The low half of what is made of low halves. -/
theorem lo_up (x : W32) : lo (up x) = x := by
  apply BitVec.eq_of_getLsbD_eq; intro i hi
  rw [lo_bit, up_bit]; simp [hi, show i < 64 by omega]
theorem lo_add (x y : W) : lo (x + y) = lo x + lo y := by unfold lo; rw [BitVec.setWidth_add _ _ (by decide)]
theorem lo_mul (x y : W) : lo (x * y) = lo x * lo y := by unfold lo; rw [BitVec.setWidth_mul _ _ (by decide)]
theorem lo_neg (x : W) : lo (-x) = - lo x := by
  have h := lo_add x (-x)
  rw [show x + -x = 0 by grind, show lo 0 = 0 by decide] at h
  have : lo (-x) = - lo x + (lo x + lo (-x)) := by grind
  rw [this, ← h]; simp
theorem lo_sub (x y : W) : lo (x - y) = lo x - lo y := by
  rw [BitVec.sub_eq_add_neg, lo_add, lo_neg, BitVec.sub_eq_add_neg]
theorem lo_and (x y : W) : lo (x &&& y) = lo x &&& lo y := by unfold lo; rw [BitVec.setWidth_and]
theorem lo_or (x y : W) : lo (x ||| y) = lo x ||| lo y := by unfold lo; rw [BitVec.setWidth_or]
theorem lo_xor (x y : W) : lo (x ^^^ y) = lo x ^^^ lo y := by unfold lo; rw [BitVec.setWidth_xor]
theorem up_toNat (x : W32) : (up x).toNat = x.toNat := by unfold up; rw [BitVec.toNat_setWidth]; have := x.isLt; omega
theorem up_div (x y : W32) : up x / up y = up (x / y) := by
  apply BitVec.eq_of_toNat_eq; rw [BitVec.toNat_udiv, up_toNat, up_toNat, up_toNat, BitVec.toNat_udiv]
theorem up_mod (x y : W32) : up x % up y = up (x % y) := by
  apply BitVec.eq_of_toNat_eq; rw [BitVec.toNat_umod, up_toNat, up_toNat, up_toNat, BitVec.toNat_umod]
theorem lo_shl (x : W) (n : Nat) : lo (x <<< n) = lo x <<< n := by
  apply BitVec.eq_of_getLsbD_eq; intro i hi
  rw [lo_bit, BitVec.getLsbD_shiftLeft, BitVec.getLsbD_shiftLeft, lo_bit]
  simp only [hi, show i < 64 by omega, decide_true, Bool.true_and, show i - n < 32 by omega]
end Go.Proofs.Ytnpbhippkcikoaa.C01
