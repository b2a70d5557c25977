/- Without Go: Bv, Bit, C02, C02s, C02i, C02w, C02x, C02t, C02p, C02n, C02g, LInsnBack, LInsnForms, C02k, C02q, C02u, C02v, C02y, LInsnPuts, LInsnChecks, LInsnGets, LInsnCut, LInsnKnown, in one text. -/
import Derived.Laws.Entries
import Derived.RowKit
import Derived.Test.YticijjonimiooaaWMore
import Derived.Test.YticijjonimiooaaPA2
import Derived.Test.YticijjonimiooaaPA3
import Derived.Test.YticijjonimiooaaPA4
import Derived.Test.YticijjonimiooaaPA15
import Derived.Test.YticijjonimiooaaPA16
import Derived.Test.YticijjonimiooaaPA9
import Derived.Test.YticijjonimiooaaPA22
import Derived.Test.YticijjonimiooaaPA23
import Derived.Test.YticijjonimiooaaPA10
import Derived.Test.YticijjonimiooaaPA11
import Derived.Test.YticijjonimiooaaPA12
import Derived.Test.YticijjonimiooaaPA5
import Derived.Test.YticijjonimiooaaPA6
import Derived.Test.YticijjonimiooaaPA7
import Derived.Test.YticijjonimiooaaPA8
import Derived.Test.YticijjonimiooaaPA26
import Derived.Test.YticijjonimiooaaPA27
import Derived.Test.YticijjonimiooaaPA17
import Derived.Test.YticijjonimiooaaPA18
import Derived.Test.YticijjonimiooaaPA19
import Derived.Test.YticijjonimiooaaPA20
import Derived.Test.YticijjonimiooaaPA13
import Derived.Test.YticijjonimiooaaPA14
import Derived.Test.YticijjonimiooaaPA24
import Derived.Test.YticijjonimiooaaPA30
import Derived.Test.YticijjonimiooaaPA21
import Derived.Test.YticijjonimiooaaPA25
import Derived.Test.YticijjonimiooaaPA29
import Derived.Test.YticijjonimiooaaPA31
set_option linter.unusedVariables false
set_option linter.unusedSimpArgs false
set_option linter.unusedSectionVars false
section
/- Whole numbers of 64 bits as bit vectors: every word of the printed functions, told of bit vectors. -/
namespace Go.Proofs.Yticijjonimiooaa.Bv
open Go.RowKit Go.Proofs.YticijjonimiooaaW.PrintWords Go.Proofs.YticijjonimiooaaW.PrintLast Go.Proofs.YticijjonimiooaaW.PrintMore
abbrev W := BitVec 64
/-- A number without a sign, and with one, of 64 bits. -/
def U (x : W) : Int := (x.toNat : Int)
def S (x : W) : Int := x.toInt
theorem U_nonneg (x : W) : 0 ≤ U x := by unfold U; omega
theorem U_lt (x : W) : U x < 18446744073709551616 := by unfold U; have := x.isLt; omega
theorem S_ge (x : W) : -9223372036854775808 ≤ S x := by unfold S; have := BitVec.le_toInt x; simp at this; omega
theorem S_lt (x : W) : S x < 9223372036854775808 := by unfold S; have := BitVec.toInt_lt (x := x); simp at this; omega
theorem ofInt_U (x : W) : BitVec.ofInt 64 (U x) = x := by
  apply BitVec.eq_of_toNat_eq; unfold U; simp
theorem ofInt_S (x : W) : BitVec.ofInt 64 (S x) = x := BitVec.ofInt_toInt
theorem U_ofInt (n : Int) : U (BitVec.ofInt 64 n) = n % 18446744073709551616 := by
  unfold U; rw [BitVec.toNat_ofInt]; simp; omega
theorem S_ofInt (n : Int) : S (BitVec.ofInt 64 n) = wrap64 n := by
  unfold S wrap64; rw [BitVec.toInt_ofInt]; simp [Int.bmod]; omega
theorem wrap_u64 (n : Int) : IntKind.u64.wrap n = U (BitVec.ofInt 64 n) := by
  rw [U_ofInt]; simp [IntKind.wrap, IntKind.signed, IntKind.bits]
theorem wrap_i64 (n : Int) : wrap64 n = S (BitVec.ofInt 64 n) := (S_ofInt n).symm
theorem exU {a : Int} (h : (Lit.int .u64 a).wf = true) : ∃ x, a = U x := by
  refine ⟨BitVec.ofInt 64 a, ?_⟩
  rw [U_ofInt]
  simp [Lit.wf, IntKind.min, IntKind.max, IntKind.signed, IntKind.bits] at h
  omega
theorem exS {a : Int} (h : (Lit.int .i64 a).wf = true) : ∃ x, a = S x := by
  refine ⟨BitVec.ofInt 64 a, ?_⟩
  rw [S_ofInt]; unfold wrap64
  simp [Lit.wf, IntKind.min, IntKind.max, IntKind.signed, IntKind.bits] at h
  omega
/-! ofInt through sums -/
theorem oi_add (a b : Int) : BitVec.ofInt 64 (a + b) = BitVec.ofInt 64 a + BitVec.ofInt 64 b := BitVec.ofInt_add a b
theorem oi_mul (a b : Int) : BitVec.ofInt 64 (a * b) = BitVec.ofInt 64 a * BitVec.ofInt 64 b := BitVec.ofInt_mul a b
theorem oi_neg (a : Int) : BitVec.ofInt 64 (-a) = - BitVec.ofInt 64 a := BitVec.ofInt_neg
theorem oi_sub (a b : Int) : BitVec.ofInt 64 (a - b) = BitVec.ofInt 64 a - BitVec.ofInt 64 b := by
  rw [Int.sub_eq_add_neg, oi_add, oi_neg, BitVec.sub_eq_add_neg]
theorem oi_nat (n : Nat) : BitVec.ofInt 64 (n : Int) = BitVec.ofNat 64 n := BitVec.ofInt_natCast ..
theorem U_nat {n : Nat} (h : n < 18446744073709551616) : U (BitVec.ofNat 64 n) = n := by unfold U; rw [BitVec.toNat_ofNat]; simp; omega
/-! comparisons -/
theorem U_inj (x y : W) : U x = U y ↔ x = y := by
  constructor
  · intro h; have := congrArg (BitVec.ofInt 64) h; simpa [ofInt_U] using this
  · rintro rfl; rfl
theorem S_inj (x y : W) : S x = S y ↔ x = y := BitVec.toInt_inj
theorem U_lt_iff (x y : W) : U x < U y ↔ x < y := by unfold U; rw [BitVec.lt_def]; omega
theorem U_le_iff (x y : W) : U x ≤ U y ↔ x ≤ y := by unfold U; rw [BitVec.le_def]; omega
theorem S_lt_iff (x y : W) : S x < S y ↔ x.slt y = true := by unfold S; rw [BitVec.slt_iff_toInt_lt]
theorem S_le_iff (x y : W) : S x ≤ S y ↔ x.sle y = true := by unfold S; rw [BitVec.sle_iff_toInt_le]
theorem U_beq (x y : W) : (U x == U y) = (x == y) := by
  rw [Bool.eq_iff_iff]; simp [U_inj]
theorem S_beq (x y : W) : (S x == S y) = (x == y) := by
  rw [Bool.eq_iff_iff]; simp [S_inj]
theorem U_zero : U 0 = 0 := rfl
theorem U_one : U 1 = 1 := rfl
theorem U_eq_zero (x : W) : U x = 0 ↔ x = 0 := by rw [← U_zero, U_inj]
theorem U_eq_lit (x : W) (n : Nat) (h : n < 18446744073709551616) : U x = (n : Int) ↔ x = BitVec.ofNat 64 n := by rw [← U_nat h, U_inj]
/-! bits -/
theorem bits_wrap (z : W) : IntKind.u64.wrap (z.toNat : Int) = U z := by
  rw [wrap_u64, oi_nat]; simp
theorem b_and (a b : Int) : Go.bits .and .u64 a b = U (BitVec.ofInt 64 a &&& BitVec.ofInt 64 b) := bits_wrap _
theorem b_or (a b : Int) : Go.bits .or .u64 a b = U (BitVec.ofInt 64 a ||| BitVec.ofInt 64 b) := bits_wrap _
theorem b_xor (a b : Int) : Go.bits .xor .u64 a b = U (BitVec.ofInt 64 a ^^^ BitVec.ofInt 64 b) := bits_wrap _
theorem b_andNot (a b : Int) : Go.bits .andNot .u64 a b = U (BitVec.ofInt 64 a &&& ~~~ BitVec.ofInt 64 b) := bits_wrap _
theorem bits_wrap_i (z : W) : IntKind.i64.wrap (z.toNat : Int) = S z := by
  have h : ∀ n : Int, IntKind.i64.wrap n = wrap64 n := fun n => by
    simp [IntKind.wrap, wrap64, IntKind.signed, IntKind.bits]; split <;> omega
  rw [h, wrap_i64, oi_nat]; simp
theorem s_and (a b : Int) : Go.bits .and .i64 a b = S (BitVec.ofInt 64 a &&& BitVec.ofInt 64 b) := bits_wrap_i _
theorem s_or (a b : Int) : Go.bits .or .i64 a b = S (BitVec.ofInt 64 a ||| BitVec.ofInt 64 b) := bits_wrap_i _
theorem s_xor (a b : Int) : Go.bits .xor .i64 a b = S (BitVec.ofInt 64 a ^^^ BitVec.ofInt 64 b) := bits_wrap_i _
theorem s_andNot (a b : Int) : Go.bits .andNot .i64 a b = S (BitVec.ofInt 64 a &&& ~~~ BitVec.ofInt 64 b) := bits_wrap_i _
/-! shifts -/
theorem shl_U (x : W) (n : Int) : shl .u64 (U x) n = U (x <<< n.toNat) := by
  unfold shl
  rw [wrap_u64]
  congr 1
  rw [oi_mul, ofInt_U]
  have e : (2 : Int) ^ min n.toNat IntKind.u64.bits = ((2 ^ min n.toNat 64 : Nat) : Int) := by simp [IntKind.bits]
  rw [e, oi_nat]
  apply BitVec.eq_of_toNat_eq
  rw [BitVec.toNat_mul, BitVec.toNat_ofNat, BitVec.toNat_shiftLeft, Nat.shiftLeft_eq]
  by_cases h : n.toNat ≤ 64
  · rw [Nat.min_eq_left h]; simp [Nat.mul_mod]
  · have h2 : n.toNat = 64 + (n.toNat - 64) := by omega
    rw [Nat.min_eq_right (by omega), Nat.mod_self, Nat.mul_zero, Nat.zero_mod, h2, Nat.pow_add, ← Nat.mul_assoc, Nat.mul_right_comm]
    simp
theorem shr_U (x : W) (n : Int) : shr .u64 (U x) n = U (x >>> n.toNat) := by
  unfold shr U
  rw [BitVec.toNat_ushiftRight, Nat.shiftRight_eq_div_pow]
  by_cases h : n.toNat ≤ 64
  · rw [show IntKind.u64.bits = 64 from rfl, Nat.min_eq_left h]; simp
  · rw [show IntKind.u64.bits = 64 from rfl, Nat.min_eq_right (by omega)]
    have hx := x.isLt
    have h1 : x.toNat / 2 ^ n.toNat = 0 := Nat.div_eq_of_lt (Nat.lt_of_lt_of_le hx (Nat.pow_le_pow_right (by decide) (by omega)))
    rw [h1]
    have h2 : (2 : Int) ^ 64 = ((2 ^ 64 : Nat) : Int) := by norm_cast
    rw [h2]
    omega
theorem shr_S (x : W) (n : Int) : shr .i64 (S x) n = S (x.sshiftRight n.toNat) := by
  unfold shr S
  rw [BitVec.toInt_sshiftRight, Int.shiftRight_eq_div_pow]
  by_cases h : n.toNat ≤ 64
  · rw [show IntKind.i64.bits = 64 from rfl, Nat.min_eq_left h]; norm_cast
  · rw [show IntKind.i64.bits = 64 from rfl, Nat.min_eq_right (by omega)]
    have h1 := S_ge x
    have h2 := S_lt x
    unfold S at h1 h2
    have h3 : (2 ^ 64 : Int) = ((2 ^ 64 : Nat) : Int) := by norm_cast
    have h4 : (2 ^ 64 : Nat) ≤ 2 ^ n.toNat := Nat.pow_le_pow_right (by decide) (by omega)
    rw [h3]
    generalize 2 ^ n.toNat = q at h4 ⊢
    have h5 : (18446744073709551616 : Nat) ≤ q := h4
    show x.toInt / 18446744073709551616 = x.toInt / (q : Int)
    by_cases hn : 0 ≤ x.toInt
    · rw [Int.ediv_eq_zero_of_lt hn (by omega), Int.ediv_eq_zero_of_lt hn (by omega)]
    · have a1 : x.toInt / 18446744073709551616 = -1 := by omega
      have a2 : x.toInt / (q : Int) = -1 := by
        rw [Int.ediv_eq_iff_of_pos (by omega)]; omega
      rw [a1, a2]
theorem wrap_i64' (n : Int) : IntKind.i64.wrap n = S (BitVec.ofInt 64 n) := by
  have h : IntKind.i64.wrap n = wrap64 n := by
    simp [IntKind.wrap, wrap64, IntKind.signed, IntKind.bits]; split <;> omega
  rw [h, wrap_i64]
theorem shl_S (x : W) (n : Int) : shl .i64 (S x) n = S (x <<< n.toNat) := by
  unfold shl
  rw [wrap_i64']
  congr 1
  rw [oi_mul, ofInt_S]
  have e : (2 : Int) ^ min n.toNat IntKind.i64.bits = ((2 ^ min n.toNat 64 : Nat) : Int) := by simp [IntKind.bits]
  rw [e, oi_nat]
  apply BitVec.eq_of_toNat_eq
  rw [BitVec.toNat_mul, BitVec.toNat_ofNat, BitVec.toNat_shiftLeft, Nat.shiftLeft_eq]
  by_cases h : n.toNat ≤ 64
  · rw [Nat.min_eq_left h]; simp [Nat.mul_mod]
  · have h2 : n.toNat = 64 + (n.toNat - 64) := by omega
    rw [Nat.min_eq_right (by omega), Nat.mod_self, Nat.mul_zero, Nat.zero_mod, h2, Nat.pow_add, ← Nat.mul_assoc, Nat.mul_right_comm]
    simp
end Go.Proofs.Yticijjonimiooaa.Bv
end
section
/- Loops that go through the bits of a number: what comes of them. -/
namespace Go.Proofs.Yticijjonimiooaa.Bv
open Go.RowKit Go.Proofs.YticijjonimiooaaW.PrintWords Go.Proofs.YticijjonimiooaaW.PrintLast Go.Proofs.YticijjonimiooaaW.PrintMore
theorem getLsbD_one_shl (i j : Nat) (hj : j < 64) : ((1 : W) <<< i).getLsbD j = decide (j = i) := by
  rw [BitVec.getLsbD_shiftLeft]
  by_cases h : j = i
  · subst h; simp [hj]
  · by_cases h2 : j < i
    · simp [h2, h]
    · have : j - i ≠ 0 := by omega
      simp [h2, h, this]
/-- a bit as a number. -/
def b1 (b : Bool) : W := if b then 1 else 0
theorem U_b1 (b : Bool) : U (b1 b) = if b then 1 else 0 := by cases b <;> rfl
theorem bit_at (v : W) (j : Nat) : Int.tmod (shr .u64 (U v) (j : Int)) 2 = U (b1 (v.getLsbD j)) := by
  rw [shr_U]
  have h : (v >>> j).toNat % 2 = (b1 (v.getLsbD j)).toNat := by
    have := BitVec.toNat_ushiftRight v j
    rw [this, BitVec.getLsbD, Nat.testBit, b1]
    rw [Nat.and_comm, Nat.and_one_is_mod]
    rcases Nat.mod_two_eq_zero_or_one (v.toNat >>> j) with h | h <;> simp [h]
  have e : Int.tmod (U (v >>> ((j : Int).toNat))) 2 = (U (v >>> j)) % 2 := by
    rw [Int.tmod_eq_emod_of_nonneg (U_nonneg _)]; simp
  rw [e]; unfold U; omega
theorem bit_eq0 (v : W) (j : Nat) : (Int.tmod (shr .u64 (U v) (j : Int)) 2 = 0) ↔ v.getLsbD j = false := by
  rw [bit_at, U_b1]; cases v.getLsbD j <;> simp
theorem bit_eq1 (v : W) (j : Nat) : (Int.tmod (shr .u64 (U v) (j : Int)) 2 = 1) ↔ v.getLsbD j = true := by
  rw [bit_at, U_b1]; cases v.getLsbD j <;> simp
theorem bit_eq (v x : W) (j : Nat) : (Int.tmod (shr .u64 (U v) (j : Int)) 2 = Int.tmod (shr .u64 (U x) (j : Int)) 2) ↔ v.getLsbD j = x.getLsbD j := by
  rw [bit_at, bit_at, U_b1, U_b1]; cases v.getLsbD j <;> cases x.getLsbD j <;> simp
theorem shl_bit (b : Bool) (i : Nat) : shl .u64 (U (b1 b)) (i : Int) = U (b1 b <<< i) := by rw [shl_U]; simp
/-- the number whose bits below n are b's. -/
def acc (b : Nat → Bool) : Nat → W
  | 0 => 0
  | n + 1 => acc b n ||| b1 (b n) <<< n
theorem getLsbD_b1_shl (b : Bool) (i j : Nat) (hj : j < 64) : (b1 b <<< i).getLsbD j = (decide (j = i) && b) := by
  cases b
  · simp [b1]
  · have := getLsbD_one_shl i j hj
    simpa [b1] using this
theorem acc_bit (b : Nat → Bool) (n j : Nat) (hj : j < 64) : (acc b n).getLsbD j = (decide (j < n) && b j) := by
  induction n with
  | zero => simp [acc]
  | succ n ih =>
    rw [acc, BitVec.getLsbD_or, ih, getLsbD_b1_shl _ _ _ hj]
    by_cases h : j = n
    · subst h; simp
    · by_cases h2 : j < n
      · simp [h2, show j < n + 1 by omega, h]
      · simp [h2, show ¬ j < n + 1 by omega, h]
theorem acc_self (v : W) : acc (fun i => v.getLsbD i) 64 = v := by
  apply BitVec.eq_of_getLsbD_eq
  intro i hi
  rw [acc_bit _ _ _ hi]; simp [hi]
theorem acc_eq {b : Nat → Bool} {v : W} {n : Nat} (hn : n ≤ 64) (h1 : ∀ i, i < n → v.getLsbD i = b i) (h2 : ∀ i, n ≤ i → i < 64 → v.getLsbD i = false) : acc b n = v := by
  apply BitVec.eq_of_getLsbD_eq
  intro i hi
  rw [acc_bit _ _ _ hi]
  by_cases h : i < n
  · simp [h, h1 i h]
  · simp [h, h2 i (by omega) hi]
theorem u_succ (i : Nat) (h : i < 64) : IntKind.u64.wrap ((i : Int) + 1) = ((i + 1 : Nat) : Int) := by
  rw [wrap_u64, U_ofInt]; omega
theorem and_bit {v m : W} (h : v &&& m = 0) (i : Nat) : (v.getLsbD i && m.getLsbD i) = false := by
  rw [← BitVec.getLsbD_and, h]; simp
theorem and_zero_of {v m : W} (h : ∀ i, i < 64 → (v.getLsbD i && m.getLsbD i) = false) : v &&& m = 0 := by
  apply BitVec.eq_of_getLsbD_eq
  intro i hi
  rw [BitVec.getLsbD_and, h i hi]; simp
/-- one step of a printed function: a call, a test. -/
theorem bs {α β : Type} {x : Option α} {f : α → Option β} {a : α} {r : Option β} (h : x = some a) (h2 : f a = r) : x.bind f = r := by rw [h]; exact h2
theorem ift {α : Type} {c : Prop} [Decidable c] {t e r : α} (h : c) (h2 : t = r) : (if c then t else e) = r := by rw [if_pos h]; exact h2
theorem ife {α : Type} {c : Prop} [Decidable c] {t e r : α} (h : ¬ c) (h2 : e = r) : (if c then t else e) = r := by rw [if_neg h]; exact h2
theorem nt : ¬ (false = true) := by decide
end Go.Proofs.Yticijjonimiooaa.Bv
end
section
/- Layer 2: which operations there are, and what they use: the program's answer and the document's table. -/
namespace Go.Proofs.Yticijjonimiooaa.C02
open Go.RowKit Go.Proofs.YticijjonimiooaaW.PrintWords Go.Proofs.YticijjonimiooaaW.PrintLast Go.Proofs.YticijjonimiooaaW.PrintMore Go.Proofs.Yticijjonimiooaa.PA Go.Proofs.Yticijjonimiooaa.Bv
def TT : List S60 := (lockgateref02_Table.f 300).getD []
set_option maxRecDepth 100000 in
theorem table_some : (lockgateref02_Table.f 300).isSome = true := by decide +kernel
theorem table300 : lockgateref02_Table.f 300 = some TT := by
  have h := table_some
  unfold TT
  cases hx : lockgateref02_Table.f 300 with
  | none => rw [hx] at h; exact absurd h (by decide)
  | some t => rfl
theorem table_f (k : Nat) (hk : 300 ≤ k) : lockgateref02_Table.f k = some TT := at_rounds lockgateref02_Table.mono hk table300
set_option maxRecDepth 100000 in
theorem table_in : (TT.all fun s => decide (0 ≤ s.f0 ∧ s.f0 ≤ 255)) = true ∧ decide (TT.length ≤ 200) = true := by decide +kernel
/-- what the table says of an operation. -/
def row (t : List S60) (op : Int) : Int × Bool × Bool × Bool × Bool × Bool × Bool := match t.find? (fun s => s.f0 == op) with
  | some s => (s.f0, s.f1, s.f2, s.f3, s.f4, s.f5, true)
  | none => (0, false, false, false, false, false, false)
theorem of_l (op : Int) (t : List S60) (ht : t.length ≤ 200) (d : Nat) : ∀ (k i : Nat), i + d = t.length → d < k → lockgateref02_Of.l0 k op t (i : Int) = some (row (t.drop i) op) := by
  induction d with
  | zero =>
    intro k i hi hk
    obtain ⟨k, rfl⟩ : ∃ m, k = m + 1 := ⟨k - 1, by omega⟩
    rw [lockgateref02_Of.l0, List.drop_of_length_le (by omega)]
    exact ife (by omega) rfl
  | succ d ih =>
    intro k i hi hk
    obtain ⟨k, rfl⟩ : ∃ m, k = m + 1 := ⟨k - 1, by omega⟩
    rw [lockgateref02_Of.l0]
    have hlt : i < t.length := by omega
    have hr : rd_T60 t (i : Int) = t[i] := by
      unfold rd_T60
      rw [Int.toNat_natCast, List.getD_eq_getElem?_getD, List.getElem?_eq_getElem hlt]; rfl
    rw [hr, List.drop_eq_getElem_cons hlt]
    refine ift (by omega) (ift (by omega) ?_)
    by_cases h : t[i].f0 = op
    · refine ift h ?_
      unfold row
      rw [List.find?_cons_of_pos (by rw [beq_iff_eq]; exact h)]
    · refine ife h ?_
      have e : wrap64 ((i : Int) + 1) = ((i + 1 : Nat) : Int) := by unfold wrap64; omega
      rw [e, ih k (i + 1) (by omega) (by omega)]
      unfold row
      rw [List.find?_cons_of_neg (by rw [beq_iff_eq]; exact h)]
theorem of_f (k : Nat) (hk : 300 ≤ k) (op : Int) : lockgateref02_Of.f k op = some (row TT op) := by
  unfold lockgateref02_Of.f
  refine bs (table_f k hk) ?_
  have hl : TT.length ≤ 200 := of_decide_eq_true table_in.2
  have := of_l op TT hl TT.length k 0 (by omega) (by omega)
  simpa using this
theorem row_out (op : Int) (h : ¬ (0 ≤ op ∧ op ≤ 255)) : row TT op = (0, false, false, false, false, false, false) := by
  unfold row
  have : TT.find? (fun s => s.f0 == op) = none := by
    rw [List.find?_eq_none]
    intro s hs
    have := of_decide_eq_true ((List.all_eq_true.mp table_in.1) s hs)
    rw [beq_iff_eq]; rintro rfl; exact h this
  rw [this]
theorem uses_out (op : Int) (h : ¬ (0 ≤ op ∧ op ≤ 255)) : insn_uses.f op = some (0, false) := by
  unfold insn_uses.f insn_within.f
  by_cases h0 : op ≥ 0
  · refine bs (ift h0 rfl) (ife ?_ rfl); rw [decide_eq_true_iff]; omega
  · exact bs (ife h0 rfl) (ife nt rfl)
/-- the bits of what is used, by the table. -/
def chk (n : Nat) : Bool := match insn_uses.f (n : Int), row TT (n : Int) with
  | some (u, is), (_, D, S, O, I, w, ok) => is == ok && (!is || ((Go.bits .and .i64 u 1 == 0) == !D && (Go.bits .and .i64 u 2 == 0) == !S && (Go.bits .and .i64 u 4 == 0) == !O && (Go.bits .and .i64 u 8 == 0) == !I && (Go.bits .and .i64 u 16 == 0) == !w))
  | none, _ => false
set_option maxRecDepth 100000 in
theorem chk_all : ((List.range 256).all chk) = true := by decide +kernel
end Go.Proofs.Yticijjonimiooaa.C02
end
section
/- Layer 2: what may be wrong with an instruction. -/
namespace Go.Proofs.Yticijjonimiooaa.C02
open Go.RowKit Go.Proofs.YticijjonimiooaaW.PrintWords Go.Proofs.YticijjonimiooaaW.PrintLast Go.Proofs.YticijjonimiooaaW.PrintMore Go.Proofs.Yticijjonimiooaa.PA Go.Proofs.Yticijjonimiooaa.Bv
/-- fields that have no meaning. -/
def F (D S O I : Bool) (d s o i : Int) : Prop := (D = false ∧ d ≠ 0) ∨ (S = false ∧ s ≠ 0) ∨ (O = false ∧ o ≠ 0) ∨ (I = false ∧ i ≠ 0)
instance (D S O I : Bool) (d s o i : Int) : Decidable (F D S O I d s o i) := by unfold F; infer_instance
def t24 (op s i : Int) : Int := if op = 24 ∧ (s > 1 ∨ (s = 1 ∧ (i < 1 ∨ i > 8))) then 6 else 0
def tl (op s i : Int) : Int := if (op = 212 ∨ op = 220) ∧ i ≠ 16 ∧ i ≠ 32 ∧ i ≠ 64 then 6 else t24 op s i
def vK (D S O I w : Bool) (op d s o i : Int) : Int :=
  if d < 0 ∨ d > 10 ∨ s < 0 ∨ s > 10 ∨ (w = true ∧ d = 10) then 5
  else if o < -32768 ∨ o > 32767 ∨ (op ≠ 24 ∧ (i < -2147483648 ∨ i > 2147483647)) then 15
  else if F D S O I d s o i then 6 else tl op s i
end Go.Proofs.Yticijjonimiooaa.C02
end
section
/- Layer 2: the program's Check. -/
namespace Go.Proofs.Yticijjonimiooaa.C02
open Go.RowKit Go.Proofs.YticijjonimiooaaW.PrintWords Go.Proofs.YticijjonimiooaaW.PrintLast Go.Proofs.YticijjonimiooaaW.PrintMore Go.Proofs.Yticijjonimiooaa.PA Go.Proofs.Yticijjonimiooaa.Bv
theorem within_f (a lo hi : Int) : insn_within.f a lo hi = some (decide (lo ≤ a ∧ a ≤ hi)) := by
  unfold insn_within.f
  by_cases h : a ≥ lo
  · refine ift h ?_
    rw [Option.some.injEq, decide_eq_decide]; omega
  · refine ife h ?_
    rw [Option.some.injEq]; exact (decide_eq_false (fun q => h q.1)).symm
theorem has16 (o : Int) : insn_has.f o 16 = some (decide (¬ (o < -32768 ∨ o > 32767))) := by
  unfold insn_has.f
  have e : wrap64 ((16 : Int) - 1) = 15 := by unfold wrap64; omega
  have e1 : shl .i64 (-1) 15 = -32768 := by decide +kernel
  have e2 : wrap64 (shl .i64 1 15 - 1) = 32767 := by decide +kernel
  rw [e, e1, e2]
  refine ift (by omega) (bs (within_f _ _ _) ?_)
  rw [Option.some.injEq, decide_eq_decide]; omega
theorem has32 (i : Int) : insn_has.f i 32 = some (decide (¬ (i < -2147483648 ∨ i > 2147483647))) := by
  unfold insn_has.f
  have e : wrap64 ((32 : Int) - 1) = 31 := by unfold wrap64; omega
  have e1 : shl .i64 (-1) 31 = -2147483648 := by decide +kernel
  have e2 : wrap64 (shl .i64 1 31 - 1) = 2147483647 := by decide +kernel
  rw [e, e1, e2]
  refine ift (by omega) (bs (within_f _ _ _) ?_)
  rw [Option.some.injEq, decide_eq_decide]; omega
theorem and7 {n : Int} (h : 0 ≤ n ∧ n ≤ 255) : Go.bits .and .i64 n 7 = n % 8 := by
  have : (List.range 256).all (fun m => Go.bits .and .i64 (m : Int) 7 == (m : Int) % 8) = true := by decide +kernel
  have h2 := List.all_eq_true.mp this n.toNat (List.mem_range.mpr (by omega))
  rw [beq_iff_eq] at h2
  rw [show ((n.toNat : Nat) : Int) = n by omega] at h2
  exact h2
/-- insn.fits' last answer. -/
def fin (op s i : Int) : Bool := decide (tl op s i = 0)
theorem fj3 (k : Nat) (c : Bool) (op d s o i : Int) (hop : 0 ≤ op ∧ op ≤ 255) (hs : 0 ≤ s) : insn_fits.j3 (k + 1) c op d s o i = some (if c = true then false else fin op s i) := by
  rw [insn_fits.j3]
  cases c
  · refine ife nt ?_
    rw [if_neg nt]
    unfold fin tl t24
    by_cases h : op = 24
    · refine ift h ?_
      rw [if_neg (c := (op = 212 ∨ op = 220) ∧ i ≠ 16 ∧ i ≠ 32 ∧ i ≠ 64) (by omega)]
      by_cases h1 : s = 0
      · refine ift h1 ?_
        rw [if_neg (by omega)]; rfl
      · refine ife h1 ?_
        by_cases h2 : s = 1
        · refine ift h2 (bs (within_f _ _ _) ?_)
          rw [Option.some.injEq]
          by_cases h3 : i < 1 ∨ i > 8
          · rw [if_pos ⟨h, Or.inr ⟨h2, h3⟩⟩]; exact decide_eq_false (by omega)
          · rw [if_neg (by omega)]; exact decide_eq_true (by omega)
        · refine ife h2 ?_
          rw [if_pos ⟨h, Or.inl (by omega)⟩]; rfl
    · refine ife h ?_
      rw [if_neg (c := op = 24 ∧ (s > 1 ∨ (s = 1 ∧ (i < 1 ∨ i > 8)))) (by omega), and7 hop]
      by_cases h1 : op / 16 = 13
      · refine ift h1 ?_
        by_cases h2 : op % 8 = 4
        · refine ift h2 ?_
          have ho : op = 212 ∨ op = 220 := by omega
          by_cases h3 : i = 16
          · refine ift h3 ?_; rw [if_neg (by omega)]; rfl
          · refine ife h3 ?_
            by_cases h4 : i = 32
            · refine ift h4 ?_; rw [if_neg (by omega)]; rfl
            · refine ife h4 ?_
              rw [Option.some.injEq]
              by_cases h5 : i = 64
              · rw [if_neg (by omega), h5]; rfl
              · rw [if_pos ⟨ho, h3, h4, h5⟩]; exact (beq_eq_false_iff_ne.mpr h5)
        · refine ife h2 ?_
          rw [if_neg (by omega)]; rfl
      · refine ife h1 ?_
        rw [if_neg (by omega)]; rfl
  · exact ift rfl rfl
theorem stf {b x : Int} {J : Bool → Option Bool} {v : Bool} (hJ : ∀ c, J c = some (if c = true then false else v)) : (if b = 0 then J (x != 0) else J false) = some (if (!(b == 0)) = false ∧ x ≠ 0 then false else v) := by
  by_cases h : b = 0
  · refine ift h ?_
    rw [hJ]
    by_cases hx : x = 0
    · rw [if_neg (by rw [bne_iff_ne]; exact fun q => q hx), if_neg (fun q => q.2 hx)]
    · rw [if_pos (by rw [bne_iff_ne]; exact hx), if_pos ⟨by rw [h]; rfl, hx⟩]
  · refine ife h ?_
    rw [hJ, if_neg nt, if_neg (fun q => h (by simpa using q.1))]
def b0 (u n : Int) : Bool := !(Go.bits .and .i64 u n == 0)
theorem fits_f (k : Nat) (hk : 4 ≤ k) (op d s o i u : Int) (hop : 0 ≤ op ∧ op ≤ 255) (hs : 0 ≤ s) : insn_fits.f k op d s o i u = some (if F (b0 u 1) (b0 u 2) (b0 u 4) (b0 u 8) d s o i then false else fin op s i) := by
  obtain ⟨k, rfl⟩ : ∃ m, k = m + 4 := ⟨k - 4, by omega⟩
  have J3 : ∀ c, insn_fits.j3 (k + 1) c op d s o i = some (if c = true then false else fin op s i) := fun c => fj3 k c op d s o i hop hs
  have J2 : ∀ c, insn_fits.j2 (k + 2) u c op d s o i = some (if c = true then false else if b0 u 8 = false ∧ i ≠ 0 then false else fin op s i) := by
    intro c; rw [insn_fits.j2]
    cases c
    · exact ife nt ((stf J3).trans (by rw [if_neg nt]; rfl))
    · exact ift rfl rfl
  have J1 : ∀ c, insn_fits.j1 (k + 3) u c op d s o i = some (if c = true then false else if b0 u 4 = false ∧ o ≠ 0 then false else if b0 u 8 = false ∧ i ≠ 0 then false else fin op s i) := by
    intro c; rw [insn_fits.j1]
    cases c
    · exact ife nt ((stf J2).trans (by rw [if_neg nt]; rfl))
    · exact ift rfl rfl
  have J0 : ∀ c, insn_fits.j0 (k + 4) u c op d s o i = some (if c = true then false else if b0 u 2 = false ∧ s ≠ 0 then false else if b0 u 4 = false ∧ o ≠ 0 then false else if b0 u 8 = false ∧ i ≠ 0 then false else fin op s i) := by
    intro c; rw [insn_fits.j0]
    cases c
    · exact ife nt ((stf J1).trans (by rw [if_neg nt]; rfl))
    · exact ift rfl rfl
  unfold insn_fits.f
  refine (stf J0).trans ?_
  change some (if b0 u 1 = false ∧ d ≠ 0 then false else _) = _
  have sF : ∀ {p : Prop}, (p → F (b0 u 1) (b0 u 2) (b0 u 4) (b0 u 8) d s o i) → p → F (b0 u 1) (b0 u 2) (b0 u 4) (b0 u 8) d s o i := fun h q => h q
  by_cases h1 : b0 u 1 = false ∧ d ≠ 0
  · rw [if_pos h1, if_pos (sF Or.inl h1)]
  rw [if_neg h1]
  by_cases h2 : b0 u 2 = false ∧ s ≠ 0
  · rw [if_pos h2, if_pos (sF (fun q => Or.inr (Or.inl q)) h2)]
  rw [if_neg h2]
  by_cases h3 : b0 u 4 = false ∧ o ≠ 0
  · rw [if_pos h3, if_pos (sF (fun q => Or.inr (Or.inr (Or.inl q))) h3)]
  rw [if_neg h3]
  by_cases h4 : b0 u 8 = false ∧ i ≠ 0
  · rw [if_pos h4, if_pos (sF (fun q => Or.inr (Or.inr (Or.inr q))) h4)]
  rw [if_neg h4, if_neg (fun q : F _ _ _ _ _ _ _ _ => Or.elim q h1 (fun q => q.elim h2 (fun q => q.elim h3 h4)))]
theorem tl_or (op s i : Int) : tl op s i = 0 ∨ tl op s i = 6 := by
  unfold tl t24; split
  · exact Or.inr rfl
  · split
    · exact Or.inr rfl
    · exact Or.inl rfl
theorem cj1 (k : Nat) (hk : 4 ≤ k) (u : Int) (c : Bool) (op d s o i : Int) (hop : 0 ≤ op ∧ op ≤ 255) (hs : 0 ≤ s) : insn_Check.j1 (k + 1) u c op d s o i = some (if c = true then 15 else if F (b0 u 1) (b0 u 2) (b0 u 4) (b0 u 8) d s o i then 6 else tl op s i) := by
  rw [insn_Check.j1]
  cases c
  · refine ife nt (bs (fits_f k hk op d s o i u hop hs) ?_)
    rw [if_neg nt]
    by_cases h : F (b0 u 1) (b0 u 2) (b0 u 4) (b0 u 8) d s o i
    · rw [if_pos h, if_pos h]; exact ife nt rfl
    · rw [if_neg h, if_neg h]
      unfold fin
      rcases tl_or op s i with h | h
      · exact ift (decide_eq_true h) (by rw [h])
      · exact ife (by rw [decide_eq_true_iff, h]; decide) (by rw [h])
  · exact ift rfl rfl
theorem cj0 (k : Nat) (hk : 5 ≤ k) (u : Int) (c : Bool) (op d s o i : Int) (hop : 0 ≤ op ∧ op ≤ 255) (hs : c = false → 0 ≤ s) : insn_Check.j0 (k + 1) u c op d s o i = some (if c = true then 5 else if o < -32768 ∨ o > 32767 ∨ (op ≠ 24 ∧ (i < -2147483648 ∨ i > 2147483647)) then 15 else if F (b0 u 1) (b0 u 2) (b0 u 4) (b0 u 8) d s o i then 6 else tl op s i) := by
  obtain ⟨k, rfl⟩ : ∃ m, k = m + 1 := ⟨k - 1, by omega⟩
  rw [insn_Check.j0]
  cases c
  · refine ife nt (bs (has16 o) ?_)
    rw [if_neg nt]
    have hs0 := hs rfl
    have fin : ∀ c' : Bool, (c' = true ↔ (o < -32768 ∨ o > 32767 ∨ (op ≠ 24 ∧ (i < -2147483648 ∨ i > 2147483647)))) → insn_Check.j1 (k + 1) u c' op d s o i = some (if o < -32768 ∨ o > 32767 ∨ (op ≠ 24 ∧ (i < -2147483648 ∨ i > 2147483647)) then 15 else if F (b0 u 1) (b0 u 2) (b0 u 4) (b0 u 8) d s o i then 6 else tl op s i) := by
      intro c' hc
      rw [cj1 k (by omega) u c' op d s o i hop hs0]
      by_cases hh : o < -32768 ∨ o > 32767 ∨ (op ≠ 24 ∧ (i < -2147483648 ∨ i > 2147483647))
      · refine congrArg some ((if_pos (hc.mpr hh)).trans (if_pos hh).symm)
      · refine congrArg some ((if_neg (fun q => hh (hc.mp q))).trans (if_neg hh).symm)
    by_cases h1 : o < -32768 ∨ o > 32767
    · refine ife (by rw [decide_eq_true_iff]; exact fun q => q h1) (fin _ ⟨fun _ => by omega, fun _ => rfl⟩)
    · refine ift (decide_eq_true h1) ?_
      by_cases h3 : op = 24
      · exact ift h3 (fin _ ⟨fun q => absurd q (by decide), fun q => by omega⟩)
      · refine ife h3 (bs (has32 i) (fin _ ?_))
        rw [Bool.not_eq_true', decide_eq_false_iff_not]
        omega
  · exact ift rfl rfl
theorem uses_row (op : Int) (h : 0 ≤ op ∧ op ≤ 255) : ∃ u, insn_uses.f op = some (u, (row TT op).2.2.2.2.2.2) ∧ ((row TT op).2.2.2.2.2.2 = true → (row TT op).2.1 = b0 u 1 ∧ (row TT op).2.2.1 = b0 u 2 ∧ (row TT op).2.2.2.1 = b0 u 4 ∧ (row TT op).2.2.2.2.1 = b0 u 8 ∧ (row TT op).2.2.2.2.2.1 = b0 u 16) := by
  have h2 := List.all_eq_true.mp chk_all op.toNat (List.mem_range.mpr (by omega))
  unfold chk at h2
  rw [show ((op.toNat : Nat) : Int) = op by omega] at h2
  cases hu : insn_uses.f op with
  | none => rw [hu] at h2; exact absurd h2 (by simp)
  | some p =>
    obtain ⟨u, is⟩ := p
    rw [hu] at h2
    generalize row TT op = R at h2 ⊢
    obtain ⟨z, D, S, O, I, w, ok⟩ := R
    simp only [Bool.and_eq_true, Bool.or_eq_true, beq_iff_eq, Bool.not_eq_true'] at h2
    obtain ⟨rfl, h3⟩ := h2
    refine ⟨u, rfl, fun hok => ?_⟩
    have hok : is = true := hok
    rcases h3 with h3 | h3
    · exact absurd (hok.symm.trans h3) (by decide)
    · obtain ⟨⟨⟨⟨g1, g2⟩, g3⟩, g4⟩, g5⟩ := h3
      unfold b0
      rw [g1, g2, g3, g4, g5]
      simp
theorem icheck (k : Nat) (hk : 310 ≤ k) (op d s o i : Int) : insn_Check.f k op d s o i = some (if (row TT op).2.2.2.2.2.2 = true then vK (row TT op).2.1 (row TT op).2.2.1 (row TT op).2.2.2.1 (row TT op).2.2.2.2.1 (row TT op).2.2.2.2.2.1 op d s o i else 4) := by
  obtain ⟨k, rfl⟩ : ∃ m, k = m + 1 := ⟨k - 1, by omega⟩
  unfold insn_Check.f
  by_cases hop : 0 ≤ op ∧ op ≤ 255
  · obtain ⟨u, hu, hb⟩ := uses_row op hop
    generalize row TT op = R at hu hb ⊢
    obtain ⟨z, D, S, O, I, w, ok⟩ := R
    have hu : insn_uses.f op = some (u, ok) := hu
    have hb : ok = true → D = b0 u 1 ∧ S = b0 u 2 ∧ O = b0 u 4 ∧ I = b0 u 8 ∧ w = b0 u 16 := hb
    change _ = some (if ok = true then vK D S O I w op d s o i else 4)
    refine bs hu ?_
    by_cases hok : ok = true
    · obtain ⟨g1, g2, g3, g4, g5⟩ := hb hok
      refine ift hok (bs (within_f _ _ _) ?_)
      rw [if_pos hok, g1, g2, g3, g4, g5]
      unfold vK
      have fin : ∀ c' : Bool, (c' = true ↔ (d < 0 ∨ d > 10 ∨ s < 0 ∨ s > 10 ∨ (b0 u 16 = true ∧ d = 10))) → insn_Check.j0 (k + 1) u c' op d s o i = some (if d < 0 ∨ d > 10 ∨ s < 0 ∨ s > 10 ∨ (b0 u 16 = true ∧ d = 10) then 5 else if o < -32768 ∨ o > 32767 ∨ (op ≠ 24 ∧ (i < -2147483648 ∨ i > 2147483647)) then 15 else if F (b0 u 1) (b0 u 2) (b0 u 4) (b0 u 8) d s o i then 6 else tl op s i) := by
        intro c' hc
        by_cases hh : d < 0 ∨ d > 10 ∨ s < 0 ∨ s > 10 ∨ (b0 u 16 = true ∧ d = 10)
        · have hc' := hc.mpr hh
          rw [cj0 k (by omega) u c' op d s o i hop (fun q => absurd (hc'.symm.trans q) (by decide))]
          refine congrArg some ((if_pos hc').trans (if_pos hh).symm)
        · rw [cj0 k (by omega) u c' op d s o i hop (fun _ => by omega)]
          refine congrArg some ((if_neg (fun q => hh (hc.mp q))).trans (if_neg hh).symm)
      by_cases h1 : 0 ≤ d ∧ d ≤ 10
      · refine ift (decide_eq_true h1) (bs (within_f _ _ _) ?_)
        by_cases h2 : 0 ≤ s ∧ s ≤ 10
        · refine ift (decide_eq_true h2) ?_
          by_cases h3 : Go.bits .and .i64 u 16 = 0
          · refine ift h3 (fin _ ⟨fun q => absurd q (by decide), fun q => ?_⟩)
            have : b0 u 16 = false := by unfold b0; rw [h3]; rfl
            rcases q with q | q | q | q | q
            · omega
            · omega
            · omega
            · omega
            · exact absurd (this.symm.trans q.1) (by decide)
          · refine ife h3 (fin _ ?_)
            have : b0 u 16 = true := by unfold b0; rw [beq_eq_false_iff_ne.mpr h3]; rfl
            rw [beq_iff_eq]
            exact ⟨fun q => Or.inr (Or.inr (Or.inr (Or.inr ⟨this, q⟩))), fun q => by omega⟩
        · exact ife (by rw [decide_eq_true_iff]; exact h2) (fin _ ⟨fun _ => by omega, fun _ => rfl⟩)
      · exact ife (by rw [decide_eq_true_iff]; exact h1) (fin _ ⟨fun _ => by omega, fun _ => rfl⟩)
    · refine ife hok ?_
      rw [if_neg hok]
  · refine bs (uses_out op hop) (ife nt ?_)
    rw [row_out op hop, if_neg nt]
end Go.Proofs.Yticijjonimiooaa.C02
end
section
/- Layer 2: an instruction's size and width. -/
namespace Go.Proofs.Yticijjonimiooaa.C02
open Go.RowKit Go.Proofs.YticijjonimiooaaW.PrintWords Go.Proofs.YticijjonimiooaaW.PrintLast Go.Proofs.YticijjonimiooaaW.PrintMore Go.Proofs.Yticijjonimiooaa.PA Go.Proofs.Yticijjonimiooaa.Bv
theorem w64k {n : Int} (h : -4096 ≤ n ∧ n ≤ 4096) : wrap64 n = n := by unfold wrap64; omega
theorem wl (k : Nat) : (∀ x op d s o i, lockgateref02_Width.l0 k x op d s o i = lockgateref02_Width.l0 k x op 0 0 0 0) ∧ (∀ x y op d s o i, lockgateref02_Width.l1 k x y op d s o i = lockgateref02_Width.l1 k x y op 0 0 0 0) := by
  induction k with
  | zero => exact ⟨fun _ _ _ _ _ _ => by rw [lockgateref02_Width.l0, lockgateref02_Width.l0], fun _ _ _ _ _ _ _ => by rw [lockgateref02_Width.l1, lockgateref02_Width.l1]⟩
  | succ k ih =>
    refine ⟨fun x op d s o i => ?_, fun x y op d s o i => ?_⟩
    · rw [lockgateref02_Width.l0, lockgateref02_Width.l0, ih.2 x 1 op d s o i]
    · rw [lockgateref02_Width.l1, lockgateref02_Width.l1, ih.1 (wrap64 (x + 1)) op d s o i, ih.2 x (wrap64 (y + 1)) op d s o i]
theorem wo1 (op x : Int) (h : ¬ (0 ≤ op ∧ op ≤ 255)) (hx : 0 ≤ x ∧ x ≤ 3) (d : Nat) : ∀ (k : Nat) (y : Int), y + d = 4 → 1 ≤ y → d < k → (∀ k', k ≤ k' + d + 1 → lockgateref02_Width.l0 k' (wrap64 (x + 1)) op 0 0 0 0 = some 0) → lockgateref02_Width.l1 k x y op 0 0 0 0 = some 0 := by
  induction d with
  | zero =>
    intro k y hy h1 hk hl
    obtain ⟨k, rfl⟩ : ∃ m, k = m + 1 := ⟨k - 1, by omega⟩
    rw [lockgateref02_Width.l1]
    exact ife (by omega) (hl k (by omega))
  | succ d ih =>
    intro k y hy h1 hk hl
    obtain ⟨k, rfl⟩ : ∃ m, k = m + 1 := ⟨k - 1, by omega⟩
    rw [lockgateref02_Width.l1]
    rw [w64k (n := 8 * x) (by omega), w64k (n := 96 + 8 * x) (by omega), w64k (n := 96 + 8 * x + y) (by omega), w64k (n := y + 1) (by omega)]
    exact ift (by omega) (ife (by omega) (ih k (y + 1) (by omega) (by omega) (by omega) (fun k' hk' => hl k' (by omega))))
theorem wo0 (op : Int) (h : ¬ (0 ≤ op ∧ op ≤ 255)) (d : Nat) : ∀ (k : Nat) (x : Int), x + d = 4 → 0 ≤ x → 6 * d < k → lockgateref02_Width.l0 k x op 0 0 0 0 = some 0 := by
  induction d with
  | zero =>
    intro k x hx h0 hk
    obtain ⟨k, rfl⟩ : ∃ m, k = m + 1 := ⟨k - 1, by omega⟩
    rw [lockgateref02_Width.l0]
    exact ife (by omega) rfl
  | succ d ih =>
    intro k x hx h0 hk
    obtain ⟨k, rfl⟩ : ∃ m, k = m + 1 := ⟨k - 1, by omega⟩
    rw [lockgateref02_Width.l0]
    refine ift (by omega) (wo1 op x h (by omega) 3 k 1 (by omega) (by omega) (by omega) (fun k' hk' => ?_))
    rw [w64k (n := x + 1) (by omega)]
    exact ih k' (x + 1) (by omega) (by omega) (by omega)
def wv (op : Int) : Int := (insn_Width.f op 0 0 0 0).getD 0
set_option maxRecDepth 100000 in
theorem wchk : ((List.range 256).all fun n => (insn_Width.f (n : Int) 0 0 0 0).isSome && (lockgateref02_Width.f 50 (n : Int) 0 0 0 0 == insn_Width.f (n : Int) 0 0 0 0)) = true := by decide +kernel
theorem width_f (op d s o i : Int) : insn_Width.f op d s o i = some (wv op) := by
  have e : insn_Width.f op d s o i = insn_Width.f op 0 0 0 0 := rfl
  rw [e]
  unfold wv
  by_cases h : 0 ≤ op ∧ op ≤ 255
  · have h2 := List.all_eq_true.mp wchk op.toNat (List.mem_range.mpr (by omega))
    rw [show ((op.toNat : Nat) : Int) = op by omega, Bool.and_eq_true] at h2
    cases hx : insn_Width.f op 0 0 0 0 with
    | none => rw [hx] at h2; exact absurd h2.1 (by decide)
    | some v => rfl
  · have : insn_Width.f op 0 0 0 0 = some 0 := by
      unfold insn_Width.f
      exact bs (uses_out op h) (ife nt rfl)
    rw [this]; rfl
theorem rwidth_f (k : Nat) (hk : 50 ≤ k) (op d s o i : Int) : lockgateref02_Width.f k op d s o i = some (wv op) := by
  unfold lockgateref02_Width.f
  rw [(wl k).1]
  by_cases h : 0 ≤ op ∧ op ≤ 255
  · have h2 := List.all_eq_true.mp wchk op.toNat (List.mem_range.mpr (by omega))
    rw [show ((op.toNat : Nat) : Int) = op by omega, Bool.and_eq_true, beq_iff_eq] at h2
    have h3 : lockgateref02_Width.f 50 op 0 0 0 0 = some (wv op) := h2.2.trans (width_f op 0 0 0 0)
    exact at_rounds (lockgateref02_Width.mono op 0 0 0 0) hk h3
  · rw [wo0 op h 4 k 0 (by omega) (by omega) (by omega)]
    have : insn_Width.f op 0 0 0 0 = some 0 := by
      unfold insn_Width.f
      exact bs (uses_out op h) (ife nt rfl)
    unfold wv; rw [this]; rfl
def sz (op : Int) : Int := if op = 24 then 2 else 1
theorem size_f (op d s o i : Int) : insn_Size.f op d s o i = some (sz op) := by
  unfold insn_Size.f sz; by_cases h : op = 24
  · rw [if_pos h, if_pos h]
  · rw [if_neg h, if_neg h]
end Go.Proofs.Yticijjonimiooaa.C02
end
section
/- Layer 2: an instruction's bytes, there and back (closed). -/
namespace Go.Proofs.Yticijjonimiooaa.C02
open Go.RowKit Go.Proofs.YticijjonimiooaaW.PrintWords Go.Proofs.YticijjonimiooaaW.PrintLast Go.Proofs.YticijjonimiooaaW.PrintMore Go.Proofs.Yticijjonimiooaa.PA Go.Proofs.Yticijjonimiooaa.Bv
set_option maxRecDepth 100000 in
theorem works400 : lockgatelaw02_works.f 100 = some true := by decide +kernel
theorem works_f (k : Nat) (hk : 100 ≤ k) : lockgatelaw02_works.f k = some true := at_rounds lockgatelaw02_works.mono hk works400
end Go.Proofs.Yticijjonimiooaa.C02
end
section
/- Layer 2: what the statements share: lists held against one another, copied, lent, written over. -/
namespace Go.Proofs.Yticijjonimiooaa.C02
open Go.RowKit Go.Proofs.YticijjonimiooaaW.PrintWords Go.Proofs.YticijjonimiooaaW.PrintLast Go.Proofs.YticijjonimiooaaW.PrintMore Go.Proofs.Yticijjonimiooaa.PA Go.Proofs.Yticijjonimiooaa.Bv
theorem w64u {n : Nat} (h : n ≤ 100000) : wrap64 ((n : Int) + 1) = ((n + 1 : Nat) : Int) := by unfold wrap64; omega
theorem rdT (t : List S40) (i : Nat) (h : i < t.length) : rd_T40 t (i : Int) = t[i] := by
  unfold rd_T40
  rw [Int.toNat_natCast, List.getD_eq_getElem?_getD, List.getElem?_eq_getElem h]; rfl
theorem rdI (t : List Int) (i : Nat) (h : i < t.length) : rd t (i : Int) = t[i] := by
  unfold rd
  rw [Int.toNat_natCast, List.getD_eq_getElem?_getD, List.getElem?_eq_getElem h]; rfl
theorem sameB_l (l : List Int) (hl : l.length ≤ 100000) (d : Nat) : ∀ (k i : Nat), i + d = l.length → d < k → lockgatekit_SameBytes.l0 k l l (i : Int) = some true := by
  induction d with
  | zero =>
    intro k i hi hk
    obtain ⟨k, rfl⟩ : ∃ m, k = m + 1 := ⟨k - 1, by omega⟩
    rw [lockgatekit_SameBytes.l0]; exact ife (by omega) rfl
  | succ d ih =>
    intro k i hi hk
    obtain ⟨k, rfl⟩ : ∃ m, k = m + 1 := ⟨k - 1, by omega⟩
    rw [lockgatekit_SameBytes.l0, w64u (by omega)]
    exact ift (by omega) (ift (by omega) (ift (by omega) (ift rfl (ih k (i + 1) (by omega) (by omega)))))
theorem sameB (k : Nat) (l : List Int) (hl : l.length ≤ 100000) (hk : l.length < k) : lockgatekit_SameBytes.f k l l = some true := by
  unfold lockgatekit_SameBytes.f
  exact ift rfl (sameB_l l hl l.length k 0 (by omega) hk)
theorem ne5 (a b c d e : Int) : ¬ ((!(a == a) || (!(b == b) || (!(c == c) || (!(d == d) || (!(e == e)))))) = true) := by
  rw [beq_self_eq_true, beq_self_eq_true, beq_self_eq_true, beq_self_eq_true, beq_self_eq_true]; decide
theorem sameT_l (l : List S40) (hl : l.length ≤ 100000) (d : Nat) : ∀ (k i : Nat), i + d = l.length → d < k → lockgatekit_SameInsns.l0 k l l (i : Int) = some true := by
  induction d with
  | zero =>
    intro k i hi hk
    obtain ⟨k, rfl⟩ : ∃ m, k = m + 1 := ⟨k - 1, by omega⟩
    rw [lockgatekit_SameInsns.l0]; exact ife (by omega) rfl
  | succ d ih =>
    intro k i hi hk
    obtain ⟨k, rfl⟩ : ∃ m, k = m + 1 := ⟨k - 1, by omega⟩
    rw [lockgatekit_SameInsns.l0, w64u (by omega)]
    exact ift (by omega) (ift (by omega) (ift (by omega) (ife (ne5 _ _ _ _ _) (ih k (i + 1) (by omega) (by omega)))))
theorem sameT (k : Nat) (l : List S40) (hl : l.length ≤ 100000) (hk : l.length < k) : lockgatekit_SameInsns.f k l l = some true := by
  unfold lockgatekit_SameInsns.f
  exact ift rfl (sameT_l l hl l.length k 0 (by omega) hk)
theorem take_succ' {α : Type} (l : List α) (i : Nat) (h : i < l.length) : l.take i ++ [l[i]] = l.take (i + 1) := by
  rw [List.take_add_one, List.getElem?_eq_getElem h]; rfl
theorem copyT_l (l : List S40) (hl : l.length ≤ 100000) (d : Nat) : ∀ (k i : Nat), i + d = l.length → d < k → lockgatekit_CopyInsns.l0 k l (l.take i) (i : Int) = some l := by
  induction d with
  | zero =>
    intro k i hi hk
    obtain ⟨k, rfl⟩ : ∃ m, k = m + 1 := ⟨k - 1, by omega⟩
    rw [lockgatekit_CopyInsns.l0, List.take_of_length_le (by omega)]; exact ife (by omega) rfl
  | succ d ih =>
    intro k i hi hk
    obtain ⟨k, rfl⟩ : ∃ m, k = m + 1 := ⟨k - 1, by omega⟩
    rw [lockgatekit_CopyInsns.l0, w64u (by omega), rdT l i (by omega)]
    have e : l.take i ++ [(⟨(l[i]'(by omega)).f0, (l[i]'(by omega)).f1, (l[i]'(by omega)).f2, (l[i]'(by omega)).f3, (l[i]'(by omega)).f4⟩ : S40)] = l.take (i + 1) := take_succ' l i (by omega)
    rw [e]
    refine ift (by omega) (ift (by omega) (ift ?_ (ih k (i + 1) (by omega) (by omega))))
    rw [List.length_take]; omega
theorem copyT (k : Nat) (l : List S40) (hl : l.length ≤ 100000) (hk : l.length < k) : lockgatekit_CopyInsns.f k l = some l := by
  unfold lockgatekit_CopyInsns.f
  exact copyT_l l hl l.length k 0 (by omega) hk
def mk (i : Nat) : S40 := ⟨250 + i, 0, 0, 0, 77 * i⟩
def marks : List S40 := [mk 0, mk 1, mk 2, mk 3, mk 4]
theorem mark_f (i : Nat) (h : i ≤ 1000) : lockgatekit_markInsns.f (i : Int) = some ((mk i).f0, (mk i).f1, (mk i).f2, (mk i).f3, (mk i).f4) := by
  unfold lockgatekit_markInsns.f mk
  rw [w64k (n := 250 + (i : Int)) (by omega)]
  have : wrap64 (77 * (i : Int)) = 77 * (i : Int) := by unfold wrap64; omega
  rw [this]
theorem lent_l (acc : List S40) (hl : acc.length ≤ 1000) (d : Nat) : ∀ (k i : Nat), i + d = 5 → d < k → lockgatekit_LentInsns.l0 k (acc ++ marks.take i) (i : Int) = some (acc ++ marks) := by
  have hm : marks.length = 5 := rfl
  induction d with
  | zero =>
    intro k i hi hk
    obtain ⟨k, rfl⟩ : ∃ m, k = m + 1 := ⟨k - 1, by omega⟩
    rw [lockgatekit_LentInsns.l0, List.take_of_length_le (by omega)]; exact ife (by omega) rfl
  | succ d ih =>
    intro k i hi hk
    obtain ⟨k, rfl⟩ : ∃ m, k = m + 1 := ⟨k - 1, by omega⟩
    rw [lockgatekit_LentInsns.l0, w64u (by omega)]
    refine ift (by omega) (bs (mark_f i (by omega)) (ift ?_ ?_))
    · rw [List.length_append, List.length_take]; omega
    · have hmi : marks[i]'(by omega) = mk i := by
        have : i = 0 ∨ i = 1 ∨ i = 2 ∨ i = 3 ∨ i = 4 := by omega
        rcases this with rfl | rfl | rfl | rfl | rfl <;> rfl
      have e : acc ++ marks.take i ++ [(⟨(mk i).f0, (mk i).f1, (mk i).f2, (mk i).f3, (mk i).f4⟩ : S40)] = acc ++ marks.take (i + 1) := by
        rw [List.append_assoc, ← take_succ' marks i (by omega), hmi]
      exact (congrArg (fun z => lockgatekit_LentInsns.l0 k z ((i + 1 : Nat) : Int)) e).trans (ih k (i + 1) (by omega) (by omega))
theorem lent (k : Nat) (l : List S40) (hl : l.length ≤ 1000) (hk : l.length + 10 < k) : lockgatekit_LentInsns.f k l = some (l ++ marks) := by
  unfold lockgatekit_LentInsns.f
  refine bs (copyT k l (by omega) (by omega)) ?_
  have := lent_l l hl 5 k 0 (by omega) (by omega)
  simpa using this
theorem kept_l (l : List S40) (hl : l.length ≤ 1000) (d : Nat) : ∀ (k i : Nat), i + d = 5 → d < k → lockgatekit_KeptInsns.l0 k (l ++ marks) l (i : Int) = some true := by
  have hm : marks.length = 5 := rfl
  induction d with
  | zero =>
    intro k i hi hk
    obtain ⟨k, rfl⟩ : ∃ m, k = m + 1 := ⟨k - 1, by omega⟩
    rw [lockgatekit_KeptInsns.l0]; exact ife (by omega) rfl
  | succ d ih =>
    intro k i hi hk
    obtain ⟨k, rfl⟩ : ∃ m, k = m + 1 := ⟨k - 1, by omega⟩
    have e1 : wrap64 ((l.length : Int) + (i : Int)) = ((l.length + i : Nat) : Int) := by unfold wrap64; omega
    have hmi : marks[i]'(by omega) = mk i := by
      have : i = 0 ∨ i = 1 ∨ i = 2 ∨ i = 3 ∨ i = 4 := by omega
      rcases this with rfl | rfl | rfl | rfl | rfl <;> rfl
    have e2 : rd_T40 (l ++ marks) ((l.length + i : Nat) : Int) = mk i := by
      rw [rdT _ _ (by rw [List.length_append]; omega), List.getElem_append_right (by omega)]
      simpa using hmi
    rw [lockgatekit_KeptInsns.l0, e1, e2, w64u (by omega)]
    refine ift (by omega) (ift (by omega) (ift ?_ (bs (mark_f i (by omega)) (ife (ne5 _ _ _ _ _) (ih k (i + 1) (by omega) (by omega))))))
    rw [List.length_append]; omega
theorem kept (k : Nat) (l : List S40) (hl : l.length ≤ 1000) (hk : l.length + 20 < k) : lockgatekit_KeptInsns.f k (l ++ marks) l = some true := by
  have hm : marks.length = 5 := rfl
  unfold lockgatekit_KeptInsns.f
  have e1 : wrap64 ((l.length : Int) + 5) = ((l.length + 5 : Nat) : Int) := by unfold wrap64; omega
  have e2 : (l ++ marks).take ((l.length : Int)).toNat = l := by rw [Int.toNat_natCast, List.take_left]
  rw [e1, e2]
  refine ift (by rw [List.length_append]; omega) (ift (by omega) (ift (by rw [List.length_append]; omega) (bs (sameT k l (by omega) (by omega)) ?_)))
  obtain ⟨k, rfl⟩ : ∃ m, k = m + 1 := ⟨k - 1, by omega⟩
  rw [lockgatekit_KeptInsns.j0]
  exact ife nt (kept_l l hl 5 k 0 (by omega) (by omega))
theorem spoil_l (d : Nat) : ∀ (k i : Nat) (l : List Int), l.length ≤ 100000 → i + d = l.length → d < k → ∃ r, lockgatekit_SpoilBytes.l0 k l (i : Int) = some r := by
  induction d with
  | zero =>
    intro k i l hl hi hk
    obtain ⟨k, rfl⟩ : ∃ m, k = m + 1 := ⟨k - 1, by omega⟩
    rw [lockgatekit_SpoilBytes.l0]; exact ⟨l, ife (by omega) rfl⟩
  | succ d ih =>
    intro k i l hl hi hk
    obtain ⟨k, rfl⟩ : ∃ m, k = m + 1 := ⟨k - 1, by omega⟩
    rw [lockgatekit_SpoilBytes.l0, w64u (by omega)]
    obtain ⟨r, hr⟩ := ih k (i + 1) (l.set ((i : Int)).toNat ((wrap64 (201 + (wrap64 (7 * (wrap64 ((i : Int) + 7)))))) % 256)) (by rw [List.length_set]; omega) (by rw [List.length_set]; omega) (by omega)
    exact ⟨r, ift (by omega) (bs rfl (ift (by omega) hr))⟩
theorem spoil (k : Nat) (l : List Int) (hl : l.length ≤ 100000) (hk : l.length < k) : ∃ r, lockgatekit_SpoilBytes.f k l = some r := spoil_l l.length k 0 l hl (by omega) hk
end Go.Proofs.Yticijjonimiooaa.C02
end
section
/- Layer 2: instructions as bytes: what the program's Put and the document's come to. -/
namespace Go.Proofs.Yticijjonimiooaa.C02
open Go.RowKit Go.Proofs.YticijjonimiooaaW.PrintWords Go.Proofs.YticijjonimiooaaW.PrintLast Go.Proofs.YticijjonimiooaaW.PrintMore Go.Proofs.Yticijjonimiooaa.PA Go.Proofs.Yticijjonimiooaa.Bv
/-- a number's n lowest bytes. -/
def lb (v : Int) : Nat → List Int
  | 0 => []
  | n + 1 => v % 256 :: lb (v / 256) n
theorem lb_length (n : Nat) : ∀ v, (lb v n).length = n := by
  induction n with
  | zero => intro v; rfl
  | succ n ih => intro v; rw [lb, List.length_cons, ih]
theorem low_f (k : Nat) (xs : List Int) (v : Int) (n : Nat) (hn : n ≤ 100) (hx : xs.length + 200 ≤ 100000) (hk : n < k) : insn_low.f k xs v (n : Int) = some (xs ++ lb v n) := by
  have gen : ∀ (n k : Nat) (xs : List Int) (v : Int), xs.length + n ≤ 100000 → n < k → n ≤ 100 → insn_low.l0 k xs v (n : Int) = some (xs ++ lb v n) := by
    intro n
    induction n with
    | zero =>
      intro k xs v hx hk _
      obtain ⟨k, rfl⟩ : ∃ m, k = m + 1 := ⟨k - 1, by omega⟩
      rw [insn_low.l0]
      exact ife (by omega) (by rw [lb, List.append_nil])
    | succ n ih =>
      intro k xs v hx hk hn
      obtain ⟨k, rfl⟩ : ∃ m, k = m + 1 := ⟨k - 1, by omega⟩
      have e : wrap64 (((n + 1 : Nat) : Int) - 1) = (n : Int) := by unfold wrap64; omega
      rw [insn_low.l0, e]
      refine ift (by omega) (ift (by omega) ?_)
      rw [ih k (xs ++ [v % 256]) (v / 256) (by rw [List.length_append, List.length_singleton]; omega) (by omega) (by omega), lb, List.append_assoc]; rfl
  exact gen n k xs v (by omega) hk hn
/-- an instruction's bytes. -/
def by1 (x : S40) : List Int := [x.f0 % 256, (16 * x.f2 + x.f1) % 256] ++ lb x.f3 2 ++ lb x.f4 4 ++ (if x.f0 = 24 then [0, 0, 0, 0] ++ lb (x.f4 / 4294967296) 4 else [])
theorem lb2 (v : Int) : lb v 2 = [v % 256, v / 256 % 256] := rfl
theorem lb4 (v : Int) : lb v 4 = [v % 256, v / 256 % 256, v / 256 / 256 % 256, v / 256 / 256 / 256 % 256] := rfl
theorem orr {d s : Int} (hd : 0 ≤ d ∧ d ≤ 10) (hs : 0 ≤ s ∧ s ≤ 10) : Go.bits .or .i64 (wrap64 (s * 16)) d = 16 * s + d := by
  have hall : ((List.range 11).all fun a => (List.range 11).all fun b => Go.bits .or .i64 ((a : Int) * 16) (b : Int) == 16 * (a : Int) + (b : Int)) = true := by decide +kernel
  have h1 := List.all_eq_true.mp hall s.toNat (List.mem_range.mpr (by omega))
  have h2 := List.all_eq_true.mp h1 d.toNat (List.mem_range.mpr (by omega))
  rw [beq_iff_eq, show ((s.toNat : Nat) : Int) = s by omega, show ((d.toNat : Nat) : Int) = d by omega] at h2
  rw [w64k (n := s * 16) (by omega)]; exact h2
/-- what is wrong with an instruction. -/
def ck (x : S40) : Int := if (row TT x.f0).2.2.2.2.2.2 = true then vK (row TT x.f0).2.1 (row TT x.f0).2.2.1 (row TT x.f0).2.2.2.1 (row TT x.f0).2.2.2.2.1 (row TT x.f0).2.2.2.2.2.1 x.f0 x.f1 x.f2 x.f3 x.f4 else 4
theorem vK_ok {D S O I w : Bool} {op d s o i : Int} (h : vK D S O I w op d s o i = 0) : (0 ≤ d ∧ d ≤ 10) ∧ (0 ≤ s ∧ s ≤ 10) := by
  unfold vK at h
  by_cases h1 : d < 0 ∨ d > 10 ∨ s < 0 ∨ s > 10 ∨ (w = true ∧ d = 10)
  · rw [if_pos h1] at h; exact absurd h (by decide)
  · refine ⟨⟨?_, ?_⟩, ?_, ?_⟩
    · exact Int.not_lt.mp fun q => h1 (Or.inl q)
    · exact Int.not_lt.mp fun q => h1 (Or.inr (Or.inl q))
    · exact Int.not_lt.mp fun q => h1 (Or.inr (Or.inr (Or.inl q)))
    · exact Int.not_lt.mp fun q => h1 (Or.inr (Or.inr (Or.inr (Or.inl q))))
theorem ck_ok {x : S40} (h : ck x = 0) : (0 ≤ x.f1 ∧ x.f1 ≤ 10) ∧ (0 ≤ x.f2 ∧ x.f2 ≤ 10) := by
  unfold ck at h
  generalize row TT x.f0 = R at h
  obtain ⟨z, D, S, O, I, w, ok⟩ := R
  have h : (if ok = true then vK D S O I w x.f0 x.f1 x.f2 x.f3 x.f4 else 4) = 0 := h
  by_cases hok : ok = true
  · rw [if_pos hok] at h; exact vK_ok h
  · rw [if_neg hok] at h; exact absurd h (by decide)
/-- Put, on lists. -/
def put : List S40 → List Int → List Int × Int
  | [], acc => (acc, 0)
  | x :: xs, acc => if ck x = 0 then put xs (acc ++ by1 x) else ([], ck x)
theorem by1_length (x : S40) : (by1 x).length ≤ 16 := by
  unfold by1
  rw [List.length_append, List.length_append, List.length_append, lb_length, lb_length]
  by_cases h : x.f0 = 24
  · rw [if_pos h, List.length_append, lb_length]; simp
  · rw [if_neg h]; simp
theorem put_l (l : List S40) (hl : l.length ≤ 1000) (d : Nat) : ∀ (k i : Nat) (acc : List Int), i + d = l.length → acc.length ≤ 16 * i → d + 400 ≤ k → insn_Put.l0 k acc l (l.length : Int) (i : Int) = some (put (l.drop i) acc) := by
  induction d with
  | zero =>
    intro k i acc hi ha hk
    obtain ⟨k, rfl⟩ : ∃ m, k = m + 1 := ⟨k - 1, by omega⟩
    rw [insn_Put.l0, List.drop_of_length_le (by omega)]; exact ife (by omega) rfl
  | succ d ih =>
    intro k i acc hi ha hk
    obtain ⟨k, rfl⟩ : ∃ m, k = m + 1 := ⟨k - 1, by omega⟩
    have hlt : i < l.length := by omega
    rw [insn_Put.l0, rdT l i hlt, List.drop_eq_getElem_cons hlt, w64u (by omega)]
    generalize hx : l[i] = x
    refine ift (by omega) (ift (by omega) (ift (by omega) (bs (icheck k (by omega) x.f0 x.f1 x.f2 x.f3 x.f4) ?_)))
    change (if ck x = 0 then _ else _) = _
    rw [put]
    by_cases h : ck x = 0
    · obtain ⟨hd, hs⟩ := ck_ok h
      refine ift h ?_
      rw [if_pos h, orr hd hs]
      have l1 := by1_length x
      refine bs rfl (ift (by simp; omega) ?_)
      refine bs (low_f k _ x.f3 2 (by omega) (by simp; omega) (by omega)) ?_
      refine bs (low_f k _ x.f4 4 (by omega) (by simp [lb_length]; omega) (by omega)) ?_
      refine bs (size_f _ _ _ _ _) ?_
      have step : ∀ acc', acc' = acc ++ by1 x → insn_Put.l0 k acc' l (l.length : Int) ((i + 1 : Nat) : Int) = some (put (l.drop (i + 1)) (acc ++ by1 x)) := by
        intro acc' e
        rw [e]
        exact ih k (i + 1) _ (by omega) (by rw [List.length_append]; omega) (by omega)
      unfold sz
      by_cases h24 : x.f0 = 24
      · rw [if_pos h24]
        refine ift rfl ?_
        refine bs (low_f k _ 0 4 (by omega) (by simp [lb_length]; omega) (by omega)) ?_
        refine bs (low_f k _ (x.f4 / 4294967296) 4 (by omega) (by simp [lb_length]; omega) (by omega)) ?_
        refine step _ ?_
        unfold by1
        rw [if_pos h24]
        simp [lb]
      · rw [if_neg h24]
        refine ife (by decide) (step _ ?_)
        unfold by1
        rw [if_neg h24]
        simp
    · refine ife h ?_
      rw [if_neg h]; rfl
theorem put_f (k : Nat) (hk : 2000 ≤ k) (l : List S40) (hl : l.length ≤ 1000) : insn_Put.f k l = some (if l.length > 256 then ([], 9) else put l []) := by
  unfold insn_Put.f
  by_cases h : l.length > 256
  · refine ift (by omega) ?_; rw [if_pos h]
  · refine ife (by omega) ?_
    rw [if_neg h]; exact put_l l hl l.length k 0 [] (by omega) (by simp) (by omega)
theorem put_length (l : List S40) : ∀ acc, (put l acc).1.length ≤ acc.length + 16 * l.length := by
  induction l with
  | nil => intro acc; simp [put]
  | cons x xs ih =>
    intro acc
    rw [put]
    have := by1_length x
    by_cases h : ck x = 0
    · rw [if_pos h]
      have := ih (acc ++ by1 x)
      rw [List.length_append] at this
      rw [List.length_cons]; omega
    · rw [if_neg h]; simp
end Go.Proofs.Yticijjonimiooaa.C02
end
section
/- Layer 2: bytes as a number with its sign. -/
namespace Go.Proofs.Yticijjonimiooaa.C02
open Go.RowKit Go.Proofs.YticijjonimiooaaW.PrintWords Go.Proofs.YticijjonimiooaaW.PrintLast Go.Proofs.YticijjonimiooaaW.PrintMore Go.Proofs.Yticijjonimiooaa.PA Go.Proofs.Yticijjonimiooaa.Bv
def isB (x : Int) : Prop := 0 ≤ x ∧ x < 256
theorem or_add (x y : Int) (n : Nat) (hn : n ≤ 56) (hx : 0 ≤ x ∧ x < 2 ^ n) (hy : isB y) : Go.bits .or .u64 x (shl .u64 (IntKind.u64.wrap y) (n : Int)) = x + y * 2 ^ n := by
  unfold isB at hy
  have p56 : (2 : Nat) ^ n ≤ 2 ^ 56 := Nat.pow_le_pow_right (by omega) hn
  obtain ⟨a, rfl⟩ : ∃ a : Nat, x = (a : Int) := ⟨x.toNat, by omega⟩
  obtain ⟨b, rfl⟩ : ∃ b : Nat, y = (b : Int) := ⟨y.toNat, by omega⟩
  have ha : a < 2 ^ n := by exact_mod_cast hx.2
  have hb : b < 256 := by omega
  have hbn : b * 2 ^ n < 2 ^ 64 := by
    have : b * 2 ^ n ≤ 255 * 2 ^ 56 := Nat.mul_le_mul (by omega) p56
    omega
  have e1 : shl .u64 (IntKind.u64.wrap (b : Int)) (n : Int) = ((b * 2 ^ n : Nat) : Int) := by
    rw [wrap_u64, shl_U]
    unfold U
    rw [BitVec.toNat_shiftLeft, BitVec.toNat_ofInt, Int.toNat_natCast, Nat.shiftLeft_eq]
    have : ((b : Int) % ((2 ^ 64 : Nat) : Int)).toNat = b := by omega
    rw [this, Nat.mod_eq_of_lt hbn]
  rw [e1, b_or]
  unfold U
  rw [BitVec.toNat_or, BitVec.toNat_ofInt, BitVec.toNat_ofInt]
  have h1 : ((a : Int) % ((2 ^ 64 : Nat) : Int)).toNat = a := by
    have : a < 2 ^ 56 := Nat.lt_of_lt_of_le ha p56
    omega
  have h2 : (((b * 2 ^ n : Nat) : Int) % ((2 ^ 64 : Nat) : Int)).toNat = b * 2 ^ n := by
    have : ((b * 2 ^ n : Nat) : Int) % ((2 ^ 64 : Nat) : Int) = ((b * 2 ^ n : Nat) : Int) := Int.emod_eq_of_lt (by omega) (by exact_mod_cast hbn)
    rw [this, Int.toNat_natCast]
  rw [h1, h2, Nat.or_comm, Nat.mul_comm b, ← Nat.two_pow_add_eq_or_of_lt ha]
  push_cast
  rw [Int.mul_comm (b : Int)]; omega
/-- a number of n bits with its sign. -/
def sg16 (x : Int) : Int := if x < 32768 then x else x - 65536
def sg32 (x : Int) : Int := if x < 2147483648 then x else x - 4294967296
theorem top16 (x : Int) (h : 0 ≤ x ∧ x < 65536) : shr .i64 (wrap64 (shl .u64 x 48)) 48 = sg16 x := by
  obtain ⟨a, rfl⟩ : ∃ a : Nat, x = (a : Int) := ⟨x.toNat, by omega⟩
  have ha : a < 65536 := by omega
  have e : ((a : Nat) : Int) = U (BitVec.ofNat 64 a) := by unfold U; rw [BitVec.toNat_ofNat, Nat.mod_eq_of_lt (by omega)]
  rw [e, shl_U, wrap_i64, ofInt_U, shr_S]
  unfold S
  rw [BitVec.toInt_sshiftRight, BitVec.toInt_eq_toNat_cond, BitVec.toNat_shiftLeft, BitVec.toNat_ofNat, Int.shiftRight_eq_div_pow]
  have : (a % 2 ^ 64) <<< ((48 : Int).toNat) % 2 ^ 64 = a * 281474976710656 := by
    rw [Nat.shiftLeft_eq, show (2 : Nat) ^ ((48 : Int).toNat) = 281474976710656 from rfl, Nat.mod_eq_of_lt (a := a) (by omega), Nat.mod_eq_of_lt (by omega)]
  rw [this, show (((2 ^ ((48 : Int).toNat) : Nat)) : Int) = 281474976710656 from rfl]
  have e2 : U (BitVec.ofNat 64 a) = (a : Int) := e.symm
  rw [e2]
  unfold sg16
  by_cases hs : (a : Int) < 32768
  · rw [if_pos hs, if_pos (by omega)]; omega
  · rw [if_neg hs, if_neg (by omega)]; omega
theorem top32 (x : Int) (h : 0 ≤ x ∧ x < 4294967296) : shr .i64 (wrap64 (shl .u64 x 32)) 32 = sg32 x := by
  obtain ⟨a, rfl⟩ : ∃ a : Nat, x = (a : Int) := ⟨x.toNat, by omega⟩
  have ha : a < 4294967296 := by omega
  have e : ((a : Nat) : Int) = U (BitVec.ofNat 64 a) := by unfold U; rw [BitVec.toNat_ofNat, Nat.mod_eq_of_lt (by omega)]
  rw [e, shl_U, wrap_i64, ofInt_U, shr_S]
  unfold S
  rw [BitVec.toInt_sshiftRight, BitVec.toInt_eq_toNat_cond, BitVec.toNat_shiftLeft, BitVec.toNat_ofNat, Int.shiftRight_eq_div_pow]
  have : (a % 2 ^ 64) <<< ((32 : Int).toNat) % 2 ^ 64 = a * 4294967296 := by
    rw [Nat.shiftLeft_eq, show (2 : Nat) ^ ((32 : Int).toNat) = 4294967296 from rfl, Nat.mod_eq_of_lt (a := a) (by omega), Nat.mod_eq_of_lt (by omega)]
  rw [this, show (((2 ^ ((32 : Int).toNat) : Nat)) : Int) = 4294967296 from rfl]
  have e2 : U (BitVec.ofNat 64 a) = (a : Int) := e.symm
  rw [e2]
  unfold sg32
  by_cases hs : (a : Int) < 2147483648
  · rw [if_pos hs, if_pos (by omega)]; omega
  · rw [if_neg hs, if_neg (by omega)]; omega
theorem num2 (k : Nat) (hk : 10 ≤ k) (a b : Int) (ha : isB a) (hb : isB b) : insn_number.f k [a, b] = some (sg16 (a + 256 * b)) := by
  obtain ⟨k, rfl⟩ : ∃ m, k = m + 3 := ⟨k - 3, by omega⟩
  have o1 := or_add 0 a 0 (by omega) (by omega) ha
  have o2 := or_add a b 8 (by omega) (by unfold isB at ha; omega) hb
  unfold isB at ha hb
  unfold insn_number.f
  rw [insn_number.l0, show wrap64 (8 * 0) = 0 by unfold wrap64; omega, show wrap64 ((0 : Int) + 1) = 1 by unfold wrap64; omega, show rd [a, b] 0 = a from rfl]
  refine ift (by simp) (ift (by omega) (ift (by simp) (ift (by omega) ?_)))
  rw [show Go.bits .or .u64 0 (shl .u64 (IntKind.u64.wrap a) 0) = a from o1.trans (by omega)]
  rw [insn_number.l0, show wrap64 (8 * 1) = 8 by unfold wrap64; omega, show wrap64 ((1 : Int) + 1) = 2 by unfold wrap64; omega, show rd [a, b] 1 = b from rfl]
  refine ift (by simp) (ift (by omega) (ift (by simp) (ift (by omega) ?_)))
  rw [show Go.bits .or .u64 a (shl .u64 (IntKind.u64.wrap b) 8) = a + 256 * b from o2.trans (by omega)]
  rw [insn_number.l0]
  have e : wrap64 (64 - wrap64 (8 * (([a, b] : List Int).length : Int))) = 48 := by
    show wrap64 (64 - wrap64 (8 * 2)) = 48
    rw [show wrap64 (8 * 2) = 16 by unfold wrap64; omega]; unfold wrap64; omega
  rw [e]
  refine ife (by simp) (ift (by omega) ?_)
  rw [top16 _ (by omega)]
theorem num4 (k : Nat) (hk : 10 ≤ k) (a b c d : Int) (ha : isB a) (hb : isB b) (hc : isB c) (hd : isB d) : insn_number.f k [a, b, c, d] = some (sg32 (a + 256 * b + 65536 * c + 16777216 * d)) := by
  obtain ⟨k, rfl⟩ : ∃ m, k = m + 5 := ⟨k - 5, by omega⟩
  have o1 := or_add 0 a 0 (by omega) (by omega) ha
  have o2 := or_add a b 8 (by omega) (by unfold isB at ha; omega) hb
  have o3 := or_add (a + 256 * b) c 16 (by omega) (by unfold isB at ha hb; omega) hc
  have o4 := or_add (a + 256 * b + 65536 * c) d 24 (by omega) (by unfold isB at ha hb hc; omega) hd
  unfold isB at ha hb hc hd
  unfold insn_number.f
  rw [insn_number.l0, show wrap64 (8 * 0) = 0 by unfold wrap64; omega, show wrap64 ((0 : Int) + 1) = 1 by unfold wrap64; omega, show rd [a, b, c, d] 0 = a from rfl]
  refine ift (by simp) (ift (by omega) (ift (by simp) (ift (by omega) ?_)))
  rw [show Go.bits .or .u64 0 (shl .u64 (IntKind.u64.wrap a) 0) = a from o1.trans (by omega)]
  rw [insn_number.l0, show wrap64 (8 * 1) = 8 by unfold wrap64; omega, show wrap64 ((1 : Int) + 1) = 2 by unfold wrap64; omega, show rd [a, b, c, d] 1 = b from rfl]
  refine ift (by simp) (ift (by omega) (ift (by simp) (ift (by omega) ?_)))
  rw [show Go.bits .or .u64 a (shl .u64 (IntKind.u64.wrap b) 8) = a + 256 * b from o2.trans (by omega)]
  rw [insn_number.l0, show wrap64 (8 * 2) = 16 by unfold wrap64; omega, show wrap64 ((2 : Int) + 1) = 3 by unfold wrap64; omega, show rd [a, b, c, d] 2 = c from rfl]
  refine ift (by simp) (ift (by omega) (ift (by simp) (ift (by omega) ?_)))
  rw [show Go.bits .or .u64 (a + 256 * b) (shl .u64 (IntKind.u64.wrap c) 16) = a + 256 * b + 65536 * c from o3.trans (by omega)]
  rw [insn_number.l0, show wrap64 (8 * 3) = 24 by unfold wrap64; omega, show wrap64 ((3 : Int) + 1) = 4 by unfold wrap64; omega, show rd [a, b, c, d] 3 = d from rfl]
  refine ift (by simp) (ift (by omega) (ift (by simp) (ift (by omega) ?_)))
  rw [show Go.bits .or .u64 (a + 256 * b + 65536 * c) (shl .u64 (IntKind.u64.wrap d) 24) = a + 256 * b + 65536 * c + 16777216 * d from o4.trans (by omega)]
  rw [insn_number.l0]
  have e : wrap64 (64 - wrap64 (8 * (([a, b, c, d] : List Int).length : Int))) = 32 := by
    show wrap64 (64 - wrap64 (8 * 4)) = 32
    rw [show wrap64 (8 * 4) = 32 by unfold wrap64; omega]; unfold wrap64; omega
  rw [e]
  refine ife (by simp) (ift (by omega) ?_)
  rw [top32 _ (by omega)]
end Go.Proofs.Yticijjonimiooaa.C02
end
section
/- Layer 2: an instruction read of its bytes. -/
namespace Go.Proofs.Yticijjonimiooaa.C02
open Go.RowKit Go.Proofs.YticijjonimiooaaW.PrintWords Go.Proofs.YticijjonimiooaaW.PrintLast Go.Proofs.YticijjonimiooaaW.PrintMore Go.Proofs.Yticijjonimiooaa.PA Go.Proofs.Yticijjonimiooaa.Bv
theorem andLow (lo : Int) (h : 0 ≤ lo ∧ lo < 4294967296) : Go.bits .and .i64 (sg32 lo) 4294967295 = lo := by
  obtain ⟨a, rfl⟩ : ∃ a : Nat, lo = (a : Int) := ⟨lo.toNat, by omega⟩
  have ha : a < 4294967296 := by omega
  have e : Go.bits .and .i64 (sg32 (a : Int)) 4294967295 = S (BitVec.ofInt 64 (sg32 (a : Int)) &&& BitVec.ofInt 64 4294967295) := bits_wrap_i _
  rw [e]
  have e2 : BitVec.ofInt 64 (sg32 (a : Int)) &&& BitVec.ofInt 64 4294967295 = BitVec.ofNat 64 a := by
    apply BitVec.eq_of_toNat_eq
    rw [BitVec.toNat_and, BitVec.toNat_ofInt, BitVec.toNat_ofInt, BitVec.toNat_ofNat, Nat.mod_eq_of_lt (a := a) (by omega)]
    have m : ((4294967295 : Int) % ((2 ^ 64 : Nat) : Int)).toNat = 2 ^ 32 - 1 := rfl
    rw [m, Nat.and_two_pow_sub_one_eq_mod]
    unfold sg32
    by_cases hs : (a : Int) < 2147483648
    · rw [if_pos hs]; omega
    · rw [if_neg hs]; omega
  rw [e2]
  unfold S
  rw [BitVec.toInt_eq_toNat_cond, BitVec.toNat_ofNat, Nat.mod_eq_of_lt (a := a) (by omega), if_pos (by omega)]
theorem orHigh (lo hi : Int) (h : 0 ≤ lo ∧ lo < 4294967296) (h2 : 0 ≤ hi ∧ hi < 4294967296) : Go.bits .or .i64 lo (wrap64 (sg32 hi * 4294967296)) = lo + sg32 hi * 4294967296 := by
  obtain ⟨a, rfl⟩ : ∃ a : Nat, lo = (a : Int) := ⟨lo.toNat, by omega⟩
  obtain ⟨b, rfl⟩ : ∃ b : Nat, hi = (b : Int) := ⟨hi.toNat, by omega⟩
  have ha : a < 4294967296 := by omega
  have hb : b < 4294967296 := by omega
  have e : Go.bits .or .i64 (a : Int) (wrap64 (sg32 (b : Int) * 4294967296)) = S (BitVec.ofInt 64 (a : Int) ||| BitVec.ofInt 64 (wrap64 (sg32 (b : Int) * 4294967296))) := bits_wrap_i _
  rw [e]
  have e2 : BitVec.ofInt 64 (a : Int) ||| BitVec.ofInt 64 (wrap64 (sg32 (b : Int) * 4294967296)) = BitVec.ofNat 64 (a + b * 4294967296) := by
    apply BitVec.eq_of_toNat_eq
    rw [BitVec.toNat_or, BitVec.toNat_ofInt, BitVec.toNat_ofInt, BitVec.toNat_ofNat, Nat.mod_eq_of_lt (a := a + b * 4294967296) (by omega)]
    have m1 : ((a : Int) % ((2 ^ 64 : Nat) : Int)).toNat = a := by omega
    have m2 : (wrap64 (sg32 (b : Int) * 4294967296) % ((2 ^ 64 : Nat) : Int)).toNat = 2 ^ 32 * b := by
      unfold wrap64 sg32
      by_cases hs : (b : Int) < 2147483648
      · rw [if_pos hs]; omega
      · rw [if_neg hs]; omega
    rw [m1, m2, Nat.or_comm, ← Nat.two_pow_add_eq_or_of_lt (by omega : a < 2 ^ 32)]; omega
  rw [e2]
  unfold S sg32
  rw [BitVec.toInt_eq_toNat_cond, BitVec.toNat_ofNat, Nat.mod_eq_of_lt (a := a + b * 4294967296) (by omega)]
  by_cases hs : (b : Int) < 2147483648
  · rw [if_pos hs, if_pos (by omega)]; omega
  · rw [if_neg hs, if_neg (by omega)]; omega
theorem and15 {n : Int} (h : isB n) : Go.bits .and .u8 n 15 = n % 16 := by
  unfold isB at h
  have : (List.range 256).all (fun m => Go.bits .and .u8 (m : Int) 15 == (m : Int) % 16) = true := by decide +kernel
  have h2 := List.all_eq_true.mp this n.toNat (List.mem_range.mpr (by omega))
  rw [beq_iff_eq, show ((n.toNat : Nat) : Int) = n by omega] at h2
  exact h2
theorem icheckx (k : Nat) (hk : 310 ≤ k) (x : S40) : insn_Check.f k x.f0 x.f1 x.f2 x.f3 x.f4 = some (ck x) := by unfold ck; exact icheck k hk x.f0 x.f1 x.f2 x.f3 x.f4
theorem icheck' (k : Nat) (hk : 310 ≤ k) (op d s o i : Int) : insn_Check.f k op d s o i = some (ck ⟨op, d, s, o, i⟩) := icheckx k hk ⟨op, d, s, o, i⟩
def v4 (a b c d : Int) : Int := a + 256 * b + 65536 * c + 16777216 * d
theorem v4_in {a b c d : Int} (ha : isB a) (hb : isB b) (hc : isB c) (hd : isB d) : 0 ≤ v4 a b c d ∧ v4 a b c d < 4294967296 := by unfold isB at *; unfold v4; omega
/-- what eight bytes, and what stands behind them, are. -/
theorem first_n (k : Nat) (hk : 400 ≤ k) (b0 b1 p0 p1 i0 i1 i2 i3 : Int) (t : List Int) (h0 : isB b0) (h1 : isB b1) (hp0 : isB p0) (hp1 : isB p1) (hi0 : isB i0) (hi1 : isB i1) (hi2 : isB i2) (hi3 : isB i3) (ht : t.length ≤ 1000000) (hop : b0 ≠ 24) :
    insn_first.f k (b0 :: b1 :: p0 :: p1 :: i0 :: i1 :: i2 :: i3 :: t) = some (b0, b1 % 16, b1 / 16, sg16 (p0 + 256 * p1), sg32 (v4 i0 i1 i2 i3), 8, ck ⟨b0, b1 % 16, b1 / 16, sg16 (p0 + 256 * p1), sg32 (v4 i0 i1 i2 i3)⟩) := by
  have hB := h0; have hB1 := h1
  unfold isB at hB hB1
  unfold insn_first.f
  rw [show rd (b0 :: b1 :: p0 :: p1 :: i0 :: i1 :: i2 :: i3 :: t) 0 = b0 from rfl, show rd (b0 :: b1 :: p0 :: p1 :: i0 :: i1 :: i2 :: i3 :: t) 1 = b1 from rfl, and15 h1]
  rw [w64k (n := b0) (by omega), w64k (n := b1 % 16) (by omega), w64k (n := b1 / 16) (by omega)]
  have hlen : ((b0 :: b1 :: p0 :: p1 :: i0 :: i1 :: i2 :: i3 :: t).length : Int) = (t.length : Int) + 8 := by simp only [List.length_cons]; omega
  rw [hlen]
  refine ife (by omega) (ift (by omega) (ift (by omega) (ift (by omega) (ift (by omega) ?_))))
  refine bs (num2 k (by omega) p0 p1 hp0 hp1) (ift (by omega) (ift (by omega) ?_))
  refine bs (num4 k (by omega) i0 i1 i2 i3 hi0 hi1 hi2 hi3) (bs (size_f _ _ _ _ _) ?_)
  have hs : sz b0 = 1 := by unfold sz; rw [if_neg hop]
  rw [hs, w64k (n := 8 * 1) (by omega)]
  refine ife (by omega) (bs (icheck' k (by omega) _ _ _ _ _) rfl)
theorem first_w (k : Nat) (hk : 400 ≤ k) (b1 p0 p1 i0 i1 i2 i3 j0 j1 j2 j3 : Int) (t : List Int) (h1 : isB b1) (hp0 : isB p0) (hp1 : isB p1) (hi0 : isB i0) (hi1 : isB i1) (hi2 : isB i2) (hi3 : isB i3) (hj0 : isB j0) (hj1 : isB j1) (hj2 : isB j2) (hj3 : isB j3) (ht : t.length ≤ 1000000) :
    insn_first.f k (24 :: b1 :: p0 :: p1 :: i0 :: i1 :: i2 :: i3 :: 0 :: 0 :: 0 :: 0 :: j0 :: j1 :: j2 :: j3 :: t) = some (24, b1 % 16, b1 / 16, sg16 (p0 + 256 * p1), v4 i0 i1 i2 i3 + sg32 (v4 j0 j1 j2 j3) * 4294967296, 16, ck ⟨24, b1 % 16, b1 / 16, sg16 (p0 + 256 * p1), v4 i0 i1 i2 i3 + sg32 (v4 j0 j1 j2 j3) * 4294967296⟩) := by
  have hB1 := h1
  unfold isB at hB1
  have z : isB 0 := by unfold isB; omega
  unfold insn_first.f
  rw [show rd (24 :: b1 :: p0 :: p1 :: i0 :: i1 :: i2 :: i3 :: 0 :: 0 :: 0 :: 0 :: j0 :: j1 :: j2 :: j3 :: t) 0 = 24 from rfl, show rd (24 :: b1 :: p0 :: p1 :: i0 :: i1 :: i2 :: i3 :: 0 :: 0 :: 0 :: 0 :: j0 :: j1 :: j2 :: j3 :: t) 1 = b1 from rfl, and15 h1]
  rw [w64k (n := 24) (by omega), w64k (n := b1 % 16) (by omega), w64k (n := b1 / 16) (by omega)]
  have hlen : ((24 :: b1 :: p0 :: p1 :: i0 :: i1 :: i2 :: i3 :: 0 :: 0 :: 0 :: 0 :: j0 :: j1 :: j2 :: j3 :: t).length : Int) = (t.length : Int) + 16 := by simp only [List.length_cons]; omega
  rw [hlen]
  refine ife (by omega) (ift (by omega) (ift (by omega) (ift (by omega) (ift (by omega) ?_))))
  refine bs (num2 k (by omega) p0 p1 hp0 hp1) (ift (by omega) (ift (by omega) ?_))
  refine bs (num4 k (by omega) i0 i1 i2 i3 hi0 hi1 hi2 hi3) (bs (size_f _ _ _ _ _) ?_)
  rw [show sz 24 = 2 from rfl, w64k (n := 8 * 2) (by omega)]
  refine ift (by omega) (ife (by omega) (ift (by omega) (ift (by omega) ?_)))
  refine bs (num4 k (by omega) 0 0 0 0 z z z z) (ift rfl (ift (by omega) (ift (by omega) ?_)))
  refine bs (num4 k (by omega) j0 j1 j2 j3 hj0 hj1 hj2 hj3) ?_
  have hv := v4_in hi0 hi1 hi2 hi3
  have hw := v4_in hj0 hj1 hj2 hj3
  have e := andLow (v4 i0 i1 i2 i3) hv
  have e2 := orHigh (v4 i0 i1 i2 i3) (v4 j0 j1 j2 j3) hv hw
  unfold v4 at e e2
  rw [e, e2]
  exact bs (icheck' k (by omega) _ _ _ _ _) rfl
end Go.Proofs.Yticijjonimiooaa.C02
end
section
/- InsnBack, without Go. -/
namespace Go.Proofs.Yticijjonimiooaa.LInsnBack
open Go.RowKit Go.Proofs.YticijjonimiooaaW.PrintWords Go.Proofs.YticijjonimiooaaW.PrintLast Go.Proofs.YticijjonimiooaaW.PrintMore Go.Proofs.Yticijjonimiooaa.PA Go.Proofs.Yticijjonimiooaa.Bv Go.Proofs.Yticijjonimiooaa.C02
theorem vK_rng {D S O I w : Bool} {op d s o i : Int} (h : vK D S O I w op d s o i = 0) : (-32768 ≤ o ∧ o ≤ 32767) ∧ (op = 24 ∨ (-2147483648 ≤ i ∧ i ≤ 2147483647)) := by
  unfold vK at h
  by_cases h1 : d < 0 ∨ d > 10 ∨ s < 0 ∨ s > 10 ∨ (w = true ∧ d = 10)
  · rw [if_pos h1] at h; exact absurd h (by decide)
  rw [if_neg h1] at h
  by_cases h2 : o < -32768 ∨ o > 32767 ∨ (op ≠ 24 ∧ (i < -2147483648 ∨ i > 2147483647))
  · have : (15 : Int) = 0 := (if_pos h2).symm.trans h
    exact absurd this (by decide)
  · clear h; omega
theorem ck_rng {x : S40} (h : ck x = 0) : (0 ≤ x.f0 ∧ x.f0 ≤ 255) ∧ (-32768 ≤ x.f3 ∧ x.f3 ≤ 32767) ∧ (x.f0 = 24 ∨ (-2147483648 ≤ x.f4 ∧ x.f4 ≤ 2147483647)) := by
  have hop : 0 ≤ x.f0 ∧ x.f0 ≤ 255 := by
    apply Classical.byContradiction
    intro hn
    unfold ck at h
    rw [row_out x.f0 hn] at h
    simp at h
  refine ⟨hop, ?_⟩
  unfold ck at h
  generalize row TT x.f0 = R at h
  obtain ⟨z, D, S, O, I, w, ok⟩ := R
  have h : (if ok = true then vK D S O I w x.f0 x.f1 x.f2 x.f3 x.f4 else 4) = 0 := h
  by_cases hok : ok = true
  · rw [if_pos hok] at h; exact vK_rng h
  · rw [if_neg hok] at h; exact absurd h (by decide)
def i64 (n : Int) : Prop := -9223372036854775808 ≤ n ∧ n < 9223372036854775808
theorem isBm (v : Int) : isB (v % 256) := by unfold isB; omega
theorem off_back {v : Int} (h : -32768 ≤ v ∧ v ≤ 32767) : sg16 (v % 256 + 256 * (v / 256 % 256)) = v := by
  unfold sg16; by_cases hs : v % 256 + 256 * (v / 256 % 256) < 32768
  · rw [if_pos hs]; omega
  · rw [if_neg hs]; omega
theorem imm_low (v : Int) : v4 (v % 256) (v / 256 % 256) (v / 256 / 256 % 256) (v / 256 / 256 / 256 % 256) = v % 4294967296 := by unfold v4; omega
theorem imm_back {v : Int} (h : -2147483648 ≤ v ∧ v ≤ 2147483647) : sg32 (v % 4294967296) = v := by
  unfold sg32; by_cases hs : v % 4294967296 < 2147483648
  · rw [if_pos hs]; omega
  · rw [if_neg hs]; omega
theorem first_by1 (k : Nat) (hk : 400 ≤ k) (x : S40) (hc : ck x = 0) (hi : i64 x.f4) (t : List Int) (ht : t.length ≤ 1000000) : insn_first.f k (by1 x ++ t) = some (x.f0, x.f1, x.f2, x.f3, x.f4, 8 * sz x.f0, 0) := by
  obtain ⟨hd, hs⟩ := ck_ok hc
  obtain ⟨hop, ho, him⟩ := ck_rng hc
  have e0 : x.f0 % 256 = x.f0 := by omega
  have hb1 : isB ((16 * x.f2 + x.f1) % 256) := isBm _
  have e1 : (16 * x.f2 + x.f1) % 256 % 16 = x.f1 := by omega
  have e2 : (16 * x.f2 + x.f1) % 256 / 16 = x.f2 := by omega
  have e3 := off_back ho
  unfold by1
  rw [lb2, lb4]
  by_cases h24 : x.f0 = 24
  · rw [if_pos h24, lb4]
    have w := first_w k hk ((16 * x.f2 + x.f1) % 256) (x.f3 % 256) (x.f3 / 256 % 256) (x.f4 % 256) (x.f4 / 256 % 256) (x.f4 / 256 / 256 % 256) (x.f4 / 256 / 256 / 256 % 256)
      (x.f4 / 4294967296 % 256) (x.f4 / 4294967296 / 256 % 256) (x.f4 / 4294967296 / 256 / 256 % 256) (x.f4 / 4294967296 / 256 / 256 / 256 % 256) t hb1 (isBm _) (isBm _) (isBm _) (isBm _) (isBm _) (isBm _) (isBm _) (isBm _) (isBm _) (isBm _) ht
    have hj : -2147483648 ≤ x.f4 / 4294967296 ∧ x.f4 / 4294967296 ≤ 2147483647 := by unfold i64 at hi; omega
    rw [e1, e2, e3, imm_low, imm_low, imm_back hj] at w
    have e4 : x.f4 % 4294967296 + x.f4 / 4294967296 * 4294967296 = x.f4 := by omega
    rw [e4] at w
    have ex : (⟨24, x.f1, x.f2, x.f3, x.f4⟩ : S40) = x := by rw [← h24]
    rw [ex, hc] at w
    rw [h24]
    exact w
  · rw [if_neg h24]
    have w := first_n k hk (x.f0 % 256) ((16 * x.f2 + x.f1) % 256) (x.f3 % 256) (x.f3 / 256 % 256) (x.f4 % 256) (x.f4 / 256 % 256) (x.f4 / 256 / 256 % 256) (x.f4 / 256 / 256 / 256 % 256) t (isBm _) hb1 (isBm _) (isBm _) (isBm _) (isBm _) (isBm _) (isBm _) ht (by omega)
    rw [e0, e1, e2, e3, imm_low, imm_back (by omega)] at w
    have ex : (⟨x.f0, x.f1, x.f2, x.f3, x.f4⟩ : S40) = x := rfl
    rw [ex, hc] at w
    have hsz : 8 * sz x.f0 = 8 := by unfold sz; rw [if_neg h24]; rfl
    rw [hsz, e0]
    exact w
theorem by1_len (x : S40) : ((by1 x).length : Int) = 8 * sz x.f0 := by
  unfold by1 sz
  rw [List.length_append, List.length_append, List.length_append, lb_length, lb_length]
  by_cases h : x.f0 = 24
  · rw [if_pos h, if_pos h, List.length_append, lb_length]; rfl
  · rw [if_neg h, if_neg h]; rfl
def bts (l : List S40) : List Int := l.flatMap by1
theorem bts_len (l : List S40) : (bts l).length ≤ 16 * l.length := by
  induction l with
  | nil => simp [bts]
  | cons x xs ih =>
    have := by1_length x
    unfold bts at *
    rw [List.flatMap_cons, List.length_append, List.length_cons]; omega
theorem get_l (l : List S40) (hl : l.length ≤ 1000) : ∀ (k : Nat) (acc : List S40), (∀ x ∈ l, ck x = 0 ∧ i64 x.f4) → acc.length + l.length ≤ 256 → l.length + 500 ≤ k → insn_Get.l0 k (bts l) acc = some (acc ++ l, 0) := by
  induction l with
  | nil =>
    intro k acc _ _ hk
    obtain ⟨k, rfl⟩ : ∃ m, k = m + 1 := ⟨k - 1, by omega⟩
    rw [insn_Get.l0, List.append_nil]
    exact ife (by simp [bts]) rfl
  | cons x xs ih =>
    intro k acc hx ha hk
    rw [List.length_cons] at hl ha hk
    obtain ⟨k, rfl⟩ : ∃ m, k = m + 1 := ⟨k - 1, by omega⟩
    obtain ⟨hc, hi⟩ := hx x (List.mem_cons_self ..)
    have e : bts (x :: xs) = by1 x ++ bts xs := by unfold bts; rw [List.flatMap_cons]
    have l1 := by1_len x
    have l2 := bts_len xs
    have s12 : sz x.f0 = 1 ∨ sz x.f0 = 2 := by unfold sz; split <;> omega
    rw [insn_Get.l0, e]
    refine ift (by rw [List.length_append]; omega) (ife (by omega) (bs (first_by1 k (by omega) x hc hi (bts xs) (by omega)) ?_))
    refine ift rfl (ift (by omega) (ift ?_ (ift ?_ ?_)))
    · show (0 : Int) ≤ 8 * sz x.f0; omega
    · show 8 * sz x.f0 ≤ _; rw [List.length_append]; omega
    · have e2 : (8 * sz x.f0).toNat = (by1 x).length := by omega
      show insn_Get.l0 k ((by1 x ++ bts xs).drop ((8 * sz x.f0)).toNat) (acc ++ [x]) = _
      rw [e2, List.drop_left, ih (by omega) k (acc ++ [x]) (fun y hy => hx y (List.mem_cons_of_mem _ hy)) (by rw [List.length_append, List.length_singleton]; omega) (by omega), List.append_assoc]; rfl
theorem put_ok (l : List S40) : ∀ acc, ((put l acc).2 = 0 → (∀ x ∈ l, ck x = 0) ∧ (put l acc).1 = acc ++ bts l) ∧ ((put l acc).2 ≠ 0 → (put l acc).1 = []) := by
  induction l with
  | nil => intro acc; exact ⟨fun _ => ⟨by simp, by simp [put, bts]⟩, fun h => absurd rfl h⟩
  | cons x xs ih =>
    intro acc
    rw [put]
    by_cases h : ck x = 0
    · rw [if_pos h]
      obtain ⟨i1, i2⟩ := ih (acc ++ by1 x)
      refine ⟨fun q => ?_, i2⟩
      obtain ⟨j1, j2⟩ := i1 q
      refine ⟨fun y hy => ?_, ?_⟩
      · rcases List.mem_cons.mp hy with rfl | hy
        · exact h
        · exact j1 y hy
      · rw [j2, List.append_assoc]; unfold bts; rw [List.flatMap_cons]
    · rw [if_neg h]
      generalize ck x = c at h
      exact ⟨fun q => absurd q h, fun _ => rfl⟩
theorem back_l (l : List S40) (hl : l.length ≤ 256) (hx : ∀ x ∈ l, ck x = 0 ∧ i64 x.f4) (d : Nat) : ∀ (k i : Nat), i + d = l.length → d + 2000 ≤ k → lockgatelaw02_InsnBack.l0 k l (bts l) (((bts (l.take i)).length : Nat) : Int) (i : Int) = some true := by
  induction d with
  | zero =>
    intro k i hi hk
    obtain ⟨k, rfl⟩ : ∃ m, k = m + 1 := ⟨k - 1, by omega⟩
    rw [lockgatelaw02_InsnBack.l0, List.take_of_length_le (by omega)]
    refine ife (by omega) (bs (get_l l (by omega) k [] hx (by simp; omega) (by omega)) (ift rfl (ift rfl (bs (sameT k l (by omega) (by omega)) (ift rfl (bs (works_f k (by omega)) rfl))))))
  | succ d ih =>
    intro k i hi hk
    obtain ⟨k, rfl⟩ : ∃ m, k = m + 1 := ⟨k - 1, by omega⟩
    have hlt : i < l.length := by omega
    obtain ⟨hc, _⟩ := hx l[i] (List.getElem_mem hlt)
    have l1 := by1_len l[i]
    have l2 := bts_len (l.take i)
    have l3 : (l.take i).length = i := by rw [List.length_take]; omega
    have s12 : sz l[i].f0 = 1 ∨ sz l[i].f0 = 2 := by unfold sz; split <;> omega
    rw [lockgatelaw02_InsnBack.l0, rdT l i hlt, w64u (by omega)]
    refine ift (by omega) (ift (by omega) (bs (size_f _ _ _ _ _) (bs (icheckx k (by omega) l[i]) (ift hc ?_))))
    have e : wrap64 (((bts (l.take i)).length : Int) + wrap64 (8 * sz l[i].f0)) = (((bts (l.take (i + 1))).length : Nat) : Int) := by
      rw [w64k (n := 8 * sz l[i].f0) (by omega)]
      have e2 : bts (l.take (i + 1)) = bts (l.take i) ++ by1 l[i] := by
        rw [← take_succ' l i hlt]; unfold bts; rw [List.flatMap_append, List.flatMap_singleton]
      rw [e2, List.length_append]
      unfold wrap64; omega
    rw [e]
    exact ih k (i + 1) (by omega) (by omega)
theorem law (k : Nat) (hk : 10000 ≤ k) (l : List S40) (hi : ∀ x ∈ l, i64 x.f4) : lockgatelaw02_InsnBack.f k l = some true := by
  have kn := works_f k (by omega)
  unfold lockgatelaw02_InsnBack.f
  by_cases h : l.length > 400
  · exact ift (by omega) (bs kn rfl)
  · refine ife (by omega) (bs (put_f k (by omega) l (by omega)) ?_)
    by_cases h2 : l.length > 256
    · rw [if_pos h2]; exact ife (by decide) (ift rfl (bs kn rfl))
    · rw [if_neg h2]
      obtain ⟨p1, p2⟩ := put_ok l []
      by_cases h3 : (put l []).2 = 0
      · obtain ⟨q1, q2⟩ := p1 h3
        refine ift h3 ?_
        rw [q2, List.nil_append]
        exact back_l l (by omega) (fun x hx => ⟨q1 x hx, hi x hx⟩) l.length k 0 (by omega) (by omega)
      · refine ife h3 ?_
        rw [p2 h3]; exact ift rfl (bs kn rfl)
theorem pure (l0 : List S40) (hm : l0.length ≤ maxLen) (hw : ∀ x ∈ l0, (Lit.int .i64 x.f0).wf = true ∧ (Lit.int .i64 x.f1).wf = true ∧ (Lit.int .i64 x.f2).wf = true ∧ (Lit.int .i64 x.f3).wf = true ∧ (Lit.int .i64 x.f4).wf = true) :
    ∃ k, lockgatelaw02_InsnBack.f k l0 = some true := by
  refine ⟨10000, law 10000 (by omega) l0 (fun x hx => ?_)⟩
  obtain ⟨v, hv⟩ := exS (hw x hx).2.2.2.2
  have h1 := S_ge v
  have h2 := S_lt v
  unfold i64; omega
end Go.Proofs.Yticijjonimiooaa.LInsnBack
end
section
/- InsnForms, without Go. -/
namespace Go.Proofs.Yticijjonimiooaa.LInsnForms
open Go.RowKit Go.Proofs.YticijjonimiooaaW.PrintWords Go.Proofs.YticijjonimiooaaW.PrintLast Go.Proofs.YticijjonimiooaaW.PrintMore Go.Proofs.Yticijjonimiooaa.PA Go.Proofs.Yticijjonimiooaa.Bv Go.Proofs.Yticijjonimiooaa.C02 Go.Proofs.Yticijjonimiooaa.LInsnBack
theorem put_all (l : List S40) (h : ∀ x ∈ l, ck x = 0) : ∀ acc, put l acc = (acc ++ bts l, 0) := by
  induction l with
  | nil => intro acc; simp [put, bts]
  | cons x xs ih =>
    intro acc
    rw [put, if_pos (h x (List.mem_cons_self ..)), ih (fun y hy => h y (List.mem_cons_of_mem _ hy)), List.append_assoc]
    unfold bts; rw [List.flatMap_cons]
theorem lb_v4 {a b c d : Int} (ha : isB a) (hb : isB b) (hc : isB c) (hd : isB d) (v : Int) (h : v % 4294967296 = v4 a b c d) : lb v 4 = [a, b, c, d] := by
  unfold isB at *; unfold v4 at h
  rw [lb4, show v % 256 = a by omega, show v / 256 % 256 = b by omega, show v / 256 / 256 % 256 = c by omega, show v / 256 / 256 / 256 % 256 = d by omega]
theorem sg32_mod {x : Int} (h : 0 ≤ x ∧ x < 4294967296) : sg32 x % 4294967296 = x := by
  unfold sg32; by_cases hs : x < 2147483648
  · rw [if_pos hs]; omega
  · rw [if_neg hs]; omega
theorem lb_s16 {a b : Int} (ha : isB a) (hb : isB b) : lb (sg16 (a + 256 * b)) 2 = [a, b] := by
  unfold isB at *
  rw [lb2]
  unfold sg16
  by_cases hs : a + 256 * b < 32768
  · rw [if_pos hs, show (a + 256 * b) % 256 = a by omega, show (a + 256 * b) / 256 % 256 = b by omega]
  · rw [if_neg hs, show (a + 256 * b - 65536) % 256 = a by omega, show (a + 256 * b - 65536) / 256 % 256 = b by omega]
theorem b1_back {b : Int} (h : isB b) : (16 * (b / 16) + b % 16) % 256 = b := by unfold isB at h; omega
theorem short (k : Nat) (l : List Int) (h : l.length < 8) : insn_first.f k l = some (0, 0, 0, 0, 0, 0, 2) := by
  unfold insn_first.f; exact ift (by omega) rfl
/-- bytes that begin with 24: too short, or not 0 where they have to be, or the wide instruction. -/
theorem first_24 (k : Nat) (hk : 400 ≤ k) (b1 p0 p1 i0 i1 i2 i3 : Int) (t : List Int) (h1 : isB b1) (hp0 : isB p0) (hp1 : isB p1) (hi0 : isB i0) (hi1 : isB i1) (hi2 : isB i2) (hi3 : isB i3) (ht : t.length ≤ 1000000) (htB : ∀ x ∈ t, isB x) :
    insn_first.f k (24 :: b1 :: p0 :: p1 :: i0 :: i1 :: i2 :: i3 :: t) = some (0, 0, 0, 0, 0, 0, 2) ∨ insn_first.f k (24 :: b1 :: p0 :: p1 :: i0 :: i1 :: i2 :: i3 :: t) = some (0, 0, 0, 0, 0, 0, 6) ∨
    ∃ j0 j1 j2 j3 t', t = 0 :: 0 :: 0 :: 0 :: j0 :: j1 :: j2 :: j3 :: t' ∧ isB j0 ∧ isB j1 ∧ isB j2 ∧ isB j3 := by
  have hB1 := h1
  unfold isB at hB1
  have pre : ∀ r, (if ((24 :: b1 :: p0 :: p1 :: i0 :: i1 :: i2 :: i3 :: t).length : Int) < 16 then some (0, 0, 0, 0, 0, 0, 2) else r) = r ∨ t.length < 8 := by
    intro r
    by_cases h : t.length < 8
    · exact Or.inr h
    · left; exact if_neg (by simp only [List.length_cons]; omega)
  have hlen : ((24 :: b1 :: p0 :: p1 :: i0 :: i1 :: i2 :: i3 :: t).length : Int) = (t.length : Int) + 8 := by simp only [List.length_cons]; omega
  by_cases hs : t.length < 8
  · left
    unfold insn_first.f
    rw [show rd (24 :: b1 :: p0 :: p1 :: i0 :: i1 :: i2 :: i3 :: t) 0 = 24 from rfl, show rd (24 :: b1 :: p0 :: p1 :: i0 :: i1 :: i2 :: i3 :: t) 1 = b1 from rfl, hlen]
    refine ife (by omega) (ift (by omega) (ift (by omega) (ift (by omega) (ift (by omega) ?_))))
    refine bs (num2 k (by omega) p0 p1 hp0 hp1) (ift (by omega) (ift (by omega) ?_))
    refine bs (num4 k (by omega) i0 i1 i2 i3 hi0 hi1 hi2 hi3) (bs (size_f _ _ _ _ _) ?_)
    rw [w64k (n := 24) (by omega), show sz 24 = 2 from rfl, w64k (n := 8 * 2) (by omega)]
    exact ift (by omega) (ift (by omega) rfl)
  · match t, htB, ht, hs, hlen with
    | z0 :: z1 :: z2 :: z3 :: j0 :: j1 :: j2 :: j3 :: t', htB, ht, hs, hlen =>
      have g0 := htB z0 (by simp); have g1 := htB z1 (by simp); have g2 := htB z2 (by simp); have g3 := htB z3 (by simp)
      by_cases hz : z0 = 0 ∧ z1 = 0 ∧ z2 = 0 ∧ z3 = 0
      · right; right
        obtain ⟨rfl, rfl, rfl, rfl⟩ := hz
        exact ⟨j0, j1, j2, j3, t', rfl, htB j0 (by simp), htB j1 (by simp), htB j2 (by simp), htB j3 (by simp)⟩
      · right; left
        have hlt : ((z0 :: z1 :: z2 :: z3 :: j0 :: j1 :: j2 :: j3 :: t').length : Int) = (t'.length : Int) + 8 := by simp only [List.length_cons]; omega
        unfold insn_first.f
        rw [show rd (24 :: b1 :: p0 :: p1 :: i0 :: i1 :: i2 :: i3 :: z0 :: z1 :: z2 :: z3 :: j0 :: j1 :: j2 :: j3 :: t') 0 = 24 from rfl, show rd (24 :: b1 :: p0 :: p1 :: i0 :: i1 :: i2 :: i3 :: z0 :: z1 :: z2 :: z3 :: j0 :: j1 :: j2 :: j3 :: t') 1 = b1 from rfl, hlen]
        refine ife (by omega) (ift (by omega) (ift (by omega) (ift (by omega) (ift (by omega) ?_))))
        refine bs (num2 k (by omega) p0 p1 hp0 hp1) (ift (by omega) (ift (by omega) ?_))
        refine bs (num4 k (by omega) i0 i1 i2 i3 hi0 hi1 hi2 hi3) (bs (size_f _ _ _ _ _) ?_)
        rw [w64k (n := 24) (by omega), show sz 24 = 2 from rfl, w64k (n := 8 * 2) (by omega)]
        refine ift (by omega) (ife (by omega) (ift (by omega) (ift (by omega) ?_)))
        refine bs (num4 k (by omega) z0 z1 z2 z3 g0 g1 g2 g3) (ife ?_ rfl)
        unfold isB at g0 g1 g2 g3
        unfold sg32
        by_cases hq : z0 + 256 * z1 + 65536 * z2 + 16777216 * z3 < 2147483648
        · rw [if_pos hq]; omega
        · rw [if_neg hq]; omega
    | [], _, _, hs, _ => exact absurd (by simp) hs
    | [_], _, _, hs, _ => exact absurd (by simp) hs
    | [_, _], _, _, hs, _ => exact absurd (by simp) hs
    | [_, _, _], _, _, hs, _ => exact absurd (by simp) hs
    | [_, _, _, _], _, _, hs, _ => exact absurd (by simp) hs
    | [_, _, _, _, _], _, _, hs, _ => exact absurd (by simp) hs
    | [_, _, _, _, _, _], _, _, hs, _ => exact absurd (by simp) hs
    | [_, _, _, _, _, _, _], _, _, hs, _ => exact absurd (by simp) hs
/-- what stands at the beginning of any bytes. -/
theorem first_any (k : Nat) (hk : 400 ≤ k) (l : List Int) (hl : l.length ≤ 100000) (hB : ∀ x ∈ l, isB x) :
    (∃ a b c d e f g, insn_first.f k l = some (a, b, c, d, e, f, g) ∧ g ≠ 0) ∨ ∃ (x : S40) (t : List Int), l = by1 x ++ t ∧ ck x = 0 ∧ insn_first.f k l = some (x.f0, x.f1, x.f2, x.f3, x.f4, 8 * sz x.f0, 0) := by
  by_cases hs : l.length < 8
  · exact Or.inl ⟨_, _, _, _, _, _, _, short k l hs, by decide⟩
  match l, hB, hl, hs with
  | b0 :: b1 :: p0 :: p1 :: i0 :: i1 :: i2 :: i3 :: t, hB, hl, hs =>
    have h0 := hB b0 (by simp); have h1 := hB b1 (by simp); have hp0 := hB p0 (by simp); have hp1 := hB p1 (by simp)
    have hi0 := hB i0 (by simp); have hi1 := hB i1 (by simp); have hi2 := hB i2 (by simp); have hi3 := hB i3 (by simp)
    have htB : ∀ x ∈ t, isB x := fun x hx => hB x (by simp [hx])
    have htl : t.length ≤ 1000000 := by simp only [List.length_cons] at hl; omega
    by_cases h24 : b0 = 24
    · subst h24
      rcases first_24 k hk b1 p0 p1 i0 i1 i2 i3 t h1 hp0 hp1 hi0 hi1 hi2 hi3 htl htB with h | h | ⟨j0, j1, j2, j3, t', rfl, hj0, hj1, hj2, hj3⟩
      · exact Or.inl ⟨_, _, _, _, _, _, _, h, by decide⟩
      · exact Or.inl ⟨_, _, _, _, _, _, _, h, by decide⟩
      · have w := first_w k hk b1 p0 p1 i0 i1 i2 i3 j0 j1 j2 j3 t' h1 hp0 hp1 hi0 hi1 hi2 hi3 hj0 hj1 hj2 hj3 (by simp only [List.length_cons] at htl; omega)
        generalize hx : (⟨24, b1 % 16, b1 / 16, sg16 (p0 + 256 * p1), v4 i0 i1 i2 i3 + sg32 (v4 j0 j1 j2 j3) * 4294967296⟩ : S40) = x at w
        by_cases hc : ck x = 0
        · right
          refine ⟨x, t', ?_, hc, ?_⟩
          · have v := v4_in hi0 hi1 hi2 hi3
            have u := sg32_mod (v4_in hj0 hj1 hj2 hj3)
            unfold by1
            rw [← hx]
            dsimp only
            rw [if_pos rfl, b1_back h1, lb_s16 hp0 hp1, lb_v4 hi0 hi1 hi2 hi3 _ (by omega), lb_v4 hj0 hj1 hj2 hj3 _ (by omega)]
            rfl
          · rw [w, hc, ← hx]; rfl
        · exact Or.inl ⟨_, _, _, _, _, _, _, w, hc⟩
    · have w := first_n k hk b0 b1 p0 p1 i0 i1 i2 i3 t h0 h1 hp0 hp1 hi0 hi1 hi2 hi3 htl h24
      generalize hx : (⟨b0, b1 % 16, b1 / 16, sg16 (p0 + 256 * p1), sg32 (v4 i0 i1 i2 i3)⟩ : S40) = x at w
      by_cases hc : ck x = 0
      · right
        refine ⟨x, t, ?_, hc, ?_⟩
        · unfold by1
          rw [← hx]
          dsimp only
          rw [if_neg h24, b1_back h1, lb_s16 hp0 hp1, lb_v4 hi0 hi1 hi2 hi3 _ (sg32_mod (v4_in hi0 hi1 hi2 hi3)), show b0 % 256 = b0 by unfold isB at h0; omega]
          rfl
        · rw [w, hc, ← hx]
          dsimp only
          have : sz b0 = 1 := by unfold sz; rw [if_neg h24]
          rw [this]; rfl
      · exact Or.inl ⟨_, _, _, _, _, _, _, w, hc⟩
  | [], _, _, hs => exact absurd (by simp) hs
  | [_], _, _, hs => exact absurd (by simp) hs
  | [_, _], _, _, hs => exact absurd (by simp) hs
  | [_, _, _], _, _, hs => exact absurd (by simp) hs
  | [_, _, _, _], _, _, hs => exact absurd (by simp) hs
  | [_, _, _, _, _], _, _, hs => exact absurd (by simp) hs
  | [_, _, _, _, _, _], _, _, hs => exact absurd (by simp) hs
  | [_, _, _, _, _, _, _], _, _, hs => exact absurd (by simp) hs
/-- Get, of any bytes. -/
theorem get_any (n : Nat) : ∀ (k : Nat) (l : List Int) (acc : List S40), l.length ≤ n → l.length ≤ 100000 → (∀ x ∈ l, isB x) → acc.length ≤ 256 → n + 500 ≤ k →
    ∃ r e, insn_Get.l0 k l acc = some (r, e) ∧ ((e ≠ 0 ∧ r = []) ∨ (e = 0 ∧ ∃ m, r = acc ++ m ∧ bts m = l ∧ (∀ x ∈ m, ck x = 0) ∧ acc.length + m.length ≤ 256)) := by
  induction n with
  | zero =>
    intro k l acc hn hl hB ha hk
    obtain ⟨k, rfl⟩ : ∃ m, k = m + 1 := ⟨k - 1, by omega⟩
    obtain rfl : l = [] := List.length_eq_zero_iff.mp (by omega)
    rw [insn_Get.l0]
    exact ⟨acc, 0, ife (by simp) rfl, Or.inr ⟨rfl, [], by simp, rfl, by simp, by simpa using ha⟩⟩
  | succ n ih =>
    intro k l acc hn hl hB ha hk
    obtain ⟨k, rfl⟩ : ∃ m, k = m + 1 := ⟨k - 1, by omega⟩
    rw [insn_Get.l0]
    by_cases h0 : l.length = 0
    · obtain rfl : l = [] := List.length_eq_zero_iff.mp h0
      exact ⟨acc, 0, ife (by simp) rfl, Or.inr ⟨rfl, [], by simp, rfl, by simp, by simpa using ha⟩⟩
    by_cases h256 : acc.length = 256
    · exact ⟨[], 9, ift (by omega) (ift (by omega) rfl), Or.inl ⟨by decide, rfl⟩⟩
    rcases first_any k (by omega) l hl hB with ⟨a, b, c, d, e, f, g, hf, hg⟩ | ⟨x, t, rfl, hc, hf⟩
    · exact ⟨[], g, ift (by omega) (ife (by omega) (bs hf (ife hg rfl))), Or.inl ⟨hg, rfl⟩⟩
    · have l1 := by1_len x
      have s12 : sz x.f0 = 1 ∨ sz x.f0 = 2 := by unfold sz; split <;> omega
      rw [List.length_append] at hn hl h0
      obtain ⟨r, e, hr, hq⟩ := ih k t (acc ++ [x]) (by omega) (by omega) (fun y hy => hB y (List.mem_append_right _ hy)) (by rw [List.length_append, List.length_singleton]; omega) (by omega)
      refine ⟨r, e, ift (by rw [List.length_append]; omega) (ife (by omega) (bs hf (ift rfl (ift (by omega) (ift ?_ (ift ?_ ?_)))))), ?_⟩
      · show (0 : Int) ≤ 8 * sz x.f0; omega
      · show 8 * sz x.f0 ≤ _; rw [List.length_append]; omega
      · have e2 : (8 * sz x.f0).toNat = (by1 x).length := by omega
        show insn_Get.l0 k ((by1 x ++ t).drop ((8 * sz x.f0)).toNat) (acc ++ [x]) = _
        rw [e2, List.drop_left]; exact hr
      · rcases hq with hq | ⟨he, m, rfl, hm, hck, hlen⟩
        · exact Or.inl hq
        · refine Or.inr ⟨he, x :: m, by rw [List.append_assoc]; rfl, ?_, fun y hy => ?_, ?_⟩
          · unfold bts at *; rw [List.flatMap_cons, hm]
          · rcases List.mem_cons.mp hy with rfl | hy
            · exact hc
            · exact hck y hy
          · rw [List.length_append, List.length_singleton] at hlen; rw [List.length_cons]; omega
theorem law (k : Nat) (hk : 20000 ≤ k) (l : List Int) (hB : ∀ x ∈ l, isB x) : lockgatelaw02_InsnForms.f k l = some true := by
  have kn := works_f k (by omega)
  unfold lockgatelaw02_InsnForms.f
  by_cases h : l.length > 8192
  · exact ift (by omega) (bs kn rfl)
  · obtain ⟨r, e, hr, hq⟩ := get_any l.length k l [] (by omega) (by omega) hB (by simp) (by omega)
    refine ife (by omega) (bs hr ?_)
    rcases hq with ⟨he, rfl⟩ | ⟨rfl, m, hrm, hm, hck, hlen⟩
    · exact ife he (ift rfl (bs kn rfl))
    · obtain rfl : r = m := by simpa using hrm
      have hml : r.length ≤ 256 := by simpa using hlen
      have hp : insn_Put.f k r = some (bts r, 0) := by
        rw [put_f k (by omega) r (by omega), if_neg (by omega), put_all r hck, List.nil_append]
      refine ift rfl (bs hp (ift rfl ?_))
      rw [hm]
      exact bs (sameB k l (by omega) (by omega)) (ift rfl (bs kn rfl))
theorem pure (l0 : List Int) (hm : l0.length ≤ maxLen) (hw : ∀ x ∈ l0, (Lit.int .u8 x).wf = true) : ∃ k, lockgatelaw02_InsnForms.f k l0 = some true := by
  refine ⟨20000, law 20000 (by omega) l0 (fun x hx => ?_)⟩
  have h : IntKind.u8.min ≤ x ∧ x ≤ IntKind.u8.max := by simpa [Lit.wf] using hw x hx
  have h1 : IntKind.u8.min = 0 := rfl
  have h2 : IntKind.u8.max = 255 := rfl
  unfold isB; omega
end Go.Proofs.Yticijjonimiooaa.LInsnForms
end
section
/- Layer 2: what is wrong with an instruction: the program's answer is the document's. -/
namespace Go.Proofs.Yticijjonimiooaa.C02
open Go.RowKit Go.Proofs.YticijjonimiooaaW.PrintWords Go.Proofs.YticijjonimiooaaW.PrintLast Go.Proofs.YticijjonimiooaaW.PrintMore Go.Proofs.Yticijjonimiooaa.PA Go.Proofs.Yticijjonimiooaa.Bv
theorem rj3 (k : Nat) (c : Bool) (op d s o i : Int) : lockgateref02_Check.j3 (k + 1) c op d s o i = some (if c = true then 6 else t24 op s i) := by
  rw [lockgateref02_Check.j3]
  cases c
  · refine ife nt ?_
    rw [if_neg nt]
    unfold t24
    by_cases h : op = 24
    · refine ift h ?_
      by_cases h1 : s > 1
      · refine ift h1 ?_; rw [if_pos ⟨h, Or.inl h1⟩]
      · refine ife h1 ?_
        by_cases h2 : s = 1
        · refine ift h2 ?_
          by_cases h3 : i < 1
          · refine ift h3 ?_; rw [if_pos ⟨h, Or.inr ⟨h2, Or.inl h3⟩⟩]
          · refine ife h3 ?_
            by_cases h4 : i > 8
            · refine ift h4 ?_; rw [if_pos ⟨h, Or.inr ⟨h2, Or.inr h4⟩⟩]
            · refine ife h4 ?_; rw [if_neg (by omega)]
        · refine ife h2 ?_; rw [if_neg (by omega)]
    · refine ife h ?_; rw [if_neg (by omega)]
  · exact ift rfl rfl
theorem rj2 (k : Nat) (c : Bool) (op d s o i : Int) : lockgateref02_Check.j2 (k + 2) c op d s o i = some (if c = true then 6 else tl op s i) := by
  rw [lockgateref02_Check.j2]
  cases c
  · refine ife nt ?_
    rw [if_neg nt]
    unfold tl
    have fin : ∀ c' : Bool, (c' = true ↔ ((op = 212 ∨ op = 220) ∧ i ≠ 16 ∧ i ≠ 32 ∧ i ≠ 64)) → lockgateref02_Check.j3 (k + 1) c' op d s o i = some (if (op = 212 ∨ op = 220) ∧ i ≠ 16 ∧ i ≠ 32 ∧ i ≠ 64 then 6 else t24 op s i) := by
      intro c' hc
      rw [rj3]
      by_cases hh : (op = 212 ∨ op = 220) ∧ i ≠ 16 ∧ i ≠ 32 ∧ i ≠ 64
      · rw [if_pos (hc.mpr hh), if_pos hh]
      · rw [if_neg (fun q => hh (hc.mp q)), if_neg hh]
    have fall : ∀ {p : Prop}, ¬ p → (false = true ↔ p) := fun hp => ⟨fun q => absurd q (by decide), fun q => absurd q hp⟩
    have part : (if i = 16 then lockgateref02_Check.j3 (k + 1) false op d s o i else if i = 32 then lockgateref02_Check.j3 (k + 1) false op d s o i else lockgateref02_Check.j3 (k + 1) (i != 64) op d s o i) = some (if (op = 212 ∨ op = 220) ∧ i ≠ 16 ∧ i ≠ 32 ∧ i ≠ 64 then 6 else t24 op s i) ∨ ¬ (op = 212 ∨ op = 220) := by
      by_cases ho : op = 212 ∨ op = 220
      · left
        by_cases h1 : i = 16
        · exact ift h1 (fin _ (fall (by omega)))
        · refine ife h1 ?_
          by_cases h2 : i = 32
          · exact ift h2 (fin _ (fall (by omega)))
          · refine ife h2 (fin _ ?_)
            rw [bne_iff_ne]; omega
      · exact Or.inr ho
    by_cases h1 : op = 212
    · exact ift h1 (part.resolve_right (by omega))
    · refine ife h1 ?_
      by_cases h2 : op = 220
      · exact ift h2 (part.resolve_right (by omega))
      · exact ife h2 (fin _ (fall (by omega)))
  · exact ift rfl rfl
theorem st {B : Bool} {x : Int} {X Y : Option Int} {P : Prop} [Decidable P] {t : Int} (hX : X = some (if P then 6 else t)) (hY : Y = some 6) : (if B = true then X else if x = 0 then X else Y) = some (if (B = false ∧ x ≠ 0) ∨ P then 6 else t) := by
  cases B
  · refine ife nt ?_
    by_cases h : x = 0
    · refine ift h ?_
      rw [hX]
      by_cases hp : P
      · rw [if_pos hp, if_pos (Or.inr hp)]
      · rw [if_neg hp, if_neg (fun q => q.elim (fun a => a.2 h) hp)]
    · refine ife h ?_
      rw [hY, if_pos (Or.inl ⟨rfl, h⟩)]
  · refine ift rfl ?_
    rw [hX]
    by_cases hp : P
    · rw [if_pos hp, if_pos (Or.inr hp)]
    · rw [if_neg hp, if_neg (fun q => q.elim (fun a => absurd a.1 (by decide)) hp)]
theorem rj1 (k : Nat) (c : Bool) (op d s o i z : Int) (D S O I w : Bool) : lockgateref02_Check.j1 (k + 3) c op d s o i z D S O I w = some (if c = true then 15 else if F D S O I d s o i then 6 else tl op s i) := by
  rw [lockgateref02_Check.j1]
  cases c
  · refine ife nt ?_
    rw [if_neg nt]
    have Y : lockgateref02_Check.j2 (k + 2) true op d s o i = some 6 := by rw [rj2, if_pos rfl]
    have X0 : (if I = true then lockgateref02_Check.j2 (k + 2) false op d s o i else lockgateref02_Check.j2 (k + 2) (i != 0) op d s o i) = some (if (I = false ∧ i ≠ 0) then 6 else tl op s i) := by
      cases I
      · refine ife nt ?_
        rw [rj2]
        by_cases h : i = 0
        · rw [if_neg (by rw [bne_iff_ne]; exact fun q => q h), if_neg (fun q => q.2 h)]
        · rw [if_pos (by rw [bne_iff_ne]; exact h), if_pos ⟨rfl, h⟩]
      · refine ift rfl ?_
        rw [rj2, if_neg nt, if_neg (fun q => absurd q.1 (by decide))]
    exact st (st (st X0 Y) Y) Y
  · exact ift rfl rfl
theorem rj0 (k : Nat) (c : Bool) (op d s o i z : Int) (D S O I w : Bool) : lockgateref02_Check.j0 (k + 4) c op d s o i z D S O I w = some (if c = true then 5 else if o < -32768 ∨ o > 32767 ∨ (op ≠ 24 ∧ (i < -2147483648 ∨ i > 2147483647)) then 15 else if F D S O I d s o i then 6 else tl op s i) := by
  rw [lockgateref02_Check.j0]
  cases c
  · refine ife nt ?_
    rw [if_neg nt]
    have fin : ∀ c' : Bool, (c' = true ↔ (o < -32768 ∨ o > 32767 ∨ (op ≠ 24 ∧ (i < -2147483648 ∨ i > 2147483647)))) → lockgateref02_Check.j1 (k + 3) c' op d s o i z D S O I w = some (if o < -32768 ∨ o > 32767 ∨ (op ≠ 24 ∧ (i < -2147483648 ∨ i > 2147483647)) then 15 else if F D S O I d s o i then 6 else tl op s i) := by
      intro c' hc
      rw [rj1]
      by_cases hh : o < -32768 ∨ o > 32767 ∨ (op ≠ 24 ∧ (i < -2147483648 ∨ i > 2147483647))
      · refine congrArg some ((if_pos (hc.mpr hh)).trans (if_pos hh).symm)
      · refine congrArg some ((if_neg (fun q => hh (hc.mp q))).trans (if_neg hh).symm)
    have fall : ∀ {p : Prop}, ¬ p → (false = true ↔ p) := fun hp => ⟨fun q => absurd q (by decide), fun q => absurd q hp⟩
    by_cases h1 : o < -32768
    · exact ift h1 (fin _ ⟨fun _ => Or.inl h1, fun _ => rfl⟩)
    · refine ife h1 ?_
      by_cases h2 : o > 32767
      · exact ift h2 (fin _ ⟨fun _ => Or.inr (Or.inl h2), fun _ => rfl⟩)
      · refine ife h2 ?_
        by_cases h3 : op = 24
        · exact ift h3 (fin _ (fall (by omega)))
        · refine ife h3 ?_
          by_cases h4 : i < -2147483648
          · exact ift h4 (fin _ ⟨fun _ => by omega, fun _ => rfl⟩)
          · refine ife h4 (fin _ ?_)
            rw [decide_eq_true_iff]; omega
  · exact ift rfl rfl
theorem rcheck (k : Nat) (hk : 310 ≤ k) (op d s o i : Int) : lockgateref02_Check.f k op d s o i = some (if (row TT op).2.2.2.2.2.2 = true then vK (row TT op).2.1 (row TT op).2.2.1 (row TT op).2.2.2.1 (row TT op).2.2.2.2.1 (row TT op).2.2.2.2.2.1 op d s o i else 4) := by
  obtain ⟨k, rfl⟩ : ∃ m, k = m + 4 := ⟨k - 4, by omega⟩
  unfold lockgateref02_Check.f
  refine bs (of_f (k + 4) (by omega) op) ?_
  generalize row TT op = R
  obtain ⟨z, D, S, O, I, w, ok⟩ := R
  cases ok
  · exact ife nt rfl
  refine ift rfl ?_
  rw [if_pos rfl]
  unfold vK
  have fin : ∀ c' : Bool, (c' = true ↔ (d < 0 ∨ d > 10 ∨ s < 0 ∨ s > 10 ∨ (w = true ∧ d = 10))) → lockgateref02_Check.j0 (k + 4) c' op d s o i z D S O I w = some (if d < 0 ∨ d > 10 ∨ s < 0 ∨ s > 10 ∨ (w = true ∧ d = 10) then 5 else if o < -32768 ∨ o > 32767 ∨ (op ≠ 24 ∧ (i < -2147483648 ∨ i > 2147483647)) then 15 else if F D S O I d s o i then 6 else tl op s i) := by
    intro c' hc
    rw [rj0]
    by_cases hh : d < 0 ∨ d > 10 ∨ s < 0 ∨ s > 10 ∨ (w = true ∧ d = 10)
    · refine congrArg some ((if_pos (hc.mpr hh)).trans (if_pos hh).symm)
    · refine congrArg some ((if_neg (fun q => hh (hc.mp q))).trans (if_neg hh).symm)
  by_cases h1 : d < 0
  · exact ift h1 (fin _ ⟨fun _ => Or.inl h1, fun _ => rfl⟩)
  refine ife h1 ?_
  by_cases h2 : d > 10
  · exact ift h2 (fin _ ⟨fun _ => Or.inr (Or.inl h2), fun _ => rfl⟩)
  refine ife h2 ?_
  by_cases h3 : s < 0
  · exact ift h3 (fin _ ⟨fun _ => Or.inr (Or.inr (Or.inl h3)), fun _ => rfl⟩)
  refine ife h3 ?_
  by_cases h4 : s > 10
  · exact ift h4 (fin _ ⟨fun _ => Or.inr (Or.inr (Or.inr (Or.inl h4))), fun _ => rfl⟩)
  refine ife h4 ?_
  cases w
  · refine ife nt (fin _ ⟨fun q => absurd q (by decide), fun q => ?_⟩)
    rcases q with q | q | q | q | q
    · exact absurd q h1
    · exact absurd q h2
    · exact absurd q h3
    · exact absurd q h4
    · exact absurd q.1 (by decide)
  · refine ift rfl (fin _ ?_)
    rw [beq_iff_eq]
    exact ⟨fun q => Or.inr (Or.inr (Or.inr (Or.inr ⟨rfl, q⟩))), fun q => by omega⟩
end Go.Proofs.Yticijjonimiooaa.C02
end
section
/- Layer 2: instructions as bytes: the document's answer. -/
namespace Go.Proofs.Yticijjonimiooaa.C02
open Go.RowKit Go.Proofs.YticijjonimiooaaW.PrintWords Go.Proofs.YticijjonimiooaaW.PrintLast Go.Proofs.YticijjonimiooaaW.PrintMore Go.Proofs.Yticijjonimiooaa.PA Go.Proofs.Yticijjonimiooaa.Bv
theorem bytes_l (n : Nat) : ∀ (k i : Nat) (xs : List Int) (v : Int), 0 ≤ v ∧ v < 18446744073709551616 → xs.length + n ≤ 1000 → n < k → i + n ≤ 100 → lockgateref02_bytes.l0 k v ((i + n : Nat) : Int) xs (i : Int) = some (xs ++ lb v n) := by
  induction n with
  | zero =>
    intro k i xs v hv hx hk hi
    obtain ⟨k, rfl⟩ : ∃ m, k = m + 1 := ⟨k - 1, by omega⟩
    rw [lockgateref02_bytes.l0]
    exact ife (by omega) (by rw [lb, List.append_nil])
  | succ n ih =>
    intro k i xs v hv hx hk hi
    obtain ⟨k, rfl⟩ : ∃ m, k = m + 1 := ⟨k - 1, by omega⟩
    have e1 : IntKind.u64.wrap (Int.tdiv v 256) = v / 256 := by rw [wrap_u64, U_ofInt, Int.tdiv_eq_ediv_of_nonneg hv.1]; omega
    have e2 : Int.tmod v 256 % 256 = v % 256 := by rw [Int.tmod_eq_emod_of_nonneg hv.1]; omega
    rw [lockgateref02_bytes.l0, e1, e2, w64u (by omega)]
    refine ift (by omega) (ift (by omega) ?_)
    rw [show i + (n + 1) = i + 1 + n by omega, ih k (i + 1) (xs ++ [v % 256]) (v / 256) (by omega) (by rw [List.length_append, List.length_singleton]; omega) (by omega) (by omega), lb, List.append_assoc]; rfl
theorem bytes_f (k : Nat) (n : Nat) (hn : n ≤ 100) (hk : n < k) (v : Int) (hv : 0 ≤ v ∧ v < 18446744073709551616) : lockgateref02_bytes.f k v (n : Int) = some (lb v n) := by
  unfold lockgateref02_bytes.f
  have := bytes_l n k 0 [] v hv (by simp; omega) hk (by omega)
  rw [Nat.zero_add, List.nil_append] at this
  exact this
theorem lb8 (v : Int) : lb v 8 = lb v 4 ++ lb (v / 4294967296) 4 := by
  rw [lb4, lb4, show v / 4294967296 = v / 256 / 256 / 256 / 256 by omega]; rfl
theorem lbw2 (v : Int) : lb (IntKind.u64.wrap v) 2 = lb v 2 := by
  rw [lb2, lb2, wrap_u64, U_ofInt, show v % 18446744073709551616 % 256 = v % 256 by omega, show v % 18446744073709551616 / 256 % 256 = v / 256 % 256 by omega]
theorem lbw8 (v : Int) : lb (IntKind.u64.wrap v) 8 = lb v 8 := by
  rw [lb8, lb8, lb4, lb4, lb4, lb4, wrap_u64, U_ofInt]
  generalize hm : v % 18446744073709551616 = m
  rw [show m % 256 = v % 256 by omega, show m / 256 % 256 = v / 256 % 256 by omega, show m / 256 / 256 % 256 = v / 256 / 256 % 256 by omega, show m / 256 / 256 / 256 % 256 = v / 256 / 256 / 256 % 256 by omega,
    show m / 4294967296 % 256 = v / 4294967296 % 256 by omega, show m / 4294967296 / 256 % 256 = v / 4294967296 / 256 % 256 by omega, show m / 4294967296 / 256 / 256 % 256 = v / 4294967296 / 256 / 256 % 256 by omega, show m / 4294967296 / 256 / 256 / 256 % 256 = v / 4294967296 / 256 / 256 / 256 % 256 by omega]
theorem drop_at {α : Type} (l : List α) (a b : Nat) : (l.drop a).take b = (l.take (a + b)).drop a := by rw [List.drop_take]; congr 1; omega
theorem l0_l (x4 x5 : List Int) (h4 : x4.length = 2) (op d s o i : Int) (n : Nat) : ∀ (k j : Nat) (acc : List Int), j + n = 2 → n < k → acc.length + n ≤ 100 → ∀ r, (∀ k', k ≤ k' + n + 1 → lockgateref02_One.l1 k' (acc ++ x4.drop j) x5 0 op d s o i = some r) → lockgateref02_One.l0 k acc x4 x5 (j : Int) op d s o i = some r := by
  induction n with
  | zero =>
    intro k j acc hj hk ha r hr
    obtain ⟨k, rfl⟩ : ∃ m, k = m + 1 := ⟨k - 1, by omega⟩
    rw [lockgateref02_One.l0]
    have := hr k (by omega)
    rw [List.drop_of_length_le (by omega), List.append_nil] at this
    exact ife (by omega) this
  | succ n ih =>
    intro k j acc hj hk ha r hr
    obtain ⟨k, rfl⟩ : ∃ m, k = m + 1 := ⟨k - 1, by omega⟩
    rw [lockgateref02_One.l0, rdI x4 j (by omega), w64u (by omega)]
    refine ift (by omega) (ift (by omega) (ift (by omega) (ift (by omega) (ih k (j + 1) _ (by omega) (by omega) (by rw [List.length_append, List.length_singleton]; omega) r (fun k' hk' => ?_)))))
    rw [List.append_assoc, List.singleton_append, ← List.drop_eq_getElem_cons (by omega)]
    exact hr k' (by omega)
theorem l3_l (x5 : List Int) (h5 : x5.length = 8) (n : Nat) : ∀ (k j : Nat) (acc : List Int), j + n = 8 → n < k → acc.length + n ≤ 100 → lockgateref02_One.l3 k acc x5 (j : Int) = some (acc ++ x5.drop j) := by
  induction n with
  | zero =>
    intro k j acc hj hk ha
    obtain ⟨k, rfl⟩ : ∃ m, k = m + 1 := ⟨k - 1, by omega⟩
    rw [lockgateref02_One.l3, List.drop_of_length_le (by omega), List.append_nil]
    exact ife (by omega) rfl
  | succ n ih =>
    intro k j acc hj hk ha
    obtain ⟨k, rfl⟩ : ∃ m, k = m + 1 := ⟨k - 1, by omega⟩
    rw [lockgateref02_One.l3, rdI x5 j (by omega), w64u (by omega)]
    refine ift (by omega) (ift (by omega) (ift (by omega) (ift (by omega) ?_)))
    rw [ih k (j + 1) _ (by omega) (by omega) (by rw [List.length_append, List.length_singleton]; omega), List.append_assoc, List.singleton_append, ← List.drop_eq_getElem_cons (by omega)]
theorem l2_l (x5 : List Int) (n : Nat) : ∀ (k j : Nat) (acc : List Int), j + n = 4 → n < k → acc.length + n ≤ 100 → ∀ r, (∀ k', k ≤ k' + n + 1 → lockgateref02_One.l3 k' (acc ++ List.replicate n 0) x5 4 = some r) → lockgateref02_One.l2 k acc x5 (j : Int) = some r := by
  induction n with
  | zero =>
    intro k j acc hj hk ha r hr
    obtain ⟨k, rfl⟩ : ∃ m, k = m + 1 := ⟨k - 1, by omega⟩
    rw [lockgateref02_One.l2]
    have := hr k (by omega)
    rw [List.replicate_zero, List.append_nil] at this
    exact ife (by omega) this
  | succ n ih =>
    intro k j acc hj hk ha r hr
    obtain ⟨k, rfl⟩ : ∃ m, k = m + 1 := ⟨k - 1, by omega⟩
    rw [lockgateref02_One.l2, w64u (by omega)]
    refine ift (by omega) (ift (by omega) (ih k (j + 1) _ (by omega) (by omega) (by rw [List.length_append, List.length_singleton]; omega) r (fun k' hk' => ?_)))
    rw [List.append_assoc, List.singleton_append, ← List.replicate_succ]
    exact hr k' (by omega)
theorem l1_l (x5 : List Int) (h5 : x5.length = 8) (op d s o i : Int) (n : Nat) : ∀ (k j : Nat) (acc : List Int), j + n = 4 → n < k → acc.length + n ≤ 100 → ∀ r, (∀ k', k ≤ k' + n + 1 → (if op = 24 then lockgateref02_One.l2 k' (acc ++ (x5.take 4).drop j) x5 0 else some (acc ++ (x5.take 4).drop j)) = some r) → lockgateref02_One.l1 k acc x5 (j : Int) op d s o i = some r := by
  have ht : (x5.take 4).length = 4 := by rw [List.length_take]; omega
  induction n with
  | zero =>
    intro k j acc hj hk ha r hr
    obtain ⟨k, rfl⟩ : ∃ m, k = m + 1 := ⟨k - 1, by omega⟩
    rw [lockgateref02_One.l1]
    have := hr k (by omega)
    rw [List.drop_of_length_le (by omega), List.append_nil] at this
    exact ife (by omega) this
  | succ n ih =>
    intro k j acc hj hk ha r hr
    obtain ⟨k, rfl⟩ : ∃ m, k = m + 1 := ⟨k - 1, by omega⟩
    rw [lockgateref02_One.l1, rdI x5 j (by omega), w64u (by omega)]
    refine ift (by omega) (ift (by omega) (ift (by omega) (ift (by omega) (ih k (j + 1) _ (by omega) (by omega) (by rw [List.length_append, List.length_singleton]; omega) r (fun k' hk' => ?_)))))
    have e : x5[j]'(by omega) = (x5.take 4)[j]'(by omega) := by rw [List.getElem_take]
    rw [List.append_assoc, List.singleton_append, e, ← List.drop_eq_getElem_cons (by omega)]
    exact hr k' (by omega)
theorem one_f (k : Nat) (hk : 100 ≤ k) (x : S40) (hc : ck x = 0) : lockgateref02_One.f k x.f0 x.f1 x.f2 x.f3 x.f4 = some (by1 x) := by
  obtain ⟨hd, hs⟩ := ck_ok hc
  unfold lockgateref02_One.f
  have uu : ∀ v : Int, 0 ≤ IntKind.u64.wrap v ∧ IntKind.u64.wrap v < 18446744073709551616 := by intro v; rw [wrap_u64, U_ofInt]; omega
  refine bs (bytes_f k 2 (by omega) (by omega) _ (uu _)) (bs (bytes_f k 8 (by omega) (by omega) _ (uu _)) ?_)
  rw [lbw2, lbw8, w64k (n := 16 * x.f2) (by omega), w64k (n := 16 * x.f2 + x.f1) (by omega)]
  have h2 := lb_length 2 x.f3
  have h8 := lb_length 8 x.f4
  refine l0_l (lb x.f3 2) (lb x.f4 8) h2 x.f0 x.f1 x.f2 x.f3 x.f4 2 k 0 _ (by omega) (by omega) (by simp) _ (fun k1 hk1 => ?_)
  rw [List.drop_zero]
  refine l1_l (lb x.f4 8) h8 x.f0 x.f1 x.f2 x.f3 x.f4 4 k1 0 _ (by omega) (by omega) (by simp [h2]) _ (fun k2 hk2 => ?_)
  have t4 : (lb x.f4 8).take 4 = lb x.f4 4 := by rw [lb8, List.take_left' (lb_length 4 _)]
  have d4 : (lb x.f4 8).drop 4 = lb (x.f4 / 4294967296) 4 := by rw [lb8, List.drop_left' (lb_length 4 _)]
  rw [List.drop_zero, t4]
  unfold by1
  by_cases h24 : x.f0 = 24
  · rw [if_pos h24]
    rw [if_pos h24]
    refine l2_l (lb x.f4 8) 4 k2 0 _ (by omega) (by omega) (by simp [lb_length]) _ (fun k3 hk3 => ?_)
    have := l3_l (lb x.f4 8) h8 4 k3 4 ([x.f0 % 256, (16 * x.f2 + x.f1) % 256] ++ lb x.f3 2 ++ lb x.f4 4 ++ List.replicate 4 0) (by omega) (by omega) (by simp [lb_length])
    rw [d4] at this
    refine this.trans ?_
    simp [List.replicate]
  · rw [if_neg h24]
    rw [if_neg h24, List.append_nil]
theorem rput_l1 (l : List S40) (ys : List Int) (hy : ys.length ≤ 16) (i : Int) (n : Nat) : ∀ (k j : Nat) (acc : List Int), j + n = ys.length → n < k → acc.length + n ≤ 100000 → ∀ r, (∀ k', k ≤ k' + n + 1 → lockgateref02_Put.l0 k' l (acc ++ ys.drop j) (wrap64 (i + 1)) = some r) → lockgateref02_Put.l1 k l acc i ys (j : Int) = some r := by
  induction n with
  | zero =>
    intro k j acc hj hk ha r hr
    obtain ⟨k, rfl⟩ : ∃ m, k = m + 1 := ⟨k - 1, by omega⟩
    rw [lockgateref02_Put.l1]
    have := hr k (by omega)
    rw [List.drop_of_length_le (by omega), List.append_nil] at this
    exact ife (by omega) this
  | succ n ih =>
    intro k j acc hj hk ha r hr
    obtain ⟨k, rfl⟩ : ∃ m, k = m + 1 := ⟨k - 1, by omega⟩
    rw [lockgateref02_Put.l1, rdI ys j (by omega), w64u (by omega)]
    refine ift (by omega) (ift (by omega) (ift (by omega) (ih k (j + 1) _ (by omega) (by omega) (by rw [List.length_append, List.length_singleton]; omega) r (fun k' hk' => ?_))))
    rw [List.append_assoc, List.singleton_append, ← List.drop_eq_getElem_cons (by omega)]
    exact hr k' (by omega)
theorem rput_l (l : List S40) (hl : l.length ≤ 1000) (d : Nat) : ∀ (k i : Nat) (acc : List Int), i + d = l.length → acc.length ≤ 16 * i → 20 * d + 400 ≤ k → lockgateref02_Put.l0 k l acc (i : Int) = some (put (l.drop i) acc) := by
  induction d with
  | zero =>
    intro k i acc hi ha hk
    obtain ⟨k, rfl⟩ : ∃ m, k = m + 1 := ⟨k - 1, by omega⟩
    rw [lockgateref02_Put.l0, List.drop_of_length_le (by omega)]; exact ife (by omega) rfl
  | succ d ih =>
    intro k i acc hi ha hk
    obtain ⟨k, rfl⟩ : ∃ m, k = m + 1 := ⟨k - 1, by omega⟩
    have hlt : i < l.length := by omega
    rw [lockgateref02_Put.l0, rdT l i hlt, List.drop_eq_getElem_cons hlt]
    generalize hx : l[i] = x
    refine ift (by omega) (ift (by omega) (bs (rcheck k (by omega) x.f0 x.f1 x.f2 x.f3 x.f4) ?_))
    change (if ck x = 0 then _ else _) = _
    rw [put]
    by_cases h : ck x = 0
    · refine ift h ?_
      rw [if_pos h]
      have l1 := by1_length x
      refine bs (one_f k (by omega) x h) (rput_l1 l (by1 x) l1 (i : Int) (by1 x).length k 0 acc (by omega) (by omega) (by omega) _ (fun k' hk' => ?_))
      rw [List.drop_zero, w64u (by omega)]
      exact ih k' (i + 1) _ (by omega) (by rw [List.length_append]; omega) (by omega)
    · refine ife h ?_
      rw [if_neg h]; rfl
theorem rput_f (k : Nat) (hk : 40000 ≤ k) (l : List S40) (hl : l.length ≤ 1000) : lockgateref02_Put.f k l = some (if l.length > 256 then ([], 9) else put l []) := by
  unfold lockgateref02_Put.f
  by_cases h : l.length > 256
  · refine ift (by omega) ?_; rw [if_pos h]
  · refine ife (by omega) ?_
    rw [if_neg h]; exact rput_l l hl l.length k 0 [] (by omega) (by simp) (by omega)
end Go.Proofs.Yticijjonimiooaa.C02
end
section
/- Layer 2: what the statements share: bytes copied, lent, kept; instructions written over. -/
namespace Go.Proofs.Yticijjonimiooaa.C02
open Go.RowKit Go.Proofs.YticijjonimiooaaW.PrintWords Go.Proofs.YticijjonimiooaaW.PrintLast Go.Proofs.YticijjonimiooaaW.PrintMore Go.Proofs.Yticijjonimiooaa.PA Go.Proofs.Yticijjonimiooaa.Bv
theorem copyB_l (l : List Int) (hl : l.length ≤ 100000) (d : Nat) : ∀ (k i : Nat), i + d = l.length → d < k → lockgatekit_CopyBytes.l0 k l (l.take i) (i : Int) = some l := by
  induction d with
  | zero =>
    intro k i hi hk
    obtain ⟨k, rfl⟩ : ∃ m, k = m + 1 := ⟨k - 1, by omega⟩
    rw [lockgatekit_CopyBytes.l0, List.take_of_length_le (by omega)]; exact ife (by omega) rfl
  | succ d ih =>
    intro k i hi hk
    obtain ⟨k, rfl⟩ : ∃ m, k = m + 1 := ⟨k - 1, by omega⟩
    rw [lockgatekit_CopyBytes.l0, w64u (by omega), rdI l i (by omega), take_succ' l i (by omega)]
    refine ift (by omega) (ift (by omega) (ift ?_ (ih k (i + 1) (by omega) (by omega))))
    rw [List.length_take]; omega
theorem copyB (k : Nat) (l : List Int) (hl : l.length ≤ 100000) (hk : l.length < k) : lockgatekit_CopyBytes.f k l = some l := by
  unfold lockgatekit_CopyBytes.f
  exact copyB_l l hl l.length k 0 (by omega) hk
def mkB (i : Nat) : Int := (wrap64 (201 + (wrap64 (7 * (i : Int))))) % 256
def marksB : List Int := [mkB 0, mkB 1, mkB 2, mkB 3, mkB 4]
theorem markB_f (i : Nat) : lockgatekit_markBytes.f (i : Int) = some (mkB i) := rfl
theorem marksB_at (i : Nat) (h : i < 5) : marksB[i]'(by have : marksB.length = 5 := rfl; omega) = mkB i := by
  have : i = 0 ∨ i = 1 ∨ i = 2 ∨ i = 3 ∨ i = 4 := by omega
  rcases this with rfl | rfl | rfl | rfl | rfl <;> rfl
theorem lentB_l (acc : List Int) (hl : acc.length ≤ 50000) (d : Nat) : ∀ (k i : Nat), i + d = 5 → d < k → lockgatekit_LentBytes.l0 k (acc ++ marksB.take i) (i : Int) = some (acc ++ marksB) := by
  have hm : marksB.length = 5 := rfl
  induction d with
  | zero =>
    intro k i hi hk
    obtain ⟨k, rfl⟩ : ∃ m, k = m + 1 := ⟨k - 1, by omega⟩
    rw [lockgatekit_LentBytes.l0, List.take_of_length_le (by omega)]; exact ife (by omega) rfl
  | succ d ih =>
    intro k i hi hk
    obtain ⟨k, rfl⟩ : ∃ m, k = m + 1 := ⟨k - 1, by omega⟩
    rw [lockgatekit_LentBytes.l0, w64u (by omega)]
    refine ift (by omega) (bs (markB_f i) (ift ?_ ?_))
    · rw [List.length_append, List.length_take]; omega
    · have e : acc ++ marksB.take i ++ [mkB i] = acc ++ marksB.take (i + 1) := by
        rw [List.append_assoc, ← take_succ' marksB i (by omega), marksB_at i (by omega)]
      rw [e]
      exact ih k (i + 1) (by omega) (by omega)
theorem lentB (k : Nat) (l : List Int) (hl : l.length ≤ 50000) (hk : l.length + 10 < k) : lockgatekit_LentBytes.f k l = some (l ++ marksB) := by
  unfold lockgatekit_LentBytes.f
  refine bs (copyB k l (by omega) (by omega)) ?_
  have := lentB_l l hl 5 k 0 (by omega) (by omega)
  simpa using this
theorem keptB_l (l : List Int) (hl : l.length ≤ 50000) (d : Nat) : ∀ (k i : Nat), i + d = 5 → d < k → lockgatekit_KeptBytes.l0 k (l ++ marksB) l (i : Int) = some true := by
  have hm : marksB.length = 5 := rfl
  induction d with
  | zero =>
    intro k i hi hk
    obtain ⟨k, rfl⟩ : ∃ m, k = m + 1 := ⟨k - 1, by omega⟩
    rw [lockgatekit_KeptBytes.l0]; exact ife (by omega) rfl
  | succ d ih =>
    intro k i hi hk
    obtain ⟨k, rfl⟩ : ∃ m, k = m + 1 := ⟨k - 1, by omega⟩
    have e1 : wrap64 ((l.length : Int) + (i : Int)) = ((l.length + i : Nat) : Int) := by unfold wrap64; omega
    have e2 : rd (l ++ marksB) ((l.length + i : Nat) : Int) = mkB i := by
      rw [rdI _ _ (by rw [List.length_append]; omega), List.getElem_append_right (by omega)]
      simpa using marksB_at i (by omega)
    rw [lockgatekit_KeptBytes.l0, e1, e2, w64u (by omega)]
    refine ift (by omega) (ift (by omega) (ift ?_ (bs (markB_f i) (ift rfl (ih k (i + 1) (by omega) (by omega))))))
    rw [List.length_append]; omega
theorem keptB (k : Nat) (l : List Int) (hl : l.length ≤ 50000) (hk : l.length + 20 < k) : lockgatekit_KeptBytes.f k (l ++ marksB) l = some true := by
  have hm : marksB.length = 5 := rfl
  unfold lockgatekit_KeptBytes.f
  have e1 : wrap64 ((l.length : Int) + 5) = ((l.length + 5 : Nat) : Int) := by unfold wrap64; omega
  have e2 : (l ++ marksB).take ((l.length : Int)).toNat = l := by rw [Int.toNat_natCast, List.take_left]
  rw [e1, e2]
  refine ift (by rw [List.length_append]; omega) (ift (by omega) (ift (by rw [List.length_append]; omega) (bs (sameB k l (by omega) (by omega)) ?_)))
  obtain ⟨k, rfl⟩ : ∃ m, k = m + 1 := ⟨k - 1, by omega⟩
  rw [lockgatekit_KeptBytes.j0]
  exact ife nt (keptB_l l hl 5 k 0 (by omega) (by omega))
theorem spoilT_l (d : Nat) : ∀ (k i : Nat) (l : List S40), l.length ≤ 990 → i + d = l.length → d < k → ∃ r, lockgatekit_SpoilInsns.l0 k l (i : Int) = some r := by
  induction d with
  | zero =>
    intro k i l hl hi hk
    obtain ⟨k, rfl⟩ : ∃ m, k = m + 1 := ⟨k - 1, by omega⟩
    rw [lockgatekit_SpoilInsns.l0]; exact ⟨l, ife (by omega) rfl⟩
  | succ d ih =>
    intro k i l hl hi hk
    obtain ⟨k, rfl⟩ : ∃ m, k = m + 1 := ⟨k - 1, by omega⟩
    have e7 : wrap64 ((i : Int) + 7) = ((i + 7 : Nat) : Int) := by unfold wrap64; omega
    rw [lockgatekit_SpoilInsns.l0, w64u (by omega), e7]
    obtain ⟨r, hr⟩ := ih k (i + 1) (l.set ((i : Int)).toNat (⟨(mk (i + 7)).f0, (mk (i + 7)).f1, (mk (i + 7)).f2, (mk (i + 7)).f3, (mk (i + 7)).f4⟩ : S40)) (by rw [List.length_set]; omega) (by rw [List.length_set]; omega) (by omega)
    exact ⟨r, ift (by omega) (bs (mark_f (i + 7) (by omega)) (ift (by omega) hr))⟩
theorem spoilT (k : Nat) (l : List S40) (hl : l.length ≤ 990) (hk : l.length < k) : ∃ r, lockgatekit_SpoilInsns.f k l = some r := spoilT_l l.length k 0 l hl (by omega) hk
end Go.Proofs.Yticijjonimiooaa.C02
end
section
/- Layer 2: the document's numbers of bytes. -/
namespace Go.Proofs.Yticijjonimiooaa.C02
open Go.RowKit Go.Proofs.YticijjonimiooaaW.PrintWords Go.Proofs.YticijjonimiooaaW.PrintLast Go.Proofs.YticijjonimiooaaW.PrintMore Go.Proofs.Yticijjonimiooaa.PA Go.Proofs.Yticijjonimiooaa.Bv
/-- one byte more. -/
theorem sgn_step (k : Nat) (x : List Int) (v : Int) (j : Nat) (h : j < x.length) (hj : j ≤ 100) (hv : 0 ≤ v ∧ v < 36028797018963968) (hb : isB x[j]) (r : Option Int)
    (h2 : lockgateref02_signed.l0 k x (v * 256 + x[j]) ((j : Int) - 1) = r) : lockgateref02_signed.l0 (k + 1) x v (j : Int) = r := by
  unfold isB at hb
  have e1 : wrap64 ((j : Int) - 1) = (j : Int) - 1 := w64k (by omega)
  have e2 : wrap64 (wrap64 (v * 256) + wrap64 x[j]) = v * 256 + x[j] := by
    rw [w64k (n := x[j]) (by omega), show wrap64 (v * 256) = v * 256 by unfold wrap64; omega]; unfold wrap64; omega
  rw [lockgateref02_signed.l0, rdI x j h, e1, e2]
  exact ift (by omega) (ift (by omega) (ift (by omega) h2))
/-- the last byte of eight. -/
theorem sgn_last (k : Nat) (x : List Int) (v : Int) (h : 0 < x.length) (hv : 0 ≤ v ∧ v < 72057594037927936) (hb : isB x[0]) (r : Option Int)
    (h2 : lockgateref02_signed.l0 k x (wrap64 (v * 256 + x[0])) (-1) = r) : lockgateref02_signed.l0 (k + 1) x v ((0 : Nat) : Int) = r := by
  unfold isB at hb
  have e1 : wrap64 (((0 : Nat) : Int) - 1) = -1 := w64k (by omega)
  have e2 : wrap64 (wrap64 (v * 256) + wrap64 x[0]) = wrap64 (v * 256 + x[0]) := by
    rw [w64k (n := x[0]) (by omega)]; unfold wrap64; omega
  rw [lockgateref02_signed.l0, rdI x 0 h, e1, e2]
  exact ift (by omega) (ift (by omega) (ift (by omega) h2))
theorem shl16 : shl .i64 1 (IntKind.u64.wrap (wrap64 (8 * 2))) = 65536 := by decide +kernel
theorem shl32 : shl .i64 1 (IntKind.u64.wrap (wrap64 (8 * 4))) = 4294967296 := by decide +kernel
theorem sgn2 (k : Nat) (hk : 10 ≤ k) (a b : Int) (ha : isB a) (hb : isB b) : lockgateref02_signed.f k [a, b] = some (sg16 (a + 256 * b)) := by
  obtain ⟨k, rfl⟩ : ∃ m, k = m + 3 := ⟨k - 3, by omega⟩
  have qa := ha; have qb := hb
  unfold isB at qa qb
  unfold lockgateref02_signed.f
  show lockgateref02_signed.l0 (k + 3) [a, b] 0 (wrap64 (2 - 1)) = _
  rw [show wrap64 (2 - 1) = ((1 : Nat) : Int) by rw [w64k (by omega)]; rfl]
  refine sgn_step (k + 2) [a, b] 0 1 (by simp) (by omega) (by omega) hb _ ?_
  show lockgateref02_signed.l0 (k + 2) [a, b] (0 * 256 + b) ((0 : Nat) : Int) = _
  refine sgn_step (k + 1) [a, b] _ 0 (by simp) (by omega) (by omega) ha _ ?_
  show lockgateref02_signed.l0 (k + 1) [a, b] ((0 * 256 + b) * 256 + a) (-1) = _
  rw [lockgateref02_signed.l0]
  show (if (-1 : Int) ≥ 0 then _ else (if (2 : Int) < 8 then (if 0 ≤ wrap64 (2 - 1) then (if wrap64 (2 - 1) < 2 then (if rd [a, b] (wrap64 (2 - 1)) ≥ 128 then (if 0 ≤ IntKind.u64.wrap (wrap64 (8 * 2)) then some (wrap64 ((0 * 256 + b) * 256 + a - shl .i64 1 (IntKind.u64.wrap (wrap64 (8 * 2))))) else none) else _) else none) else none) else _)) = _
  rw [w64k (n := 2 - 1) (by omega), show rd [a, b] (2 - 1) = b from rfl, shl16]
  refine ife (by omega) (ift (by omega) (ift (by omega) (ift (by omega) ?_)))
  unfold sg16
  by_cases h : b ≥ 128
  · refine ift h (ift (by decide +kernel) ?_)
    rw [if_neg (by omega)]; congr 1; unfold wrap64; omega
  · refine ife h ?_
    rw [if_pos (by omega)]; congr 1; omega
theorem sgn4 (k : Nat) (hk : 10 ≤ k) (a b c d : Int) (ha : isB a) (hb : isB b) (hc : isB c) (hd : isB d) : lockgateref02_signed.f k [a, b, c, d] = some (sg32 (v4 a b c d)) := by
  obtain ⟨k, rfl⟩ : ∃ m, k = m + 5 := ⟨k - 5, by omega⟩
  have qa := ha; have qb := hb; have qc := hc; have qd := hd
  unfold isB at qa qb qc qd
  unfold lockgateref02_signed.f
  show lockgateref02_signed.l0 (k + 5) [a, b, c, d] 0 (wrap64 (4 - 1)) = _
  rw [show wrap64 (4 - 1) = ((3 : Nat) : Int) by rw [w64k (by omega)]; rfl]
  refine sgn_step (k + 4) [a, b, c, d] 0 3 (by simp) (by omega) (by omega) hd _ ?_
  show lockgateref02_signed.l0 (k + 4) [a, b, c, d] (0 * 256 + d) ((2 : Nat) : Int) = _
  refine sgn_step (k + 3) [a, b, c, d] _ 2 (by simp) (by omega) (by omega) hc _ ?_
  show lockgateref02_signed.l0 (k + 3) [a, b, c, d] ((0 * 256 + d) * 256 + c) ((1 : Nat) : Int) = _
  refine sgn_step (k + 2) [a, b, c, d] _ 1 (by simp) (by omega) (by omega) hb _ ?_
  show lockgateref02_signed.l0 (k + 2) [a, b, c, d] (((0 * 256 + d) * 256 + c) * 256 + b) ((0 : Nat) : Int) = _
  refine sgn_step (k + 1) [a, b, c, d] _ 0 (by simp) (by omega) (by omega) ha _ ?_
  show lockgateref02_signed.l0 (k + 1) [a, b, c, d] ((((0 * 256 + d) * 256 + c) * 256 + b) * 256 + a) (-1) = _
  rw [lockgateref02_signed.l0]
  show (if (-1 : Int) ≥ 0 then _ else (if (4 : Int) < 8 then (if 0 ≤ wrap64 (4 - 1) then (if wrap64 (4 - 1) < 4 then (if rd [a, b, c, d] (wrap64 (4 - 1)) ≥ 128 then (if 0 ≤ IntKind.u64.wrap (wrap64 (8 * 4)) then some (wrap64 ((((0 * 256 + d) * 256 + c) * 256 + b) * 256 + a - shl .i64 1 (IntKind.u64.wrap (wrap64 (8 * 4))))) else none) else _) else none) else none) else _)) = _
  rw [w64k (n := 4 - 1) (by omega), show rd [a, b, c, d] (4 - 1) = d from rfl, shl32]
  refine ife (by omega) (ift (by omega) (ift (by omega) (ift (by omega) ?_)))
  unfold sg32 v4
  by_cases h : d ≥ 128
  · refine ift h (ift (by decide +kernel) ?_)
    rw [if_neg (by omega)]; congr 1; unfold wrap64; omega
  · refine ife h ?_
    rw [if_pos (by omega)]; congr 1; omega
theorem sgn8 (k : Nat) (hk : 10 ≤ k) (a b c d e f g h : Int) (ha : isB a) (hb : isB b) (hc : isB c) (hd : isB d) (he : isB e) (hf : isB f) (hg : isB g) (hh : isB h) : lockgateref02_signed.f k [a, b, c, d, e, f, g, h] = some (v4 a b c d + sg32 (v4 e f g h) * 4294967296) := by
  obtain ⟨k, rfl⟩ : ∃ m, k = m + 9 := ⟨k - 9, by omega⟩
  have qa := ha; have qb := hb; have qc := hc; have qd := hd; have qe := he; have qf := hf; have qg := hg; have qh := hh
  unfold isB at qa qb qc qd qe qf qg qh
  unfold lockgateref02_signed.f
  show lockgateref02_signed.l0 (k + 9) [a, b, c, d, e, f, g, h] 0 (wrap64 (8 - 1)) = _
  rw [show wrap64 (8 - 1) = ((7 : Nat) : Int) by rw [w64k (by omega)]; rfl]
  refine sgn_step (k + 8) [a, b, c, d, e, f, g, h] 0 7 (by simp) (by omega) (by omega) hh _ ?_
  show lockgateref02_signed.l0 (k + 8) _ (0 * 256 + h) ((6 : Nat) : Int) = _
  refine sgn_step (k + 7) [a, b, c, d, e, f, g, h] _ 6 (by simp) (by omega) (by omega) hg _ ?_
  show lockgateref02_signed.l0 (k + 7) _ ((0 * 256 + h) * 256 + g) ((5 : Nat) : Int) = _
  refine sgn_step (k + 6) [a, b, c, d, e, f, g, h] _ 5 (by simp) (by omega) (by omega) hf _ ?_
  show lockgateref02_signed.l0 (k + 6) _ (((0 * 256 + h) * 256 + g) * 256 + f) ((4 : Nat) : Int) = _
  refine sgn_step (k + 5) [a, b, c, d, e, f, g, h] _ 4 (by simp) (by omega) (by omega) he _ ?_
  show lockgateref02_signed.l0 (k + 5) _ ((((0 * 256 + h) * 256 + g) * 256 + f) * 256 + e) ((3 : Nat) : Int) = _
  obtain ⟨V, hV⟩ : ∃ V, V = (((0 * 256 + h) * 256 + g) * 256 + f) * 256 + e := ⟨_, rfl⟩
  rw [← hV]
  have bV : 0 ≤ V ∧ V < 4294967296 := by omega
  refine sgn_step (k + 4) [a, b, c, d, e, f, g, h] V 3 (by simp) (by omega) (by omega) hd _ ?_
  show lockgateref02_signed.l0 (k + 4) _ (V * 256 + d) ((2 : Nat) : Int) = _
  refine sgn_step (k + 3) [a, b, c, d, e, f, g, h] _ 2 (by simp) (by omega) (by omega) hc _ ?_
  show lockgateref02_signed.l0 (k + 3) _ ((V * 256 + d) * 256 + c) ((1 : Nat) : Int) = _
  refine sgn_step (k + 2) [a, b, c, d, e, f, g, h] _ 1 (by simp) (by omega) (by omega) hb _ ?_
  show lockgateref02_signed.l0 (k + 2) _ (((V * 256 + d) * 256 + c) * 256 + b) ((0 : Nat) : Int) = _
  refine sgn_last (k + 1) [a, b, c, d, e, f, g, h] _ (by simp) (by omega) ha _ ?_
  show lockgateref02_signed.l0 (k + 1) [a, b, c, d, e, f, g, h] (wrap64 ((((V * 256 + d) * 256 + c) * 256 + b) * 256 + a)) (-1) = _
  rw [lockgateref02_signed.l0]
  refine ife (by omega) (ife (by simp) ?_)
  have e4 : v4 e f g h = V := by unfold v4; omega
  rw [e4]
  unfold sg32 v4
  congr 1
  by_cases h : V < 2147483648
  · rw [if_pos h]; unfold wrap64; omega
  · rw [if_neg h]; unfold wrap64; omega
end Go.Proofs.Yticijjonimiooaa.C02
end
section
/- Layer 2: bytes that are too short. -/
namespace Go.Proofs.Yticijjonimiooaa.LInsnGets
open Go.RowKit Go.Proofs.YticijjonimiooaaW.PrintWords Go.Proofs.YticijjonimiooaaW.PrintLast Go.Proofs.YticijjonimiooaaW.PrintMore Go.Proofs.Yticijjonimiooaa.PA Go.Proofs.Yticijjonimiooaa.Bv Go.Proofs.Yticijjonimiooaa.C02 Go.Proofs.Yticijjonimiooaa.LInsnBack Go.Proofs.Yticijjonimiooaa.LInsnForms
theorem wk {x : Int} (h : -4096 ≤ x ∧ x ≤ 1000000) : wrap64 x = x := by unfold wrap64; omega
theorem first_s (k : Nat) (hk : 400 ≤ k) (b1 p0 p1 i0 i1 i2 i3 : Int) (t : List Int) (h8 : t.length < 8) (h1 : isB b1) (hp0 : isB p0) (hp1 : isB p1) (hi0 : isB i0) (hi1 : isB i1) (hi2 : isB i2) (hi3 : isB i3) :
    insn_first.f k (24 :: b1 :: p0 :: p1 :: i0 :: i1 :: i2 :: i3 :: t) = some (0, 0, 0, 0, 0, 0, 2) := by
  have hlen : ((24 :: b1 :: p0 :: p1 :: i0 :: i1 :: i2 :: i3 :: t).length : Int) = (t.length : Int) + 8 := by simp only [List.length_cons]; omega
  unfold insn_first.f
  rw [show rd (24 :: b1 :: p0 :: p1 :: i0 :: i1 :: i2 :: i3 :: t) 0 = 24 from rfl, show rd (24 :: b1 :: p0 :: p1 :: i0 :: i1 :: i2 :: i3 :: t) 1 = b1 from rfl, hlen]
  refine ife (by omega) (ift (by omega) (ift (by omega) (ift (by omega) (ift (by omega) ?_))))
  refine bs (num2 k (by omega) p0 p1 hp0 hp1) (ift (by omega) (ift (by omega) ?_))
  refine bs (num4 k (by omega) i0 i1 i2 i3 hi0 hi1 hi2 hi3) (bs (size_f _ _ _ _ _) ?_)
  rw [w64k (n := 24) (by omega), show sz 24 = 2 from rfl, w64k (n := 8 * 2) (by omega)]
  exact ift (by omega) (ift (by omega) rfl)
end Go.Proofs.Yticijjonimiooaa.LInsnGets
end
section
/- InsnPuts, without Go. -/
namespace Go.Proofs.Yticijjonimiooaa.LInsnPuts
open Go.RowKit Go.Proofs.YticijjonimiooaaW.PrintWords Go.Proofs.YticijjonimiooaaW.PrintLast Go.Proofs.YticijjonimiooaaW.PrintMore Go.Proofs.Yticijjonimiooaa.PA Go.Proofs.Yticijjonimiooaa.Bv Go.Proofs.Yticijjonimiooaa.C02
theorem law (k : Nat) (hk : 50000 ≤ k) (l : List S40) : lockgatelaw02_InsnPuts.f k l = some true := by
  have kn := works_f k (by omega)
  unfold lockgatelaw02_InsnPuts.f
  by_cases h : l.length > 400
  · exact ift (by omega) (bs kn rfl)
  · refine ife (by omega) (bs (lent k l (by omega) (by omega)) ?_)
    have hm : marks.length = 5 := rfl
    have e : (l ++ marks).take ((l.length : Int)).toNat = l := by rw [Int.toNat_natCast, List.take_left]
    rw [e]
    refine ift (by omega) (ift (by rw [List.length_append]; omega) (bs (put_f k (by omega) l (by omega)) (bs (put_f k (by omega) l (by omega)) (bs (rput_f k (by omega) l (by omega)) ?_))))
    have hlen : (if l.length > 256 then (([] : List Int), (9 : Int)) else put l []).1.length ≤ 6400 := by
      by_cases h2 : l.length > 256
      · rw [if_pos h2]; simp
      · rw [if_neg h2]; have := put_length l []; simp at this; omega
    generalize (if l.length > 256 then (([] : List Int), (9 : Int)) else put l []) = R at hlen ⊢
    obtain ⟨r, hr⟩ := spoil (k - 1) R.1 (by omega) (by omega)
    refine ift rfl (ift rfl (bs (sameB k R.1 (by omega) (by omega)) ?_))
    obtain ⟨m, rfl⟩ : ∃ m, k = m + 1 := ⟨k - 1, by omega⟩
    rw [lockgatelaw02_InsnPuts.j0]
    exact ife nt (bs hr (bs (sameB m R.1 (by omega) (by omega)) (ift rfl (bs (kept m l (by omega) (by omega)) (ift rfl (bs (works_f m (by omega)) rfl))))))
theorem pure (l0 : List S40) (hm : l0.length ≤ maxLen) (hw : ∀ x ∈ l0, (Lit.int .i64 x.f0).wf = true ∧ (Lit.int .i64 x.f1).wf = true ∧ (Lit.int .i64 x.f2).wf = true ∧ (Lit.int .i64 x.f3).wf = true ∧ (Lit.int .i64 x.f4).wf = true) :
    ∃ k, lockgatelaw02_InsnPuts.f k l0 = some true := ⟨50000, law 50000 (by omega) l0⟩
end Go.Proofs.Yticijjonimiooaa.LInsnPuts
end
section
/- InsnChecks, without Go. -/
namespace Go.Proofs.Yticijjonimiooaa.LInsnChecks
open Go.RowKit Go.Proofs.YticijjonimiooaaW.PrintWords Go.Proofs.YticijjonimiooaaW.PrintLast Go.Proofs.YticijjonimiooaaW.PrintMore Go.Proofs.Yticijjonimiooaa.PA Go.Proofs.Yticijjonimiooaa.Bv Go.Proofs.Yticijjonimiooaa.C02
theorem rsize_f (op d s o i : Int) : lockgateref02_Size.f op d s o i = some (sz op) := by
  unfold lockgateref02_Size.f sz; by_cases h : op = 24
  · rw [if_pos h, if_pos h]
  · rw [if_neg h, if_neg h]
theorem law (k : Nat) (hk : 400 ≤ k) (op d s o i : Int) : lockgatelaw02_InsnChecks.f k op d s o i = some true := by
  unfold lockgatelaw02_InsnChecks.f
  exact bs (icheck k (by omega) op d s o i) (bs (rcheck k (by omega) op d s o i) (ift rfl (bs (size_f op d s o i) (bs (rsize_f op d s o i) (ift rfl (bs (width_f op d s o i) (bs (rwidth_f k (by omega) op d s o i) (ift rfl (bs (works_f k (by omega)) rfl)))))))))
theorem pure (a0 a1 a2 a3 a4 : Int) (w0 : (Lit.int .i64 a0).wf = true) (w1 : (Lit.int .i64 a1).wf = true) (w2 : (Lit.int .i64 a2).wf = true) (w3 : (Lit.int .i64 a3).wf = true) (w4 : (Lit.int .i64 a4).wf = true) : ∃ k, lockgatelaw02_InsnChecks.f k a0 a1 a2 a3 a4 = some true := ⟨400, law 400 (by omega) _ _ _ _ _⟩
end Go.Proofs.Yticijjonimiooaa.LInsnChecks
end
section
/- InsnGets, without Go. -/
namespace Go.Proofs.Yticijjonimiooaa.LInsnGets
open Go.RowKit Go.Proofs.YticijjonimiooaaW.PrintWords Go.Proofs.YticijjonimiooaaW.PrintLast Go.Proofs.YticijjonimiooaaW.PrintMore Go.Proofs.Yticijjonimiooaa.PA Go.Proofs.Yticijjonimiooaa.Bv Go.Proofs.Yticijjonimiooaa.C02 Go.Proofs.Yticijjonimiooaa.LInsnBack Go.Proofs.Yticijjonimiooaa.LInsnForms
theorem rchk (k : Nat) (hk : 310 ≤ k) (x : S40) : lockgateref02_Check.f k x.f0 x.f1 x.f2 x.f3 x.f4 = some (ck x) := by unfold ck; exact rcheck k hk x.f0 x.f1 x.f2 x.f3 x.f4
theorem rsize (op d s o i : Int) : lockgateref02_Size.f op d s o i = some (sz op) := by
  unfold lockgateref02_Size.f sz; split <;> rfl
theorem mid {α : Type} (b : List α) (a m n : Nat) : (b.take (a + n)).drop (a + m) = ((b.drop a).take n).drop m := by
  rw [List.drop_take, List.drop_take, List.drop_drop, show a + n - (a + m) = n - m by omega]
theorem rd_at (b l : List Int) (a j : Nat) (hb : b.length ≤ 100000) (hd : b.drop a = l) (hj : j < l.length) : rd b (wrap64 ((a : Int) + (j : Int))) = l[j] := by
  subst hd
  rw [List.length_drop] at hj
  rw [wk (by omega), show (a : Int) + (j : Int) = ((a + j : Nat) : Int) by omega, rdI b (a + j) (by omega), List.getElem_drop]
theorem len_at (b l : List Int) (a : Nat) (hd : b.drop a = l) (h : 0 < l.length) : b.length = a + l.length := by
  subst hd; rw [List.length_drop] at *; omega
theorem cut_at (b l : List Int) (a m n : Nat) (hb : b.length ≤ 100000) (hd : b.drop a = l) (hl : 0 < l.length) (hn : n ≤ l.length) : (b.take (wrap64 ((a : Int) + (n : Int)) : Int).toNat).drop (wrap64 ((a : Int) + (m : Int)) : Int).toNat = (l.take n).drop m ∨ 100000 < m := by
  by_cases hm : 100000 < m
  · exact Or.inr hm
  · have e := len_at b l a hd hl
    left
    rw [wk (by omega), wk (by omega), show ((a : Int) + (n : Int)).toNat = a + n by omega, show ((a : Int) + (m : Int)).toNat = a + m by omega, mid, hd]
/-- bytes that begin with 24 and do not hold 0 where they have to. -/
theorem first_z (k : Nat) (hk : 400 ≤ k) (b1 p0 p1 i0 i1 i2 i3 z0 z1 z2 z3 : Int) (t' : List Int) (h8 : 4 ≤ t'.length) (h1 : isB b1) (hp0 : isB p0) (hp1 : isB p1) (hi0 : isB i0) (hi1 : isB i1) (hi2 : isB i2) (hi3 : isB i3) (g0 : isB z0) (g1 : isB z1) (g2 : isB z2) (g3 : isB z3) (ht : t'.length ≤ 1000000)
    (hz : ¬ (z0 = 0 ∧ z1 = 0 ∧ z2 = 0 ∧ z3 = 0)) : insn_first.f k (24 :: b1 :: p0 :: p1 :: i0 :: i1 :: i2 :: i3 :: z0 :: z1 :: z2 :: z3 :: t') = some (0, 0, 0, 0, 0, 0, 6) := by
  have hB1 := h1
  unfold isB at hB1
  have hlen : ((24 :: b1 :: p0 :: p1 :: i0 :: i1 :: i2 :: i3 :: z0 :: z1 :: z2 :: z3 :: t').length : Int) = (t'.length : Int) + 12 := by simp only [List.length_cons]; omega
  unfold insn_first.f
  rw [show rd (24 :: b1 :: p0 :: p1 :: i0 :: i1 :: i2 :: i3 :: z0 :: z1 :: z2 :: z3 :: t') 0 = 24 from rfl, show rd (24 :: b1 :: p0 :: p1 :: i0 :: i1 :: i2 :: i3 :: z0 :: z1 :: z2 :: z3 :: t') 1 = b1 from rfl, hlen]
  refine ife (by omega) (ift (by omega) (ift (by omega) (ift (by omega) (ift (by omega) ?_))))
  refine bs (num2 k (by omega) p0 p1 hp0 hp1) (ift (by omega) (ift (by omega) ?_))
  refine bs (num4 k (by omega) i0 i1 i2 i3 hi0 hi1 hi2 hi3) (bs (size_f _ _ _ _ _) ?_)
  rw [w64k (n := 24) (by omega), show sz 24 = 2 from rfl, w64k (n := 8 * 2) (by omega)]
  refine ift (by omega) (ife (by omega) (ift (by omega) (ift (by omega) ?_)))
  refine bs (num4 k (by omega) z0 z1 z2 z3 g0 g1 g2 g3) (ife ?_ rfl)
  unfold isB at g0 g1 g2 g3
  unfold sg32
  by_cases hq : z0 + 256 * z1 + 65536 * z2 + 16777216 * z3 < 2147483648
  · rw [if_pos hq]; omega
  · rw [if_neg hq]; omega
theorem tm16 {b : Int} (h : isB b) : Int.tmod (wrap64 b) 16 = b % 16 ∧ wrap64 (Int.tdiv (wrap64 b) 16) = b / 16 := by
  unfold isB at h
  rw [wk (x := b) (by omega), Int.tmod_eq_emod_of_nonneg (by omega), Int.tdiv_eq_ediv_of_nonneg (by omega)]
  exact ⟨rfl, wk (by omega)⟩
/-- the document's round, once the bytes are held to be long enough: to what it comes. -/
theorem j4_f (k : Nat) (hk : 320 ≤ k) (b : List Int) (acc : List S40) (a : Nat) (x : S40) (ha : acc.length ≤ 1000) (hb : a ≤ 100000) :
    lockgateref02_Get.j4 (k + 1) b acc (a : Int) x.f0 x.f1 x.f2 x.f3 x.f4 = if ck x = 0 then lockgateref02_Get.l0 k b (acc ++ [x]) ((a + (by1 x).length : Nat) : Int) else some ([], ck x) := by
  rw [lockgateref02_Get.j4]
  refine bs (rchk k (by omega) x) ?_
  have l1 := by1_len x
  have s12 : sz x.f0 = 1 ∨ sz x.f0 = 2 := by unfold sz; split <;> omega
  generalize ck x = c
  by_cases h : c = 0
  · rw [if_pos h, if_pos h]
    refine ift (by omega) (bs (rsize _ _ _ _ _) ?_)
    rw [wk (x := 8 * sz x.f0) (by omega), wk (by omega), show (a : Int) + 8 * sz x.f0 = ((a + (by1 x).length : Nat) : Int) by omega]
  · rw [if_neg h, if_neg h]
theorem rl1_f (b : List Int) (hb : b.length ≤ 100000) (t acc4 : List Int) (a : Nat) (hd : b.drop a = t) (ht : 16 ≤ t.length) (op d s o i : Int) (acc : List S40) (n : Nat) : ∀ (k j : Nat) (y : List Int), j + n = 16 → y.length + n ≤ 100 → ∀ r, (lockgateref02_signed.f k (y ++ (t.take 16).drop j)).bind (fun q => lockgateref02_Get.j4 k b acc (a : Int) op d s o q) = r →
      lockgateref02_Get.l1 (k + n + 1) b acc (a : Int) y (j : Int) op d s o i = r := by
  induction n with
  | zero =>
    intro k j y hj hy r hr
    obtain rfl : j = 16 := by omega
    rw [lockgateref02_Get.l1]
    refine ife (by omega) ?_
    rw [List.drop_of_length_le (by rw [List.length_take]; omega), List.append_nil] at hr
    exact hr
  | succ n ih =>
    intro k j y hj hy r hr
    have e := len_at b t a hd (by omega)
    rw [show k + (n + 1) + 1 = (k + n + 1) + 1 by omega, lockgateref02_Get.l1, wk (x := (j : Int) + 1) (by omega)]
    have er := rd_at b t a j hb hd (by omega)
    refine ift (by omega) (ift ?_ (ift ?_ (ift (by omega) ?_)))
    · rw [wk (by omega)]; omega
    · rw [wk (by omega)]; omega
    · rw [er]
      refine ih k (j + 1) (y ++ [t[j]]) (by omega) (by rw [List.length_append, List.length_singleton]; omega) r ?_
      rw [List.append_assoc]
      have : [t[j]] ++ (t.take 16).drop (j + 1) = (t.take 16).drop j := by
        rw [List.drop_eq_getElem_cons (i := j) (by rw [List.length_take]; omega), List.getElem_take]; rfl
      rw [this]; exact hr
/-- the document's round over eight bytes and more. -/
theorem j1_f (k : Nat) (hk : 400 ≤ k) (b : List Int) (hb : b.length ≤ 100000) (acc : List S40) (a : Nat) (b0 b1 p0 p1 i0 i1 i2 i3 : Int) (t : List Int) (hd : b.drop a = b0 :: b1 :: p0 :: p1 :: i0 :: i1 :: i2 :: i3 :: t)
    (h0 : isB b0) (h1 : isB b1) (hp0 : isB p0) (hp1 : isB p1) (hi0 : isB i0) (hi1 : isB i1) (hi2 : isB i2) (hi3 : isB i3) (r : Option (List S40 × Int))
    (hn : b0 ≠ 24 → lockgateref02_Get.j4 k b acc (a : Int) b0 (b1 % 16) (b1 / 16) (sg16 (p0 + 256 * p1)) (sg32 (v4 i0 i1 i2 i3)) = r)
    (hw : b0 = 24 → ∃ z0 z1 z2 z3 t', t = z0 :: z1 :: z2 :: z3 :: t' ∧ 4 ≤ t'.length ∧
      lockgateref02_Get.j2 k b acc (a : Int) (!decide (z0 = 0 ∧ z1 = 0 ∧ z2 = 0 ∧ z3 = 0)) 24 (b1 % 16) (b1 / 16) (sg16 (p0 + 256 * p1)) (sg32 (v4 i0 i1 i2 i3)) = r) :
    lockgateref02_Get.j1 (k + 1) b acc (a : Int) false = r := by
  have hl : 8 ≤ (b0 :: b1 :: p0 :: p1 :: i0 :: i1 :: i2 :: i3 :: t).length := by simp only [List.length_cons]; omega
  have e := len_at b _ a hd (by omega)
  have hB0 := h0; unfold isB at hB0
  rw [lockgateref02_Get.j1]
  have r0 : rd b (a : Int) = b0 := by
    have := rd_at b _ a 0 hb hd (by omega)
    rw [wk (by omega)] at this; simpa using this
  have r1 := rd_at b _ a 1 hb hd (by omega)
  have c24 := cut_at b _ a 2 4 hb hd (by omega) (by omega)
  have c48 := cut_at b _ a 4 8 hb hd (by omega) (by omega)
  have q24 := c24.resolve_right (by omega)
  have q48 := c48.resolve_right (by omega)
  have w (n : Int) (hn : 0 ≤ n ∧ n ≤ 100) : wrap64 ((a : Int) + n) = (a : Int) + n := wk (by omega)
  refine ife nt (ift (by omega) (ift (by omega) (ift (by rw [w 1 (by omega)]; omega) (ift (by rw [w 1 (by omega)]; omega) (ift (by rw [w 2 (by omega)]; omega) (ift (by rw [w 2 (by omega), w 4 (by omega)]; omega) (ift (by rw [w 4 (by omega)]; omega) ?_)))))))
  have s2 : lockgateref02_signed.f k ((b.take ((wrap64 ((a : Int) + 4)) : Int).toNat).drop ((wrap64 ((a : Int) + 2)) : Int).toNat) = some (sg16 (p0 + 256 * p1)) := by
    rw [show (b.take ((wrap64 ((a : Int) + 4)) : Int).toNat).drop ((wrap64 ((a : Int) + 2)) : Int).toNat = [p0, p1] from q24]
    exact sgn2 k (by omega) p0 p1 hp0 hp1
  have s4 : lockgateref02_signed.f k ((b.take ((wrap64 ((a : Int) + 8)) : Int).toNat).drop ((wrap64 ((a : Int) + 4)) : Int).toNat) = some (sg32 (v4 i0 i1 i2 i3)) := by
    rw [show (b.take ((wrap64 ((a : Int) + 8)) : Int).toNat).drop ((wrap64 ((a : Int) + 4)) : Int).toNat = [i0, i1, i2, i3] from q48]
    exact sgn4 k (by omega) i0 i1 i2 i3 hi0 hi1 hi2 hi3
  refine bs s2 (ift (by rw [w 4 (by omega)]; omega) (ift (by rw [w 4 (by omega), w 8 (by omega)]; omega) (ift (by rw [w 8 (by omega)]; omega) (bs s4 ?_))))
  have r1' : rd b (wrap64 ((a : Int) + 1)) = b1 := r1
  obtain ⟨t1, t2⟩ := tm16 h1
  rw [r0, r1', t1, t2, wk (x := b0) (by omega)]
  by_cases h24 : b0 = 24
  · obtain ⟨z0, z1, z2, z3, t', rfl, ht', hr⟩ := hw h24
    subst h24
    have hl2 : 16 ≤ (24 :: b1 :: p0 :: p1 :: i0 :: i1 :: i2 :: i3 :: z0 :: z1 :: z2 :: z3 :: t').length := by simp only [List.length_cons]; omega
    have r8 : rd b (wrap64 ((a : Int) + 8)) = z0 := rd_at b _ a 8 hb hd (by omega)
    have r9 : rd b (wrap64 ((a : Int) + 9)) = z1 := rd_at b _ a 9 hb hd (by omega)
    have r10 : rd b (wrap64 ((a : Int) + 10)) = z2 := rd_at b _ a 10 hb hd (by omega)
    have r11 : rd b (wrap64 ((a : Int) + 11)) = z3 := rd_at b _ a 11 hb hd (by omega)
    rw [r8, r9, r10, r11]
    refine ift rfl (ift (by rw [w 8 (by omega)]; omega) (ift (by rw [w 8 (by omega)]; omega) ?_))
    by_cases e0 : z0 = 0
    · refine ift e0 (ift (by rw [w 9 (by omega)]; omega) (ift (by rw [w 9 (by omega)]; omega) ?_))
      by_cases e1 : z1 = 0
      · refine ift e1 (ift (by rw [w 10 (by omega)]; omega) (ift (by rw [w 10 (by omega)]; omega) ?_))
        by_cases e2 : z2 = 0
        · refine ift e2 (ift (by rw [w 11 (by omega)]; omega) (ift (by rw [w 11 (by omega)]; omega) ?_))
          rw [show (z3 != 0) = !decide (z0 = 0 ∧ z1 = 0 ∧ z2 = 0 ∧ z3 = 0) by by_cases e3 : z3 = 0 <;> simp [e0, e1, e2, e3]]
          exact hr
        · refine ife e2 ?_
          rw [show (!decide (z0 = 0 ∧ z1 = 0 ∧ z2 = 0 ∧ z3 = 0)) = true by simp [e2]] at hr
          exact hr
      · refine ife e1 ?_
        rw [show (!decide (z0 = 0 ∧ z1 = 0 ∧ z2 = 0 ∧ z3 = 0)) = true by simp [e1]] at hr
        exact hr
    · refine ife e0 ?_
      rw [show (!decide (z0 = 0 ∧ z1 = 0 ∧ z2 = 0 ∧ z3 = 0)) = true by simp [e0]] at hr
      exact hr
  · exact ife h24 (hn h24)
/-- eight zeros are not there: the wide instruction. -/
theorem j2_f (k : Nat) (hk : 500 ≤ k) (b : List Int) (hb : b.length ≤ 100000) (acc : List S40) (a : Nat) (b1 p0 p1 i0 i1 i2 i3 j0 j1 j2 j3 : Int) (t : List Int) (hd : b.drop a = 24 :: b1 :: p0 :: p1 :: i0 :: i1 :: i2 :: i3 :: 0 :: 0 :: 0 :: 0 :: j0 :: j1 :: j2 :: j3 :: t)
    (hi0 : isB i0) (hi1 : isB i1) (hi2 : isB i2) (hi3 : isB i3) (hj0 : isB j0) (hj1 : isB j1) (hj2 : isB j2) (hj3 : isB j3) (d s o i : Int) (r : Option (List S40 × Int))
    (h : lockgateref02_Get.j4 k b acc (a : Int) 24 d s o (v4 i0 i1 i2 i3 + sg32 (v4 j0 j1 j2 j3) * 4294967296) = r) :
    lockgateref02_Get.j2 (k + 6) b acc (a : Int) false 24 d s o i = r := by
  have hl : 16 ≤ (24 :: b1 :: p0 :: p1 :: i0 :: i1 :: i2 :: i3 :: 0 :: 0 :: 0 :: 0 :: j0 :: j1 :: j2 :: j3 :: t).length := by simp only [List.length_cons]; omega
  have e := len_at b _ a hd (by omega)
  have w (n : Int) (hn : 0 ≤ n ∧ n ≤ 100) : wrap64 ((a : Int) + n) = (a : Int) + n := wk (by omega)
  have q48 := (cut_at b _ a 4 8 hb hd (by omega) (by omega)).resolve_right (by omega)
  rw [lockgateref02_Get.j2]
  have c4 : lockgatekit_CopyBytes.f (k + 5) ((b.take ((wrap64 ((a : Int) + 8)) : Int).toNat).drop ((wrap64 ((a : Int) + 4)) : Int).toNat) = some [i0, i1, i2, i3] := by
    rw [show (b.take ((wrap64 ((a : Int) + 8)) : Int).toNat).drop ((wrap64 ((a : Int) + 4)) : Int).toNat = [i0, i1, i2, i3] from q48]
    exact copyB (k + 5) _ (by simp) (by simp)
  refine ife nt (ift (by rw [w 4 (by omega)]; omega) (ift (by rw [w 4 (by omega), w 8 (by omega)]; omega) (ift (by rw [w 8 (by omega)]; omega) (bs c4 ?_))))
  refine rl1_f b hb _ [] a hd hl 24 d s o i acc 4 k 12 [i0, i1, i2, i3] (by omega) (by simp) r ?_
  exact bs (sgn8 k (by omega) i0 i1 i2 i3 j0 j1 j2 j3 hi0 hi1 hi2 hi3 hj0 hj1 hj2 hj3) h
/-- Get: the program's and the document's answers are one. -/
theorem same_l (b : List Int) (hb : b.length ≤ 100000) (hB : ∀ x ∈ b, isB x) (n : Nat) : ∀ (k : Nat) (a : Nat) (acc : List S40), a + n = b.length → acc.length ≤ 256 → n + 600 ≤ k →
    ∃ R : List S40 × Int, insn_Get.l0 k (b.drop a) acc = some R ∧ R.1.length ≤ 256 ∧ ∀ k', 20 * n + 600 ≤ k' → lockgateref02_Get.l0 k' b acc (a : Int) = some R := by
  induction n using Nat.strongRecOn with
  | _ n ih =>
  intro k a acc ha hac hk
  obtain ⟨k, rfl⟩ : ∃ m, k = m + 1 := ⟨k - 1, by omega⟩
  by_cases hn : n = 0
  · refine ⟨(acc, 0), ?_, hac, fun k' hk' => ?_⟩
    · rw [insn_Get.l0, List.drop_of_length_le (by omega)]; exact ife (by simp) rfl
    · obtain ⟨k', rfl⟩ : ∃ m, k' = m + 1 := ⟨k' - 1, by omega⟩
      rw [lockgateref02_Get.l0]; exact ife (by omega) rfl
  have hlen : (b.drop a).length = n := by rw [List.length_drop]; omega
  have hBa : ∀ x ∈ b.drop a, isB x := fun x hx => hB x (List.mem_of_mem_drop hx)
  have wl : wrap64 ((b.length : Int) - (a : Int)) = (n : Int) := by rw [wk (by omega)]; omega
  by_cases h256 : acc.length = 256
  · refine ⟨([], 9), ?_, by simp, fun k' hk' => ?_⟩
    · rw [insn_Get.l0]; exact ift (by omega) (ift (by omega) rfl)
    · obtain ⟨k', rfl⟩ : ∃ m, k' = m + 1 := ⟨k' - 1, by omega⟩
      rw [lockgateref02_Get.l0]; exact ift (by omega) (ift (by omega) rfl)
  by_cases h8 : n < 8
  · refine ⟨([], 2), ?_, by simp, fun k' hk' => ?_⟩
    · rw [insn_Get.l0]; exact ift (by omega) (ife (by omega) (bs (short k _ (by omega)) (ife (by decide) rfl)))
    · obtain ⟨k', rfl⟩ : ∃ m, k' = m + 2 := ⟨k' - 2, by omega⟩
      rw [lockgateref02_Get.l0, wl]
      refine ift (by omega) (ife (by omega) (ift (by omega) ?_))
      rw [lockgateref02_Get.j1]; exact ift rfl rfl
  obtain ⟨T, hT⟩ : ∃ T, T = b.drop a := ⟨_, rfl⟩
  match T, hT with
  | b0 :: b1 :: p0 :: p1 :: i0 :: i1 :: i2 :: i3 :: t, hT =>
    rw [← hT] at hlen hBa
    have h0 := hBa b0 (by simp); have h1 := hBa b1 (by simp); have hp0 := hBa p0 (by simp); have hp1 := hBa p1 (by simp)
    have hi0 := hBa i0 (by simp); have hi1 := hBa i1 (by simp); have hi2 := hBa i2 (by simp); have hi3 := hBa i3 (by simp)
    have htB : ∀ x ∈ t, isB x := fun x hx => hBa x (by simp [hx])
    have htl : t.length + 8 = n := by simp only [List.length_cons] at hlen; omega
    have r0 : rd b (a : Int) = b0 := by
      have := rd_at b _ a 0 hb hT.symm (by simp)
      rw [wk (by omega)] at this; simpa using this
    /- what is read: an instruction, or what is wrong with it -/
    have step : ∀ (x : S40), b.drop a = by1 x ++ (b.drop (a + (by1 x).length)) → (by1 x).length ≤ n → 8 ≤ (by1 x).length → insn_first.f k (b.drop a) = some (x.f0, x.f1, x.f2, x.f3, x.f4, 8 * sz x.f0, ck x) →
        (∀ k' r, 500 ≤ k' → (∀ k'', k' ≤ k'' → lockgateref02_Get.j4 k'' b acc (a : Int) x.f0 x.f1 x.f2 x.f3 x.f4 = r) → lockgateref02_Get.l0 (k' + 8) b acc (a : Int) = r) →
        ∃ R : List S40 × Int, insn_Get.l0 (k + 1) (b.drop a) acc = some R ∧ R.1.length ≤ 256 ∧ ∀ k', 20 * n + 600 ≤ k' → lockgateref02_Get.l0 k' b acc (a : Int) = some R := by
      intro x hx hxl hx8 hf hrd
      have l1 := by1_len x
      have s12 : sz x.f0 = 1 ∨ sz x.f0 = 2 := by unfold sz; split <;> omega
      obtain ⟨c, hcx⟩ : ∃ c, ck x = c := ⟨_, rfl⟩
      rw [hcx] at hf
      by_cases hc : c = 0
      · obtain ⟨R, hR, hRl, hRr⟩ := ih (n - (by1 x).length) (by omega) k (a + (by1 x).length) (acc ++ [x]) (by omega) (by rw [List.length_append, List.length_singleton]; omega) (by omega)
        refine ⟨R, ?_, hRl, fun k' hk' => ?_⟩
        · rw [insn_Get.l0]
          have hl2 : (b.drop a).length = n := by rw [List.length_drop]; omega
          refine ift (by omega) (ife (by omega) (bs hf (ift hc (ift (by omega) (ift ?_ (ift ?_ ?_))))))
          · show (0 : Int) ≤ 8 * sz x.f0; omega
          · show 8 * sz x.f0 ≤ _; omega
          · show insn_Get.l0 k ((b.drop a).drop ((8 * sz x.f0)).toNat) (acc ++ [x]) = _
            rw [show ((8 * sz x.f0)).toNat = (by1 x).length by omega, List.drop_drop]
            exact hR
        · obtain ⟨k', rfl⟩ : ∃ m, k' = m + 1 + 8 := ⟨k' - 9, by omega⟩
          refine hrd (k' + 1) _ (by omega) (fun k'' hk'' => ?_)
          obtain ⟨q, rfl⟩ : ∃ m, k'' = m + 1 := ⟨k'' - 1, by omega⟩
          rw [j4_f q (by omega) b acc a x (by omega) (by omega), hcx, if_pos hc]
          exact hRr q (by omega)
      · refine ⟨([], c), ?_, by simp, fun k' hk' => ?_⟩
        · have hl2 : (b.drop a).length = n := by rw [List.length_drop]; omega
          rw [insn_Get.l0]
          exact ift (by omega) (ife (by omega) (bs hf (ife hc rfl)))
        · obtain ⟨k', rfl⟩ : ∃ m, k' = m + 1 + 8 := ⟨k' - 9, by omega⟩
          refine hrd (k' + 1) _ (by omega) (fun k'' hk'' => ?_)
          obtain ⟨q, rfl⟩ : ∃ m, k'' = m + 1 := ⟨k'' - 1, by omega⟩
          rw [j4_f q (by omega) b acc a x (by omega) (by omega), hcx, if_neg hc]
    by_cases h24 : b0 = 24
    · subst h24
      by_cases ht8 : t.length < 8
      · refine ⟨([], 2), ?_, by simp, fun k' hk' => ?_⟩
        · rw [insn_Get.l0, ← hT]; exact ift (by simp only [List.length_cons]; omega) (ife (by omega) (bs (first_s k (by omega) b1 p0 p1 i0 i1 i2 i3 t ht8 h1 hp0 hp1 hi0 hi1 hi2 hi3) (ife (by decide) rfl)))
        · obtain ⟨k', rfl⟩ : ∃ m, k' = m + 2 := ⟨k' - 2, by omega⟩
          rw [lockgateref02_Get.l0, wl, r0]
          refine ift (by omega) (ife (by omega) (ife (by omega) (ift (by omega) (ift rfl ?_))))
          rw [show decide ((n : Int) < 16) = true from decide_eq_true (by omega), lockgateref02_Get.j1]; exact ift rfl rfl
      have to_j1 : ∀ k' r, lockgateref02_Get.j1 k' b acc (a : Int) false = r → lockgateref02_Get.l0 (k' + 1) b acc (a : Int) = r := by
        intro k' r h
        rw [lockgateref02_Get.l0, wl, r0]
        refine ift (by omega) (ife (by omega) (ife (by omega) (ift (by omega) (ift rfl ?_))))
        rw [show decide ((n : Int) < 16) = false from decide_eq_false (by omega)]; exact h
      match t, htB, htl, ht8, hT with
      | z0 :: z1 :: z2 :: z3 :: j0 :: j1 :: j2 :: j3 :: t', htB, htl, ht8, hT =>
        have g0 := htB z0 (by simp); have g1 := htB z1 (by simp); have g2 := htB z2 (by simp); have g3 := htB z3 (by simp)
        have hj0 := htB j0 (by simp); have hj1 := htB j1 (by simp); have hj2 := htB j2 (by simp); have hj3 := htB j3 (by simp)
        simp only [List.length_cons] at htl
        by_cases hz : z0 = 0 ∧ z1 = 0 ∧ z2 = 0 ∧ z3 = 0
        · obtain ⟨rfl, rfl, rfl, rfl⟩ := hz
          have w := first_w k (by omega) b1 p0 p1 i0 i1 i2 i3 j0 j1 j2 j3 t' h1 hp0 hp1 hi0 hi1 hi2 hi3 hj0 hj1 hj2 hj3 (by omega)
          obtain ⟨x, hx⟩ : ∃ x : S40, x = ⟨24, b1 % 16, b1 / 16, sg16 (p0 + 256 * p1), v4 i0 i1 i2 i3 + sg32 (v4 j0 j1 j2 j3) * 4294967296⟩ := ⟨_, rfl⟩
          have hby : by1 x = [24, b1, p0, p1, i0, i1, i2, i3, 0, 0, 0, 0, j0, j1, j2, j3] := by
            have v := v4_in hi0 hi1 hi2 hi3
            have u := sg32_mod (v4_in hj0 hj1 hj2 hj3)
            unfold by1
            rw [hx]
            dsimp only
            rw [if_pos rfl, b1_back h1, lb_s16 hp0 hp1, lb_v4 hi0 hi1 hi2 hi3 _ (by omega), lb_v4 hj0 hj1 hj2 hj3 _ (by omega)]
            rfl
          refine step x ?_ (by rw [hby]; simp only [List.length_cons, List.length_nil]; omega) (by rw [hby]; simp) ?_ ?_
          · rw [hby, ← List.drop_drop, ← hT]; rfl
          · rw [← hT, w, ← hx, hx]; rfl
          · intro k' r hk' hr
            rw [show k' + 8 = (k' + 6) + 1 + 1 by omega]
            refine to_j1 _ r (j1_f (k' + 6) (by omega) b hb acc a 24 b1 p0 p1 i0 i1 i2 i3 _ hT.symm h0 h1 hp0 hp1 hi0 hi1 hi2 hi3 r (fun q => absurd rfl q) (fun _ => ⟨0, 0, 0, 0, _, rfl, by simp, ?_⟩))
            rw [show (!decide ((0 : Int) = 0 ∧ (0 : Int) = 0 ∧ (0 : Int) = 0 ∧ (0 : Int) = 0)) = false by decide]
            rw [hx] at hr
            exact j2_f k' (by omega) b hb acc a b1 p0 p1 i0 i1 i2 i3 j0 j1 j2 j3 t' hT.symm hi0 hi1 hi2 hi3 hj0 hj1 hj2 hj3 _ _ _ _ r (hr k' (by omega))
        · refine ⟨([], 6), ?_, by simp, fun k' hk' => ?_⟩
          · rw [insn_Get.l0, ← hT]; exact ift (by simp only [List.length_cons]; omega) (ife (by omega) (bs (first_z k (by omega) b1 p0 p1 i0 i1 i2 i3 z0 z1 z2 z3 _ (by simp) h1 hp0 hp1 hi0 hi1 hi2 hi3 g0 g1 g2 g3 (by simp only [List.length_cons]; omega) hz) (ife (by decide) rfl)))
          · obtain ⟨k', rfl⟩ : ∃ m, k' = m + 1 + 1 + 1 := ⟨k' - 3, by omega⟩
            refine to_j1 _ _ (j1_f (k' + 1) (by omega) b hb acc a 24 b1 p0 p1 i0 i1 i2 i3 _ hT.symm h0 h1 hp0 hp1 hi0 hi1 hi2 hi3 _ (fun q => absurd rfl q) (fun _ => ⟨z0, z1, z2, z3, _, rfl, by simp, ?_⟩))
            rw [show (!decide (z0 = 0 ∧ z1 = 0 ∧ z2 = 0 ∧ z3 = 0)) = true by simp only [hz, decide_false, Bool.not_false], lockgateref02_Get.j2]
            exact ift rfl rfl
      | [], _, _, q, _ => exact absurd (by simp) q
      | [_], _, _, q, _ => exact absurd (by simp) q
      | [_, _], _, _, q, _ => exact absurd (by simp) q
      | [_, _, _], _, _, q, _ => exact absurd (by simp) q
      | [_, _, _, _], _, _, q, _ => exact absurd (by simp) q
      | [_, _, _, _, _], _, _, q, _ => exact absurd (by simp) q
      | [_, _, _, _, _, _], _, _, q, _ => exact absurd (by simp) q
      | [_, _, _, _, _, _, _], _, _, q, _ => exact absurd (by simp) q
    · have w := first_n k (by omega) b0 b1 p0 p1 i0 i1 i2 i3 t h0 h1 hp0 hp1 hi0 hi1 hi2 hi3 (by omega) h24
      obtain ⟨x, hx⟩ : ∃ x : S40, x = ⟨b0, b1 % 16, b1 / 16, sg16 (p0 + 256 * p1), sg32 (v4 i0 i1 i2 i3)⟩ := ⟨_, rfl⟩
      have hby : by1 x = [b0, b1, p0, p1, i0, i1, i2, i3] := by
        unfold by1
        rw [hx]
        dsimp only
        rw [if_neg h24, b1_back h1, lb_s16 hp0 hp1, lb_v4 hi0 hi1 hi2 hi3 _ (sg32_mod (v4_in hi0 hi1 hi2 hi3)), show b0 % 256 = b0 by unfold isB at h0; omega]
        rfl
      have hs1 : sz x.f0 = 1 := by rw [hx]; unfold sz; rw [if_neg h24]
      refine step x ?_ (by rw [hby]; simp only [List.length_cons, List.length_nil]; omega) (by rw [hby]; simp) ?_ ?_
      · rw [hby, ← List.drop_drop, ← hT]; rfl
      · rw [← hT, w, ← hx, hs1, hx]; rfl
      · intro k' r hk' hr
        rw [lockgateref02_Get.l0, wl, r0]
        refine ift (by omega) (ife (by omega) (ife (by omega) (ift (by omega) (ife h24 ?_))))
        rw [show k' + 7 = (k' + 6) + 1 by omega]
        refine j1_f (k' + 6) (by omega) b hb acc a b0 b1 p0 p1 i0 i1 i2 i3 _ hT.symm h0 h1 hp0 hp1 hi0 hi1 hi2 hi3 r (fun _ => ?_) (fun q => absurd q h24)
        rw [hx] at hr
        exact hr (k' + 6) (by omega)
  | [], hT => exact absurd (congrArg List.length hT) (by simp only [List.length_cons, List.length_nil]; omega)
  | [_], hT => exact absurd (congrArg List.length hT) (by simp only [List.length_cons, List.length_nil]; omega)
  | [_, _], hT => exact absurd (congrArg List.length hT) (by simp only [List.length_cons, List.length_nil]; omega)
  | [_, _, _], hT => exact absurd (congrArg List.length hT) (by simp only [List.length_cons, List.length_nil]; omega)
  | [_, _, _, _], hT => exact absurd (congrArg List.length hT) (by simp only [List.length_cons, List.length_nil]; omega)
  | [_, _, _, _, _], hT => exact absurd (congrArg List.length hT) (by simp only [List.length_cons, List.length_nil]; omega)
  | [_, _, _, _, _, _], hT => exact absurd (congrArg List.length hT) (by simp only [List.length_cons, List.length_nil]; omega)
  | [_, _, _, _, _, _, _], hT => exact absurd (congrArg List.length hT) (by simp only [List.length_cons, List.length_nil]; omega)
theorem get2 (b : List Int) (hb : b.length ≤ 9000) (hB : ∀ x ∈ b, isB x) (k : Nat) (hk : 200000 ≤ k) : ∃ R : List S40 × Int, insn_Get.f k b = some R ∧ R.1.length ≤ 256 ∧ lockgateref02_Get.f k b = some R := by
  obtain ⟨R, h1, h2, h3⟩ := same_l b (by omega) hB b.length k 0 [] (by omega) (by simp) (by omega)
  exact ⟨R, h1, h2, h3 k (by omega)⟩
theorem law (k : Nat) (hk : 300000 ≤ k) (l : List Int) (hB : ∀ x ∈ l, isB x) : lockgatelaw02_InsnGets.f k l = some true := by
  have kn := works_f k (by omega)
  unfold lockgatelaw02_InsnGets.f
  by_cases h : l.length > 8192
  · exact ift (by omega) (bs kn rfl)
  · refine ife (by omega) (bs (lentB k l (by omega) (by omega)) ?_)
    have hm : marksB.length = 5 := rfl
    have e : (l ++ marksB).take ((l.length : Int)).toNat = l := by rw [Int.toNat_natCast, List.take_left]
    rw [e]
    obtain ⟨R, h1, h2, h3⟩ := get2 l (by omega) hB k (by omega)
    refine ift (by omega) (ift (by rw [List.length_append]; omega) (bs h1 (bs h1 (bs h3 (ift rfl (ift rfl (bs (sameT k R.1 (by omega) (by omega)) ?_)))))))
    obtain ⟨r, hr⟩ := spoilT (k - 1) R.1 (by omega) (by omega)
    obtain ⟨m, rfl⟩ : ∃ m, k = m + 1 := ⟨k - 1, by omega⟩
    rw [lockgatelaw02_InsnGets.j0]
    exact ife nt (bs hr (bs (sameT m R.1 (by omega) (by omega)) (ift rfl (bs (keptB m l (by omega) (by omega)) (ift rfl (bs (works_f m (by omega)) rfl))))))
theorem isB_wf {x : Int} (h : (Lit.int .u8 x).wf = true) : isB x := by
  have h : IntKind.u8.min ≤ x ∧ x ≤ IntKind.u8.max := by simpa [Lit.wf] using h
  have h1 : IntKind.u8.min = 0 := rfl
  have h2 : IntKind.u8.max = 255 := rfl
  unfold isB; omega
theorem pure (l0 : List Int) (hm : l0.length ≤ maxLen) (hw : ∀ x ∈ l0, (Lit.int .u8 x).wf = true) : ∃ k, lockgatelaw02_InsnGets.f k l0 = some true :=
  ⟨300000, law 300000 (by omega) l0 (fun x hx => isB_wf (hw x hx))⟩
end Go.Proofs.Yticijjonimiooaa.LInsnGets
end
section
/- InsnCut, without Go. -/
namespace Go.Proofs.Yticijjonimiooaa.LInsnCut
open Go.RowKit Go.Proofs.YticijjonimiooaaW.PrintWords Go.Proofs.YticijjonimiooaaW.PrintLast Go.Proofs.YticijjonimiooaaW.PrintMore Go.Proofs.Yticijjonimiooaa.PA Go.Proofs.Yticijjonimiooaa.Bv Go.Proofs.Yticijjonimiooaa.C02 Go.Proofs.Yticijjonimiooaa.LInsnBack Go.Proofs.Yticijjonimiooaa.LInsnForms Go.Proofs.Yticijjonimiooaa.LInsnGets
theorem pick_f (a : Int) (n : Nat) (h : 1 ≤ n) (hn : n ≤ 100000) : ∃ c : Nat, lockgatekit_Pick.f a (n : Int) = some (c : Int) ∧ c < n := by
  unfold lockgatekit_Pick.f
  have h1 : Int.tmod a (n : Int) < (n : Int) := Int.tmod_lt_of_pos a (by omega)
  have h2 : -(n : Int) < Int.tmod a (n : Int) := Int.lt_tmod_of_pos a (by omega)
  generalize Int.tmod a (n : Int) = q at *
  by_cases hq : q < 0
  · exact ⟨(q + n).toNat, ife (by omega) (ife (by omega) (ift hq (by rw [wk (by omega)]; congr 1; omega))), by omega⟩
  · exact ⟨q.toNat, ife (by omega) (ife (by omega) (ife hq (by congr 1; omega))), by omega⟩
theorem bts_app (a b : List S40) : bts (a ++ b) = bts a ++ bts b := by unfold bts; rw [List.flatMap_append]
/-- whole instructions ahead of other bytes. -/
theorem get_pre (m : List S40) (t : List Int) (ht : t.length ≤ 10000) (hm : m.length ≤ 256) : ∀ (k : Nat) (acc : List S40), (∀ x ∈ m, ck x = 0 ∧ i64 x.f4) → acc.length + m.length ≤ 256 → 500 ≤ k → insn_Get.l0 (k + m.length) (bts m ++ t) acc = insn_Get.l0 k t (acc ++ m) := by
  induction m with
  | nil => intro k acc _ _ _; simp [bts]
  | cons x xs ih =>
    intro k acc hx ha hk
    rw [List.length_cons] at hm ha
    obtain ⟨hc, hi⟩ := hx x (List.mem_cons_self ..)
    have e : bts (x :: xs) ++ t = by1 x ++ (bts xs ++ t) := by unfold bts; rw [List.flatMap_cons, List.append_assoc]
    have l1 := by1_len x
    have l2 := bts_len xs
    have s12 : sz x.f0 = 1 ∨ sz x.f0 = 2 := by unfold sz; split <;> omega
    have l3 : (bts xs ++ t).length ≤ 20000 := by rw [List.length_append]; omega
    rw [List.length_cons, ← Nat.add_assoc, insn_Get.l0, e]
    refine ift (by rw [List.length_append]; omega) (ife (by omega) (bs (first_by1 (k + xs.length) (by omega) x hc hi (bts xs ++ t) (by omega)) ?_))
    refine ift rfl (ift (by omega) (ift ?_ (ift ?_ ?_)))
    · show (0 : Int) ≤ 8 * sz x.f0; omega
    · show 8 * sz x.f0 ≤ _; rw [List.length_append]; omega
    · have e2 : (8 * sz x.f0).toNat = (by1 x).length := by omega
      show insn_Get.l0 (k + xs.length) ((by1 x ++ (bts xs ++ t)).drop ((8 * sz x.f0)).toNat) (acc ++ [x]) = _
      rw [e2, List.drop_left, ih (by omega) k (acc ++ [x]) (fun y hy => hx y (List.mem_cons_of_mem _ hy)) (by rw [List.length_append, List.length_singleton]; omega) hk, List.append_assoc]; rfl
/-- a beginning of an instruction is too short. -/
theorem first_part (k : Nat) (hk : 400 ≤ k) (x : S40) (j : Nat) (h : j < (by1 x).length) : insn_first.f k ((by1 x).take j) = some (0, 0, 0, 0, 0, 0, 2) := by
  by_cases h8 : j < 8
  · exact short k _ (by rw [List.length_take]; omega)
  have l1 := by1_len x
  have h24 : x.f0 = 24 := by
    unfold sz at l1; by_cases h24 : x.f0 = 24
    · exact h24
    · rw [if_neg h24] at l1; omega
  have e : by1 x = 24 :: ((16 * x.f2 + x.f1) % 256) :: (x.f3 % 256) :: (x.f3 / 256 % 256) :: (x.f4 % 256) :: (x.f4 / 256 % 256) :: (x.f4 / 256 / 256 % 256) :: (x.f4 / 256 / 256 / 256 % 256) :: ([0, 0, 0, 0] ++ lb (x.f4 / 4294967296) 4) := by
    unfold by1; rw [lb2, lb4, if_pos h24, h24]; rfl
  have hl : ([0, 0, 0, 0] ++ lb (x.f4 / 4294967296) 4).length = 8 := by rw [List.length_append, lb_length]; rfl
  have l16 : (by1 x).length = 16 := by rw [e]; simp only [List.length_cons]; omega
  obtain ⟨q, rfl⟩ : ∃ q, j = q + 8 := ⟨j - 8, by omega⟩
  rw [e]
  simp only [List.take_succ_cons]
  exact first_s k hk _ _ _ _ _ _ _ _ (by rw [List.length_take]; omega) (isBm _) (isBm _) (isBm _) (isBm _) (isBm _) (isBm _) (isBm _)
theorem j1_f (l : List S40) (hl : l.length ≤ 256) (hx : ∀ x ∈ l, ck x = 0 ∧ i64 x.f4) (cut : Nat) (hc : cut ≤ (bts l).length) (k i : Nat) (hk : 1500 ≤ k) (hi : i ≤ l.length) (h1 : (bts (l.take i)).length ≤ cut) (h2 : i < l.length → cut < (bts (l.take (i + 1))).length) :
    lockgatelaw02_InsnCut.j1 (k + 1) l (cut : Int) (bts l) (((bts (l.take i)).length : Nat) : Int) (i : Int) = some true := by
  have kn := works_f k (by omega)
  have l3 : (l.take i).length = i := by rw [List.length_take]; omega
  have l2 := bts_len (l.take i)
  have hxt : ∀ x ∈ l.take i, ck x = 0 ∧ i64 x.f4 := fun x h => hx x (List.mem_of_mem_take h)
  have eb : bts l = bts (l.take i) ++ bts (l.drop i) := by rw [← bts_app, List.take_append_drop]
  rw [lockgatelaw02_InsnCut.j1]
  refine ift (by omega) (ift (by omega) ?_)
  rw [show ((cut : Int)).toNat = cut by omega]
  by_cases he : (bts (l.take i)).length = cut
  · have hg : insn_Get.f k ((bts l).take cut) = some (l.take i, 0) := by
      rw [eb, List.take_left' he]
      unfold insn_Get.f
      have := get_l (l.take i) (by omega) k [] hxt (by simp; omega) (by omega)
      simpa using this
    refine bs hg (ift (by omega) (ift rfl (ift (by omega) (ift (by omega) ?_))))
    rw [show ((i : Int)).toNat = i by omega]
    exact bs (sameT k (l.take i) (by omega) (by omega)) (ift rfl (bs kn rfl))
  · have hlt : i < l.length := by
      apply Classical.byContradiction; intro hn
      have : l.drop i = [] := List.drop_of_length_le (by omega)
      rw [this] at eb
      have e3 : bts ([] : List S40) = [] := rfl
      rw [e3, List.append_nil] at eb
      rw [eb] at hc; omega
    have h2 := h2 hlt
    have e1 : l.take (i + 1) = l.take i ++ [l[i]] := (take_succ' l i hlt).symm
    rw [e1, bts_app, List.length_append] at h2
    have e4 : bts [l[i]] = by1 l[i] := by unfold bts; simp
    rw [e4] at h2
    have e5 : bts (l.drop i) = by1 l[i] ++ bts (l.drop (i + 1)) := by rw [List.drop_eq_getElem_cons hlt]; unfold bts; rw [List.flatMap_cons]
    have e6 : (bts l).take cut = bts (l.take i) ++ (by1 l[i]).take (cut - (bts (l.take i)).length) := by
      rw [eb, e5, List.take_append, List.take_of_length_le (by omega), List.take_append_of_le_length (by omega)]
    have hb := by1_length l[i]
    have hg : insn_Get.f k ((bts l).take cut) = some ([], 2) := by
      unfold insn_Get.f
      rw [e6]
      have := get_pre (l.take i) ((by1 l[i]).take (cut - (bts (l.take i)).length)) (by rw [List.length_take]; omega) (by omega) (k - i) [] hxt (by simp; omega) (by omega)
      rw [l3, show k - i + i = k by omega] at this
      rw [this]
      obtain ⟨q, hq⟩ : ∃ q, k - i = q + 1 := ⟨k - i - 1, by omega⟩
      rw [hq, insn_Get.l0]
      refine ift (by rw [List.length_take]; omega) (ife (by simp; omega) (bs (first_part q (by omega) l[i] _ (by omega)) (ife (by decide) rfl)))
    refine bs hg (ife (by omega) (ift rfl (ift rfl (bs kn rfl))))
theorem cut_l (l : List S40) (hl : l.length ≤ 256) (hx : ∀ x ∈ l, ck x = 0 ∧ i64 x.f4) (cut : Nat) (hc : cut ≤ (bts l).length) (d : Nat) : ∀ (k i : Nat), i + d = l.length → d + 2000 ≤ k → (bts (l.take i)).length ≤ cut →
    lockgatelaw02_InsnCut.l0 k l (cut : Int) (bts l) (((bts (l.take i)).length : Nat) : Int) (i : Int) = some true := by
  induction d with
  | zero =>
    intro k i hi hk h1
    obtain ⟨k, rfl⟩ : ∃ m, k = m + 2 := ⟨k - 2, by omega⟩
    rw [lockgatelaw02_InsnCut.l0]
    exact ife (by omega) (j1_f l hl hx cut hc k i (by omega) (by omega) h1 (fun h => by omega))
  | succ d ih =>
    intro k i hi hk h1
    obtain ⟨k, rfl⟩ : ∃ m, k = m + 2 := ⟨k - 2, by omega⟩
    have hlt : i < l.length := by omega
    have l1 := by1_len l[i]
    have l2 := bts_len (l.take i)
    have l3 : (l.take i).length = i := by rw [List.length_take]; omega
    have s12 : sz l[i].f0 = 1 ∨ sz l[i].f0 = 2 := by unfold sz; split <;> omega
    rw [lockgatelaw02_InsnCut.l0, rdT l i hlt, w64u (by omega)]
    have e : wrap64 (((bts (l.take i)).length : Int) + wrap64 (8 * sz l[i].f0)) = (((bts (l.take (i + 1))).length : Nat) : Int) := by
      rw [w64k (n := 8 * sz l[i].f0) (by omega)]
      have e2 : bts (l.take (i + 1)) = bts (l.take i) ++ by1 l[i] := by
        rw [← take_succ' l i hlt]; unfold bts; rw [List.flatMap_append, List.flatMap_singleton]
      rw [e2, List.length_append]
      unfold wrap64; omega
    refine ift (by omega) (ift (by omega) (bs (size_f _ _ _ _ _) ?_))
    rw [e]
    by_cases hcc : (bts (l.take (i + 1))).length ≤ cut
    · refine ift (by omega) (bs (size_f _ _ _ _ _) ?_)
      rw [e]
      exact ih (k + 1) (i + 1) (by omega) (by omega) hcc
    · refine ife (by omega) ?_
      exact j1_f l hl hx cut hc k i (by omega) (by omega) h1 (fun _ => by omega)
theorem law (k : Nat) (hk : 10000 ≤ k) (l : List S40) (a : Int) (hi : ∀ x ∈ l, i64 x.f4) : lockgatelaw02_InsnCut.f k l a = some true := by
  have kn := works_f k (by omega)
  unfold lockgatelaw02_InsnCut.f
  by_cases h : l.length > 400
  · exact ift (by omega) (bs kn rfl)
  · refine ife (by omega) (bs (put_f k (by omega) l (by omega)) ?_)
    by_cases h2 : l.length > 256
    · rw [if_pos h2]; exact ife (by decide) (bs kn rfl)
    · rw [if_neg h2]
      obtain ⟨p1, p2⟩ := put_ok l []
      by_cases h3 : (put l []).2 = 0
      · obtain ⟨q1, q2⟩ := p1 h3
        refine ift h3 ?_
        rw [q2, List.nil_append]
        have hb := bts_len l
        obtain ⟨c, hc, hcl⟩ := pick_f a ((bts l).length + 1) (by omega) (by omega)
        rw [show wrap64 (((bts l).length : Int) + 1) = (((bts l).length + 1 : Nat) : Int) by rw [wk (by omega)]; omega]
        refine bs hc ?_
        exact cut_l l (by omega) (fun x hx => ⟨q1 x hx, hi x hx⟩) c (by omega) l.length k 0 (by omega) (by omega) (by simp [bts])
      · exact ife h3 (bs kn rfl)
theorem i64_wf {n : Int} (h : (Lit.int .i64 n).wf = true) : i64 n := by
  obtain ⟨v, hv⟩ := exS h
  have h1 := S_ge v
  have h2 := S_lt v
  unfold i64; omega
theorem pure (l0 : List S40) (a1 : Int) (hm : l0.length ≤ maxLen) (hw : ∀ x ∈ l0, (Lit.int .i64 x.f0).wf = true ∧ (Lit.int .i64 x.f1).wf = true ∧ (Lit.int .i64 x.f2).wf = true ∧ (Lit.int .i64 x.f3).wf = true ∧ (Lit.int .i64 x.f4).wf = true) (w1 : (Lit.int .i64 a1).wf = true) :
    ∃ k, lockgatelaw02_InsnCut.f k l0 a1 = some true := ⟨10000, law 10000 (by omega) l0 a1 (fun x hx => i64_wf (hw x hx).2.2.2.2)⟩
end Go.Proofs.Yticijjonimiooaa.LInsnCut
end
section
/- InsnKnown, without Go: it calls the others, which are true. -/
namespace Go.Proofs.Yticijjonimiooaa.LInsnKnown
open Go.RowKit Go.Proofs.YticijjonimiooaaW.PrintWords Go.Proofs.YticijjonimiooaaW.PrintLast Go.Proofs.YticijjonimiooaaW.PrintMore Go.Proofs.Yticijjonimiooaa.PA Go.Proofs.Yticijjonimiooaa.Bv Go.Proofs.Yticijjonimiooaa.C02 Go.Proofs.Yticijjonimiooaa.LInsnBack Go.Proofs.Yticijjonimiooaa.LInsnGets
theorem bw {x : Int} : isB (x % 256) := by unfold isB; omega
theorem gets (k : Nat) (hk : 300000 ≤ k) (l : List Int) (hB : ∀ x ∈ l, isB x) : lockgatelaw02_InsnGets.f k l = some true := LInsnGets.law k hk l hB
theorem l4_f (d : Nat) : ∀ (k i : Nat) (acc : List Int), i + d = 2056 → acc.length = i → (∀ x ∈ acc, isB x) → d + 300001 ≤ k → lockgatelaw02_InsnKnown.l4 k acc (i : Int) = some true := by
  induction d with
  | zero =>
    intro k i acc hi ha hB hk
    obtain ⟨k, rfl⟩ : ∃ m, k = m + 1 := ⟨k - 1, by omega⟩
    rw [lockgatelaw02_InsnKnown.l4]
    refine ife (by omega) (bs (gets k (by omega) acc hB) (ift rfl (ift (by omega) (bs (gets k (by omega) _ (fun x hx => hB x (List.mem_of_mem_take hx))) (ift rfl (ift (by omega) (bs (gets k (by omega) _ (fun x hx => hB x (List.mem_of_mem_take hx))) (ift rfl (bs (works_f k (by omega)) rfl)))))))))
  | succ d ih =>
    intro k i acc hi ha hB hk
    obtain ⟨k, rfl⟩ : ∃ m, k = m + 1 := ⟨k - 1, by omega⟩
    rw [lockgatelaw02_InsnKnown.l4, wk (x := (i : Int) + 1) (by omega)]
    have t1 : Int.tmod (i : Int) 8 = ((i % 8 : Nat) : Int) := by rw [Int.tmod_eq_emod_of_nonneg (by omega)]; omega
    have hb : ∀ j, j < 8 → isB (rd ([149, 0, 0, 0, 0, 0, 0, 0] : List Int) (j : Nat)) := by
      intro j hj
      have : j = 0 ∨ j = 1 ∨ j = 2 ∨ j = 3 ∨ j = 4 ∨ j = 5 ∨ j = 6 ∨ j = 7 := by omega
      rcases this with rfl | rfl | rfl | rfl | rfl | rfl | rfl | rfl <;> (unfold isB; decide)
    rw [t1]
    refine ift (by omega) (bs rfl (ift (by omega) (ift ?_ (ift (by omega) ?_))))
    · show ((i % 8 : Nat) : Int) < 8; omega
    · refine ih k (i + 1) _ (by omega) (by rw [List.length_append, List.length_singleton]; omega) (fun x hx => ?_) (by omega)
      rcases List.mem_append.mp hx with hx | hx
      · exact hB x hx
      · rw [List.mem_singleton.mp hx]; exact hb _ (by omega)
theorem l3_f (d : Nat) : ∀ (k i : Nat) (acc : List S40), i + d = 258 → acc.length = i → (∀ x ∈ acc, i64 x.f4) → d + 310000 ≤ k → lockgatelaw02_InsnKnown.l3 k acc (i : Int) = some true := by
  induction d with
  | zero =>
    intro k i acc hi ha hB hk
    obtain ⟨k, rfl⟩ : ∃ m, k = m + 1 := ⟨k - 1, by omega⟩
    rw [lockgatelaw02_InsnKnown.l3]
    exact ife (by omega) (l4_f 2056 k 0 [] (by omega) rfl (by simp) (by omega))
  | succ d ih =>
    intro k i acc hi ha hB hk
    obtain ⟨k, rfl⟩ : ∃ m, k = m + 1 := ⟨k - 1, by omega⟩
    rw [lockgatelaw02_InsnKnown.l3, wk (x := (i : Int) + 1) (by omega)]
    have hB2 : ∀ x ∈ acc ++ [(⟨183, Int.tmod (i : Int) 10, 0, 0, (i : Int)⟩ : S40)], i64 x.f4 := fun x hx => by
      rcases List.mem_append.mp hx with hx | hx
      · exact hB x hx
      · rw [List.mem_singleton.mp hx]; show i64 (i : Int); unfold i64; omega
    have hl2 : (acc ++ [(⟨183, Int.tmod (i : Int) 10, 0, 0, (i : Int)⟩ : S40)]).length = i + 1 := by rw [List.length_append, List.length_singleton, ha]
    refine ift (by omega) (ift (by omega) (bs rfl ?_))
    generalize acc ++ [(⟨183, Int.tmod (i : Int) 10, 0, 0, (i : Int)⟩ : S40)] = y at hB2 hl2
    have nx := ih k (i + 1) y (by omega) hl2 hB2 (by omega)
    rw [show (((i + 1 : Nat)) : Int) = (i : Int) + 1 by omega] at nx
    by_cases h : (i : Int) > 253
    · exact ift h (bs (LInsnPuts.law k (by omega) y) (ift rfl (bs (LInsnBack.law k (by omega) y hB2) (ift rfl (bs (LInsnCut.law k (by omega) y _ hB2) (ift rfl nx))))))
    · exact ife h nx
theorem l12_f (x1 x3 : List Int) (h1 : x1.length ≤ 100) (h3 : x3.length ≤ 100) (d : Nat) : ∀ (k i : Nat), i + d = x3.length → 200 * d + 320000 ≤ k → lockgatelaw02_InsnKnown.l1 k x1 x3 (i : Int) = some true := by
  induction d with
  | zero =>
    intro k i hi hk
    obtain ⟨k, rfl⟩ : ∃ m, k = m + 1 := ⟨k - 1, by omega⟩
    rw [lockgatelaw02_InsnKnown.l1]
    exact ife (by omega) (l3_f 258 k 0 [] (by omega) rfl (by simp) (by omega))
  | succ d ih =>
    intro k i hi hk
    obtain ⟨k, rfl⟩ : ∃ m, k = m + 1 := ⟨k - 1, by omega⟩
    rw [lockgatelaw02_InsnKnown.l1]
    refine ift (by omega) ?_
    have inner : ∀ (e k j : Nat), j + e = x1.length → e + 200 * d + 320001 ≤ k → lockgatelaw02_InsnKnown.l2 k x1 x3 (i : Int) (j : Int) = some true := by
      intro e
      induction e with
      | zero =>
        intro k j hj hk
        obtain ⟨k, rfl⟩ : ∃ m, k = m + 1 := ⟨k - 1, by omega⟩
        rw [lockgatelaw02_InsnKnown.l2, wk (x := (i : Int) + 1) (by omega)]
        refine ife (by omega) ?_
        rw [show (i : Int) + 1 = ((i + 1 : Nat) : Int) by omega]
        exact ih k (i + 1) (by omega) (by omega)
      | succ e ihe =>
        intro k j hj hk
        obtain ⟨k, rfl⟩ : ∃ m, k = m + 1 := ⟨k - 1, by omega⟩
        rw [lockgatelaw02_InsnKnown.l2, wk (x := (j : Int) + 1) (by omega)]
        have c (op d s o i : Int) : lockgatelaw02_InsnChecks.f k op d s o i = some true := LInsnChecks.law k (by omega) op d s o i
        refine ift (by omega) (ift (by omega) (ift (by omega) (ift (by omega) (bs (c _ _ _ _ _) (ift rfl (bs (c _ _ _ _ _) (ift rfl (bs (c _ _ _ _ _) (ift rfl (bs (c _ _ _ _ _) (ift rfl (bs (c _ _ _ _ _) (ift rfl (bs (LInsnPuts.law k (by omega) _) (ift rfl ?_)))))))))))))))
        rw [show (j : Int) + 1 = ((j + 1 : Nat) : Int) by omega]
        exact ihe k (j + 1) (by omega) (by omega)
    exact inner x1.length k 0 (by omega) (by omega)
theorem l0_f (x1 : List Int) (h1 : x1.length ≤ 100) (d : Nat) : ∀ (k : Nat) (i : Int), i + d = 257 → -1 ≤ i → d + 330000 ≤ k → lockgatelaw02_InsnKnown.l0 k x1 i = some true := by
  induction d with
  | zero =>
    intro k i hi h0 hk
    obtain ⟨k, rfl⟩ : ∃ m, k = m + 1 := ⟨k - 1, by omega⟩
    rw [lockgatelaw02_InsnKnown.l0]
    exact ife (by omega) (l12_f x1 _ h1 (by simp) 16 k 0 (by simp) (by omega))
  | succ d ih =>
    intro k i hi h0 hk
    obtain ⟨k, rfl⟩ : ∃ m, k = m + 1 := ⟨k - 1, by omega⟩
    rw [lockgatelaw02_InsnKnown.l0, wk (x := i + 1) (by omega)]
    have c (op d s o i : Int) : lockgatelaw02_InsnChecks.f k op d s o i = some true := LInsnChecks.law k (by omega) op d s o i
    have g1 : ∀ x ∈ ([i % 256, 33, 1, 0, 3, 0, 0, 0] : List Int), isB x := by
      have := bw (x := i)
      simp only [List.mem_cons, List.not_mem_nil, or_false]
      rintro x (rfl | rfl | rfl | rfl | rfl | rfl | rfl | rfl) <;> first | exact this | (unfold isB; omega)
    have g2 : ∀ x ∈ ([i % 256, 1, 0, 0, 32, 0, 0, 0, 0, 0, 0, 0, 0, 0, 0, 128] : List Int), isB x := by
      have := bw (x := i)
      simp only [List.mem_cons, List.not_mem_nil, or_false]
      rintro x (rfl | rfl | rfl | rfl | rfl | rfl | rfl | rfl | rfl | rfl | rfl | rfl | rfl | rfl | rfl | rfl) <;> first | exact this | (unfold isB; omega)
    exact ift (by omega) (bs (c _ _ _ _ _) (ift rfl (bs (c _ _ _ _ _) (ift rfl (bs (c _ _ _ _ _) (ift rfl (bs (c _ _ _ _ _) (ift rfl (bs (c _ _ _ _ _) (ift rfl (bs (gets k (by omega) _ g1) (ift rfl (bs (gets k (by omega) _ g2) (ift rfl (ih k (i + 1) (by omega) (by omega) (by omega))))))))))))))))
theorem pure : ∃ k, lockgatelaw02_InsnKnown.f k = some true := ⟨340000, l0_f _ (by simp) 258 340000 (-1) (by omega) (by omega) (by omega)⟩
end Go.Proofs.Yticijjonimiooaa.LInsnKnown
end
