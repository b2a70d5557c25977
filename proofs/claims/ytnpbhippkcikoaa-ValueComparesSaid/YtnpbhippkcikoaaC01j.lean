/- Layer 1's jumps: the program's and the reference's. -/
import Derived.Test.YtnpbhippkcikoaaC01b
import Derived.Test.YtnpbhippkcikoaaPA8
import Derived.Test.YtnpbhippkcikoaaPA16
import Derived.Test.YtnpbhippkcikoaaPA17
set_option linter.unusedVariables false
set_option linter.unusedSimpArgs false
set_option linter.unusedSectionVars false
namespace Go.Proofs.Ytnpbhippkcikoaa.C01
open Go.RowKit Go.Proofs.YtnpbhippkcikoaaW.PrintWords Go.Proofs.YtnpbhippkcikoaaW.PrintLast Go.Proofs.YtnpbhippkcikoaaW.PrintMore Go.Proofs.Ytnpbhippkcikoaa.PA Go.Proofs.Ytnpbhippkcikoaa.Bv
def ordI (x y : Int) : Int := if x < y then -1 else if x > y then 1 else 0
theorem order64_f (x y : Int) : word_order_uint64.f x y = some (ordI x y) := by
  unfold word_order_uint64.f ordI; split <;> (try split) <;> rfl
theorem orderS_f (x y : Int) : word_order_int64.f x y = some (ordI x y) := by
  unfold word_order_int64.f ordI; split <;> (try split) <;> rfl
/-- the two numbers of a jump, without a sign and with one. -/
def jA (wide : Bool) (a : W) : W := if wide then a else up (lo a)
def jS (wide : Bool) (a : W) : Int := if wide then S a else (lo a).toInt
def jmp (op : Int) (wide : Bool) (a b : W) : Bool :=
  if op = 1 then ordI (U (jA wide a)) (U (jA wide b)) == 0 else if op = 5 then ordI (U (jA wide a)) (U (jA wide b)) != 0 else if op = 2 then decide (ordI (U (jA wide a)) (U (jA wide b)) > 0) else if op = 3 then decide (ordI (U (jA wide a)) (U (jA wide b)) ≥ 0)
  else if op = 10 then decide (ordI (U (jA wide a)) (U (jA wide b)) < 0) else if op = 11 then decide (ordI (U (jA wide a)) (U (jA wide b)) ≤ 0) else if op = 6 then decide (ordI (jS wide a) (jS wide b) > 0) else if op = 7 then decide (ordI (jS wide a) (jS wide b) ≥ 0)
  else if op = 12 then decide (ordI (jS wide a) (jS wide b) < 0) else if op = 13 then decide (ordI (jS wide a) (jS wide b) ≤ 0) else if op = 4 then jA wide a &&& jA wide b != 0 else false
def isJmp (op : Int) : Bool := decide (1 ≤ op ∧ op ≤ 13 ∧ op ≠ 8 ∧ op ≠ 9)
theorem ite_pair {c : Prop} [Decidable c] (x y : Bool) (p q : Bool) : (if c then some (x, p) else some (y, q)) = some (if c then x else y, if c then p else q) := by split <;> rfl
theorem U_bne (x : W) : (U x != 0) = (x != 0) := by
  rw [Bool.eq_iff_iff, bne_iff_ne, bne_iff_ne, ne_eq, ne_eq, U_eq_zero]
theorem isJ (op : Int) : (if op = 1 then true else if op = 5 then true else if op = 2 then true else if op = 3 then true else if op = 10 then true else if op = 11 then true else if op = 6 then true else if op = 7 then true else if op = 12 then true else if op = 13 then true else if op = 4 then true else false) = isJmp op := by
  unfold isJmp
  by_cases h : 1 ≤ op ∧ op ≤ 13
  · obtain ⟨h1, h2⟩ := h
    have : op = 1 ∨ op = 2 ∨ op = 3 ∨ op = 4 ∨ op = 5 ∨ op = 6 ∨ op = 7 ∨ op = 8 ∨ op = 9 ∨ op = 10 ∨ op = 11 ∨ op = 12 ∨ op = 13 := by omega
    rcases this with rfl | rfl | rfl | rfl | rfl | rfl | rfl | rfl | rfl | rfl | rfl | rfl | rfl <;> decide
  · rw [if_neg (by omega), if_neg (by omega), if_neg (by omega), if_neg (by omega), if_neg (by omega), if_neg (by omega), if_neg (by omega), if_neg (by omega), if_neg (by omega), if_neg (by omega), if_neg (by omega)]
    symm; rw [decide_eq_false_iff_not]; omega
theorem jump_f (k : Nat) (hk : 1 ≤ k) (op : Int) (wide : Bool) (a b : W) : word_Jump.f k op wide (U a) (U b) = some (jmp op wide a b, isJmp op) := by
  obtain ⟨k, rfl⟩ : ∃ m, k = m + 1 := ⟨k - 1, by omega⟩
  have hS : ∀ x : W, wrap64 (wrap32 (U x % 4294967296)) = (lo x).toInt := fun x => by
    rw [U_mod32, wrap32_V]
    have h1 := BitVec.le_toInt (lo x)
    have h2 := BitVec.toInt_lt (x := lo x)
    simp at h1 h2
    unfold wrap64; omega
  have key : ∀ x y : W, ∀ s t : Int, word_Jump.j0 (k + 1) op (U x) (U y) s t = some ((if op = 1 then ordI (U x) (U y) == 0 else if op = 5 then ordI (U x) (U y) != 0 else if op = 2 then decide (ordI (U x) (U y) > 0) else if op = 3 then decide (ordI (U x) (U y) ≥ 0)
      else if op = 10 then decide (ordI (U x) (U y) < 0) else if op = 11 then decide (ordI (U x) (U y) ≤ 0) else if op = 6 then decide (ordI s t > 0) else if op = 7 then decide (ordI s t ≥ 0)
      else if op = 12 then decide (ordI s t < 0) else if op = 13 then decide (ordI s t ≤ 0) else if op = 4 then x &&& y != 0 else false), isJmp op) := by
    intro x y s t
    rw [word_Jump.j0, order64_f, orderS_f]
    simp only [Option.bind_some, ite_pair, b_and, ofInt_U, U_bne, isJ]
  unfold word_Jump.f
  cases wide
  · rw [if_neg (by decide), hS, hS, U_mod32, U_mod32, ← U_up, ← U_up, key]; rfl
  · rw [if_pos rfl, wrap_i64, wrap_i64, ofInt_U, ofInt_U, key]; rfl
/-! the reference's order -/
theorem oj1_f (k : Nat) (hk : 1 ≤ k) (x y : Bool) : lockgateref01_order.j1 k x y = some (if (x ^^ y) then 1 else -1) := by
  obtain ⟨k, rfl⟩ : ∃ m, k = m + 1 := ⟨k - 1, by omega⟩
  rw [lockgateref01_order.j1]; cases x <;> cases y <;> rfl
theorem b1_cmp (x y : Bool) : (U (b1 x) = U (b1 y)) ↔ x = y := by cases x <;> cases y <;> decide
theorem b1_gt (x y : Bool) : (decide (U (b1 x) > U (b1 y))) = (x && !y) := by cases x <;> cases y <;> decide
theorem mod_succ (A n : Nat) : A % 2 ^ (n + 1) = A / 2 ^ n % 2 * 2 ^ n + A % 2 ^ n := by
  rw [Nat.pow_succ, Nat.mod_mul, Nat.mul_comm, Nat.add_comm]
theorem bit_dec (a : W) (n : Nat) : a.toNat / 2 ^ n % 2 = if a.getLsbD n then 1 else 0 := by
  rw [← b1_toNat, bit_nat]
theorem ordI_lt {x y : Int} (h : x < y) : ordI x y = -1 := if_pos h
theorem ordI_gt {x y : Int} (h : y < x) : ordI x y = 1 := by unfold ordI; rw [if_neg (by omega), if_pos h]
theorem ordI_add (x y c : Int) : ordI (c + x) (c + y) = ordI x y := by
  unfold ordI
  by_cases h : x < y
  · rw [if_pos h, if_pos (by omega)]
  · rw [if_neg h, if_neg (show ¬ c + x < c + y by omega)]
    by_cases h2 : x > y
    · rw [if_pos h2, if_pos (show c + x > c + y by omega)]
    · rw [if_neg h2, if_neg (show ¬ c + x > c + y by omega)]
theorem order_l (a b : W) (w : Nat) (sign : Bool) (hw : w ≤ 64) (n : Nat) : ∀ k, n ≤ w → (sign = false ∨ n < w) → 2 * n < k →
    lockgateref01_order.l0 k (U a) (U b) (w : Int) sign ((n : Int) - 1) = some (ordI ((a.toNat % 2 ^ n : Nat) : Int) ((b.toNat % 2 ^ n : Nat) : Int)) := by
  induction n with
  | zero =>
    intro k _ _ hk
    obtain ⟨k, rfl⟩ : ∃ m, k = m + 1 := ⟨k - 1, by omega⟩
    rw [lockgateref01_order.l0, if_neg (by omega), Nat.pow_zero, Nat.mod_one, Nat.mod_one]; rfl
  | succ n ih =>
    intro k hn hs hk
    obtain ⟨k, rfl⟩ : ∃ m, k = m + 1 := ⟨k - 1, by omega⟩
    have hi : ((n + 1 : Nat) : Int) - 1 = (n : Int) := by omega
    have ih' := ih k (by omega) (by omega) (by omega)
    have la := Nat.mod_lt a.toNat (Nat.two_pow_pos n)
    have lb := Nat.mod_lt b.toNat (Nat.two_pow_pos n)
    rw [hi, lockgateref01_order.l0, if_pos (by omega), bit_f a n (by omega), bit_f b n (by omega), i_pred n (by omega)]
    refine bs rfl (bs rfl ?_)
    rw [mod_succ a.toNat n, mod_succ b.toNat n, bit_dec, bit_dec]
    have e1 : ∀ z, lockgateref01_order.j1 k z ((n : Int) == wrap64 ((w : Int) - 1)) = lockgateref01_order.j1 k z ((n : Int) == wrap64 ((w : Int) - 1)) := fun _ => rfl
    by_cases h : U (b1 (a.getLsbD n)) = U (b1 (b.getLsbD n))
    · rw [if_pos h, ih']
      rw [b1_cmp] at h
      rw [h, Int.natCast_add, Int.natCast_add, ordI_add]
    · rw [if_neg h, b1_gt]
      rw [b1_cmp] at h
      have hc : (if sign = true then lockgateref01_order.j1 k (a.getLsbD n && !b.getLsbD n) ((n : Int) == wrap64 ((w : Int) - 1)) else lockgateref01_order.j1 k (a.getLsbD n && !b.getLsbD n) false) = some (if (a.getLsbD n && !b.getLsbD n) then 1 else -1) := by
        rcases hs with hs | hs
        · rw [hs, if_neg (by decide), oj1_f k (by omega), Bool.xor_false]
        · have e : ((n : Int) == wrap64 ((w : Int) - 1)) = false := by
            rw [beq_eq_false_iff_ne]; unfold wrap64; omega
          rw [e, ite_self, oj1_f k (by omega), Bool.xor_false]
      rw [hc]
      revert h
      cases a.getLsbD n <;> cases b.getLsbD n
      · intro h; exact absurd rfl h
      · intro _; rw [ordI_lt (by simp; omega)]; rfl
      · intro _; rw [ordI_gt (by simp; omega)]; rfl
      · intro h; exact absurd rfl h
/-- with a sign, of w bits. -/
def sg (w : Nat) (a : W) : Int := ((a.toNat % 2 ^ (w - 1) : Nat) : Int) - (if a.getLsbD (w - 1) then ((2 ^ (w - 1) : Nat) : Int) else 0)
theorem order_f (a b : W) (w : Nat) (h0 : 0 < w) (hw : w ≤ 64) (k : Nat) (hk : 200 ≤ k) (sign : Bool) : lockgateref01_order.f k (U a) (U b) (w : Int) sign = some (if sign then ordI (sg w a) (sg w b) else ordI ((a.toNat % 2 ^ w : Nat) : Int) ((b.toNat % 2 ^ w : Nat) : Int)) := by
  have hp : wrap64 ((w : Int) - 1) = (w : Int) - 1 := by unfold wrap64; omega
  rw [lockgateref01_order.f, hp]
  cases sign
  · exact order_l a b w false hw w k (by omega) (.inl rfl) (by omega)
  · obtain ⟨n, rfl⟩ : ∃ m, w = m + 1 := ⟨w - 1, by omega⟩
    obtain ⟨k, rfl⟩ : ∃ m, k = m + 1 := ⟨k - 1, by omega⟩
    have hi : ((n + 1 : Nat) : Int) - 1 = (n : Int) := by omega
    have la := Nat.mod_lt a.toNat (Nat.two_pow_pos n)
    have lb := Nat.mod_lt b.toNat (Nat.two_pow_pos n)
    have ih' := order_l a b (n + 1) true hw n k (by omega) (.inr (by omega)) (by omega)
    rw [lockgateref01_order.l0, hi, if_pos (by omega), bit_f a n (by omega), bit_f b n (by omega), i_pred n (by omega)]
    refine bs rfl (bs rfl ?_)
    unfold sg
    rw [Nat.add_sub_cancel]
    by_cases h : U (b1 (a.getLsbD n)) = U (b1 (b.getLsbD n))
    · rw [if_pos h, ih']
      rw [b1_cmp] at h
      rw [h, if_pos rfl]
      congr 1
      generalize (if b.getLsbD n = true then ((2 ^ n : Nat) : Int) else 0) = c
      rw [Int.sub_eq_add_neg, Int.sub_eq_add_neg, Int.add_comm _ (-c), Int.add_comm _ (-c), ordI_add]
    · rw [if_neg h, b1_gt, if_pos rfl, if_pos rfl]
      rw [b1_cmp] at h
      have e : ((n : Int) == wrap64 (n : Int)) = true := by rw [beq_iff_eq]; unfold wrap64; omega
      rw [e, oj1_f k (by omega), Bool.xor_true]
      revert h
      cases a.getLsbD n <;> cases b.getLsbD n
      · intro h; exact absurd rfl h
      · intro _; rw [ordI_gt (by simp; omega)]; rfl
      · intro _; rw [ordI_lt (by simp; omega)]; rfl
      · intro h; exact absurd rfl h
/-! the reference's Jump -/
theorem sg_wide (a : W) : sg 64 a = S a := by
  unfold sg S
  rw [BitVec.toInt_eq_toNat_cond, ← BitVec.msb_eq_getLsbD_last, BitVec.msb_eq_decide]
  have := a.isLt
  simp only [show (64 - 1 : Nat) = 63 from rfl]
  by_cases h : 2 ^ 63 ≤ a.toNat
  · rw [decide_eq_true h, if_pos rfl, if_neg (by omega)]; omega
  · rw [decide_eq_false h, if_neg (by decide), if_pos (by omega)]; omega
theorem sg_narrow (a : W) : sg 32 (up (lo a)) = (lo a).toInt := by
  unfold sg
  rw [BitVec.toInt_eq_toNat_cond, up_bit, up_toNat]
  have e : (lo a).getLsbD (32 - 1) = decide (2 ^ 31 ≤ (lo a).toNat) := by rw [← BitVec.msb_eq_getLsbD_last, BitVec.msb_eq_decide]
  have := (lo a).isLt
  rw [e]
  simp only [show (32 - 1 : Nat) = 31 from rfl, show (31 < 64) = True by simp, decide_true, Bool.true_and]
  by_cases h : 2 ^ 31 ≤ (lo a).toNat
  · rw [decide_eq_true h, if_pos rfl, if_neg (by omega)]; omega
  · rw [decide_eq_false h, if_neg (by decide), if_pos (by omega)]; omega
theorem and_gt (x y : W) : decide (U (x &&& y) > 0) = (x &&& y != 0) := by
  rw [Bool.eq_iff_iff, decide_eq_true_iff, bne_iff_ne]
  have h1 := U_eq_zero (x &&& y)
  have h2 := U_nonneg (x &&& y)
  constructor
  · intro h e; have := h1.2 e; omega
  · intro h; have : ¬ U (x &&& y) = 0 := fun e => h (h1.1 e); omega
theorem rj0_f (k : Nat) (hk : 210 ≤ k) (op : Int) (wide : Bool) (a b : W) : lockgateref01_Jump.j0 k op (U a) (U b) (if wide then 64 else 32) = some (jmp op wide a b, isJmp op) := by
  obtain ⟨k, rfl⟩ : ∃ m, k = m + 1 := ⟨k - 1, by omega⟩
  have hl : ∀ x, lockgateref01_Low.f (U x) (if wide then 64 else 32) = some (U (jA wide x)) := fun x => by
    cases wide
    · exact low32_f x
    · exact low64_f x
  have hU : ∀ x y, lockgateref01_order.f k (U (jA wide x)) (U (jA wide y)) (if wide then 64 else 32) false = some (ordI (U (jA wide x)) (U (jA wide y))) := fun x y => by
    cases wide
    · have := order_f (up (lo x)) (up (lo y)) 32 (by decide) (by decide) k (by omega) false
      rw [if_neg (by decide), Nat.mod_eq_of_lt (by rw [up_toNat]; exact (lo x).isLt), Nat.mod_eq_of_lt (by rw [up_toNat]; exact (lo y).isLt)] at this
      exact this
    · have := order_f x y 64 (by decide) (by decide) k (by omega) false
      rw [if_neg (by decide), Nat.mod_eq_of_lt x.isLt, Nat.mod_eq_of_lt y.isLt] at this
      exact this
  have hS : ∀ x y, lockgateref01_order.f k (U (jA wide x)) (U (jA wide y)) (if wide then 64 else 32) true = some (ordI (jS wide x) (jS wide y)) := fun x y => by
    cases wide
    · have := order_f (up (lo x)) (up (lo y)) 32 (by decide) (by decide) k (by omega) true
      rw [if_pos rfl, sg_narrow, sg_narrow] at this
      exact this
    · have := order_f x y 64 (by decide) (by decide) k (by omega) true
      rw [if_pos rfl, sg_wide, sg_wide] at this
      exact this
  rw [lockgateref01_Jump.j0, hl, hl]
  refine bs rfl (bs rfl ?_)
  rw [hU, hS]
  refine bs rfl (bs rfl ?_)
  rw [bits_f k (by omega) 5 (by decide)]
  have e5 : aluW 5 (jA wide a) (jA wide b) = jA wide a &&& jA wide b := by simp [aluW]
  rw [e5]
  simp only [Option.bind_some, and_gt]
  unfold jmp
  by_cases h : 1 ≤ op ∧ op ≤ 13
  · obtain ⟨h1, h2⟩ := h
    have : op = 1 ∨ op = 2 ∨ op = 3 ∨ op = 4 ∨ op = 5 ∨ op = 6 ∨ op = 7 ∨ op = 8 ∨ op = 9 ∨ op = 10 ∨ op = 11 ∨ op = 12 ∨ op = 13 := by omega
    rcases this with rfl | rfl | rfl | rfl | rfl | rfl | rfl | rfl | rfl | rfl | rfl | rfl | rfl <;> rfl
  · rw [if_neg (by omega), if_neg (by omega), if_neg (by omega), if_neg (by omega), if_neg (by omega), if_neg (by omega), if_neg (by omega), if_neg (by omega), if_neg (by omega), if_neg (by omega), if_neg (by omega)]
    rw [if_neg (by omega), if_neg (by omega), if_neg (by omega), if_neg (by omega), if_neg (by omega), if_neg (by omega), if_neg (by omega), if_neg (by omega), if_neg (by omega), if_neg (by omega), if_neg (by omega)]
    rw [show isJmp op = false by unfold isJmp; rw [decide_eq_false_iff_not]; omega]
theorem rjump_f (k : Nat) (hk : 210 ≤ k) (op : Int) (wide : Bool) (a b : W) : lockgateref01_Jump.f k op wide (U a) (U b) = some (jmp op wide a b, isJmp op) := by
  have h := rj0_f k hk op wide a b
  rw [lockgateref01_Jump.f]
  cases wide
  · rw [if_neg (by decide)]; exact h
  · rw [if_pos rfl]; exact h
end Go.Proofs.Ytnpbhippkcikoaa.C01
