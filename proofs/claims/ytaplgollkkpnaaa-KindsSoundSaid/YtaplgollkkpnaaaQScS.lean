/- Layer 5: what the functions about sets of numbers come to, as contracts. -/
import Derived.Test.YtaplgollkkpnaaaQScB
import Derived.Test.YtaplgollkkpnaaaQScK
import Derived.Test.YtaplgollkkpnaaaBit
namespace Go.Proofs.Ytaplgollkkpnaaa.ScS
open Go Go.RowKit Go.Proofs Go.Proofs.Ytaplgollkkpnaaa.Xc Go.Proofs.Ytaplgollkkpnaaa.Sc Go.Proofs.Ytaplgollkkpnaaa.ScB Go.Proofs.Ytaplgollkkpnaaa.ScK Go.Proofs.Ytaplgollkkpnaaa.Bv
set_option linter.unusedVariables false
set_option linter.unusedSimpArgs false
abbrev aN (x y : Int) : Int := Go.bits .andNot .u64 x y
theorem mn (a b : Int) : (if b < a then b else a) = min a b := by split <;> omega
theorem mx (a b : Int) : (if b > a then b else a) = max a b := by split <;> omega
theorem bcond (p q : Bool) : (bif p then q else false) = (p && q) := by cases p <;> rfl
/-- A number is one of them. -/
def inB (a b c d e f v : Int) : Bool := decide (aN v b = a ∧ c ≤ v ∧ v ≤ d ∧ e ≤ IntKind.i64.wrap v ∧ IntKind.i64.wrap v ≤ f)
def wiB (a b c d e f a' b' c' d' e' f' : Int) : Bool := decide (aN b b' = 0 ∧ aN a b' = a' ∧ c' ≤ c ∧ d ≤ d' ∧ e' ≤ e ∧ f ≤ f')
theorem oIn (a b c d e f v : Int) : nIn a b c d e f v (· = .bool (inB a b c d e f v)) := by
  rw [nIn_eq]; (repeat (first | refine ob_self ?_ | refine ob_true ?_ | (refine nm_intro ?_; intro _ _))); subst_vars
  refine congrArg Value.bool (Bool.eq_iff_iff.2 ?_)
  simp only [inB, bcond, Bool.and_eq_true, decide_eq_true_eq, beq_iff_eq, and_assoc, aN]
/-- Bits. -/
theorem aN_idem (a b : Int) : aN (aN a b) b = aN a b := by
  simp only [aN, b_andNot, ofInt_U]; congr 1
  generalize BitVec.ofInt 64 a = a; generalize BitVec.ofInt 64 b = b
  (apply BitVec.eq_of_getLsbD_eq; intro i hi; simp only [BitVec.getLsbD_and, BitVec.getLsbD_or, BitVec.getLsbD_xor, BitVec.getLsbD_not, BitVec.getLsbD_zero, hi, decide_true, Bool.true_and]); cases a.getLsbD i <;> cases b.getLsbD i <;> rfl
/-- x has no bit of y. -/
def ap (x y : Int) : Prop := aN x y = x
structure WP (a b c d e f v : Int) : Prop where
  t : aN v b = a
  m : ap a b
  u1 : c ≤ v
  u2 : v ≤ d
  s1 : e ≤ IntKind.i64.wrap v
  s2 : IntKind.i64.wrap v ≤ f
structure MP (a b c d e f : Int) : Prop where
  m : ap a b
  u : c ≤ d
  s : e ≤ f
/-- The least bits that have both. -/
structure JP (a b a' b' v m : Int) : Prop where
  m1 : aN b m = 0
  v1 : aN a m = v
  m2 : aN b' m = 0
  v2 : aN a' m = v
def upm (n : Int) : Int := if n ≥ 8 then 18446744073709551615 else if n < 1 then 0 else 2 ^ (8 * n).toNat - 1
def upl (n : Int) : Int := if n ≥ 8 then -9223372036854775808 else 0
def uph (n : Int) : Int := if n ≥ 8 then 9223372036854775807 else upm n
theorem oUpto (n : Int) : nUpto n (· = Sc 0 (upm n) 0 (upm n) (upl n) (uph n)) := by
  rw [nUpto_eq]
  refine br_cases (fun h => ?_) (fun h => br_cases (fun h2 => ?_) (fun h2 => ?_))
  · have h := of_decide_eq_true h
    simp only [upm, upl, uph, if_pos h]
  · have h := of_decide_eq_false h
    have h2 := of_decide_eq_true h2
    simp only [upm, upl, uph, if_neg h, if_pos h2]
  · have h := of_decide_eq_false h
    have h2 := of_decide_eq_false h2
    have : n = 1 ∨ n = 2 ∨ n = 3 ∨ n = 4 ∨ n = 5 ∨ n = 6 ∨ n = 7 := by omega
    rcases this with rfl | rfl | rfl | rfl | rfl | rfl | rfl <;> exact ⟨fun _ => by decide, by kernel_rfl⟩
end Go.Proofs.Ytaplgollkkpnaaa.ScS
