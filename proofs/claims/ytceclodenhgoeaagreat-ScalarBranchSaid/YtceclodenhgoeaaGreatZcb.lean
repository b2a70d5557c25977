/- Layer 5, against the reference: its loops of order and bits. -/
import Derived.Test.YtceclodenhgoeaaGreatZca
import Derived.Test.YtceclodenhgoeaaGreatZbg
namespace Go.Proofs.YtceclodenhgoeaaGreat.Zcb
open Go Go.RowKit Go.Proofs Go.Proofs.YtceclodenhgoeaaGreat.Xc Go.Proofs.YtceclodenhgoeaaGreat.Zs Go.Proofs.YtceclodenhgoeaaGreat.Zu Go.Proofs.YtceclodenhgoeaaGreat.Zv Go.Proofs.YtceclodenhgoeaaGreat.Zo Go.Proofs.YtceclodenhgoeaaGreat.Zba Go.Proofs.YtceclodenhgoeaaGreat.Zbe Go.Proofs.YtceclodenhgoeaaGreat.Zbg Go.Proofs.YtceclodenhgoeaaGreat.Zca Go.Proofs.YtceclodenhgoeaaGreat.Bv
set_option linter.unusedVariables false
set_option linter.unusedSimpArgs false
theorem wn {j : Nat} (hj : j < 64) : IntKind.wrap .u64 (j : Int) = j := by rw [uW]; omega
theorem isw (v : Int) : IntKind.wrap .i64 v = (v + 9223372036854775808) % 18446744073709551616 - 9223372036854775808 := by
  simp [IntKind.wrap, IntKind.signed, IntKind.bits]; split <;> omega
theorem nxi {j : Nat} (hj : j < 64) : IntKind.wrap .i64 ((j : Int) + 1) = ((j + 1 : Nat) : Int) := by rw [isw]; omega
theorem pvi {j : Nat} (hj : j < 64) : IntKind.wrap .i64 ((j : Int) - 1) = (j : Int) - 1 := by rw [isw]; omega
theorem s2 (x y : Bool) : (IntKind.wrap .u64 (bt x + bt y) == 2) = (x && y) := by cases x <;> cases y <;> decide
theorem rdB (A B : W) {j : Nat} (hj : j < 64) {K : Exit → St → Prop} (h : K .normal (SB 5 (U A) (U B) (U (low (j + 1) (A &&& B))) (j + 1 : Nat))) : nRb (U A) (U B) (U (low j (A &&& B))) j K := by
  rw [nRb_eq]
  refine br_yes (decide_eq_true (by omega)) ?_
  simp only [wn hj, tb hj, hz, s2]
  repeat (first | with_reducible refine ob_self ?_ | with_reducible refine ob_true ?_ | ((with_reducible refine nm_intro ?_); intro r hr; subst hr) | exact fun e => by cases e)
  have e2 : (A &&& B).getLsbD j = (A.getLsbD j && B.getLsbD j) := BitVec.getLsbD_and
  have e3 : (bif (bif (bif (5 : Int) == 4 then decide (IntKind.wrap .u64 (bt (A.getLsbD j) + bt (B.getLsbD j)) > 0) else false) then true else bif (5 : Int) == 5 then A.getLsbD j && B.getLsbD j else false) then true else bif (5 : Int) == 10 then IntKind.wrap .u64 (bt (A.getLsbD j) + bt (B.getLsbD j)) == 1 else false) = (A &&& B).getLsbD j := by
    rw [e2]; cases (A.getLsbD j && B.getLsbD j) <;> rfl
  refine br_cases (fun q => ?_) (fun q => ?_)
  · have q : (A &&& B).getLsbD j = true := e3 ▸ q
    repeat (first | with_reducible refine ob_self ?_ | with_reducible refine ob_true ?_)
    rw [up1 hj _ q, nxi hj]; exact h
  · have q : (A &&& B).getLsbD j = false := e3 ▸ q
    rw [low_no _ q] at h
    rw [nxi hj]; exact h
theorem rdB' (A B : W) (o : Int) {K : Exit → St → Prop} (h : K (.exit 0) (SB 5 (U A) (U B) o (64 : Nat))) : nRb (U A) (U B) o (64 : Nat) K := by
  rw [nRb_eq]; exact br_no (decide_eq_false (by omega)) h
theorem btg (x y : Bool) : decide (bt x > bt y) = (x && !y) := by cases x <;> cases y <;> decide
theorem bteq (x y : Bool) : (bt x == bt y) = (x == y) := by cases x <;> cases y <;> rfl
/-- one bit of both, from above: the first that differs tells. -/
def tp (w : Int) (sg : Bool) (j : Nat) : Bool := sg && ((j : Int) == IntKind.wrap .i64 (w - 1))
theorem rdO (A B : W) (w : Int) (sg : Bool) {j : Nat} (hj : j < 64) {K : Exit → St → Prop} (h0 : A.getLsbD j = B.getLsbD j → K .normal (SO (U A) (U B) w sg 0 ((j : Int) - 1)))
    (h1 : A.getLsbD j ≠ B.getLsbD j → K .ret (SO (U A) (U B) w sg (if (A.getLsbD j != tp w sg j) = true then 1 else -1) j)) : nRo (U A) (U B) w sg j K := by
  rw [nRo_eq]
  refine br_yes (decide_eq_true (by omega)) ?_
  simp only [wn hj, tb hj, hz, btg, bteq]
  repeat (first | with_reducible refine ob_self ?_ | with_reducible refine ob_true ?_)
  refine br_cases (fun q => ?_) (fun q => ?_)
  · rw [pvi hj]; exact h0 (eq_of_beq q)
  · have q := beq_eq_false_iff_ne.1 q
    have h1 := h1 q
    repeat (first | with_reducible refine ob_self ?_ | with_reducible refine ob_true ?_)
    refine nm_intro fun r hr => ?_
    have e : tp w sg j = r := by unfold tp; rw [hr]; cases sg <;> rfl
    rw [e] at h1
    revert q h1
    cases r <;> cases A.getLsbD j <;> cases B.getLsbD j <;> intro q h1 <;> first | exact absurd rfl q | exact h1
theorem rdO' (a b w : Int) (sg : Bool) {K : Exit → St → Prop} (h : K (.exit 0) (SO a b w sg 0 (-1))) : nRo a b w sg (-1) K := by
  rw [nRo_eq]; exact br_no (decide_eq_false (by omega)) h
theorem cmpbit {a b j : Nat} (h : a / 2 ^ (j + 1) = b / 2 ^ (j + 1)) (ha : a.testBit j = true) (hb : b.testBit j = false) : b < a := by
  rw [Nat.testBit_eq_decide_div_mod_eq] at ha hb
  rw [Nat.pow_succ, ← Nat.div_div_eq_div_mul, ← Nat.div_div_eq_div_mul] at h
  have ha := of_decide_eq_true ha
  have hb := of_decide_eq_false hb
  have h2 : b / 2 ^ j < a / 2 ^ j := by omega
  exact Nat.lt_of_div_lt_div h2
def sgw (w a : Int) : Int := if w = 64 then (if a < 9223372036854775808 then a else a - 18446744073709551616) else (if a < 2147483648 then a else a - 4294967296)
def odw (w : Int) (sg : Bool) (a b : Int) : Int := bif sg then od (sgw w a) (sgw w b) else od a b
structure Ow (w a b : Int) : Prop where
  hw : w = 64 ∨ w = 32
  ua : u6 a
  ub : u6 b
  al : w = 32 → a < 4294967296
  bl : w = 32 → b < 4294967296
theorem od_lt {a b : Int} (h : a < b) : od a b = -1 := by unfold od; rw [decide_eq_true h]; rfl
theorem od_gt {a b : Int} (h : b < a) : od a b = 1 := by unfold od; rw [decide_eq_false (show ¬ a < b by omega), decide_eq_true h]; rfl
theorem od_eq {a b : Int} (h : a = b) : od a b = 0 := by unfold od; rw [decide_eq_false (show ¬ a < b by omega), decide_eq_false (show ¬ a > b by omega)]; rfl
/-- What the first bit that differs tells. -/
theorem od_bit {w : Int} {sg : Bool} {A B : W} {j : Nat} (ho : Ow w (U A) (U B)) (hj : (j : Int) < w) (hh : A.toNat / 2 ^ (j + 1) = B.toNat / 2 ^ (j + 1)) (hne : A.getLsbD j ≠ B.getLsbD j) : odw w sg (U A) (U B) = if (A.getLsbD j != tp w sg j) = true then 1 else -1 := by
  have e64 : w = 64 → IntKind.wrap .i64 (w - 1) = 63 := fun h => by rw [h, isw]; omega
  have e32 : w = 32 → IntKind.wrap .i64 (w - 1) = 31 := fun h => by rw [h, isw]; omega
  have hA : A.getLsbD j = A.toNat.testBit j := rfl
  have hB : B.getLsbD j = B.toNat.testBit j := rfl
  have ha := ho.ua; have hb := ho.ub
  unfold u6 at ha hb
  have lt : U A < U B ∨ U B < U A := by
    unfold U
    cases h1 : A.getLsbD j <;> cases h2 : B.getLsbD j
    · rw [h1, h2] at hne; exact absurd rfl hne
    · have := cmpbit hh.symm (hB ▸ h2) (hA ▸ h1); left; omega
    · have := cmpbit hh (hA ▸ h1) (hB ▸ h2); right; omega
    · rw [h1, h2] at hne; exact absurd rfl hne
  have gt : A.getLsbD j = true → U B < U A := fun h1 => by
    have h2 : B.getLsbD j = false := by rw [h1] at hne; cases h : B.getLsbD j; rfl; rw [h] at hne; exact absurd rfl hne
    have := cmpbit hh (hA ▸ h1) (hB ▸ h2); unfold U; omega
  have ls : A.getLsbD j = false → U A < U B := fun h1 => by
    have h2 : B.getLsbD j = true := by rw [h1] at hne; cases h : B.getLsbD j; rw [h] at hne; exact absurd rfl hne; rfl
    have := cmpbit hh.symm (hB ▸ h2) (hA ▸ h1); unfold U; omega
  have ta : A.toNat.testBit j = decide (A.toNat / 2 ^ j % 2 = 1) := Nat.testBit_eq_decide_div_mod_eq
  have tb : B.toNat.testBit j = decide (B.toNat / 2 ^ j % 2 = 1) := Nat.testBit_eq_decide_div_mod_eq
  unfold odw tp
  cases sg with
  | false =>
    rw [Bool.false_and, Bool.bne_false]
    cases h1 : A.getLsbD j
    · rw [if_neg (by decide)]; exact od_lt (ls h1)
    · rw [if_pos rfl]; exact od_gt (gt h1)
  | true =>
    rw [Bool.true_and]
    show od (sgw w (U A)) (sgw w (U B)) = _
    rcases ho.hw with hw | hw
    · rw [e64 hw]
      by_cases h63 : j = 63
      · subst h63
        have ea : A.getLsbD 63 = decide (9223372036854775808 ≤ U A) := by rw [hA, ta]; unfold U at *; congr 1; simp only [eq_iff_iff]; omega
        have eb : B.getLsbD 63 = decide (9223372036854775808 ≤ U B) := by rw [hB, tb]; unfold U at *; congr 1; simp only [eq_iff_iff]; omega
        cases h1 : A.getLsbD 63
        · have h2 := ls h1
          rw [h1] at hne
          have h3 : B.getLsbD 63 = true := by cases h : B.getLsbD 63; rw [h] at hne; exact absurd rfl hne; rfl
          rw [ea] at h1; rw [eb] at h3
          have h1 := of_decide_eq_false h1; have h3 := of_decide_eq_true h3
          rw [if_pos (by decide)]; refine od_gt ?_; unfold sgw; rw [if_pos hw, if_pos hw, if_neg (by omega), if_pos (by omega)]; omega
        · have h2 := gt h1
          rw [h1] at hne
          have h3 : B.getLsbD 63 = false := by cases h : B.getLsbD 63; rfl; rw [h] at hne; exact absurd rfl hne
          rw [ea] at h1; rw [eb] at h3
          have h1 := of_decide_eq_true h1; have h3 := of_decide_eq_false h3
          rw [if_neg (by decide)]; refine od_lt ?_; unfold sgw; rw [if_pos hw, if_pos hw, if_neg (by omega), if_pos (by omega)]; omega
      · have ej : ((j : Int) == 63) = false := by simp; omega
        rw [ej, Bool.bne_false]
        have same : (U A < 9223372036854775808) ↔ (U B < 9223372036854775808) := by
          have hq : A.toNat / 2 ^ 63 = B.toNat / 2 ^ 63 := by
            rw [show (63 : Nat) = (j + 1) + (62 - j) by omega, Nat.pow_add, ← Nat.div_div_eq_div_mul, ← Nat.div_div_eq_div_mul, hh]
          unfold U; omega
        unfold sgw; rw [if_pos hw, if_pos hw]
        cases h1 : A.getLsbD j
        · have h2 := ls h1
          rw [if_neg (by decide : ¬ (false = true))]; refine od_lt ?_; by_cases c : U A < 9223372036854775808
          · rw [if_pos c, if_pos (same.1 c)]; exact h2
          · rw [if_neg c, if_neg (fun k => c (same.2 k))]; omega
        · have h2 := gt h1
          rw [if_pos rfl]; refine od_gt ?_; by_cases c : U A < 9223372036854775808
          · rw [if_pos c, if_pos (same.1 c)]; exact h2
          · rw [if_neg c, if_neg (fun k => c (same.2 k))]; omega
    · rw [e32 hw]
      have la := ho.al hw; have lb := ho.bl hw
      have hw2 : ¬ w = 64 := by omega
      by_cases h63 : j = 31
      · subst h63
        have ea : A.getLsbD 31 = decide (2147483648 ≤ U A) := by rw [hA, ta]; unfold U at *; congr 1; simp only [eq_iff_iff]; omega
        have eb : B.getLsbD 31 = decide (2147483648 ≤ U B) := by rw [hB, tb]; unfold U at *; congr 1; simp only [eq_iff_iff]; omega
        cases h1 : A.getLsbD 31
        · have h2 := ls h1
          rw [h1] at hne
          have h3 : B.getLsbD 31 = true := by cases h : B.getLsbD 31; rw [h] at hne; exact absurd rfl hne; rfl
          rw [ea] at h1; rw [eb] at h3
          have h1 := of_decide_eq_false h1; have h3 := of_decide_eq_true h3
          rw [if_pos (by decide)]; refine od_gt ?_; unfold sgw; rw [if_neg hw2, if_neg hw2, if_neg (by omega), if_pos (by omega)]; omega
        · have h2 := gt h1
          rw [h1] at hne
          have h3 : B.getLsbD 31 = false := by cases h : B.getLsbD 31; rfl; rw [h] at hne; exact absurd rfl hne
          rw [ea] at h1; rw [eb] at h3
          have h1 := of_decide_eq_true h1; have h3 := of_decide_eq_false h3
          rw [if_neg (by decide)]; refine od_lt ?_; unfold sgw; rw [if_neg hw2, if_neg hw2, if_neg (by omega), if_pos (by omega)]; omega
      · have ej : ((j : Int) == 31) = false := by simp; omega
        rw [ej, Bool.bne_false]
        have same : (U A < 2147483648) ↔ (U B < 2147483648) := by
          have hq : A.toNat / 2 ^ 31 = B.toNat / 2 ^ 31 := by
            rw [show (31 : Nat) = (j + 1) + (30 - j) by omega, Nat.pow_add, ← Nat.div_div_eq_div_mul, ← Nat.div_div_eq_div_mul, hh]
          unfold U; omega
        unfold sgw; rw [if_neg hw2, if_neg hw2]
        cases h1 : A.getLsbD j
        · have h2 := ls h1
          rw [if_neg (by decide : ¬ (false = true))]; refine od_lt ?_; by_cases c : U A < 2147483648
          · rw [if_pos c, if_pos (same.1 c)]; exact h2
          · rw [if_neg c, if_neg (fun k => c (same.2 k))]; omega
        · have h2 := gt h1
          rw [if_pos rfl]; refine od_gt ?_; by_cases c : U A < 2147483648
          · rw [if_pos c, if_pos (same.1 c)]; exact h2
          · rw [if_neg c, if_neg (fun k => c (same.2 k))]; omega
end Go.Proofs.YtceclodenhgoeaaGreat.Zcb
