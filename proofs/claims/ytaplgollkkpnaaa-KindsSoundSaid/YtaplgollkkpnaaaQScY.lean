/- Layer 5: jumps, and the parts of what they teach: contracts. -/
import Derived.Test.YtaplgollkkpnaaaQScV
namespace Go.Proofs.Ytaplgollkkpnaaa.ScY
open Go Go.RowKit Go.Proofs Go.Proofs.Ytaplgollkkpnaaa.Xc Go.Proofs.Ytaplgollkkpnaaa.Sc Go.Proofs.Ytaplgollkkpnaaa.ScS Go.Proofs.Ytaplgollkkpnaaa.ScG Go.Proofs.Ytaplgollkkpnaaa.ScP Go.Proofs.Ytaplgollkkpnaaa.ScO Go.Proofs.Ytaplgollkkpnaaa.ScF Go.Proofs.Ytaplgollkkpnaaa.ScV Go.Proofs.Ytaplgollkkpnaaa.Bv
set_option linter.unusedVariables false
set_option linter.unusedSimpArgs false
def jx (wide : Bool) (a : Int) : Int := bif wide then a else a % 4294967296
def jy (wide : Bool) (a : Int) : Int := bif wide then sw a else (a % 4294967296 + 2147483648) % 4294967296 - 2147483648
/-- Whether a jump is done: x, y without a sign, s, t with one. -/
def jd (op x y s t : Int) : Bool :=
  if op = 1 then decide (x = y) else if op = 5 then decide (x ≠ y) else if op = 2 then decide (x > y) else if op = 3 then decide (x ≥ y) else if op = 10 then decide (x < y) else if op = 11 then decide (x ≤ y)
  else if op = 6 then decide (s > t) else if op = 7 then decide (s ≥ t) else if op = 12 then decide (s < t) else if op = 13 then decide (s ≤ t) else if op = 4 then decide (Go.bits .and .u64 x y ≠ 0) else false
def jok (op : Int) : Bool := decide (op = 1 ∨ op = 2 ∨ op = 3 ∨ op = 4 ∨ op = 5 ∨ op = 6 ∨ op = 7 ∨ op = 10 ∨ op = 11 ∨ op = 12 ∨ op = 13)
def jdo (op : Int) (wide : Bool) (a b : Int) : Bool := jd op (jx wide a) (jx wide b) (jy wide a) (jy wide b)
theorem od_cases (a b : Int) : (a < b ∧ od a b = -1) ∨ (a > b ∧ od a b = 1) ∨ (a = b ∧ od a b = 0) := by
  unfold od
  by_cases h1 : a < b
  · exact Or.inl ⟨h1, by rw [decide_eq_true h1]; rfl⟩
  · by_cases h2 : a > b
    · exact Or.inr (Or.inl ⟨h2, by rw [decide_eq_false h1, decide_eq_true h2]; rfl⟩)
    · exact Or.inr (Or.inr ⟨by omega, by rw [decide_eq_false h1, decide_eq_false h2]; rfl⟩)
theorem od_facts (x y r : Int) (h : r = od x y) : (r == 0) = decide (x = y) ∧ (r != 0) = decide (x ≠ y) ∧ decide (r > 0) = decide (x > y) ∧ decide (r ≥ 0) = decide (x ≥ y) ∧ decide (r < 0) = decide (x < y) ∧ decide (r ≤ 0) = decide (x ≤ y) := by
  have e : (r = 0 ↔ x = y) ∧ (r > 0 ↔ x > y) ∧ (r ≥ 0 ↔ x ≥ y) ∧ (r < 0 ↔ x < y) ∧ (r ≤ 0 ↔ x ≤ y) := by
    rcases od_cases x y with ⟨h1, h2⟩ | ⟨h1, h2⟩ | ⟨h1, h2⟩ <;> (rw [h2] at h; subst h; omega)
  obtain ⟨e1, e2, e3, e4, e5⟩ := e
  refine ⟨?_, ?_, decide_eq_decide.2 e2, decide_eq_decide.2 e3, decide_eq_decide.2 e4, decide_eq_decide.2 e5⟩
  · rw [← decide_eq_decide.2 e1]; rfl
  · have : (r ≠ 0 ↔ x ≠ y) := not_congr e1
    rw [← decide_eq_decide.2 this, bne, decide_not]; rfl
theorem jfin (op x y s t r r1 : Int) (K : Value → Prop) (hr : r = od x y) (hr1 : r1 = od s t) (h : K (.tuple #[.bool (jd op x y s t), .bool (jok op)])) :
    br (op == 1) (K (.tuple (#[.bool (r == 0), .bool true]))) (br (op == 5) (K (.tuple (#[.bool (r != 0), .bool true]))) (br (op == 2) (K (.tuple (#[.bool (decide (r > 0)), .bool true]))) (br (op == 3) (K (.tuple (#[.bool (decide (r ≥ 0)), .bool true])))
    (br (op == 10) (K (.tuple (#[.bool (decide (r < 0)), .bool true]))) (br (op == 11) (K (.tuple (#[.bool (decide (r ≤ 0)), .bool true]))) (br (op == 6) (K (.tuple (#[.bool (decide (r1 > 0)), .bool true]))) (br (op == 7) (K (.tuple (#[.bool (decide (r1 ≥ 0)), .bool true])))
    (br (op == 12) (K (.tuple (#[.bool (decide (r1 < 0)), .bool true]))) (br (op == 13) (K (.tuple (#[.bool (decide (r1 ≤ 0)), .bool true]))) (br (op == 4) (K (.tuple (#[.bool (Go.bits .and .u64 x y != 0), .bool true]))) (K (.tuple (#[.bool false, .bool false]))))))))))))) := by
  obtain ⟨a1, a2, a3, a4, a5, a6⟩ := od_facts x y r hr
  obtain ⟨b1, b2, b3, b4, b5, b6⟩ := od_facts s t r1 hr1
  rw [a1, a2, a3, a4, a5, a6, b3, b4, b5, b6]
  have hb : (Go.bits .and .u64 x y != 0) = decide (Go.bits .and .u64 x y ≠ 0) := by rw [bne, decide_not]; rfl
  rw [hb]
  clear a1 a2 a3 a4 a5 a6 b1 b2 b3 b4 b5 b6 hb hr hr1
  unfold jd jok at h
  repeat' refine br_cases (fun q => ?_) (fun q => ?_)
  all_goals (first | have q := eq_of_beq q | skip)
  all_goals (first | (subst q; simp only [Int.reduceEq, if_true, if_false, or_true, true_or, or_false, false_or, decide_true, reduceIte] at h; exact h) | skip)
  rename_i q1 q2 q3 q4 q5 q6 q7 q8 q9 q10
  simp only [beq_eq_false_iff_ne] at *
  simp only [q, q1, q2, q3, q4, q5, q6, q7, q8, q9, q10, if_false, or_false, decide_false] at h
  exact h
theorem aN_zero {x : Int} (h : uu x) : aN x 0 = x := by
  rw [aN, b_andNot, show (~~~ BitVec.ofInt 64 0 : W) = BitVec.allOnes 64 by decide, BitVec.and_allOnes, U_ofInt]
  unfold uu at h; omega
theorem rIs (a b c d e f : Int) (K : Value → Prop) (h : ∀ v one, IsP a b c d e f v one → K (.tuple #[.int .u64 v, .bool one])) : nIs a b c d e f K := by
  rw [nIs_eq]
  refine br_cases (fun q => h _ _ ?_) (fun q => br_cases (fun q2 => h _ _ ?_) (fun q2 => br_cases (fun q3 => h _ _ ?_) (fun q3 => h _ _ ?_)))
  · have q := eq_of_beq q; subst q
    exact ⟨fun _ x hx hi => by have := hi.2.1; unfold uin at this; omega, fun _ => ⟨rfl, rfl⟩, fun _ h => h⟩
  · have q := beq_eq_false_iff_ne.1 q
    have q2 := eq_of_beq q2; subst q2
    exact ⟨fun _ x hx hi => by have := hi.1; unfold tin at this; rw [aN_zero hx] at this; exact this, fun h => absurd h q, fun h _ => h⟩
  · have q := beq_eq_false_iff_ne.1 q
    have q3 := eq_of_beq q3; subst q3
    have u := uw_eq; simp only [uw] at u
    refine ⟨fun _ x hx hi => ?_, fun h => absurd h q, fun _ _ => by rw [u]; unfold uu; omega⟩
    have hi := hi.2.2
    unfold sin at hi
    rw [sw_eq] at hi
    rw [u]; unfold uu at hx; omega
  · have q := beq_eq_false_iff_ne.1 q
    exact ⟨fun h => (by cases h), fun h => absurd h q, fun _ _ => by unfold uu; omega⟩
theorem bl_same (a b c d : Int) : BlP true a b c d (if d < b then d else b) (if a > c then a else c) (decide (a ≤ d)) := by
  refine ⟨fun x y h1 h2 h3 h4 h5 => ?_, fun h h1 h2 => ?_⟩
  · have : a ≤ d := by omega
    refine ⟨decide_eq_true this, ?_, ?_⟩ <;> split <;> omega
  · have := of_decide_eq_true h
    refine ⟨?_, ?_, ?_, ?_⟩ <;> split <;> omega
theorem bl_none {a b c d : Int} (h : ∀ x y, a ≤ x → x ≤ b → c ≤ y → y ≤ d → x < y → False) : BlP false a b c d 0 0 false :=
  ⟨fun x y h1 h2 h3 h4 h5 => (h x y h1 h2 h3 h4 (h5.resolve_right (fun h => by cases h.1))).elim, fun h => by cases h⟩
theorem bl_some {a b c d p q : Int} (hp : p = d - 1) (hq : q = a + 1) : BlP false a b c d (if p < b then p else b) (if q > c then q else c) (decide (a < d)) := by
  refine ⟨fun x y h1 h2 h3 h4 h5 => ?_, fun h h1 h2 => ?_⟩
  · have h5 : x < y := h5.resolve_right (fun h => by cases h.1)
    have : a < d := by omega
    refine ⟨decide_eq_true this, ?_, ?_⟩ <;> split <;> omega
  · have := of_decide_eq_true h
    refine ⟨?_, ?_, ?_, ?_⟩ <;> split <;> omega
end Go.Proofs.Ytaplgollkkpnaaa.ScY
