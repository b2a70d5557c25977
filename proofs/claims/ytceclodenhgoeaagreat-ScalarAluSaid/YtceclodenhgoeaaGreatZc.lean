/- Zca, Zcb, Zcc, Zcd, Zce, in one text. -/
import Derived.Test.YtceclodenhgoeaaGreatZa
import Derived.Test.YtceclodenhgoeaaGreatZb
section
/- Layer 5, against the reference: jumps on both sides, run. -/
namespace Go.Proofs.YtceclodenhgoeaaGreat.Zca
open Go Go.RowKit Go.Proofs Go.Proofs.YtceclodenhgoeaaGreat.Xc Go.Proofs.YtceclodenhgoeaaGreat.Zs Go.Proofs.YtceclodenhgoeaaGreat.Zo
set_option maxRecDepth 100000
set_option linter.unusedVariables false
def od (a b : Int) : Int := bif decide (a < b) then -1 else bif decide (a > b) then 1 else 0
noncomputable def bodyB : Code := match blk Tryz.prog 120 0 with
  | .loop c => c
  | _ => .skip
def SB (op a b o i : Int) : St := ⟨[.v (.int .i64 op), .v (.int .u64 a), .v (.int .u64 b), .any, .any, .any, .v (.int .u64 0), .v (.int .u64 o), .v (.int .i64 i)] ++ List.replicate 40 .any, []⟩
def nRb (a b o i : Int) (K : Exit → St → Prop) : Prop := rndL Tryz.prog [] EEz true [] 90 [0, 1, 2, 6, 7, 8] 0 bodyB (SB 5 a b o i) K
theorem nRb_eq (a b o i : Int) (K : Exit → St → Prop) : nRb a b o i K = (br (decide (i < 64)) (ob true (decide (0 ≤ IntKind.wrap .u64 i)) (ob true true (ob true (decide (0 ≤ IntKind.wrap .u64 i)) (ob true true (ob false false (ob false false (ob true true (nm (bif 5 == 4 then decide (IntKind.wrap .u64 (Int.tmod (a / 2 ^ min (Int.toNat (IntKind.wrap .u64 i)) (IntKind.bits .u64)) 2 + Int.tmod (b / 2 ^ min (Int.toNat (IntKind.wrap .u64 i)) (IntKind.bits .u64)) 2) > 0) else false) fun r => ob (!r) (!r) (ob (!r) (!r) (ob (!r) (!r) (ob (!r && 5 == 5) (!r && 5 == 5) (ob (!r && 5 == 5) (!r && 5 == 5) (ob (!r) (!r) (ob (!r && 5 == 5) (!r && 5 == 5) (ob (!r && !5 == 5) true (nm (bif 5 == 5 then IntKind.wrap .u64 (Int.tmod (a / 2 ^ min (Int.toNat (IntKind.wrap .u64 i)) (IntKind.bits .u64)) 2 + Int.tmod (b / 2 ^ min (Int.toNat (IntKind.wrap .u64 i)) (IntKind.bits .u64)) 2) == 2 else false) fun r_1 => ob r true (ob (!r) (!r) (nm (bif r then true else r_1) fun r => ob (!r) (!r) (ob (!r) (!r) (ob (!r) (!r) (ob (!r && 5 == 10) (!r && 5 == 10) (ob (!r && 5 == 10) (!r && 5 == 10) (ob (!r) (!r) (ob (!r && 5 == 10) (!r && 5 == 10) (ob (!r && !5 == 10) true (nm (bif 5 == 10 then IntKind.wrap .u64 (Int.tmod (a / 2 ^ min (Int.toNat (IntKind.wrap .u64 i)) (IntKind.bits .u64)) 2 + Int.tmod (b / 2 ^ min (Int.toNat (IntKind.wrap .u64 i)) (IntKind.bits .u64)) 2) == 1 else false) fun r_2 => ob r true (ob (!r) (!r) (nm (bif r then true else r_2) fun r => br r (ob true (decide (0 ≤ IntKind.wrap .u64 i)) (K Go.Exit.normal (St.mk [AV.v (.int .i64 5), AV.v (.int .u64 a), AV.v (.int .u64 b), AV.any, AV.any, AV.any, AV.v (.int .u64 0), AV.v (.int .u64 (Go.bits .or .u64 o (IntKind.wrap .u64 (1 * 2 ^ min (Int.toNat (IntKind.wrap .u64 i)) (IntKind.bits .u64))))), AV.v (.int .i64 (IntKind.wrap .i64 (i + 1))), AV.any, AV.any, AV.any, AV.any, AV.any, AV.any, AV.any, AV.any, AV.any, AV.any, AV.any, AV.any, AV.any, AV.any, AV.any, AV.any, AV.any, AV.any, AV.any, AV.any, AV.any, AV.any, AV.any, AV.any, AV.any, AV.any, AV.any, AV.any, AV.any, AV.any, AV.any, AV.any, AV.any, AV.any, AV.any, AV.any, AV.any, AV.any, AV.any, AV.any] []))) (K Go.Exit.normal (St.mk [AV.v (.int .i64 5), AV.v (.int .u64 a), AV.v (.int .u64 b), AV.any, AV.any, AV.any, AV.v (.int .u64 0), AV.v (.int .u64 o), AV.v (.int .i64 (IntKind.wrap .i64 (i + 1))), AV.any, AV.any, AV.any, AV.any, AV.any, AV.any, AV.any, AV.any, AV.any, AV.any, AV.any, AV.any, AV.any, AV.any, AV.any, AV.any, AV.any, AV.any, AV.any, AV.any, AV.any, AV.any, AV.any, AV.any, AV.any, AV.any, AV.any, AV.any, AV.any, AV.any, AV.any, AV.any, AV.any, AV.any, AV.any, AV.any, AV.any, AV.any, AV.any, AV.any] [])))))))))))))))))))))))))))))) (K (Go.Exit.exit 0) (St.mk [AV.v (.int .i64 5), AV.v (.int .u64 a), AV.v (.int .u64 b), AV.any, AV.any, AV.any, AV.v (.int .u64 0), AV.v (.int .u64 o), AV.v (.int .i64 i), AV.any, AV.any, AV.any, AV.any, AV.any, AV.any, AV.any, AV.any, AV.any, AV.any, AV.any, AV.any, AV.any, AV.any, AV.any, AV.any, AV.any, AV.any, AV.any, AV.any, AV.any, AV.any, AV.any, AV.any, AV.any, AV.any, AV.any, AV.any, AV.any, AV.any, AV.any, AV.any, AV.any, AV.any, AV.any, AV.any, AV.any, AV.any, AV.any, AV.any] []))) := by kernel_rfl
end Go.Proofs.YtceclodenhgoeaaGreat.Zca
end
section
/- Layer 5, against the reference: its loops of order and bits. -/
namespace Go.Proofs.YtceclodenhgoeaaGreat.Zcb
open Go Go.RowKit Go.Proofs Go.Proofs.YtceclodenhgoeaaGreat.Xc Go.Proofs.YtceclodenhgoeaaGreat.Zs Go.Proofs.YtceclodenhgoeaaGreat.Zu Go.Proofs.YtceclodenhgoeaaGreat.Zv Go.Proofs.YtceclodenhgoeaaGreat.Zo Go.Proofs.YtceclodenhgoeaaGreat.Zba Go.Proofs.YtceclodenhgoeaaGreat.Zbe Go.Proofs.YtceclodenhgoeaaGreat.Zbg Go.Proofs.YtceclodenhgoeaaGreat.Zca Go.Proofs.YtceclodenhgoeaaGreat.Bv
set_option linter.unusedVariables false
set_option linter.unusedSimpArgs false
theorem wn {j : Nat} (hj : j < 64) : IntKind.wrap .u64 (j : Int) = j := by rw [uW]; omega
theorem isw (v : Int) : IntKind.wrap .i64 v = (v + 9223372036854775808) % 18446744073709551616 - 9223372036854775808 := by
  simp [IntKind.wrap, IntKind.signed, IntKind.bits]; split <;> omega
theorem s2 (x y : Bool) : (IntKind.wrap .u64 (bt x + bt y) == 2) = (x && y) := by cases x <;> cases y <;> decide
def sgw (w a : Int) : Int := if w = 64 then (if a < 9223372036854775808 then a else a - 18446744073709551616) else (if a < 2147483648 then a else a - 4294967296)
def odw (w : Int) (sg : Bool) (a b : Int) : Int := bif sg then od (sgw w a) (sgw w b) else od a b
structure Ow (w a b : Int) : Prop where
  hw : w = 64 ∨ w = 32
  ua : u6 a
  ub : u6 b
  al : w = 32 → a < 4294967296
  bl : w = 32 → b < 4294967296
end Go.Proofs.YtceclodenhgoeaaGreat.Zcb
end
section
/- Layer 5, against the reference: order, bits and Jump of the reference with their loops known, run. -/
namespace Go.Proofs.YtceclodenhgoeaaGreat.Zcc
open Go Go.RowKit Go.Proofs Go.Proofs.YtceclodenhgoeaaGreat.Xc Go.Proofs.YtceclodenhgoeaaGreat.Zs Go.Proofs.YtceclodenhgoeaaGreat.Zo Go.Proofs.YtceclodenhgoeaaGreat.Zu Go.Proofs.YtceclodenhgoeaaGreat.Zca Go.Proofs.YtceclodenhgoeaaGreat.Zcb
set_option maxRecDepth 100000
set_option linter.unusedVariables false
def cOr (vs : List Value) (K : Value → Prop) : Prop := match vs with
  | [.int .u64 a, .int .u64 b, .int .i64 w, .bool sg] => need (Ow w a b) (nm (odw w sg a b) fun r => K (.int .i64 r))
  | _ => False
def cBi (vs : List Value) (K : Value → Prop) : Prop := match vs with
  | [.int .i64 5, .int .u64 a, .int .u64 b] => need (u6 a ∧ u6 b) (nm (Go.bits .and .u64 a b) fun r => K (.int .u64 r))
  | _ => False
noncomputable abbrev TJ2 : Tab := [(153, cOr), (120, cBi)]
def nJ2 (op : Int) (wide : Bool) (a b : Int) (K : Value → Prop) : Prop := run Tryz.prog TJ2 EEz true 90 42 [.int .i64 op, .bool wide, .int .u64 a, .int .u64 b] K
theorem nJ2_eq (op : Int) (wide : Bool) (a b : Int) (K : Value → Prop) : nJ2 op wide a b K = (br (!wide) (ob true true (ob true true (ob true true (ob true true (need (Zcb.Ow 32 (Int.tmod a (IntKind.wrap .u64 (1 * 2 ^ min (Int.toNat (IntKind.wrap .u64 32)) (IntKind.bits .u64)))) (Int.tmod b (IntKind.wrap .u64 (1 * 2 ^ min (Int.toNat (IntKind.wrap .u64 32)) (IntKind.bits .u64))))) (nm (Zcb.odw 32 false (Int.tmod a (IntKind.wrap .u64 (1 * 2 ^ min (Int.toNat (IntKind.wrap .u64 32)) (IntKind.bits .u64)))) (Int.tmod b (IntKind.wrap .u64 (1 * 2 ^ min (Int.toNat (IntKind.wrap .u64 32)) (IntKind.bits .u64))))) fun r => need (Zcb.Ow 32 (Int.tmod a (IntKind.wrap .u64 (1 * 2 ^ min (Int.toNat (IntKind.wrap .u64 32)) (IntKind.bits .u64)))) (Int.tmod b (IntKind.wrap .u64 (1 * 2 ^ min (Int.toNat (IntKind.wrap .u64 32)) (IntKind.bits .u64))))) (nm (Zcb.odw 32 true (Int.tmod a (IntKind.wrap .u64 (1 * 2 ^ min (Int.toNat (IntKind.wrap .u64 32)) (IntKind.bits .u64)))) (Int.tmod b (IntKind.wrap .u64 (1 * 2 ^ min (Int.toNat (IntKind.wrap .u64 32)) (IntKind.bits .u64))))) fun r_1 => br (op == 1) (K (.tuple (#[.bool (r == 0), .bool true]))) (br (op == 2) (K (.tuple (#[.bool (decide (r > 0)), .bool true]))) (br (op == 3) (K (.tuple (#[.bool (decide (r ≥ 0)), .bool true]))) (br (op == 4) (need (Zu.u6 (Int.tmod a (IntKind.wrap .u64 (1 * 2 ^ min (Int.toNat (IntKind.wrap .u64 32)) (IntKind.bits .u64)))) ∧ Zu.u6 (Int.tmod b (IntKind.wrap .u64 (1 * 2 ^ min (Int.toNat (IntKind.wrap .u64 32)) (IntKind.bits .u64))))) (nm (Go.bits .and .u64 (Int.tmod a (IntKind.wrap .u64 (1 * 2 ^ min (Int.toNat (IntKind.wrap .u64 32)) (IntKind.bits .u64)))) (Int.tmod b (IntKind.wrap .u64 (1 * 2 ^ min (Int.toNat (IntKind.wrap .u64 32)) (IntKind.bits .u64))))) fun r => K (.tuple (#[.bool (decide (r > 0)), .bool true])))) (br (op == 5) (K (.tuple (#[.bool (r != 0), .bool true]))) (br (op == 6) (K (.tuple (#[.bool (decide (r_1 > 0)), .bool true]))) (br (op == 7) (K (.tuple (#[.bool (decide (r_1 ≥ 0)), .bool true]))) (br (op == 10) (K (.tuple (#[.bool (decide (r < 0)), .bool true]))) (br (op == 11) (K (.tuple (#[.bool (decide (r ≤ 0)), .bool true]))) (br (op == 12) (K (.tuple (#[.bool (decide (r_1 < 0)), .bool true]))) (br (op == 13) (K (.tuple (#[.bool (decide (r_1 ≤ 0)), .bool true]))) (K (.tuple (#[.bool false, .bool false])))))))))))))))))))) (need (Zcb.Ow 64 a b) (nm (Zcb.odw 64 false a b) fun r => need (Zcb.Ow 64 a b) (nm (Zcb.odw 64 true a b) fun r_1 => br (op == 1) (K (.tuple (#[.bool (r == 0), .bool true]))) (br (op == 2) (K (.tuple (#[.bool (decide (r > 0)), .bool true]))) (br (op == 3) (K (.tuple (#[.bool (decide (r ≥ 0)), .bool true]))) (br (op == 4) (need (Zu.u6 a ∧ Zu.u6 b) (nm (Go.bits .and .u64 a b) fun r => K (.tuple (#[.bool (decide (r > 0)), .bool true])))) (br (op == 5) (K (.tuple (#[.bool (r != 0), .bool true]))) (br (op == 6) (K (.tuple (#[.bool (decide (r_1 > 0)), .bool true]))) (br (op == 7) (K (.tuple (#[.bool (decide (r_1 ≥ 0)), .bool true]))) (br (op == 10) (K (.tuple (#[.bool (decide (r < 0)), .bool true]))) (br (op == 11) (K (.tuple (#[.bool (decide (r ≤ 0)), .bool true]))) (br (op == 12) (K (.tuple (#[.bool (decide (r_1 < 0)), .bool true]))) (br (op == 13) (K (.tuple (#[.bool (decide (r_1 ≤ 0)), .bool true]))) (K (.tuple (#[.bool false, .bool false]))))))))))))))))) := by kernel_rfl
end Go.Proofs.YtceclodenhgoeaaGreat.Zcc
end
section
/- Layer 5, against the reference: Jump is the same on both sides. -/
namespace Go.Proofs.YtceclodenhgoeaaGreat.Zcd
open Go Go.RowKit Go.Proofs Go.Proofs.YtceclodenhgoeaaGreat.Xc Go.Proofs.YtceclodenhgoeaaGreat.Zs Go.Proofs.YtceclodenhgoeaaGreat.Zu Go.Proofs.YtceclodenhgoeaaGreat.Zv Go.Proofs.YtceclodenhgoeaaGreat.Zo Go.Proofs.YtceclodenhgoeaaGreat.Zba Go.Proofs.YtceclodenhgoeaaGreat.Zbe Go.Proofs.YtceclodenhgoeaaGreat.Zbg Go.Proofs.YtceclodenhgoeaaGreat.Zca Go.Proofs.YtceclodenhgoeaaGreat.Zcb Go.Proofs.YtceclodenhgoeaaGreat.Zcc Go.Proofs.YtceclodenhgoeaaGreat.Bv
set_option linter.unusedVariables false
set_option linter.unusedSimpArgs false
def jx (wide : Bool) (a : Int) : Int := bif wide then a else a % 4294967296
def jy (wide : Bool) (a : Int) : Int := bif wide then IntKind.wrap .i64 a else (a % 4294967296 + 2147483648) % 4294967296 - 2147483648
/-- Whether a jump is done: x, y without a sign, s, t with one. -/
def jd (op x y s t : Int) : Bool :=
  if op = 1 then decide (x = y) else if op = 5 then decide (x ≠ y) else if op = 2 then decide (x > y) else if op = 3 then decide (x ≥ y) else if op = 10 then decide (x < y) else if op = 11 then decide (x ≤ y)
  else if op = 6 then decide (s > t) else if op = 7 then decide (s ≥ t) else if op = 12 then decide (s < t) else if op = 13 then decide (s ≤ t) else if op = 4 then decide (Go.bits .and .u64 x y ≠ 0) else false
def jok (op : Int) : Bool := decide (op = 1 ∨ op = 2 ∨ op = 3 ∨ op = 4 ∨ op = 5 ∨ op = 6 ∨ op = 7 ∨ op = 10 ∨ op = 11 ∨ op = 12 ∨ op = 13)
def jdo (op : Int) (wide : Bool) (a b : Int) : Bool := jd op (jx wide a) (jx wide b) (jy wide a) (jy wide b)
theorem od_cases (a b : Int) : (a < b ∧ od a b = -1) ∨ (a > b ∧ od a b = 1) ∨ (a = b ∧ od a b = 0) := by
  unfold od
  by_cases h1 : a < b
  · exact Or.inl ⟨h1, by rw [decide_eq_true h1]; rfl⟩
  · by_cases h2 : a > b
    · exact Or.inr (Or.inl ⟨h2, by rw [decide_eq_false h1, decide_eq_true h2]; rfl⟩)
    · exact Or.inr (Or.inr ⟨by omega, by rw [decide_eq_false h1, decide_eq_false h2]; rfl⟩)
theorem od_facts (x y r : Int) (h : r = od x y) : (r == 0) = decide (x = y) ∧ (r != 0) = decide (x ≠ y) ∧ decide (r > 0) = decide (x > y) ∧ decide (r ≥ 0) = decide (x ≥ y) ∧ decide (r < 0) = decide (x < y) ∧ decide (r ≤ 0) = decide (x ≤ y) := by
  have e : (r = 0 ↔ x = y) ∧ (r > 0 ↔ x > y) ∧ (r ≥ 0 ↔ x ≥ y) ∧ (r < 0 ↔ x < y) ∧ (r ≤ 0 ↔ x ≤ y) := by
    rcases od_cases x y with ⟨h1, h2⟩ | ⟨h1, h2⟩ | ⟨h1, h2⟩ <;> (rw [h2] at h; subst h; omega)
  obtain ⟨e1, e2, e3, e4, e5⟩ := e
  refine ⟨?_, ?_, decide_eq_decide.2 e2, decide_eq_decide.2 e3, decide_eq_decide.2 e4, decide_eq_decide.2 e5⟩
  · rw [← decide_eq_decide.2 e1]; rfl
  · have : (r ≠ 0 ↔ x ≠ y) := not_congr e1
    rw [← decide_eq_decide.2 this, bne, decide_not]; rfl
theorem jfin2 (op x y s t r r1 : Int) (K : Value → Prop) (hx : u6 x) (hy : u6 y) (hr : r = od x y) (hr1 : r1 = od s t) (h : K (.tuple #[.bool (jd op x y s t), .bool (jok op)])) :
    br (op == 1) (K (.tuple (#[.bool (r == 0), .bool true]))) (br (op == 2) (K (.tuple (#[.bool (decide (r > 0)), .bool true]))) (br (op == 3) (K (.tuple (#[.bool (decide (r ≥ 0)), .bool true]))) (br (op == 4) (need (u6 x ∧ u6 y) (nm (Go.bits .and .u64 x y) fun r => K (.tuple (#[.bool (decide (r > 0)), .bool true]))))
    (br (op == 5) (K (.tuple (#[.bool (r != 0), .bool true]))) (br (op == 6) (K (.tuple (#[.bool (decide (r1 > 0)), .bool true]))) (br (op == 7) (K (.tuple (#[.bool (decide (r1 ≥ 0)), .bool true]))) (br (op == 10) (K (.tuple (#[.bool (decide (r < 0)), .bool true]))) (br (op == 11) (K (.tuple (#[.bool (decide (r ≤ 0)), .bool true])))
    (br (op == 12) (K (.tuple (#[.bool (decide (r1 < 0)), .bool true]))) (br (op == 13) (K (.tuple (#[.bool (decide (r1 ≤ 0)), .bool true]))) (K (.tuple (#[.bool false, .bool false]))))))))))))) := by
  obtain ⟨a1, a2, a3, a4, a5, a6⟩ := od_facts x y r hr
  obtain ⟨b1, b2, b3, b4, b5, b6⟩ := od_facts s t r1 hr1
  rw [a1, a2, a3, a4, a5, a6, b3, b4, b5, b6]
  have hb : decide (Go.bits .and .u64 x y > 0) = decide (Go.bits .and .u64 x y ≠ 0) := by
    refine decide_eq_decide.2 ?_
    have : 0 ≤ Go.bits .and .u64 x y := by rw [b_and]; exact U_nonneg _
    omega
  clear a1 a2 a3 a4 a5 a6 b1 b2 b3 b4 b5 b6 hr hr1
  unfold jd jok at h
  repeat' refine br_cases (fun q => ?_) (fun q => ?_)
  all_goals (first | have q := eq_of_beq q | skip)
  all_goals (first | (subst q; simp only [Int.reduceEq, if_true, if_false, or_true, true_or, or_false, false_or, decide_true, reduceIte] at h; first | exact h | (refine ⟨⟨hx, hy⟩, fun r hr => ?_⟩; subst hr; rw [hb]; exact h)) | skip)
  rename_i q1 q2 q3 q4 q5 q6 q7 q8 q9 q10
  simp only [beq_eq_false_iff_ne] at *
  simp only [q, q1, q2, q3, q4, q5, q6, q7, q8, q9, q10, if_false, or_false, decide_false] at h
  exact h
theorem rJ2 (op : Int) (wide : Bool) (a b : Int) (K : Value → Prop) (ha : u6 a) (hb : u6 b) (h : K (.tuple #[.bool (jdo op wide a b), .bool (jok op)])) : nJ2 op wide a b K := by
  rw [nJ2_eq]
  have el : ∀ z, u6 z → Int.tmod z (IntKind.wrap .u64 (1 * 2 ^ min (Int.toNat (IntKind.wrap .u64 32)) (IntKind.bits .u64))) = z % 4294967296 := fun z hz => by
    rw [show IntKind.wrap .u64 (1 * 2 ^ min (Int.toNat (IntKind.wrap .u64 32)) (IntKind.bits .u64)) = 4294967296 by decide, Int.tmod_eq_emod_of_nonneg hz.1]
  rw [el a ha, el b hb]
  cases wide with
  | true =>
    have o : Ow 64 a b := ⟨Or.inl rfl, ha, hb, fun h => absurd h (by decide), fun h => absurd h (by decide)⟩
    refine br_no rfl ⟨o, fun r hr => ⟨o, fun r1 hr1 => jfin2 op a b (IntKind.wrap .i64 a) (IntKind.wrap .i64 b) r r1 K ha hb hr ?_ h⟩⟩
    have e : ∀ z, u6 z → sgw 64 z = IntKind.wrap .i64 z := fun z hz => by
      unfold sgw; rw [if_pos rfl, isw]; unfold u6 at hz; split <;> omega
    rw [hr1]; show od (sgw 64 a) (sgw 64 b) = _; rw [e a ha, e b hb]
  | false =>
    have ua : u6 (a % 4294967296) := by unfold u6; omega
    have ub : u6 (b % 4294967296) := by unfold u6; omega
    have o : Ow 32 (a % 4294967296) (b % 4294967296) := ⟨Or.inr rfl, ua, ub, fun _ => by omega, fun _ => by omega⟩
    refine br_yes rfl ?_
    repeat (first | with_reducible refine ob_self ?_ | with_reducible refine ob_true ?_)
    refine ⟨o, fun r hr => ⟨o, fun r1 hr1 => jfin2 op _ _ (jy false a) (jy false b) r r1 K ua ub hr ?_ h⟩⟩
    have e : ∀ z, sgw 32 (z % 4294967296) = jy false z := fun z => by
      unfold sgw jy; rw [if_neg (by decide)]; simp only [cond_false]; split <;> omega
    rw [hr1]; show od (sgw 32 _) (sgw 32 _) = _; rw [e, e]
end Go.Proofs.YtceclodenhgoeaaGreat.Zcd
end
section
/- Layer 5, against the reference: the parts of what a jump teaches, on both sides, run. -/
namespace Go.Proofs.YtceclodenhgoeaaGreat.Zce
open Go Go.RowKit Go.Proofs Go.Proofs.YtceclodenhgoeaaGreat.Xc Go.Proofs.YtceclodenhgoeaaGreat.Zs Go.Proofs.YtceclodenhgoeaaGreat.Zk Go.Proofs.YtceclodenhgoeaaGreat.Zo Go.Proofs.YtceclodenhgoeaaGreat.Zq Go.Proofs.YtceclodenhgoeaaGreat.Zu Go.Proofs.YtceclodenhgoeaaGreat.Zbf Go.Proofs.YtceclodenhgoeaaGreat.Zbi
set_option maxRecDepth 100000
set_option linter.unusedVariables false
end Go.Proofs.YtceclodenhgoeaaGreat.Zce
end
