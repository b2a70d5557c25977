/- VZs, VZr, VZu, VZk, VZv, VZy, VZo, VZq, VZbb, VZp, VZbc, VZqa, VZqb, VZqc, VZbj, in one text. -/
import Derived.Test.YtnephcecobocdaaXa
import Derived.Test.YtnephcecobocdaaBa
section
/- Layer 5, against the reference: byte orders, run. -/
namespace Go.Proofs.Ytnephcecobocdaa.VZs
open Go Go.RowKit Go.Proofs Go.Proofs.Ytnephcecobocdaa.Xc
set_option maxRecDepth 100000
set_option linter.unusedVariables false
noncomputable abbrev EEz : Eqs := []
theorem eez : EqOk Try.prog EEz := eq_nil
end Go.Proofs.Ytnephcecobocdaa.VZs
end
section
/- Layer 5, against the reference: rounds of ref04.ToT and ref03.Meet, run. -/
namespace Go.Proofs.Ytnephcecobocdaa.VZr
open Go Go.RowKit Go.Proofs Go.Proofs.Ytnephcecobocdaa.Xc Go.Proofs.Ytnephcecobocdaa.VZs
set_option maxRecDepth 100000
set_option linter.unusedVariables false
noncomputable abbrev TAl : Tab := [(73, fun vs K => match vs with
  | [] => K (.agg #[.int .u64 0, .int .u64 18446744073709551615])
  | _ => False)]
def nUAll (K : Value → Prop) : Prop := run Try.prog [] EEz true 90 73 [] K
theorem nUAll_eq (K : Value → Prop) : nUAll K = (K (.agg (#[.int .u64 0, .int .u64 18446744073709551615]))) := by kernel_rfl
noncomputable def bodyT : Code := match blk Try.prog 71 0 with
  | .loop c => c
  | _ => .skip
def ST (x0 : Value) (c d n : Int) : St := ⟨[.v x0, .p 0 0, .p 1 0, .v (.int .u64 n)] ++ List.replicate 42 .any, [[.v (.int .u64 c), .v (.int .u64 d)], [.v (.int .u64 0), .v (.int .u64 0)]]⟩
def nRt (x0 : Value) (c d n : Int) (K : Exit → St → Prop) : Prop := rndL Try.prog TAl EEz true [] 90 [0, 1, 2, 3] 2 bodyT (ST x0 c d n) K
theorem nRt_eq (x0 : Value) (c d n : Int) (K : Exit → St → Prop) : nRt x0 c d n K = (ob (decide (n < 18446744073709551615)) (decide (n < 18446744073709551615)) (ob (decide (n < 18446744073709551615)) (decide (n < 18446744073709551615)) (ob (decide (n < 18446744073709551615)) (decide (n < 18446744073709551615)) (ob (decide (n < 18446744073709551615)) (decide (n < 18446744073709551615)) (ob (decide (n < 18446744073709551615)) (decide (n < 18446744073709551615)) (ob (decide (n < 18446744073709551615)) (IntKind.wrap .u64 (n + 1) != 0) (ob (decide (n < 18446744073709551615)) (decide (n < 18446744073709551615)) (ob (decide (n < 18446744073709551615)) (decide (n < 18446744073709551615)) (ob (decide (n < 18446744073709551615)) (decide (n < 18446744073709551615)) (ob (decide (n < 18446744073709551615)) (decide (n < 18446744073709551615)) (ob (decide (n < 18446744073709551615)) (decide (n < 18446744073709551615)) (ob (decide (n < 18446744073709551615)) (decide (n < 18446744073709551615)) (ob (decide (n < 18446744073709551615)) (decide (n < 18446744073709551615)) (ob (decide (n < 18446744073709551615)) (IntKind.wrap .u64 (n + 1) != 0) (ob (decide (n < 18446744073709551615)) (decide (n < 18446744073709551615)) (ob (decide (n < 18446744073709551615)) (decide (n < 18446744073709551615)) (ob (decide (n < 18446744073709551615)) (decide (n < 18446744073709551615)) (ob (decide (n < 18446744073709551615)) (decide (n < 18446744073709551615)) (ob (decide (n < 18446744073709551615)) (decide (n < 18446744073709551615)) (ob (decide (n < 18446744073709551615)) (decide (n < 18446744073709551615)) (ob (decide (n < 18446744073709551615)) (decide (n < 18446744073709551615)) (ob (!decide (n < 18446744073709551615)) true (nm (bif decide (n < 18446744073709551615) then IntKind.wrap .u64 (c - Int.tmod c (IntKind.wrap .u64 (n + 1))) != IntKind.wrap .u64 (d - Int.tmod d (IntKind.wrap .u64 (n + 1))) else false) fun r => br r (K Go.Exit.normal (St.mk [AV.v x0, AV.p 0 0, AV.p 1 0, AV.v (.int .u64 (IntKind.wrap .u64 (IntKind.wrap .u64 (2 * n) + 1))), AV.any, AV.any, AV.any, AV.any, AV.any, AV.any, AV.any, AV.any, AV.any, AV.any, AV.any, AV.any, AV.any, AV.any, AV.any, AV.any, AV.any, AV.any, AV.any, AV.any, AV.any, AV.any, AV.any, AV.any, AV.any, AV.any, AV.any, AV.any, AV.any, AV.any, AV.any, AV.any, AV.any, AV.any, AV.any, AV.any, AV.any, AV.any, AV.any, AV.any, AV.any, AV.any] [[AV.v (.int .u64 c), AV.v (.int .u64 d)], [AV.v (.int .u64 0), AV.v (.int .u64 0)]])) (K (Go.Exit.exit 0) (St.mk [AV.v x0, AV.p 0 0, AV.p 1 0, AV.v (.int .u64 n), AV.any, AV.any, AV.any, AV.any, AV.any, AV.any, AV.any, AV.any, AV.any, AV.any, AV.any, AV.any, AV.any, AV.any, AV.any, AV.any, AV.any, AV.any, AV.any, AV.any, AV.any, AV.any, AV.any, AV.any, AV.any, AV.any, AV.any, AV.any, AV.any, AV.any, AV.any, AV.any, AV.any, AV.any, AV.any, AV.any, AV.any, AV.any, AV.any, AV.any, AV.any, AV.any] [[AV.v (.int .u64 c), AV.v (.int .u64 d)], [AV.v (.int .u64 0), AV.v (.int .u64 0)]]))))))))))))))))))))))))) := by kernel_rfl
end Go.Proofs.Ytnephcecobocdaa.VZr
end
section
/- Layer 5, against the reference: ScalarSwap, run. -/
namespace Go.Proofs.Ytnephcecobocdaa.VZu
open Go Go.RowKit Go.Proofs Go.Proofs.Ytnephcecobocdaa.Xc Go.Proofs.Ytnephcecobocdaa.VZs Go.Proofs.Ytnephcecobocdaa.By Go.Proofs.Ytnephcecobocdaa.Bv
set_option maxRecDepth 100000
set_option linter.unusedVariables false
def u6 (x : Int) : Prop := 0 ≤ x ∧ x < 18446744073709551616
end Go.Proofs.Ytnephcecobocdaa.VZu
end
section
/- Layer 5, against the reference: the closed statement that each law asks. -/
set_option linter.unusedVariables false
set_option linter.unusedSimpArgs false
set_option linter.unusedSectionVars false
namespace Go.Proofs.Ytnephcecobocdaa.VZk
open Go Go.Proofs Go.Proofs.Ytnephcecobocdaa.Xc
set_option maxRecDepth 100000
noncomputable abbrev EEk : Eqs := [(24, eqS Try.prog 24), (26, eqS Try.prog 26), (28, eqS Try.prog 28)]
theorem eek : EqOk Try.prog EEk := eq_cons (by kernel_rfl) (eq_cons (by kernel_rfl) (eq_cons (by kernel_rfl) eq_nil))
end Go.Proofs.Ytnephcecobocdaa.VZk
end
section
/- Layer 5, against the reference: ScalarSwap, the law. -/
namespace Go.Proofs.Ytnephcecobocdaa.VZv
open Go Go.RowKit Go.Proofs Go.Proofs.Ytnephcecobocdaa.Xc Go.Proofs.Ytnephcecobocdaa.VZs Go.Proofs.Ytnephcecobocdaa.VZu Go.Proofs.Ytnephcecobocdaa.VZk Go.Proofs.Ytnephcecobocdaa.By Go.Proofs.Ytnephcecobocdaa.Bv
set_option linter.unusedVariables false
set_option linter.unusedSimpArgs false
theorem uW (v : Int) : IntKind.u64.wrap v = v % 18446744073709551616 := by rw [wrap_u64, U_ofInt]
theorem exu {x : Int} (h : u6 x) : ∃ X : W, x = U X := ⟨BitVec.ofInt 64 x, by rw [U_ofInt]; unfold u6 at h; omega⟩
end Go.Proofs.Ytnephcecobocdaa.VZv
end
section
/- Layer 5, against the reference: the loop of ref04.ToT. -/
namespace Go.Proofs.Ytnephcecobocdaa.VZy
open Go Go.RowKit Go.Proofs Go.Proofs.Ytnephcecobocdaa.Xc Go.Proofs.Ytnephcecobocdaa.VZs Go.Proofs.Ytnephcecobocdaa.VZr Go.Proofs.Ytnephcecobocdaa.VZu Go.Proofs.Ytnephcecobocdaa.VZv Go.Proofs.Ytnephcecobocdaa.Bv
set_option linter.unusedVariables false
set_option linter.unusedSimpArgs false
/-- The least number of bits above which both are the same. -/
structure KP (c d : Int) (k : Nat) : Prop where
  le : k ≤ 64
  eq : c / 2 ^ k = d / 2 ^ k
  ne : ∀ i, i < k → c / 2 ^ i ≠ d / 2 ^ i
theorem tal : TabOk Try.prog TAl := by
  refine tab_runK good (by kernel_rfl) (fun vs K h => ?_) tab_nil
  split at h
  · have o : nUAll K := by rw [nUAll_eq]; exact h
    unfold nUAll at o; exact ⟨[], EEz, true, 90, tab_nil, eez, o⟩
  · exact h.elim
theorem loopT (x0 : Value) (c d : Int) (hc : u6 c) (hd : u6 d) : ∃ e s', (∃ k, KP c d k ∧ e = .exit 0 ∧ s' = ST x0 c d (2 ^ k - 1)) ∧ LW Try.prog bodyT (ST x0 c d 0) e s' := by
  have key := loop_ix (P := Try.prog) (c := bodyT) (fun j : Nat => ST x0 c d (2 ^ j - 1)) (fun j => j ≤ 64 ∧ ∀ i, i < j → c / 2 ^ i ≠ d / 2 ^ i) (fun j => 64 - j) (fun j e s' => ∃ k, KP c d k ∧ e = .exit 0 ∧ s' = ST x0 c d (2 ^ k - 1)) ?_ 0 ⟨by omega, fun i h => by omega⟩
  · exact key
  · intro j ⟨hj, hne⟩
    refine rndL_sound (gm := true) (Lt := []) (f := 90) (ks := [0, 1, 2, 3]) (n := 2) good tal eez lok_nil (by kernel_rfl) ?_
    have hp : (0 : Int) < 2 ^ j := Int.pow_pos (by decide)
    have hn : ∀ z, u6 z → 0 ≤ z % 2 ^ j ∧ z % 2 ^ j ≤ z := fun z hz => ⟨Int.emod_nonneg _ (by omega), by
      have e := Int.mul_ediv_add_emod z (2 ^ j)
      have := Int.mul_nonneg (Int.le_of_lt hp) (Int.ediv_nonneg hz.1 (Int.le_of_lt hp))
      omega⟩
    have fin : ∀ Q, nRt x0 c d (2 ^ j - 1) Q → rndL Try.prog TAl EEz true [] 90 [0, 1, 2, 3] 2 bodyT (ST x0 c d (2 ^ j - 1)) Q := fun Q h => by unfold nRt at h; exact h
    refine fin _ ?_
    rw [nRt_eq]
    have small : j < 64 → (2 : Int) ^ j ≤ 9223372036854775808 := fun h => by
      have a : (2 : Int) ^ j = ((2 ^ j : Nat) : Int) := by simp
      have b : 2 ^ j ≤ 2 ^ 63 := Nat.pow_le_pow_right (by decide) (by omega)
      rw [a]; omega
    have big : ¬ j < 64 → (2 : Int) ^ j = 18446744073709551616 := fun h => by
      obtain rfl : j = 64 := by omega
      decide
    have lt : (2 : Int) ^ j - 1 < 18446744073709551615 → j < 64 := fun h => Classical.byContradiction fun h2 => by have := big h2; omega
    have wn : j < 64 → IntKind.wrap .u64 (2 ^ j - 1 + 1) = 2 ^ j := fun h => by rw [uW]; have := small h; omega
    have hz : decide ((2 : Int) ^ j - 1 < 18446744073709551615) = true → (IntKind.wrap .u64 (2 ^ j - 1 + 1) != 0) = true := fun h => by
      rw [wn (lt (of_decide_eq_true h))]; simpa using (by omega : ¬ (2 : Int) ^ j = 0)
    repeat (first | with_reducible refine ob_self ?_ | with_reducible refine ob_true ?_ | with_reducible refine ob_mk hz ?_)
    refine fun r hr => br_cases (fun q => ?_) (fun q => ?_)
    · have hB : decide ((2 : Int) ^ j - 1 < 18446744073709551615) = true := by
        cases hb : decide ((2 : Int) ^ j - 1 < 18446744073709551615) with
        | true => rfl
        | false => rw [hb] at hr; rw [hr] at q; cases q
      have hj2 := lt (of_decide_eq_true hB)
      rw [hB, wn hj2, Int.tmod_eq_emod_of_nonneg hc.1, Int.tmod_eq_emod_of_nonneg hd.1] at hr
      have h1 := hn c hc; have h2 := hn d hd
      have e1 := Int.mul_ediv_add_emod c (2 ^ j)
      have e2 := Int.mul_ediv_add_emod d (2 ^ j)
      have hne2 : c / 2 ^ j ≠ d / 2 ^ j := fun e => by
        rw [e] at e1
        have : c - c % 2 ^ j = d - d % 2 ^ j := by omega
        rw [this] at hr
        rw [hr] at q; simp at q
      refine Or.inr ⟨rfl, j + 1, ?_, ⟨by omega, fun i hi => ?_⟩, by omega, fun _ _ h => h⟩
      · have e : IntKind.wrap .u64 (IntKind.wrap .u64 (2 * (2 ^ j - 1)) + 1) = 2 ^ (j + 1) - 1 := by
          have := small hj2
          rw [uW, uW, Int.pow_succ]; omega
        rw [e]; rfl
      · by_cases hij : i = j
        · subst hij; exact hne2
        · exact hne i (by omega)
    · refine Or.inl ⟨by simp, j, ⟨hj, ?_, hne⟩, rfl, rfl⟩
      by_cases hj2 : j < 64
      · have hB : decide ((2 : Int) ^ j - 1 < 18446744073709551615) = true := decide_eq_true (by have := small hj2; omega)
        rw [hB, wn hj2, Int.tmod_eq_emod_of_nonneg hc.1, Int.tmod_eq_emod_of_nonneg hd.1, uW, uW] at hr
        have h1 := hn c hc; have h2 := hn d hd
        have e1 := Int.mul_ediv_add_emod c (2 ^ j)
        have e2 := Int.mul_ediv_add_emod d (2 ^ j)
        rw [hr] at q
        have q : (c - c % 2 ^ j) % 18446744073709551616 = (d - d % 2 ^ j) % 18446744073709551616 := by simpa using q
        have hc' := hc; have hd' := hd
        unfold u6 at hc' hd'
        have q2 : 2 ^ j * (c / 2 ^ j) = 2 ^ j * (d / 2 ^ j) := by omega
        exact Int.eq_of_mul_eq_mul_left (by omega) q2
      · rw [big hj2]
        unfold u6 at hc hd
        omega
end Go.Proofs.Ytnephcecobocdaa.VZy
end
section
/- Layer 5, against the reference: ref04.ToT and span.ToT, run. -/
namespace Go.Proofs.Ytnephcecobocdaa.VZo
open Go Go.RowKit Go.Proofs Go.Proofs.Ytnephcecobocdaa.Xc Go.Proofs.Ytnephcecobocdaa.VZs Go.Proofs.Ytnephcecobocdaa.VZr Go.Proofs.Ytnephcecobocdaa.VZu Go.Proofs.Ytnephcecobocdaa.VZy
set_option maxRecDepth 100000
set_option linter.unusedVariables false
abbrev T2 (a b : Int) : Value := .agg #[.int .u64 a, .int .u64 b]
def pw (k : Nat) : Int := 2 ^ k - 1
def FT (s : St) (K : Exit → St → Prop) : Prop := match s with
  | ⟨.v x0 :: t, [[.v (.int .u64 c), .v (.int .u64 d)], r]⟩ => need (keep [0, 1, 2, 3] 100 ⟨.v x0 :: t, [[.v (.int .u64 c), .v (.int .u64 d)], r]⟩ = ST x0 c d 0) (need (u6 c ∧ u6 d) (al fun k => im (KP c d k) (K (.exit 0) (ST x0 c d (pw k)))))
  | _ => False
noncomputable def LtT : Loops := [(0, blk Try.prog 71 0, FT)]
def nRTT (c d : Int) (K : Value → Prop) : Prop := runL Try.prog TAl EEz true LtT 90 71 [T2 c d] K
theorem nRTT_eq (c d : Int) (K : Value → Prop) : nRTT c d K = (same (blk Go.Proofs.Try.prog 71 0) (blk Go.Proofs.Try.prog 71 0) (need (St.mk [AV.v (.agg (#[.int .u64 c, .int .u64 d])), AV.p 0 0, AV.p 1 0, AV.v (.int .u64 0), AV.any, AV.any, AV.any, AV.any, AV.any, AV.any, AV.any, AV.any, AV.any, AV.any, AV.any, AV.any, AV.any, AV.any, AV.any, AV.any, AV.any, AV.any, AV.any, AV.any, AV.any, AV.any, AV.any, AV.any, AV.any, AV.any, AV.any, AV.any, AV.any, AV.any, AV.any, AV.any, AV.any, AV.any, AV.any, AV.any, AV.any, AV.any, AV.any, AV.any, AV.any, AV.any] [[AV.v (.int .u64 c), AV.v (.int .u64 d)], [AV.v (.int .u64 0), AV.v (.int .u64 0)]] = St.mk [AV.v (.agg (#[.int .u64 c, .int .u64 d])), AV.p 0 0, AV.p 1 0, AV.v (.int .u64 0), AV.any, AV.any, AV.any, AV.any, AV.any, AV.any, AV.any, AV.any, AV.any, AV.any, AV.any, AV.any, AV.any, AV.any, AV.any, AV.any, AV.any, AV.any, AV.any, AV.any, AV.any, AV.any, AV.any, AV.any, AV.any, AV.any, AV.any, AV.any, AV.any, AV.any, AV.any, AV.any, AV.any, AV.any, AV.any, AV.any, AV.any, AV.any, AV.any, AV.any, AV.any, AV.any] [[AV.v (.int .u64 c), AV.v (.int .u64 d)], [AV.v (.int .u64 0), AV.v (.int .u64 0)]]) (need (Go.Proofs.Ytnephcecobocdaa.VZu.u6 c ∧ Go.Proofs.Ytnephcecobocdaa.VZu.u6 d) (al fun x => im (Go.Proofs.Ytnephcecobocdaa.VZy.KP c d x) (br (Go.Proofs.Ytnephcecobocdaa.VZo.pw x == 18446744073709551615) (K (.agg (#[.int .u64 0, .int .u64 (Go.Proofs.Ytnephcecobocdaa.VZo.pw x)]))) (ob true (IntKind.wrap .u64 (Go.Proofs.Ytnephcecobocdaa.VZo.pw x + 1) != 0) (K (.agg (#[.int .u64 (IntKind.wrap .u64 (c - Int.tmod c (IntKind.wrap .u64 (Go.Proofs.Ytnephcecobocdaa.VZo.pw x + 1)))), .int .u64 (Go.Proofs.Ytnephcecobocdaa.VZo.pw x)]))))))))) := by kernel_rfl
end Go.Proofs.Ytnephcecobocdaa.VZo
end
section
/- Layer 5, against the reference: the plain parts of Norm, on both sides, run. -/
namespace Go.Proofs.Ytnephcecobocdaa.VZq
open Go Go.RowKit Go.Proofs Go.Proofs.Ytnephcecobocdaa.Xc Go.Proofs.Ytnephcecobocdaa.VZs Go.Proofs.Ytnephcecobocdaa.VZo
set_option maxRecDepth 100000
set_option linter.unusedVariables false
abbrev S2 (a b : Int) : Value := .agg #[.int .i64 a, .int .i64 b]
def nUMeet1 (a b c d : Int) (K : Value → Prop) : Prop := run Try.prog [] EEz true 90 24 [T2 a b, T2 c d] K
theorem nUMeet1_eq (a b c d : Int) (K : Value → Prop) : nUMeet1 a b c d K = (br (!decide ((if c > a then c else a) ≤ if d < b then d else b)) (K (.tuple (#[.agg (#[.int .u64 0, .int .u64 0]), .bool false]))) (K (.tuple (#[.agg (#[.int .u64 (if c > a then c else a), .int .u64 (if d < b then d else b)]), .bool true])))) := by kernel_rfl
def nUMeet2 (a b c d : Int) (K : Value → Prop) : Prop := run Try.prog [] EEz true 90 56 [T2 a b, T2 c d] K
theorem nUMeet2_eq (a b c d : Int) (K : Value → Prop) : nUMeet2 a b c d K = (br (decide (c > a)) (br (decide (d < b)) (br (decide (c > d)) (K (.tuple (#[.agg (#[.int .u64 0, .int .u64 0]), .bool false]))) (K (.tuple (#[.agg (#[.int .u64 c, .int .u64 d]), .bool true])))) (br (decide (c > b)) (K (.tuple (#[.agg (#[.int .u64 0, .int .u64 0]), .bool false]))) (K (.tuple (#[.agg (#[.int .u64 c, .int .u64 b]), .bool true]))))) (br (decide (d < b)) (br (decide (a > d)) (K (.tuple (#[.agg (#[.int .u64 0, .int .u64 0]), .bool false]))) (K (.tuple (#[.agg (#[.int .u64 a, .int .u64 d]), .bool true])))) (br (decide (a > b)) (K (.tuple (#[.agg (#[.int .u64 0, .int .u64 0]), .bool false]))) (K (.tuple (#[.agg (#[.int .u64 a, .int .u64 b]), .bool true])))))) := by kernel_rfl
def nSMeet1 (a b c d : Int) (K : Value → Prop) : Prop := run Try.prog [] EEz true 90 27 [S2 a b, S2 c d] K
theorem nSMeet1_eq (a b c d : Int) (K : Value → Prop) : nSMeet1 a b c d K = (br (!decide ((if c > a then c else a) ≤ if d < b then d else b)) (K (.tuple (#[.agg (#[.int .i64 0, .int .i64 0]), .bool false]))) (K (.tuple (#[.agg (#[.int .i64 (if c > a then c else a), .int .i64 (if d < b then d else b)]), .bool true])))) := by kernel_rfl
def nSMeet2 (a b c d : Int) (K : Value → Prop) : Prop := run Try.prog [] EEz true 90 30 [S2 a b, S2 c d] K
theorem nSMeet2_eq (a b c d : Int) (K : Value → Prop) : nSMeet2 a b c d K = (br (decide (c > a)) (br (decide (d < b)) (br (decide (c > d)) (K (.tuple (#[.agg (#[.int .i64 0, .int .i64 0]), .bool false]))) (K (.tuple (#[.agg (#[.int .i64 c, .int .i64 d]), .bool true])))) (br (decide (c > b)) (K (.tuple (#[.agg (#[.int .i64 0, .int .i64 0]), .bool false]))) (K (.tuple (#[.agg (#[.int .i64 c, .int .i64 b]), .bool true]))))) (br (decide (d < b)) (br (decide (a > d)) (K (.tuple (#[.agg (#[.int .i64 0, .int .i64 0]), .bool false]))) (K (.tuple (#[.agg (#[.int .i64 a, .int .i64 d]), .bool true])))) (br (decide (a > b)) (K (.tuple (#[.agg (#[.int .i64 0, .int .i64 0]), .bool false]))) (K (.tuple (#[.agg (#[.int .i64 a, .int .i64 b]), .bool true])))))) := by kernel_rfl
def nToU1 (a b : Int) (K : Value → Prop) : Prop := run Try.prog [] EEz true 90 22 [S2 a b] K
theorem nToU1_eq (a b : Int) (K : Value → Prop) : nToU1 a b K = (br (!decide (a < 0) == decide (b < 0)) (K (.agg (#[.int .u64 0, .int .u64 18446744073709551615]))) (K (.agg (#[.int .u64 (IntKind.wrap .u64 a), .int .u64 (IntKind.wrap .u64 b)])))) := by kernel_rfl
def nToU2 (a b : Int) (K : Value → Prop) : Prop := run Try.prog [] EEz true 90 37 [S2 a b] K
theorem nToU2_eq (a b : Int) (K : Value → Prop) : nToU2 a b K = (ob (decide (a < 0)) (decide (a < 0)) (ob (decide (a < 0)) (decide (a < 0)) (ob (decide (a < 0)) (decide (a < 0)) (ob (!decide (a < 0)) true (nm (bif decide (a < 0) then decide (b ≥ 0) else false) fun r => br r (K (.agg (#[.int .u64 0, .int .u64 18446744073709551615]))) (K (.agg (#[.int .u64 (IntKind.wrap .u64 a), .int .u64 (IntKind.wrap .u64 b)])))))))) := by kernel_rfl
def nToS1 (a b : Int) (K : Value → Prop) : Prop := run Try.prog [] EEz true 90 49 [T2 a b] K
theorem nToS1_eq (a b : Int) (K : Value → Prop) : nToS1 a b K = (ob true true (ob true true (br (a / 2 ^ min (Int.toNat 63) (IntKind.bits .u64) != b / 2 ^ min (Int.toNat 63) (IntKind.bits .u64)) (K (.agg (#[.int .i64 (-9223372036854775808), .int .i64 9223372036854775807]))) (K (.agg (#[.int .i64 (IntKind.wrap .i64 a), .int .i64 (IntKind.wrap .i64 b)])))))) := by kernel_rfl
def nToS2 (a b : Int) (K : Value → Prop) : Prop := run Try.prog [] EEz true 90 70 [T2 a b] K
theorem nToS2_eq (a b : Int) (K : Value → Prop) : nToS2 a b K = (br (!decide (a < 9223372036854775808) == decide (b < 9223372036854775808)) (K (.agg (#[.int .i64 (-9223372036854775808), .int .i64 9223372036854775807]))) (K (.agg (#[.int .i64 (IntKind.wrap .i64 a), .int .i64 (IntKind.wrap .i64 b)])))) := by kernel_rfl
def nFromT1 (a b : Int) (K : Value → Prop) : Prop := run Try.prog [] EEz true 90 12 [T2 a b] K
theorem nFromT1_eq (a b : Int) (K : Value → Prop) : nFromT1 a b K = (br (Go.bits .and .u64 b 9223372036854775808 == 0) (K (.tuple (#[.agg (#[.int .u64 a, .int .u64 (Go.bits .or .u64 a b)]), .agg (#[.int .i64 (IntKind.wrap .i64 a), .int .i64 (IntKind.wrap .i64 (Go.bits .or .u64 a b))])]))) (K (.tuple (#[.agg (#[.int .u64 a, .int .u64 (Go.bits .or .u64 a b)]), .agg (#[.int .i64 (IntKind.wrap .i64 (Go.bits .or .u64 a 9223372036854775808)), .int .i64 (IntKind.wrap .i64 (Go.bits .or .u64 a (Go.bits .andNot .u64 b 9223372036854775808)))])])))) := by kernel_rfl
def nFromT2 (a b : Int) (K : Value → Prop) : Prop := run Try.prog [] EEz true 90 13 [T2 a b] K
theorem nFromT2_eq (a b : Int) (K : Value → Prop) : nFromT2 a b K = (br (decide (b < 9223372036854775808)) (K (.tuple (#[.agg (#[.int .u64 a, .int .u64 (IntKind.wrap .u64 (a + b))]), .agg (#[.int .i64 (IntKind.wrap .i64 a), .int .i64 (IntKind.wrap .i64 (IntKind.wrap .u64 (a + b)))])]))) (K (.tuple (#[.agg (#[.int .u64 a, .int .u64 (IntKind.wrap .u64 (a + b))]), .agg (#[.int .i64 (IntKind.wrap .i64 (IntKind.wrap .u64 (a + 9223372036854775808))), .int .i64 (IntKind.wrap .i64 (IntKind.wrap .u64 (a + IntKind.wrap .u64 (b - 9223372036854775808))))])])))) := by kernel_rfl
end Go.Proofs.Ytnephcecobocdaa.VZq
end
section
/- Layer 5, against the reference: the code's ToT, run. -/
namespace Go.Proofs.Ytnephcecobocdaa.VZbb
open Go Go.RowKit Go.Proofs Go.Proofs.Ytnephcecobocdaa.Xc Go.Proofs.Ytnephcecobocdaa.VZs Go.Proofs.Ytnephcecobocdaa.VZo
set_option linter.unusedVariables false
set_option maxRecDepth 100000
/-- The table of lengths. -/
def lit8 : ByteArray := ByteArray.mk (List.toArray (List.append (List.append [0, 1, 2, 2, 3, 3, 3, 3, 4, 4, 4, 4, 4, 4, 4, 4, 5, 5, 5, 5, 5, 5, 5, 5, 5, 5, 5, 5, 5, 5, 5, 5, 6, 6, 6, 6, 6, 6, 6, 6, 6, 6, 6, 6, 6, 6, 6, 6, 6, 6, 6, 6, 6, 6, 6, 6, 6, 6, 6, 6, 6, 6, 6, 6] [7, 7, 7, 7, 7, 7, 7, 7, 7, 7, 7, 7, 7, 7, 7, 7, 7, 7, 7, 7, 7, 7, 7, 7, 7, 7, 7, 7, 7, 7, 7, 7, 7, 7, 7, 7, 7, 7, 7, 7, 7, 7, 7, 7, 7, 7, 7, 7, 7, 7, 7, 7, 7, 7, 7, 7, 7, 7, 7, 7, 7, 7, 7, 7]) (List.append [8, 8, 8, 8, 8, 8, 8, 8, 8, 8, 8, 8, 8, 8, 8, 8, 8, 8, 8, 8, 8, 8, 8, 8, 8, 8, 8, 8, 8, 8, 8, 8, 8, 8, 8, 8, 8, 8, 8, 8, 8, 8, 8, 8, 8, 8, 8, 8, 8, 8, 8, 8, 8, 8, 8, 8, 8, 8, 8, 8, 8, 8, 8, 8] [8, 8, 8, 8, 8, 8, 8, 8, 8, 8, 8, 8, 8, 8, 8, 8, 8, 8, 8, 8, 8, 8, 8, 8, 8, 8, 8, 8, 8, 8, 8, 8, 8, 8, 8, 8, 8, 8, 8, 8, 8, 8, 8, 8, 8, 8, 8, 8, 8, 8, 8, 8, 8, 8, 8, 8, 8, 8, 8, 8, 8, 8, 8, 8])))
def LenP (x : Int) (k : Int) : Prop := 0 ≤ k ∧ k ≤ 64 ∧ x < 2 ^ k.toNat ∧ (k = 0 ∨ 2 ^ (k.toNat - 1) ≤ x)
def BelP (x m : Int) : Prop := ∃ k : Nat, k ≤ 64 ∧ m = 2 ^ k - 1 ∧ x < 2 ^ k ∧ (k = 0 ∨ 2 ^ (k - 1) ≤ x)
def nLen64 (x : Int) (K : Value → Prop) : Prop := run Try.prog [] EEz false 90 94 [.int .u64 x] K
noncomputable abbrev TB : Tab := [(94, fun vs K => match vs with
  | [.int .u64 x] => need (0 ≤ x ∧ x < 18446744073709551616) (al fun k => im (LenP x k) (K (.int .i64 k)))
  | _ => False)]
theorem nLen64_eq (x : Int) (K : Value → Prop) : nLen64 x K = (br (decide (x ≥ 4294967296)) (ob true true (br (decide (x / 2 ^ min (Int.toNat 32) (IntKind.bits .u64) ≥ 65536)) (ob true true (br (decide (x / 2 ^ min (Int.toNat 32) (IntKind.bits .u64) / 2 ^ min (Int.toNat 16) (IntKind.bits .u64) ≥ 256)) (ob true true (ob true (decide (0 ≤ IntKind.wrap .u8 (x / 2 ^ min (Int.toNat 32) (IntKind.bits .u64) / 2 ^ min (Int.toNat 16) (IntKind.bits .u64) / 2 ^ min (Int.toNat 8) (IntKind.bits .u64))) && decide (IntKind.wrap .u8 (x / 2 ^ min (Int.toNat 32) (IntKind.bits .u64) / 2 ^ min (Int.toNat 16) (IntKind.bits .u64) / 2 ^ min (Int.toNat 8) (IntKind.bits .u64)) < (↑(ByteArray.size lit8) : Int))) (K (.int .i64 (IntKind.wrap .i64 (IntKind.wrap .i64 (IntKind.wrap .i64 (32 + 16) + 8) + IntKind.wrap .i64 (byteAt lit8 (IntKind.wrap .u8 (x / 2 ^ min (Int.toNat 32) (IntKind.bits .u64) / 2 ^ min (Int.toNat 16) (IntKind.bits .u64) / 2 ^ min (Int.toNat 8) (IntKind.bits .u64)))))))))) (ob true (decide (0 ≤ IntKind.wrap .u8 (x / 2 ^ min (Int.toNat 32) (IntKind.bits .u64) / 2 ^ min (Int.toNat 16) (IntKind.bits .u64))) && decide (IntKind.wrap .u8 (x / 2 ^ min (Int.toNat 32) (IntKind.bits .u64) / 2 ^ min (Int.toNat 16) (IntKind.bits .u64)) < (↑(ByteArray.size lit8) : Int))) (K (.int .i64 (IntKind.wrap .i64 (IntKind.wrap .i64 (32 + 16) + IntKind.wrap .i64 (byteAt lit8 (IntKind.wrap .u8 (x / 2 ^ min (Int.toNat 32) (IntKind.bits .u64) / 2 ^ min (Int.toNat 16) (IntKind.bits .u64))))))))))) (br (decide (x / 2 ^ min (Int.toNat 32) (IntKind.bits .u64) ≥ 256)) (ob true true (ob true (decide (0 ≤ IntKind.wrap .u8 (x / 2 ^ min (Int.toNat 32) (IntKind.bits .u64) / 2 ^ min (Int.toNat 8) (IntKind.bits .u64))) && decide (IntKind.wrap .u8 (x / 2 ^ min (Int.toNat 32) (IntKind.bits .u64) / 2 ^ min (Int.toNat 8) (IntKind.bits .u64)) < (↑(ByteArray.size lit8) : Int))) (K (.int .i64 (IntKind.wrap .i64 (IntKind.wrap .i64 (32 + 8) + IntKind.wrap .i64 (byteAt lit8 (IntKind.wrap .u8 (x / 2 ^ min (Int.toNat 32) (IntKind.bits .u64) / 2 ^ min (Int.toNat 8) (IntKind.bits .u64)))))))))) (ob true (decide (0 ≤ IntKind.wrap .u8 (x / 2 ^ min (Int.toNat 32) (IntKind.bits .u64))) && decide (IntKind.wrap .u8 (x / 2 ^ min (Int.toNat 32) (IntKind.bits .u64)) < (↑(ByteArray.size lit8) : Int))) (K (.int .i64 (IntKind.wrap .i64 (32 + IntKind.wrap .i64 (byteAt lit8 (IntKind.wrap .u8 (x / 2 ^ min (Int.toNat 32) (IntKind.bits .u64)))))))))))) (br (decide (x ≥ 65536)) (ob true true (br (decide (x / 2 ^ min (Int.toNat 16) (IntKind.bits .u64) ≥ 256)) (ob true true (ob true (decide (0 ≤ IntKind.wrap .u8 (x / 2 ^ min (Int.toNat 16) (IntKind.bits .u64) / 2 ^ min (Int.toNat 8) (IntKind.bits .u64))) && decide (IntKind.wrap .u8 (x / 2 ^ min (Int.toNat 16) (IntKind.bits .u64) / 2 ^ min (Int.toNat 8) (IntKind.bits .u64)) < (↑(ByteArray.size lit8) : Int))) (K (.int .i64 (IntKind.wrap .i64 (IntKind.wrap .i64 (IntKind.wrap .i64 (0 + 16) + 8) + IntKind.wrap .i64 (byteAt lit8 (IntKind.wrap .u8 (x / 2 ^ min (Int.toNat 16) (IntKind.bits .u64) / 2 ^ min (Int.toNat 8) (IntKind.bits .u64)))))))))) (ob true (decide (0 ≤ IntKind.wrap .u8 (x / 2 ^ min (Int.toNat 16) (IntKind.bits .u64))) && decide (IntKind.wrap .u8 (x / 2 ^ min (Int.toNat 16) (IntKind.bits .u64)) < (↑(ByteArray.size lit8) : Int))) (K (.int .i64 (IntKind.wrap .i64 (IntKind.wrap .i64 (0 + 16) + IntKind.wrap .i64 (byteAt lit8 (IntKind.wrap .u8 (x / 2 ^ min (Int.toNat 16) (IntKind.bits .u64))))))))))) (br (decide (x ≥ 256)) (ob true true (ob true (decide (0 ≤ IntKind.wrap .u8 (x / 2 ^ min (Int.toNat 8) (IntKind.bits .u64))) && decide (IntKind.wrap .u8 (x / 2 ^ min (Int.toNat 8) (IntKind.bits .u64)) < (↑(ByteArray.size lit8) : Int))) (K (.int .i64 (IntKind.wrap .i64 (IntKind.wrap .i64 (0 + 8) + IntKind.wrap .i64 (byteAt lit8 (IntKind.wrap .u8 (x / 2 ^ min (Int.toNat 8) (IntKind.bits .u64)))))))))) (ob true (decide (0 ≤ IntKind.wrap .u8 x) && decide (IntKind.wrap .u8 x < (↑(ByteArray.size lit8) : Int))) (K (.int .i64 (IntKind.wrap .i64 (0 + IntKind.wrap .i64 (byteAt lit8 (IntKind.wrap .u8 x)))))))))) := by kernel_rfl
def nbelow (x : Int) (K : Value → Prop) : Prop := run Try.prog TB EEz true 90 90 [.int .u64 x] K
noncomputable abbrev TT : Tab := [(90, fun vs K => match vs with
  | [.int .u64 x] => need (0 ≤ x ∧ x < 18446744073709551616) (al fun m => im (BelP x m) (K (.int .u64 m)))
  | _ => False)]
theorem nbelow_eq (x : Int) (K : Value → Prop) : nbelow x K = (need (0 ≤ x ∧ x < 18446744073709551616) (al fun x_1 => im (Go.Proofs.Ytnephcecobocdaa.VZbb.LenP x x_1) (ob true (decide (0 ≤ x_1)) (K (.int .u64 (IntKind.wrap .u64 (IntKind.wrap .u64 (1 * 2 ^ min (Int.toNat x_1) (IntKind.bits .u64)) - 1))))))) := by kernel_rfl
def nToT (c d : Int) (K : Value → Prop) : Prop := run Try.prog TT EEz true 90 50 [T2 c d] K
theorem nToT_eq (c d : Int) (K : Value → Prop) : nToT c d K = (need (0 ≤ Go.bits .xor .u64 c d ∧ Go.bits .xor .u64 c d < 18446744073709551616) (al fun x => im (Go.Proofs.Ytnephcecobocdaa.VZbb.BelP (Go.bits .xor .u64 c d) x) (K (.agg (#[.int .u64 (Go.bits .andNot .u64 c x), .int .u64 x]))))) := by kernel_rfl
end Go.Proofs.Ytnephcecobocdaa.VZbb
end
section
/- Layer 5, against the reference: what ref04.ToT comes to. -/
namespace Go.Proofs.Ytnephcecobocdaa.VZp
open Go Go.RowKit Go.Proofs Go.Proofs.Ytnephcecobocdaa.Xc Go.Proofs.Ytnephcecobocdaa.VZs Go.Proofs.Ytnephcecobocdaa.VZr Go.Proofs.Ytnephcecobocdaa.VZu Go.Proofs.Ytnephcecobocdaa.VZv Go.Proofs.Ytnephcecobocdaa.VZy Go.Proofs.Ytnephcecobocdaa.VZo Go.Proofs.Ytnephcecobocdaa.Bv
set_option linter.unusedVariables false
set_option linter.unusedSimpArgs false
theorem blkT : blk Try.prog 71 0 = .loop bodyT := by kernel_rfl
theorem okST (x0 : Value) (c d n : Int) : okSt (ST x0 c d n) = true := by kernel_rfl
theorem lokT : LOk Try.prog LtT := by
  refine lok_one fun s K hF => ?_
  unfold FT at hF
  split at hF
  · rename_i x0 t c d r
    obtain ⟨hs, ⟨hc, hd⟩, hK⟩ := hF
    obtain ⟨e, s', ⟨k, hk, rfl, rfl⟩, hl⟩ := loopT x0 c d hc hd
    refine ⟨_, _, hK k hk, ?_⟩
    rw [blkT]
    refine keep_pre (ks := [0, 1, 2, 3]) (n := 100) (show 2 ≤ 100 by decide) (by rw [hs]; exact okST _ _ _ _) ?_
    rw [hs]
    exact lw_of hl
  · exact hF.elim
/-- ToT, exactly. -/
theorem rRTT (c d : Int) (K : Value → Prop) (hc : u6 c) (hd : u6 d) (h : ∀ k, KP c d k → K (T2 (c - c % 2 ^ k) (2 ^ k - 1))) : nRTT c d K := by
  rw [nRTT_eq]
  refine ⟨rfl, rfl, ⟨hc, hd⟩, fun k hk => ?_⟩
  have hk64 := hk.le
  have small : k < 64 → (2 : Int) ^ k ≤ 9223372036854775808 := fun h => by
    have a : (2 : Int) ^ k = ((2 ^ k : Nat) : Int) := by simp
    have b : 2 ^ k ≤ 2 ^ 63 := Nat.pow_le_pow_right (by decide) (by omega)
    rw [a]; omega
  have big : ¬ k < 64 → (2 : Int) ^ k = 18446744073709551616 := fun h => by
    obtain rfl : k = 64 := by omega
    decide
  have hp : (0 : Int) < 2 ^ k := Int.pow_pos (by decide)
  have h := h k hk
  unfold pw
  refine br_cases (fun q => ?_) (fun q => ?_)
  · have q : (2 : Int) ^ k - 1 = 18446744073709551615 := by simpa using q
    have e : c - c % 2 ^ k = 0 := by rw [show (2 : Int) ^ k = 18446744073709551616 by omega]; unfold u6 at hc; omega
    rw [e] at h; exact h
  · have q : ¬ (2 : Int) ^ k - 1 = 18446744073709551615 := by simpa using q
    have hk2 : k < 64 := Classical.byContradiction fun h2 => q (by rw [big h2]; omega)
    have e : IntKind.wrap .u64 (2 ^ k - 1 + 1) = 2 ^ k := by rw [uW]; have := small hk2; omega
    rw [e, Int.tmod_eq_emod_of_nonneg hc.1]
    have e1 := Int.mul_ediv_add_emod c (2 ^ k)
    have e2 := Int.mul_nonneg (Int.le_of_lt hp) (Int.ediv_nonneg hc.1 (Int.le_of_lt hp))
    have e3 : IntKind.wrap .u64 (c - c % 2 ^ k) = c - c % 2 ^ k := by
      have := Int.emod_nonneg c (show (2 : Int) ^ k ≠ 0 by omega)
      rw [uW]; unfold u6 at hc; omega
    rw [e3]
    exact ob_mk (fun _ => by simpa using (by omega : ¬ (2 : Int) ^ k = 0)) h
end Go.Proofs.Ytnephcecobocdaa.VZp
end
section
/- Layer 5, against the reference: the code's ToT is the reference's. -/
namespace Go.Proofs.Ytnephcecobocdaa.VZbc
open Go Go.RowKit Go.Proofs Go.Proofs.Ytnephcecobocdaa.Xc Go.Proofs.Ytnephcecobocdaa.VZs Go.Proofs.Ytnephcecobocdaa.VZu Go.Proofs.Ytnephcecobocdaa.VZv Go.Proofs.Ytnephcecobocdaa.VZo Go.Proofs.Ytnephcecobocdaa.VZy Go.Proofs.Ytnephcecobocdaa.VZbb Go.Proofs.Ytnephcecobocdaa.Bv
set_option linter.unusedVariables false
set_option linter.unusedSimpArgs false
theorem lit_ok : ∀ i : Nat, i < 256 → 0 ≤ byteAt lit8 (i : Int) ∧ byteAt lit8 (i : Int) ≤ 8 ∧ i < 2 ^ (byteAt lit8 (i : Int)).toNat ∧ (byteAt lit8 (i : Int) = 0 ∨ 2 ^ ((byteAt lit8 (i : Int)).toNat - 1) ≤ i) := by decide +kernel
theorem lit_size : (lit8.size : Int) = 256 := by kernel_rfl
theorem iW {n : Int} (h0 : 0 ≤ n) (h1 : n < 1000) : IntKind.i64.wrap n = n := by
  simp [IntKind.wrap, IntKind.signed, IntKind.bits]; omega
/-- The last step: a byte is left. -/
theorem len_fin {x s q r : Int} {K : Value → Prop} (h : ∀ k, LenP x k → K (.int .i64 k)) (n : Nat) (hs : s = n) (hn : n ≤ 56) (hq : q = x / 2 ^ n) (h0 : 0 ≤ q) (h1 : q < 256) (hz : n = 0 ∨ 1 ≤ q) (hr : r = q) : ob true (decide (0 ≤ r) && decide (r < (lit8.size : Int))) (K (.int .i64 (IntKind.i64.wrap (s + IntKind.i64.wrap (byteAt lit8 r))))) := by
  subst hr; subst hs
  rw [lit_size]
  refine ob_mk (fun _ => by simp; omega) ?_
  obtain ⟨i, rfl⟩ : ∃ i : Nat, r = i := ⟨r.toNat, by omega⟩
  obtain ⟨k1, k2, k3, k4⟩ := lit_ok i (by omega)
  generalize hL : byteAt lit8 (i : Int) = L at *
  obtain ⟨l, rfl⟩ : ∃ l : Nat, L = l := ⟨L.toNat, by omega⟩
  have e1 : IntKind.i64.wrap (l : Int) = l := iW (by omega) (by omega)
  have e2 : IntKind.i64.wrap ((n : Int) + l) = ((n + l : Nat) : Int) := by rw [iW (by omega) (by omega)]; omega
  rw [e1, e2]
  have hp : (0 : Int) < 2 ^ n := Int.pow_pos (by decide)
  simp only [Int.toNat_natCast] at k3 k4
  have hxl : (i : Int) * 2 ^ n ≤ x := by
    have := Int.ediv_mul_le x (b := 2 ^ n) (by omega)
    rw [← hq] at this; exact this
  refine h _ ⟨by omega, by omega, ?_, ?_⟩
  · simp only [Int.toNat_natCast]
    have h4 : x < (i + 1 : Int) * 2 ^ n := by
      have := Int.lt_ediv_add_one_mul_self x hp
      rw [← hq] at this; exact this
    have h6 : (i : Int) + 1 ≤ 2 ^ l := by
      have : ((i + 1 : Nat) : Int) ≤ ((2 ^ l : Nat) : Int) := by omega
      simpa using this
    have h5 : ((i : Int) + 1) * 2 ^ n ≤ 2 ^ l * 2 ^ n := Int.mul_le_mul_of_nonneg_right h6 (Int.le_of_lt hp)
    have h7 : (2 : Int) ^ (n + l) = 2 ^ l * 2 ^ n := by rw [Int.pow_add, Int.mul_comm]
    rw [h7]; omega
  · by_cases hl : l = 0
    · subst hl
      have : i = 0 := by simpa using k3
      left; omega
    · right
      simp only [Int.toNat_natCast]
      have k5 : 2 ^ (l - 1) ≤ i := by rcases k4 with k4 | k4 <;> omega
      have h6 : (2 : Int) ^ (l - 1) ≤ i := by
        have : ((2 ^ (l - 1) : Nat) : Int) ≤ (i : Int) := by omega
        simpa using this
      have h5 : (2 : Int) ^ (l - 1) * 2 ^ n ≤ i * 2 ^ n := Int.mul_le_mul_of_nonneg_right h6 (Int.le_of_lt hp)
      rw [show n + l - 1 = (l - 1) + n by omega, Int.pow_add]; omega
theorem rLen (x : Int) (K : Value → Prop) (h0 : 0 ≤ x) (h1 : x < 18446744073709551616) (h : ∀ k, LenP x k → K (.int .i64 k)) : nLen64 x K := by
  rw [nLen64_eq]
  have e32 : ∀ y : Int, y / 2 ^ min (Int.toNat 32) (IntKind.bits .u64) = y / 4294967296 := fun _ => rfl
  have e16 : ∀ y : Int, y / 2 ^ min (Int.toNat 16) (IntKind.bits .u64) = y / 65536 := fun _ => rfl
  have e8 : ∀ y : Int, y / 2 ^ min (Int.toNat 8) (IntKind.bits .u64) = y / 256 := fun _ => rfl
  have w8 : ∀ y : Int, 0 ≤ y → y < 256 → IntKind.wrap .u8 y = y := fun y h1 h2 => by
    simp [IntKind.wrap, IntKind.signed, IntKind.bits]; omega
  simp only [e32, e16, e8]
  refine br_cases (fun c1 => ?_) (fun c1 => ?_)
  all_goals (first | have c1 := of_decide_eq_true c1 | have c1 := of_decide_eq_false c1)
  · refine ob_self (br_cases (fun c2 => ?_) (fun c2 => ?_))
    all_goals (first | have c2 := of_decide_eq_true c2 | have c2 := of_decide_eq_false c2)
    · refine ob_self (br_cases (fun c3 => ?_) (fun c3 => ?_))
      all_goals (first | have c3 := of_decide_eq_true c3 | have c3 := of_decide_eq_false c3)
      · exact ob_self (len_fin h 56 rfl (by decide) (q := x / 4294967296 / 65536 / 256) (by omega) (by omega) (by omega) (by omega) (w8 _ (by omega) (by omega)))
      · exact len_fin h 48 rfl (by decide) (q := x / 4294967296 / 65536) (by omega) (by omega) (by omega) (by omega) (w8 _ (by omega) (by omega))
    · refine br_cases (fun c3 => ?_) (fun c3 => ?_)
      all_goals (first | have c3 := of_decide_eq_true c3 | have c3 := of_decide_eq_false c3)
      · exact ob_self (len_fin h 40 rfl (by decide) (q := x / 4294967296 / 256) (by omega) (by omega) (by omega) (by omega) (w8 _ (by omega) (by omega)))
      · exact len_fin h 32 rfl (by decide) (q := x / 4294967296) (by omega) (by omega) (by omega) (by omega) (w8 _ (by omega) (by omega))
  · refine br_cases (fun c2 => ?_) (fun c2 => ?_)
    all_goals (first | have c2 := of_decide_eq_true c2 | have c2 := of_decide_eq_false c2)
    · refine ob_self (br_cases (fun c3 => ?_) (fun c3 => ?_))
      all_goals (first | have c3 := of_decide_eq_true c3 | have c3 := of_decide_eq_false c3)
      · exact ob_self (len_fin h 24 rfl (by decide) (q := x / 65536 / 256) (by omega) (by omega) (by omega) (by omega) (w8 _ (by omega) (by omega)))
      · exact len_fin h 16 rfl (by decide) (q := x / 65536) (by omega) (by omega) (by omega) (by omega) (w8 _ (by omega) (by omega))
    · refine br_cases (fun c3 => ?_) (fun c3 => ?_)
      all_goals (first | have c3 := of_decide_eq_true c3 | have c3 := of_decide_eq_false c3)
      · exact ob_self (len_fin h 8 rfl (by decide) (q := x / 256) (by omega) (by omega) (by omega) (by omega) (w8 _ (by omega) (by omega)))
      · exact len_fin h 0 rfl (by decide) (q := x) (by omega) (by omega) (by omega) (by omega) (w8 _ (by omega) (by omega))
theorem tbl : TabOk Try.prog TB := by
  refine tab_runK good (by kernel_rfl) (fun vs K h => ?_) tab_nil
  split at h
  · rename_i x
    obtain ⟨⟨h0, h1⟩, h⟩ := h
    have o := rLen x K h0 h1 h
    unfold nLen64 at o; exact ⟨[], EEz, false, 90, tab_nil, eez, o⟩
  · exact h.elim
theorem rbelow (x : Int) (K : Value → Prop) (h0 : 0 ≤ x) (h1 : x < 18446744073709551616) (h : ∀ m, BelP x m → K (.int .u64 m)) : nbelow x K := by
  rw [nbelow_eq]
  refine ⟨⟨h0, h1⟩, fun k hk => ob_mk (fun _ => decide_eq_true hk.1) (h _ ⟨k.toNat, by have := hk.2.1; omega, ?_, hk.2.2.1, ?_⟩)⟩
  · obtain ⟨k0, k1, _⟩ := hk
    obtain ⟨n, rfl⟩ : ∃ n : Nat, k = n := ⟨k.toNat, by omega⟩
    rw [Int.toNat_natCast, show IntKind.bits .u64 = 64 from rfl, Nat.min_eq_left (by omega)]
    rw [uW, uW, Int.one_mul]
    by_cases hn : n = 64
    · subst hn; decide
    · have a : (2 : Int) ^ n = ((2 ^ n : Nat) : Int) := by simp
      have b : 2 ^ n ≤ 2 ^ 63 := Nat.pow_le_pow_right (by decide) (by omega)
      have c : 0 < 2 ^ n := Nat.pow_pos (by decide)
      rw [a]; omega
  · rcases hk.2.2.2 with e | e
    · left; omega
    · right; exact e
theorem ttl : TabOk Try.prog TT := by
  refine tab_runK good (by kernel_rfl) (fun vs K h => ?_) tab_nil
  split at h
  · rename_i x
    obtain ⟨⟨h0, h1⟩, h⟩ := h
    have o := rbelow x K h0 h1 h
    unfold nbelow at o; exact ⟨TB, EEz, true, 90, tbl, eez, o⟩
  · exact h.elim
theorem mask_bit (k i : Nat) (hk : k ≤ 64) (hi : i < 64) : (BitVec.ofInt 64 (2 ^ k - 1)).getLsbD i = decide (i < k) := by
  have e : (2 : Int) ^ k - 1 = ((2 ^ k - 1 : Nat) : Int) := by
    have : 0 < 2 ^ k := Nat.pow_pos (by decide)
    have a : (2 : Int) ^ k = ((2 ^ k : Nat) : Int) := by simp
    rw [a]; omega
  rw [e, oi_nat, BitVec.getLsbD_ofNat, Nat.testBit_two_pow_sub_one]
  simp [hi]
theorem pw_le {k : Nat} (hk : k ≤ 64) : (0 : Int) < 2 ^ k ∧ (2 : Int) ^ k ≤ 18446744073709551616 := by
  have a : (2 : Int) ^ k = ((2 ^ k : Nat) : Int) := by simp
  have b : 2 ^ k ≤ 2 ^ 64 := Nat.pow_le_pow_right (by decide) hk
  have c : 0 < 2 ^ k := Nat.pow_pos (by decide)
  rw [a]; omega
theorem U_mask {k : Nat} (hk : k ≤ 64) : U (BitVec.ofInt 64 (2 ^ k - 1)) = 2 ^ k - 1 := by
  have := pw_le hk
  rw [U_ofInt]; omega
theorem cut_low (C : W) {k : Nat} (hk : k ≤ 64) : U C - U C % 2 ^ k = U (C &&& ~~~ BitVec.ofInt 64 (2 ^ k - 1)) := by
  have e : C.toNat - C.toNat % 2 ^ k = (C &&& ~~~ BitVec.ofInt 64 (2 ^ k - 1)).toNat := by
    rw [show C.toNat - C.toNat % 2 ^ k = 2 ^ k * (C.toNat / 2 ^ k) by have := Nat.div_add_mod C.toNat (2 ^ k); omega]
    apply Nat.eq_of_testBit_eq; intro i
    rw [Nat.testBit_two_pow_mul, Nat.testBit_div_two_pow]
    by_cases hi : i < 64
    · show _ = (C &&& ~~~ BitVec.ofInt 64 (2 ^ k - 1)).getLsbD i
      rw [BitVec.getLsbD_and, BitVec.getLsbD_not, mask_bit k i hk hi, decide_eq_true hi]
      by_cases l : i < k
      · rw [decide_eq_true l, decide_eq_false (show ¬ i ≥ k by omega)]; simp
      · rw [decide_eq_false l, decide_eq_true (show i ≥ k by omega), show i - k + k = i by omega]
        simp; rfl
    · have h1 : ∀ X : W, X.toNat.testBit i = false := fun X => BitVec.getLsbD_of_ge X i (by omega)
      rw [h1]
      by_cases l : i ≥ k
      · rw [show i - k + k = i by omega, h1]; simp
      · simp [l]
  unfold U
  rw [← e]
  have a : (2 : Int) ^ k = ((2 ^ k : Nat) : Int) := by simp
  rw [a]
  have := Nat.mod_le C.toNat (2 ^ k)
  omega
theorem KP_uniq {c d : Int} {i j : Nat} (h : KP c d i) (k : KP c d j) : i = j := by
  rcases Nat.lt_trichotomy i j with l | l | l
  · exact absurd h.eq (k.ne i l)
  · exact l
  · exact absurd k.eq (h.ne j l)
/-- What an exclusive or tells of where two numbers differ. -/
theorem KP_of {C D : W} {k : Nat} (hk : k ≤ 64) (h1 : U (C ^^^ D) < 2 ^ k) (h2 : k = 0 ∨ 2 ^ (k - 1) ≤ U (C ^^^ D)) : KP (U C) (U D) k := by
  have key : ∀ i : Nat, U C / 2 ^ i = U D / 2 ^ i ↔ U (C ^^^ D) < 2 ^ i := by
    intro i
    have a : (2 : Int) ^ i = ((2 ^ i : Nat) : Int) := by simp
    have hp : 0 < 2 ^ i := Nat.pow_pos (by decide)
    unfold U
    rw [a, BitVec.toNat_xor]
    generalize C.toNat = x; generalize D.toNat = y
    have h3 : (x / 2 ^ i = y / 2 ^ i) ↔ (x ^^^ y) / 2 ^ i = 0 := by
      rw [Nat.xor_div_two_pow]
      constructor
      · intro e; rw [e, Nat.xor_self]
      · intro e
        apply Nat.eq_of_testBit_eq; intro j
        have := congrArg (fun n => n.testBit j) e
        simp only [Nat.testBit_xor, Nat.zero_testBit] at this
        generalize (x / 2 ^ i).testBit j = p at *; generalize (y / 2 ^ i).testBit j = q at *
        cases p <;> cases q <;> first | rfl | exact absurd this (by decide)
    have h4 : (x ^^^ y) / 2 ^ i = 0 ↔ x ^^^ y < 2 ^ i := by
      rw [Nat.div_eq_zero_iff]; omega
    constructor
    · intro e
      have e : x / 2 ^ i = y / 2 ^ i := by exact_mod_cast e
      have := h4.1 (h3.1 e); omega
    · intro e
      have e : x ^^^ y < 2 ^ i := by omega
      have := h3.2 (h4.2 e); exact_mod_cast this
  refine ⟨hk, (key k).2 h1, fun i hi e => ?_⟩
  have e := (key i).1 e
  rcases h2 with h2 | h2
  · omega
  · have : (2 : Int) ^ i ≤ 2 ^ (k - 1) := by
      have : 2 ^ i ≤ 2 ^ (k - 1) := Nat.pow_le_pow_right (by decide) (by omega)
      have a : ((2 ^ i : Nat) : Int) ≤ ((2 ^ (k - 1) : Nat) : Int) := by omega
      simpa using a
    omega
open Classical in
/-- The number of bits above which both are the same. -/
noncomputable def kpf (c d : Int) : Nat := if h : ∃ k, KP c d k then h.choose else 0
theorem kpf_eq {c d : Int} {k : Nat} (h : KP c d k) : kpf c d = k := by
  have e : ∃ k, KP c d k := ⟨k, h⟩
  unfold kpf; rw [dif_pos e]
  exact KP_uniq e.choose_spec h
noncomputable def ttV (c d : Int) : Int := c - c % 2 ^ kpf c d
noncomputable def ttM (c d : Int) : Int := 2 ^ kpf c d - 1
theorem ttV_eq {C D : W} {k : Nat} (h : KP (U C) (U D) k) : ttV (U C) (U D) = U (C &&& ~~~ BitVec.ofInt 64 (2 ^ k - 1)) ∧ ttM (U C) (U D) = U (BitVec.ofInt 64 (2 ^ k - 1)) := by
  unfold ttV ttM; rw [kpf_eq h, cut_low C h.le, U_mask h.le]; exact ⟨rfl, rfl⟩
/-- ToT of the code. -/
theorem rTT1 (C D : W) (K : Value → Prop) (h : K (T2 (ttV (U C) (U D)) (ttM (U C) (U D)))) : nToT (U C) (U D) K := by
  rw [nToT_eq]
  have e : Go.bits .xor .u64 (U C) (U D) = U (C ^^^ D) := by rw [b_xor, ofInt_U, ofInt_U]
  rw [e]
  refine ⟨⟨U_nonneg _, U_lt _⟩, fun m ⟨k, hk, hm, h1, h2⟩ => ?_⟩
  have q := KP_of hk h1 h2
  obtain ⟨e1, e2⟩ := ttV_eq q
  rw [e1, e2] at h
  subst hm
  rw [b_andNot, ofInt_U, ← U_mask hk]
  rw [ofInt_U]
  exact h
/-- ToT of the reference. -/
theorem rTT2 (c d : Int) (K : Value → Prop) (hc : u6 c) (hd : u6 d) (h : K (T2 (ttV c d) (ttM c d))) : nRTT c d K :=
  VZp.rRTT c d K hc hd fun k hk => by
    unfold ttV ttM at h
    rw [kpf_eq hk] at h; exact h
theorem KP_ex (C D : W) : ∃ k, KP (U C) (U D) k := by
  have key : ∀ n : Nat, n ≤ 64 → U (C ^^^ D) < 2 ^ n → ∃ k, KP (U C) (U D) k := by
    intro n
    induction n with
    | zero => intro _ h; exact ⟨0, KP_of (by omega) h (Or.inl rfl)⟩
    | succ n ih =>
      intro hn h
      by_cases l : U (C ^^^ D) < 2 ^ n
      · exact ih (by omega) l
      · exact ⟨n + 1, KP_of hn h (Or.inr (by rw [Nat.add_sub_cancel]; omega))⟩
  exact key 64 (by omega) (U_lt _)
end Go.Proofs.Ytnephcecobocdaa.VZbc
end
section
/- Layer 5, against the reference: the plain parts of Norm are the same on both sides. -/
namespace Go.Proofs.Ytnephcecobocdaa.VZqa
open Go Go.RowKit Go.Proofs Go.Proofs.Ytnephcecobocdaa.Xc Go.Proofs.Ytnephcecobocdaa.VZs Go.Proofs.Ytnephcecobocdaa.VZo Go.Proofs.Ytnephcecobocdaa.VZq Go.Proofs.Ytnephcecobocdaa.Bv
set_option linter.unusedVariables false
set_option linter.unusedSimpArgs false
/-- What both have. -/
def mk2 (k : IntKind) (K : Value → Prop) (a b c d : Int) : Prop := if max a c ≤ min b d then K (.tuple #[.agg #[.int k (max a c), .int k (min b d)], .bool true]) else K (.tuple #[.agg #[.int k 0, .int k 0], .bool false])
theorem m_yes {k : IntKind} {K : Value → Prop} {a b c d x y : Int} (h : mk2 k K a b c d) (h1 : max a c ≤ min b d) (e1 : x = max a c) (e2 : y = min b d) : K (.tuple #[.agg #[.int k x, .int k y], .bool true]) := by
  unfold mk2 at h; rw [if_pos h1] at h; rw [e1, e2]; exact h
theorem m_no {k : IntKind} {K : Value → Prop} {a b c d : Int} (h : mk2 k K a b c d) (h1 : ¬ max a c ≤ min b d) : K (.tuple #[.agg #[.int k 0, .int k 0], .bool false]) := by
  unfold mk2 at h; rw [if_neg h1] at h; exact h
theorem rU1 (a b c d : Int) (K : Value → Prop) (h : mk2 .u64 K a b c d) : nUMeet1 a b c d K := by
  rw [nUMeet1_eq]
  have e1 : (if c > a then c else a) = max a c := by split <;> omega
  have e2 : (if d < b then d else b) = min b d := by split <;> omega
  rw [e1, e2]
  refine br_cases (fun q => m_no h ?_) (fun q => m_yes h ?_ rfl rfl)
  · simpa using q
  · simpa using q
theorem rS1 (a b c d : Int) (K : Value → Prop) (h : mk2 .i64 K a b c d) : nSMeet1 a b c d K := by
  rw [nSMeet1_eq]
  have e1 : (if c > a then c else a) = max a c := by split <;> omega
  have e2 : (if d < b then d else b) = min b d := by split <;> omega
  rw [e1, e2]
  refine br_cases (fun q => m_no h ?_) (fun q => m_yes h ?_ rfl rfl)
  · simpa using q
  · simpa using q
theorem rU2 (a b c d : Int) (K : Value → Prop) (h : mk2 .u64 K a b c d) : nUMeet2 a b c d K := by
  rw [nUMeet2_eq]
  refine br_cases (fun q1 => ?_) (fun q1 => ?_) <;> refine br_cases (fun q2 => ?_) (fun q2 => ?_) <;> refine br_cases (fun q3 => m_no h ?_) (fun q3 => m_yes h ?_ ?_ ?_)
  all_goals (first | have q1 := of_decide_eq_true q1 | have q1 := of_decide_eq_false q1)
  all_goals (first | have q2 := of_decide_eq_true q2 | have q2 := of_decide_eq_false q2)
  all_goals (first | have q3 := of_decide_eq_true q3 | have q3 := of_decide_eq_false q3)
  all_goals omega
theorem rS2 (a b c d : Int) (K : Value → Prop) (h : mk2 .i64 K a b c d) : nSMeet2 a b c d K := by
  rw [nSMeet2_eq]
  refine br_cases (fun q1 => ?_) (fun q1 => ?_) <;> refine br_cases (fun q2 => ?_) (fun q2 => ?_) <;> refine br_cases (fun q3 => m_no h ?_) (fun q3 => m_yes h ?_ ?_ ?_)
  all_goals (first | have q1 := of_decide_eq_true q1 | have q1 := of_decide_eq_false q1)
  all_goals (first | have q2 := of_decide_eq_true q2 | have q2 := of_decide_eq_false q2)
  all_goals (first | have q3 := of_decide_eq_true q3 | have q3 := of_decide_eq_false q3)
  all_goals omega
end Go.Proofs.Ytnephcecobocdaa.VZqa
end
section
/- Layer 5, against the reference: ToU and ToS are the same on both sides. -/
namespace Go.Proofs.Ytnephcecobocdaa.VZqb
open Go Go.RowKit Go.Proofs Go.Proofs.Ytnephcecobocdaa.Xc Go.Proofs.Ytnephcecobocdaa.VZs Go.Proofs.Ytnephcecobocdaa.VZu Go.Proofs.Ytnephcecobocdaa.VZv Go.Proofs.Ytnephcecobocdaa.VZo Go.Proofs.Ytnephcecobocdaa.VZq Go.Proofs.Ytnephcecobocdaa.Bv
set_option linter.unusedVariables false
set_option linter.unusedSimpArgs false
def mkU (K : Value → Prop) (a b : Int) : Prop := if a < 0 ∧ 0 ≤ b then K (.agg #[.int .u64 0, .int .u64 18446744073709551615]) else K (.agg #[.int .u64 (IntKind.wrap .u64 a), .int .u64 (IntKind.wrap .u64 b)])
def mkS (K : Value → Prop) (a b : Int) : Prop := if a < 9223372036854775808 ∧ 9223372036854775808 ≤ b then K (.agg #[.int .i64 (-9223372036854775808), .int .i64 9223372036854775807]) else K (.agg #[.int .i64 (IntKind.wrap .i64 a), .int .i64 (IntKind.wrap .i64 b)])
theorem if_yes {p : Prop} [Decidable p] {A B : Prop} (h : if p then A else B) (hp : p) : A := by rw [if_pos hp] at h; exact h
theorem if_no {p : Prop} [Decidable p] {A B : Prop} (h : if p then A else B) (hp : ¬ p) : B := by rw [if_neg hp] at h; exact h
theorem rToU1 (a b : Int) (K : Value → Prop) (hab : a ≤ b) (h : mkU K a b) : nToU1 a b K := by
  rw [nToU1_eq]
  refine br_cases (fun q => if_yes h ?_) (fun q => if_no h ?_)
  · by_cases h1 : a < 0 <;> by_cases h2 : b < 0 <;> simp [h1, h2] at q <;> omega
  · by_cases h1 : a < 0 <;> by_cases h2 : b < 0 <;> simp [h1, h2] at q <;> omega
theorem rToU2 (a b : Int) (K : Value → Prop) (h : mkU K a b) : nToU2 a b K := by
  rw [nToU2_eq]
  repeat (first | with_reducible refine ob_self ?_ | with_reducible refine ob_true ?_)
  refine fun r hr => br_cases (fun q => if_yes h ?_) (fun q => if_no h ?_)
  · subst hr
    by_cases h1 : a < 0 <;> by_cases h2 : b < 0 <;> simp [h1, h2] at q <;> omega
  · subst hr
    by_cases h1 : a < 0 <;> by_cases h2 : b < 0 <;> simp [h1, h2] at q <;> omega
theorem rToS1 (a b : Int) (K : Value → Prop) (ha : u6 a) (hb : u6 b) (hab : a ≤ b) (h : mkS K a b) : nToS1 a b K := by
  rw [nToS1_eq]
  have e : ∀ z : Int, z / 2 ^ min (Int.toNat 63) (IntKind.bits .u64) = z / 9223372036854775808 := fun _ => rfl
  rw [e, e]
  unfold u6 at ha hb
  refine ob_self (ob_self (br_cases (fun q => if_yes h ?_) (fun q => if_no h ?_)))
  · have q : ¬ a / 9223372036854775808 = b / 9223372036854775808 := by simpa using q
    omega
  · have q : a / 9223372036854775808 = b / 9223372036854775808 := by simpa using q
    omega
theorem rToS2 (a b : Int) (K : Value → Prop) (hab : a ≤ b) (h : mkS K a b) : nToS2 a b K := by
  rw [nToS2_eq]
  refine br_cases (fun q => if_yes h ?_) (fun q => if_no h ?_)
  · by_cases h1 : a < 9223372036854775808 <;> by_cases h2 : b < 9223372036854775808 <;> simp [h1, h2] at q <;> omega
  · by_cases h1 : a < 9223372036854775808 <;> by_cases h2 : b < 9223372036854775808 <;> simp [h1, h2] at q <;> omega
end Go.Proofs.Ytnephcecobocdaa.VZqb
end
section
/- Layer 5, against the reference: FromT is the same on both sides. -/
namespace Go.Proofs.Ytnephcecobocdaa.VZqc
open Go Go.RowKit Go.Proofs Go.Proofs.Ytnephcecobocdaa.Xc Go.Proofs.Ytnephcecobocdaa.VZs Go.Proofs.Ytnephcecobocdaa.VZu Go.Proofs.Ytnephcecobocdaa.VZv Go.Proofs.Ytnephcecobocdaa.VZo Go.Proofs.Ytnephcecobocdaa.VZq Go.Proofs.Ytnephcecobocdaa.Bv
set_option linter.unusedVariables false
set_option linter.unusedSimpArgs false
theorem or_plus {A B : W} (h : A &&& B = 0#64) : Go.bits .or .u64 (U A) (U B) = IntKind.wrap .u64 (U A + U B) := by
  rw [b_or, ofInt_U, ofInt_U, wrap_u64, oi_add, ofInt_U, ofInt_U, BitVec.add_eq_or_of_and_eq_zero _ _ h]
theorem top_iff (B : W) : Go.bits .and .u64 (U B) 9223372036854775808 = 0 ↔ U B < 9223372036854775808 := by
  have h1 := BitVec.msb_eq_decide B
  have h2 := BitVec.msb_eq_getLsbD_last B
  rw [h1] at h2
  have hH : ∀ i, i < 64 → (BitVec.ofInt 64 9223372036854775808).getLsbD i = decide (i = 63) := by decide
  rw [b_and, ofInt_U, show (0 : Int) = U 0#64 from rfl, U_inj]
  constructor
  · intro h
    have := congrArg (fun w : W => w.getLsbD 63) h
    simp only [BitVec.getLsbD_and, hH 63 (by decide)] at this
    simp at this
    rw [show B.getLsbD (64 - 1) = B.getLsbD 63 from rfl] at h2
    unfold U
    simp [this] at h2
    omega
  · intro h
    have hb : B.getLsbD 63 = false := by
      rw [show B.getLsbD (64 - 1) = B.getLsbD 63 from rfl] at h2
      rw [← h2]; unfold U at h; simp; omega
    apply BitVec.eq_of_getLsbD_eq; intro i hi
    rw [BitVec.getLsbD_and, hH i hi]
    by_cases h63 : i = 63
    · subst h63; rw [hb]; simp
    · simp [h63]
/-- FromT of both sides, by the words of the reference. -/
theorem rFromT (A B : W) (K : Value → Prop) (hAB : A &&& B = 0#64) (h : nFromT2 (U A) (U B) K) : nFromT1 (U A) (U B) K := by
  rw [nFromT2_eq] at h
  rw [nFromT1_eq]
  have e1 := or_plus hAB
  have hH : ∀ i, i < 64 → (BitVec.ofInt 64 9223372036854775808).getLsbD i = decide (i = 63) := by decide
  refine br_cases (fun q => ?_) (fun q => ?_)
  · have q : Go.bits .and .u64 (U B) 9223372036854775808 = 0 := by simpa using q
    have q2 := (top_iff B).1 q
    rw [decide_eq_true q2] at h
    rw [e1]; exact h
  · have q : ¬ Go.bits .and .u64 (U B) 9223372036854775808 = 0 := by simpa using q
    have q2 : ¬ U B < 9223372036854775808 := fun k => q ((top_iff B).2 k)
    rw [decide_eq_false q2] at h
    have hB : B.getLsbD 63 = true := by
      have h1 := BitVec.msb_eq_decide B
      have h2 := BitVec.msb_eq_getLsbD_last B
      rw [h1, show B.getLsbD (64 - 1) = B.getLsbD 63 from rfl] at h2
      rw [← h2]; unfold U at q2; simp; omega
    have hA : A.getLsbD 63 = false := by
      have := congrArg (fun w : W => w.getLsbD 63) hAB
      simp only [BitVec.getLsbD_and, hB] at this
      simpa using this
    have z1 : A &&& BitVec.ofInt 64 9223372036854775808 = 0#64 := by
      apply BitVec.eq_of_getLsbD_eq; intro i hi
      rw [BitVec.getLsbD_and, hH i hi]
      by_cases h63 : i = 63
      · subst h63; rw [hA]; simp
      · simp [h63]
    have z2 : A &&& (B &&& ~~~ BitVec.ofInt 64 9223372036854775808) = 0#64 := by
      rw [← BitVec.and_assoc, hAB]; simp
    have u1 : U (BitVec.ofInt 64 9223372036854775808) = 9223372036854775808 := by decide
    have e2 := or_plus z1
    rw [u1] at e2
    have e3 := or_plus z2
    have e4 : Go.bits .andNot .u64 (U B) 9223372036854775808 = U (B &&& ~~~ BitVec.ofInt 64 9223372036854775808) := by rw [b_andNot, ofInt_U]
    have e5 : U (B &&& ~~~ BitVec.ofInt 64 9223372036854775808) = IntKind.wrap .u64 (U B - 9223372036854775808) := by
      have s : B = (B &&& ~~~ BitVec.ofInt 64 9223372036854775808) + BitVec.ofInt 64 9223372036854775808 := by
        rw [BitVec.add_eq_or_of_and_eq_zero _ _ (by
          apply BitVec.eq_of_getLsbD_eq; intro i hi
          simp only [BitVec.getLsbD_and, BitVec.getLsbD_not, hH i hi, hi]
          cases decide (i = 63) <;> simp)]
        apply BitVec.eq_of_getLsbD_eq; intro i hi
        simp only [BitVec.getLsbD_or, BitVec.getLsbD_and, BitVec.getLsbD_not, hH i hi, hi]
        by_cases h63 : i = 63
        · subst h63; rw [hB]; simp
        · simp [h63]
      rw [wrap_u64, oi_sub, ofInt_U]
      congr 1
      generalize B &&& ~~~ BitVec.ofInt 64 9223372036854775808 = Z at *
      rw [s]; grind
    rw [e1, e2, e4, e3, e5]
    exact h
end Go.Proofs.Ytnephcecobocdaa.VZqc
end
section
/- Layer 5, against the reference: Norm is the same on both sides. -/
namespace Go.Proofs.Ytnephcecobocdaa.VZbj
open Go Go.RowKit Go.Proofs Go.Proofs.Ytnephcecobocdaa.Xc Go.Proofs.Ytnephcecobocdaa.VZs Go.Proofs.Ytnephcecobocdaa.VZu Go.Proofs.Ytnephcecobocdaa.VZv Go.Proofs.Ytnephcecobocdaa.VZo Go.Proofs.Ytnephcecobocdaa.VZq Go.Proofs.Ytnephcecobocdaa.VZqa Go.Proofs.Ytnephcecobocdaa.VZqb Go.Proofs.Ytnephcecobocdaa.VZqc Go.Proofs.Ytnephcecobocdaa.VZbc Go.Proofs.Ytnephcecobocdaa.Bv
set_option linter.unusedVariables false
set_option linter.unusedSimpArgs false
theorem u6_w (x : Int) : u6 (IntKind.wrap .u64 x) := by rw [uW]; unfold u6; omega
end Go.Proofs.Ytnephcecobocdaa.VZbj
end
