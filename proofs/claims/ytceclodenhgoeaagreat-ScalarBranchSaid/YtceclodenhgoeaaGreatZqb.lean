/- Layer 5, against the reference: ToU and ToS are the same on both sides. -/
import Derived.Test.YtceclodenhgoeaaGreatZqa
import Derived.Test.YtceclodenhgoeaaGreatZv
namespace Go.Proofs.YtceclodenhgoeaaGreat.Zqb
open Go Go.RowKit Go.Proofs Go.Proofs.YtceclodenhgoeaaGreat.Xc Go.Proofs.YtceclodenhgoeaaGreat.Zs Go.Proofs.YtceclodenhgoeaaGreat.Zu Go.Proofs.YtceclodenhgoeaaGreat.Zv Go.Proofs.YtceclodenhgoeaaGreat.Zo Go.Proofs.YtceclodenhgoeaaGreat.Zq Go.Proofs.YtceclodenhgoeaaGreat.Bv
set_option linter.unusedVariables false
set_option linter.unusedSimpArgs false
def mkU (K : Value → Prop) (a b : Int) : Prop := if a < 0 ∧ 0 ≤ b then K (.agg #[.int .u64 0, .int .u64 18446744073709551615]) else K (.agg #[.int .u64 (IntKind.wrap .u64 a), .int .u64 (IntKind.wrap .u64 b)])
def mkS (K : Value → Prop) (a b : Int) : Prop := if a < 9223372036854775808 ∧ 9223372036854775808 ≤ b then K (.agg #[.int .i64 (-9223372036854775808), .int .i64 9223372036854775807]) else K (.agg #[.int .i64 (IntKind.wrap .i64 a), .int .i64 (IntKind.wrap .i64 b)])
theorem if_yes {p : Prop} [Decidable p] {A B : Prop} (h : if p then A else B) (hp : p) : A := by rw [if_pos hp] at h; exact h
theorem if_no {p : Prop} [Decidable p] {A B : Prop} (h : if p then A else B) (hp : ¬ p) : B := by rw [if_neg hp] at h; exact h
theorem rToU1 (a b : Int) (K : Value → Prop) (hab : a ≤ b) (h : mkU K a b) : nToU1 a b K := by
  rw [nToU1_eq]
  refine br_cases (fun q => if_yes h ?_) (fun q => if_no h ?_)
  · by_cases h1 : a < 0 <;> by_cases h2 : b < 0 <;> simp [h1, h2] at q <;> omega
  · by_cases h1 : a < 0 <;> by_cases h2 : b < 0 <;> simp [h1, h2] at q <;> omega
theorem rToU2 (a b : Int) (K : Value → Prop) (h : mkU K a b) : nToU2 a b K := by
  rw [nToU2_eq]
  repeat (first | with_reducible refine ob_self ?_ | with_reducible refine ob_true ?_)
  refine fun r hr => br_cases (fun q => if_yes h ?_) (fun q => if_no h ?_)
  · subst hr
    by_cases h1 : a < 0 <;> by_cases h2 : b < 0 <;> simp [h1, h2] at q <;> omega
  · subst hr
    by_cases h1 : a < 0 <;> by_cases h2 : b < 0 <;> simp [h1, h2] at q <;> omega
theorem rToS1 (a b : Int) (K : Value → Prop) (ha : u6 a) (hb : u6 b) (hab : a ≤ b) (h : mkS K a b) : nToS1 a b K := by
  rw [nToS1_eq]
  have e : ∀ z : Int, z / 2 ^ min (Int.toNat 63) (IntKind.bits .u64) = z / 9223372036854775808 := fun _ => rfl
  rw [e, e]
  unfold u6 at ha hb
  refine ob_self (ob_self (br_cases (fun q => if_yes h ?_) (fun q => if_no h ?_)))
  · have q : ¬ a / 9223372036854775808 = b / 9223372036854775808 := by simpa using q
    omega
  · have q : a / 9223372036854775808 = b / 9223372036854775808 := by simpa using q
    omega
theorem rToS2 (a b : Int) (K : Value → Prop) (hab : a ≤ b) (h : mkS K a b) : nToS2 a b K := by
  rw [nToS2_eq]
  refine br_cases (fun q => if_yes h ?_) (fun q => if_no h ?_)
  · by_cases h1 : a < 9223372036854775808 <;> by_cases h2 : b < 9223372036854775808 <;> simp [h1, h2] at q <;> omega
  · by_cases h1 : a < 9223372036854775808 <;> by_cases h2 : b < 9223372036854775808 <;> simp [h1, h2] at q <;> omega
end Go.Proofs.YtceclodenhgoeaaGreat.Zqb
