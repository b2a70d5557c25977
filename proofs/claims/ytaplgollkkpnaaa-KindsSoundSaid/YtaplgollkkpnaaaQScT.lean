/- Layer 5: products, and what is left, run. -/
import Derived.Test.YtaplgollkkpnaaaQScR
namespace Go.Proofs.Ytaplgollkkpnaaa.ScT
open Go Go.RowKit Go.Proofs Go.Proofs.Ytaplgollkkpnaaa.Xc Go.Proofs.Ytaplgollkkpnaaa.Sc Go.Proofs.Ytaplgollkkpnaaa.ScG Go.Proofs.Ytaplgollkkpnaaa.ScL
set_option maxRecDepth 100000
set_option linter.unusedVariables false
def nMul64 (x y : Int) (K : Value → Prop) : Prop := run Try.prog [] EE true 90 109 [.int .u64 x, .int .u64 y] K
noncomputable abbrev TM : Tab := [(109, fun vs K => match vs with
  | [.int .u64 x, .int .u64 y] => need (uu x ∧ uu y) (nm (x * y / 18446744073709551616) fun h => nm (x * y % 18446744073709551616) fun l => K (.tuple #[.int .u64 h, .int .u64 l]))
  | _ => False)]
theorem nMul64_eq (x y : Int) (K : Value → Prop) : nMul64 x y K = (ob true true (ob true true (ob true true (ob true true (ob true true (K (.tuple (#[.int .u64 (IntKind.wrap .u64 (IntKind.wrap .u64 (IntKind.wrap .u64 (x / 2 ^ min (Int.toNat 32) (IntKind.bits .u64) * (y / 2 ^ min (Int.toNat 32) (IntKind.bits .u64))) + IntKind.wrap .u64 (IntKind.wrap .u64 (x / 2 ^ min (Int.toNat 32) (IntKind.bits .u64) * Go.bits .and .u64 y 4294967295) + IntKind.wrap .u64 (Go.bits .and .u64 x 4294967295 * Go.bits .and .u64 y 4294967295) / 2 ^ min (Int.toNat 32) (IntKind.bits .u64)) / 2 ^ min (Int.toNat 32) (IntKind.bits .u64)) + IntKind.wrap .u64 (Go.bits .and .u64 (IntKind.wrap .u64 (IntKind.wrap .u64 (x / 2 ^ min (Int.toNat 32) (IntKind.bits .u64) * Go.bits .and .u64 y 4294967295) + IntKind.wrap .u64 (Go.bits .and .u64 x 4294967295 * Go.bits .and .u64 y 4294967295) / 2 ^ min (Int.toNat 32) (IntKind.bits .u64))) 4294967295 + IntKind.wrap .u64 (Go.bits .and .u64 x 4294967295 * (y / 2 ^ min (Int.toNat 32) (IntKind.bits .u64)))) / 2 ^ min (Int.toNat 32) (IntKind.bits .u64))), .int .u64 (IntKind.wrap .u64 (x * y))])))))))) := by kernel_rfl
def nUMul (a b c d : Int) (K : Value → Prop) : Prop := run Try.prog TM EE true 90 82 [T2 a b, T2 c d] K
theorem nUMul_eq (a b c d : Int) (K : Value → Prop) : nUMul a b c d K = (need (Go.Proofs.Ytaplgollkkpnaaa.ScG.uu b ∧ Go.Proofs.Ytaplgollkkpnaaa.ScG.uu d) (nm (b * d / 18446744073709551616) fun r => nm (b * d % 18446744073709551616) fun r_1 => br (r != 0) (K (.agg (#[.int .u64 0, .int .u64 18446744073709551615]))) (K (.agg (#[.int .u64 (IntKind.wrap .u64 (a * c)), .int .u64 r_1]))))) := by kernel_rfl
def nUOr (a b c d : Int) (K : Value → Prop) : Prop := run Try.prog TT EE true 90 86 [T2 a b, T2 c d] K
theorem nUOr_eq (a b c d : Int) (K : Value → Prop) : nUOr a b c d K = (ob (a == b) (a == b) (ob (a == b) (a == b) (ob (!a == b) true (nm (bif a == b then c == d else false) fun r => br r (K (.agg (#[.int .u64 (Go.bits .or .u64 a c), .int .u64 (Go.bits .or .u64 a c)]))) (need (0 ≤ Go.bits .or .u64 b d ∧ Go.bits .or .u64 b d < 18446744073709551616) (al fun x => im (Go.Proofs.Ytaplgollkkpnaaa.ScL.BelP (Go.bits .or .u64 b d) x) (K (.agg (#[.int .u64 (if c > a then c else a), .int .u64 x]))))))))) := by kernel_rfl
end Go.Proofs.Ytaplgollkkpnaaa.ScT
