/- Layer 5: the parts of Norm, run. -/
import Derived.Test.YtaplgollkkpnaaaQScE
set_option linter.unusedVariables false
set_option linter.unusedSimpArgs false
set_option linter.unusedSectionVars false
namespace Go.Proofs.Ytaplgollkkpnaaa.ScF
open Go Go.Proofs Go.Proofs.Ytaplgollkkpnaaa.Xc Go.Proofs.Ytaplgollkkpnaaa.Sc
set_option maxRecDepth 100000
def nUMeet (a b c d : Int) (K : Value → Prop) : Prop := run Try.prog [] EE true 90 95 [T2 a b, T2 c d] K
theorem nUMeet_eq (a b c d : Int) (K : Value → Prop) : nUMeet a b c d K = (br (!decide ((if c > a then c else a) ≤ if d < b then d else b)) (K (.tuple (#[.agg (#[.int .u64 0, .int .u64 0]), .bool false]))) (K (.tuple (#[.agg (#[.int .u64 (if c > a then c else a), .int .u64 (if d < b then d else b)]), .bool true])))) := by kernel_rfl
def nSMeet (a b c d : Int) (K : Value → Prop) : Prop := run Try.prog [] EE true 90 99 [S2 a b, S2 c d] K
theorem nSMeet_eq (a b c d : Int) (K : Value → Prop) : nSMeet a b c d K = (br (!decide ((if c > a then c else a) ≤ if d < b then d else b)) (K (.tuple (#[.agg (#[.int .i64 0, .int .i64 0]), .bool false]))) (K (.tuple (#[.agg (#[.int .i64 (if c > a then c else a), .int .i64 (if d < b then d else b)]), .bool true])))) := by kernel_rfl
def nTMeet (a b c d : Int) (K : Value → Prop) : Prop := run Try.prog [] EE true 90 103 [T2 a b, T2 c d] K
theorem nTMeet_eq (a b c d : Int) (K : Value → Prop) : nTMeet a b c d K = (br (Go.bits .andNot .u64 (Go.bits .xor .u64 a c) (Go.bits .or .u64 b d) != 0) (K (.tuple (#[.agg (#[.int .u64 0, .int .u64 0]), .bool false]))) (K (.tuple (#[.agg (#[.int .u64 (Go.bits .andNot .u64 (Go.bits .or .u64 a c) (Go.bits .and .u64 b d)), .int .u64 (Go.bits .and .u64 b d)]), .bool true])))) := by kernel_rfl
def nToU (a b : Int) (K : Value → Prop) : Prop := run Try.prog [] EE true 90 96 [S2 a b] K
theorem nToU_eq (a b : Int) (K : Value → Prop) : nToU a b K = (br (!decide (a < 0) == decide (b < 0)) (K (.agg (#[.int .u64 0, .int .u64 18446744073709551615]))) (K (.agg (#[.int .u64 (IntKind.wrap .u64 a), .int .u64 (IntKind.wrap .u64 b)])))) := by kernel_rfl
def nToS (a b : Int) (K : Value → Prop) : Prop := run Try.prog [] EE true 90 100 [T2 a b] K
theorem nToS_eq (a b : Int) (K : Value → Prop) : nToS a b K = (ob true true (ob true true (br (a / 2 ^ min (Int.toNat 63) (IntKind.bits .u64) != b / 2 ^ min (Int.toNat 63) (IntKind.bits .u64)) (K (.agg (#[.int .i64 (-9223372036854775808), .int .i64 9223372036854775807]))) (K (.agg (#[.int .i64 (IntKind.wrap .i64 a), .int .i64 (IntKind.wrap .i64 b)])))))) := by kernel_rfl
def nFromT (a b : Int) (K : Value → Prop) : Prop := run Try.prog [] EE true 90 93 [T2 a b] K
theorem nFromT_eq (a b : Int) (K : Value → Prop) : nFromT a b K = (br (Go.bits .and .u64 b 9223372036854775808 == 0) (K (.tuple (#[.agg (#[.int .u64 a, .int .u64 (Go.bits .or .u64 a b)]), .agg (#[.int .i64 (IntKind.wrap .i64 a), .int .i64 (IntKind.wrap .i64 (Go.bits .or .u64 a b))])]))) (K (.tuple (#[.agg (#[.int .u64 a, .int .u64 (Go.bits .or .u64 a b)]), .agg (#[.int .i64 (IntKind.wrap .i64 (Go.bits .or .u64 a 9223372036854775808)), .int .i64 (IntKind.wrap .i64 (Go.bits .or .u64 a (Go.bits .andNot .u64 b 9223372036854775808)))])])))) := by kernel_rfl
def nIs (a b c d e f : Int) (K : Value → Prop) : Prop := run Try.prog [] EE true 90 22 [Sc a b c d e f] K
theorem nIs_eq (a b c d e f : Int) (K : Value → Prop) : nIs a b c d e f K = (br (c == d) (K (.tuple (#[.int .u64 c, .bool true]))) (br (b == 0) (K (.tuple (#[.int .u64 a, .bool true]))) (br (e == f) (K (.tuple (#[.int .u64 (IntKind.wrap .u64 e), .bool true]))) (K (.tuple (#[.int .u64 0, .bool false])))))) := by kernel_rfl
def nOf (v : Int) (K : Value → Prop) : Prop := run Try.prog [] EE true 90 17 [.int .u64 v] K
theorem nOf_eq (v : Int) (K : Value → Prop) : nOf v K = (K (.agg (#[.int .u64 v, .int .u64 0, .int .u64 v, .int .u64 v, .int .i64 (IntKind.wrap .i64 v), .int .i64 (IntKind.wrap .i64 v)]))) := by kernel_rfl
def nAny (K : Value → Prop) : Prop := run Try.prog [] EE true 90 38 [] K
theorem nAny_eq (K : Value → Prop) : nAny K = (K (.agg (#[.int .u64 0, .int .u64 18446744073709551615, .int .u64 0, .int .u64 18446744073709551615, .int .i64 (-9223372036854775808), .int .i64 9223372036854775807]))) := by kernel_rfl
end Go.Proofs.Ytaplgollkkpnaaa.ScF
