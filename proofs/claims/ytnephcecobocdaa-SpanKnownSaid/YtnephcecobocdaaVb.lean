/- VZda, VZcb, VZcf, VZdb, VZdc, VZdd, VZde, in one text. -/
import Derived.Test.YtnephcecobocdaaVa
import Derived.Test.YtnephcecobocdaaBa
section
/- Layer 5, against the reference: numbers from one to another: sums, quotients, bits, on both sides, run. -/
namespace Go.Proofs.Ytnephcecobocdaa.VZda
open Go Go.RowKit Go.Proofs Go.Proofs.Ytnephcecobocdaa.Xc Go.Proofs.Ytnephcecobocdaa.VZs Go.Proofs.Ytnephcecobocdaa.VZk Go.Proofs.Ytnephcecobocdaa.VZo Go.Proofs.Ytnephcecobocdaa.VZq Go.Proofs.Ytnephcecobocdaa.VZu
set_option maxRecDepth 100000
set_option linter.unusedVariables false
def nAddC (a b c d : Int) (K : Value → Prop) : Prop := run Try.prog [] EEk true 90 43 [T2 a b, T2 c d] K
theorem nAddC_eq (a b c d : Int) (K : Value → Prop) : nAddC a b c d K = (br (decide (IntKind.wrap .u64 (b + d) < b)) (K (.agg (#[.int .u64 0, .int .u64 18446744073709551615]))) (K (.agg (#[.int .u64 (IntKind.wrap .u64 (a + c)), .int .u64 (IntKind.wrap .u64 (b + d))])))) := by kernel_rfl
def nAddR (a b c d : Int) (K : Value → Prop) : Prop := run Try.prog [] EEk true 90 60 [T2 a b, T2 c d] K
theorem nAddR_eq (a b c d : Int) (K : Value → Prop) : nAddR a b c d K = (br (decide (b > IntKind.wrap .u64 (IntKind.wrap .u64 (9223372036854775808 + IntKind.wrap .u64 (9223372036854775808 - 1)) - d))) (K (.agg (#[.int .u64 0, .int .u64 18446744073709551615]))) (K (.agg (#[.int .u64 (IntKind.wrap .u64 (a + c)), .int .u64 (IntKind.wrap .u64 (b + d))])))) := by kernel_rfl
def nSubC (a b c d : Int) (K : Value → Prop) : Prop := run Try.prog [] EEk true 90 44 [T2 a b, T2 c d] K
theorem nSubC_eq (a b c d : Int) (K : Value → Prop) : nSubC a b c d K = (br (decide (a < d)) (K (.agg (#[.int .u64 0, .int .u64 18446744073709551615]))) (K (.agg (#[.int .u64 (IntKind.wrap .u64 (a - d)), .int .u64 (IntKind.wrap .u64 (b - c))])))) := by kernel_rfl
def nSubR (a b c d : Int) (K : Value → Prop) : Prop := run Try.prog [] EEk true 90 61 [T2 a b, T2 c d] K
theorem nSubR_eq (a b c d : Int) (K : Value → Prop) : nSubR a b c d K = (br (decide (a < d)) (K (.agg (#[.int .u64 0, .int .u64 18446744073709551615]))) (K (.agg (#[.int .u64 (IntKind.wrap .u64 (a - d)), .int .u64 (IntKind.wrap .u64 (b - c))])))) := by kernel_rfl
def mulH (x y : Int) : Int := x * y / 18446744073709551616
noncomputable abbrev TMu : Tab := [(91, fun vs K => match vs with
  | [.int .u64 x, .int .u64 y] => need (u6 x ∧ u6 y) (nm (mulH x y) fun h => nm (IntKind.wrap .u64 (x * y)) fun l => K (.tuple #[.int .u64 h, .int .u64 l]))
  | _ => False)]
def nMulC (a b c d : Int) (K : Value → Prop) : Prop := run Try.prog TMu EEk true 90 54 [T2 a b, T2 c d] K
theorem nMulC_eq (a b c d : Int) (K : Value → Prop) : nMulC a b c d K = (need (Go.Proofs.Ytnephcecobocdaa.VZu.u6 b ∧ Go.Proofs.Ytnephcecobocdaa.VZu.u6 d) (nm (Go.Proofs.Ytnephcecobocdaa.VZda.mulH b d) fun r => nm (IntKind.wrap .u64 (b * d)) fun r_1 => br (r != 0) (K (.agg (#[.int .u64 0, .int .u64 18446744073709551615]))) (K (.agg (#[.int .u64 (IntKind.wrap .u64 (a * c)), .int .u64 r_1]))))) := by kernel_rfl
def nMulR (a b c d : Int) (K : Value → Prop) : Prop := run Try.prog [] EEk true 90 62 [T2 a b, T2 c d] K
theorem nMulR_eq (a b c d : Int) (K : Value → Prop) : nMulR a b c d K = (ob (d != 0) (d != 0) (ob (d != 0) (d != 0) (ob (d != 0) (d != 0) (ob (d != 0) (d != 0) (ob (d != 0) (d != 0) (ob (d != 0) (d != 0) (ob (d != 0) (d != 0) (ob (d != 0) (d != 0) (ob (d != 0) (d != 0) (ob (!d != 0) true (nm (bif d != 0 then decide (b > IntKind.wrap .u64 (Int.tdiv (IntKind.wrap .u64 (9223372036854775808 + IntKind.wrap .u64 (9223372036854775808 - 1))) d)) else false) fun r => br r (K (.agg (#[.int .u64 0, .int .u64 18446744073709551615]))) (K (.agg (#[.int .u64 (IntKind.wrap .u64 (a * c)), .int .u64 (IntKind.wrap .u64 (b * d))])))))))))))))) := by kernel_rfl
def nDivC (a b c d : Int) (K : Value → Prop) : Prop := run Try.prog [] EEk true 90 51 [T2 a b, T2 c d] K
theorem nDivC_eq (a b c d : Int) (K : Value → Prop) : nDivC a b c d K = (ob (c == d) (c == d) (ob (c == d) (c == d) (ob (c == d) (c == d) (ob (c == d) (c == d) (ob (!c == d) true (nm (bif c == d then c != 0 else false) fun r => br r (ob true (c != 0) (ob true (c != 0) (K (.agg (#[.int .u64 (IntKind.wrap .u64 (Int.tdiv a c)), .int .u64 (IntKind.wrap .u64 (Int.tdiv b c))]))))) (K (.agg (#[.int .u64 0, .int .u64 b]))))))))) := by kernel_rfl
def nDivR (a b c d : Int) (K : Value → Prop) : Prop := run Try.prog [] EEk true 90 63 [T2 a b, T2 c d] K
theorem nDivR_eq (a b c d : Int) (K : Value → Prop) : nDivR a b c d K = (ob (!!c == d) (!!c == d) (ob (!!c == d) (!!c == d) (ob (!!c == d) (!!c == d) (ob (!c == d) true (ob (!!c == d) (!!c == d) (nm (bif !c == d then true else c == 0) fun r => br r (K (.agg (#[.int .u64 0, .int .u64 b]))) (ob true (c != 0) (ob true (c != 0) (K (.agg (#[.int .u64 (IntKind.wrap .u64 (Int.tdiv a c)), .int .u64 (IntKind.wrap .u64 (Int.tdiv b c))]))))))))))) := by kernel_rfl
def nModC (a b c d : Int) (K : Value → Prop) : Prop := run Try.prog [] EEk true 90 52 [T2 a b, T2 c d] K
theorem nModC_eq (a b c d : Int) (K : Value → Prop) : nModC a b c d K = (ob (!!c == d) (!!c == d) (ob (!!c == d) (!!c == d) (ob (!!c == d) (!!c == d) (ob (!c == d) true (ob (!!c == d) (!!c == d) (nm (bif !c == d then true else c == 0) fun r => br r (K (.agg (#[.int .u64 0, .int .u64 b]))) (br (decide (b < c)) (K (.agg (#[.int .u64 a, .int .u64 b]))) (br (a == b) (ob true (c != 0) (K (.agg (#[.int .u64 (Int.tmod a c), .int .u64 (Int.tmod a c)])))) (K (.agg (#[.int .u64 0, .int .u64 (IntKind.wrap .u64 (c - 1))]))))))))))) := by kernel_rfl
def nModR (a b c d : Int) (K : Value → Prop) : Prop := run Try.prog [] EEk true 90 64 [T2 a b, T2 c d] K
theorem nModR_eq (a b c d : Int) (K : Value → Prop) : nModR a b c d K = (ob (!!c == d) (!!c == d) (ob (!!c == d) (!!c == d) (ob (!!c == d) (!!c == d) (ob (!c == d) true (ob (!!c == d) (!!c == d) (nm (bif !c == d then true else c == 0) fun r => br r (K (.agg (#[.int .u64 0, .int .u64 b]))) (br (decide (b < c)) (K (.agg (#[.int .u64 a, .int .u64 b]))) (br (a == b) (ob true (c != 0) (K (.agg (#[.int .u64 (IntKind.wrap .u64 (a - IntKind.wrap .u64 (IntKind.wrap .u64 (Int.tdiv a c) * c))), .int .u64 (IntKind.wrap .u64 (a - IntKind.wrap .u64 (IntKind.wrap .u64 (Int.tdiv a c) * c)))])))) (K (.agg (#[.int .u64 0, .int .u64 (IntKind.wrap .u64 (c - 1))]))))))))))) := by kernel_rfl
def nAndC (a b c d : Int) (K : Value → Prop) : Prop := run Try.prog [] EEk true 90 45 [T2 a b, T2 c d] K
theorem nAndC_eq (a b c d : Int) (K : Value → Prop) : nAndC a b c d K = (ob (a == b) (a == b) (ob (a == b) (a == b) (ob (!a == b) true (nm (bif a == b then c == d else false) fun r => br r (K (.agg (#[.int .u64 (Go.bits .and .u64 a c), .int .u64 (Go.bits .and .u64 a c)]))) (K (.agg (#[.int .u64 0, .int .u64 (if d < b then d else b)]))))))) := by kernel_rfl
def nAndR (a b c d : Int) (K : Value → Prop) : Prop := run Try.prog [] EEk true 90 65 [T2 a b, T2 c d] K
theorem nAndR_eq (a b c d : Int) (K : Value → Prop) : nAndR a b c d K = (ob (a == b) (a == b) (ob (a == b) (a == b) (ob (!a == b) true (nm (bif a == b then c == d else false) fun r => br r (K (.agg (#[.int .u64 (Go.bits .and .u64 a c), .int .u64 (Go.bits .and .u64 a c)]))) (br (decide (d < b)) (K (.agg (#[.int .u64 0, .int .u64 d]))) (K (.agg (#[.int .u64 0, .int .u64 b])))))))) := by kernel_rfl
def nCutC (a b : Int) (K : Value → Prop) : Prop := run Try.prog [] EEk true 90 48 [T2 a b] K
theorem nCutC_eq (a b : Int) (K : Value → Prop) : nCutC a b K = (ob true true (ob true true (br (a / 2 ^ min (Int.toNat 32) (IntKind.bits .u64) == b / 2 ^ min (Int.toNat 32) (IntKind.bits .u64)) (K (.agg (#[.int .u64 (Go.bits .and .u64 a 4294967295), .int .u64 (Go.bits .and .u64 b 4294967295)]))) (K (.agg (#[.int .u64 0, .int .u64 4294967295])))))) := by kernel_rfl
def nCutR (a b : Int) (K : Value → Prop) : Prop := run Try.prog [] EEk true 90 69 [T2 a b] K
theorem nCutR_eq (a b : Int) (K : Value → Prop) : nCutR a b K = (ob true true (ob true true (br (IntKind.wrap .u64 (Int.tdiv a 4294967296) == IntKind.wrap .u64 (Int.tdiv b 4294967296)) (ob true true (ob true true (K (.agg (#[.int .u64 (Int.tmod a 4294967296), .int .u64 (Int.tmod b 4294967296)]))))) (K (.agg (#[.int .u64 0, .int .u64 4294967295])))))) := by kernel_rfl
def nSAddC (a b c d : Int) (K : Value → Prop) : Prop := run Try.prog [] EEk true 90 19 [S2 a b, S2 c d] K
theorem nSAddC_eq (a b c d : Int) (K : Value → Prop) : nSAddC a b c d K = (ob (!!decide (IntKind.wrap .i64 (a + c) < a) == decide (c < 0)) (!!decide (IntKind.wrap .i64 (a + c) < a) == decide (c < 0)) (ob (!decide (IntKind.wrap .i64 (a + c) < a) == decide (c < 0)) true (ob (!!decide (IntKind.wrap .i64 (a + c) < a) == decide (c < 0)) (!!decide (IntKind.wrap .i64 (a + c) < a) == decide (c < 0)) (nm (bif !decide (IntKind.wrap .i64 (a + c) < a) == decide (c < 0) then true else !decide (IntKind.wrap .i64 (b + d) < b) == decide (d < 0)) fun r => br r (K (.agg (#[.int .i64 (-9223372036854775808), .int .i64 9223372036854775807]))) (K (.agg (#[.int .i64 (IntKind.wrap .i64 (a + c)), .int .i64 (IntKind.wrap .i64 (b + d))]))))))) := by kernel_rfl
def nSAddR (a b c d : Int) (K : Value → Prop) : Prop := run Try.prog [] EEk true 90 34 [S2 a b, S2 c d] K
theorem nSAddR_eq (a b c d : Int) (K : Value → Prop) : nSAddR a b c d K = (ob (decide (c > 0)) (decide (c > 0)) (ob (decide (c > 0)) (decide (c > 0)) (ob (decide (c > 0)) (decide (c > 0)) (ob (decide (c > 0)) (decide (c > 0)) (ob (decide (c > 0)) (decide (c > 0)) (ob (decide (c > 0)) (decide (c > 0)) (ob (!decide (c > 0)) true (nm (bif decide (c > 0) then decide (a > IntKind.wrap .i64 (9223372036854775807 - c)) else false) fun r => ob (!r) (!r) (ob (!r) (!r) (ob (!r && decide (c < 0)) (!r && decide (c < 0)) (ob (!r && decide (c < 0)) (!r && decide (c < 0)) (ob (!r && decide (c < 0)) (!r && decide (c < 0)) (ob (!r && decide (c < 0)) (!r && decide (c < 0)) (ob (!r && decide (c < 0)) (!r && decide (c < 0)) (ob (!r) (!r) (ob (!r && decide (c < 0)) (!r && decide (c < 0)) (ob (!r && !decide (c < 0)) true (nm (bif decide (c < 0) then decide (a < IntKind.wrap .i64 (-9223372036854775808 - c)) else false) fun r_1 => ob r true (ob (!r) (!r) (nm (bif r then true else r_1) fun r => ob (!r) (!r) (ob (!r) (!r) (ob (!r) (!r) (ob (!r) (!r) (ob (decide (d > 0)) (decide (d > 0)) (ob (decide (d > 0)) (decide (d > 0)) (ob (decide (d > 0)) (decide (d > 0)) (ob (decide (d > 0)) (decide (d > 0)) (ob (decide (d > 0)) (decide (d > 0)) (ob (decide (d > 0)) (decide (d > 0)) (ob (!decide (d > 0)) true (nm (bif decide (d > 0) then decide (b > IntKind.wrap .i64 (9223372036854775807 - d)) else false) fun r_2 => ob (!r_2) (!r_2) (ob (!r_2) (!r_2) (ob (!r_2 && decide (d < 0)) (!r_2 && decide (d < 0)) (ob (!r_2 && decide (d < 0)) (!r_2 && decide (d < 0)) (ob (!r_2 && decide (d < 0)) (!r_2 && decide (d < 0)) (ob (!r_2 && decide (d < 0)) (!r_2 && decide (d < 0)) (ob (!r_2 && decide (d < 0)) (!r_2 && decide (d < 0)) (ob (!r_2) (!r_2) (ob (!r_2 && decide (d < 0)) (!r_2 && decide (d < 0)) (ob (!r_2 && !decide (d < 0)) true (nm (bif decide (d < 0) then decide (b < IntKind.wrap .i64 (-9223372036854775808 - d)) else false) fun r_3 => ob r_2 true (ob (!r_2) (!r_2) (nm (bif r_2 then true else r_3) fun r_4 => ob r true (ob (!r) (!r) (nm (bif r then true else r_4) fun r => br r (K (.agg (#[.int .i64 (-9223372036854775808), .int .i64 9223372036854775807]))) (K (.agg (#[.int .i64 (IntKind.wrap .i64 (a + c)), .int .i64 (IntKind.wrap .i64 (b + d))])))))))))))))))))))))))))))))))))))))))))))))))) := by kernel_rfl
def nSSubC (a b c d : Int) (K : Value → Prop) : Prop := run Try.prog [] EEk true 90 20 [S2 a b, S2 c d] K
theorem nSSubC_eq (a b c d : Int) (K : Value → Prop) : nSSubC a b c d K = (ob (!!decide (IntKind.wrap .i64 (a - d) > a) == decide (d < 0)) (!!decide (IntKind.wrap .i64 (a - d) > a) == decide (d < 0)) (ob (!decide (IntKind.wrap .i64 (a - d) > a) == decide (d < 0)) true (ob (!!decide (IntKind.wrap .i64 (a - d) > a) == decide (d < 0)) (!!decide (IntKind.wrap .i64 (a - d) > a) == decide (d < 0)) (nm (bif !decide (IntKind.wrap .i64 (a - d) > a) == decide (d < 0) then true else !decide (IntKind.wrap .i64 (b - c) > b) == decide (c < 0)) fun r => br r (K (.agg (#[.int .i64 (-9223372036854775808), .int .i64 9223372036854775807]))) (K (.agg (#[.int .i64 (IntKind.wrap .i64 (a - d)), .int .i64 (IntKind.wrap .i64 (b - c))]))))))) := by kernel_rfl
def nSSubR (a b c d : Int) (K : Value → Prop) : Prop := run Try.prog [] EEk true 90 35 [S2 a b, S2 c d] K
theorem nSSubR_eq (a b c d : Int) (K : Value → Prop) : nSSubR a b c d K = (ob (decide (d < 0)) (decide (d < 0)) (ob (decide (d < 0)) (decide (d < 0)) (ob (decide (d < 0)) (decide (d < 0)) (ob (decide (d < 0)) (decide (d < 0)) (ob (decide (d < 0)) (decide (d < 0)) (ob (decide (d < 0)) (decide (d < 0)) (ob (!decide (d < 0)) true (nm (bif decide (d < 0) then decide (a > IntKind.wrap .i64 (9223372036854775807 + d)) else false) fun r => ob (!r) (!r) (ob (!r) (!r) (ob (!r && decide (d > 0)) (!r && decide (d > 0)) (ob (!r && decide (d > 0)) (!r && decide (d > 0)) (ob (!r && decide (d > 0)) (!r && decide (d > 0)) (ob (!r && decide (d > 0)) (!r && decide (d > 0)) (ob (!r && decide (d > 0)) (!r && decide (d > 0)) (ob (!r) (!r) (ob (!r && decide (d > 0)) (!r && decide (d > 0)) (ob (!r && !decide (d > 0)) true (nm (bif decide (d > 0) then decide (a < IntKind.wrap .i64 (-9223372036854775808 + d)) else false) fun r_1 => ob r true (ob (!r) (!r) (nm (bif r then true else r_1) fun r => ob (!r) (!r) (ob (!r) (!r) (ob (!r) (!r) (ob (!r) (!r) (ob (decide (c < 0)) (decide (c < 0)) (ob (decide (c < 0)) (decide (c < 0)) (ob (decide (c < 0)) (decide (c < 0)) (ob (decide (c < 0)) (decide (c < 0)) (ob (decide (c < 0)) (decide (c < 0)) (ob (decide (c < 0)) (decide (c < 0)) (ob (!decide (c < 0)) true (nm (bif decide (c < 0) then decide (b > IntKind.wrap .i64 (9223372036854775807 + c)) else false) fun r_2 => ob (!r_2) (!r_2) (ob (!r_2) (!r_2) (ob (!r_2 && decide (c > 0)) (!r_2 && decide (c > 0)) (ob (!r_2 && decide (c > 0)) (!r_2 && decide (c > 0)) (ob (!r_2 && decide (c > 0)) (!r_2 && decide (c > 0)) (ob (!r_2 && decide (c > 0)) (!r_2 && decide (c > 0)) (ob (!r_2 && decide (c > 0)) (!r_2 && decide (c > 0)) (ob (!r_2) (!r_2) (ob (!r_2 && decide (c > 0)) (!r_2 && decide (c > 0)) (ob (!r_2 && !decide (c > 0)) true (nm (bif decide (c > 0) then decide (b < IntKind.wrap .i64 (-9223372036854775808 + c)) else false) fun r_3 => ob r_2 true (ob (!r_2) (!r_2) (nm (bif r_2 then true else r_3) fun r_4 => ob r true (ob (!r) (!r) (nm (bif r then true else r_4) fun r => br r (K (.agg (#[.int .i64 (-9223372036854775808), .int .i64 9223372036854775807]))) (K (.agg (#[.int .i64 (IntKind.wrap .i64 (a - d)), .int .i64 (IntKind.wrap .i64 (b - c))])))))))))))))))))))))))))))))))))))))))))))))))) := by kernel_rfl
def nRnd (n : Int) (K : Value → Prop) : Prop := run Try.prog [] EEk true 90 87 [.int .i64 n] K
theorem nRnd_eq (n : Int) (K : Value → Prop) : nRnd n K = (ob true true (br (decide (Int.tmod n 64 < 0)) (K (.int .i64 (IntKind.wrap .i64 (Int.tmod n 64 + 64)))) (K (.int .i64 (Int.tmod n 64))))) := by kernel_rfl
end Go.Proofs.Ytnephcecobocdaa.VZda
end
section
/- Layer 5, against the reference: its loops of order and bits. -/
namespace Go.Proofs.Ytnephcecobocdaa.VZcb
open Go Go.RowKit Go.Proofs Go.Proofs.Ytnephcecobocdaa.Xc Go.Proofs.Ytnephcecobocdaa.VZs Go.Proofs.Ytnephcecobocdaa.VZu Go.Proofs.Ytnephcecobocdaa.VZv Go.Proofs.Ytnephcecobocdaa.VZo Go.Proofs.Ytnephcecobocdaa.Bv
set_option linter.unusedVariables false
set_option linter.unusedSimpArgs false
theorem isw (v : Int) : IntKind.wrap .i64 v = (v + 9223372036854775808) % 18446744073709551616 - 9223372036854775808 := by
  simp [IntKind.wrap, IntKind.signed, IntKind.bits]; split <;> omega
end Go.Proofs.Ytnephcecobocdaa.VZcb
end
section
/- Layer 5, against the reference: what a jump teaches, on both sides, run. -/
namespace Go.Proofs.Ytnephcecobocdaa.VZcf
open Go Go.RowKit Go.Proofs Go.Proofs.Ytnephcecobocdaa.Xc Go.Proofs.Ytnephcecobocdaa.VZs Go.Proofs.Ytnephcecobocdaa.VZk Go.Proofs.Ytnephcecobocdaa.VZo Go.Proofs.Ytnephcecobocdaa.VZq Go.Proofs.Ytnephcecobocdaa.VZu
set_option maxRecDepth 100000
set_option linter.unusedVariables false
def i6 (x : Int) : Prop := -9223372036854775808 ≤ x ∧ x < 9223372036854775808
end Go.Proofs.Ytnephcecobocdaa.VZcf
end
section
/- Layer 5, against the reference: numbers from one to another: the same on both sides (what needs no loop). -/
namespace Go.Proofs.Ytnephcecobocdaa.VZdb
open Go Go.RowKit Go.Proofs Go.Proofs.Ytnephcecobocdaa.Xc Go.Proofs.Ytnephcecobocdaa.VZs Go.Proofs.Ytnephcecobocdaa.VZk Go.Proofs.Ytnephcecobocdaa.VZo Go.Proofs.Ytnephcecobocdaa.VZq Go.Proofs.Ytnephcecobocdaa.VZu Go.Proofs.Ytnephcecobocdaa.VZv Go.Proofs.Ytnephcecobocdaa.VZcf Go.Proofs.Ytnephcecobocdaa.VZda Go.Proofs.Ytnephcecobocdaa.Bv
set_option linter.unusedVariables false
set_option linter.unusedSimpArgs false
theorem isw (v : Int) : IntKind.wrap .i64 v = (v + 9223372036854775808) % 18446744073709551616 - 9223372036854775808 := VZcb.isw v
theorem kT2 {K : Value → Prop} {x y x' y' : Int} (h : K (T2 x y)) (e1 : x' = x) (e2 : y' = y) : K (T2 x' y') := by subst e1; subst e2; exact h
theorem kS2 {K : Value → Prop} {x y x' y' : Int} (h : K (S2 x y)) (e1 : x' = x) (e2 : y' = y) : K (S2 x' y') := by subst e1; subst e2; exact h
def uaL (a b c d : Int) : Int := if b + d < 18446744073709551616 then a + c else 0
def uaH (a b c d : Int) : Int := if b + d < 18446744073709551616 then b + d else 18446744073709551615
def usL (a b c d : Int) : Int := if a < d then 0 else a - d
def usH (a b c d : Int) : Int := if a < d then 18446744073709551615 else b - c
def umL (a b c d : Int) : Int := if b * d < 18446744073709551616 then a * c else 0
def umH (a b c d : Int) : Int := if b * d < 18446744073709551616 then b * d else 18446744073709551615
def udL (a b c d : Int) : Int := if c = d ∧ c ≠ 0 then a / c else 0
def udH (a b c d : Int) : Int := if c = d ∧ c ≠ 0 then b / c else b
def uoL (a b c d : Int) : Int := if c = d ∧ c ≠ 0 then (if b < c then a else if a = b then a % c else 0) else 0
def uoH (a b c d : Int) : Int := if c = d ∧ c ≠ 0 then (if b < c then b else if a = b then a % c else c - 1) else b
def unL (a b c d : Int) : Int := if a = b ∧ c = d then Go.bits .and .u64 a c else 0
def unH (a b c d : Int) : Int := if a = b ∧ c = d then Go.bits .and .u64 a c else min b d
def ucL (a b : Int) : Int := if a / 4294967296 = b / 4294967296 then a % 4294967296 else 0
def ucH (a b : Int) : Int := if a / 4294967296 = b / 4294967296 then b % 4294967296 else 4294967295
def sR (x : Int) : Prop := -9223372036854775808 ≤ x ∧ x < 9223372036854775808
instance (x : Int) : Decidable (sR x) := by unfold sR; exact inferInstance
def saL (a b c d : Int) : Int := if sR (a + c) ∧ sR (b + d) then a + c else -9223372036854775808
def saH (a b c d : Int) : Int := if sR (a + c) ∧ sR (b + d) then b + d else 9223372036854775807
def ssL (a b c d : Int) : Int := if sR (a - d) ∧ sR (b - c) then a - d else -9223372036854775808
def ssH (a b c d : Int) : Int := if sR (a - d) ∧ sR (b - c) then b - c else 9223372036854775807
section
variable {a b c d : Int} {K : Value → Prop}
structure U4 (a b c d : Int) : Prop where
  ha : u6 a
  hb : u6 b
  hc : u6 c
  hd : u6 d
  ab : a ≤ b
  cd : c ≤ d
structure S4 (a b c d : Int) : Prop where
  ha : i6 a
  hb : i6 b
  hc : i6 c
  hd : i6 d
  ab : a ≤ b
  cd : c ≤ d
theorem rAddC (N : U4 a b c d) (h : K (T2 (uaL a b c d) (uaH a b c d))) : nAddC a b c d K := by
  rw [nAddC_eq]
  obtain ⟨h1, h2, h3, h4, h5, h6⟩ := N
  unfold u6 at *; unfold uaL uaH at h
  refine br_cases (fun q => ?_) (fun q => ?_)
  · have q := of_decide_eq_true q; rw [uW] at q
    rw [if_neg (by omega), if_neg (by omega)] at h; exact h
  · have q := of_decide_eq_false q; rw [uW] at q
    rw [if_pos (by omega), if_pos (by omega)] at h
    exact kT2 h (by rw [uW]; omega) (by rw [uW]; omega)
theorem allE : IntKind.wrap .u64 (9223372036854775808 + IntKind.wrap .u64 (9223372036854775808 - 1)) = 18446744073709551615 := by rw [uW, uW]; omega
theorem rAddR (N : U4 a b c d) (h : K (T2 (uaL a b c d) (uaH a b c d))) : nAddR a b c d K := by
  rw [nAddR_eq, allE]
  obtain ⟨h1, h2, h3, h4, h5, h6⟩ := N
  unfold u6 at *; unfold uaL uaH at h
  refine br_cases (fun q => ?_) (fun q => ?_)
  · have q := of_decide_eq_true q; rw [uW] at q
    rw [if_neg (by omega), if_neg (by omega)] at h; exact h
  · have q := of_decide_eq_false q; rw [uW] at q
    rw [if_pos (by omega), if_pos (by omega)] at h
    exact kT2 h (by rw [uW]; omega) (by rw [uW]; omega)
theorem us_as (N : U4 a b c d) (h : K (T2 (usL a b c d) (usH a b c d))) : br (decide (a < d)) (K (.agg (#[.int .u64 0, .int .u64 18446744073709551615]))) (K (.agg (#[.int .u64 (IntKind.wrap .u64 (a - d)), .int .u64 (IntKind.wrap .u64 (b - c))]))) := by
  obtain ⟨h1, h2, h3, h4, h5, h6⟩ := N
  unfold u6 at *; unfold usL usH at h
  refine br_cases (fun q => ?_) (fun q => ?_)
  · have q := of_decide_eq_true q
    rw [if_pos q, if_pos q] at h; exact h
  · have q := of_decide_eq_false q
    rw [if_neg q, if_neg q] at h
    exact kT2 h (by rw [uW]; omega) (by rw [uW]; omega)
theorem rSubC (N : U4 a b c d) (h : K (T2 (usL a b c d) (usH a b c d))) : nSubC a b c d K := by rw [nSubC_eq]; exact us_as N h
theorem rSubR (N : U4 a b c d) (h : K (T2 (usL a b c d) (usH a b c d))) : nSubR a b c d K := by rw [nSubR_eq]; exact us_as N h
theorem mul_le {a b c d : Int} (h1 : 0 ≤ a) (h3 : 0 ≤ c) (h5 : a ≤ b) (h6 : c ≤ d) : 0 ≤ a * c ∧ a * c ≤ b * d :=
  ⟨Int.mul_nonneg h1 h3, Int.mul_le_mul h5 h6 h3 (by omega)⟩
theorem rMulC (N : U4 a b c d) (h : K (T2 (umL a b c d) (umH a b c d))) : nMulC a b c d K := by
  rw [nMulC_eq]
  refine ⟨⟨N.hb, N.hd⟩, fun r hr l hl => ?_⟩
  obtain ⟨h1, h2, h3, h4, h5, h6⟩ := N
  unfold u6 at *; unfold umL umH at h; unfold mulH at hr
  have m := mul_le h1.1 h3.1 h5 h6
  have m2 : 0 ≤ b * d := by omega
  generalize b * d = z at *
  refine br_cases (fun q => ?_) (fun q => ?_)
  · have q : ¬ r = 0 := by simpa using q
    rw [if_neg (by omega), if_neg (by omega)] at h; exact h
  · have q : r = 0 := by simpa using q
    rw [if_pos (by omega), if_pos (by omega)] at h
    exact kT2 h (by rw [uW]; omega) (by rw [hl, uW]; omega)
theorem rMulR (N : U4 a b c d) (h : K (T2 (umL a b c d) (umH a b c d))) : nMulR a b c d K := by
  rw [nMulR_eq, allE]
  repeat (first | with_reducible refine ob_self ?_ | with_reducible refine ob_true ?_)
  refine fun r hr => ?_
  obtain ⟨h1, h2, h3, h4, h5, h6⟩ := N
  unfold u6 at *; unfold umL umH at h
  have m := mul_le h1.1 h3.1 h5 h6
  have m2 : 0 ≤ b * d := by omega
  have key : (r = true ↔ ¬ b * d < 18446744073709551616) := by
    rw [hr]
    by_cases hd : d = 0
    · subst hd; simp
    · have e : (d != 0) = true := by simpa using hd
      rw [e, cond_true, decide_eq_true_eq, Int.tdiv_eq_ediv_of_nonneg (by omega), uW]
      have hdp : 0 < d := by omega
      have f1 : (18446744073709551615 / d) % 18446744073709551616 = 18446744073709551615 / d := by
        have := Int.ediv_nonneg (a := 18446744073709551615) (by omega) h4.1
        have := Int.ediv_le_self (a := 18446744073709551615) d (by omega)
        omega
      rw [f1]
      have f2 := Int.le_ediv_iff_mul_le (a := b) (b := 18446744073709551615) hdp
      omega
  refine br_cases (fun q => ?_) (fun q => ?_)
  · have q := key.1 q
    rw [if_neg q, if_neg q] at h; exact h
  · have q : b * d < 18446744073709551616 := Classical.byContradiction fun k => by rw [key.2 k] at q; cases q
    rw [if_pos q, if_pos q] at h
    generalize b * d = z at *
    exact kT2 h (by rw [uW]; omega) (by rw [uW]; omega)
theorem dvU {x y : Int} (hx : u6 x) (hy : u6 y) : IntKind.wrap .u64 (Int.tdiv x y) = x / y := by
  unfold u6 at *
  rw [Int.tdiv_eq_ediv_of_nonneg hx.1, uW]
  have := Int.ediv_nonneg hx.1 hy.1
  have := Int.ediv_le_self y hx.1
  omega
theorem rDivC (N : U4 a b c d) (h : K (T2 (udL a b c d) (udH a b c d))) : nDivC a b c d K := by
  rw [nDivC_eq]
  unfold udL udH at h
  repeat (first | with_reducible refine ob_self ?_ | with_reducible refine ob_true ?_ | ((with_reducible refine nm_intro ?_); intro r hr; subst hr))
  refine br_cases (fun q => ?_) (fun q => ?_)
  · have q : c = d ∧ c ≠ 0 := by simpa using q
    rw [if_pos q, if_pos q] at h
    exact ob_mk (fun _ => by simpa using q.2) (ob_mk (fun _ => by simpa using q.2) (kT2 h (dvU N.ha N.hc) (dvU N.hb N.hc)))
  · have q : ¬ (c = d ∧ c ≠ 0) := by rintro ⟨k1, k2⟩; rw [k1] at q; simp at q; omega
    rw [if_neg q, if_neg q] at h; exact h
theorem rDivR (N : U4 a b c d) (h : K (T2 (udL a b c d) (udH a b c d))) : nDivR a b c d K := by
  rw [nDivR_eq]
  unfold udL udH at h
  repeat (first | with_reducible refine ob_self ?_ | with_reducible refine ob_true ?_ | ((with_reducible refine nm_intro ?_); intro r hr; subst hr))
  refine br_cases (fun q => ?_) (fun q => ?_)
  · have q : ¬ (c = d ∧ c ≠ 0) := by rintro ⟨k1, k2⟩; rw [k1] at q; simp at q; omega
    rw [if_neg q, if_neg q] at h; exact h
  · have q : c = d ∧ c ≠ 0 := by simpa using q
    rw [if_pos q, if_pos q] at h
    exact ob_mk (fun _ => by simpa using q.2) (ob_mk (fun _ => by simpa using q.2) (kT2 h (dvU N.ha N.hc) (dvU N.hb N.hc)))
theorem rModC (N : U4 a b c d) (h : K (T2 (uoL a b c d) (uoH a b c d))) : nModC a b c d K := by
  rw [nModC_eq]
  unfold uoL uoH at h
  repeat (first | with_reducible refine ob_self ?_ | with_reducible refine ob_true ?_ | ((with_reducible refine nm_intro ?_); intro r hr; subst hr))
  refine br_cases (fun q => ?_) (fun q => ?_)
  · have q : ¬ (c = d ∧ c ≠ 0) := by rintro ⟨k1, k2⟩; rw [k1] at q; simp at q; omega
    rw [if_neg q, if_neg q] at h; exact h
  · have q : c = d ∧ c ≠ 0 := by simpa using q
    rw [if_pos q, if_pos q] at h
    refine br_cases (fun q1 => ?_) (fun q1 => br_cases (fun q2 => ?_) (fun q2 => ?_))
    · rw [if_pos (of_decide_eq_true q1), if_pos (of_decide_eq_true q1)] at h; exact h
    · rw [if_neg (of_decide_eq_false q1), if_neg (of_decide_eq_false q1), if_pos (eq_of_beq q2), if_pos (eq_of_beq q2)] at h
      have e : Int.tmod a c = a % c := Int.tmod_eq_emod_of_nonneg N.ha.1
      exact ob_mk (fun _ => by simpa using q.2) (kT2 h e e)
    · rw [if_neg (of_decide_eq_false q1), if_neg (of_decide_eq_false q1), if_neg (beq_eq_false_iff_ne.1 q2), if_neg (beq_eq_false_iff_ne.1 q2)] at h
      have := N.hc; unfold u6 at this
      exact kT2 h rfl (by rw [uW]; omega)
theorem rModR (N : U4 a b c d) (h : K (T2 (uoL a b c d) (uoH a b c d))) : nModR a b c d K := by
  rw [nModR_eq]
  unfold uoL uoH at h
  repeat (first | with_reducible refine ob_self ?_ | with_reducible refine ob_true ?_ | ((with_reducible refine nm_intro ?_); intro r hr; subst hr))
  refine br_cases (fun q => ?_) (fun q => ?_)
  · have q : ¬ (c = d ∧ c ≠ 0) := by rintro ⟨k1, k2⟩; rw [k1] at q; simp at q; omega
    rw [if_neg q, if_neg q] at h; exact h
  · have q : c = d ∧ c ≠ 0 := by simpa using q
    rw [if_pos q, if_pos q] at h
    refine br_cases (fun q1 => ?_) (fun q1 => br_cases (fun q2 => ?_) (fun q2 => ?_))
    · rw [if_pos (of_decide_eq_true q1), if_pos (of_decide_eq_true q1)] at h; exact h
    · rw [if_neg (of_decide_eq_false q1), if_neg (of_decide_eq_false q1), if_pos (eq_of_beq q2), if_pos (eq_of_beq q2)] at h
      have e : IntKind.wrap .u64 (a - IntKind.wrap .u64 (IntKind.wrap .u64 (Int.tdiv a c) * c)) = a % c := by
        rw [dvU N.ha N.hc, uW, uW]
        have hc := N.hc; have ha := N.ha; unfold u6 at hc ha
        have e1 := Int.mul_ediv_add_emod a c
        have e2 := Int.emod_nonneg a (b := c) q.2
        have e3 := Int.mul_nonneg hc.1 (Int.ediv_nonneg ha.1 hc.1)
        rw [Int.mul_comm (a / c) c]
        generalize c * (a / c) = z at *
        omega
      exact ob_mk (fun _ => by simpa using q.2) (kT2 h e e)
    · rw [if_neg (of_decide_eq_false q1), if_neg (of_decide_eq_false q1), if_neg (beq_eq_false_iff_ne.1 q2), if_neg (beq_eq_false_iff_ne.1 q2)] at h
      have := N.hc; unfold u6 at this
      exact kT2 h rfl (by rw [uW]; omega)
theorem rAndC (h : K (T2 (unL a b c d) (unH a b c d))) : nAndC a b c d K := by
  rw [nAndC_eq]
  unfold unL unH at h
  repeat (first | with_reducible refine ob_self ?_ | with_reducible refine ob_true ?_ | ((with_reducible refine nm_intro ?_); intro r hr; subst hr))
  refine br_cases (fun q => ?_) (fun q => ?_)
  · have q : a = b ∧ c = d := by simpa using q
    rw [if_pos q, if_pos q] at h; exact h
  · have q : ¬ (a = b ∧ c = d) := by rintro ⟨k1, k2⟩; rw [k1, k2] at q; simp at q
    rw [if_neg q, if_neg q] at h
    exact kT2 h rfl (by split <;> omega)
theorem rAndR (h : K (T2 (unL a b c d) (unH a b c d))) : nAndR a b c d K := by
  rw [nAndR_eq]
  unfold unL unH at h
  repeat (first | with_reducible refine ob_self ?_ | with_reducible refine ob_true ?_ | ((with_reducible refine nm_intro ?_); intro r hr; subst hr))
  refine br_cases (fun q => ?_) (fun q => ?_)
  · have q : a = b ∧ c = d := by simpa using q
    rw [if_pos q, if_pos q] at h; exact h
  · have q : ¬ (a = b ∧ c = d) := by rintro ⟨k1, k2⟩; rw [k1, k2] at q; simp at q
    rw [if_neg q, if_neg q] at h
    refine br_cases (fun q1 => ?_) (fun q1 => ?_)
    · have q1 := of_decide_eq_true q1; exact kT2 h rfl (by omega)
    · have q1 := of_decide_eq_false q1; exact kT2 h rfl (by omega)
theorem and32 {x : Int} (h : u6 x) : Go.bits .and .u64 x 4294967295 = x % 4294967296 := by
  obtain ⟨X, rfl⟩ := exu h
  rw [b_and, ofInt_U]
  unfold U
  rw [BitVec.toNat_and, show (BitVec.ofInt 64 4294967295).toNat = 2 ^ 32 - 1 by decide, Nat.and_two_pow_sub_one_eq_mod]; omega
theorem rCutC (ha : u6 a) (hb : u6 b) (h : K (T2 (ucL a b) (ucH a b))) : nCutC a b K := by
  rw [nCutC_eq]
  have e : ∀ z : Int, z / 2 ^ min (Int.toNat 32) (IntKind.bits .u64) = z / 4294967296 := fun _ => rfl
  rw [e, e]
  unfold ucL ucH at h
  refine ob_self (ob_self (br_cases (fun q => ?_) (fun q => ?_)))
  · have q := eq_of_beq q
    rw [if_pos q, if_pos q] at h; exact kT2 h (and32 ha) (and32 hb)
  · have q := beq_eq_false_iff_ne.1 q
    rw [if_neg q, if_neg q] at h; exact h
theorem rCutR (ha : u6 a) (hb : u6 b) (h : K (T2 (ucL a b) (ucH a b))) : nCutR a b K := by
  rw [nCutR_eq]
  have k : u6 4294967296 := by unfold u6; omega
  rw [dvU ha k, dvU hb k]
  unfold ucL ucH at h
  refine ob_self (ob_self (br_cases (fun q => ?_) (fun q => ?_)))
  · have q := eq_of_beq q
    rw [if_pos q, if_pos q] at h
    exact ob_self (ob_self (kT2 h (Int.tmod_eq_emod_of_nonneg ha.1) (Int.tmod_eq_emod_of_nonneg hb.1)))
  · have q := beq_eq_false_iff_ne.1 q
    rw [if_neg q, if_neg q] at h; exact h
end
end Go.Proofs.Ytnephcecobocdaa.VZdb
end
section
/- Layer 5, against the reference: sums and differences with a sign; products of 128 bits: the same on both sides. -/
namespace Go.Proofs.Ytnephcecobocdaa.VZdc
open Go Go.RowKit Go.Proofs Go.Proofs.Ytnephcecobocdaa.Xc Go.Proofs.Ytnephcecobocdaa.VZs Go.Proofs.Ytnephcecobocdaa.VZk Go.Proofs.Ytnephcecobocdaa.VZo Go.Proofs.Ytnephcecobocdaa.VZq Go.Proofs.Ytnephcecobocdaa.VZu Go.Proofs.Ytnephcecobocdaa.VZv Go.Proofs.Ytnephcecobocdaa.VZcf Go.Proofs.Ytnephcecobocdaa.VZda Go.Proofs.Ytnephcecobocdaa.VZdb Go.Proofs.Ytnephcecobocdaa.Bv
set_option linter.unusedVariables false
set_option linter.unusedSimpArgs false
section
variable {a b c d : Int} {K : Value → Prop}
theorem rSAddC (N : S4 a b c d) (h : K (S2 (saL a b c d) (saH a b c d))) : nSAddC a b c d K := by
  rw [nSAddC_eq]
  obtain ⟨h1, h2, h3, h4, h5, h6⟩ := N
  unfold i6 at *; unfold saL saH at h
  repeat (first | with_reducible refine ob_self ?_ | with_reducible refine ob_true ?_ | ((with_reducible refine nm_intro ?_); intro r hr; subst hr))
  refine br_cases (fun q => ?_) (fun q => ?_)
  · simp only [Bool.cond_true_left, Bool.or_eq_true, Bool.not_eq_true', beq_eq_false_iff_ne, ne_eq, decide_eq_decide] at q
    have k : ¬ (sR (a + c) ∧ sR (b + d)) := by unfold sR; rw [isw, isw] at q; omega
    rw [if_neg k, if_neg k] at h; exact h
  · simp only [Bool.cond_true_left, Bool.or_eq_false_iff, Bool.not_eq_false', beq_iff_eq, decide_eq_decide] at q
    have k : sR (a + c) ∧ sR (b + d) := by unfold sR; rw [isw, isw] at q; omega
    rw [if_pos k, if_pos k] at h
    unfold sR at k
    exact kS2 h (by rw [isw]; omega) (by rw [isw]; omega)
theorem rSAddR (N : S4 a b c d) (h : K (S2 (saL a b c d) (saH a b c d))) : nSAddR a b c d K := by
  rw [nSAddR_eq]
  obtain ⟨h1, h2, h3, h4, h5, h6⟩ := N
  unfold i6 at *; unfold saL saH at h
  repeat (first | with_reducible refine ob_self ?_ | with_reducible refine ob_true ?_ | ((with_reducible refine nm_intro ?_); intro r hr; subst hr))
  refine br_cases (fun q => ?_) (fun q => ?_)
  · simp only [Bool.cond_true_left, Bool.cond_false_right, Bool.or_eq_true, Bool.and_eq_true, decide_eq_true_eq, isw] at q
    have k : ¬ (sR (a + c) ∧ sR (b + d)) := by unfold sR; omega
    rw [if_neg k, if_neg k] at h; exact h
  · simp only [Bool.cond_true_left, Bool.cond_false_right, Bool.or_eq_false_iff, Bool.and_eq_false_imp, decide_eq_true_eq, decide_eq_false_iff_not, isw] at q
    have k : sR (a + c) ∧ sR (b + d) := by unfold sR; omega
    rw [if_pos k, if_pos k] at h
    unfold sR at k
    exact kS2 h (by rw [isw]; omega) (by rw [isw]; omega)
theorem rSSubC (N : S4 a b c d) (h : K (S2 (ssL a b c d) (ssH a b c d))) : nSSubC a b c d K := by
  rw [nSSubC_eq]
  obtain ⟨h1, h2, h3, h4, h5, h6⟩ := N
  unfold i6 at *; unfold ssL ssH at h
  repeat (first | with_reducible refine ob_self ?_ | with_reducible refine ob_true ?_ | ((with_reducible refine nm_intro ?_); intro r hr; subst hr))
  refine br_cases (fun q => ?_) (fun q => ?_)
  · simp only [Bool.cond_true_left, Bool.or_eq_true, Bool.not_eq_true', beq_eq_false_iff_ne, ne_eq, decide_eq_decide] at q
    have k : ¬ (sR (a - d) ∧ sR (b - c)) := by unfold sR; rw [isw, isw] at q; omega
    rw [if_neg k, if_neg k] at h; exact h
  · simp only [Bool.cond_true_left, Bool.or_eq_false_iff, Bool.not_eq_false', beq_iff_eq, decide_eq_decide] at q
    have k : sR (a - d) ∧ sR (b - c) := by unfold sR; rw [isw, isw] at q; omega
    rw [if_pos k, if_pos k] at h
    unfold sR at k
    exact kS2 h (by rw [isw]; omega) (by rw [isw]; omega)
theorem rSSubR (N : S4 a b c d) (h : K (S2 (ssL a b c d) (ssH a b c d))) : nSSubR a b c d K := by
  rw [nSSubR_eq]
  obtain ⟨h1, h2, h3, h4, h5, h6⟩ := N
  unfold i6 at *; unfold ssL ssH at h
  repeat (first | with_reducible refine ob_self ?_ | with_reducible refine ob_true ?_ | ((with_reducible refine nm_intro ?_); intro r hr; subst hr))
  refine br_cases (fun q => ?_) (fun q => ?_)
  · simp only [Bool.cond_true_left, Bool.cond_false_right, Bool.or_eq_true, Bool.and_eq_true, decide_eq_true_eq, isw] at q
    have k : ¬ (sR (a - d) ∧ sR (b - c)) := by unfold sR; omega
    rw [if_neg k, if_neg k] at h; exact h
  · simp only [Bool.cond_true_left, Bool.cond_false_right, Bool.or_eq_false_iff, Bool.and_eq_false_imp, decide_eq_true_eq, decide_eq_false_iff_not, isw] at q
    have k : sR (a - d) ∧ sR (b - c) := by unfold sR; omega
    rw [if_pos k, if_pos k] at h
    unfold sR at k
    exact kS2 h (by rw [isw]; omega) (by rw [isw]; omega)
end
/-- How far a shift goes. -/
def sh (n : Int) : Nat := (n % 64).toNat
theorem sh_lt (n : Int) : sh n < 64 := by unfold sh; omega
theorem and63 {n : Int} (h : i6 n) : Go.bits .and .i64 n 63 = (sh n : Int) := by
  rw [s_and]
  have e : BitVec.ofInt 64 n &&& BitVec.ofInt 64 63 = BitVec.ofNat 64 (sh n) := by
    apply BitVec.eq_of_toNat_eq
    rw [BitVec.toNat_and, show (BitVec.ofInt 64 63).toNat = 2 ^ 6 - 1 by decide, Nat.and_two_pow_sub_one_eq_mod, BitVec.toNat_ofNat, BitVec.toNat_ofInt]
    unfold sh; simp; omega
  rw [e]
  have := sh_lt n
  unfold S
  have t : (BitVec.ofNat 64 (sh n)).toNat = sh n := by rw [BitVec.toNat_ofNat]; omega
  rw [BitVec.toInt_eq_toNat_of_lt (by rw [t]; omega), t]
theorem rnd_eq {n : Int} {K : Value → Prop} (h : i6 n) (k : K (.int .i64 (sh n))) : nRnd n K := by
  rw [nRnd_eq]
  have t := Int.tmod_def n 64
  unfold i6 at h; unfold sh at k
  have e : Int.tmod n 64 = if n % 64 = 0 ∨ 0 ≤ n then n % 64 else n % 64 - 64 := by
    rw [Int.tmod_eq_emod]
    by_cases h0 : 0 ≤ n ∨ (64 : Int) ∣ n
    · rw [if_pos h0, if_pos (by omega)]; omega
    · rw [if_neg h0, if_neg (by omega)]; omega
  refine ob_self (br_cases (fun q => ?_) (fun q => ?_))
  · have q := of_decide_eq_true q
    rw [e] at q ⊢
    split at q
    · omega
    · rename_i hn
      rw [if_neg hn]
      rw [show IntKind.wrap .i64 (n % 64 - 64 + 64) = (((n % 64).toNat : Nat) : Int) by rw [isw]; omega]; exact k
  · have q := of_decide_eq_false q
    rw [e] at q ⊢
    split at q
    · rename_i hn
      rw [if_pos hn, show n % 64 = (((n % 64).toNat : Nat) : Int) by omega]; exact k
    · omega
end Go.Proofs.Ytnephcecobocdaa.VZdc
end
section
/- Layer 5, against the reference: rounds of shifts, and of the bits below, run. -/
namespace Go.Proofs.Ytnephcecobocdaa.VZdd
open Go Go.RowKit Go.Proofs Go.Proofs.Ytnephcecobocdaa.Xc Go.Proofs.Ytnephcecobocdaa.VZs Go.Proofs.Ytnephcecobocdaa.VZk Go.Proofs.Ytnephcecobocdaa.VZo Go.Proofs.Ytnephcecobocdaa.VZq Go.Proofs.Ytnephcecobocdaa.VZu Go.Proofs.Ytnephcecobocdaa.VZcf Go.Proofs.Ytnephcecobocdaa.VZdc
set_option maxRecDepth 100000
set_option linter.unusedVariables false
def shI (n : Int) : Int := sh n
noncomputable abbrev TRd : Tab := [(87, fun vs K => match vs with
  | [.int .i64 n] => need (i6 n) (nm (shI n) fun r => K (.int .i64 r))
  | _ => False)]
noncomputable def bodyL : Code := match blk Try.prog 67 0 with
  | .loop c => c
  | _ => .skip
noncomputable def bodyR : Code := match blk Try.prog 68 0 with
  | .loop c => c
  | _ => .skip
noncomputable def bodyA : Code := match blk Try.prog 36 0 with
  | .loop c => c
  | _ => .skip
noncomputable def bodyF : Code := match blk Try.prog 93 0 with
  | .loop c => c
  | _ => .skip
def SLs (x0 : Value) (a b n i l h : Int) : St := ⟨[.v x0, .v (.int .i64 n), .p 0 0, .any, .p 1 0, .v (.int .i64 i)] ++ List.replicate 19 .any, [[.v (.int .u64 a), .v (.int .u64 b)], [.v (.int .u64 l), .v (.int .u64 h)]]⟩
def SRs (x0 : Value) (a b n i : Int) : St := ⟨[.v x0, .v (.int .i64 n), .p 0 0, .any, .p 1 0, .v (.int .i64 i)] ++ List.replicate 14 .any, [[.v (.int .u64 a), .v (.int .u64 b)], [.v (.int .u64 0), .v (.int .u64 0)]]⟩
def SAs (x0 : Value) (a b n i : Int) : St := ⟨[.v x0, .v (.int .i64 n), .p 0 0, .any, .p 1 0, .v (.int .i64 i)] ++ List.replicate 14 .any, [[.v (.int .i64 a), .v (.int .i64 b)], [.v (.int .i64 0), .v (.int .i64 0)]]⟩
def SFs (v n : Int) : St := ⟨[.v (.int .u64 v), .any, .v (.int .u64 0), .v (.int .u64 n)] ++ List.replicate 7 .any, []⟩
def nRdL (x0 : Value) (a b n i : Int) (K : Exit → St → Prop) : Prop := rndL Try.prog TRd EEk true [] 90 [0, 1, 2, 4, 5] 2 bodyL (SLs x0 a b n i 0 0) K
theorem nRdL_eq (x0 : Value) (a b n i : Int) (K : Exit → St → Prop) : nRdL x0 a b n i K = (need (Go.Proofs.Ytnephcecobocdaa.VZcf.i6 n) (nm (Go.Proofs.Ytnephcecobocdaa.VZdd.shI n) fun r => br (decide (i < r)) (br (decide (b ≥ 9223372036854775808)) (K Go.Exit.ret (St.mk [AV.v x0, AV.v (.int .i64 n), AV.p 0 0, AV.any, AV.p 1 0, AV.v (.int .i64 i), AV.any, AV.any, AV.any, AV.any, AV.any, AV.any, AV.any, AV.any, AV.any, AV.any, AV.any, AV.any, AV.any, AV.any, AV.any, AV.any, AV.any, AV.any, AV.any] [[AV.v (.int .u64 a), AV.v (.int .u64 b)], [AV.v (.int .u64 0), AV.v (.int .u64 18446744073709551615)]])) (K Go.Exit.normal (St.mk [AV.v x0, AV.v (.int .i64 n), AV.p 0 0, AV.any, AV.p 1 0, AV.v (.int .i64 (IntKind.wrap .i64 (i + 1))), AV.any, AV.any, AV.any, AV.any, AV.any, AV.any, AV.any, AV.any, AV.any, AV.any, AV.any, AV.any, AV.any, AV.any, AV.any, AV.any, AV.any, AV.any, AV.any] [[AV.v (.int .u64 (IntKind.wrap .u64 (2 * a))), AV.v (.int .u64 (IntKind.wrap .u64 (2 * b)))], [AV.v (.int .u64 0), AV.v (.int .u64 0)]]))) (K (Go.Exit.exit 0) (St.mk [AV.v x0, AV.v (.int .i64 n), AV.p 0 0, AV.any, AV.p 1 0, AV.v (.int .i64 i), AV.any, AV.any, AV.any, AV.any, AV.any, AV.any, AV.any, AV.any, AV.any, AV.any, AV.any, AV.any, AV.any, AV.any, AV.any, AV.any, AV.any, AV.any, AV.any] [[AV.v (.int .u64 a), AV.v (.int .u64 b)], [AV.v (.int .u64 0), AV.v (.int .u64 0)]])))) := by kernel_rfl
def nRdR (x0 : Value) (a b n i : Int) (K : Exit → St → Prop) : Prop := rndL Try.prog TRd EEk true [] 90 [0, 1, 2, 4, 5] 2 bodyR (SRs x0 a b n i) K
theorem nRdR_eq (x0 : Value) (a b n i : Int) (K : Exit → St → Prop) : nRdR x0 a b n i K = (need (Go.Proofs.Ytnephcecobocdaa.VZcf.i6 n) (nm (Go.Proofs.Ytnephcecobocdaa.VZdd.shI n) fun r => br (decide (i < r)) (ob true true (ob true true (K Go.Exit.normal (St.mk [AV.v x0, AV.v (.int .i64 n), AV.p 0 0, AV.any, AV.p 1 0, AV.v (.int .i64 (IntKind.wrap .i64 (i + 1))), AV.any, AV.any, AV.any, AV.any, AV.any, AV.any, AV.any, AV.any, AV.any, AV.any, AV.any, AV.any, AV.any, AV.any] [[AV.v (.int .u64 (IntKind.wrap .u64 (Int.tdiv a 2))), AV.v (.int .u64 (IntKind.wrap .u64 (Int.tdiv b 2)))], [AV.v (.int .u64 0), AV.v (.int .u64 0)]])))) (K (Go.Exit.exit 0) (St.mk [AV.v x0, AV.v (.int .i64 n), AV.p 0 0, AV.any, AV.p 1 0, AV.v (.int .i64 i), AV.any, AV.any, AV.any, AV.any, AV.any, AV.any, AV.any, AV.any, AV.any, AV.any, AV.any, AV.any, AV.any, AV.any] [[AV.v (.int .u64 a), AV.v (.int .u64 b)], [AV.v (.int .u64 0), AV.v (.int .u64 0)]])))) := by kernel_rfl
def nRdA (x0 : Value) (a b n i : Int) (K : Exit → St → Prop) : Prop := rndL Try.prog TRd EEk true [] 90 [0, 1, 2, 4, 5] 2 bodyA (SAs x0 a b n i) K
theorem nRdA_eq (x0 : Value) (a b n i : Int) (K : Exit → St → Prop) : nRdA x0 a b n i K = (need (Go.Proofs.Ytnephcecobocdaa.VZcf.i6 n) (nm (Go.Proofs.Ytnephcecobocdaa.VZdd.shI n) fun r => br (decide (i < r)) (ob true true (br (decide (Int.tmod a 2 < 0)) (ob true true (ob true true (br (decide (Int.tmod b 2 < 0)) (ob true true (K Go.Exit.normal (St.mk [AV.v x0, AV.v (.int .i64 n), AV.p 0 0, AV.any, AV.p 1 0, AV.v (.int .i64 (IntKind.wrap .i64 (i + 1))), AV.any, AV.any, AV.any, AV.any, AV.any, AV.any, AV.any, AV.any, AV.any, AV.any, AV.any, AV.any, AV.any, AV.any] [[AV.v (.int .i64 (IntKind.wrap .i64 (IntKind.wrap .i64 (Int.tdiv a 2) - 1))), AV.v (.int .i64 (IntKind.wrap .i64 (IntKind.wrap .i64 (Int.tdiv b 2) - 1)))], [AV.v (.int .i64 0), AV.v (.int .i64 0)]]))) (ob true true (K Go.Exit.normal (St.mk [AV.v x0, AV.v (.int .i64 n), AV.p 0 0, AV.any, AV.p 1 0, AV.v (.int .i64 (IntKind.wrap .i64 (i + 1))), AV.any, AV.any, AV.any, AV.any, AV.any, AV.any, AV.any, AV.any, AV.any, AV.any, AV.any, AV.any, AV.any, AV.any] [[AV.v (.int .i64 (IntKind.wrap .i64 (IntKind.wrap .i64 (Int.tdiv a 2) - 1))), AV.v (.int .i64 (IntKind.wrap .i64 (Int.tdiv b 2)))], [AV.v (.int .i64 0), AV.v (.int .i64 0)]])))))) (ob true true (ob true true (br (decide (Int.tmod b 2 < 0)) (ob true true (K Go.Exit.normal (St.mk [AV.v x0, AV.v (.int .i64 n), AV.p 0 0, AV.any, AV.p 1 0, AV.v (.int .i64 (IntKind.wrap .i64 (i + 1))), AV.any, AV.any, AV.any, AV.any, AV.any, AV.any, AV.any, AV.any, AV.any, AV.any, AV.any, AV.any, AV.any, AV.any] [[AV.v (.int .i64 (IntKind.wrap .i64 (Int.tdiv a 2))), AV.v (.int .i64 (IntKind.wrap .i64 (IntKind.wrap .i64 (Int.tdiv b 2) - 1)))], [AV.v (.int .i64 0), AV.v (.int .i64 0)]]))) (ob true true (K Go.Exit.normal (St.mk [AV.v x0, AV.v (.int .i64 n), AV.p 0 0, AV.any, AV.p 1 0, AV.v (.int .i64 (IntKind.wrap .i64 (i + 1))), AV.any, AV.any, AV.any, AV.any, AV.any, AV.any, AV.any, AV.any, AV.any, AV.any, AV.any, AV.any, AV.any, AV.any] [[AV.v (.int .i64 (IntKind.wrap .i64 (Int.tdiv a 2))), AV.v (.int .i64 (IntKind.wrap .i64 (Int.tdiv b 2)))], [AV.v (.int .i64 0), AV.v (.int .i64 0)]])))))))) (K (Go.Exit.exit 0) (St.mk [AV.v x0, AV.v (.int .i64 n), AV.p 0 0, AV.any, AV.p 1 0, AV.v (.int .i64 i), AV.any, AV.any, AV.any, AV.any, AV.any, AV.any, AV.any, AV.any, AV.any, AV.any, AV.any, AV.any, AV.any, AV.any] [[AV.v (.int .i64 a), AV.v (.int .i64 b)], [AV.v (.int .i64 0), AV.v (.int .i64 0)]])))) := by kernel_rfl
def nRdF (v n : Int) (K : Exit → St → Prop) : Prop := rndL Try.prog [] EEk true [] 90 [0, 2, 3] 0 bodyF (SFs v n) K
theorem nRdF_eq (v n : Int) (K : Exit → St → Prop) : nRdF v n K = (br (decide (n < v)) (K Go.Exit.normal (St.mk [AV.v (.int .u64 v), AV.any, AV.v (.int .u64 0), AV.v (.int .u64 (IntKind.wrap .u64 (IntKind.wrap .u64 (2 * n) + 1))), AV.any, AV.any, AV.any, AV.any, AV.any, AV.any, AV.any] [])) (K (Go.Exit.exit 0) (St.mk [AV.v (.int .u64 v), AV.any, AV.v (.int .u64 0), AV.v (.int .u64 n), AV.any, AV.any, AV.any, AV.any, AV.any, AV.any, AV.any] []))) := by kernel_rfl
end Go.Proofs.Ytnephcecobocdaa.VZdd
end
section
/- Layer 5, against the reference: shifts, bit by bit, and the bits below: its loops. -/
namespace Go.Proofs.Ytnephcecobocdaa.VZde
open Go Go.RowKit Go.Proofs Go.Proofs.Ytnephcecobocdaa.Xc Go.Proofs.Ytnephcecobocdaa.VZs Go.Proofs.Ytnephcecobocdaa.VZk Go.Proofs.Ytnephcecobocdaa.VZo Go.Proofs.Ytnephcecobocdaa.VZq Go.Proofs.Ytnephcecobocdaa.VZu Go.Proofs.Ytnephcecobocdaa.VZv Go.Proofs.Ytnephcecobocdaa.VZy Go.Proofs.Ytnephcecobocdaa.VZbc Go.Proofs.Ytnephcecobocdaa.VZcf Go.Proofs.Ytnephcecobocdaa.VZda Go.Proofs.Ytnephcecobocdaa.VZdb Go.Proofs.Ytnephcecobocdaa.VZdc Go.Proofs.Ytnephcecobocdaa.VZdd Go.Proofs.Ytnephcecobocdaa.Bv
set_option linter.unusedVariables false
set_option linter.unusedSimpArgs false
theorem trd : TabOk Try.prog TRd := by
  refine tab_runK good (by kernel_rfl) (fun vs K h => ?_) tab_nil
  split at h
  · have o := rnd_eq (K := K) h.1 (h.2 _ rfl); unfold nRnd at o; exact ⟨[], EEk, true, 90, tab_nil, eek, o⟩
  · exact h.elim
theorem pw_pos (k : Nat) : (0 : Int) < 2 ^ k := Int.pow_pos (by decide)
theorem dv_s (a : Int) (j : Nat) : a / 2 ^ j / 2 = a / 2 ^ (j + 1) := by
  rw [Int.ediv_ediv_of_nonneg (Int.le_of_lt (pw_pos j)), Int.pow_succ]
theorem dv_u {a : Int} (h : u6 a) (j : Nat) : u6 (a / 2 ^ j) := by
  unfold u6 at *
  have := Int.ediv_nonneg h.1 (Int.le_of_lt (pw_pos j))
  have := Int.ediv_le_self (2 ^ j) h.1
  omega
theorem dv_i {a : Int} (h : i6 a) (j : Nat) : i6 (a / 2 ^ j) := by
  unfold i6 at *
  have hp := pw_pos j
  refine ⟨?_, ?_⟩
  · rw [Int.le_ediv_iff_mul_le hp]
    have : (-9223372036854775808 : Int) * 2 ^ j ≤ -9223372036854775808 * 1 := Int.mul_le_mul_of_nonpos_left (by omega) (by omega)
    omega
  · rw [Int.ediv_lt_iff_lt_mul hp]
    have : (9223372036854775808 : Int) * 1 ≤ 9223372036854775808 * 2 ^ j := Int.mul_le_mul_of_nonneg_left (by omega) (by omega)
    omega
theorem nxJ {j : Nat} (hj : j < 64) : IntKind.wrap .i64 ((j : Int) + 1) = ((j + 1 : Nat) : Int) := by rw [isw]; omega
theorem half_e {v : Int} (h : i6 v) : (Int.tmod v 2 < 0 → IntKind.wrap .i64 (IntKind.wrap .i64 (Int.tdiv v 2) - 1) = v / 2) ∧ (¬ Int.tmod v 2 < 0 → IntKind.wrap .i64 (Int.tdiv v 2) = v / 2) := by
  unfold i6 at h
  rw [Int.tmod_eq_emod, Int.tdiv_eq_ediv]
  by_cases c : 0 ≤ v ∨ (2 : Int) ∣ v
  · rw [if_pos c, if_pos c]
    exact ⟨fun k => by omega, fun _ => by rw [isw]; omega⟩
  · rw [if_neg c, if_neg c, show (2 : Int).sign = 1 from rfl, show ((2 : Int).natAbs : Int) = 2 from rfl]
    exact ⟨fun _ => by rw [isw, isw]; omega, fun k => by omega⟩
theorem loopR (x0 : Value) (a b n : Int) (ha : u6 a) (hb : u6 b) (hn : i6 n) : LW Try.prog bodyR (SRs x0 a b n 0) (.exit 0) (SRs x0 (a / 2 ^ sh n) (b / 2 ^ sh n) n (sh n : Nat)) := by
  have key := loop_ix (P := Try.prog) (c := bodyR) (fun j : Nat => SRs x0 (a / 2 ^ j) (b / 2 ^ j) n j) (fun j => j ≤ sh n) (fun j => sh n - j) (fun _ e s' => e = .exit 0 ∧ s' = SRs x0 (a / 2 ^ sh n) (b / 2 ^ sh n) n (sh n : Nat)) ?_ 0 (by omega)
  · obtain ⟨e, s', ⟨rfl, rfl⟩, hl⟩ := key
    simp only [Int.pow_zero, Int.ediv_one] at hl; exact hl
  · intro j hj
    have hk := sh_lt n
    refine rndL_sound (gm := true) (Lt := []) (f := 90) (ks := [0, 1, 2, 4, 5]) (n := 2) good trd eek lok_nil (by kernel_rfl) ?_
    have fin : ∀ Q, nRdR x0 (a / 2 ^ j) (b / 2 ^ j) n j Q → rndL Try.prog TRd EEk true [] 90 [0, 1, 2, 4, 5] 2 bodyR (SRs x0 (a / 2 ^ j) (b / 2 ^ j) n j) Q := fun Q h => by unfold nRdR at h; exact h
    refine fin _ ?_
    rw [nRdR_eq]
    refine ⟨hn, fun r hr => ?_⟩
    have hr : r = (sh n : Nat) := hr
    subst hr
    refine br_cases (fun q => ?_) (fun q => ?_)
    · have q := of_decide_eq_true q
      repeat (first | with_reducible refine ob_self ?_ | with_reducible refine ob_true ?_)
      refine Or.inr ⟨rfl, j + 1, ?_, by omega, by omega, fun _ _ h => h⟩
      have k2 : u6 2 := by unfold u6; omega
      rw [dvU (dv_u ha j) k2, dvU (dv_u hb j) k2, dv_s, dv_s, nxJ (by omega)]; rfl
    · have q := of_decide_eq_false q
      obtain rfl : j = sh n := by omega
      exact Or.inl ⟨by simp, rfl, rfl⟩
theorem loopA (x0 : Value) (a b n : Int) (ha : i6 a) (hb : i6 b) (hn : i6 n) : LW Try.prog bodyA (SAs x0 a b n 0) (.exit 0) (SAs x0 (a / 2 ^ sh n) (b / 2 ^ sh n) n (sh n : Nat)) := by
  have key := loop_ix (P := Try.prog) (c := bodyA) (fun j : Nat => SAs x0 (a / 2 ^ j) (b / 2 ^ j) n j) (fun j => j ≤ sh n) (fun j => sh n - j) (fun _ e s' => e = .exit 0 ∧ s' = SAs x0 (a / 2 ^ sh n) (b / 2 ^ sh n) n (sh n : Nat)) ?_ 0 (by omega)
  · obtain ⟨e, s', ⟨rfl, rfl⟩, hl⟩ := key
    simp only [Int.pow_zero, Int.ediv_one] at hl; exact hl
  · intro j hj
    have hk := sh_lt n
    refine rndL_sound (gm := true) (Lt := []) (f := 90) (ks := [0, 1, 2, 4, 5]) (n := 2) good trd eek lok_nil (by kernel_rfl) ?_
    have fin : ∀ Q, nRdA x0 (a / 2 ^ j) (b / 2 ^ j) n j Q → rndL Try.prog TRd EEk true [] 90 [0, 1, 2, 4, 5] 2 bodyA (SAs x0 (a / 2 ^ j) (b / 2 ^ j) n j) Q := fun Q h => by unfold nRdA at h; exact h
    refine fin _ ?_
    rw [nRdA_eq]
    refine ⟨hn, fun r hr => ?_⟩
    have hr : r = (sh n : Nat) := hr
    subst hr
    have ea := half_e (dv_i ha j)
    have eb := half_e (dv_i hb j)
    rw [dv_s] at ea eb
    refine br_cases (fun q => ?_) (fun q => ?_)
    · have q := of_decide_eq_true q
      repeat (first | with_reducible refine ob_self ?_ | with_reducible refine ob_true ?_)
      refine br_cases (fun q1 => ?_) (fun q1 => ?_)
      all_goals (repeat (first | with_reducible refine ob_self ?_ | with_reducible refine ob_true ?_))
      all_goals (refine br_cases (fun q2 => ?_) (fun q2 => ?_))
      all_goals (repeat (first | with_reducible refine ob_self ?_ | with_reducible refine ob_true ?_))
      all_goals (first | have q1 := of_decide_eq_true q1 | have q1 := of_decide_eq_false q1)
      all_goals (first | have q2 := of_decide_eq_true q2 | have q2 := of_decide_eq_false q2)
      all_goals (refine Or.inr ⟨rfl, j + 1, ?_, by omega, by omega, fun _ _ h => h⟩)
      all_goals (first | rw [ea.1 q1] | rw [ea.2 q1])
      all_goals (first | rw [eb.1 q2] | rw [eb.2 q2])
      all_goals (rw [nxJ (by omega)]; rfl)
    · have q := of_decide_eq_false q
      obtain rfl : j = sh n := by omega
      exact Or.inl ⟨by simp, rfl, rfl⟩
theorem loopL (x0 : Value) (a b n : Int) (ha : u6 a) (hb : u6 b) (hab : a ≤ b) (hn : i6 n) : ∃ e s', ((b * 2 ^ sh n < 18446744073709551616 ∧ e = .exit 0 ∧ s' = SLs x0 (a * 2 ^ sh n) (b * 2 ^ sh n) n (sh n : Nat) 0 0) ∨ (¬ b * 2 ^ sh n < 18446744073709551616 ∧ ∃ a' b' i, e = .ret ∧ s' = SLs x0 a' b' n i 0 18446744073709551615)) ∧ LW Try.prog bodyL (SLs x0 a b n 0 0 0) e s' := by
  have key := loop_ix (P := Try.prog) (c := bodyL) (fun j : Nat => SLs x0 (a * 2 ^ j) (b * 2 ^ j) n j 0 0) (fun j => j ≤ sh n ∧ b * 2 ^ j < 18446744073709551616) (fun j => sh n - j) (fun _ e s' => (b * 2 ^ sh n < 18446744073709551616 ∧ e = .exit 0 ∧ s' = SLs x0 (a * 2 ^ sh n) (b * 2 ^ sh n) n (sh n : Nat) 0 0) ∨ (¬ b * 2 ^ sh n < 18446744073709551616 ∧ ∃ a' b' i, e = .ret ∧ s' = SLs x0 a' b' n i 0 18446744073709551615)) ?_ 0 ⟨by omega, by unfold u6 at hb; simp; omega⟩
  · obtain ⟨e, s', h, hl⟩ := key
    refine ⟨e, s', h, ?_⟩
    simp only [Int.pow_zero, Int.mul_one] at hl; exact hl
  · intro j ⟨hj, hbj⟩
    have hk := sh_lt n
    refine rndL_sound (gm := true) (Lt := []) (f := 90) (ks := [0, 1, 2, 4, 5]) (n := 2) good trd eek lok_nil (by kernel_rfl) ?_
    have fin : ∀ Q, nRdL x0 (a * 2 ^ j) (b * 2 ^ j) n j Q → rndL Try.prog TRd EEk true [] 90 [0, 1, 2, 4, 5] 2 bodyL (SLs x0 (a * 2 ^ j) (b * 2 ^ j) n j 0 0) Q := fun Q h => by unfold nRdL at h; exact h
    refine fin _ ?_
    rw [nRdL_eq]
    refine ⟨hn, fun r hr => ?_⟩
    have hr : r = (sh n : Nat) := hr
    subst hr
    unfold u6 at ha hb
    have hp := pw_pos j
    have s1 : a * 2 ^ (j + 1) = 2 * (a * 2 ^ j) := by rw [Int.pow_succ, ← Int.mul_assoc, Int.mul_comm _ 2]
    have s2 : b * 2 ^ (j + 1) = 2 * (b * 2 ^ j) := by rw [Int.pow_succ, ← Int.mul_assoc, Int.mul_comm _ 2]
    have n1 := Int.mul_nonneg ha.1 (Int.le_of_lt hp)
    have n2 := Int.mul_le_mul_of_nonneg_right hab (Int.le_of_lt hp)
    refine br_cases (fun q => br_cases (fun q1 => ?_) (fun q1 => ?_)) (fun q => ?_)
    · have q := of_decide_eq_true q
      have q1 := of_decide_eq_true q1
      refine Or.inl ⟨by simp, Or.inr ⟨?_, _, _, _, rfl, rfl⟩⟩
      have e : (2 : Int) ^ (j + 1) ≤ 2 ^ sh n := by
        have : 2 ^ (j + 1) ≤ 2 ^ sh n := Nat.pow_le_pow_right (by decide) (by omega)
        have : ((2 ^ (j + 1) : Nat) : Int) ≤ ((2 ^ sh n : Nat) : Int) := by omega
        simpa using this
      have := Int.mul_le_mul_of_nonneg_left e hb.1
      omega
    · have q := of_decide_eq_true q
      have q1 := of_decide_eq_false q1
      refine Or.inr ⟨rfl, j + 1, ?_, ⟨by omega, by omega⟩, by omega, fun _ _ h => h⟩
      rw [s1, s2, nxJ (by omega)]
      generalize a * 2 ^ j = A at *
      generalize b * 2 ^ j = B at *
      rw [show IntKind.wrap .u64 (2 * A) = 2 * A by rw [uW]; omega, show IntKind.wrap .u64 (2 * B) = 2 * B by rw [uW]; omega]; rfl
    · have q := of_decide_eq_false q
      obtain rfl : j = sh n := by omega
      exact Or.inl ⟨by simp, Or.inl ⟨hbj, rfl, rfl⟩⟩
/-- All bits up to the highest of a number. -/
noncomputable def fl (v : Int) : Int := 2 ^ kpf v 0 - 1
theorem KP0 {v : Int} (hv : u6 v) {k : Nat} (hk : k ≤ 64) (h1 : v < 2 ^ k) (h2 : ∀ i, i < k → 2 ^ i ≤ v) : KP v 0 k := by
  refine ⟨hk, ?_, fun i hi e => ?_⟩
  · rw [Int.zero_ediv]; exact Int.ediv_eq_zero_of_lt hv.1 h1
  · rw [Int.zero_ediv] at e
    have := h2 i hi
    have hp := pw_pos i
    have : 1 ≤ v / 2 ^ i := by rw [Int.le_ediv_iff_mul_le hp]; omega
    omega
theorem loopF (v : Int) (hv : u6 v) : ∃ k, KP v 0 k ∧ LW Try.prog bodyF (SFs v 0) (.exit 0) (SFs v (2 ^ k - 1)) := by
  have key := loop_ix (P := Try.prog) (c := bodyF) (fun j : Nat => SFs v (2 ^ j - 1)) (fun j => j ≤ 64 ∧ ∀ i, i < j → 2 ^ i ≤ v) (fun j => 64 - j) (fun _ e s' => ∃ k, KP v 0 k ∧ e = .exit 0 ∧ s' = SFs v (2 ^ k - 1)) ?_ 0 ⟨by omega, fun i h => by omega⟩
  · obtain ⟨e, s', ⟨k, hk, rfl, rfl⟩, hl⟩ := key
    exact ⟨k, hk, hl⟩
  · intro j ⟨hj, ha⟩
    refine rndL_sound (gm := true) (Lt := []) (f := 90) (ks := [0, 2, 3]) (n := 0) good tab_nil eek lok_nil (by kernel_rfl) ?_
    have fin : ∀ Q, nRdF v (2 ^ j - 1) Q → rndL Try.prog [] EEk true [] 90 [0, 2, 3] 0 bodyF (SFs v (2 ^ j - 1)) Q := fun Q h => by unfold nRdF at h; exact h
    refine fin _ ?_
    rw [nRdF_eq]
    have hp := pw_pos j
    have hv2 := hv; unfold u6 at hv2
    refine br_cases (fun q => ?_) (fun q => ?_)
    · have q := of_decide_eq_true q
      have h64 : j < 64 := Classical.byContradiction fun h => by
        obtain rfl : j = 64 := by omega
        have : (2 : Int) ^ 64 = 18446744073709551616 := by decide
        omega
      refine Or.inr ⟨rfl, j + 1, ?_, ⟨by omega, fun i hi => ?_⟩, by omega, fun _ _ h => h⟩
      · have sm : (2 : Int) ^ j ≤ 9223372036854775808 := by
          have a : (2 : Int) ^ j = ((2 ^ j : Nat) : Int) := by simp
          have b : 2 ^ j ≤ 2 ^ 63 := Nat.pow_le_pow_right (by decide) (by omega)
          rw [a]; omega
        have e : IntKind.wrap .u64 (IntKind.wrap .u64 (2 * (2 ^ j - 1)) + 1) = 2 ^ (j + 1) - 1 := by
          rw [uW, uW, Int.pow_succ]; omega
        rw [e]; rfl
      · by_cases hij : i = j
        · rw [hij]; omega
        · exact ha i (by omega)
    · have q := of_decide_eq_false q
      exact Or.inl ⟨by simp, j, KP0 hv hj (by omega) ha, rfl, rfl⟩
end Go.Proofs.Ytnephcecobocdaa.VZde
end
