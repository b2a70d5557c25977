/- Zcg, Zda, Zdb, Zdc, Zdd, Zde, Zdf, Zdg, Zdh, Zdi, Zdz, in one text. -/
import Derived.Test.YtceclodenhgoeaaGreatZcf
import Derived.Test.YtceclodenhgoeaaGreatZb
import Derived.Test.YtceclodenhgoeaaGreatBa
section
/- Layer 5, against the reference: the parts of what a jump teaches: contracts. -/
namespace Go.Proofs.YtceclodenhgoeaaGreat.Zcg
open Go Go.RowKit Go.Proofs Go.Proofs.YtceclodenhgoeaaGreat.Xc Go.Proofs.YtceclodenhgoeaaGreat.Zs Go.Proofs.YtceclodenhgoeaaGreat.Zk Go.Proofs.YtceclodenhgoeaaGreat.Zo Go.Proofs.YtceclodenhgoeaaGreat.Zq Go.Proofs.YtceclodenhgoeaaGreat.Zu Go.Proofs.YtceclodenhgoeaaGreat.Zv Go.Proofs.YtceclodenhgoeaaGreat.Zbf Go.Proofs.YtceclodenhgoeaaGreat.Zbh Go.Proofs.YtceclodenhgoeaaGreat.Zbi Go.Proofs.YtceclodenhgoeaaGreat.Zbj Go.Proofs.YtceclodenhgoeaaGreat.Zbk Go.Proofs.YtceclodenhgoeaaGreat.Zbm Go.Proofs.YtceclodenhgoeaaGreat.Zcb Go.Proofs.YtceclodenhgoeaaGreat.Zce Go.Proofs.YtceclodenhgoeaaGreat.Zcf Go.Proofs.YtceclodenhgoeaaGreat.Bv
set_option linter.unusedVariables false
set_option linter.unusedSimpArgs false
section
variable {a b c d e f a' b' c' d' e' f' : Int} {K : Value → Prop}
end
end Go.Proofs.YtceclodenhgoeaaGreat.Zcg
end
section
/- Layer 5, against the reference: numbers from one to another: sums, quotients, bits, on both sides, run. -/
namespace Go.Proofs.YtceclodenhgoeaaGreat.Zda
open Go Go.RowKit Go.Proofs Go.Proofs.YtceclodenhgoeaaGreat.Xc Go.Proofs.YtceclodenhgoeaaGreat.Zs Go.Proofs.YtceclodenhgoeaaGreat.Zk Go.Proofs.YtceclodenhgoeaaGreat.Zo Go.Proofs.YtceclodenhgoeaaGreat.Zq Go.Proofs.YtceclodenhgoeaaGreat.Zu
set_option maxRecDepth 100000
set_option linter.unusedVariables false
def nAddC (a b c d : Int) (K : Value → Prop) : Prop := run Tryz.prog [] EEk true 90 101 [T2 a b, T2 c d] K
theorem nAddC_eq (a b c d : Int) (K : Value → Prop) : nAddC a b c d K = (br (decide (IntKind.wrap .u64 (b + d) < b)) (K (.agg (#[.int .u64 0, .int .u64 18446744073709551615]))) (K (.agg (#[.int .u64 (IntKind.wrap .u64 (a + c)), .int .u64 (IntKind.wrap .u64 (b + d))])))) := by kernel_rfl
def nAddR (a b c d : Int) (K : Value → Prop) : Prop := run Tryz.prog [] EEk true 90 132 [T2 a b, T2 c d] K
theorem nAddR_eq (a b c d : Int) (K : Value → Prop) : nAddR a b c d K = (br (decide (b > IntKind.wrap .u64 (IntKind.wrap .u64 (9223372036854775808 + IntKind.wrap .u64 (9223372036854775808 - 1)) - d))) (K (.agg (#[.int .u64 0, .int .u64 18446744073709551615]))) (K (.agg (#[.int .u64 (IntKind.wrap .u64 (a + c)), .int .u64 (IntKind.wrap .u64 (b + d))])))) := by kernel_rfl
def nSubC (a b c d : Int) (K : Value → Prop) : Prop := run Tryz.prog [] EEk true 90 104 [T2 a b, T2 c d] K
theorem nSubC_eq (a b c d : Int) (K : Value → Prop) : nSubC a b c d K = (br (decide (a < d)) (K (.agg (#[.int .u64 0, .int .u64 18446744073709551615]))) (K (.agg (#[.int .u64 (IntKind.wrap .u64 (a - d)), .int .u64 (IntKind.wrap .u64 (b - c))])))) := by kernel_rfl
def nSubR (a b c d : Int) (K : Value → Prop) : Prop := run Tryz.prog [] EEk true 90 135 [T2 a b, T2 c d] K
theorem nSubR_eq (a b c d : Int) (K : Value → Prop) : nSubR a b c d K = (br (decide (a < d)) (K (.agg (#[.int .u64 0, .int .u64 18446744073709551615]))) (K (.agg (#[.int .u64 (IntKind.wrap .u64 (a - d)), .int .u64 (IntKind.wrap .u64 (b - c))])))) := by kernel_rfl
def mulH (x y : Int) : Int := x * y / 18446744073709551616
noncomputable abbrev TMu : Tab := [(177, fun vs K => match vs with
  | [.int .u64 x, .int .u64 y] => need (u6 x ∧ u6 y) (nm (mulH x y) fun h => nm (IntKind.wrap .u64 (x * y)) fun l => K (.tuple #[.int .u64 h, .int .u64 l]))
  | _ => False)]
def nMulC (a b c d : Int) (K : Value → Prop) : Prop := run Tryz.prog TMu EEk true 90 107 [T2 a b, T2 c d] K
theorem nMulC_eq (a b c d : Int) (K : Value → Prop) : nMulC a b c d K = (need (Zu.u6 b ∧ Zu.u6 d) (nm (Zda.mulH b d) fun r => nm (IntKind.wrap .u64 (b * d)) fun r_1 => br (r != 0) (K (.agg (#[.int .u64 0, .int .u64 18446744073709551615]))) (K (.agg (#[.int .u64 (IntKind.wrap .u64 (a * c)), .int .u64 r_1]))))) := by kernel_rfl
def nMulR (a b c d : Int) (K : Value → Prop) : Prop := run Tryz.prog [] EEk true 90 138 [T2 a b, T2 c d] K
theorem nMulR_eq (a b c d : Int) (K : Value → Prop) : nMulR a b c d K = (ob (d != 0) (d != 0) (ob (d != 0) (d != 0) (ob (d != 0) (d != 0) (ob (d != 0) (d != 0) (ob (d != 0) (d != 0) (ob (d != 0) (d != 0) (ob (d != 0) (d != 0) (ob (d != 0) (d != 0) (ob (d != 0) (d != 0) (ob (!d != 0) true (nm (bif d != 0 then decide (b > IntKind.wrap .u64 (Int.tdiv (IntKind.wrap .u64 (9223372036854775808 + IntKind.wrap .u64 (9223372036854775808 - 1))) d)) else false) fun r => br r (K (.agg (#[.int .u64 0, .int .u64 18446744073709551615]))) (K (.agg (#[.int .u64 (IntKind.wrap .u64 (a * c)), .int .u64 (IntKind.wrap .u64 (b * d))])))))))))))))) := by kernel_rfl
def nDivC (a b c d : Int) (K : Value → Prop) : Prop := run Tryz.prog [] EEk true 90 108 [T2 a b, T2 c d] K
theorem nDivC_eq (a b c d : Int) (K : Value → Prop) : nDivC a b c d K = (ob (c == d) (c == d) (ob (c == d) (c == d) (ob (c == d) (c == d) (ob (c == d) (c == d) (ob (!c == d) true (nm (bif c == d then c != 0 else false) fun r => br r (ob true (c != 0) (ob true (c != 0) (K (.agg (#[.int .u64 (IntKind.wrap .u64 (Int.tdiv a c)), .int .u64 (IntKind.wrap .u64 (Int.tdiv b c))]))))) (K (.agg (#[.int .u64 0, .int .u64 b]))))))))) := by kernel_rfl
def nDivR (a b c d : Int) (K : Value → Prop) : Prop := run Tryz.prog [] EEk true 90 139 [T2 a b, T2 c d] K
theorem nDivR_eq (a b c d : Int) (K : Value → Prop) : nDivR a b c d K = (ob (!!c == d) (!!c == d) (ob (!!c == d) (!!c == d) (ob (!!c == d) (!!c == d) (ob (!c == d) true (ob (!!c == d) (!!c == d) (nm (bif !c == d then true else c == 0) fun r => br r (K (.agg (#[.int .u64 0, .int .u64 b]))) (ob true (c != 0) (ob true (c != 0) (K (.agg (#[.int .u64 (IntKind.wrap .u64 (Int.tdiv a c)), .int .u64 (IntKind.wrap .u64 (Int.tdiv b c))]))))))))))) := by kernel_rfl
def nModC (a b c d : Int) (K : Value → Prop) : Prop := run Tryz.prog [] EEk true 90 109 [T2 a b, T2 c d] K
theorem nModC_eq (a b c d : Int) (K : Value → Prop) : nModC a b c d K = (ob (!!c == d) (!!c == d) (ob (!!c == d) (!!c == d) (ob (!!c == d) (!!c == d) (ob (!c == d) true (ob (!!c == d) (!!c == d) (nm (bif !c == d then true else c == 0) fun r => br r (K (.agg (#[.int .u64 0, .int .u64 b]))) (br (decide (b < c)) (K (.agg (#[.int .u64 a, .int .u64 b]))) (br (a == b) (ob true (c != 0) (K (.agg (#[.int .u64 (Int.tmod a c), .int .u64 (Int.tmod a c)])))) (K (.agg (#[.int .u64 0, .int .u64 (IntKind.wrap .u64 (c - 1))]))))))))))) := by kernel_rfl
def nModR (a b c d : Int) (K : Value → Prop) : Prop := run Tryz.prog [] EEk true 90 140 [T2 a b, T2 c d] K
theorem nModR_eq (a b c d : Int) (K : Value → Prop) : nModR a b c d K = (ob (!!c == d) (!!c == d) (ob (!!c == d) (!!c == d) (ob (!!c == d) (!!c == d) (ob (!c == d) true (ob (!!c == d) (!!c == d) (nm (bif !c == d then true else c == 0) fun r => br r (K (.agg (#[.int .u64 0, .int .u64 b]))) (br (decide (b < c)) (K (.agg (#[.int .u64 a, .int .u64 b]))) (br (a == b) (ob true (c != 0) (K (.agg (#[.int .u64 (IntKind.wrap .u64 (a - IntKind.wrap .u64 (IntKind.wrap .u64 (Int.tdiv a c) * c))), .int .u64 (IntKind.wrap .u64 (a - IntKind.wrap .u64 (IntKind.wrap .u64 (Int.tdiv a c) * c)))])))) (K (.agg (#[.int .u64 0, .int .u64 (IntKind.wrap .u64 (c - 1))]))))))))))) := by kernel_rfl
def nAndC (a b c d : Int) (K : Value → Prop) : Prop := run Tryz.prog [] EEk true 90 113 [T2 a b, T2 c d] K
theorem nAndC_eq (a b c d : Int) (K : Value → Prop) : nAndC a b c d K = (ob (a == b) (a == b) (ob (a == b) (a == b) (ob (!a == b) true (nm (bif a == b then c == d else false) fun r => br r (K (.agg (#[.int .u64 (Go.bits .and .u64 a c), .int .u64 (Go.bits .and .u64 a c)]))) (K (.agg (#[.int .u64 0, .int .u64 (if d < b then d else b)]))))))) := by kernel_rfl
def nAndR (a b c d : Int) (K : Value → Prop) : Prop := run Tryz.prog [] EEk true 90 144 [T2 a b, T2 c d] K
theorem nAndR_eq (a b c d : Int) (K : Value → Prop) : nAndR a b c d K = (ob (a == b) (a == b) (ob (a == b) (a == b) (ob (!a == b) true (nm (bif a == b then c == d else false) fun r => br r (K (.agg (#[.int .u64 (Go.bits .and .u64 a c), .int .u64 (Go.bits .and .u64 a c)]))) (br (decide (d < b)) (K (.agg (#[.int .u64 0, .int .u64 d]))) (K (.agg (#[.int .u64 0, .int .u64 b])))))))) := by kernel_rfl
def nCutC (a b : Int) (K : Value → Prop) : Prop := run Tryz.prog [] EEk true 90 93 [T2 a b] K
theorem nCutC_eq (a b : Int) (K : Value → Prop) : nCutC a b K = (ob true true (ob true true (br (a / 2 ^ min (Int.toNat 32) (IntKind.bits .u64) == b / 2 ^ min (Int.toNat 32) (IntKind.bits .u64)) (K (.agg (#[.int .u64 (Go.bits .and .u64 a 4294967295), .int .u64 (Go.bits .and .u64 b 4294967295)]))) (K (.agg (#[.int .u64 0, .int .u64 4294967295])))))) := by kernel_rfl
def nCutR (a b : Int) (K : Value → Prop) : Prop := run Tryz.prog [] EEk true 90 124 [T2 a b] K
theorem nCutR_eq (a b : Int) (K : Value → Prop) : nCutR a b K = (ob true true (ob true true (br (IntKind.wrap .u64 (Int.tdiv a 4294967296) == IntKind.wrap .u64 (Int.tdiv b 4294967296)) (ob true true (ob true true (K (.agg (#[.int .u64 (Int.tmod a 4294967296), .int .u64 (Int.tmod b 4294967296)]))))) (K (.agg (#[.int .u64 0, .int .u64 4294967295])))))) := by kernel_rfl
def nSAddC (a b c d : Int) (K : Value → Prop) : Prop := run Tryz.prog [] EEk true 90 102 [S2 a b, S2 c d] K
theorem nSAddC_eq (a b c d : Int) (K : Value → Prop) : nSAddC a b c d K = (ob (!!decide (IntKind.wrap .i64 (a + c) < a) == decide (c < 0)) (!!decide (IntKind.wrap .i64 (a + c) < a) == decide (c < 0)) (ob (!decide (IntKind.wrap .i64 (a + c) < a) == decide (c < 0)) true (ob (!!decide (IntKind.wrap .i64 (a + c) < a) == decide (c < 0)) (!!decide (IntKind.wrap .i64 (a + c) < a) == decide (c < 0)) (nm (bif !decide (IntKind.wrap .i64 (a + c) < a) == decide (c < 0) then true else !decide (IntKind.wrap .i64 (b + d) < b) == decide (d < 0)) fun r => br r (K (.agg (#[.int .i64 (-9223372036854775808), .int .i64 9223372036854775807]))) (K (.agg (#[.int .i64 (IntKind.wrap .i64 (a + c)), .int .i64 (IntKind.wrap .i64 (b + d))]))))))) := by kernel_rfl
def nSAddR (a b c d : Int) (K : Value → Prop) : Prop := run Tryz.prog [] EEk true 90 133 [S2 a b, S2 c d] K
theorem nSAddR_eq (a b c d : Int) (K : Value → Prop) : nSAddR a b c d K = (ob (decide (c > 0)) (decide (c > 0)) (ob (decide (c > 0)) (decide (c > 0)) (ob (decide (c > 0)) (decide (c > 0)) (ob (decide (c > 0)) (decide (c > 0)) (ob (decide (c > 0)) (decide (c > 0)) (ob (decide (c > 0)) (decide (c > 0)) (ob (!decide (c > 0)) true (nm (bif decide (c > 0) then decide (a > IntKind.wrap .i64 (9223372036854775807 - c)) else false) fun r => ob (!r) (!r) (ob (!r) (!r) (ob (!r && decide (c < 0)) (!r && decide (c < 0)) (ob (!r && decide (c < 0)) (!r && decide (c < 0)) (ob (!r && decide (c < 0)) (!r && decide (c < 0)) (ob (!r && decide (c < 0)) (!r && decide (c < 0)) (ob (!r && decide (c < 0)) (!r && decide (c < 0)) (ob (!r) (!r) (ob (!r && decide (c < 0)) (!r && decide (c < 0)) (ob (!r && !decide (c < 0)) true (nm (bif decide (c < 0) then decide (a < IntKind.wrap .i64 (-9223372036854775808 - c)) else false) fun r_1 => ob r true (ob (!r) (!r) (nm (bif r then true else r_1) fun r => ob (!r) (!r) (ob (!r) (!r) (ob (!r) (!r) (ob (!r) (!r) (ob (decide (d > 0)) (decide (d > 0)) (ob (decide (d > 0)) (decide (d > 0)) (ob (decide (d > 0)) (decide (d > 0)) (ob (decide (d > 0)) (decide (d > 0)) (ob (decide (d > 0)) (decide (d > 0)) (ob (decide (d > 0)) (decide (d > 0)) (ob (!decide (d > 0)) true (nm (bif decide (d > 0) then decide (b > IntKind.wrap .i64 (9223372036854775807 - d)) else false) fun r_2 => ob (!r_2) (!r_2) (ob (!r_2) (!r_2) (ob (!r_2 && decide (d < 0)) (!r_2 && decide (d < 0)) (ob (!r_2 && decide (d < 0)) (!r_2 && decide (d < 0)) (ob (!r_2 && decide (d < 0)) (!r_2 && decide (d < 0)) (ob (!r_2 && decide (d < 0)) (!r_2 && decide (d < 0)) (ob (!r_2 && decide (d < 0)) (!r_2 && decide (d < 0)) (ob (!r_2) (!r_2) (ob (!r_2 && decide (d < 0)) (!r_2 && decide (d < 0)) (ob (!r_2 && !decide (d < 0)) true (nm (bif decide (d < 0) then decide (b < IntKind.wrap .i64 (-9223372036854775808 - d)) else false) fun r_3 => ob r_2 true (ob (!r_2) (!r_2) (nm (bif r_2 then true else r_3) fun r_4 => ob r true (ob (!r) (!r) (nm (bif r then true else r_4) fun r => br r (K (.agg (#[.int .i64 (-9223372036854775808), .int .i64 9223372036854775807]))) (K (.agg (#[.int .i64 (IntKind.wrap .i64 (a + c)), .int .i64 (IntKind.wrap .i64 (b + d))])))))))))))))))))))))))))))))))))))))))))))))))) := by kernel_rfl
def nSSubC (a b c d : Int) (K : Value → Prop) : Prop := run Tryz.prog [] EEk true 90 105 [S2 a b, S2 c d] K
theorem nSSubC_eq (a b c d : Int) (K : Value → Prop) : nSSubC a b c d K = (ob (!!decide (IntKind.wrap .i64 (a - d) > a) == decide (d < 0)) (!!decide (IntKind.wrap .i64 (a - d) > a) == decide (d < 0)) (ob (!decide (IntKind.wrap .i64 (a - d) > a) == decide (d < 0)) true (ob (!!decide (IntKind.wrap .i64 (a - d) > a) == decide (d < 0)) (!!decide (IntKind.wrap .i64 (a - d) > a) == decide (d < 0)) (nm (bif !decide (IntKind.wrap .i64 (a - d) > a) == decide (d < 0) then true else !decide (IntKind.wrap .i64 (b - c) > b) == decide (c < 0)) fun r => br r (K (.agg (#[.int .i64 (-9223372036854775808), .int .i64 9223372036854775807]))) (K (.agg (#[.int .i64 (IntKind.wrap .i64 (a - d)), .int .i64 (IntKind.wrap .i64 (b - c))]))))))) := by kernel_rfl
def nSSubR (a b c d : Int) (K : Value → Prop) : Prop := run Tryz.prog [] EEk true 90 136 [S2 a b, S2 c d] K
theorem nSSubR_eq (a b c d : Int) (K : Value → Prop) : nSSubR a b c d K = (ob (decide (d < 0)) (decide (d < 0)) (ob (decide (d < 0)) (decide (d < 0)) (ob (decide (d < 0)) (decide (d < 0)) (ob (decide (d < 0)) (decide (d < 0)) (ob (decide (d < 0)) (decide (d < 0)) (ob (decide (d < 0)) (decide (d < 0)) (ob (!decide (d < 0)) true (nm (bif decide (d < 0) then decide (a > IntKind.wrap .i64 (9223372036854775807 + d)) else false) fun r => ob (!r) (!r) (ob (!r) (!r) (ob (!r && decide (d > 0)) (!r && decide (d > 0)) (ob (!r && decide (d > 0)) (!r && decide (d > 0)) (ob (!r && decide (d > 0)) (!r && decide (d > 0)) (ob (!r && decide (d > 0)) (!r && decide (d > 0)) (ob (!r && decide (d > 0)) (!r && decide (d > 0)) (ob (!r) (!r) (ob (!r && decide (d > 0)) (!r && decide (d > 0)) (ob (!r && !decide (d > 0)) true (nm (bif decide (d > 0) then decide (a < IntKind.wrap .i64 (-9223372036854775808 + d)) else false) fun r_1 => ob r true (ob (!r) (!r) (nm (bif r then true else r_1) fun r => ob (!r) (!r) (ob (!r) (!r) (ob (!r) (!r) (ob (!r) (!r) (ob (decide (c < 0)) (decide (c < 0)) (ob (decide (c < 0)) (decide (c < 0)) (ob (decide (c < 0)) (decide (c < 0)) (ob (decide (c < 0)) (decide (c < 0)) (ob (decide (c < 0)) (decide (c < 0)) (ob (decide (c < 0)) (decide (c < 0)) (ob (!decide (c < 0)) true (nm (bif decide (c < 0) then decide (b > IntKind.wrap .i64 (9223372036854775807 + c)) else false) fun r_2 => ob (!r_2) (!r_2) (ob (!r_2) (!r_2) (ob (!r_2 && decide (c > 0)) (!r_2 && decide (c > 0)) (ob (!r_2 && decide (c > 0)) (!r_2 && decide (c > 0)) (ob (!r_2 && decide (c > 0)) (!r_2 && decide (c > 0)) (ob (!r_2 && decide (c > 0)) (!r_2 && decide (c > 0)) (ob (!r_2 && decide (c > 0)) (!r_2 && decide (c > 0)) (ob (!r_2) (!r_2) (ob (!r_2 && decide (c > 0)) (!r_2 && decide (c > 0)) (ob (!r_2 && !decide (c > 0)) true (nm (bif decide (c > 0) then decide (b < IntKind.wrap .i64 (-9223372036854775808 + c)) else false) fun r_3 => ob r_2 true (ob (!r_2) (!r_2) (nm (bif r_2 then true else r_3) fun r_4 => ob r true (ob (!r) (!r) (nm (bif r then true else r_4) fun r => br r (K (.agg (#[.int .i64 (-9223372036854775808), .int .i64 9223372036854775807]))) (K (.agg (#[.int .i64 (IntKind.wrap .i64 (a - d)), .int .i64 (IntKind.wrap .i64 (b - c))])))))))))))))))))))))))))))))))))))))))))))))))) := by kernel_rfl
def nRnd (n : Int) (K : Value → Prop) : Prop := run Tryz.prog [] EEk true 90 180 [.int .i64 n] K
theorem nRnd_eq (n : Int) (K : Value → Prop) : nRnd n K = (ob true true (br (decide (Int.tmod n 64 < 0)) (K (.int .i64 (IntKind.wrap .i64 (Int.tmod n 64 + 64)))) (K (.int .i64 (Int.tmod n 64))))) := by kernel_rfl
end Go.Proofs.YtceclodenhgoeaaGreat.Zda
end
section
/- Layer 5, against the reference: numbers from one to another: the same on both sides (what needs no loop). -/
namespace Go.Proofs.YtceclodenhgoeaaGreat.Zdb
open Go Go.RowKit Go.Proofs Go.Proofs.YtceclodenhgoeaaGreat.Xc Go.Proofs.YtceclodenhgoeaaGreat.Zs Go.Proofs.YtceclodenhgoeaaGreat.Zk Go.Proofs.YtceclodenhgoeaaGreat.Zo Go.Proofs.YtceclodenhgoeaaGreat.Zq Go.Proofs.YtceclodenhgoeaaGreat.Zu Go.Proofs.YtceclodenhgoeaaGreat.Zv Go.Proofs.YtceclodenhgoeaaGreat.Zcf Go.Proofs.YtceclodenhgoeaaGreat.Zda Go.Proofs.YtceclodenhgoeaaGreat.Bv
set_option linter.unusedVariables false
set_option linter.unusedSimpArgs false
theorem isw (v : Int) : IntKind.wrap .i64 v = (v + 9223372036854775808) % 18446744073709551616 - 9223372036854775808 := Zcb.isw v
theorem kT2 {K : Value → Prop} {x y x' y' : Int} (h : K (T2 x y)) (e1 : x' = x) (e2 : y' = y) : K (T2 x' y') := by subst e1; subst e2; exact h
theorem kS2 {K : Value → Prop} {x y x' y' : Int} (h : K (S2 x y)) (e1 : x' = x) (e2 : y' = y) : K (S2 x' y') := by subst e1; subst e2; exact h
def uaL (a b c d : Int) : Int := if b + d < 18446744073709551616 then a + c else 0
def uaH (a b c d : Int) : Int := if b + d < 18446744073709551616 then b + d else 18446744073709551615
def usL (a b c d : Int) : Int := if a < d then 0 else a - d
def usH (a b c d : Int) : Int := if a < d then 18446744073709551615 else b - c
def umL (a b c d : Int) : Int := if b * d < 18446744073709551616 then a * c else 0
def umH (a b c d : Int) : Int := if b * d < 18446744073709551616 then b * d else 18446744073709551615
def udL (a b c d : Int) : Int := if c = d ∧ c ≠ 0 then a / c else 0
def udH (a b c d : Int) : Int := if c = d ∧ c ≠ 0 then b / c else b
def uoL (a b c d : Int) : Int := if c = d ∧ c ≠ 0 then (if b < c then a else if a = b then a % c else 0) else 0
def uoH (a b c d : Int) : Int := if c = d ∧ c ≠ 0 then (if b < c then b else if a = b then a % c else c - 1) else b
def unL (a b c d : Int) : Int := if a = b ∧ c = d then Go.bits .and .u64 a c else 0
def unH (a b c d : Int) : Int := if a = b ∧ c = d then Go.bits .and .u64 a c else min b d
def ucL (a b : Int) : Int := if a / 4294967296 = b / 4294967296 then a % 4294967296 else 0
def ucH (a b : Int) : Int := if a / 4294967296 = b / 4294967296 then b % 4294967296 else 4294967295
def sR (x : Int) : Prop := -9223372036854775808 ≤ x ∧ x < 9223372036854775808
instance (x : Int) : Decidable (sR x) := by unfold sR; exact inferInstance
def saL (a b c d : Int) : Int := if sR (a + c) ∧ sR (b + d) then a + c else -9223372036854775808
def saH (a b c d : Int) : Int := if sR (a + c) ∧ sR (b + d) then b + d else 9223372036854775807
def ssL (a b c d : Int) : Int := if sR (a - d) ∧ sR (b - c) then a - d else -9223372036854775808
def ssH (a b c d : Int) : Int := if sR (a - d) ∧ sR (b - c) then b - c else 9223372036854775807
section
variable {a b c d : Int} {K : Value → Prop}
structure U4 (a b c d : Int) : Prop where
  ha : u6 a
  hb : u6 b
  hc : u6 c
  hd : u6 d
  ab : a ≤ b
  cd : c ≤ d
structure S4 (a b c d : Int) : Prop where
  ha : i6 a
  hb : i6 b
  hc : i6 c
  hd : i6 d
  ab : a ≤ b
  cd : c ≤ d
theorem rAddC (N : U4 a b c d) (h : K (T2 (uaL a b c d) (uaH a b c d))) : nAddC a b c d K := by
  rw [nAddC_eq]
  obtain ⟨h1, h2, h3, h4, h5, h6⟩ := N
  unfold u6 at *; unfold uaL uaH at h
  refine br_cases (fun q => ?_) (fun q => ?_)
  · have q := of_decide_eq_true q; rw [uW] at q
    rw [if_neg (by omega), if_neg (by omega)] at h; exact h
  · have q := of_decide_eq_false q; rw [uW] at q
    rw [if_pos (by omega), if_pos (by omega)] at h
    exact kT2 h (by rw [uW]; omega) (by rw [uW]; omega)
theorem allE : IntKind.wrap .u64 (9223372036854775808 + IntKind.wrap .u64 (9223372036854775808 - 1)) = 18446744073709551615 := by rw [uW, uW]; omega
theorem rAddR (N : U4 a b c d) (h : K (T2 (uaL a b c d) (uaH a b c d))) : nAddR a b c d K := by
  rw [nAddR_eq, allE]
  obtain ⟨h1, h2, h3, h4, h5, h6⟩ := N
  unfold u6 at *; unfold uaL uaH at h
  refine br_cases (fun q => ?_) (fun q => ?_)
  · have q := of_decide_eq_true q; rw [uW] at q
    rw [if_neg (by omega), if_neg (by omega)] at h; exact h
  · have q := of_decide_eq_false q; rw [uW] at q
    rw [if_pos (by omega), if_pos (by omega)] at h
    exact kT2 h (by rw [uW]; omega) (by rw [uW]; omega)
theorem us_as (N : U4 a b c d) (h : K (T2 (usL a b c d) (usH a b c d))) : br (decide (a < d)) (K (.agg (#[.int .u64 0, .int .u64 18446744073709551615]))) (K (.agg (#[.int .u64 (IntKind.wrap .u64 (a - d)), .int .u64 (IntKind.wrap .u64 (b - c))]))) := by
  obtain ⟨h1, h2, h3, h4, h5, h6⟩ := N
  unfold u6 at *; unfold usL usH at h
  refine br_cases (fun q => ?_) (fun q => ?_)
  · have q := of_decide_eq_true q
    rw [if_pos q, if_pos q] at h; exact h
  · have q := of_decide_eq_false q
    rw [if_neg q, if_neg q] at h
    exact kT2 h (by rw [uW]; omega) (by rw [uW]; omega)
theorem rSubC (N : U4 a b c d) (h : K (T2 (usL a b c d) (usH a b c d))) : nSubC a b c d K := by rw [nSubC_eq]; exact us_as N h
theorem rSubR (N : U4 a b c d) (h : K (T2 (usL a b c d) (usH a b c d))) : nSubR a b c d K := by rw [nSubR_eq]; exact us_as N h
theorem mul_le {a b c d : Int} (h1 : 0 ≤ a) (h3 : 0 ≤ c) (h5 : a ≤ b) (h6 : c ≤ d) : 0 ≤ a * c ∧ a * c ≤ b * d :=
  ⟨Int.mul_nonneg h1 h3, Int.mul_le_mul h5 h6 h3 (by omega)⟩
theorem rMulC (N : U4 a b c d) (h : K (T2 (umL a b c d) (umH a b c d))) : nMulC a b c d K := by
  rw [nMulC_eq]
  refine ⟨⟨N.hb, N.hd⟩, fun r hr l hl => ?_⟩
  obtain ⟨h1, h2, h3, h4, h5, h6⟩ := N
  unfold u6 at *; unfold umL umH at h; unfold mulH at hr
  have m := mul_le h1.1 h3.1 h5 h6
  have m2 : 0 ≤ b * d := by omega
  generalize b * d = z at *
  refine br_cases (fun q => ?_) (fun q => ?_)
  · have q : ¬ r = 0 := by simpa using q
    rw [if_neg (by omega), if_neg (by omega)] at h; exact h
  · have q : r = 0 := by simpa using q
    rw [if_pos (by omega), if_pos (by omega)] at h
    exact kT2 h (by rw [uW]; omega) (by rw [hl, uW]; omega)
theorem rMulR (N : U4 a b c d) (h : K (T2 (umL a b c d) (umH a b c d))) : nMulR a b c d K := by
  rw [nMulR_eq, allE]
  repeat (first | with_reducible refine ob_self ?_ | with_reducible refine ob_true ?_)
  refine fun r hr => ?_
  obtain ⟨h1, h2, h3, h4, h5, h6⟩ := N
  unfold u6 at *; unfold umL umH at h
  have m := mul_le h1.1 h3.1 h5 h6
  have m2 : 0 ≤ b * d := by omega
  have key : (r = true ↔ ¬ b * d < 18446744073709551616) := by
    rw [hr]
    by_cases hd : d = 0
    · subst hd; simp
    · have e : (d != 0) = true := by simpa using hd
      rw [e, cond_true, decide_eq_true_eq, Int.tdiv_eq_ediv_of_nonneg (by omega), uW]
      have hdp : 0 < d := by omega
      have f1 : (18446744073709551615 / d) % 18446744073709551616 = 18446744073709551615 / d := by
        have := Int.ediv_nonneg (a := 18446744073709551615) (by omega) h4.1
        have := Int.ediv_le_self (a := 18446744073709551615) d (by omega)
        omega
      rw [f1]
      have f2 := Int.le_ediv_iff_mul_le (a := b) (b := 18446744073709551615) hdp
      omega
  refine br_cases (fun q => ?_) (fun q => ?_)
  · have q := key.1 q
    rw [if_neg q, if_neg q] at h; exact h
  · have q : b * d < 18446744073709551616 := Classical.byContradiction fun k => by rw [key.2 k] at q; cases q
    rw [if_pos q, if_pos q] at h
    generalize b * d = z at *
    exact kT2 h (by rw [uW]; omega) (by rw [uW]; omega)
theorem dvU {x y : Int} (hx : u6 x) (hy : u6 y) : IntKind.wrap .u64 (Int.tdiv x y) = x / y := by
  unfold u6 at *
  rw [Int.tdiv_eq_ediv_of_nonneg hx.1, uW]
  have := Int.ediv_nonneg hx.1 hy.1
  have := Int.ediv_le_self y hx.1
  omega
theorem rDivC (N : U4 a b c d) (h : K (T2 (udL a b c d) (udH a b c d))) : nDivC a b c d K := by
  rw [nDivC_eq]
  unfold udL udH at h
  repeat (first | with_reducible refine ob_self ?_ | with_reducible refine ob_true ?_ | ((with_reducible refine nm_intro ?_); intro r hr; subst hr))
  refine br_cases (fun q => ?_) (fun q => ?_)
  · have q : c = d ∧ c ≠ 0 := by simpa using q
    rw [if_pos q, if_pos q] at h
    exact ob_mk (fun _ => by simpa using q.2) (ob_mk (fun _ => by simpa using q.2) (kT2 h (dvU N.ha N.hc) (dvU N.hb N.hc)))
  · have q : ¬ (c = d ∧ c ≠ 0) := by rintro ⟨k1, k2⟩; rw [k1] at q; simp at q; omega
    rw [if_neg q, if_neg q] at h; exact h
theorem rDivR (N : U4 a b c d) (h : K (T2 (udL a b c d) (udH a b c d))) : nDivR a b c d K := by
  rw [nDivR_eq]
  unfold udL udH at h
  repeat (first | with_reducible refine ob_self ?_ | with_reducible refine ob_true ?_ | ((with_reducible refine nm_intro ?_); intro r hr; subst hr))
  refine br_cases (fun q => ?_) (fun q => ?_)
  · have q : ¬ (c = d ∧ c ≠ 0) := by rintro ⟨k1, k2⟩; rw [k1] at q; simp at q; omega
    rw [if_neg q, if_neg q] at h; exact h
  · have q : c = d ∧ c ≠ 0 := by simpa using q
    rw [if_pos q, if_pos q] at h
    exact ob_mk (fun _ => by simpa using q.2) (ob_mk (fun _ => by simpa using q.2) (kT2 h (dvU N.ha N.hc) (dvU N.hb N.hc)))
theorem rModC (N : U4 a b c d) (h : K (T2 (uoL a b c d) (uoH a b c d))) : nModC a b c d K := by
  rw [nModC_eq]
  unfold uoL uoH at h
  repeat (first | with_reducible refine ob_self ?_ | with_reducible refine ob_true ?_ | ((with_reducible refine nm_intro ?_); intro r hr; subst hr))
  refine br_cases (fun q => ?_) (fun q => ?_)
  · have q : ¬ (c = d ∧ c ≠ 0) := by rintro ⟨k1, k2⟩; rw [k1] at q; simp at q; omega
    rw [if_neg q, if_neg q] at h; exact h
  · have q : c = d ∧ c ≠ 0 := by simpa using q
    rw [if_pos q, if_pos q] at h
    refine br_cases (fun q1 => ?_) (fun q1 => br_cases (fun q2 => ?_) (fun q2 => ?_))
    · rw [if_pos (of_decide_eq_true q1), if_pos (of_decide_eq_true q1)] at h; exact h
    · rw [if_neg (of_decide_eq_false q1), if_neg (of_decide_eq_false q1), if_pos (eq_of_beq q2), if_pos (eq_of_beq q2)] at h
      have e : Int.tmod a c = a % c := Int.tmod_eq_emod_of_nonneg N.ha.1
      exact ob_mk (fun _ => by simpa using q.2) (kT2 h e e)
    · rw [if_neg (of_decide_eq_false q1), if_neg (of_decide_eq_false q1), if_neg (beq_eq_false_iff_ne.1 q2), if_neg (beq_eq_false_iff_ne.1 q2)] at h
      have := N.hc; unfold u6 at this
      exact kT2 h rfl (by rw [uW]; omega)
theorem rModR (N : U4 a b c d) (h : K (T2 (uoL a b c d) (uoH a b c d))) : nModR a b c d K := by
  rw [nModR_eq]
  unfold uoL uoH at h
  repeat (first | with_reducible refine ob_self ?_ | with_reducible refine ob_true ?_ | ((with_reducible refine nm_intro ?_); intro r hr; subst hr))
  refine br_cases (fun q => ?_) (fun q => ?_)
  · have q : ¬ (c = d ∧ c ≠ 0) := by rintro ⟨k1, k2⟩; rw [k1] at q; simp at q; omega
    rw [if_neg q, if_neg q] at h; exact h
  · have q : c = d ∧ c ≠ 0 := by simpa using q
    rw [if_pos q, if_pos q] at h
    refine br_cases (fun q1 => ?_) (fun q1 => br_cases (fun q2 => ?_) (fun q2 => ?_))
    · rw [if_pos (of_decide_eq_true q1), if_pos (of_decide_eq_true q1)] at h; exact h
    · rw [if_neg (of_decide_eq_false q1), if_neg (of_decide_eq_false q1), if_pos (eq_of_beq q2), if_pos (eq_of_beq q2)] at h
      have e : IntKind.wrap .u64 (a - IntKind.wrap .u64 (IntKind.wrap .u64 (Int.tdiv a c) * c)) = a % c := by
        rw [dvU N.ha N.hc, uW, uW]
        have hc := N.hc; have ha := N.ha; unfold u6 at hc ha
        have e1 := Int.mul_ediv_add_emod a c
        have e2 := Int.emod_nonneg a (b := c) q.2
        have e3 := Int.mul_nonneg hc.1 (Int.ediv_nonneg ha.1 hc.1)
        rw [Int.mul_comm (a / c) c]
        generalize c * (a / c) = z at *
        omega
      exact ob_mk (fun _ => by simpa using q.2) (kT2 h e e)
    · rw [if_neg (of_decide_eq_false q1), if_neg (of_decide_eq_false q1), if_neg (beq_eq_false_iff_ne.1 q2), if_neg (beq_eq_false_iff_ne.1 q2)] at h
      have := N.hc; unfold u6 at this
      exact kT2 h rfl (by rw [uW]; omega)
theorem rAndC (h : K (T2 (unL a b c d) (unH a b c d))) : nAndC a b c d K := by
  rw [nAndC_eq]
  unfold unL unH at h
  repeat (first | with_reducible refine ob_self ?_ | with_reducible refine ob_true ?_ | ((with_reducible refine nm_intro ?_); intro r hr; subst hr))
  refine br_cases (fun q => ?_) (fun q => ?_)
  · have q : a = b ∧ c = d := by simpa using q
    rw [if_pos q, if_pos q] at h; exact h
  · have q : ¬ (a = b ∧ c = d) := by rintro ⟨k1, k2⟩; rw [k1, k2] at q; simp at q
    rw [if_neg q, if_neg q] at h
    exact kT2 h rfl (by split <;> omega)
theorem rAndR (h : K (T2 (unL a b c d) (unH a b c d))) : nAndR a b c d K := by
  rw [nAndR_eq]
  unfold unL unH at h
  repeat (first | with_reducible refine ob_self ?_ | with_reducible refine ob_true ?_ | ((with_reducible refine nm_intro ?_); intro r hr; subst hr))
  refine br_cases (fun q => ?_) (fun q => ?_)
  · have q : a = b ∧ c = d := by simpa using q
    rw [if_pos q, if_pos q] at h; exact h
  · have q : ¬ (a = b ∧ c = d) := by rintro ⟨k1, k2⟩; rw [k1, k2] at q; simp at q
    rw [if_neg q, if_neg q] at h
    refine br_cases (fun q1 => ?_) (fun q1 => ?_)
    · have q1 := of_decide_eq_true q1; exact kT2 h rfl (by omega)
    · have q1 := of_decide_eq_false q1; exact kT2 h rfl (by omega)
theorem and32 {x : Int} (h : u6 x) : Go.bits .and .u64 x 4294967295 = x % 4294967296 := by
  obtain ⟨X, rfl⟩ := exu h
  rw [b_and, ofInt_U]
  unfold U
  rw [BitVec.toNat_and, show (BitVec.ofInt 64 4294967295).toNat = 2 ^ 32 - 1 by decide, Nat.and_two_pow_sub_one_eq_mod]; omega
theorem rCutC (ha : u6 a) (hb : u6 b) (h : K (T2 (ucL a b) (ucH a b))) : nCutC a b K := by
  rw [nCutC_eq]
  have e : ∀ z : Int, z / 2 ^ min (Int.toNat 32) (IntKind.bits .u64) = z / 4294967296 := fun _ => rfl
  rw [e, e]
  unfold ucL ucH at h
  refine ob_self (ob_self (br_cases (fun q => ?_) (fun q => ?_)))
  · have q := eq_of_beq q
    rw [if_pos q, if_pos q] at h; exact kT2 h (and32 ha) (and32 hb)
  · have q := beq_eq_false_iff_ne.1 q
    rw [if_neg q, if_neg q] at h; exact h
theorem rCutR (ha : u6 a) (hb : u6 b) (h : K (T2 (ucL a b) (ucH a b))) : nCutR a b K := by
  rw [nCutR_eq]
  have k : u6 4294967296 := by unfold u6; omega
  rw [dvU ha k, dvU hb k]
  unfold ucL ucH at h
  refine ob_self (ob_self (br_cases (fun q => ?_) (fun q => ?_)))
  · have q := eq_of_beq q
    rw [if_pos q, if_pos q] at h
    exact ob_self (ob_self (kT2 h (Int.tmod_eq_emod_of_nonneg ha.1) (Int.tmod_eq_emod_of_nonneg hb.1)))
  · have q := beq_eq_false_iff_ne.1 q
    rw [if_neg q, if_neg q] at h; exact h
end
end Go.Proofs.YtceclodenhgoeaaGreat.Zdb
end
section
/- Layer 5, against the reference: sums and differences with a sign; products of 128 bits: the same on both sides. -/
namespace Go.Proofs.YtceclodenhgoeaaGreat.Zdc
open Go Go.RowKit Go.Proofs Go.Proofs.YtceclodenhgoeaaGreat.Xc Go.Proofs.YtceclodenhgoeaaGreat.Zs Go.Proofs.YtceclodenhgoeaaGreat.Zk Go.Proofs.YtceclodenhgoeaaGreat.Zo Go.Proofs.YtceclodenhgoeaaGreat.Zq Go.Proofs.YtceclodenhgoeaaGreat.Zu Go.Proofs.YtceclodenhgoeaaGreat.Zv Go.Proofs.YtceclodenhgoeaaGreat.Zcf Go.Proofs.YtceclodenhgoeaaGreat.Zda Go.Proofs.YtceclodenhgoeaaGreat.Zdb Go.Proofs.YtceclodenhgoeaaGreat.Bv
set_option linter.unusedVariables false
set_option linter.unusedSimpArgs false
section
variable {a b c d : Int} {K : Value → Prop}
theorem rSAddC (N : S4 a b c d) (h : K (S2 (saL a b c d) (saH a b c d))) : nSAddC a b c d K := by
  rw [nSAddC_eq]
  obtain ⟨h1, h2, h3, h4, h5, h6⟩ := N
  unfold i6 at *; unfold saL saH at h
  repeat (first | with_reducible refine ob_self ?_ | with_reducible refine ob_true ?_ | ((with_reducible refine nm_intro ?_); intro r hr; subst hr))
  refine br_cases (fun q => ?_) (fun q => ?_)
  · simp only [Bool.cond_true_left, Bool.or_eq_true, Bool.not_eq_true', beq_eq_false_iff_ne, ne_eq, decide_eq_decide] at q
    have k : ¬ (sR (a + c) ∧ sR (b + d)) := by unfold sR; rw [isw, isw] at q; omega
    rw [if_neg k, if_neg k] at h; exact h
  · simp only [Bool.cond_true_left, Bool.or_eq_false_iff, Bool.not_eq_false', beq_iff_eq, decide_eq_decide] at q
    have k : sR (a + c) ∧ sR (b + d) := by unfold sR; rw [isw, isw] at q; omega
    rw [if_pos k, if_pos k] at h
    unfold sR at k
    exact kS2 h (by rw [isw]; omega) (by rw [isw]; omega)
theorem rSAddR (N : S4 a b c d) (h : K (S2 (saL a b c d) (saH a b c d))) : nSAddR a b c d K := by
  rw [nSAddR_eq]
  obtain ⟨h1, h2, h3, h4, h5, h6⟩ := N
  unfold i6 at *; unfold saL saH at h
  repeat (first | with_reducible refine ob_self ?_ | with_reducible refine ob_true ?_ | ((with_reducible refine nm_intro ?_); intro r hr; subst hr))
  refine br_cases (fun q => ?_) (fun q => ?_)
  · simp only [Bool.cond_true_left, Bool.cond_false_right, Bool.or_eq_true, Bool.and_eq_true, decide_eq_true_eq, isw] at q
    have k : ¬ (sR (a + c) ∧ sR (b + d)) := by unfold sR; omega
    rw [if_neg k, if_neg k] at h; exact h
  · simp only [Bool.cond_true_left, Bool.cond_false_right, Bool.or_eq_false_iff, Bool.and_eq_false_imp, decide_eq_true_eq, decide_eq_false_iff_not, isw] at q
    have k : sR (a + c) ∧ sR (b + d) := by unfold sR; omega
    rw [if_pos k, if_pos k] at h
    unfold sR at k
    exact kS2 h (by rw [isw]; omega) (by rw [isw]; omega)
theorem rSSubC (N : S4 a b c d) (h : K (S2 (ssL a b c d) (ssH a b c d))) : nSSubC a b c d K := by
  rw [nSSubC_eq]
  obtain ⟨h1, h2, h3, h4, h5, h6⟩ := N
  unfold i6 at *; unfold ssL ssH at h
  repeat (first | with_reducible refine ob_self ?_ | with_reducible refine ob_true ?_ | ((with_reducible refine nm_intro ?_); intro r hr; subst hr))
  refine br_cases (fun q => ?_) (fun q => ?_)
  · simp only [Bool.cond_true_left, Bool.or_eq_true, Bool.not_eq_true', beq_eq_false_iff_ne, ne_eq, decide_eq_decide] at q
    have k : ¬ (sR (a - d) ∧ sR (b - c)) := by unfold sR; rw [isw, isw] at q; omega
    rw [if_neg k, if_neg k] at h; exact h
  · simp only [Bool.cond_true_left, Bool.or_eq_false_iff, Bool.not_eq_false', beq_iff_eq, decide_eq_decide] at q
    have k : sR (a - d) ∧ sR (b - c) := by unfold sR; rw [isw, isw] at q; omega
    rw [if_pos k, if_pos k] at h
    unfold sR at k
    exact kS2 h (by rw [isw]; omega) (by rw [isw]; omega)
theorem rSSubR (N : S4 a b c d) (h : K (S2 (ssL a b c d) (ssH a b c d))) : nSSubR a b c d K := by
  rw [nSSubR_eq]
  obtain ⟨h1, h2, h3, h4, h5, h6⟩ := N
  unfold i6 at *; unfold ssL ssH at h
  repeat (first | with_reducible refine ob_self ?_ | with_reducible refine ob_true ?_ | ((with_reducible refine nm_intro ?_); intro r hr; subst hr))
  refine br_cases (fun q => ?_) (fun q => ?_)
  · simp only [Bool.cond_true_left, Bool.cond_false_right, Bool.or_eq_true, Bool.and_eq_true, decide_eq_true_eq, isw] at q
    have k : ¬ (sR (a - d) ∧ sR (b - c)) := by unfold sR; omega
    rw [if_neg k, if_neg k] at h; exact h
  · simp only [Bool.cond_true_left, Bool.cond_false_right, Bool.or_eq_false_iff, Bool.and_eq_false_imp, decide_eq_true_eq, decide_eq_false_iff_not, isw] at q
    have k : sR (a - d) ∧ sR (b - c) := by unfold sR; omega
    rw [if_pos k, if_pos k] at h
    unfold sR at k
    exact kS2 h (by rw [isw]; omega) (by rw [isw]; omega)
end
/-- How far a shift goes. -/
def sh (n : Int) : Nat := (n % 64).toNat
theorem sh_lt (n : Int) : sh n < 64 := by unfold sh; omega
theorem and63 {n : Int} (h : i6 n) : Go.bits .and .i64 n 63 = (sh n : Int) := by
  rw [s_and]
  have e : BitVec.ofInt 64 n &&& BitVec.ofInt 64 63 = BitVec.ofNat 64 (sh n) := by
    apply BitVec.eq_of_toNat_eq
    rw [BitVec.toNat_and, show (BitVec.ofInt 64 63).toNat = 2 ^ 6 - 1 by decide, Nat.and_two_pow_sub_one_eq_mod, BitVec.toNat_ofNat, BitVec.toNat_ofInt]
    unfold sh; simp; omega
  rw [e]
  have := sh_lt n
  unfold S
  have t : (BitVec.ofNat 64 (sh n)).toNat = sh n := by rw [BitVec.toNat_ofNat]; omega
  rw [BitVec.toInt_eq_toNat_of_lt (by rw [t]; omega), t]
theorem rnd_eq {n : Int} {K : Value → Prop} (h : i6 n) (k : K (.int .i64 (sh n))) : nRnd n K := by
  rw [nRnd_eq]
  have t := Int.tmod_def n 64
  unfold i6 at h; unfold sh at k
  have e : Int.tmod n 64 = if n % 64 = 0 ∨ 0 ≤ n then n % 64 else n % 64 - 64 := by
    rw [Int.tmod_eq_emod]
    by_cases h0 : 0 ≤ n ∨ (64 : Int) ∣ n
    · rw [if_pos h0, if_pos (by omega)]; omega
    · rw [if_neg h0, if_neg (by omega)]; omega
  refine ob_self (br_cases (fun q => ?_) (fun q => ?_))
  · have q := of_decide_eq_true q
    rw [e] at q ⊢
    split at q
    · omega
    · rename_i hn
      rw [if_neg hn]
      rw [show IntKind.wrap .i64 (n % 64 - 64 + 64) = (((n % 64).toNat : Nat) : Int) by rw [isw]; omega]; exact k
  · have q := of_decide_eq_false q
    rw [e] at q ⊢
    split at q
    · rename_i hn
      rw [if_pos hn, show n % 64 = (((n % 64).toNat : Nat) : Int) by omega]; exact k
    · omega
end Go.Proofs.YtceclodenhgoeaaGreat.Zdc
end
section
/- Layer 5, against the reference: rounds of shifts, and of the bits below, run. -/
namespace Go.Proofs.YtceclodenhgoeaaGreat.Zdd
open Go Go.RowKit Go.Proofs Go.Proofs.YtceclodenhgoeaaGreat.Xc Go.Proofs.YtceclodenhgoeaaGreat.Zs Go.Proofs.YtceclodenhgoeaaGreat.Zk Go.Proofs.YtceclodenhgoeaaGreat.Zo Go.Proofs.YtceclodenhgoeaaGreat.Zq Go.Proofs.YtceclodenhgoeaaGreat.Zu Go.Proofs.YtceclodenhgoeaaGreat.Zcf Go.Proofs.YtceclodenhgoeaaGreat.Zdc
set_option maxRecDepth 100000
set_option linter.unusedVariables false
def shI (n : Int) : Int := sh n
noncomputable abbrev TRd : Tab := [(180, fun vs K => match vs with
  | [.int .i64 n] => need (i6 n) (nm (shI n) fun r => K (.int .i64 r))
  | _ => False)]
noncomputable def bodyL : Code := match blk Tryz.prog 126 0 with
  | .loop c => c
  | _ => .skip
noncomputable def bodyR : Code := match blk Tryz.prog 128 0 with
  | .loop c => c
  | _ => .skip
noncomputable def bodyA : Code := match blk Tryz.prog 130 0 with
  | .loop c => c
  | _ => .skip
noncomputable def bodyF : Code := match blk Tryz.prog 187 0 with
  | .loop c => c
  | _ => .skip
def SLs (x0 : Value) (a b n i l h : Int) : St := ⟨[.v x0, .v (.int .i64 n), .p 0 0, .any, .p 1 0, .v (.int .i64 i)] ++ List.replicate 19 .any, [[.v (.int .u64 a), .v (.int .u64 b)], [.v (.int .u64 l), .v (.int .u64 h)]]⟩
def SRs (x0 : Value) (a b n i : Int) : St := ⟨[.v x0, .v (.int .i64 n), .p 0 0, .any, .p 1 0, .v (.int .i64 i)] ++ List.replicate 14 .any, [[.v (.int .u64 a), .v (.int .u64 b)], [.v (.int .u64 0), .v (.int .u64 0)]]⟩
def SAs (x0 : Value) (a b n i : Int) : St := ⟨[.v x0, .v (.int .i64 n), .p 0 0, .any, .p 1 0, .v (.int .i64 i)] ++ List.replicate 14 .any, [[.v (.int .i64 a), .v (.int .i64 b)], [.v (.int .i64 0), .v (.int .i64 0)]]⟩
def SFs (v n : Int) : St := ⟨[.v (.int .u64 v), .any, .v (.int .u64 0), .v (.int .u64 n)] ++ List.replicate 7 .any, []⟩
def nRdL (x0 : Value) (a b n i : Int) (K : Exit → St → Prop) : Prop := rndL Tryz.prog TRd EEk true [] 90 [0, 1, 2, 4, 5] 2 bodyL (SLs x0 a b n i 0 0) K
theorem nRdL_eq (x0 : Value) (a b n i : Int) (K : Exit → St → Prop) : nRdL x0 a b n i K = (need (Zcf.i6 n) (nm (Zdd.shI n) fun r => br (decide (i < r)) (br (decide (b ≥ 9223372036854775808)) (K Go.Exit.ret (St.mk [AV.v x0, AV.v (.int .i64 n), AV.p 0 0, AV.any, AV.p 1 0, AV.v (.int .i64 i), AV.any, AV.any, AV.any, AV.any, AV.any, AV.any, AV.any, AV.any, AV.any, AV.any, AV.any, AV.any, AV.any, AV.any, AV.any, AV.any, AV.any, AV.any, AV.any] [[AV.v (.int .u64 a), AV.v (.int .u64 b)], [AV.v (.int .u64 0), AV.v (.int .u64 18446744073709551615)]])) (K Go.Exit.normal (St.mk [AV.v x0, AV.v (.int .i64 n), AV.p 0 0, AV.any, AV.p 1 0, AV.v (.int .i64 (IntKind.wrap .i64 (i + 1))), AV.any, AV.any, AV.any, AV.any, AV.any, AV.any, AV.any, AV.any, AV.any, AV.any, AV.any, AV.any, AV.any, AV.any, AV.any, AV.any, AV.any, AV.any, AV.any] [[AV.v (.int .u64 (IntKind.wrap .u64 (2 * a))), AV.v (.int .u64 (IntKind.wrap .u64 (2 * b)))], [AV.v (.int .u64 0), AV.v (.int .u64 0)]]))) (K (Go.Exit.exit 0) (St.mk [AV.v x0, AV.v (.int .i64 n), AV.p 0 0, AV.any, AV.p 1 0, AV.v (.int .i64 i), AV.any, AV.any, AV.any, AV.any, AV.any, AV.any, AV.any, AV.any, AV.any, AV.any, AV.any, AV.any, AV.any, AV.any, AV.any, AV.any, AV.any, AV.any, AV.any] [[AV.v (.int .u64 a), AV.v (.int .u64 b)], [AV.v (.int .u64 0), AV.v (.int .u64 0)]])))) := by kernel_rfl
def nRdR (x0 : Value) (a b n i : Int) (K : Exit → St → Prop) : Prop := rndL Tryz.prog TRd EEk true [] 90 [0, 1, 2, 4, 5] 2 bodyR (SRs x0 a b n i) K
theorem nRdR_eq (x0 : Value) (a b n i : Int) (K : Exit → St → Prop) : nRdR x0 a b n i K = (need (Zcf.i6 n) (nm (Zdd.shI n) fun r => br (decide (i < r)) (ob true true (ob true true (K Go.Exit.normal (St.mk [AV.v x0, AV.v (.int .i64 n), AV.p 0 0, AV.any, AV.p 1 0, AV.v (.int .i64 (IntKind.wrap .i64 (i + 1))), AV.any, AV.any, AV.any, AV.any, AV.any, AV.any, AV.any, AV.any, AV.any, AV.any, AV.any, AV.any, AV.any, AV.any] [[AV.v (.int .u64 (IntKind.wrap .u64 (Int.tdiv a 2))), AV.v (.int .u64 (IntKind.wrap .u64 (Int.tdiv b 2)))], [AV.v (.int .u64 0), AV.v (.int .u64 0)]])))) (K (Go.Exit.exit 0) (St.mk [AV.v x0, AV.v (.int .i64 n), AV.p 0 0, AV.any, AV.p 1 0, AV.v (.int .i64 i), AV.any, AV.any, AV.any, AV.any, AV.any, AV.any, AV.any, AV.any, AV.any, AV.any, AV.any, AV.any, AV.any, AV.any] [[AV.v (.int .u64 a), AV.v (.int .u64 b)], [AV.v (.int .u64 0), AV.v (.int .u64 0)]])))) := by kernel_rfl
def nRdA (x0 : Value) (a b n i : Int) (K : Exit → St → Prop) : Prop := rndL Tryz.prog TRd EEk true [] 90 [0, 1, 2, 4, 5] 2 bodyA (SAs x0 a b n i) K
theorem nRdA_eq (x0 : Value) (a b n i : Int) (K : Exit → St → Prop) : nRdA x0 a b n i K = (need (Zcf.i6 n) (nm (Zdd.shI n) fun r => br (decide (i < r)) (ob true true (br (decide (Int.tmod a 2 < 0)) (ob true true (ob true true (br (decide (Int.tmod b 2 < 0)) (ob true true (K Go.Exit.normal (St.mk [AV.v x0, AV.v (.int .i64 n), AV.p 0 0, AV.any, AV.p 1 0, AV.v (.int .i64 (IntKind.wrap .i64 (i + 1))), AV.any, AV.any, AV.any, AV.any, AV.any, AV.any, AV.any, AV.any, AV.any, AV.any, AV.any, AV.any, AV.any, AV.any] [[AV.v (.int .i64 (IntKind.wrap .i64 (IntKind.wrap .i64 (Int.tdiv a 2) - 1))), AV.v (.int .i64 (IntKind.wrap .i64 (IntKind.wrap .i64 (Int.tdiv b 2) - 1)))], [AV.v (.int .i64 0), AV.v (.int .i64 0)]]))) (ob true true (K Go.Exit.normal (St.mk [AV.v x0, AV.v (.int .i64 n), AV.p 0 0, AV.any, AV.p 1 0, AV.v (.int .i64 (IntKind.wrap .i64 (i + 1))), AV.any, AV.any, AV.any, AV.any, AV.any, AV.any, AV.any, AV.any, AV.any, AV.any, AV.any, AV.any, AV.any, AV.any] [[AV.v (.int .i64 (IntKind.wrap .i64 (IntKind.wrap .i64 (Int.tdiv a 2) - 1))), AV.v (.int .i64 (IntKind.wrap .i64 (Int.tdiv b 2)))], [AV.v (.int .i64 0), AV.v (.int .i64 0)]])))))) (ob true true (ob true true (br (decide (Int.tmod b 2 < 0)) (ob true true (K Go.Exit.normal (St.mk [AV.v x0, AV.v (.int .i64 n), AV.p 0 0, AV.any, AV.p 1 0, AV.v (.int .i64 (IntKind.wrap .i64 (i + 1))), AV.any, AV.any, AV.any, AV.any, AV.any, AV.any, AV.any, AV.any, AV.any, AV.any, AV.any, AV.any, AV.any, AV.any] [[AV.v (.int .i64 (IntKind.wrap .i64 (Int.tdiv a 2))), AV.v (.int .i64 (IntKind.wrap .i64 (IntKind.wrap .i64 (Int.tdiv b 2) - 1)))], [AV.v (.int .i64 0), AV.v (.int .i64 0)]]))) (ob true true (K Go.Exit.normal (St.mk [AV.v x0, AV.v (.int .i64 n), AV.p 0 0, AV.any, AV.p 1 0, AV.v (.int .i64 (IntKind.wrap .i64 (i + 1))), AV.any, AV.any, AV.any, AV.any, AV.any, AV.any, AV.any, AV.any, AV.any, AV.any, AV.any, AV.any, AV.any, AV.any] [[AV.v (.int .i64 (IntKind.wrap .i64 (Int.tdiv a 2))), AV.v (.int .i64 (IntKind.wrap .i64 (Int.tdiv b 2)))], [AV.v (.int .i64 0), AV.v (.int .i64 0)]])))))))) (K (Go.Exit.exit 0) (St.mk [AV.v x0, AV.v (.int .i64 n), AV.p 0 0, AV.any, AV.p 1 0, AV.v (.int .i64 i), AV.any, AV.any, AV.any, AV.any, AV.any, AV.any, AV.any, AV.any, AV.any, AV.any, AV.any, AV.any, AV.any, AV.any] [[AV.v (.int .i64 a), AV.v (.int .i64 b)], [AV.v (.int .i64 0), AV.v (.int .i64 0)]])))) := by kernel_rfl
def nRdF (v n : Int) (K : Exit → St → Prop) : Prop := rndL Tryz.prog [] EEk true [] 90 [0, 2, 3] 0 bodyF (SFs v n) K
theorem nRdF_eq (v n : Int) (K : Exit → St → Prop) : nRdF v n K = (br (decide (n < v)) (K Go.Exit.normal (St.mk [AV.v (.int .u64 v), AV.any, AV.v (.int .u64 0), AV.v (.int .u64 (IntKind.wrap .u64 (IntKind.wrap .u64 (2 * n) + 1))), AV.any, AV.any, AV.any, AV.any, AV.any, AV.any, AV.any] [])) (K (Go.Exit.exit 0) (St.mk [AV.v (.int .u64 v), AV.any, AV.v (.int .u64 0), AV.v (.int .u64 n), AV.any, AV.any, AV.any, AV.any, AV.any, AV.any, AV.any] []))) := by kernel_rfl
end Go.Proofs.YtceclodenhgoeaaGreat.Zdd
end
section
/- Layer 5, against the reference: shifts, bit by bit, and the bits below: its loops. -/
namespace Go.Proofs.YtceclodenhgoeaaGreat.Zde
open Go Go.RowKit Go.Proofs Go.Proofs.YtceclodenhgoeaaGreat.Xc Go.Proofs.YtceclodenhgoeaaGreat.Zs Go.Proofs.YtceclodenhgoeaaGreat.Zk Go.Proofs.YtceclodenhgoeaaGreat.Zo Go.Proofs.YtceclodenhgoeaaGreat.Zq Go.Proofs.YtceclodenhgoeaaGreat.Zu Go.Proofs.YtceclodenhgoeaaGreat.Zv Go.Proofs.YtceclodenhgoeaaGreat.Zy Go.Proofs.YtceclodenhgoeaaGreat.Zbc Go.Proofs.YtceclodenhgoeaaGreat.Zcf Go.Proofs.YtceclodenhgoeaaGreat.Zda Go.Proofs.YtceclodenhgoeaaGreat.Zdb Go.Proofs.YtceclodenhgoeaaGreat.Zdc Go.Proofs.YtceclodenhgoeaaGreat.Zdd Go.Proofs.YtceclodenhgoeaaGreat.Bv
set_option linter.unusedVariables false
set_option linter.unusedSimpArgs false
theorem trd : TabOk Tryz.prog TRd := by
  refine tab_runK good (by kernel_rfl) (fun vs K h => ?_) tab_nil
  split at h
  · have o := rnd_eq (K := K) h.1 (h.2 _ rfl); unfold nRnd at o; exact ⟨[], EEk, true, 90, tab_nil, eek, o⟩
  · exact h.elim
theorem pw_pos (k : Nat) : (0 : Int) < 2 ^ k := Int.pow_pos (by decide)
theorem dv_s (a : Int) (j : Nat) : a / 2 ^ j / 2 = a / 2 ^ (j + 1) := by
  rw [Int.ediv_ediv_of_nonneg (Int.le_of_lt (pw_pos j)), Int.pow_succ]
theorem dv_u {a : Int} (h : u6 a) (j : Nat) : u6 (a / 2 ^ j) := by
  unfold u6 at *
  have := Int.ediv_nonneg h.1 (Int.le_of_lt (pw_pos j))
  have := Int.ediv_le_self (2 ^ j) h.1
  omega
theorem dv_i {a : Int} (h : i6 a) (j : Nat) : i6 (a / 2 ^ j) := by
  unfold i6 at *
  have hp := pw_pos j
  refine ⟨?_, ?_⟩
  · rw [Int.le_ediv_iff_mul_le hp]
    have : (-9223372036854775808 : Int) * 2 ^ j ≤ -9223372036854775808 * 1 := Int.mul_le_mul_of_nonpos_left (by omega) (by omega)
    omega
  · rw [Int.ediv_lt_iff_lt_mul hp]
    have : (9223372036854775808 : Int) * 1 ≤ 9223372036854775808 * 2 ^ j := Int.mul_le_mul_of_nonneg_left (by omega) (by omega)
    omega
theorem nxJ {j : Nat} (hj : j < 64) : IntKind.wrap .i64 ((j : Int) + 1) = ((j + 1 : Nat) : Int) := by rw [isw]; omega
theorem half_e {v : Int} (h : i6 v) : (Int.tmod v 2 < 0 → IntKind.wrap .i64 (IntKind.wrap .i64 (Int.tdiv v 2) - 1) = v / 2) ∧ (¬ Int.tmod v 2 < 0 → IntKind.wrap .i64 (Int.tdiv v 2) = v / 2) := by
  unfold i6 at h
  rw [Int.tmod_eq_emod, Int.tdiv_eq_ediv]
  by_cases c : 0 ≤ v ∨ (2 : Int) ∣ v
  · rw [if_pos c, if_pos c]
    exact ⟨fun k => by omega, fun _ => by rw [isw]; omega⟩
  · rw [if_neg c, if_neg c, show (2 : Int).sign = 1 from rfl, show ((2 : Int).natAbs : Int) = 2 from rfl]
    exact ⟨fun _ => by rw [isw, isw]; omega, fun k => by omega⟩
theorem loopR (x0 : Value) (a b n : Int) (ha : u6 a) (hb : u6 b) (hn : i6 n) : LW Tryz.prog bodyR (SRs x0 a b n 0) (.exit 0) (SRs x0 (a / 2 ^ sh n) (b / 2 ^ sh n) n (sh n : Nat)) := by
  have key := loop_ix (P := Tryz.prog) (c := bodyR) (fun j : Nat => SRs x0 (a / 2 ^ j) (b / 2 ^ j) n j) (fun j => j ≤ sh n) (fun j => sh n - j) (fun _ e s' => e = .exit 0 ∧ s' = SRs x0 (a / 2 ^ sh n) (b / 2 ^ sh n) n (sh n : Nat)) ?_ 0 (by omega)
  · obtain ⟨e, s', ⟨rfl, rfl⟩, hl⟩ := key
    simp only [Int.pow_zero, Int.ediv_one] at hl; exact hl
  · intro j hj
    have hk := sh_lt n
    refine rndL_sound (gm := true) (Lt := []) (f := 90) (ks := [0, 1, 2, 4, 5]) (n := 2) good trd eek lok_nil (by kernel_rfl) ?_
    have fin : ∀ Q, nRdR x0 (a / 2 ^ j) (b / 2 ^ j) n j Q → rndL Tryz.prog TRd EEk true [] 90 [0, 1, 2, 4, 5] 2 bodyR (SRs x0 (a / 2 ^ j) (b / 2 ^ j) n j) Q := fun Q h => by unfold nRdR at h; exact h
    refine fin _ ?_
    rw [nRdR_eq]
    refine ⟨hn, fun r hr => ?_⟩
    have hr : r = (sh n : Nat) := hr
    subst hr
    refine br_cases (fun q => ?_) (fun q => ?_)
    · have q := of_decide_eq_true q
      repeat (first | with_reducible refine ob_self ?_ | with_reducible refine ob_true ?_)
      refine Or.inr ⟨rfl, j + 1, ?_, by omega, by omega, fun _ _ h => h⟩
      have k2 : u6 2 := by unfold u6; omega
      rw [dvU (dv_u ha j) k2, dvU (dv_u hb j) k2, dv_s, dv_s, nxJ (by omega)]; rfl
    · have q := of_decide_eq_false q
      obtain rfl : j = sh n := by omega
      exact Or.inl ⟨by simp, rfl, rfl⟩
theorem loopA (x0 : Value) (a b n : Int) (ha : i6 a) (hb : i6 b) (hn : i6 n) : LW Tryz.prog bodyA (SAs x0 a b n 0) (.exit 0) (SAs x0 (a / 2 ^ sh n) (b / 2 ^ sh n) n (sh n : Nat)) := by
  have key := loop_ix (P := Tryz.prog) (c := bodyA) (fun j : Nat => SAs x0 (a / 2 ^ j) (b / 2 ^ j) n j) (fun j => j ≤ sh n) (fun j => sh n - j) (fun _ e s' => e = .exit 0 ∧ s' = SAs x0 (a / 2 ^ sh n) (b / 2 ^ sh n) n (sh n : Nat)) ?_ 0 (by omega)
  · obtain ⟨e, s', ⟨rfl, rfl⟩, hl⟩ := key
    simp only [Int.pow_zero, Int.ediv_one] at hl; exact hl
  · intro j hj
    have hk := sh_lt n
    refine rndL_sound (gm := true) (Lt := []) (f := 90) (ks := [0, 1, 2, 4, 5]) (n := 2) good trd eek lok_nil (by kernel_rfl) ?_
    have fin : ∀ Q, nRdA x0 (a / 2 ^ j) (b / 2 ^ j) n j Q → rndL Tryz.prog TRd EEk true [] 90 [0, 1, 2, 4, 5] 2 bodyA (SAs x0 (a / 2 ^ j) (b / 2 ^ j) n j) Q := fun Q h => by unfold nRdA at h; exact h
    refine fin _ ?_
    rw [nRdA_eq]
    refine ⟨hn, fun r hr => ?_⟩
    have hr : r = (sh n : Nat) := hr
    subst hr
    have ea := half_e (dv_i ha j)
    have eb := half_e (dv_i hb j)
    rw [dv_s] at ea eb
    refine br_cases (fun q => ?_) (fun q => ?_)
    · have q := of_decide_eq_true q
      repeat (first | with_reducible refine ob_self ?_ | with_reducible refine ob_true ?_)
      refine br_cases (fun q1 => ?_) (fun q1 => ?_)
      all_goals (repeat (first | with_reducible refine ob_self ?_ | with_reducible refine ob_true ?_))
      all_goals (refine br_cases (fun q2 => ?_) (fun q2 => ?_))
      all_goals (repeat (first | with_reducible refine ob_self ?_ | with_reducible refine ob_true ?_))
      all_goals (first | have q1 := of_decide_eq_true q1 | have q1 := of_decide_eq_false q1)
      all_goals (first | have q2 := of_decide_eq_true q2 | have q2 := of_decide_eq_false q2)
      all_goals (refine Or.inr ⟨rfl, j + 1, ?_, by omega, by omega, fun _ _ h => h⟩)
      all_goals (first | rw [ea.1 q1] | rw [ea.2 q1])
      all_goals (first | rw [eb.1 q2] | rw [eb.2 q2])
      all_goals (rw [nxJ (by omega)]; rfl)
    · have q := of_decide_eq_false q
      obtain rfl : j = sh n := by omega
      exact Or.inl ⟨by simp, rfl, rfl⟩
theorem loopL (x0 : Value) (a b n : Int) (ha : u6 a) (hb : u6 b) (hab : a ≤ b) (hn : i6 n) : ∃ e s', ((b * 2 ^ sh n < 18446744073709551616 ∧ e = .exit 0 ∧ s' = SLs x0 (a * 2 ^ sh n) (b * 2 ^ sh n) n (sh n : Nat) 0 0) ∨ (¬ b * 2 ^ sh n < 18446744073709551616 ∧ ∃ a' b' i, e = .ret ∧ s' = SLs x0 a' b' n i 0 18446744073709551615)) ∧ LW Tryz.prog bodyL (SLs x0 a b n 0 0 0) e s' := by
  have key := loop_ix (P := Tryz.prog) (c := bodyL) (fun j : Nat => SLs x0 (a * 2 ^ j) (b * 2 ^ j) n j 0 0) (fun j => j ≤ sh n ∧ b * 2 ^ j < 18446744073709551616) (fun j => sh n - j) (fun _ e s' => (b * 2 ^ sh n < 18446744073709551616 ∧ e = .exit 0 ∧ s' = SLs x0 (a * 2 ^ sh n) (b * 2 ^ sh n) n (sh n : Nat) 0 0) ∨ (¬ b * 2 ^ sh n < 18446744073709551616 ∧ ∃ a' b' i, e = .ret ∧ s' = SLs x0 a' b' n i 0 18446744073709551615)) ?_ 0 ⟨by omega, by unfold u6 at hb; simp; omega⟩
  · obtain ⟨e, s', h, hl⟩ := key
    refine ⟨e, s', h, ?_⟩
    simp only [Int.pow_zero, Int.mul_one] at hl; exact hl
  · intro j ⟨hj, hbj⟩
    have hk := sh_lt n
    refine rndL_sound (gm := true) (Lt := []) (f := 90) (ks := [0, 1, 2, 4, 5]) (n := 2) good trd eek lok_nil (by kernel_rfl) ?_
    have fin : ∀ Q, nRdL x0 (a * 2 ^ j) (b * 2 ^ j) n j Q → rndL Tryz.prog TRd EEk true [] 90 [0, 1, 2, 4, 5] 2 bodyL (SLs x0 (a * 2 ^ j) (b * 2 ^ j) n j 0 0) Q := fun Q h => by unfold nRdL at h; exact h
    refine fin _ ?_
    rw [nRdL_eq]
    refine ⟨hn, fun r hr => ?_⟩
    have hr : r = (sh n : Nat) := hr
    subst hr
    unfold u6 at ha hb
    have hp := pw_pos j
    have s1 : a * 2 ^ (j + 1) = 2 * (a * 2 ^ j) := by rw [Int.pow_succ, ← Int.mul_assoc, Int.mul_comm _ 2]
    have s2 : b * 2 ^ (j + 1) = 2 * (b * 2 ^ j) := by rw [Int.pow_succ, ← Int.mul_assoc, Int.mul_comm _ 2]
    have n1 := Int.mul_nonneg ha.1 (Int.le_of_lt hp)
    have n2 := Int.mul_le_mul_of_nonneg_right hab (Int.le_of_lt hp)
    refine br_cases (fun q => br_cases (fun q1 => ?_) (fun q1 => ?_)) (fun q => ?_)
    · have q := of_decide_eq_true q
      have q1 := of_decide_eq_true q1
      refine Or.inl ⟨by simp, Or.inr ⟨?_, _, _, _, rfl, rfl⟩⟩
      have e : (2 : Int) ^ (j + 1) ≤ 2 ^ sh n := by
        have : 2 ^ (j + 1) ≤ 2 ^ sh n := Nat.pow_le_pow_right (by decide) (by omega)
        have : ((2 ^ (j + 1) : Nat) : Int) ≤ ((2 ^ sh n : Nat) : Int) := by omega
        simpa using this
      have := Int.mul_le_mul_of_nonneg_left e hb.1
      omega
    · have q := of_decide_eq_true q
      have q1 := of_decide_eq_false q1
      refine Or.inr ⟨rfl, j + 1, ?_, ⟨by omega, by omega⟩, by omega, fun _ _ h => h⟩
      rw [s1, s2, nxJ (by omega)]
      generalize a * 2 ^ j = A at *
      generalize b * 2 ^ j = B at *
      rw [show IntKind.wrap .u64 (2 * A) = 2 * A by rw [uW]; omega, show IntKind.wrap .u64 (2 * B) = 2 * B by rw [uW]; omega]; rfl
    · have q := of_decide_eq_false q
      obtain rfl : j = sh n := by omega
      exact Or.inl ⟨by simp, Or.inl ⟨hbj, rfl, rfl⟩⟩
/-- All bits up to the highest of a number. -/
noncomputable def fl (v : Int) : Int := 2 ^ kpf v 0 - 1
theorem KP0 {v : Int} (hv : u6 v) {k : Nat} (hk : k ≤ 64) (h1 : v < 2 ^ k) (h2 : ∀ i, i < k → 2 ^ i ≤ v) : KP v 0 k := by
  refine ⟨hk, ?_, fun i hi e => ?_⟩
  · rw [Int.zero_ediv]; exact Int.ediv_eq_zero_of_lt hv.1 h1
  · rw [Int.zero_ediv] at e
    have := h2 i hi
    have hp := pw_pos i
    have : 1 ≤ v / 2 ^ i := by rw [Int.le_ediv_iff_mul_le hp]; omega
    omega
theorem loopF (v : Int) (hv : u6 v) : ∃ k, KP v 0 k ∧ LW Tryz.prog bodyF (SFs v 0) (.exit 0) (SFs v (2 ^ k - 1)) := by
  have key := loop_ix (P := Tryz.prog) (c := bodyF) (fun j : Nat => SFs v (2 ^ j - 1)) (fun j => j ≤ 64 ∧ ∀ i, i < j → 2 ^ i ≤ v) (fun j => 64 - j) (fun _ e s' => ∃ k, KP v 0 k ∧ e = .exit 0 ∧ s' = SFs v (2 ^ k - 1)) ?_ 0 ⟨by omega, fun i h => by omega⟩
  · obtain ⟨e, s', ⟨k, hk, rfl, rfl⟩, hl⟩ := key
    exact ⟨k, hk, hl⟩
  · intro j ⟨hj, ha⟩
    refine rndL_sound (gm := true) (Lt := []) (f := 90) (ks := [0, 2, 3]) (n := 0) good tab_nil eek lok_nil (by kernel_rfl) ?_
    have fin : ∀ Q, nRdF v (2 ^ j - 1) Q → rndL Tryz.prog [] EEk true [] 90 [0, 2, 3] 0 bodyF (SFs v (2 ^ j - 1)) Q := fun Q h => by unfold nRdF at h; exact h
    refine fin _ ?_
    rw [nRdF_eq]
    have hp := pw_pos j
    have hv2 := hv; unfold u6 at hv2
    refine br_cases (fun q => ?_) (fun q => ?_)
    · have q := of_decide_eq_true q
      have h64 : j < 64 := Classical.byContradiction fun h => by
        obtain rfl : j = 64 := by omega
        have : (2 : Int) ^ 64 = 18446744073709551616 := by decide
        omega
      refine Or.inr ⟨rfl, j + 1, ?_, ⟨by omega, fun i hi => ?_⟩, by omega, fun _ _ h => h⟩
      · have sm : (2 : Int) ^ j ≤ 9223372036854775808 := by
          have a : (2 : Int) ^ j = ((2 ^ j : Nat) : Int) := by simp
          have b : 2 ^ j ≤ 2 ^ 63 := Nat.pow_le_pow_right (by decide) (by omega)
          rw [a]; omega
        have e : IntKind.wrap .u64 (IntKind.wrap .u64 (2 * (2 ^ j - 1)) + 1) = 2 ^ (j + 1) - 1 := by
          rw [uW, uW, Int.pow_succ]; omega
        rw [e]; rfl
      · by_cases hij : i = j
        · rw [hij]; omega
        · exact ha i (by omega)
    · have q := of_decide_eq_false q
      exact Or.inl ⟨by simp, j, KP0 hv hj (by omega) ha, rfl, rfl⟩
end Go.Proofs.YtceclodenhgoeaaGreat.Zde
end
section
/- Layer 5, against the reference: shifts of spans, their bits, on both sides, run. -/
namespace Go.Proofs.YtceclodenhgoeaaGreat.Zdf
open Go Go.RowKit Go.Proofs Go.Proofs.YtceclodenhgoeaaGreat.Xc Go.Proofs.YtceclodenhgoeaaGreat.Zs Go.Proofs.YtceclodenhgoeaaGreat.Zk Go.Proofs.YtceclodenhgoeaaGreat.Zo Go.Proofs.YtceclodenhgoeaaGreat.Zq Go.Proofs.YtceclodenhgoeaaGreat.Zu Go.Proofs.YtceclodenhgoeaaGreat.Zcf Go.Proofs.YtceclodenhgoeaaGreat.Zdc Go.Proofs.YtceclodenhgoeaaGreat.Zdd Go.Proofs.YtceclodenhgoeaaGreat.Zde
set_option maxRecDepth 100000
set_option linter.unusedVariables false
/-- Whether a number shifted up is one of 64 bits; shifted up; shifted down. -/
def ulo (b n : Int) : Bool := decide (b * 2 ^ sh n < 18446744073709551616)
def up (a n : Int) : Int := a * 2 ^ sh n
def dn (a n : Int) : Int := a / 2 ^ sh n
def FL (s : St) (K : Exit → St → Prop) : Prop := match s with
  | ⟨.v x0 :: .v (.int .i64 n) :: t, [[.v (.int .u64 a), .v (.int .u64 b)], r]⟩ => need (keep [0, 1, 2, 4, 5] 100 ⟨.v x0 :: .v (.int .i64 n) :: t, [[.v (.int .u64 a), .v (.int .u64 b)], r]⟩ = SLs x0 a b n 0 0 0) (need ((u6 a ∧ u6 b) ∧ (a ≤ b ∧ i6 n)) (br (ulo b n) (K (.exit 0) (SLs x0 (up a n) (up b n) n (shI n) 0 0)) (al fun a' => al fun b' => al fun i => K .ret (SLs x0 a' b' n i 0 18446744073709551615))))
  | _ => False
def FR (s : St) (K : Exit → St → Prop) : Prop := match s with
  | ⟨.v x0 :: .v (.int .i64 n) :: t, [[.v (.int .u64 a), .v (.int .u64 b)], r]⟩ => need (keep [0, 1, 2, 4, 5] 100 ⟨.v x0 :: .v (.int .i64 n) :: t, [[.v (.int .u64 a), .v (.int .u64 b)], r]⟩ = SRs x0 a b n 0) (need ((u6 a ∧ u6 b) ∧ i6 n) (K (.exit 0) (SRs x0 (dn a n) (dn b n) n (shI n))))
  | _ => False
def FA (s : St) (K : Exit → St → Prop) : Prop := match s with
  | ⟨.v x0 :: .v (.int .i64 n) :: t, [[.v (.int .i64 a), .v (.int .i64 b)], r]⟩ => need (keep [0, 1, 2, 4, 5] 100 ⟨.v x0 :: .v (.int .i64 n) :: t, [[.v (.int .i64 a), .v (.int .i64 b)], r]⟩ = SAs x0 a b n 0) (need ((i6 a ∧ i6 b) ∧ i6 n) (K (.exit 0) (SAs x0 (dn a n) (dn b n) n (shI n))))
  | _ => False
def FF (s : St) (K : Exit → St → Prop) : Prop := match s with
  | ⟨.v (.int .u64 v) :: t, []⟩ => need (keep [0, 2, 3] 100 ⟨.v (.int .u64 v) :: t, []⟩ = SFs v 0) (need (u6 v) (K (.exit 0) (SFs v (fl v))))
  | _ => False
noncomputable def LtL : Loops := [(0, blk Tryz.prog 126 0, FL)]
noncomputable def LtR : Loops := [(0, blk Tryz.prog 128 0, FR)]
noncomputable def LtA : Loops := [(0, blk Tryz.prog 130 0, FA)]
noncomputable def LtF : Loops := [(0, blk Tryz.prog 187 0, FF)]
def nULc (a b n : Int) (K : Value → Prop) : Prop := run Tryz.prog [] EEk true 90 95 [T2 a b, .int .i64 n] K
theorem nULc_eq (a b n : Int) (K : Value → Prop) : nULc a b n K = (ob true (decide (0 ≤ Go.bits .and .i64 n 63)) (ob true (decide (0 ≤ Go.bits .and .i64 n 63)) (br (IntKind.wrap .u64 (b * 2 ^ min (Int.toNat (Go.bits .and .i64 n 63)) (IntKind.bits .u64)) / 2 ^ min (Int.toNat (Go.bits .and .i64 n 63)) (IntKind.bits .u64) != b) (K (.agg (#[.int .u64 0, .int .u64 18446744073709551615]))) (ob true (decide (0 ≤ Go.bits .and .i64 n 63)) (ob true (decide (0 ≤ Go.bits .and .i64 n 63)) (K (.agg (#[.int .u64 (IntKind.wrap .u64 (a * 2 ^ min (Int.toNat (Go.bits .and .i64 n 63)) (IntKind.bits .u64))), .int .u64 (IntKind.wrap .u64 (b * 2 ^ min (Int.toNat (Go.bits .and .i64 n 63)) (IntKind.bits .u64)))])))))))) := by kernel_rfl
def nULr (a b n : Int) (K : Value → Prop) : Prop := runL Tryz.prog [] EEk true LtL 90 126 [T2 a b, .int .i64 n] K
theorem nULr_eq (a b n : Int) (K : Value → Prop) : nULr a b n K = (same (blk Go.Proofs.Tryz.prog 126 0) (blk Go.Proofs.Tryz.prog 126 0) (need (St.mk [AV.v (.agg (#[.int .u64 a, .int .u64 b])), AV.v (.int .i64 n), AV.p 0 0, AV.any, AV.p 1 0, AV.v (.int .i64 0), AV.any, AV.any, AV.any, AV.any, AV.any, AV.any, AV.any, AV.any, AV.any, AV.any, AV.any, AV.any, AV.any, AV.any, AV.any, AV.any, AV.any, AV.any, AV.any] [[AV.v (.int .u64 a), AV.v (.int .u64 b)], [AV.v (.int .u64 0), AV.v (.int .u64 0)]] = St.mk [AV.v (.agg (#[.int .u64 a, .int .u64 b])), AV.v (.int .i64 n), AV.p 0 0, AV.any, AV.p 1 0, AV.v (.int .i64 0), AV.any, AV.any, AV.any, AV.any, AV.any, AV.any, AV.any, AV.any, AV.any, AV.any, AV.any, AV.any, AV.any, AV.any, AV.any, AV.any, AV.any, AV.any, AV.any] [[AV.v (.int .u64 a), AV.v (.int .u64 b)], [AV.v (.int .u64 0), AV.v (.int .u64 0)]]) (need ((Zu.u6 a ∧ Zu.u6 b) ∧ a ≤ b ∧ Zcf.i6 n) (br (Zdf.ulo b n) (K (.agg (#[.int .u64 (Zdf.up a n), .int .u64 (Zdf.up b n)]))) (al fun (x : Int) => al fun (x : Int) => al fun (x : Int) => K (.agg (#[.int .u64 0, .int .u64 18446744073709551615]))))))) := by kernel_rfl
def nURc (a b n : Int) (K : Value → Prop) : Prop := run Tryz.prog [] EEk true 90 97 [T2 a b, .int .i64 n] K
theorem nURc_eq (a b n : Int) (K : Value → Prop) : nURc a b n K = (ob true (decide (0 ≤ Go.bits .and .i64 n 63)) (ob true (decide (0 ≤ Go.bits .and .i64 n 63)) (K (.agg (#[.int .u64 (a / 2 ^ min (Int.toNat (Go.bits .and .i64 n 63)) (IntKind.bits .u64)), .int .u64 (b / 2 ^ min (Int.toNat (Go.bits .and .i64 n 63)) (IntKind.bits .u64))]))))) := by kernel_rfl
def nURr (a b n : Int) (K : Value → Prop) : Prop := runL Tryz.prog [] EEk true LtR 90 128 [T2 a b, .int .i64 n] K
theorem nURr_eq (a b n : Int) (K : Value → Prop) : nURr a b n K = (same (blk Go.Proofs.Tryz.prog 128 0) (blk Go.Proofs.Tryz.prog 128 0) (need (St.mk [AV.v (.agg (#[.int .u64 a, .int .u64 b])), AV.v (.int .i64 n), AV.p 0 0, AV.any, AV.p 1 0, AV.v (.int .i64 0), AV.any, AV.any, AV.any, AV.any, AV.any, AV.any, AV.any, AV.any, AV.any, AV.any, AV.any, AV.any, AV.any, AV.any] [[AV.v (.int .u64 a), AV.v (.int .u64 b)], [AV.v (.int .u64 0), AV.v (.int .u64 0)]] = St.mk [AV.v (.agg (#[.int .u64 a, .int .u64 b])), AV.v (.int .i64 n), AV.p 0 0, AV.any, AV.p 1 0, AV.v (.int .i64 0), AV.any, AV.any, AV.any, AV.any, AV.any, AV.any, AV.any, AV.any, AV.any, AV.any, AV.any, AV.any, AV.any, AV.any] [[AV.v (.int .u64 a), AV.v (.int .u64 b)], [AV.v (.int .u64 0), AV.v (.int .u64 0)]]) (need ((Zu.u6 a ∧ Zu.u6 b) ∧ Zcf.i6 n) (K (.agg (#[.int .u64 (Zdf.dn a n), .int .u64 (Zdf.dn b n)])))))) := by kernel_rfl
def nSRc (a b n : Int) (K : Value → Prop) : Prop := run Tryz.prog [] EEk true 90 99 [S2 a b, .int .i64 n] K
theorem nSRc_eq (a b n : Int) (K : Value → Prop) : nSRc a b n K = (ob true (decide (0 ≤ Go.bits .and .i64 n 63)) (ob true (decide (0 ≤ Go.bits .and .i64 n 63)) (K (.agg (#[.int .i64 (a / 2 ^ min (Int.toNat (Go.bits .and .i64 n 63)) (IntKind.bits .i64)), .int .i64 (b / 2 ^ min (Int.toNat (Go.bits .and .i64 n 63)) (IntKind.bits .i64))]))))) := by kernel_rfl
def nSRr (a b n : Int) (K : Value → Prop) : Prop := runL Tryz.prog [] EEk true LtA 90 130 [S2 a b, .int .i64 n] K
theorem nSRr_eq (a b n : Int) (K : Value → Prop) : nSRr a b n K = (same (blk Go.Proofs.Tryz.prog 130 0) (blk Go.Proofs.Tryz.prog 130 0) (need (St.mk [AV.v (.agg (#[.int .i64 a, .int .i64 b])), AV.v (.int .i64 n), AV.p 0 0, AV.any, AV.p 1 0, AV.v (.int .i64 0), AV.any, AV.any, AV.any, AV.any, AV.any, AV.any, AV.any, AV.any, AV.any, AV.any, AV.any, AV.any, AV.any, AV.any] [[AV.v (.int .i64 a), AV.v (.int .i64 b)], [AV.v (.int .i64 0), AV.v (.int .i64 0)]] = St.mk [AV.v (.agg (#[.int .i64 a, .int .i64 b])), AV.v (.int .i64 n), AV.p 0 0, AV.any, AV.p 1 0, AV.v (.int .i64 0), AV.any, AV.any, AV.any, AV.any, AV.any, AV.any, AV.any, AV.any, AV.any, AV.any, AV.any, AV.any, AV.any, AV.any] [[AV.v (.int .i64 a), AV.v (.int .i64 b)], [AV.v (.int .i64 0), AV.v (.int .i64 0)]]) (need ((Zcf.i6 a ∧ Zcf.i6 b) ∧ Zcf.i6 n) (K (.agg (#[.int .i64 (Zdf.dn a n), .int .i64 (Zdf.dn b n)])))))) := by kernel_rfl
def nFu (v : Int) (K : Value → Prop) : Prop := runL Tryz.prog [] EEk true LtF 90 187 [.int .u64 v] K
theorem nFu_eq (v : Int) (K : Value → Prop) : nFu v K = (same (blk Go.Proofs.Tryz.prog 187 0) (blk Go.Proofs.Tryz.prog 187 0) (need (St.mk [AV.v (.int .u64 v), AV.any, AV.v (.int .u64 0), AV.v (.int .u64 0), AV.any, AV.any, AV.any, AV.any, AV.any, AV.any, AV.any] [] = St.mk [AV.v (.int .u64 v), AV.any, AV.v (.int .u64 0), AV.v (.int .u64 0), AV.any, AV.any, AV.any, AV.any, AV.any, AV.any, AV.any] []) (need (Zu.u6 v) (K (.int .u64 (Zde.fl v)))))) := by kernel_rfl
def cFu (vs : List Value) (K : Value → Prop) : Prop := match vs with
  | [.int .u64 v] => need (u6 v) (nm (fl v) fun r => K (.int .u64 r))
  | _ => False
noncomputable abbrev TFu : Tab := [(187, cFu)]
noncomputable abbrev TBe : Tab := [(162, fun vs K => match vs with
  | [.int .u64 v] => need (u6 v) (nm (fl v) fun r => K (.int .u64 r))
  | _ => False)]
def nUOc (a b c d : Int) (K : Value → Prop) : Prop := run Tryz.prog TBe EEk true 90 111 [T2 a b, T2 c d] K
theorem nUOc_eq (a b c d : Int) (K : Value → Prop) : nUOc a b c d K = (ob (a == b) (a == b) (ob (a == b) (a == b) (ob (!a == b) true (nm (bif a == b then c == d else false) fun r => br r (K (.agg (#[.int .u64 (Go.bits .or .u64 a c), .int .u64 (Go.bits .or .u64 a c)]))) (need (Zu.u6 (Go.bits .or .u64 b d)) (nm (Zde.fl (Go.bits .or .u64 b d)) fun r => K (.agg (#[.int .u64 (if c > a then c else a), .int .u64 r])))))))) := by kernel_rfl
def nUOr (a b c d : Int) (K : Value → Prop) : Prop := run Tryz.prog TFu EEk true 90 142 [T2 a b, T2 c d] K
theorem nUOr_eq (a b c d : Int) (K : Value → Prop) : nUOr a b c d K = (ob (a == b) (a == b) (ob (a == b) (a == b) (ob (!a == b) true (nm (bif a == b then c == d else false) fun r => br r (K (.agg (#[.int .u64 (Go.bits .or .u64 a c), .int .u64 (Go.bits .or .u64 a c)]))) (need (Zu.u6 b) (nm (Zde.fl b) fun r => br (decide (c > a)) (need (Zu.u6 d) (nm (Zde.fl d) fun r_1 => br (decide (r_1 > r)) (need (Zu.u6 d) (nm (Zde.fl d) fun r => K (.agg (#[.int .u64 c, .int .u64 r])))) (K (.agg (#[.int .u64 c, .int .u64 r]))))) (need (Zu.u6 d) (nm (Zde.fl d) fun r_1 => br (decide (r_1 > r)) (need (Zu.u6 d) (nm (Zde.fl d) fun r => K (.agg (#[.int .u64 a, .int .u64 r])))) (K (.agg (#[.int .u64 a, .int .u64 r]))))))))))) := by kernel_rfl
end Go.Proofs.YtceclodenhgoeaaGreat.Zdf
end
section
/- Layer 5, against the reference: shifts of spans are the same on both sides. -/
namespace Go.Proofs.YtceclodenhgoeaaGreat.Zdg
open Go Go.RowKit Go.Proofs Go.Proofs.YtceclodenhgoeaaGreat.Xc Go.Proofs.YtceclodenhgoeaaGreat.Zs Go.Proofs.YtceclodenhgoeaaGreat.Zk Go.Proofs.YtceclodenhgoeaaGreat.Zo Go.Proofs.YtceclodenhgoeaaGreat.Zq Go.Proofs.YtceclodenhgoeaaGreat.Zu Go.Proofs.YtceclodenhgoeaaGreat.Zbc Go.Proofs.YtceclodenhgoeaaGreat.Zcf Go.Proofs.YtceclodenhgoeaaGreat.Zdb Go.Proofs.YtceclodenhgoeaaGreat.Zdc Go.Proofs.YtceclodenhgoeaaGreat.Zdd Go.Proofs.YtceclodenhgoeaaGreat.Zde Go.Proofs.YtceclodenhgoeaaGreat.Zdf Go.Proofs.YtceclodenhgoeaaGreat.Bv Go.Proofs.YtceclodenhgoeaaGreat.Zv Go.Proofs.YtceclodenhgoeaaGreat.Zy Go.Proofs.YtceclodenhgoeaaGreat.Zda
set_option linter.unusedVariables false
set_option linter.unusedSimpArgs false
theorem blkL : blk Tryz.prog 126 0 = .loop bodyL := by kernel_rfl
theorem blkR : blk Tryz.prog 128 0 = .loop bodyR := by kernel_rfl
theorem blkA : blk Tryz.prog 130 0 = .loop bodyA := by kernel_rfl
theorem blkF : blk Tryz.prog 187 0 = .loop bodyF := by kernel_rfl
theorem okL (x0 : Value) (a b n i l h : Int) : okSt (SLs x0 a b n i l h) = true := by kernel_rfl
theorem okR (x0 : Value) (a b n i : Int) : okSt (SRs x0 a b n i) = true := by kernel_rfl
theorem okA (x0 : Value) (a b n i : Int) : okSt (SAs x0 a b n i) = true := by kernel_rfl
theorem okF (v n : Int) : okSt (SFs v n) = true := by kernel_rfl
theorem lokL : LOk Tryz.prog LtL := by
  refine lok_one fun s K hF => ?_
  unfold FL at hF
  split at hF
  · rename_i x0 n t a b r
    obtain ⟨hs, ⟨⟨ha, hb⟩, hab, hn⟩, hK⟩ := hF
    obtain ⟨e, s', h, hl⟩ := loopL x0 a b n ha hb hab hn
    have fin : Xc.SW Tryz.prog (blk Tryz.prog 126 0) ⟨.v x0 :: .v (.int .i64 n) :: t, [[.v (.int .u64 a), .v (.int .u64 b)], r]⟩ e s' := by
      rw [blkL]
      refine keep_pre (ks := [0, 1, 2, 4, 5]) (n := 100) (show 2 ≤ 100 by decide) (by rw [hs]; exact okL _ _ _ _ _ _ _) ?_
      rw [hs]; exact lw_of hl
    rcases h with ⟨h, rfl, rfl⟩ | ⟨h, a', b', i, rfl, rfl⟩
    · rw [show ulo b n = true from decide_eq_true h] at hK
      exact ⟨_, _, hK, fin⟩
    · rw [show ulo b n = false from decide_eq_false h] at hK
      exact ⟨_, _, hK a' b' i, fin⟩
  · exact hF.elim
theorem lokR : LOk Tryz.prog LtR := by
  refine lok_one fun s K hF => ?_
  unfold FR at hF
  split at hF
  · rename_i x0 n t a b r
    obtain ⟨hs, ⟨⟨ha, hb⟩, hn⟩, hK⟩ := hF
    refine ⟨_, _, hK, ?_⟩
    rw [blkR]
    refine keep_pre (ks := [0, 1, 2, 4, 5]) (n := 100) (show 2 ≤ 100 by decide) (by rw [hs]; exact okR _ _ _ _ _) ?_
    rw [hs]; exact lw_of (loopR x0 a b n ha hb hn)
  · exact hF.elim
theorem lokA : LOk Tryz.prog LtA := by
  refine lok_one fun s K hF => ?_
  unfold FA at hF
  split at hF
  · rename_i x0 n t a b r
    obtain ⟨hs, ⟨⟨ha, hb⟩, hn⟩, hK⟩ := hF
    refine ⟨_, _, hK, ?_⟩
    rw [blkA]
    refine keep_pre (ks := [0, 1, 2, 4, 5]) (n := 100) (show 2 ≤ 100 by decide) (by rw [hs]; exact okA _ _ _ _ _) ?_
    rw [hs]; exact lw_of (loopA x0 a b n ha hb hn)
  · exact hF.elim
theorem lokF : LOk Tryz.prog LtF := by
  refine lok_one fun s K hF => ?_
  unfold FF at hF
  split at hF
  · rename_i v t
    obtain ⟨hs, hv, hK⟩ := hF
    obtain ⟨k, hk, hl⟩ := loopF v hv
    unfold fl at hK
    rw [kpf_eq hk] at hK
    refine ⟨_, _, hK, ?_⟩
    rw [blkF]
    refine keep_pre (ks := [0, 2, 3]) (n := 100) (show 0 ≤ 100 by decide) (by rw [hs]; exact okF _ _) ?_
    rw [hs]; exact lw_of hl
  · exact hF.elim
def ulL (a b n : Int) : Int := bif ulo b n then up a n else 0
def ulH (a b n : Int) : Int := bif ulo b n then up b n else 18446744073709551615
theorem cnt {n : Int} (h : i6 n) (k : IntKind) (hk : IntKind.bits k = 64) : min (Int.toNat (Go.bits .and .i64 n 63)) (IntKind.bits k) = sh n := by
  rw [and63 h, hk]
  have := sh_lt n
  omega
theorem obc {n : Int} (h : i6 n) : decide (0 ≤ Go.bits .and .i64 n 63) = true := by rw [and63 h]; exact decide_eq_true (by omega)
section
variable {a b n : Int} {K : Value → Prop}
theorem rULc (ha : u6 a) (hb : u6 b) (hab : a ≤ b) (hn : i6 n) (h : K (T2 (ulL a b n) (ulH a b n))) : nULc a b n K := by
  rw [nULc_eq]
  simp only [cnt hn .u64 rfl, obc hn]
  repeat (first | with_reducible refine ob_self ?_ | with_reducible refine ob_true ?_)
  have hp := pw_pos (sh n)
  have n2 := Int.mul_le_mul_of_nonneg_right hab (Int.le_of_lt hp)
  unfold u6 at ha hb
  have n1 := Int.mul_nonneg ha.1 (Int.le_of_lt hp)
  unfold ulL ulH at h
  by_cases q : b * 2 ^ sh n < 18446744073709551616
  · rw [show ulo b n = true from decide_eq_true q] at h
    have e : IntKind.wrap .u64 (b * 2 ^ sh n) = b * 2 ^ sh n := by rw [uW]; omega
    have e2 : IntKind.wrap .u64 (a * 2 ^ sh n) = a * 2 ^ sh n := by rw [uW]; omega
    rw [e, e2, Int.mul_ediv_cancel _ (by omega)]
    refine br_no (bne_self_eq_false b) ?_
    repeat (first | with_reducible refine ob_self ?_ | with_reducible refine ob_true ?_)
    exact h
  · rw [show ulo b n = false from decide_eq_false q] at h
    refine br_yes ?_ h
    rw [bne_iff_ne]
    intro e
    have h1 := Int.ediv_mul_le (IntKind.wrap .u64 (b * 2 ^ sh n)) (show (2 : Int) ^ sh n ≠ 0 by omega)
    rw [e, uW] at h1
    omega
theorem rULr (ha : u6 a) (hb : u6 b) (hab : a ≤ b) (hn : i6 n) (h : K (T2 (ulL a b n) (ulH a b n))) : nULr a b n K := by
  rw [nULr_eq]
  refine ⟨rfl, rfl, ⟨⟨ha, hb⟩, hab, hn⟩, ?_⟩
  unfold ulL ulH at h
  refine br_cases (fun q => ?_) (fun q => fun _ _ _ => ?_)
  · rw [q] at h; exact h
  · rw [q] at h; exact h
theorem rURc (hn : i6 n) (h : K (T2 (dn a n) (dn b n))) : nURc a b n K := by
  rw [nURc_eq]
  simp only [cnt hn .u64 rfl, obc hn]
  repeat (first | with_reducible refine ob_self ?_ | with_reducible refine ob_true ?_)
  exact h
theorem rURr (ha : u6 a) (hb : u6 b) (hn : i6 n) (h : K (T2 (dn a n) (dn b n))) : nURr a b n K := by
  rw [nURr_eq]
  exact ⟨rfl, rfl, ⟨⟨ha, hb⟩, hn⟩, h⟩
theorem rSRc (hn : i6 n) (h : K (S2 (dn a n) (dn b n))) : nSRc a b n K := by
  rw [nSRc_eq]
  simp only [cnt hn .i64 rfl, obc hn]
  repeat (first | with_reducible refine ob_self ?_ | with_reducible refine ob_true ?_)
  exact h
theorem rSRr (ha : i6 a) (hb : i6 b) (hn : i6 n) (h : K (S2 (dn a n) (dn b n))) : nSRr a b n K := by
  rw [nSRr_eq]
  exact ⟨rfl, rfl, ⟨⟨ha, hb⟩, hn⟩, h⟩
theorem rFu (ha : u6 a) (h : K (.int .u64 (fl a))) : nFu a K := by
  rw [nFu_eq]
  exact ⟨rfl, rfl, ha, h⟩
end
theorem KP0i {v : Int} (hv : u6 v) {k : Nat} (h : KP v 0 k) : v < 2 ^ k ∧ ∀ i, i < k → 2 ^ i ≤ v := by
  unfold u6 at hv
  constructor
  · have e := h.eq
    rw [Int.zero_ediv] at e
    have hp := pw_pos k
    have := Int.lt_ediv_add_one_mul_self v hp
    rw [e] at this; omega
  · intro i hi
    have n := h.ne i hi
    rw [Int.zero_ediv] at n
    have hp := pw_pos i
    refine Classical.byContradiction fun q => n (Int.ediv_eq_zero_of_lt hv.1 (by omega))
/-- All bits up to the highest of one or the other. -/
theorem fl_or {b d : Int} (hb : u6 b) (hd : u6 d) : fl (Go.bits .or .u64 b d) = if fl d > fl b then fl d else fl b := by
  obtain ⟨B, rfl⟩ := exu hb
  obtain ⟨D, rfl⟩ := exu hd
  rw [b_or, ofInt_U, ofInt_U]
  obtain ⟨kb, hkb, _⟩ := loopF (U B) hb
  obtain ⟨kd, hkd, _⟩ := loopF (U D) hd
  have ho : u6 (U (B ||| D)) := ⟨U_nonneg _, U_lt _⟩
  obtain ⟨b1, b2⟩ := KP0i hb hkb
  obtain ⟨d1, d2⟩ := KP0i hd hkd
  have pn : ∀ k : Nat, ((2 ^ k : Nat) : Int) = (2 : Int) ^ k := fun k => by simp
  have hor : KP (U (B ||| D)) 0 (max kb kd) := by
    refine KP0 ho (Nat.max_le.mpr ⟨hkb.le, hkd.le⟩) ?_ ?_
    · have hB : B.toNat < 2 ^ max kb kd := Nat.lt_of_lt_of_le (by have := pn kb; unfold U at b1; omega) (Nat.pow_le_pow_right (by decide) (Nat.le_max_left ..))
      have hD : D.toNat < 2 ^ max kb kd := Nat.lt_of_lt_of_le (by have := pn kd; unfold U at d1; omega) (Nat.pow_le_pow_right (by decide) (Nat.le_max_right ..))
      have := Nat.or_lt_two_pow hB hD
      rw [← BitVec.toNat_or] at this
      have := pn (max kb kd)
      unfold U; omega
    · intro i hi
      have e1 : B.toNat ≤ (B ||| D).toNat := by rw [BitVec.toNat_or]; exact Nat.left_le_or
      have e2 : D.toNat ≤ (B ||| D).toNat := by rw [BitVec.toNat_or]; exact Nat.right_le_or
      unfold U at b2 d2 ⊢
      by_cases q : i < kb
      · have := b2 i q; omega
      · have := d2 i (by omega); omega
  unfold fl
  rw [kpf_eq hor, kpf_eq hkb, kpf_eq hkd]
  by_cases q : kb < kd
  · have : (2 : Int) ^ kb < 2 ^ kd := by
      have := Nat.pow_lt_pow_right (show 1 < 2 by decide) q
      have h1 := pn kb
      have h2 := pn kd
      omega
    rw [Nat.max_eq_right (by omega), if_pos (by omega)]
  · have : (2 : Int) ^ kd ≤ 2 ^ kb := by
      have := Nat.pow_le_pow_right (show 0 < 2 by decide) (show kd ≤ kb by omega)
      have h1 := pn kb
      have h2 := pn kd
      omega
    rw [Nat.max_eq_left (by omega), if_neg (by omega)]
def uoL' (a b c d : Int) : Int := if a = b ∧ c = d then Go.bits .or .u64 a c else if c > a then c else a
noncomputable def uoH' (a b c d : Int) : Int := if a = b ∧ c = d then Go.bits .or .u64 a c else fl (Go.bits .or .u64 b d)
section
variable {a b c d : Int} {K : Value → Prop}
theorem u6_or (x y : Int) : u6 (Go.bits .or .u64 x y) := by rw [b_or]; exact ⟨U_nonneg _, U_lt _⟩
theorem rUOc (h : K (T2 (uoL' a b c d) (uoH' a b c d))) : nUOc a b c d K := by
  rw [nUOc_eq]
  unfold uoL' uoH' at h
  repeat (first | with_reducible refine ob_self ?_ | with_reducible refine ob_true ?_)
  refine nm_intro fun r hr => ?_
  subst hr
  refine br_cases (fun q => ?_) (fun q => ?_)
  · simp only [Bool.cond_false_right, Bool.and_eq_true, beq_iff_eq] at q
    rw [if_pos q, if_pos q] at h; exact h
  · have q : ¬ (a = b ∧ c = d) := by
      intro e
      simp [e.1, e.2] at q
    rw [if_neg q, if_neg q] at h
    exact ⟨u6_or _ _, nm_intro fun r hr => by subst hr; exact h⟩
theorem rUOr (hb : u6 b) (hd : u6 d) (h : K (T2 (uoL' a b c d) (uoH' a b c d))) : nUOr a b c d K := by
  rw [nUOr_eq]
  unfold uoL' uoH' at h
  repeat (first | with_reducible refine ob_self ?_ | with_reducible refine ob_true ?_)
  refine nm_intro fun r hr => ?_
  subst hr
  refine br_cases (fun q => ?_) (fun q => ?_)
  · simp only [Bool.cond_false_right, Bool.and_eq_true, beq_iff_eq] at q
    rw [if_pos q, if_pos q] at h; exact h
  · have q : ¬ (a = b ∧ c = d) := by
      intro e
      simp [e.1, e.2] at q
    rw [if_neg q, if_neg q, fl_or hb hd] at h
    refine ⟨hb, nm_intro fun r hr => ?_⟩
    subst hr
    refine br_cases (fun q1 => ?_) (fun q1 => ?_)
    · rw [if_pos (of_decide_eq_true q1)] at h
      refine ⟨hd, nm_intro fun r hr => ?_⟩
      subst hr
      refine br_cases (fun q2 => ?_) (fun q2 => ?_)
      · rw [if_pos (of_decide_eq_true q2)] at h
        exact ⟨hd, nm_intro fun r hr => by subst hr; exact h⟩
      · rw [if_neg (of_decide_eq_false q2)] at h; exact h
    · rw [if_neg (of_decide_eq_false q1)] at h
      refine ⟨hd, nm_intro fun r hr => ?_⟩
      subst hr
      refine br_cases (fun q2 => ?_) (fun q2 => ?_)
      · rw [if_pos (of_decide_eq_true q2)] at h
        exact ⟨hd, nm_intro fun r hr => by subst hr; exact h⟩
      · rw [if_neg (of_decide_eq_false q2)] at h; exact h
end
end Go.Proofs.YtceclodenhgoeaaGreat.Zdg
end
section
/- Layer 5, against the reference: parts that are settled, on both sides, run. -/
namespace Go.Proofs.YtceclodenhgoeaaGreat.Zdh
open Go Go.RowKit Go.Proofs Go.Proofs.YtceclodenhgoeaaGreat.Xc Go.Proofs.YtceclodenhgoeaaGreat.Zs Go.Proofs.YtceclodenhgoeaaGreat.Zk Go.Proofs.YtceclodenhgoeaaGreat.Zo Go.Proofs.YtceclodenhgoeaaGreat.Zq Go.Proofs.YtceclodenhgoeaaGreat.Zu Go.Proofs.YtceclodenhgoeaaGreat.Zbf Go.Proofs.YtceclodenhgoeaaGreat.Zbi Go.Proofs.YtceclodenhgoeaaGreat.Zbj Go.Proofs.YtceclodenhgoeaaGreat.Zbm Go.Proofs.YtceclodenhgoeaaGreat.Zcf Go.Proofs.YtceclodenhgoeaaGreat.Zdb
set_option maxRecDepth 100000
set_option linter.unusedVariables false
/-- The lowest 32 bits. -/
def lo32 (a : Int) : Int := a % 4294967296
/-- A span of numbers. -/
structure LH (l h : Int) : Prop where
  pl : u6 l
  ph : u6 h
  le : l ≤ h
def cTc (vs : List Value) (K : Value → Prop) : Prop := match vs with
  | [.agg ⟨[.int .u64 a, .int .u64 b]⟩, .int .i64 4] => need (dj a b) (nm (lo32 a) fun x => nm (lo32 b) fun y => im (dj x y) (K (T2 x y)))
  | _ => False
def cUc (vs : List Value) (K : Value → Prop) : Prop := match vs with
  | [.agg ⟨[.int .u64 c, .int .u64 d]⟩] => need (LH c d) (nm (ucL c d) fun l => nm (ucH c d) fun h => im (LH l h) (K (T2 l h)))
  | _ => False
noncomputable abbrev TSe : Tab := [(92, cTc), (93, cUc), (123, cTc), (124, cUc), (15, cNo), (16, cNo)]
def nTcC (a b : Int) (K : Value → Prop) : Prop := run Tryz.prog [] EEk true 90 92 [T2 a b, .int .i64 4] K
theorem nTcC_eq (a b : Int) (K : Value → Prop) : nTcC a b K = (ob true true (K (.agg (#[.int .u64 (Go.bits .andNot .u64 a (IntKind.wrap .u64 (18446744073709551615 * 2 ^ min (Int.toNat (IntKind.wrap .i64 (8 * 4))) (IntKind.bits .u64)))), .int .u64 (Go.bits .andNot .u64 b (IntKind.wrap .u64 (18446744073709551615 * 2 ^ min (Int.toNat (IntKind.wrap .i64 (8 * 4))) (IntKind.bits .u64))))])))) := by kernel_rfl
def nTcR (a b : Int) (K : Value → Prop) : Prop := run Tryz.prog [] EEk true 90 123 [T2 a b, .int .i64 4] K
theorem nTcR_eq (a b : Int) (K : Value → Prop) : nTcR a b K = (ob true true (K (.agg (#[.int .u64 (Go.bits .and .u64 a (IntKind.wrap .u64 (IntKind.wrap .u64 (1 * 2 ^ min (Int.toNat (IntKind.wrap .u64 (IntKind.wrap .i64 (8 * 4)))) (IntKind.bits .u64)) - 1))), .int .u64 (Go.bits .and .u64 b (IntKind.wrap .u64 (IntKind.wrap .u64 (1 * 2 ^ min (Int.toNat (IntKind.wrap .u64 (IntKind.wrap .i64 (8 * 4)))) (IntKind.bits .u64)) - 1)))])))) := by kernel_rfl
def nSeCw (a b c d e f : Int) (K : Value → Prop) : Prop := run Tryz.prog TSe EEk true 90 32 [Sc a b c d e f, .bool true] K
theorem nSeCw_eq (a b c d e f : Int) (K : Value → Prop) : nSeCw a b c d e f K = (need (Zbm.MayQ a b c d e f) (nm (Zbj.nz a b c d e f) fun r => br (Zbj.NR.ok r) (K (.agg (#[.int .u64 (Zbj.NR.a r), .int .u64 (Zbj.NR.b r), .int .u64 (Zbj.NR.c r), .int .u64 (Zbj.NR.d r), .int .i64 (Zbj.NR.e r), .int .i64 (Zbj.NR.f r)]))) (K (.agg (#[.int .u64 0, .int .u64 18446744073709551615, .int .u64 0, .int .u64 18446744073709551615, .int .i64 (-9223372036854775808), .int .i64 9223372036854775807]))))) := by kernel_rfl
def nSeCn (a b c d e f : Int) (K : Value → Prop) : Prop := run Tryz.prog TSe EEk true 90 32 [Sc a b c d e f, .bool false] K
theorem nSeCn_eq (a b c d e f : Int) (K : Value → Prop) : nSeCn a b c d e f K = (need (Zbf.dj a b) (nm (Zdh.lo32 a) fun r => nm (Zdh.lo32 b) fun r_1 => im (Zbf.dj r r_1) (need (Zdh.LH c d) (nm (Zdb.ucL c d) fun r_2 => nm (Zdb.ucH c d) fun r_3 => im (Zdh.LH r_2 r_3) (need (Zbm.MayQ r r_1 r_2 r_3 (-9223372036854775808) 9223372036854775807) (nm (Zbj.nz r r_1 r_2 r_3 (-9223372036854775808) 9223372036854775807) fun r => br (Zbj.NR.ok r) (K (.agg (#[.int .u64 (Zbj.NR.a r), .int .u64 (Zbj.NR.b r), .int .u64 (Zbj.NR.c r), .int .u64 (Zbj.NR.d r), .int .i64 (Zbj.NR.e r), .int .i64 (Zbj.NR.f r)]))) (ob true true (K (.agg (#[.int .u64 0, .int .u64 4294967295, .int .u64 0, .int .u64 4294967295, .int .i64 0, .int .i64 4294967295])))))))))) := by kernel_rfl
def nSeRw (a b c d e f : Int) (K : Value → Prop) : Prop := run Tryz.prog TSe EEk true 90 37 [Sc a b c d e f, .bool true] K
theorem nSeRw_eq (a b c d e f : Int) (K : Value → Prop) : nSeRw a b c d e f K = (need (Zbm.MayQ a b c d e f) (nm (Zbj.nz a b c d e f) fun r => br (!Zbj.NR.ok r) (K (.agg (#[.int .u64 0, .int .u64 18446744073709551615, .int .u64 0, .int .u64 18446744073709551615, .int .i64 (-9223372036854775808), .int .i64 9223372036854775807]))) (K (.agg (#[.int .u64 (Zbj.NR.a r), .int .u64 (Zbj.NR.b r), .int .u64 (Zbj.NR.c r), .int .u64 (Zbj.NR.d r), .int .i64 (Zbj.NR.e r), .int .i64 (Zbj.NR.f r)]))))) := by kernel_rfl
def nSeRn (a b c d e f : Int) (K : Value → Prop) : Prop := run Tryz.prog TSe EEk true 90 37 [Sc a b c d e f, .bool false] K
theorem nSeRn_eq (a b c d e f : Int) (K : Value → Prop) : nSeRn a b c d e f K = (need (Zbf.dj a b) (nm (Zdh.lo32 a) fun r => nm (Zdh.lo32 b) fun r_1 => im (Zbf.dj r r_1) (need (Zdh.LH c d) (nm (Zdb.ucL c d) fun r_2 => nm (Zdb.ucH c d) fun r_3 => im (Zdh.LH r_2 r_3) (need (Zbm.MayQ r r_1 r_2 r_3 (-9223372036854775808) 9223372036854775807) (nm (Zbj.nz r r_1 r_2 r_3 (-9223372036854775808) 9223372036854775807) fun r => br (!Zbj.NR.ok r) (ob true true (K (.agg (#[.int .u64 0, .int .u64 4294967295, .int .u64 0, .int .u64 4294967295, .int .i64 0, .int .i64 4294967295])))) (K (.agg (#[.int .u64 (Zbj.NR.a r), .int .u64 (Zbj.NR.b r), .int .u64 (Zbj.NR.c r), .int .u64 (Zbj.NR.d r), .int .i64 (Zbj.NR.e r), .int .i64 (Zbj.NR.f r)]))))))))) := by kernel_rfl
def nHa (a b c d e f : Int) (K : Value → Prop) : Prop := run Tryz.prog TSe EEk true 90 36 [Sc a b c d e f] K
theorem nHa_eq (a b c d e f : Int) (K : Value → Prop) : nHa a b c d e f K = (need (Zbf.dj a b) (nm (Zdh.lo32 a) fun r => nm (Zdh.lo32 b) fun r_1 => im (Zbf.dj r r_1) (need (Zdh.LH c d) (nm (Zdb.ucL c d) fun r_2 => nm (Zdb.ucH c d) fun r_3 => im (Zdh.LH r_2 r_3) (need (Zbm.MayQ r r_1 r_2 r_3 (-9223372036854775808) 9223372036854775807) (nm (Zbj.nz r r_1 r_2 r_3 (-9223372036854775808) 9223372036854775807) fun r => br (!Zbj.NR.ok r) (ob true true (K (.agg (#[.int .u64 0, .int .u64 4294967295, .int .u64 0, .int .u64 4294967295, .int .i64 0, .int .i64 4294967295])))) (K (.agg (#[.int .u64 (Zbj.NR.a r), .int .u64 (Zbj.NR.b r), .int .u64 (Zbj.NR.c r), .int .u64 (Zbj.NR.d r), .int .i64 (Zbj.NR.e r), .int .i64 (Zbj.NR.f r)]))))))))) := by kernel_rfl
end Go.Proofs.YtceclodenhgoeaaGreat.Zdh
end
section
/- Layer 5, against the reference: what is settled is the same on both sides, and may be. -/
namespace Go.Proofs.YtceclodenhgoeaaGreat.Zdi
open Go Go.RowKit Go.Proofs Go.Proofs.YtceclodenhgoeaaGreat.Xc Go.Proofs.YtceclodenhgoeaaGreat.Zs Go.Proofs.YtceclodenhgoeaaGreat.Zk Go.Proofs.YtceclodenhgoeaaGreat.Zo Go.Proofs.YtceclodenhgoeaaGreat.Zq Go.Proofs.YtceclodenhgoeaaGreat.Zu Go.Proofs.YtceclodenhgoeaaGreat.Zv Go.Proofs.YtceclodenhgoeaaGreat.Zbc Go.Proofs.YtceclodenhgoeaaGreat.Zbf Go.Proofs.YtceclodenhgoeaaGreat.Zbh Go.Proofs.YtceclodenhgoeaaGreat.Zbi Go.Proofs.YtceclodenhgoeaaGreat.Zbj Go.Proofs.YtceclodenhgoeaaGreat.Zbm Go.Proofs.YtceclodenhgoeaaGreat.Zcf Go.Proofs.YtceclodenhgoeaaGreat.Zdb Go.Proofs.YtceclodenhgoeaaGreat.Zdc Go.Proofs.YtceclodenhgoeaaGreat.Zdh Go.Proofs.YtceclodenhgoeaaGreat.Bv
set_option linter.unusedVariables false
set_option linter.unusedSimpArgs false
/-- A scalar that may be. -/
structure MZ (a b c d e f : Int) : Prop where
  m : MayQ a b c d e f
  ie : i6 e
  jf : i6 f
theorem i6_w (x : Int) : i6 (IntKind.wrap .i64 x) := by unfold i6; rw [isw]; omega
theorem i6_mx {x y : Int} (h : i6 x) (k : i6 y) : i6 (mxi x y) := by unfold mxi i6 at *; omega
theorem i6_mn {x y : Int} (h : i6 x) (k : i6 y) : i6 (mni x y) := by unfold mni i6 at *; omega
theorem i6_tsL (a b : Int) : i6 (tsL a b) := by
  unfold tsL; split
  · unfold i6; omega
  · exact i6_w _
theorem i6_tsH (a b : Int) : i6 (tsH a b) := by
  unfold tsH; split
  · unfold i6; omega
  · exact i6_w _
theorem i6_fsL (a b : Int) : i6 (fsL a b) := by
  unfold fsL; split <;> exact i6_w _
theorem i6_fsH (a b : Int) : i6 (fsH a b) := by
  unfold fsH; split <;> exact i6_w _
theorem stp_ok {l h : Int} {k : Int → Int → NR} (q : (stp l h k).ok = true) : lei l h = true ∧ stp l h k = k l h := by
  unfold stp at q ⊢
  cases e : lei l h with
  | true => exact ⟨rfl, rfl⟩
  | false => rw [e] at q; exact absurd q (show ¬ bad.ok = true by decide)
theorem stm_ok {b : Bool} {v m : Int} {k : Int → Int → NR} (q : (stm b v m k).ok = true) : stm b v m k = k v m := by
  unfold stm at q ⊢
  cases b with
  | true => rfl
  | false => exact absurd q (show ¬ bad.ok = true by decide)
theorem once_inv {a b c d e f : Int} {k : Int → Int → Int → Int → Int → Int → NR} (hd : dj a b) (hc : u6 c) (hu : u6 d) (he : i6 e) (hf : i6 f) (q : (onceK a b c d e f k).ok = true) :
    ∃ v m l h s t, onceK a b c d e f k = k v m l h s t ∧ MZ v m l h s t := by
  unfold onceK at q ⊢
  obtain ⟨q1, e1⟩ := stp_ok q
  rw [e1] at q ⊢
  obtain ⟨q2, e2⟩ := stp_ok q
  rw [e2] at q ⊢
  obtain ⟨q3, e3⟩ := stp_ok q
  rw [e3] at q ⊢
  obtain ⟨q4, e4⟩ := stp_ok q
  rw [e4] at q ⊢
  have e5 := stm_ok q
  rw [e5]
  have u1 := u6_mx (u6_mx hc (u6_tuL e f)) (dj_u hd).1
  have v1 : u6 (mni (mni d (tuH e f)) (fuH a b)) := u6_mn (u6_mn hu (u6_tuH _ _)) (u6_w _)
  exact ⟨_, _, _, _, _, _, rfl, ⟨⟨(me_dj hd (dj_tt u1 v1)).1, u1, v1, le_of q2, le_of q4⟩, i6_mx (i6_mx he (i6_tsL _ _)) (i6_fsL _ _), i6_mn (i6_mn hf (i6_tsH _ _)) (i6_fsH _ _)⟩⟩
theorem nz_may {a b c d e f : Int} (h : MZ a b c d e f) (q : (nz a b c d e f).ok = true) : MZ (nz a b c d e f).a (nz a b c d e f).b (nz a b c d e f).c (nz a b c d e f).d (nz a b c d e f).e (nz a b c d e f).f := by
  unfold nz at q ⊢
  obtain ⟨v, m, l, h1, s, t, e1, M1⟩ := once_inv h.m.dj h.m.uc h.m.ud h.ie h.jf q
  rw [e1] at q ⊢
  obtain ⟨v, m, l, h1, s, t, e2, M2⟩ := once_inv M1.m.dj M1.m.uc M1.m.ud M1.ie M1.jf q
  rw [e2]
  exact M2
/-- Six numbers. -/
structure SR where
  a : Int
  b : Int
  c : Int
  d : Int
  e : Int
  f : Int
abbrev SR.v (r : SR) : Value := Sc r.a r.b r.c r.d r.e r.f
def SR.M (r : SR) : Prop := MZ r.a r.b r.c r.d r.e r.f
/-- Parts, settled: of 64 bits; of 32. -/
noncomputable def slW (a b c d e f : Int) : SR := bif (nz a b c d e f).ok then ⟨(nz a b c d e f).a, (nz a b c d e f).b, (nz a b c d e f).c, (nz a b c d e f).d, (nz a b c d e f).e, (nz a b c d e f).f⟩ else ⟨0, 18446744073709551615, 0, 18446744073709551615, -9223372036854775808, 9223372036854775807⟩
noncomputable def nzN (a b c d : Int) : NR := nz (lo32 a) (lo32 b) (ucL c d) (ucH c d) (-9223372036854775808) 9223372036854775807
noncomputable def slN (a b c d : Int) : SR := bif (nzN a b c d).ok then ⟨(nzN a b c d).a, (nzN a b c d).b, (nzN a b c d).c, (nzN a b c d).d, (nzN a b c d).e, (nzN a b c d).f⟩ else ⟨0, 4294967295, 0, 4294967295, 0, 4294967295⟩
theorem dj0m {v : Int} (h : u6 v) : dj 0 v := by
  obtain ⟨V, rfl⟩ := exu h
  exact ⟨0#64, V, rfl, rfl, by simp⟩
theorem mz_any : MZ 0 18446744073709551615 0 18446744073709551615 (-9223372036854775808) 9223372036854775807 :=
  ⟨⟨dj0m (by unfold u6; omega), by unfold u6; omega, by unfold u6; omega, by omega, by omega⟩, by unfold i6; omega, by unfold i6; omega⟩
theorem mz_half : MZ 0 4294967295 0 4294967295 0 4294967295 :=
  ⟨⟨dj0m (by unfold u6; omega), by unfold u6; omega, by unfold u6; omega, by omega, by omega⟩, by unfold i6; omega, by unfold i6; omega⟩
theorem dj_lo {a b : Int} (h : dj a b) : dj (lo32 a) (lo32 b) := by
  obtain ⟨A, B, rfl, rfl, hd⟩ := h
  have e : ∀ X : W, lo32 (U X) = U (X &&& 4294967295#64) := fun X => by
    unfold lo32 U
    rw [BitVec.toNat_and, show (4294967295#64).toNat = 2 ^ 32 - 1 from rfl, Nat.and_two_pow_sub_one_eq_mod]
    omega
  refine ⟨A &&& 4294967295#64, B &&& 4294967295#64, e A, e B, ?_⟩
  apply BitVec.eq_of_getLsbD_eq; intro i hi
  have := congrArg (fun x : W => x.getLsbD i) hd
  simp only [BitVec.getLsbD_and, BitVec.getLsbD_zero] at this ⊢
  generalize A.getLsbD i = p at *; generalize B.getLsbD i = q at *; generalize (4294967295#64).getLsbD i = r
  cases p <;> cases q <;> cases r <;> first | rfl | exact absurd this (by decide)
theorem lh_uc {c d : Int} (h : LH c d) : LH (ucL c d) (ucH c d) := by
  obtain ⟨h1, h2, h3⟩ := h
  unfold u6 at h1 h2
  unfold ucL ucH
  split
  · exact ⟨by unfold u6; omega, by unfold u6; omega, by omega⟩
  · exact ⟨by unfold u6; omega, by unfold u6; omega, by omega⟩
theorem mz_lo {a b c d e f : Int} (h : MayQ a b c d e f) : MZ (lo32 a) (lo32 b) (ucL c d) (ucH c d) (-9223372036854775808) 9223372036854775807 := by
  have k := lh_uc ⟨h.uc, h.ud, h.cd⟩
  exact ⟨⟨dj_lo h.dj, k.pl, k.ph, k.le, by omega⟩, by unfold i6; omega, by unfold i6; omega⟩
theorem slW_M {a b c d e f : Int} (h : MZ a b c d e f) : (slW a b c d e f).M := by
  unfold slW SR.M
  cases q : (nz a b c d e f).ok with
  | true => exact nz_may h q
  | false => exact mz_any
theorem slN_M {a b c d e f : Int} (h : MayQ a b c d e f) : (slN a b c d).M := by
  unfold slN SR.M
  cases q : (nzN a b c d).ok with
  | true => exact nz_may (mz_lo h) q
  | false => exact mz_half
section
variable {a b c d e f : Int} {K : Value → Prop}
theorem rTcR (ha : u6 a) (hb : u6 b) (h : K (T2 (lo32 a) (lo32 b))) : nTcR a b K := by
  rw [nTcR_eq]
  refine ob_true ?_
  rw [show IntKind.wrap .u64 (IntKind.wrap .u64 (1 * 2 ^ min (Int.toNat (IntKind.wrap .u64 (IntKind.wrap .i64 (8 * 4)))) (IntKind.bits .u64)) - 1) = 4294967295 by decide +kernel, and32 ha, and32 hb]
  exact h
theorem andn32 {x : Int} (h : u6 x) : Go.bits .andNot .u64 x 18446744069414584320 = x % 4294967296 := by
  rw [← and32 h]
  obtain ⟨X, rfl⟩ := exu h
  rw [b_andNot, b_and]
  congr 1
theorem rTcC (ha : u6 a) (hb : u6 b) (h : K (T2 (lo32 a) (lo32 b))) : nTcC a b K := by
  rw [nTcC_eq]
  refine ob_true ?_
  rw [show IntKind.wrap .u64 (18446744073709551615 * 2 ^ min (Int.toNat (IntKind.wrap .i64 (8 * 4))) (IntKind.bits .u64)) = 18446744069414584320 by decide +kernel, andn32 ha, andn32 hb]
  exact h
theorem rSeCw (h : MayQ a b c d e f) (k : K (slW a b c d e f).v) : nSeCw a b c d e f K := by
  rw [nSeCw_eq]
  refine ⟨h, nm_intro fun r hr => ?_⟩
  subst hr
  unfold slW at k
  refine br_cases (fun q => ?_) (fun q => ?_)
  · rw [q] at k; exact k
  · rw [q] at k; exact k
theorem rSeRw (h : MayQ a b c d e f) (k : K (slW a b c d e f).v) : nSeRw a b c d e f K := by
  rw [nSeRw_eq]
  refine ⟨h, nm_intro fun r hr => ?_⟩
  subst hr
  unfold slW at k
  refine br_cases (fun q => ?_) (fun q => ?_)
  · rw [show (nz a b c d e f).ok = false by simpa using q] at k; exact k
  · rw [show (nz a b c d e f).ok = true by simpa using q] at k; exact k
theorem rSeCn (h : MayQ a b c d e f) (k : K (slN a b c d).v) : nSeCn a b c d e f K := by
  rw [nSeCn_eq]
  unfold slN nzN at k
  refine ⟨h.dj, nm_intro fun r hr => nm_intro fun r' hr' => ?_⟩
  subst hr; subst hr'
  refine fun hd => ⟨⟨h.uc, h.ud, h.cd⟩, nm_intro fun r hr => nm_intro fun r' hr' => ?_⟩
  subst hr; subst hr'
  refine fun hl => ⟨(mz_lo h).m, nm_intro fun r hr => ?_⟩
  subst hr
  refine br_cases (fun q => ?_) (fun q => ?_)
  · rw [q] at k; exact k
  · rw [q] at k; exact ob_true k
theorem rHa (h : MayQ a b c d e f) (k : K (slN a b c d).v) : nHa a b c d e f K := by
  rw [nHa_eq]
  unfold slN nzN at k
  refine ⟨h.dj, nm_intro fun r hr => nm_intro fun r' hr' => ?_⟩
  subst hr; subst hr'
  refine fun hd => ⟨⟨h.uc, h.ud, h.cd⟩, nm_intro fun r hr => nm_intro fun r' hr' => ?_⟩
  subst hr; subst hr'
  refine fun hl => ⟨(mz_lo h).m, nm_intro fun r hr => ?_⟩
  subst hr
  refine br_cases (fun q => ?_) (fun q => ?_)
  · rw [show (nz (lo32 a) (lo32 b) (ucL c d) (ucH c d) (-9223372036854775808) 9223372036854775807).ok = false by simpa using q] at k; exact ob_true k
  · rw [show (nz (lo32 a) (lo32 b) (ucL c d) (ucH c d) (-9223372036854775808) 9223372036854775807).ok = true by simpa using q] at k; exact k
theorem rSeRn (h : MayQ a b c d e f) (k : K (slN a b c d).v) : nSeRn a b c d e f K := by
  rw [nSeRn_eq]
  unfold slN nzN at k
  refine ⟨h.dj, nm_intro fun r hr => nm_intro fun r' hr' => ?_⟩
  subst hr; subst hr'
  refine fun hd => ⟨⟨h.uc, h.ud, h.cd⟩, nm_intro fun r hr => nm_intro fun r' hr' => ?_⟩
  subst hr; subst hr'
  refine fun hl => ⟨(mz_lo h).m, nm_intro fun r hr => ?_⟩
  subst hr
  refine br_cases (fun q => ?_) (fun q => ?_)
  · rw [show (nz (lo32 a) (lo32 b) (ucL c d) (ucH c d) (-9223372036854775808) 9223372036854775807).ok = false by simpa using q] at k; exact ob_true k
  · rw [show (nz (lo32 a) (lo32 b) (ucL c d) (ucH c d) (-9223372036854775808) 9223372036854775807).ok = true by simpa using q] at k; exact k
end
end Go.Proofs.YtceclodenhgoeaaGreat.Zdi
end
section
/- Layer 5, against the reference: what the operations make of known bits, over bit vectors. -/
namespace Go.Proofs.YtceclodenhgoeaaGreat.Zdz
open Go Go.RowKit Go.Proofs Go.Proofs.YtceclodenhgoeaaGreat.Zu Go.Proofs.YtceclodenhgoeaaGreat.Zv Go.Proofs.YtceclodenhgoeaaGreat.Zbf Go.Proofs.YtceclodenhgoeaaGreat.Bv Go.Proofs.YtceclodenhgoeaaGreat.Tn
set_option linter.unusedVariables false
def tAdd (va ma vb mb : W) : W × W := ((va + vb) &&& ~~~ addMask va ma vb mb, addMask va ma vb mb)
def tSub (va ma vb mb : W) : W × W := ((va - vb) &&& ~~~ subMask va ma vb mb, subMask va ma vb mb)
def tAnd (va ma vb mb : W) : W × W := (va &&& vb, (va ||| ma) &&& (vb ||| mb) &&& ~~~(va &&& vb))
def tOr (va ma vb mb : W) : W × W := (va ||| vb, (ma ||| mb) &&& ~~~(va ||| vb))
def tXor (va ma vb mb : W) : W × W := ((va ^^^ vb) &&& ~~~(ma ||| mb), ma ||| mb)
def mulStep (av am bv bm : W) (s : W × W) : W × W := if av.getLsbD 0 then tAdd s.1 s.2 0 bm else if am.getLsbD 0 then tAdd s.1 s.2 0 (bv ||| bm) else s
def mulN : Nat → W → W → W → W → W × W → W × W
  | 0, _, _, _, _, s => s
  | n + 1, av, am, bv, bm, s => mulN n (av >>> 1) (am >>> 1) (bv <<< 1) (bm <<< 1) (mulStep av am bv bm s)
def tMul (av am bv bm : W) : W × W := tAdd (av * bv) 0 (mulN 64 av am bv bm (0, 0)).1 (mulN 64 av am bv bm (0, 0)).2
def oW (x : Int) : W := BitVec.ofInt 64 x
def tV (g : W → W → W → W → W × W) (a am b bm : Int) : Int := U (g (oW a) (oW am) (oW b) (oW bm)).1
def tM (g : W → W → W → W → W × W) (a am b bm : Int) : Int := U (g (oW a) (oW am) (oW b) (oW bm)).2
def sV (g : W → Nat → W) (a n : Int) : Int := U (g (oW a) n.toNat)
def gL (x : W) (n : Nat) : W := x <<< n
def gR (x : W) (n : Nat) : W := x >>> n
def gA (x : W) (n : Nat) : W := x.sshiftRight n
theorem dj_clear (x m : W) : dj (U (x &&& ~~~m)) (U m) := ⟨_, _, rfl, rfl, by
  apply BitVec.eq_of_getLsbD_eq; intro i hi
  simp only [BitVec.getLsbD_and, BitVec.getLsbD_not, BitVec.getLsbD_zero, hi, decide_true, Bool.true_and]
  cases x.getLsbD i <;> cases m.getLsbD i <;> rfl⟩
theorem dj_clear2 (x m : W) : dj (U x) (U (m &&& ~~~x)) := ⟨_, _, rfl, rfl, by
  apply BitVec.eq_of_getLsbD_eq; intro i hi
  simp only [BitVec.getLsbD_and, BitVec.getLsbD_not, BitVec.getLsbD_zero, hi, decide_true, Bool.true_and]
  cases x.getLsbD i <;> cases m.getLsbD i <;> rfl⟩
theorem dj_add (a am b bm : Int) : dj (tV tAdd a am b bm) (tM tAdd a am b bm) := dj_clear _ _
theorem dj_sub (a am b bm : Int) : dj (tV tSub a am b bm) (tM tSub a am b bm) := dj_clear _ _
theorem dj_and (a am b bm : Int) : dj (tV tAnd a am b bm) (tM tAnd a am b bm) := dj_clear2 _ _
theorem dj_or (a am b bm : Int) : dj (tV tOr a am b bm) (tM tOr a am b bm) := dj_clear2 _ _
theorem dj_xor (a am b bm : Int) : dj (tV tXor a am b bm) (tM tXor a am b bm) := dj_clear _ _
theorem dj_mul (a am b bm : Int) : dj (tV tMul a am b bm) (tM tMul a am b bm) := dj_clear _ _
theorem dj_L {a b : Int} (h : dj a b) (n : Int) : dj (sV gL a n) (sV gL b n) := by
  obtain ⟨A, B, rfl, rfl, hd⟩ := h
  refine ⟨_, _, rfl, rfl, ?_⟩
  unfold gL oW
  rw [ofInt_U, ofInt_U]
  apply BitVec.eq_of_getLsbD_eq; intro i hi
  have := congrArg (fun x : W => x.getLsbD (i - n.toNat)) hd
  simp only [BitVec.getLsbD_and, BitVec.getLsbD_shiftLeft, BitVec.getLsbD_zero, hi, decide_true, Bool.true_and] at this ⊢
  cases decide (i < n.toNat)
  · simpa using this
  · rfl
theorem dj_R {a b : Int} (h : dj a b) (n : Int) : dj (sV gR a n) (sV gR b n) := by
  obtain ⟨A, B, rfl, rfl, hd⟩ := h
  refine ⟨_, _, rfl, rfl, ?_⟩
  unfold gR oW
  rw [ofInt_U, ofInt_U, ← BitVec.ushiftRight_and_distrib, hd]; simp
theorem dj_A {a b : Int} (h : dj a b) (n : Int) : dj (sV gA a n) (sV gA b n) := by
  obtain ⟨A, B, rfl, rfl, hd⟩ := h
  refine ⟨_, _, rfl, rfl, ?_⟩
  unfold gA oW
  rw [ofInt_U, ofInt_U, ← BitVec.sshiftRight_and_distrib, hd]; simp
def gA32 (x : W) (n : Nat) : W := sar32 x n
theorem dj_A32 {a b : Int} (h : dj a b) (n : Int) : dj (sV gA32 a n) (sV gA32 b n) := by
  obtain ⟨A, B, rfl, rfl, hd⟩ := h
  refine ⟨_, _, rfl, rfl, ?_⟩
  unfold gA32 oW sar32
  rw [ofInt_U, ofInt_U]
  have e : up ((lo A).sshiftRight n.toNat) &&& up ((lo B).sshiftRight n.toNat) = up ((lo A &&& lo B).sshiftRight n.toNat) := by
    rw [BitVec.sshiftRight_and_distrib]
    unfold up; rw [BitVec.setWidth_and]
  have z : lo A &&& lo B = 0 := by
    unfold lo; rw [← BitVec.setWidth_and, hd]; rfl
  rw [e, z]
  unfold up; simp
end Go.Proofs.YtceclodenhgoeaaGreat.Zdz
end
